/- A row that is rewritten place by place; and what the last loop of Improve makes of the rows. -/
import Derived.Test.YtignlfcjlbijaaaId
namespace Go.Proofs.Ytignlfcjlbijaaa
open Go.RowKit

/-- a row whose first k places are already those of A, the others still those of B -/
def tk {α : Type} (A B : List α) (k : Nat) : List α := A.take k ++ B.drop k
section
variable {α : Type} {A B : List α} {k : Nat}
theorem tk_len (h : A.length = B.length) (hk : k ≤ A.length) : (tk A B k).length = A.length := by simp [tk]; omega
theorem tk_zero : tk A B 0 = B := by simp [tk]
theorem tk_end (h : A.length = B.length) : tk A B A.length = A := by
  unfold tk; rw [List.take_length, h, List.drop_length, List.append_nil]
theorem tk_get (hk : k < A.length) (d : α) : (tk A B k).getD k d = B.getD k d := by
  simp only [tk, List.getD_eq_getElem?_getD]
  rw [List.getElem?_append_right (by simp; omega)]
  simp [List.getElem?_drop, show k - min k A.length = 0 by omega]
theorem tk_succ (h : A.length = B.length) (hk : k < A.length) (d : α) : tk A B (k + 1) = (tk A B k).set k (A.getD k d) := by
  unfold tk
  rw [List.take_succ_eq_append_getElem hk, List.set_append_right _ _ (by simp; omega), List.append_assoc]
  congr 1
  rw [show k - (List.take k A).length = 0 by (rw [List.length_take]; omega), List.drop_eq_getElem_cons (show k < B.length by omega)]
  rw [show A.getD k d = A[k] by simp [List.getD_eq_getElem?_getD, hk]]
  rfl
theorem set_selfG (l : List α) (i : Nat) (d : α) : l.set i (l.getD i d) = l := by
  refine List.ext_getElem (by simp) fun j h1 h2 => ?_
  rw [List.getElem_set]
  split
  · subst_vars; simp at h1; simp [h1]
  · rfl
theorem getD_map {β : Type} (l : List α) (f : α → β) (i : Nat) (a : α) (b : β) (h : i < l.length) : (l.map f).getD i b = f (l.getD i a) := by
  simp [List.getD_eq_getElem?_getD, h]
end
/-- an instruction that stays -/
theorem keeps_at {st : List Bool} {n j : Nat} (h : j < (keeps st n).length) : (keeps st n).getD j 0 < n ∧ st.getD ((keeps st n).getD j 0) false = true := by
  have hm : (keeps st n).getD j 0 ∈ keeps st n := by
    rw [List.getD_eq_getElem?_getD, List.getElem?_eq_getElem h]; exact List.getElem_mem h
  obtain ⟨h1, h2⟩ := List.mem_filter.1 hm
  exact ⟨List.mem_range.1 h1, h2⟩

def bl (d : Cd) (st : List Bool) : List Ins := (keeps st d.l.length).map fun i => d.l.getD i default
def bh (d : Cd) (st : List Bool) : List Int := (keeps st d.l.length).map fun i => d.h.getD i 0
section
variable {d : Cd} {st : List Bool} {j : Nat}
theorem bl_len (hs : Stay d st) : (bl d st).length = plc st d.l.length := by simp only [bl, List.length_map]; exact keeps_len (by rw [hs.len]; exact Nat.le_refl _)
theorem bh_len (hs : Stay d st) : (bh d st).length = plc st d.l.length := by simp only [bh, List.length_map]; exact keeps_len (by rw [hs.len]; exact Nat.le_refl _)
theorem outC_hlen (hs : Stay d st) : (outC d st).h.length = plc st d.l.length := by simp only [outC, List.length_map]; exact keeps_len (by rw [hs.len]; exact Nat.le_refl _)
/-- the j-th of them: its number, its words ahead of the loop and behind it -/
theorem out_at (hs : Stay d st) (hj : j < plc st d.l.length) : ∃ i, i < d.l.length ∧ (bl d st).getD j default = d.l.getD i default ∧ (bh d st).getD j 0 = d.h.getD i 0 ∧ (outC d st).l.getD j default = outI d st i ∧ (outC d st).h.getD j 0 = outH d st i := by
  have hk : j < (keeps st d.l.length).length := by rw [keeps_len (by rw [hs.len]; exact Nat.le_refl _)]; exact hj
  exact ⟨_, (keeps_at hk).1, getD_map _ _ _ 0 _ hk, getD_map _ _ _ 0 _ hk, getD_map _ _ _ 0 _ hk, getD_map _ _ _ 0 _ hk⟩
end
theorem own_drew {w : World} {base : Nat} {e : TypeId} {size : Nat} {v : Value} {n : Nat} {xs : List Value} (h : w.ownsRow base e size v n xs) : w.drew.ownsRow base e size v n xs := h
/-- what a round stores: an instruction's target, a handler -/
theorem outI_J {d : Cd} {st : List Bool} {i : Nat} {x : Ins} (hx : d.l.getD i default = x) (h : isJ x.d) : outI d st i = { x with a := (plc st x.a.toNat : Int) } := by
  unfold outI; rw [hx, if_pos h]
theorem outI_N {d : Cd} {st : List Bool} {i : Nat} {x : Ins} (hx : d.l.getD i default = x) (h : ¬ isJ x.d) : outI d st i = x := by
  unfold outI; rw [hx, if_neg h]

end Go.Proofs.Ytignlfcjlbijaaa
