/- The program's Improve. -/
import Derived.Test.YtignlfcjlbijaaaIg
import Derived.Test.YtignlfcjlbijaaaHi
import Derived.Deep.Cut
import Derived.Deep.CutRange
namespace Go.Proofs.Ytignlfcjlbijaaa
open Go.RowKit

def pl (c : Cd) (k : Nat) : List Ins := (c.l.take k).map (impI c.l) ++ c.l.drop k
def ph (c : Cd) (k : Nat) : List Int := ((List.range k).map fun i => impH (c.l.getD i default) (c.h.getD i 0)) ++ c.h.drop k
theorem pl_len {c : Cd} {k : Nat} (h : k ≤ c.l.length) : (pl c k).length = c.l.length := by simp [pl]; omega
theorem ph_len {c : Cd} {k : Nat} (h : k ≤ c.h.length) : (ph c k).length = c.h.length := by simp [ph]; omega
theorem pl_get {c : Cd} {k : Nat} (h : k < c.l.length) : (pl c k).getD k default = c.l.getD k default := by
  simp only [pl, List.getD_eq_getElem?_getD]
  rw [List.getElem?_append_right (by simp; omega)]
  simp [List.getElem?_drop, show k - min k c.l.length = 0 by omega]
theorem ph_get {c : Cd} {k : Nat} : (ph c k).getD k 0 = c.h.getD k 0 := by
  simp only [ph, List.getD_eq_getElem?_getD]
  rw [List.getElem?_append_right (by simp)]
  simp [List.getElem?_drop]
theorem pl_succ {c : Cd} {k : Nat} (h : k < c.l.length) : pl c (k + 1) = (pl c k).set k (impI c.l (c.l.getD k default)) := by
  unfold pl
  rw [List.take_succ_eq_append_getElem h, List.map_append, List.set_append_right _ _ (by simp; omega), List.append_assoc]
  congr 1
  rw [show k - (List.map (impI c.l) (List.take k c.l)).length = 0 by simp; omega, List.drop_eq_getElem_cons h]
  rw [show c.l.getD k default = c.l[k] by simp [List.getD_eq_getElem?_getD, h]]
  rfl
theorem ph_succ {c : Cd} {k : Nat} (h : k < c.h.length) : ph c (k + 1) = (ph c k).set k (impH (c.l.getD k default) (c.h.getD k 0)) := by
  unfold ph
  rw [List.range_succ, List.map_append, List.set_append_right _ _ (by simp), List.append_assoc]
  congr 1
  rw [show k - (List.map (fun i => impH (c.l.getD i default) (c.h.getD i 0)) (List.range k)).length = 0 by simp, List.drop_eq_getElem_cons h]
  rfl
theorem pl_zero (c : Cd) : pl c 0 = c.l := by simp [pl]
theorem ph_zero (c : Cd) : ph c 0 = c.h := by simp [ph]
theorem pl_end (c : Cd) : pl c c.l.length = (impD c).l := by simp [pl, impD]
theorem ph_end {c : Cd} (h : c.h.length = c.l.length) : ph c c.l.length = (impD c).h := by simp [ph, impD, h]
theorem set_selfI (l : List Ins) (i : Nat) : l.set i (l.getD i default) = l := by
  refine List.ext_getElem (by simp) fun j h1 h2 => ?_
  rw [List.getElem_set]
  split
  · subst_vars; simp at h1; simp [h1]
  · rfl
theorem flat_setA (l : List Ins) (i : Nat) (v : Int) (hi : i < l.length) : (flat l).set (i * 4 + 1) (.int .i64 v) = flat (l.set i { l.getD i default with a := v }) := by
  induction l generalizing i with
  | nil => cases hi
  | cons y r ih =>
    have e : flat (y :: r) = .int .i64 y.d :: .int .i64 y.a :: .int .i64 y.b :: .int .i64 y.c :: flat r := by simp [flat, Ins.cells]
    cases i with
    | zero => simp [flat, Ins.cells]
    | succ i =>
      have h1 := ih i (by simpa using hi)
      have e2 : flat ((y :: r).set (i + 1) { (y :: r).getD (i + 1) default with a := v }) = .int .i64 y.d :: .int .i64 y.a :: .int .i64 y.b :: .int .i64 y.c :: flat (r.set i { r.getD i default with a := v }) := by simp [flat, Ins.cells]
      rw [e, e2, ← h1, show (i + 1) * 4 + 1 = i * 4 + 1 + 1 + 1 + 1 + 1 by omega]
      simp only [List.set_cons_succ]

/-- what stays of the instructions, the first k looked at -/
def stk (d : Cd) (bs : List Bool) (k : Nat) : List Bool := (List.range d.l.length).map fun i => bs.getD i false && !(decide (i < k) && (idleB d i && decide (i + 1 < d.l.length)))
theorem stk_len (d : Cd) (bs : List Bool) (k : Nat) : (stk d bs k).length = d.l.length := by simp [stk]
theorem stk_zero {d : Cd} {bs : List Bool} (h : bs.length = d.l.length) : stk d bs 0 = bs := by
  refine List.ext_getElem (by simp [stk, h]) fun i h1 h2 => ?_
  simp [stk, List.getD_eq_getElem?_getD, h2]
theorem stk_get {d : Cd} {bs : List Bool} {k i : Nat} (h : i < d.l.length) : (stk d bs k).getD i false = (bs.getD i false && !(decide (i < k) && (idleB d i && decide (i + 1 < d.l.length)))) := by
  simp [stk, List.getD_eq_getElem?_getD, h]
theorem stk_succ {d : Cd} {bs : List Bool} {k : Nat} (h : k < d.l.length) : stk d bs (k + 1) = if idleB d k && decide (k + 1 < d.l.length) then (stk d bs k).set k false else stk d bs k := by
  refine list_eq_of (by split <;> simp [stk]) fun i hi => ?_
  rw [stk_len] at hi
  show (stk d bs (k + 1)).getD i false = List.getD _ i false
  rw [stk_get hi]
  by_cases hik : i = k
  · subst hik
    split
    · rename_i hc
      have h2 : i < (stk d bs i).length := by rw [stk_len]; exact hi
      rw [show ((stk d bs i).set i false).getD i false = false by simp [List.getD_eq_getElem?_getD, h2]]
      rw [hc]; simp
    · rename_i hc
      have hc' : (idleB d i && decide (i + 1 < d.l.length)) = false := by simpa using hc
      rw [stk_get hi, hc']; simp
  · have e : decide (i < k + 1) = decide (i < k) := by rw [decide_eq_decide]; omega
    rw [e]
    split
    · rw [show ((stk d bs k).set k false).getD i false = (stk d bs k).getD i false by simp [List.getD_eq_getElem?_getD, Ne.symm hik], stk_get hi]
    · rw [stk_get hi]
theorem stk_stay {d : Cd} {bs : List Bool} (h : ∀ i, bs.getD i false = true ↔ Reach d i) : Stay d (stk d bs d.l.length) := by
  refine ⟨stk_len _ _ _, fun i hi => ?_⟩
  rw [stk_get hi, ← h i]
  simp only [hi, decide_true, Bool.true_and, Bool.and_eq_true, Bool.not_eq_true', Bool.and_eq_false_iff, decide_eq_false_iff_not]
  constructor
  · rintro ⟨h1, h2⟩
    refine ⟨h1, fun ⟨h3, h4⟩ => ?_⟩
    rcases h2 with h2 | h2
    · rw [h3] at h2; cases h2
    · exact h2 (by simpa using h4)
  · rintro ⟨h1, h2⟩
    refine ⟨h1, ?_⟩
    cases h3 : idleB d i
    · exact .inl rfl
    · exact .inr (fun h4 => h2 ⟨h3, by simpa using h4⟩)

/-- the places found behind k instructions -/
def pk (st : List Bool) (n k : Nat) : List Int := (List.range n).map fun i => if i < k then (plc st i : Int) else 0
theorem own_own_ne {w : World} {b1 b2 : Nat} {e1 e2 : TypeId} {s1 s2 : Nat} {v1 v2 : Value} {n1 n2 : Nat} {xs1 xs2 : List Value} (h1 : w.ownsRow b1 e1 s1 v1 n1 xs1) (h2 : w.ownsRow b2 e2 s2 v2 n2 xs2) (hne : e1 ≠ e2) : v2.ownBlock = none ∨ v2.ownBlock ≠ v1.ownBlock := by
  rcases h2.2 with ⟨h0, _⟩ | ⟨g, cap, cur, h0, _, hh, _⟩
  · left; rw [h0]; rfl
  · right; rw [h0]
    exact blk_not_own (show Blk w g cur e2 from hh) h1 (fun h => hne h.symm)
theorem plc_le (st : List Bool) (k : Nat) : plc st k ≤ k := by unfold plc; exact Nat.le_trans List.count_le_length (by simp; omega)
theorem pk_zero (st : List Bool) (n : Nat) : pk st n 0 = List.replicate n 0 := by
  refine List.ext_getElem (by simp [pk]) fun i h1 h2 => ?_
  simp [pk]
theorem pk_len (st : List Bool) (n k : Nat) : (pk st n k).length = n := by simp [pk]
theorem pk_succ {st : List Bool} {n k : Nat} : pk st n (k + 1) = (pk st n k).set k (plc st k) := by
  refine List.ext_getElem (by simp [pk]) fun i h1 h2 => ?_
  rw [List.getElem_set]
  simp only [pk, List.getElem_map, List.getElem_range]
  by_cases hik : k = i
  · subst hik; rw [if_pos rfl, if_pos (by omega)]
  · rw [if_neg hik]
    by_cases h3 : i < k
    · rw [if_pos h3, if_pos (by omega)]
    · rw [if_neg h3, if_neg (by omega)]
theorem pk_get {st : List Bool} {n i : Nat} (h : i < n) : (pk st n n).getD i 0 = plc st i := by
  simp [pk, List.getD_eq_getElem?_getD, h]

set_option maxHeartbeats 4000000 in
set_option maxRecDepth 100000 in
theorem Improve_any (W : World) (lo : Option Addr) (lc : Nat) (ho : Option Addr) (hc : Nat) (c : Cd) (hcd : CdAt W lo lc ho hc c) (hv : codeV c = true) :
    Calls Try.prog 25 #[.agg #[.slice lo c.l.length lc, .slice ho c.h.length hc]] W fun e w' => ∃ (lo' : Option Addr) (lc' : Nat) (ho' : Option Addr) (hc' : Nat) (e2 : Cd), e = .returned (.tuple #[.agg #[.slice lo' e2.l.length lc', .slice ho' e2.h.length hc'], .int .i64 0]) ∧ Below W.heap.size W w' ∧ CdAt w' lo' lc' ho' hc' e2 ∧ codeV e2 = true ∧ e2.l.length ≤ c.l.length ∧ ∀ zs n, (itS c (begS zs) n).ov = true → Sim (itS c (begS zs) n) (itS e2 (begS zs) n) := by
  obtain ⟨B, hB⟩ : ∃ B, B = W.heap.size := ⟨_, rfl⟩
  obtain ⟨v1, v2, v3, v4, v5⟩ := codeV_ins hv
  obtain ⟨la, rfl⟩ := hcd.l.len (by omega)
  obtain ⟨ha, rfl, _⟩ := sla_int hcd.h (i := 0) (by omega)
  have HC := Lib.hid hcd
  have HV := Lib.hid hv
  have HV1 := Lib.hid v1
  have HV2 := Lib.hid v2
  have HV3 := Lib.hid v3
  clear hcd hv v1 v2 v3 v4 v5
  go_enter Try.func25, Try.ntmps25
  go_wp2_with fail
  have hb0 := ((Below.refl W.heap.size W).alloc (Nat.le_refl _) (.cells #[.slice (some la) c.l.length lc, .slice (some ha) c.h.length hc] 30)).alloc (by simp) (.cells #[.slice none 0 0, .slice none 0 0] 30)
  have hA0 := (Blk.new' (w := W) #[.slice (some la) c.l.length lc, .slice (some ha) c.h.length hc] 30 hB).alloc (.cells #[.slice none 0 0, .slice none 0 0] 30)
  have hR0 : Blk ((W.alloc (.cells #[.slice (some la) c.l.length lc, .slice (some ha) c.h.length hc] 30)).alloc (.cells #[.slice none 0 0, .slice none 0 0] 30)) (B+1) #[.slice none 0 0, .slice none 0 0] 30 := Blk.new' _ _ (by simp [hB])
  refine (Valid_any _ (some la) lc (some ha) hc c (HC.out.old hb0)).mono ?_
  rw [HV.out]
  rintro e w1 ⟨rfl, hb1⟩
  have HA1 := Lib.hid (hA0.old hb1)
  have HR1 := Lib.hid (hR0.old hb1)
  have HL1 := Lib.hid (bthen hb0 hb1)
  rw [← hB]
  have HB := Lib.hid hB
  clear hb0 hb1 hA0 hR0 hB
  go_upto_region 3 with fail
  go_cut [4] from 22 to 28 (fun p wx => ∃ (D : Nat) (lo2 : Option Addr) (lc2 : Nat) (ho2 : Option Addr) (hc2 : Nat), p = .pointer (some ⟨D, 0, none⟩) ∧ w1.heap.size ≤ D ∧ Blk wx D #[.slice lo2 c.l.length lc2, .slice ho2 c.h.length hc2] 30 ∧ Below w1.heap.size w1 wx ∧
    wx.ownsRow w1.heap.size 53 4 (.slice lo2 c.l.length lc2) c.l.length (flat c.l) ∧ wx.ownsRow w1.heap.size 3 1 (.slice ho2 c.h.length hc2) c.h.length (c.h.map (Value.int .i64)))
  case first =>
    have HCl := Lib.hid (show ∀ w, Below w1.heap.size w1 w → (Below w1.heap.size w1 w ∧ w.cell? ⟨B, 0, none⟩ = some (.slice (some la) c.l.length lc) ∧ w.cell? ⟨B, 1, none⟩ = some (.slice (some ha) c.h.length hc)) from
      fun w h => ⟨h, (HA1.out.old h).cell 0 rfl, (HA1.out.old h).cell 1 rfl⟩)
    refine wp_mixO (fun w => Below w1.heap.size w1 w ∧ w.cell? ⟨B, 0, none⟩ = some (.slice (some la) c.l.length lc) ∧ w.cell? ⟨B, 1, none⟩ = some (.slice (some ha) c.h.length hc)) (.plain 0 (.plain 1 (.plain 3 (.plain 4 (.two 2 7 (.two 5 7 (.plain 6 (.one 7 (.one 8 .done))) (.one 5 (.plain 6 (.one 8 .done)))) (.one 2 (.one 5 (.plain 6 (.one 8 .done))))))))) (by kernel_rfl) (by kernel_rfl) (by intro c a d v w h; cases d <;> exact h) (HCl.out w1.drew (Below.refl _ _).drew) ?_
    repeat (refine wpMixO_plain ?_; simp only [opAt, List.getD_cons_zero, List.getD_cons_succ]; (first | (apply Exists.intro; refine ⟨Or.inl ⟨by rfl, ?_⟩, ?_⟩; focus (intro w hSw; (try dsimp only at hSw); go_simp; (try with_reducible rfl); done)) | (refine ⟨_, Or.inr ⟨by rfl, rfl⟩, ?_⟩)); (try simp only [Act.put, List.setIfInBounds_toArray, List.set_cons_zero, List.set_cons_succ]))
    refine wpMixO_two ?_ ?_
--R3
    · have Hw0 := Lib.hid (show Below w1.heap.size w1 w1.drew from (Below.refl _ _).drew)
      refine wpOp_one _ (by rfl) (by rfl) fun K hK => ?_
      go_simp
      refine (clone_regs _ la lc c.l (HC.out.old (bthen HL1.out Hw0.out)).l (by have := HV2.out; omega)).mono ?_
      rintro e w2 ⟨lo2, lc2, rfl, hb, ho⟩
      have Hw2 := Lib.hid (show Below w1.heap.size w1 w2 from bthen Hw0.out hb)
      have HOw2 := Lib.hid (own_mono ho (show w1.heap.size ≤ _ from Hw0.out.size))
      clear hb ho
      go_simp
      refine hK _ _ ⟨HCl.out _ Hw2.out, ?_⟩
      clear hK K
      refine wpMixO_two ?_ ?_
      · refine wpOp_one _ (by rfl) (by rfl) fun K hK => ?_
        go_simp
        refine (clone_ints _ ha hc c.h (HC.out.old (bthen HL1.out Hw2.out)).h (by have := HV2.out; have := HV3.out; omega)).mono ?_
        rintro e w3 ⟨ho2, hc2, rfl, hb, ho⟩
        have Hw3 := Lib.hid (show Below w1.heap.size w1 w3 from bthen Hw2.out hb)
        have HPw3 := Lib.hid (own_mono ho (show w1.heap.size ≤ _ from Hw2.out.size))
        have HOw3 := Lib.hid (own_old HOw2.out hb)
        clear hb ho
        go_simp
        refine hK _ _ ⟨HCl.out _ Hw3.out, ?_⟩
        clear hK K
        repeat (refine wpMixO_plain ?_; simp only [opAt, List.getD_cons_zero, List.getD_cons_succ]; (first | (apply Exists.intro; refine ⟨Or.inl ⟨by rfl, ?_⟩, ?_⟩; focus (intro w hSw; (try dsimp only at hSw); go_simp; (try with_reducible rfl); done)) | (refine ⟨_, Or.inr ⟨by rfl, rfl⟩, ?_⟩)); (try simp only [Act.put, List.setIfInBounds_toArray, List.set_cons_zero, List.set_cons_succ]))
        refine wpMixO_one ?_
        refine wpOp_one _ (by rfl) (by rfl) fun K hK => ?_
        go_simp
        obtain ⟨w4, hw⟩ : ∃ w4, w4 = w3.alloc (.cells #[.slice none 0 0, .slice none 0 0] 30) := ⟨_, rfl⟩
        obtain ⟨D, hD⟩ : ∃ D, D = w3.heap.size := ⟨_, rfl⟩
        have Hw4 := Lib.hid (show Below w1.heap.size w1 w4 by rw [hw]; exact Hw3.out.alloc Hw3.out.size _)
        have HDw4 := Lib.hid (show Blk w4 D #[.slice none 0 0, .slice none 0 0] 30 by rw [hw]; exact Blk.new' _ _ hD)
        have hDl : w1.heap.size ≤ D := by rw [hD]; exact Hw3.out.size
        have HOw4 := Lib.hid (show w4.ownsRow w1.heap.size _ _ _ _ _ by rw [hw]; exact HOw3.out.alloc _)
        have HPw4 := Lib.hid (show w4.ownsRow w1.heap.size _ _ _ _ _ by rw [hw]; exact HPw3.out.alloc _)
        rw [← hw, ← hD]
        clear hw hD
        refine hK _ _ ⟨HCl.out _ Hw4.out, ?_⟩
        clear hK K
        repeat (refine wpMixO_plain ?_; simp only [opAt, List.getD_cons_zero, List.getD_cons_succ]; (first | (apply Exists.intro; refine ⟨Or.inl ⟨by rfl, ?_⟩, ?_⟩; focus (intro w hSw; (try dsimp only at hSw); go_simp; (try with_reducible rfl); done)) | (refine ⟨_, Or.inr ⟨by rfl, rfl⟩, ?_⟩)); (try simp only [Act.put, List.setIfInBounds_toArray, List.set_cons_zero, List.set_cons_succ]))
        refine wpMixO_one ?_
        refine wpOp_one _ (by rfl) (by rfl) fun K hK => ?_
        have d0 := HDw4.out.cell 0 rfl
        have d1 := HDw4.out.cell 1 rfl
        have f0 := HDw4.out.frozen 0
        have f1 := HDw4.out.frozen 1
        have lD := HDw4.out.lt
        go_simp
        have hS := (Hw4.out.setCell (p := ⟨D, 0, none⟩) hDl (.slice lo2 c.l.length lc2)).setCell (p := ⟨D, 1, none⟩) hDl (.slice ho2 c.h.length hc2)
        refine hK _ _ ⟨HCl.out _ hS, wpMixO_done ?_⟩
        clear hK K
        go_wp2_with fail
        go_meet
        exact ⟨D, lo2, lc2, ho2, hc2, rfl, hDl, (HDw4.out.set 0 _).set 1 _, hS, ownsRow_setCell_other (ownsRow_setCell_other HOw4.out (fun h => blk_not_own HDw4.out HOw4.out (by decide) h.symm) _) (fun h => blk_not_own HDw4.out HOw4.out (by decide) h.symm) _, ownsRow_setCell_other (ownsRow_setCell_other HPw4.out (fun h => blk_not_own HDw4.out HPw4.out (by decide) h.symm) _) (fun h => blk_not_own HDw4.out HPw4.out (by decide) h.symm) _⟩
      · refine wpOp_one _ (by rfl) (by rfl) fun K hK => ?_
        go_simp
        obtain ⟨w3, hw⟩ : ∃ w3, w3 = w2.alloc (.cells #[.slice none 0 0, .slice none 0 0] 30) := ⟨_, rfl⟩
        obtain ⟨D, hD⟩ : ∃ D, D = w2.heap.size := ⟨_, rfl⟩
        have Hw3 := Lib.hid (show Below w1.heap.size w1 w3 by rw [hw]; exact Hw2.out.alloc Hw2.out.size _)
        have HDw3 := Lib.hid (show Blk w3 D #[.slice none 0 0, .slice none 0 0] 30 by rw [hw]; exact Blk.new' _ _ hD)
        have hDl : w1.heap.size ≤ D := by rw [hD]; exact Hw2.out.size
        have HOw3 := Lib.hid (show w3.ownsRow w1.heap.size _ _ _ _ _ by rw [hw]; exact HOw2.out.alloc _)
        rw [← hw, ← hD]
        clear hw hD
        refine hK _ _ ⟨HCl.out _ Hw3.out, ?_⟩
        clear hK K
        refine wpMixO_one ?_
        refine wpOp_one _ (by rfl) (by rfl) fun K hK => ?_
        go_simp
        refine (clone_ints _ ha hc c.h (HC.out.old (bthen HL1.out Hw3.out)).h (by have := HV2.out; have := HV3.out; omega)).mono ?_
        rintro e w4 ⟨ho2, hc2, rfl, hb, ho⟩
        have Hw4 := Lib.hid (show Below w1.heap.size w1 w4 from bthen Hw3.out hb)
        have HPw4 := Lib.hid (own_mono ho (show w1.heap.size ≤ _ from Hw3.out.size))
        have HOw4 := Lib.hid (own_old HOw3.out hb)
        have HDw4 := Lib.hid (HDw3.out.old hb)
        clear hb ho
        go_simp
        refine hK _ _ ⟨HCl.out _ Hw4.out, ?_⟩
        clear hK K
        repeat (refine wpMixO_plain ?_; simp only [opAt, List.getD_cons_zero, List.getD_cons_succ]; (first | (apply Exists.intro; refine ⟨Or.inl ⟨by rfl, ?_⟩, ?_⟩; focus (intro w hSw; (try dsimp only at hSw); go_simp; (try with_reducible rfl); done)) | (refine ⟨_, Or.inr ⟨by rfl, rfl⟩, ?_⟩)); (try simp only [Act.put, List.setIfInBounds_toArray, List.set_cons_zero, List.set_cons_succ]))
        refine wpMixO_one ?_
        refine wpOp_one _ (by rfl) (by rfl) fun K hK => ?_
        have d0 := HDw4.out.cell 0 rfl
        have d1 := HDw4.out.cell 1 rfl
        have f0 := HDw4.out.frozen 0
        have f1 := HDw4.out.frozen 1
        have lD := HDw4.out.lt
        go_simp
        have hS := (Hw4.out.setCell (p := ⟨D, 0, none⟩) hDl (.slice lo2 c.l.length lc2)).setCell (p := ⟨D, 1, none⟩) hDl (.slice ho2 c.h.length hc2)
        refine hK _ _ ⟨HCl.out _ hS, wpMixO_done ?_⟩
        clear hK K
        go_wp2_with fail
        go_meet
        exact ⟨D, lo2, lc2, ho2, hc2, rfl, hDl, (HDw4.out.set 0 _).set 1 _, hS, ownsRow_setCell_other (ownsRow_setCell_other HOw4.out (fun h => blk_not_own HDw4.out HOw4.out (by decide) h.symm) _) (fun h => blk_not_own HDw4.out HOw4.out (by decide) h.symm) _, ownsRow_setCell_other (ownsRow_setCell_other HPw4.out (fun h => blk_not_own HDw4.out HPw4.out (by decide) h.symm) _) (fun h => blk_not_own HDw4.out HPw4.out (by decide) h.symm) _⟩
    · have Hw0 := Lib.hid (show Below w1.heap.size w1 w1.drew from (Below.refl _ _).drew)
      refine wpOp_one _ (by rfl) (by rfl) fun K hK => ?_
      go_simp
      obtain ⟨w2, hw⟩ : ∃ w2, w2 = (w1.alloc (.cells #[.slice none 0 0, .slice none 0 0] 30)).drew := ⟨_, rfl⟩
      obtain ⟨D, hD⟩ : ∃ D, D = w1.drew.heap.size := ⟨_, rfl⟩
      have Hw2 := Lib.hid (show Below w1.heap.size w1 w2 by rw [hw]; exact ((Below.refl _ _).alloc (Nat.le_refl _) _).drew)
      have HDw2 := Lib.hid (show Blk w2 D #[.slice none 0 0, .slice none 0 0] 30 by rw [hw]; exact (Blk.new' _ _ hD).drew)
      have hDl : w1.heap.size ≤ D := by rw [hD]; exact Hw0.out.size
      rw [← hw]; rw [show w1.drew.heap.size = w1.heap.size from rfl] at hD; rw [← hD]
      clear hw hD
      refine hK _ _ ⟨HCl.out _ Hw2.out, ?_⟩
      clear hK K
      refine wpMixO_one ?_
      refine wpOp_one _ (by rfl) (by rfl) fun K hK => ?_
      go_simp
      refine (clone_regs _ la lc c.l (HC.out.old (bthen HL1.out Hw2.out)).l (by have := HV2.out; omega)).mono ?_
      rintro e w3 ⟨lo2, lc2, rfl, hb, ho⟩
      have Hw3 := Lib.hid (show Below w1.heap.size w1 w3 from bthen Hw2.out hb)
      have HOw3 := Lib.hid (own_mono ho (show w1.heap.size ≤ _ from Hw2.out.size))
      have HDw3 := Lib.hid (HDw2.out.old hb)
      clear hb ho
      go_simp
      refine hK _ _ ⟨HCl.out _ Hw3.out, ?_⟩
      clear hK K
      refine wpMixO_one ?_
      refine wpOp_one _ (by rfl) (by rfl) fun K hK => ?_
      go_simp
      refine (clone_ints _ ha hc c.h (HC.out.old (bthen HL1.out Hw3.out)).h (by have := HV2.out; have := HV3.out; omega)).mono ?_
      rintro e w4 ⟨ho2, hc2, rfl, hb, ho⟩
      have Hw4 := Lib.hid (show Below w1.heap.size w1 w4 from bthen Hw3.out hb)
      have HPw4 := Lib.hid (own_mono ho (show w1.heap.size ≤ _ from Hw3.out.size))
      have HOw4 := Lib.hid (own_old HOw3.out hb)
      have HDw4 := Lib.hid (HDw3.out.old hb)
      clear hb ho
      go_simp
      refine hK _ _ ⟨HCl.out _ Hw4.out, ?_⟩
      clear hK K
      repeat (refine wpMixO_plain ?_; simp only [opAt, List.getD_cons_zero, List.getD_cons_succ]; (first | (apply Exists.intro; refine ⟨Or.inl ⟨by rfl, ?_⟩, ?_⟩; focus (intro w hSw; (try dsimp only at hSw); go_simp; (try with_reducible rfl); done)) | (refine ⟨_, Or.inr ⟨by rfl, rfl⟩, ?_⟩)); (try simp only [Act.put, List.setIfInBounds_toArray, List.set_cons_zero, List.set_cons_succ]))
      refine wpMixO_one ?_
      refine wpOp_one _ (by rfl) (by rfl) fun K hK => ?_
      have d0 := HDw4.out.cell 0 rfl
      have d1 := HDw4.out.cell 1 rfl
      have f0 := HDw4.out.frozen 0
      have f1 := HDw4.out.frozen 1
      have lD := HDw4.out.lt
      go_simp
      have hS := (Hw4.out.setCell (p := ⟨D, 0, none⟩) hDl (.slice lo2 c.l.length lc2)).setCell (p := ⟨D, 1, none⟩) hDl (.slice ho2 c.h.length hc2)
      refine hK _ _ ⟨HCl.out _ hS, wpMixO_done ?_⟩
      clear hK K
      go_wp2_with fail
      go_meet
      exact ⟨D, lo2, lc2, ho2, hc2, rfl, hDl, (HDw4.out.set 0 _).set 1 _, hS, ownsRow_setCell_other (ownsRow_setCell_other HOw4.out (fun h => blk_not_own HDw4.out HOw4.out (by decide) h.symm) _) (fun h => blk_not_own HDw4.out HOw4.out (by decide) h.symm) _, ownsRow_setCell_other (ownsRow_setCell_other HPw4.out (fun h => blk_not_own HDw4.out HPw4.out (by decide) h.symm) _) (fun h => blk_not_own HDw4.out HPw4.out (by decide) h.symm) _⟩
    --E3
  case rest =>
    obtain ⟨D, lo2, lc2, ho2, hc2, rfl, hDl, hD, hbl, hO, hP⟩ := hcut
    obtain ⟨gl, rfl⟩ := ownsRow_some hO (by have := HV1.out; omega)
    obtain ⟨gh, rfl⟩ := ownsRow_some hP (by have := HV1.out; have := HV3.out; omega)
    have hne : ¬ (gl = gh) := by
      intro h; subst h
      rcases hO.2 with ⟨h0, _⟩ | ⟨_, _, _, hv, _, hh, _⟩
      · cases h0
      · cases hv
        exact blk_not_own (show Blk wc gl _ 53 from hh) hP (by decide) rfl
    have hDgl : ¬ (D = gl) := fun h => blk_not_own hD hO (by decide) (by rw [h]; rfl)
    have hDgh : ¬ (D = gh) := fun h => blk_not_own hD hP (by decide) (by rw [h]; rfl)
    have bgl := (own_cells hO).2.1
    have bgh := (own_cells hP).2.1
    have HNe := Lib.hid (And.intro hne (And.intro hDgl hDgh))
    have d0 := hD.cell 0 rfl
    have hBw : B + 2 ≤ w1.heap.size := by have := HR1.out.lt; omega
    have H0 := Lib.hid (And.intro hD (And.intro hbl (And.intro hO hP)))
    clear hD hbl hO hP hne hDgl hDgh
    go_wp2_with fail
    clear d0
    go_loopw [32] (fun i wr => ∃ (k : Nat), k ≤ c.l.length ∧ i = .int .i64 k ∧ Blk wr D #[.slice (some ⟨gl, 0, none⟩) c.l.length lc2, .slice (some ⟨gh, 0, none⟩) c.h.length hc2] 30 ∧ Below w1.heap.size w1 wr ∧
      wr.ownsRow w1.heap.size 53 4 (.slice (some ⟨gl, 0, none⟩) c.l.length lc2) c.l.length (flat (pl c k)) ∧ wr.ownsRow w1.heap.size 3 1 (.slice (some ⟨gh, 0, none⟩) c.h.length hc2) c.h.length ((ph c k).map (Value.int .i64))) (fun i _ => c.l.length - (intOf i).toNat)
    case atStart => exact ⟨0, by omega, rfl, H0.out.1, H0.out.2.1, by rw [pl_zero]; exact H0.out.2.2.1, by rw [ph_zero]; exact H0.out.2.2.2⟩
    case round =>
      clear H0
      obtain ⟨k, hk, rfl, hD, hbl, hO, hP⟩ := hrel
      by_cases hkl : k < c.l.length
      · obtain ⟨lgl, _, fgl, cgl⟩ := own_cells hO
        obtain ⟨lgh, _, fgh, cgh⟩ := own_cells hP
        have hpl : k < (pl c k).length := by rw [pl_len hk]; exact hkl
        obtain ⟨x, hx⟩ : ∃ x, x = c.l.getD k default := ⟨_, rfl⟩
        have q0 := cgl (k * 4 + 0) _ (flat_get (pl c k) k hpl 0 (by omega))
        have q1 := cgl (k * 4 + 1) _ (flat_get (pl c k) k hpl 1 (by omega))
        have q2 := cgl (k * 4 + 2) _ (flat_get (pl c k) k hpl 2 (by omega))
        have q3 := cgl (k * 4 + 3) _ (flat_get (pl c k) k hpl 3 (by omega))
        rw [pl_get hkl, ← hx] at q0 q1 q2 q3
        have q0 : wr.cell? ⟨gl, k * 4, none⟩ = some (.int .i64 x.d) := q0
        have q1 : wr.cell? ⟨gl, k * 4 + 1, none⟩ = some (.int .i64 x.a) := q1
        have q2 : wr.cell? ⟨gl, k * 4 + 2, none⟩ = some (.int .i64 x.b) := q2
        have q3 : wr.cell? ⟨gl, k * 4 + 3, none⟩ = some (.int .i64 x.c) := q3
        have hkl2 : (k : Int) < c.l.length := by omega
        have hkw : IntKind.i64.wrap ((k : Int) + 1) = k + 1 := IntWalk.i64_in _ (by have := HV2.out; omega)
        have HX := Lib.hid hx
        have HF := Lib.hid (And.intro hD (And.intro hbl (And.intro hO hP)))
        clear hD hbl hO hP fgl cgl fgh cgh hx
--L1
        go_upto_region 7 with fail
        have hR := Blk.new wr #[.int .i64 x.d, .int .i64 x.a, .int .i64 x.b, .int .i64 x.c] 53
        have hD4 := HF.out.1.alloc (.cells #[.int .i64 x.d, .int .i64 x.a, .int .i64 x.b, .int .i64 x.c] 53)
        have hb4 := HF.out.2.1.alloc HF.out.2.1.size (.cells #[.int .i64 x.d, .int .i64 x.a, .int .i64 x.b, .int .i64 x.c] 53)
        have hO4 := HF.out.2.2.1.alloc (.cells #[.int .i64 x.d, .int .i64 x.a, .int .i64 x.b, .int .i64 x.c] 53)
        have hP4 := HF.out.2.2.2.alloc (.cells #[.int .i64 x.d, .int .i64 x.a, .int .i64 x.b, .int .i64 x.c] 53)
        have hgR : gl < wr.heap.size := lgl
        have hhR : gh < wr.heap.size := lgh
        have hDR : D < wr.heap.size := HF.out.1.lt
        obtain ⟨R, hRR⟩ : ∃ R, R = wr.heap.size := ⟨_, rfl⟩
        rw [← hRR] at hR hgR hhR hDR ⊢
        have HHp := Lib.hid (show k < (ph c k).length by rw [ph_len (by have := HV3.out; omega)]; have := HV3.out; omega)
        generalize (wr.alloc (.cells #[.int .i64 x.d, .int .i64 x.a, .int .i64 x.b, .int .i64 x.c] 53)) = w4 at hR hD4 hb4 hO4 hP4 ⊢
        have H4 := Lib.hid (And.intro hR (And.intro hD4 (And.intro hb4 (And.intro hO4 hP4))))
        have r0 : w4.cell? ⟨R, 0, none⟩ = some (.int .i64 x.d) := hR.cell 0 rfl
        clear hR hD4 hb4 hO4 hP4 HF q0 q1 q2 q3 hRR lgl lgh
        obtain ⟨d, a, b, c'⟩ := x
        dsimp only at r0
        by_cases h4 : d = 4
        · subst h4
          have HJ := Lib.hid (show isJ 4 by unfold isJ; omega)
          have hins := (codeV_ins HV.out).2.2.2.1 k hkl
          rw [← HX.out] at hins
          have hja := insV_J hins (show isJ 4 by unfold isJ; omega)
          dsimp only at hja
          obtain ⟨ja, rfl⟩ : ∃ ja : Nat, a = ja := ⟨a.toNat, by omega⟩
          have hjl : ja < c.l.length := by omega
          clear hins hja
          go_wp2_with fail
          have HCl := Lib.hid (show ∀ w, (Blk w D #[.slice (some ⟨gl, 0, none⟩) c.l.length lc2, .slice (some ⟨gh, 0, none⟩) c.h.length hc2] 30 ∧ Blk w R #[.int .i64 4, .int .i64 ja, .int .i64 b, .int .i64 c'] 53 ∧ Blk w B #[.slice (some la) c.l.length lc, .slice (some ha) c.h.length hc] 30) → (w.cell? ⟨D, 0, none⟩ = some (.slice (some ⟨gl, 0, none⟩) c.l.length lc2) ∧ w.cell? ⟨R, 1, none⟩ = some (.int .i64 ja) ∧ w.cell? ⟨B, 0, none⟩ = some (.slice (some la) c.l.length lc)) from fun w h => ⟨h.1.cell 0 rfl, h.2.1.cell 1 rfl, h.2.2.cell 0 rfl⟩)
          refine wp_mixL (fun w => w.cell? ⟨D, 0, none⟩ = some (.slice (some ⟨gl, 0, none⟩) c.l.length lc2) ∧ w.cell? ⟨R, 1, none⟩ = some (.int .i64 ja) ∧ w.cell? ⟨B, 0, none⟩ = some (.slice (some la) c.l.length lc)) [(false, 0), (false, 1), (false, 2), (false, 3), (false, 4), (false, 5), (false, 6), (true, 7), (false, 8), (false, 9), (true, 10)] (by kernel_rfl) (by kernel_rfl) (by intro c a d v w h; cases d <;> exact h) (HCl.out w4.drew ⟨H4.out.2.1.drew, H4.out.1.drew, (HA1.out.old H4.out.2.2.1).drew⟩) ?_
          simp only [List.map_cons, List.map_nil, opAt, List.getD_cons_zero, List.getD_cons_succ]
          repeat (refine wpMixL_plain ?_; (first | (apply Exists.intro; refine ⟨Or.inl ⟨by rfl, ?_⟩, ?_⟩; focus (intro w hSw; (try dsimp only at hSw); go_simp; (try with_reducible rfl); done)) | (refine ⟨_, Or.inr ⟨by rfl, rfl⟩, ?_⟩)); (try simp only [Act.put, List.setIfInBounds_toArray, List.set_cons_zero, List.set_cons_succ]))
          refine wpMixL_one (by rfl) (by rfl) fun K hK => ?_
          go_simp
          refine (through_any _ (some la) lc c (HC.out.old (HL1.out.trans ((H4.out.2.2.1.drew).mono HL1.out.size))).l HV.out ja hjl).mono ?_
          rintro e w5 ⟨rfl, hb5⟩
          have hb45 : Below w4.heap.size w4 w5 := bthen (Below.refl _ w4).drew hb5
          have hR5 := H4.out.1.old hb45
          have hD5 := H4.out.2.1.old hb45
          have hB5 := bthen H4.out.2.2.1 hb45
          have hO5 := own_old H4.out.2.2.2.1 hb45
          have hP5 := own_old H4.out.2.2.2.2 hb45
          have H5 := Lib.hid (And.intro hR5 (And.intro hD5 (And.intro hB5 (And.intro hO5 hP5))))
          clear hb5 hb45 hR5 hD5 hB5 hO5 hP5 H4 r0
          go_simp
          refine hK _ _ (HCl.out w5 ⟨H5.out.2.1, H5.out.1, HA1.out.old H5.out.2.2.1⟩) ?_
          clear hK K
          repeat (refine wpMixL_plain ?_; (first | (apply Exists.intro; refine ⟨Or.inl ⟨by rfl, ?_⟩, ?_⟩; focus (intro w hSw; (try dsimp only at hSw); go_simp; (try with_reducible rfl); done)) | (refine ⟨_, Or.inr ⟨by rfl, rfl⟩, ?_⟩)); (try simp only [Act.put, List.setIfInBounds_toArray, List.set_cons_zero, List.set_cons_succ]))
          refine wpMixL_one (by rfl) (by rfl) fun K hK => ?_
          obtain ⟨lgl, _, fgl, cgl⟩ := own_cells H5.out.2.2.2.1
          have q1 := cgl (k * 4 + 1) _ (flat_get (pl c k) k (by rw [pl_len hk]; exact hkl) 1 (by omega))
          rw [pl_get hkl, ← HX.out] at q1
          have q1 : w5.cell? ⟨gl, k * 4 + 1, none⟩ = some (.int .i64 ja) := q1
          have f1 := fgl (k * 4 + 1)
          clear fgl cgl
          go_simp
          have hne := HNe.out.1
          have hO6 := own_set H5.out.2.2.2.1 (k * 4 + 1) (.int .i64 (thr c.l c.l.length ja))
          have hP6 := ownsRow_setCell_other H5.out.2.2.2.2 (a := ⟨gl, k * 4 + 1, none⟩) (by simp [Value.ownBlock]; exact fun h => hne h.symm) (.int .i64 (thr c.l c.l.length ja))
          have hR6 := H5.out.1.other (a := ⟨gl, k * 4 + 1, none⟩) (by show R ≠ gl; omega) (.int .i64 (thr c.l c.l.length ja))
          have hD6 := H5.out.2.1.other (a := ⟨gl, k * 4 + 1, none⟩) HNe.out.2.1 (.int .i64 (thr c.l c.l.length ja))
          have hB6 := H5.out.2.2.1.setCell (p := ⟨gl, k * 4 + 1, none⟩) bgl (.int .i64 (thr c.l c.l.length ja))
          rw [flat_setA _ _ _ (by rw [pl_len hk]; exact hkl), pl_get hkl, ← HX.out] at hO6
          generalize w5.setCell ⟨gl, k * 4 + 1, none⟩ (.int .i64 (thr c.l c.l.length ja)) = w6 at hO6 hP6 hR6 hD6 hB6 ⊢
          have H6 := Lib.hid (And.intro hR6 (And.intro hD6 (And.intro hB6 (And.intro hO6 hP6))))
          clear hR6 hD6 hB6 hO6 hP6 H5 q1 f1 lgl hne
          refine hK _ _ (HCl.out w6 ⟨H6.out.2.1, H6.out.1, HA1.out.old H6.out.2.2.1⟩) ?_
          clear hK K HCl
          refine wpMixL_nil ?_
          obtain ⟨lgh, _, fgh, cgh⟩ := own_cells H6.out.2.2.2.2
          have q4 := cgh k (.int .i64 ((ph c k).getD k 0)) (by simp [List.getD_eq_getElem?_getD, HHp.out])
          have f4 := fgh k
          have d1 := H6.out.2.1.cell 1 rfl
          have r0 : w6.cell? ⟨R, 0, none⟩ = some (.int .i64 4) := H6.out.1.cell 0 rfl
          have hkh : (k : Int) < c.h.length := by have := HV3.out; omega
          clear fgh cgh
          go_wp2_with fail
          clear q4 f4 d1 lgh r0
          refine ⟨⟨k + 1, by omega, by go_num, H6.out.2.1.other HNe.out.2.2 _, H6.out.2.2.1.setCell (p := ⟨gh, k, none⟩) bgh _, ?_, ?_⟩, by show c.l.length - ((k : Int) + 1).toNat < c.l.length - (k : Int).toNat; omega⟩
          · rw [pl_succ hkl, ← HX.out, show impI c.l ⟨4, ↑ja, b, c'⟩ = { (⟨4, ↑ja, b, c'⟩ : Ins) with a := (thr c.l c.l.length ja : Int) } by unfold impI; rw [if_pos HJ.out]; simp]; exact ownsRow_setCell_other H6.out.2.2.2.1 (by simp [Value.ownBlock]; exact HNe.out.1) _
          · rw [ph_succ (by have := HV3.out; omega), ← HX.out, show impH ⟨4, ↑ja, b, c'⟩ (c.h.getD k 0) = -1 by unfold impH; rw [if_neg (show ¬ ((4 : Int) = 7 ∨ (4 : Int) = 14) by omega)], List.map_set]; exact own_set H6.out.2.2.2.2 _ _
        by_cases h5 : d = 5
        · subst h5
          have HJ := Lib.hid (show isJ 5 by unfold isJ; omega)
          have hins := (codeV_ins HV.out).2.2.2.1 k hkl
          rw [← HX.out] at hins
          have hja := insV_J hins (show isJ 5 by unfold isJ; omega)
          dsimp only at hja
          obtain ⟨ja, rfl⟩ : ∃ ja : Nat, a = ja := ⟨a.toNat, by omega⟩
          have hjl : ja < c.l.length := by omega
          clear hins hja
          go_wp2_with fail
          have HCl := Lib.hid (show ∀ w, (Blk w D #[.slice (some ⟨gl, 0, none⟩) c.l.length lc2, .slice (some ⟨gh, 0, none⟩) c.h.length hc2] 30 ∧ Blk w R #[.int .i64 5, .int .i64 ja, .int .i64 b, .int .i64 c'] 53 ∧ Blk w B #[.slice (some la) c.l.length lc, .slice (some ha) c.h.length hc] 30) → (w.cell? ⟨D, 0, none⟩ = some (.slice (some ⟨gl, 0, none⟩) c.l.length lc2) ∧ w.cell? ⟨R, 1, none⟩ = some (.int .i64 ja) ∧ w.cell? ⟨B, 0, none⟩ = some (.slice (some la) c.l.length lc)) from fun w h => ⟨h.1.cell 0 rfl, h.2.1.cell 1 rfl, h.2.2.cell 0 rfl⟩)
          refine wp_mixL (fun w => w.cell? ⟨D, 0, none⟩ = some (.slice (some ⟨gl, 0, none⟩) c.l.length lc2) ∧ w.cell? ⟨R, 1, none⟩ = some (.int .i64 ja) ∧ w.cell? ⟨B, 0, none⟩ = some (.slice (some la) c.l.length lc)) [(false, 0), (false, 1), (false, 2), (false, 3), (false, 4), (false, 5), (false, 6), (true, 7), (false, 8), (false, 9), (true, 10)] (by kernel_rfl) (by kernel_rfl) (by intro c a d v w h; cases d <;> exact h) (HCl.out w4.drew ⟨H4.out.2.1.drew, H4.out.1.drew, (HA1.out.old H4.out.2.2.1).drew⟩) ?_
          simp only [List.map_cons, List.map_nil, opAt, List.getD_cons_zero, List.getD_cons_succ]
          repeat (refine wpMixL_plain ?_; (first | (apply Exists.intro; refine ⟨Or.inl ⟨by rfl, ?_⟩, ?_⟩; focus (intro w hSw; (try dsimp only at hSw); go_simp; (try with_reducible rfl); done)) | (refine ⟨_, Or.inr ⟨by rfl, rfl⟩, ?_⟩)); (try simp only [Act.put, List.setIfInBounds_toArray, List.set_cons_zero, List.set_cons_succ]))
          refine wpMixL_one (by rfl) (by rfl) fun K hK => ?_
          go_simp
          refine (through_any _ (some la) lc c (HC.out.old (HL1.out.trans ((H4.out.2.2.1.drew).mono HL1.out.size))).l HV.out ja hjl).mono ?_
          rintro e w5 ⟨rfl, hb5⟩
          have hb45 : Below w4.heap.size w4 w5 := bthen (Below.refl _ w4).drew hb5
          have hR5 := H4.out.1.old hb45
          have hD5 := H4.out.2.1.old hb45
          have hB5 := bthen H4.out.2.2.1 hb45
          have hO5 := own_old H4.out.2.2.2.1 hb45
          have hP5 := own_old H4.out.2.2.2.2 hb45
          have H5 := Lib.hid (And.intro hR5 (And.intro hD5 (And.intro hB5 (And.intro hO5 hP5))))
          clear hb5 hb45 hR5 hD5 hB5 hO5 hP5 H4 r0
          go_simp
          refine hK _ _ (HCl.out w5 ⟨H5.out.2.1, H5.out.1, HA1.out.old H5.out.2.2.1⟩) ?_
          clear hK K
          repeat (refine wpMixL_plain ?_; (first | (apply Exists.intro; refine ⟨Or.inl ⟨by rfl, ?_⟩, ?_⟩; focus (intro w hSw; (try dsimp only at hSw); go_simp; (try with_reducible rfl); done)) | (refine ⟨_, Or.inr ⟨by rfl, rfl⟩, ?_⟩)); (try simp only [Act.put, List.setIfInBounds_toArray, List.set_cons_zero, List.set_cons_succ]))
          refine wpMixL_one (by rfl) (by rfl) fun K hK => ?_
          obtain ⟨lgl, _, fgl, cgl⟩ := own_cells H5.out.2.2.2.1
          have q1 := cgl (k * 4 + 1) _ (flat_get (pl c k) k (by rw [pl_len hk]; exact hkl) 1 (by omega))
          rw [pl_get hkl, ← HX.out] at q1
          have q1 : w5.cell? ⟨gl, k * 4 + 1, none⟩ = some (.int .i64 ja) := q1
          have f1 := fgl (k * 4 + 1)
          clear fgl cgl
          go_simp
          have hne := HNe.out.1
          have hO6 := own_set H5.out.2.2.2.1 (k * 4 + 1) (.int .i64 (thr c.l c.l.length ja))
          have hP6 := ownsRow_setCell_other H5.out.2.2.2.2 (a := ⟨gl, k * 4 + 1, none⟩) (by simp [Value.ownBlock]; exact fun h => hne h.symm) (.int .i64 (thr c.l c.l.length ja))
          have hR6 := H5.out.1.other (a := ⟨gl, k * 4 + 1, none⟩) (by show R ≠ gl; omega) (.int .i64 (thr c.l c.l.length ja))
          have hD6 := H5.out.2.1.other (a := ⟨gl, k * 4 + 1, none⟩) HNe.out.2.1 (.int .i64 (thr c.l c.l.length ja))
          have hB6 := H5.out.2.2.1.setCell (p := ⟨gl, k * 4 + 1, none⟩) bgl (.int .i64 (thr c.l c.l.length ja))
          rw [flat_setA _ _ _ (by rw [pl_len hk]; exact hkl), pl_get hkl, ← HX.out] at hO6
          generalize w5.setCell ⟨gl, k * 4 + 1, none⟩ (.int .i64 (thr c.l c.l.length ja)) = w6 at hO6 hP6 hR6 hD6 hB6 ⊢
          have H6 := Lib.hid (And.intro hR6 (And.intro hD6 (And.intro hB6 (And.intro hO6 hP6))))
          clear hR6 hD6 hB6 hO6 hP6 H5 q1 f1 lgl hne
          refine hK _ _ (HCl.out w6 ⟨H6.out.2.1, H6.out.1, HA1.out.old H6.out.2.2.1⟩) ?_
          clear hK K HCl
          refine wpMixL_nil ?_
          obtain ⟨lgh, _, fgh, cgh⟩ := own_cells H6.out.2.2.2.2
          have q4 := cgh k (.int .i64 ((ph c k).getD k 0)) (by simp [List.getD_eq_getElem?_getD, HHp.out])
          have f4 := fgh k
          have d1 := H6.out.2.1.cell 1 rfl
          have r0 : w6.cell? ⟨R, 0, none⟩ = some (.int .i64 5) := H6.out.1.cell 0 rfl
          have hkh : (k : Int) < c.h.length := by have := HV3.out; omega
          clear fgh cgh
          go_wp2_with fail
          clear q4 f4 d1 lgh r0
          refine ⟨⟨k + 1, by omega, by go_num, H6.out.2.1.other HNe.out.2.2 _, H6.out.2.2.1.setCell (p := ⟨gh, k, none⟩) bgh _, ?_, ?_⟩, by show c.l.length - ((k : Int) + 1).toNat < c.l.length - (k : Int).toNat; omega⟩
          · rw [pl_succ hkl, ← HX.out, show impI c.l ⟨5, ↑ja, b, c'⟩ = { (⟨5, ↑ja, b, c'⟩ : Ins) with a := (thr c.l c.l.length ja : Int) } by unfold impI; rw [if_pos HJ.out]; simp]; exact ownsRow_setCell_other H6.out.2.2.2.1 (by simp [Value.ownBlock]; exact HNe.out.1) _
          · rw [ph_succ (by have := HV3.out; omega), ← HX.out, show impH ⟨5, ↑ja, b, c'⟩ (c.h.getD k 0) = -1 by unfold impH; rw [if_neg (show ¬ ((5 : Int) = 7 ∨ (5 : Int) = 14) by omega)], List.map_set]; exact own_set H6.out.2.2.2.2 _ _
        by_cases h8 : d = 8
        · subst h8
          have HJ := Lib.hid (show isJ 8 by unfold isJ; omega)
          have hins := (codeV_ins HV.out).2.2.2.1 k hkl
          rw [← HX.out] at hins
          have hja := insV_J hins (show isJ 8 by unfold isJ; omega)
          dsimp only at hja
          obtain ⟨ja, rfl⟩ : ∃ ja : Nat, a = ja := ⟨a.toNat, by omega⟩
          have hjl : ja < c.l.length := by omega
          clear hins hja
          go_wp2_with fail
          have HCl := Lib.hid (show ∀ w, (Blk w D #[.slice (some ⟨gl, 0, none⟩) c.l.length lc2, .slice (some ⟨gh, 0, none⟩) c.h.length hc2] 30 ∧ Blk w R #[.int .i64 8, .int .i64 ja, .int .i64 b, .int .i64 c'] 53 ∧ Blk w B #[.slice (some la) c.l.length lc, .slice (some ha) c.h.length hc] 30) → (w.cell? ⟨D, 0, none⟩ = some (.slice (some ⟨gl, 0, none⟩) c.l.length lc2) ∧ w.cell? ⟨R, 1, none⟩ = some (.int .i64 ja) ∧ w.cell? ⟨B, 0, none⟩ = some (.slice (some la) c.l.length lc)) from fun w h => ⟨h.1.cell 0 rfl, h.2.1.cell 1 rfl, h.2.2.cell 0 rfl⟩)
          refine wp_mixL (fun w => w.cell? ⟨D, 0, none⟩ = some (.slice (some ⟨gl, 0, none⟩) c.l.length lc2) ∧ w.cell? ⟨R, 1, none⟩ = some (.int .i64 ja) ∧ w.cell? ⟨B, 0, none⟩ = some (.slice (some la) c.l.length lc)) [(false, 0), (false, 1), (false, 2), (false, 3), (false, 4), (false, 5), (false, 6), (true, 7), (false, 8), (false, 9), (true, 10)] (by kernel_rfl) (by kernel_rfl) (by intro c a d v w h; cases d <;> exact h) (HCl.out w4.drew ⟨H4.out.2.1.drew, H4.out.1.drew, (HA1.out.old H4.out.2.2.1).drew⟩) ?_
          simp only [List.map_cons, List.map_nil, opAt, List.getD_cons_zero, List.getD_cons_succ]
          repeat (refine wpMixL_plain ?_; (first | (apply Exists.intro; refine ⟨Or.inl ⟨by rfl, ?_⟩, ?_⟩; focus (intro w hSw; (try dsimp only at hSw); go_simp; (try with_reducible rfl); done)) | (refine ⟨_, Or.inr ⟨by rfl, rfl⟩, ?_⟩)); (try simp only [Act.put, List.setIfInBounds_toArray, List.set_cons_zero, List.set_cons_succ]))
          refine wpMixL_one (by rfl) (by rfl) fun K hK => ?_
          go_simp
          refine (through_any _ (some la) lc c (HC.out.old (HL1.out.trans ((H4.out.2.2.1.drew).mono HL1.out.size))).l HV.out ja hjl).mono ?_
          rintro e w5 ⟨rfl, hb5⟩
          have hb45 : Below w4.heap.size w4 w5 := bthen (Below.refl _ w4).drew hb5
          have hR5 := H4.out.1.old hb45
          have hD5 := H4.out.2.1.old hb45
          have hB5 := bthen H4.out.2.2.1 hb45
          have hO5 := own_old H4.out.2.2.2.1 hb45
          have hP5 := own_old H4.out.2.2.2.2 hb45
          have H5 := Lib.hid (And.intro hR5 (And.intro hD5 (And.intro hB5 (And.intro hO5 hP5))))
          clear hb5 hb45 hR5 hD5 hB5 hO5 hP5 H4 r0
          go_simp
          refine hK _ _ (HCl.out w5 ⟨H5.out.2.1, H5.out.1, HA1.out.old H5.out.2.2.1⟩) ?_
          clear hK K
          repeat (refine wpMixL_plain ?_; (first | (apply Exists.intro; refine ⟨Or.inl ⟨by rfl, ?_⟩, ?_⟩; focus (intro w hSw; (try dsimp only at hSw); go_simp; (try with_reducible rfl); done)) | (refine ⟨_, Or.inr ⟨by rfl, rfl⟩, ?_⟩)); (try simp only [Act.put, List.setIfInBounds_toArray, List.set_cons_zero, List.set_cons_succ]))
          refine wpMixL_one (by rfl) (by rfl) fun K hK => ?_
          obtain ⟨lgl, _, fgl, cgl⟩ := own_cells H5.out.2.2.2.1
          have q1 := cgl (k * 4 + 1) _ (flat_get (pl c k) k (by rw [pl_len hk]; exact hkl) 1 (by omega))
          rw [pl_get hkl, ← HX.out] at q1
          have q1 : w5.cell? ⟨gl, k * 4 + 1, none⟩ = some (.int .i64 ja) := q1
          have f1 := fgl (k * 4 + 1)
          clear fgl cgl
          go_simp
          have hne := HNe.out.1
          have hO6 := own_set H5.out.2.2.2.1 (k * 4 + 1) (.int .i64 (thr c.l c.l.length ja))
          have hP6 := ownsRow_setCell_other H5.out.2.2.2.2 (a := ⟨gl, k * 4 + 1, none⟩) (by simp [Value.ownBlock]; exact fun h => hne h.symm) (.int .i64 (thr c.l c.l.length ja))
          have hR6 := H5.out.1.other (a := ⟨gl, k * 4 + 1, none⟩) (by show R ≠ gl; omega) (.int .i64 (thr c.l c.l.length ja))
          have hD6 := H5.out.2.1.other (a := ⟨gl, k * 4 + 1, none⟩) HNe.out.2.1 (.int .i64 (thr c.l c.l.length ja))
          have hB6 := H5.out.2.2.1.setCell (p := ⟨gl, k * 4 + 1, none⟩) bgl (.int .i64 (thr c.l c.l.length ja))
          rw [flat_setA _ _ _ (by rw [pl_len hk]; exact hkl), pl_get hkl, ← HX.out] at hO6
          generalize w5.setCell ⟨gl, k * 4 + 1, none⟩ (.int .i64 (thr c.l c.l.length ja)) = w6 at hO6 hP6 hR6 hD6 hB6 ⊢
          have H6 := Lib.hid (And.intro hR6 (And.intro hD6 (And.intro hB6 (And.intro hO6 hP6))))
          clear hR6 hD6 hB6 hO6 hP6 H5 q1 f1 lgl hne
          refine hK _ _ (HCl.out w6 ⟨H6.out.2.1, H6.out.1, HA1.out.old H6.out.2.2.1⟩) ?_
          clear hK K HCl
          refine wpMixL_nil ?_
          obtain ⟨lgh, _, fgh, cgh⟩ := own_cells H6.out.2.2.2.2
          have q4 := cgh k (.int .i64 ((ph c k).getD k 0)) (by simp [List.getD_eq_getElem?_getD, HHp.out])
          have f4 := fgh k
          have d1 := H6.out.2.1.cell 1 rfl
          have r0 : w6.cell? ⟨R, 0, none⟩ = some (.int .i64 8) := H6.out.1.cell 0 rfl
          have hkh : (k : Int) < c.h.length := by have := HV3.out; omega
          clear fgh cgh
          go_wp2_with fail
          clear q4 f4 d1 lgh r0
          refine ⟨⟨k + 1, by omega, by go_num, H6.out.2.1.other HNe.out.2.2 _, H6.out.2.2.1.setCell (p := ⟨gh, k, none⟩) bgh _, ?_, ?_⟩, by show c.l.length - ((k : Int) + 1).toNat < c.l.length - (k : Int).toNat; omega⟩
          · rw [pl_succ hkl, ← HX.out, show impI c.l ⟨8, ↑ja, b, c'⟩ = { (⟨8, ↑ja, b, c'⟩ : Ins) with a := (thr c.l c.l.length ja : Int) } by unfold impI; rw [if_pos HJ.out]; simp]; exact ownsRow_setCell_other H6.out.2.2.2.1 (by simp [Value.ownBlock]; exact HNe.out.1) _
          · rw [ph_succ (by have := HV3.out; omega), ← HX.out, show impH ⟨8, ↑ja, b, c'⟩ (c.h.getD k 0) = -1 by unfold impH; rw [if_neg (show ¬ ((8 : Int) = 7 ∨ (8 : Int) = 14) by omega)], List.map_set]; exact own_set H6.out.2.2.2.2 _ _
        by_cases h7 : d = 7
        · subst h7
          have HJ := Lib.hid (show ¬ isJ 7 by unfold isJ; omega)
          go_wp2_with fail
          refine ⟨⟨k + 1, by omega, by go_num, H4.out.2.1, H4.out.2.2.1, ?_, ?_⟩, by show c.l.length - ((k : Int) + 1).toNat < c.l.length - (k : Int).toNat; omega⟩
          · rw [pl_succ hkl, ← HX.out, show impI c.l ⟨7, a, b, c'⟩ = (pl c k).getD k default by rw [pl_get hkl, ← HX.out]; unfold impI; rw [if_neg HJ.out], set_selfI]; exact H4.out.2.2.2.1
          · rw [ph_succ (by have := HV3.out; omega), ← HX.out, show impH ⟨7, a, b, c'⟩ (c.h.getD k 0) = (ph c k).getD k 0 by rw [ph_get]; unfold impH; rw [if_pos (show (7 : Int) = 7 ∨ (7 : Int) = 14 by omega)], set_own]; exact H4.out.2.2.2.2
        by_cases h14 : d = 14
        · subst h14
          have HJ := Lib.hid (show ¬ isJ 14 by unfold isJ; omega)
          go_wp2_with fail
          refine ⟨⟨k + 1, by omega, by go_num, H4.out.2.1, H4.out.2.2.1, ?_, ?_⟩, by show c.l.length - ((k : Int) + 1).toNat < c.l.length - (k : Int).toNat; omega⟩
          · rw [pl_succ hkl, ← HX.out, show impI c.l ⟨14, a, b, c'⟩ = (pl c k).getD k default by rw [pl_get hkl, ← HX.out]; unfold impI; rw [if_neg HJ.out], set_selfI]; exact H4.out.2.2.2.1
          · rw [ph_succ (by have := HV3.out; omega), ← HX.out, show impH ⟨14, a, b, c'⟩ (c.h.getD k 0) = (ph c k).getD k 0 by rw [ph_get]; unfold impH; rw [if_pos (show (14 : Int) = 7 ∨ (14 : Int) = 14 by omega)], set_own]; exact H4.out.2.2.2.2
        · have HJ := Lib.hid (show ¬ isJ d by unfold isJ; omega)
          have HDD := Lib.hid (show ¬ (d = 7 ∨ d = 14) by omega)
          have hb4 : (d == 4) = false := by simp [h4]
          have hb5 : (d == 5) = false := by simp [h5]
          have hb8 : (d == 8) = false := by simp [h8]
          have hb7 : (d == 7) = false := by simp [h7]
          have hb14 : (d == 14) = false := by simp [h14]
          have hc7 : (d != 7) = true := by simp [h7]
          have hc14 : (d != 14) = true := by simp [h14]
          obtain ⟨lgh, _, fgh, cgh⟩ := own_cells H4.out.2.2.2.2
          have q4 := cgh k (.int .i64 ((ph c k).getD k 0)) (by simp [List.getD_eq_getElem?_getD, HHp.out])
          have f4 := fgh k
          have d1 := H4.out.2.1.cell 1 rfl
          have r0 : w4.cell? ⟨R, 0, none⟩ = some (.int .i64 d) := H4.out.1.cell 0 rfl
          have hkh : (k : Int) < c.h.length := by have := HV3.out; omega
          clear fgh cgh
          go_wp2_with fail
          clear q4 f4 d1 lgh r0
          refine ⟨⟨k + 1, by omega, by go_num, H4.out.2.1.other HNe.out.2.2 _, H4.out.2.2.1.setCell (p := ⟨gh, k, none⟩) bgh _, ?_, ?_⟩, by show c.l.length - ((k : Int) + 1).toNat < c.l.length - (k : Int).toNat; omega⟩
          · rw [pl_succ hkl, ← HX.out, show impI c.l ⟨d, a, b, c'⟩ = (pl c k).getD k default by rw [pl_get hkl, ← HX.out]; unfold impI; rw [if_neg HJ.out], set_selfI]; exact ownsRow_setCell_other H4.out.2.2.2.1 (by simp [Value.ownBlock]; exact HNe.out.1) _
          · rw [ph_succ (by have := HV3.out; omega), ← HX.out, show impH ⟨d, a, b, c'⟩ (c.h.getD k 0) = -1 by unfold impH; rw [if_neg HDD.out], List.map_set]; exact own_set H4.out.2.2.2.2 _ _
        --E1
      · have hkn : k = c.l.length := by omega
        subst hkn
        have hlc := HV3.out
        have hhl : (impD c).h.length = c.h.length := by simp [impD, hlc]
        rw [pl_end] at hO
        rw [ph_end hlc] at hP
        have d0 := hD.cell 0 rfl
        have d1 := hD.cell 1 rfl
        have hcd : CdAt wr (some ⟨gl, 0, none⟩) lc2 (some ⟨gh, 0, none⟩) hc2 (impD c) := ⟨by show SlA _ 4 _ (impD c).l.length _ _; rw [impD_len]; exact (ownsRow_slA hO).2, by show SlA _ 1 _ (impD c).h.length _ _; rw [hhl]; exact (ownsRow_slA hP).2⟩
        have hre := reached_any wr (some ⟨gl, 0, none⟩) lc2 (some ⟨gh, 0, none⟩) hc2 (impD c) hcd (codeV_impD HV.out)
        rw [impD_len, hhl] at hre
        have HRe := Lib.hid hre
        have HF := Lib.hid (And.intro hD (And.intro hbl (And.intro hO hP)))
        clear hD hbl hO hP hre hcd hlc hhl
        go_wp2_with fail
        refine HRe.out.mono ?_
        rintro e w2 ⟨O, bs, rfl, hb2, hOw, hOb, hbsl, hbsr⟩
        have HBs := Lib.hid (And.intro hbsl hbsr)
        have HD2 := Lib.hid (HF.out.1.old hb2)
        have HL2 := Lib.hid (HF.out.2.1.trans (hb2.mono HF.out.2.1.size))
        have HO2 := Lib.hid (own_old HF.out.2.2.1 hb2)
        have HP2 := Lib.hid (own_old HF.out.2.2.2 hb2)
        have HK2 := Lib.hid (show Blk w2 O ((stk (impD c) bs 0).map Value.bool).toArray 4 by rw [stk_zero (by rw [hbsl, impD_len])]; exact hOb)
        have lD := HF.out.1.lt
        have lgl := (own_cells HF.out.2.2.1).1
        have lgh := (own_cells HF.out.2.2.2).1
        have HOw := Lib.hid (show ¬ (O = D) ∧ ¬ (O = gl) ∧ ¬ (O = gh) ∧ w1.heap.size ≤ O from ⟨by omega, by omega, by omega, by have := HF.out.2.1.size; omega⟩)
        clear hb2 hOw hOb hbsl hbsr HRe HF lD lgl lgh d1
        have d0 := HD2.out.cell 0 rfl
        go_wp2_with fail
        clear d0
--L2
        go_loopw [78] (fun i wr => ∃ (k : Nat), k ≤ c.l.length ∧ i = .int .i64 k ∧ Blk wr D #[.slice (some ⟨gl, 0, none⟩) c.l.length lc2, .slice (some ⟨gh, 0, none⟩) c.h.length hc2] 30 ∧ Blk wr O ((stk (impD c) bs k).map Value.bool).toArray 4 ∧ Below w1.heap.size w1 wr ∧ wr.ownsRow w1.heap.size 53 4 (.slice (some ⟨gl, 0, none⟩) c.l.length lc2) c.l.length (flat (impD c).l) ∧ wr.ownsRow w1.heap.size 3 1 (.slice (some ⟨gh, 0, none⟩) c.h.length hc2) c.h.length ((impD c).h.map (Value.int .i64))) (fun i _ => c.l.length - (intOf i).toNat)
        case atStart => exact ⟨0, by omega, rfl, HD2.out, HK2.out, HL2.out, HO2.out, HP2.out⟩
        case round =>
          clear HD2 HK2 HL2 HO2 HP2
          obtain ⟨k, hk, rfl, hD, hK, hbl, hO, hP⟩ := hrel
          by_cases hkl : k < c.l.length
          · have hkd : k < (impD c).l.length := by rw [impD_len]; exact hkl
            obtain ⟨lgl, _, fgl, cgl⟩ := own_cells hO
            obtain ⟨x, hx⟩ : ∃ x, x = (impD c).l.getD k default := ⟨_, rfl⟩
            have q0 := cgl (k * 4 + 0) _ (flat_get (impD c).l k hkd 0 (by omega))
            have q1 := cgl (k * 4 + 1) _ (flat_get (impD c).l k hkd 1 (by omega))
            have q2 := cgl (k * 4 + 2) _ (flat_get (impD c).l k hkd 2 (by omega))
            have q3 := cgl (k * 4 + 3) _ (flat_get (impD c).l k hkd 3 (by omega))
            rw [← hx] at q0 q1 q2 q3
            have q0 : wr.cell? ⟨gl, k * 4, none⟩ = some (.int .i64 x.d) := q0
            have q1 : wr.cell? ⟨gl, k * 4 + 1, none⟩ = some (.int .i64 x.a) := q1
            have q2 : wr.cell? ⟨gl, k * 4 + 2, none⟩ = some (.int .i64 x.b) := q2
            have q3 : wr.cell? ⟨gl, k * 4 + 3, none⟩ = some (.int .i64 x.c) := q3
            have hkl2 : (k : Int) < c.l.length := by omega
            have hkw : IntKind.i64.wrap ((k : Int) + 1) = k + 1 := IntWalk.i64_in _ (by have := HV2.out; omega)
            have HX := Lib.hid hx
            have HF := Lib.hid (And.intro hD (And.intro hK (And.intro hbl (And.intro hO hP))))
            clear hD hK hbl hO hP fgl cgl hx
            go_upto_region 16 with fail
            have hR := Blk.new wr #[.int .i64 x.d, .int .i64 x.a, .int .i64 x.b, .int .i64 x.c] 53
            have hD4 := HF.out.1.alloc (.cells #[.int .i64 x.d, .int .i64 x.a, .int .i64 x.b, .int .i64 x.c] 53)
            have hK4 := HF.out.2.1.alloc (.cells #[.int .i64 x.d, .int .i64 x.a, .int .i64 x.b, .int .i64 x.c] 53)
            have hb4 := HF.out.2.2.1.alloc HF.out.2.2.1.size (.cells #[.int .i64 x.d, .int .i64 x.a, .int .i64 x.b, .int .i64 x.c] 53)
            have hO4 := HF.out.2.2.2.1.alloc (.cells #[.int .i64 x.d, .int .i64 x.a, .int .i64 x.b, .int .i64 x.c] 53)
            have hP4 := HF.out.2.2.2.2.alloc (.cells #[.int .i64 x.d, .int .i64 x.a, .int .i64 x.b, .int .i64 x.c] 53)
            have hOR : O < wr.heap.size := HF.out.2.1.lt
            have hDR : D < wr.heap.size := HF.out.1.lt
            obtain ⟨R, hRR⟩ : ∃ R, R = wr.heap.size := ⟨_, rfl⟩
            rw [← hRR] at hR hOR hDR ⊢
            generalize (wr.alloc (.cells #[.int .i64 x.d, .int .i64 x.a, .int .i64 x.b, .int .i64 x.c] 53)) = w4 at hR hD4 hK4 hb4 hO4 hP4 ⊢
            have H4 := Lib.hid (And.intro hD4 (And.intro hK4 (And.intro hb4 (And.intro hO4 hP4))))
            have d0 := hD4.cell 0 rfl
            have r0 : w4.cell? ⟨R, 0, none⟩ = some (.int .i64 x.d) := hR.cell 0 rfl
            have r1 : w4.cell? ⟨R, 1, none⟩ = some (.int .i64 x.a) := hR.cell 1 rfl
            have r2 : w4.cell? ⟨R, 2, none⟩ = some (.int .i64 x.b) := hR.cell 2 rfl
            have hks : k < (stk (impD c) bs k).length := by rw [stk_len, impD_len]; exact hkl
            have ok := hK4.cell k (v := .bool ((stk (impD c) bs k).getD k false)) (by simp [List.getD_eq_getElem?_getD, hks])
            have fk := hK4.frozen k
            have lO := hK4.lt
            have hsx := stk_succ (d := impD c) (bs := bs) hkd
            rw [impD_len] at hsx
            have HSx := Lib.hid hsx
            have hid : idleB (impD c) k = decide ((x.d = 2 ∧ x.a = x.b) ∨ (x.d = 4 ∧ x.a = (k : Int) + 1)) := by unfold idleB; rw [← HX.out]
            have HId := Lib.hid hid
            clear hR hD4 hK4 hb4 hO4 hP4 HF q0 q1 q2 q3 hRR lgl hsx hid
            obtain ⟨d, a, b, c'⟩ := x
            dsimp only at r0 r1 r2
            by_cases h2 : d = 2
            · subst h2
              by_cases hab : a = b
              · subst hab
                by_cases hn : k + 1 < c.l.length
                · have hn2 : (k : Int) + 1 < c.l.length := by omega
                  go_wp2_with fail
                  have hcut : (idleB (impD c) k && decide (k + 1 < c.l.length)) = true := by rw [HId.out, decide_eq_true hn]; simp
                  have hK6 := H4.out.2.1.set k (.bool false)
                  rw [List.setIfInBounds_toArray, ← List.map_set] at hK6
                  refine ⟨⟨k + 1, by omega, by go_num, H4.out.1.other (fun h => HOw.out.1 h.symm) _, ?_, H4.out.2.2.1.setCell (p := ⟨O, k, none⟩) HOw.out.2.2.2 _, ownsRow_setCell_other H4.out.2.2.2.1 (by simp [Value.ownBlock]; exact fun h => HOw.out.2.1 h.symm) _, ownsRow_setCell_other H4.out.2.2.2.2 (by simp [Value.ownBlock]; exact fun h => HOw.out.2.2.1 h.symm) _⟩, by show c.l.length - ((k : Int) + 1).toNat < c.l.length - (k : Int).toNat; omega⟩
                  rw [HSx.out, if_pos hcut]; exact hK6
                · have hn2 : ¬ ((k : Int) + 1 < c.l.length) := by omega
                  go_wp2_with fail
                  have hcut : ¬ ((idleB (impD c) k && decide (k + 1 < c.l.length)) = true) := by rw [decide_eq_false hn]; simp
                  refine ⟨⟨k + 1, by omega, by go_num, H4.out.1, ?_, H4.out.2.2.1, H4.out.2.2.2.1, H4.out.2.2.2.2⟩, by show c.l.length - ((k : Int) + 1).toNat < c.l.length - (k : Int).toNat; omega⟩
                  rw [HSx.out, if_neg hcut]; exact H4.out.2.1
              · have hb : (a == b) = false := by simp [hab]
                go_wp2_with fail
                have hcut : ¬ ((idleB (impD c) k && decide (k + 1 < c.l.length)) = true) := by rw [HId.out]; simp only [Bool.and_eq_true, decide_eq_true_eq]; rintro ⟨h | h, _⟩ <;> omega
                refine ⟨⟨k + 1, by omega, by go_num, H4.out.1, ?_, H4.out.2.2.1, H4.out.2.2.2.1, H4.out.2.2.2.2⟩, by show c.l.length - ((k : Int) + 1).toNat < c.l.length - (k : Int).toNat; omega⟩
                rw [HSx.out, if_neg hcut]; exact H4.out.2.1
            by_cases h4 : d = 4
            · subst h4
              by_cases hab : a = (k : Int) + 1
              · subst hab
                by_cases hn : k + 1 < c.l.length
                · have hn2 : (k : Int) + 1 < c.l.length := by omega
                  go_wp2_with fail
                  have hcut : (idleB (impD c) k && decide (k + 1 < c.l.length)) = true := by rw [HId.out, decide_eq_true hn]; simp
                  have hK6 := H4.out.2.1.set k (.bool false)
                  rw [List.setIfInBounds_toArray, ← List.map_set] at hK6
                  refine ⟨⟨k + 1, by omega, by go_num, H4.out.1.other (fun h => HOw.out.1 h.symm) _, ?_, H4.out.2.2.1.setCell (p := ⟨O, k, none⟩) HOw.out.2.2.2 _, ownsRow_setCell_other H4.out.2.2.2.1 (by simp [Value.ownBlock]; exact fun h => HOw.out.2.1 h.symm) _, ownsRow_setCell_other H4.out.2.2.2.2 (by simp [Value.ownBlock]; exact fun h => HOw.out.2.2.1 h.symm) _⟩, by show c.l.length - ((k : Int) + 1).toNat < c.l.length - (k : Int).toNat; omega⟩
                  rw [HSx.out, if_pos hcut]; exact hK6
                · have hn2 : ¬ ((k : Int) + 1 < c.l.length) := by omega
                  go_wp2_with fail
                  have hcut : ¬ ((idleB (impD c) k && decide (k + 1 < c.l.length)) = true) := by rw [decide_eq_false hn]; simp
                  refine ⟨⟨k + 1, by omega, by go_num, H4.out.1, ?_, H4.out.2.2.1, H4.out.2.2.2.1, H4.out.2.2.2.2⟩, by show c.l.length - ((k : Int) + 1).toNat < c.l.length - (k : Int).toNat; omega⟩
                  rw [HSx.out, if_neg hcut]; exact H4.out.2.1
              · have hb : (a == (k : Int) + 1) = false := by simp [hab]
                go_wp2_with fail
                have hcut : ¬ ((idleB (impD c) k && decide (k + 1 < c.l.length)) = true) := by rw [HId.out]; simp only [Bool.and_eq_true, decide_eq_true_eq]; rintro ⟨h | h, _⟩ <;> omega
                refine ⟨⟨k + 1, by omega, by go_num, H4.out.1, ?_, H4.out.2.2.1, H4.out.2.2.2.1, H4.out.2.2.2.2⟩, by show c.l.length - ((k : Int) + 1).toNat < c.l.length - (k : Int).toNat; omega⟩
                rw [HSx.out, if_neg hcut]; exact H4.out.2.1
            · have hb2 : (d == 2) = false := by simp [h2]
              have hb4 : (d == 4) = false := by simp [h4]
              go_wp2_with fail
              have hcut : ¬ ((idleB (impD c) k && decide (k + 1 < c.l.length)) = true) := by rw [HId.out]; simp only [Bool.and_eq_true, decide_eq_true_eq]; rintro ⟨h | h, _⟩ <;> omega
              refine ⟨⟨k + 1, by omega, by go_num, H4.out.1, ?_, H4.out.2.2.1, H4.out.2.2.2.1, H4.out.2.2.2.2⟩, by show c.l.length - ((k : Int) + 1).toNat < c.l.length - (k : Int).toNat; omega⟩
              rw [HSx.out, if_neg hcut]; exact H4.out.2.1
          · have hkn : k = c.l.length := by omega
            subst hkn
            have hst := stk_stay (d := impD c) (bs := bs) HBs.out.2
            rw [impD_len] at hst
            have HSt := Lib.hid hst
            have HF := Lib.hid (And.intro hD (And.intro hK (And.intro hbl (And.intro hO hP))))
            clear hst hD hK hbl hO hP HBs
            generalize stk (impD c) bs c.l.length = st at HSt HF
            have d0 := HF.out.1.cell 0 rfl
            have hmk := run_make_row' (P := Try.prog) 23 3 (.int .i64 0) 8 Try.underlying23 (by kernel_rfl) rfl .i64 .i64 c.l.length (by have := HV2.out; omega) (by have := HV2.out; omega)
            rw [made_rep] at hmk
            obtain ⟨G, hG⟩ : ∃ G, G = wr.heap.size := ⟨_, rfl⟩
            have lD := HF.out.1.lt
            go_wp2_with fail
            clear hmk d0
            have hgG : Blk ((wr.alloc (.cells (Array.replicate c.l.length (Value.int .i64 0)) 3)).alloc (.cells #[.slice none 0 0, .slice none 0 0] 30)) G ((pk st c.l.length 0).map (Value.int .i64)).toArray 3 := by rw [pk_zero, List.map_replicate, List.toArray_replicate]; exact (Blk.new' _ _ hG).alloc _
            have hgX : Blk ((wr.alloc (.cells (Array.replicate c.l.length (Value.int .i64 0)) 3)).alloc (.cells #[.slice none 0 0, .slice none 0 0] 30)) (G+1) #[.slice none 0 0, .slice none 0 0] 30 := Blk.new' _ _ (by simp [hG])
            have hgB := (HF.out.2.2.1.alloc HF.out.2.2.1.size (.cells (Array.replicate c.l.length (Value.int .i64 0)) 3)).alloc (by have := HF.out.2.2.1.size; simp; omega) (.cells #[.slice none 0 0, .slice none 0 0] 30)
            have hgD := (HF.out.1.alloc (.cells (Array.replicate c.l.length (Value.int .i64 0)) 3)).alloc (.cells #[.slice none 0 0, .slice none 0 0] 30)
            have hgK := (HF.out.2.1.alloc (.cells (Array.replicate c.l.length (Value.int .i64 0)) 3)).alloc (.cells #[.slice none 0 0, .slice none 0 0] 30)
            have hgO := (HF.out.2.2.2.1.alloc (.cells (Array.replicate c.l.length (Value.int .i64 0)) 3)).alloc (.cells #[.slice none 0 0, .slice none 0 0] 30)
            have hgP := (HF.out.2.2.2.2.alloc (.cells (Array.replicate c.l.length (Value.int .i64 0)) 3)).alloc (.cells #[.slice none 0 0, .slice none 0 0] 30)
            have HGs := Lib.hid (show D < G ∧ O < G ∧ gl < G ∧ gh < G ∧ w1.heap.size ≤ G from ⟨by rw [hG]; exact HF.out.1.lt, by rw [hG]; exact HF.out.2.1.lt, by rw [hG]; exact (own_cells HF.out.2.2.2.1).1, by rw [hG]; exact (own_cells HF.out.2.2.2.2).1, by rw [hG]; exact HF.out.2.2.1.size⟩)
            have H6 := Lib.hid (And.intro hgG (And.intro hgX (And.intro hgB (And.intro hgD (And.intro hgK (And.intro hgO hgP))))))
            clear hgG hgX hgB hgD hgK hgO hgP HF lD
            rw [← hG]
            clear hG
            go_loopw [125] (fun i w5 => ∃ (k : Nat) (lo3 : Option Addr) (lc3 : Nat) (ho3 : Option Addr) (hc3 : Nat), k ≤ c.l.length ∧ i = .int .i64 k ∧ Blk w5 D #[.slice (some ⟨gl, 0, none⟩) c.l.length lc2, .slice (some ⟨gh, 0, none⟩) c.h.length hc2] 30 ∧ Blk w5 O (st.map Value.bool).toArray 4 ∧ Blk w5 G ((pk st c.l.length k).map (Value.int .i64)).toArray 3 ∧ Blk w5 (G+1) #[.slice lo3 (plc st k) lc3, .slice ho3 (plc st k) hc3] 30 ∧ Below w1.heap.size w1 w5 ∧ w5.ownsRow w1.heap.size 53 4 (.slice (some ⟨gl, 0, none⟩) c.l.length lc2) c.l.length (flat (impD c).l) ∧ w5.ownsRow w1.heap.size 3 1 (.slice (some ⟨gh, 0, none⟩) c.h.length hc2) c.h.length ((impD c).h.map (Value.int .i64)) ∧ w5.ownsRow (G+1+1) 53 4 (.slice lo3 (plc st k) lc3) (plc st k) (flat ((keeps st k).map fun i => (impD c).l.getD i default)) ∧ w5.ownsRow (G+1+1) 3 1 (.slice ho3 (plc st k) hc3) (plc st k) (((keeps st k).map fun i => (impD c).h.getD i 0).map (Value.int .i64))) (fun i _ => c.l.length - (intOf i).toNat)
            case atStart => exact ⟨0, none, 0, none, 0, by omega, rfl, H6.out.2.2.2.1, H6.out.2.2.2.2.1, H6.out.1, by rw [show plc st 0 = 0 by simp [plc]]; exact H6.out.2.1, H6.out.2.2.1, H6.out.2.2.2.2.2.1, H6.out.2.2.2.2.2.2, by rw [show plc st 0 = 0 by simp [plc], show keeps st 0 = [] from rfl]; exact World.ownsRow_nil _ _ _ _, by rw [show plc st 0 = 0 by simp [plc], show keeps st 0 = [] from rfl]; exact World.ownsRow_nil _ _ _ _⟩
            case round =>
              clear H6
              obtain ⟨k, lo3, lc3, ho3, hc3, hk, rfl, hD, hK, hG, hX, hbl, hO, hP, hU, hV⟩ := hrel
              by_cases hkl : k < c.l.length
              · have hkd : k < (impD c).l.length := by rw [impD_len]; exact hkl
                obtain ⟨lgl, _, fgl, cgl⟩ := own_cells hO
                obtain ⟨x, hx⟩ : ∃ x, x = (impD c).l.getD k default := ⟨_, rfl⟩
                have q0 := cgl (k * 4 + 0) _ (flat_get (impD c).l k hkd 0 (by omega))
                have q1 := cgl (k * 4 + 1) _ (flat_get (impD c).l k hkd 1 (by omega))
                have q2 := cgl (k * 4 + 2) _ (flat_get (impD c).l k hkd 2 (by omega))
                have q3 := cgl (k * 4 + 3) _ (flat_get (impD c).l k hkd 3 (by omega))
                rw [← hx] at q0 q1 q2 q3
                have q0 : wr.cell? ⟨gl, k * 4, none⟩ = some (.int .i64 x.d) := q0
                have q1 : wr.cell? ⟨gl, k * 4 + 1, none⟩ = some (.int .i64 x.a) := q1
                have q2 : wr.cell? ⟨gl, k * 4 + 2, none⟩ = some (.int .i64 x.b) := q2
                have q3 : wr.cell? ⟨gl, k * 4 + 3, none⟩ = some (.int .i64 x.c) := q3
                have hkl2 : (k : Int) < c.l.length := by omega
                have hkw : IntKind.i64.wrap ((k : Int) + 1) = k + 1 := IntWalk.i64_in _ (by have := HV2.out; omega)
                have HX := Lib.hid hx
                have HF := Lib.hid (And.intro hD (And.intro hK (And.intro hG (And.intro hX (And.intro hbl (And.intro hO (And.intro hP (And.intro hU hV))))))))
                clear hD hK hG hX hbl hO hP hU hV fgl cgl hx
                go_upto_region 25 with fail
                have aR := Blk.new wr #[.int .i64 x.d, .int .i64 x.a, .int .i64 x.b, .int .i64 x.c] 53
                have aD := HF.out.1.alloc (.cells #[.int .i64 x.d, .int .i64 x.a, .int .i64 x.b, .int .i64 x.c] 53)
                have aK := HF.out.2.1.alloc (.cells #[.int .i64 x.d, .int .i64 x.a, .int .i64 x.b, .int .i64 x.c] 53)
                have aG := HF.out.2.2.1.alloc (.cells #[.int .i64 x.d, .int .i64 x.a, .int .i64 x.b, .int .i64 x.c] 53)
                have aX := HF.out.2.2.2.1.alloc (.cells #[.int .i64 x.d, .int .i64 x.a, .int .i64 x.b, .int .i64 x.c] 53)
                have aB := HF.out.2.2.2.2.1.alloc HF.out.2.2.2.2.1.size (.cells #[.int .i64 x.d, .int .i64 x.a, .int .i64 x.b, .int .i64 x.c] 53)
                have aO := HF.out.2.2.2.2.2.1.alloc (.cells #[.int .i64 x.d, .int .i64 x.a, .int .i64 x.b, .int .i64 x.c] 53)
                have aP := HF.out.2.2.2.2.2.2.1.alloc (.cells #[.int .i64 x.d, .int .i64 x.a, .int .i64 x.b, .int .i64 x.c] 53)
                have aU := HF.out.2.2.2.2.2.2.2.1.alloc (.cells #[.int .i64 x.d, .int .i64 x.a, .int .i64 x.b, .int .i64 x.c] 53)
                have aV := HF.out.2.2.2.2.2.2.2.2.alloc (.cells #[.int .i64 x.d, .int .i64 x.a, .int .i64 x.b, .int .i64 x.c] 53)
                have hXR : G + 1 < wr.heap.size := HF.out.2.2.2.1.lt
                obtain ⟨R, hRR⟩ : ∃ R, R = wr.heap.size := ⟨_, rfl⟩
                rw [← hRR] at aR hXR ⊢
                generalize (wr.alloc (.cells #[.int .i64 x.d, .int .i64 x.a, .int .i64 x.b, .int .i64 x.c] 53)) = w4 at aR aD aK aG aX aB aO aP aU aV ⊢
                clear hRR HF
                have x0 := aX.cell 0 rfl
                have x1 := aX.cell 1 rfl
                have hks : k < st.length := by rw [HSt.out.len]; exact hkd
                have hpl : plc st k ≤ 2000 := by have h1 := plc_le st k; have := HV2.out; omega
                have gk := aG.cell k (v := .int .i64 ((pk st c.l.length k).getD k 0)) (by simp [List.getD_eq_getElem?_getD, pk_len, hkl])
                have fg := aG.frozen k
                have lG := aG.lt
                have ok := aK.cell k (v := .bool (st.getD k false)) (by simp [List.getD_eq_getElem?_getD, hks])
                have hGD : ¬ (D = G) := by have := HGs.out.1; omega
                have hGO : ¬ (O = G) := by have := HGs.out.2.1; omega
                have hGgl : ¬ (gl = G) := by have := HGs.out.2.2.1; omega
                have hGgh : ¬ (gh = G) := by have := HGs.out.2.2.2.1; omega
                have lX := aX.lt
                go_upto_region 26 with fail
                have bG := aG.set k (.int .i64 (plc st k))
                rw [List.setIfInBounds_toArray, ← List.map_set, ← pk_succ] at bG
                have h5 := (And.intro (aR.other (a := ⟨G, k, none⟩) (by show R ≠ G; omega) (.int .i64 (plc st k))) (And.intro (aD.other (a := ⟨G, k, none⟩) hGD (.int .i64 (plc st k))) (And.intro (aK.other (a := ⟨G, k, none⟩) hGO (.int .i64 (plc st k))) (And.intro bG (And.intro (aX.other (a := ⟨G, k, none⟩) (by show G + 1 ≠ G; omega) (.int .i64 (plc st k))) (And.intro (aB.setCell (p := ⟨G, k, none⟩) HGs.out.2.2.2.2 (.int .i64 (plc st k))) (And.intro (ownsRow_setCell_other aO (a := ⟨G, k, none⟩) (by simp [Value.ownBlock]; exact hGgl) (.int .i64 (plc st k))) (And.intro (ownsRow_setCell_other aP (a := ⟨G, k, none⟩) (by simp [Value.ownBlock]; exact hGgh) (.int .i64 (plc st k))) (And.intro (ownsRow_setCell_below aU (a := ⟨G, k, none⟩) (by show G < G + 1 + 1; omega) (.int .i64 (plc st k))) (ownsRow_setCell_below aV (a := ⟨G, k, none⟩) (by show G < G + 1 + 1; omega) (.int .i64 (plc st k))))))))))))
                generalize w4.setCell ⟨G, k, none⟩ (.int .i64 (plc st k)) = w5 at h5 ⊢
                have H5 := Lib.hid h5
                clear h5 aR aD aK aG aX aB aO aP aU aV x0 x1 gk fg lG ok bG q0 q1 q2 q3 lgl
                have hps := plc_succ hks
                have hkp := keeps_succ st k
                rcases hsk : st.getD k false with _ | _
                · have hsk1 : st[k] = false := by simpa [List.getD_eq_getElem?_getD, hks] using hsk
                  have ok := H5.out.2.2.1.cell k (v := .bool false) (by simp [hks, hsk1])
                  rw [hsk, if_neg (by decide), Nat.add_zero] at hps
                  rw [hsk, if_neg (by decide), List.append_nil] at hkp
                  have HPs := Lib.hid (And.intro hps hkp)
                  clear hps hkp hsk hsk1
                  go_wp2_with fail
                  refine ⟨⟨k + 1, lo3, lc3, ho3, hc3, by omega, by go_num, H5.out.2.1, H5.out.2.2.1, H5.out.2.2.2.1, by rw [HPs.out.1]; exact H5.out.2.2.2.2.1, H5.out.2.2.2.2.2.1, H5.out.2.2.2.2.2.2.1, H5.out.2.2.2.2.2.2.2.1, by rw [HPs.out.1, HPs.out.2]; exact H5.out.2.2.2.2.2.2.2.2.1, by rw [HPs.out.1, HPs.out.2]; exact H5.out.2.2.2.2.2.2.2.2.2⟩, by show c.l.length - ((k : Int) + 1).toNat < c.l.length - (k : Int).toNat; omega⟩
                · have hsk1 : st[k] = true := by simpa [List.getD_eq_getElem?_getD, hks] using hsk
                  have ok := H5.out.2.2.1.cell k (v := .bool true) (by simp [hks, hsk1])
                  rw [hsk, if_pos rfl] at hps hkp
                  have HPs := Lib.hid (And.intro hps hkp)
                  clear hps hkp hsk hsk1
                  have x0 := H5.out.2.2.2.2.1.cell 0 rfl
                  have r0 : w5.cell? ⟨R, 0, none⟩ = some (.int .i64 x.d) := H5.out.1.cell 0 rfl
                  have r1 : w5.cell? ⟨R, 1, none⟩ = some (.int .i64 x.a) := H5.out.1.cell 1 rfl
                  have r2 : w5.cell? ⟨R, 2, none⟩ = some (.int .i64 x.b) := H5.out.1.cell 2 rfl
                  have r3 : w5.cell? ⟨R, 3, none⟩ = some (.int .i64 x.c) := H5.out.1.cell 3 rfl
                  go_upto_region 27 with fail
                  have hU := H5.out.2.2.2.2.2.2.2.2.1
                  have hV := H5.out.2.2.2.2.2.2.2.2.2
                  have lX5 := H5.out.2.2.2.2.1.lt
                  have hnUV := own_own_ne hU hV (by decide)
                  have HUV := Lib.hid (And.intro hU (And.intro hV hnUV))
                  clear hU hV hnUV
                  go_upto_region 28 with (first
                    | (at_builtin; refine wpList_append_sl rfl (.tmp 141) (.tmp 143) 28 rfl (G+1+1) 53 4 32 elReg (.slice lo3 (plc st k) lc3) (plc st k) (flat ((keeps st k).map fun i => (impD c).l.getD i default)) rfl (HUV.out.1.alloc _) _ 1 1 (flat [x]) rfl (sla_built _ #[.int .i64 x.d, .int .i64 x.a, .int .i64 x.b, .int .i64 x.c] 53 rfl) (flat_one _) (by omega) (by unfold maxLen; omega) (by simp; omega) ?_
                       intro ao1 cap1 w6 hown hg
                       have gD := (H5.out.2.1.alloc (.cells #[.int .i64 x.d, .int .i64 x.a, .int .i64 x.b, .int .i64 x.c] 53)).grown hg (own_ne HUV.out.1 (by have := HGs.out.1; omega))
                       have gX := (H5.out.2.2.2.2.1.alloc (.cells #[.int .i64 x.d, .int .i64 x.a, .int .i64 x.b, .int .i64 x.c] 53)).grown hg (own_ne HUV.out.1 (by omega))
                       have HX6 := Lib.hid gX
                       have HD6 := Lib.hid gD
                       have HW6 := Lib.hid (And.intro hown hg)
                       have x0 := gX.cell 0 rfl
                       have fx := gX.frozen 0
                       have lX6 := gX.lt
                       clear hown hg gD gX))
                  have hg := HW6.out.2
                  have hown := HW6.out.1
                  have gG := HGs.out.1
                  have gO := HGs.out.2.1
                  have ggl := HGs.out.2.2.1
                  have ggh := HGs.out.2.2.2.1
                  have gw := HGs.out.2.2.2.2
                  have e7D := HD6.out.other (a := ⟨G+1, 0, none⟩) (by show D ≠ G + 1; omega) (.slice ao1 (plc st k + 1) cap1)
                  have e7K := ((H5.out.2.2.1.alloc (.cells #[.int .i64 x.d, .int .i64 x.a, .int .i64 x.b, .int .i64 x.c] 53)).grown hg (own_ne HUV.out.1 (by omega))).other (a := ⟨G+1, 0, none⟩) (by show O ≠ G + 1; omega) (.slice ao1 (plc st k + 1) cap1)
                  have e7G := ((H5.out.2.2.2.1.alloc (.cells #[.int .i64 x.d, .int .i64 x.a, .int .i64 x.b, .int .i64 x.c] 53)).grown hg (own_ne HUV.out.1 (by omega))).other (a := ⟨G+1, 0, none⟩) (by show G ≠ G + 1; omega) (.slice ao1 (plc st k + 1) cap1)
                  have e7X := HX6.out.set 0 (.slice ao1 (plc st k + 1) cap1)
                  have e7B := (((H5.out.2.2.2.2.2.1.alloc H5.out.2.2.2.2.2.1.size (.cells #[.int .i64 x.d, .int .i64 x.a, .int .i64 x.b, .int .i64 x.c] 53)).grown hg (by have := H5.out.2.2.2.2.2.1.size; simp; omega) (fun j hj => by have := (HUV.out.1.lt j hj).1; omega))).setCell (p := ⟨G+1, 0, none⟩) (by show w1.heap.size ≤ G + 1; omega) (.slice ao1 (plc st k + 1) cap1)
                  have e7O := ownsRow_setCell_other ((H5.out.2.2.2.2.2.2.1.alloc (.cells #[.int .i64 x.d, .int .i64 x.a, .int .i64 x.b, .int .i64 x.c] 53)).kept hg (.inr (own_ne HUV.out.1 (b := gl) (by omega)))) (a := ⟨G+1, 0, none⟩) (by simp [Value.ownBlock]; omega) (.slice ao1 (plc st k + 1) cap1)
                  have e7P := ownsRow_setCell_other ((H5.out.2.2.2.2.2.2.2.1.alloc (.cells #[.int .i64 x.d, .int .i64 x.a, .int .i64 x.b, .int .i64 x.c] 53)).kept hg (.inr (own_ne HUV.out.1 (b := gh) (by omega)))) (a := ⟨G+1, 0, none⟩) (by simp [Value.ownBlock]; omega) (.slice ao1 (plc st k + 1) cap1)
                  have e7U := ownsRow_setCell_below hown (a := ⟨G+1, 0, none⟩) (by show G + 1 < G + 1 + 1; omega) (.slice ao1 (plc st k + 1) cap1)
                  have e7V := ownsRow_setCell_below ((HUV.out.2.1.alloc (.cells #[.int .i64 x.d, .int .i64 x.a, .int .i64 x.b, .int .i64 x.c] 53)).kept hg HUV.out.2.2) (a := ⟨G+1, 0, none⟩) (by show G + 1 < G + 1 + 1; omega) (.slice ao1 (plc st k + 1) cap1)
                  generalize w6.setCell ⟨G+1, 0, none⟩ (.slice ao1 (plc st k + 1) cap1) = w7 at e7D e7K e7G e7X e7B e7O e7P e7U e7V ⊢
                  rw [HX.out, show ([(impD c).l.getD k default] : List Ins) = [k].map (fun i => (impD c).l.getD i default) from rfl, ← flat_append, ← List.map_append, ← HPs.out.2, ← HPs.out.1] at e7U
                  have H7 := Lib.hid (And.intro e7D (And.intro e7K (And.intro e7G (And.intro e7X (And.intro e7B (And.intro e7O (And.intro e7P (And.intro e7U e7V))))))))
                  have x1 : w7.cell? ⟨G+1, 1, none⟩ = some (.slice ho3 (plc st k) hc3) := e7X.cell 1 rfl
                  have dd1 : w7.cell? ⟨D, 1, none⟩ = some (.slice (some ⟨gh, 0, none⟩) c.h.length hc2) := e7D.cell 1 rfl
                  have cgh := (own_cells e7P).2.2.2
                  have hkh : (k : Int) < c.h.length := by have := HV3.out; omega
                  have qh := cgh k (.int .i64 ((impD c).h.getD k 0)) (by simp [List.getD_eq_getElem?_getD, show k < (impD c).h.length by simp [impD]; omega])
                  generalize hz : (impD c).h.getD k 0 = z at qh
                  have HZk := Lib.hid hz
                  have lX7 := e7X.lt
                  have lD7 := e7D.lt
                  clear hz cgh HD6 HX6 HW6 hg hown x0 fx lX6 HUV H5 e7D e7K e7G e7X e7B e7O e7P e7U e7V r0 r1 r2 r3 ok lX5
                  refine wp_held_tails (fun w => w.cell? ⟨G+1, 1, none⟩ = some (.slice ho3 (plc st k) hc3) ∧ w.cell? ⟨D, 1, none⟩ = some (.slice (some ⟨gh, 0, none⟩) c.h.length hc2) ∧ w.cell? ⟨gh, k, none⟩ = some (.int .i64 z)) 7 2 (by kernel_rfl) (by kernel_rfl) (by intro c a d v w h; cases d <;> exact h) ⟨x1, dd1, qh⟩ ?_
                  simp only [List.take_succ_cons, List.take_zero, List.drop_succ_cons, List.drop_zero]
                  repeat ((first | (apply Exists.intro; refine ⟨Or.inl ⟨by rfl, ?_⟩, ?_⟩; focus (intro w hSw; (try dsimp only at hSw); go_simp; (try with_reducible rfl); done)) | (refine ⟨_, Or.inr ⟨by rfl, rfl⟩, ?_⟩)); (try simp only [Act.put, List.setIfInBounds_toArray, List.set_cons_zero, List.set_cons_succ]))
                  refine wpHead_nil ?_
                  refine wpMids_one _ (by rfl) (by rfl) fun K hK => ?_
                  go_simp
                  refine hK _ _ ?_ ?_
                  exact ⟨cell_alloc x1 _, cell_alloc dd1 _, cell_alloc qh _⟩
                  clear hK K
                  refine wpMids_one _ (by rfl) (by rfl) fun K hK => ?_
                  refine wp_append_sl (.tmp 147) (.tmp 153) 23 rfl (G+1+1) 3 1 8 elInt (.slice ho3 (plc st k) hc3) (plc st k) (((keeps st k).map fun i => (impD c).h.getD i 0).map (Value.int .i64)) rfl (H7.out.2.2.2.2.2.2.2.2.alloc _) _ 1 1 [.int .i64 z] rfl (sla_built w7.drew #[.int .i64 z] 3 rfl) (by intro u hu; rw [List.mem_singleton.1 hu]; rfl) (by decide) (by omega) (by unfold maxLen; omega) (by simp; omega) ?_
                  intro ao2 cap2 w8 hown hg
                  have hV8 := H7.out.2.2.2.2.2.2.2.2
                  have hU8 := H7.out.2.2.2.2.2.2.2.1
                  have hVU := own_own_ne hV8 hU8 (by decide)
                  have e8D := ((H7.out.1.alloc (.cells #[.int .i64 z] 3)).drew).grown hg (own_ne hV8 (by omega))
                  have e8K := ((H7.out.2.1.alloc (.cells #[.int .i64 z] 3)).drew).grown hg (own_ne hV8 (by omega))
                  have e8G := ((H7.out.2.2.1.alloc (.cells #[.int .i64 z] 3)).drew).grown hg (own_ne hV8 (by omega))
                  have e8X := ((H7.out.2.2.2.1.alloc (.cells #[.int .i64 z] 3)).drew).grown hg (own_ne hV8 (by omega))
                  have e8B := ((H7.out.2.2.2.2.1.alloc H7.out.2.2.2.2.1.size (.cells #[.int .i64 z] 3)).drew).grown hg (by have := H7.out.2.2.2.2.1.size; simp; omega) (fun j hj => by have := (hV8.lt j hj).1; omega)
                  have e8O := (own_drew (H7.out.2.2.2.2.2.1.alloc (.cells #[.int .i64 z] 3))).kept hg (.inr (own_ne hV8 (b := gl) (by omega)))
                  have e8P := (own_drew (H7.out.2.2.2.2.2.2.1.alloc (.cells #[.int .i64 z] 3))).kept hg (.inr (own_ne hV8 (b := gh) (by omega)))
                  have e8U := (own_drew (hU8.alloc (.cells #[.int .i64 z] 3))).kept hg hVU
                  have x81 : w8.cell? ⟨G+1, 1, none⟩ = some (.slice ho3 (plc st k) hc3) := e8X.cell 1 rfl
                  have d81 : w8.cell? ⟨D, 1, none⟩ = some (.slice (some ⟨gh, 0, none⟩) c.h.length hc2) := e8D.cell 1 rfl
                  have q8 : w8.cell? ⟨gh, k, none⟩ = some (.int .i64 z) := (own_cells e8P).2.2.2 k (.int .i64 z) (by rw [← HZk.out]; simp [List.getD_eq_getElem?_getD, show k < (impD c).h.length by simp [impD]; omega])
                  refine hK _ _ ?_ ?_
                  exact ⟨x81, d81, q8⟩
                  clear hK K hV8 hU8 hVU hg d81 q8 x1 dd1 qh
                  have f81 := e8X.frozen 1
                  have l81 := e8X.lt
                  show wpList _ _ _ _ _ _
                  repeat (refine wpList_one (by rfl) fun K hK => ?_; go_simp; refine hK _ _ ?_; clear hK K)
                  have e9X := e8X.set 1 (.slice ao2 (plc st k + 1) cap2)
                  have e9D := e8D.other (a := ⟨G+1, 1, none⟩) (by show D ≠ G + 1; omega) (.slice ao2 (plc st k + 1) cap2)
                  have e9K := e8K.other (a := ⟨G+1, 1, none⟩) (by show O ≠ G + 1; omega) (.slice ao2 (plc st k + 1) cap2)
                  have e9G := e8G.other (a := ⟨G+1, 1, none⟩) (by show G ≠ G + 1; omega) (.slice ao2 (plc st k + 1) cap2)
                  have e9B := e8B.setCell (p := ⟨G+1, 1, none⟩) (by show w1.heap.size ≤ G + 1; omega) (.slice ao2 (plc st k + 1) cap2)
                  have e9O := ownsRow_setCell_other e8O (a := ⟨G+1, 1, none⟩) (by simp [Value.ownBlock]; omega) (.slice ao2 (plc st k + 1) cap2)
                  have e9P := ownsRow_setCell_other e8P (a := ⟨G+1, 1, none⟩) (by simp [Value.ownBlock]; omega) (.slice ao2 (plc st k + 1) cap2)
                  have e9U := ownsRow_setCell_below e8U (a := ⟨G+1, 1, none⟩) (by show G + 1 < G + 1 + 1; omega) (.slice ao2 (plc st k + 1) cap2)
                  have e9V := ownsRow_setCell_below hown (a := ⟨G+1, 1, none⟩) (by show G + 1 < G + 1 + 1; omega) (.slice ao2 (plc st k + 1) cap2)
                  generalize w8.setCell ⟨G+1, 1, none⟩ (.slice ao2 (plc st k + 1) cap2) = w9 at e9X e9D e9K e9G e9B e9O e9P e9U e9V ⊢
                  rw [← HZk.out, show ([Value.int .i64 ((impD c).h.getD k 0)] : List Value) = ([k].map (fun i => (impD c).h.getD i 0)).map (Value.int .i64) from rfl, ← List.map_append, ← List.map_append, ← HPs.out.2, ← HPs.out.1] at e9V
                  have H9 := Lib.hid (And.intro e9D (And.intro e9K (And.intro e9G (And.intro e9X (And.intro e9B (And.intro e9O (And.intro e9P (And.intro e9U e9V))))))))
                  clear e9D e9K e9G e9X e9B e9O e9P e9U e9V e8D e8K e8G e8X e8B e8O e8P e8U hown f81 l81 H7 x81
                  go_wp2_with fail
                  refine ⟨⟨k + 1, ao1, cap1, ao2, cap2, by omega, by go_num, H9.out.1, H9.out.2.1, H9.out.2.2.1, by rw [HPs.out.1]; exact H9.out.2.2.2.1, H9.out.2.2.2.2.1, H9.out.2.2.2.2.2.1, H9.out.2.2.2.2.2.2.1, H9.out.2.2.2.2.2.2.2.1, H9.out.2.2.2.2.2.2.2.2⟩, by show c.l.length - ((k : Int) + 1).toNat < c.l.length - (k : Int).toNat; omega⟩
              · have hkn : k = c.l.length := by omega
                subst hkn
                obtain ⟨n', hn'⟩ : ∃ n', n' = plc st c.l.length := ⟨_, rfl⟩
                rw [← hn'] at hX hU hV
                have hN : n' = plc st (impD c).l.length := by rw [impD_len]; exact hn'
                have hnl : n' ≤ c.l.length := by rw [hn']; exact plc_le st _
                have hU2 : wr.ownsRow (G+1+1) 53 4 (.slice lo3 n' lc3) n' (flat (bl (impD c) st)) := by unfold bl; rw [impD_len]; exact hU
                have hV2 : wr.ownsRow (G+1+1) 3 1 (.slice ho3 n' hc3) n' ((bh (impD c) st).map (Value.int .i64)) := by unfold bh; rw [impD_len]; exact hV
                obtain ⟨L, hL⟩ : ∃ L, L = bl (impD c) st := ⟨_, rfl⟩
                obtain ⟨M, hM⟩ : ∃ M, M = bh (impD c) st := ⟨_, rfl⟩
                obtain ⟨e2, he2⟩ : ∃ e2, e2 = outC (impD c) st := ⟨_, rfl⟩
                clear hU hV
                rw [← hL] at hU2
                rw [← hM] at hV2
                have HE := Lib.hid (show e2.l.length = n' ∧ e2.h.length = n' ∧ L.length = n' ∧ M.length = n' from by rw [he2, hL, hM, hN]; exact ⟨outC_len HSt.out, outC_hlen HSt.out, bl_len HSt.out, bh_len HSt.out⟩)
                have HAT := Lib.hid (show ∀ j, j < n' → ∃ i, i < c.l.length ∧ L.getD j default = (impD c).l.getD i default ∧ M.getD j 0 = (impD c).h.getD i 0 ∧ e2.l.getD j default = outI (impD c) st i ∧ e2.h.getD j 0 = outH (impD c) st i from by rw [he2, hL, hM, hN]; intro j hj; obtain ⟨i, hi, r⟩ := out_at HSt.out hj; exact ⟨i, by rw [impD_len] at hi; exact hi, r⟩)
                have HE2 := Lib.hid he2
                have HF := Lib.hid (And.intro hD (And.intro hG (And.intro hX (And.intro hbl (And.intro hO (And.intro hP (And.intro hU2 hV2)))))))
                have x0 : wr.cell? ⟨G+1, 0, none⟩ = some (.slice lo3 n' lc3) := hX.cell 0 rfl
                have lX := hX.lt
                clear hD hK hG hX hbl hO hP hU2 hV2 hn' hN hL hM he2
                go_wp2_with fail
                clear x0 lX
                go_loopw [160] (fun i w5 => ∃ (k : Nat), k ≤ n' ∧ i = .int .i64 k ∧ Blk w5 D #[.slice (some ⟨gl, 0, none⟩) c.l.length lc2, .slice (some ⟨gh, 0, none⟩) c.h.length hc2] 30 ∧ Blk w5 G ((pk st c.l.length c.l.length).map (Value.int .i64)).toArray 3 ∧ Blk w5 (G+1) #[.slice lo3 n' lc3, .slice ho3 n' hc3] 30 ∧ Below w1.heap.size w1 w5 ∧ w5.ownsRow w1.heap.size 53 4 (.slice (some ⟨gl, 0, none⟩) c.l.length lc2) c.l.length (flat (impD c).l) ∧ w5.ownsRow w1.heap.size 3 1 (.slice (some ⟨gh, 0, none⟩) c.h.length hc2) c.h.length ((impD c).h.map (Value.int .i64)) ∧ w5.ownsRow (G+1+1) 53 4 (.slice lo3 n' lc3) n' (flat (tk e2.l L k)) ∧ w5.ownsRow (G+1+1) 3 1 (.slice ho3 n' hc3) n' ((tk e2.h M k).map (Value.int .i64))) (fun i _ => n' - (intOf i).toNat)
                case atStart => exact ⟨0, by omega, rfl, HF.out.1, HF.out.2.1, HF.out.2.2.1, HF.out.2.2.2.1, HF.out.2.2.2.2.1, HF.out.2.2.2.2.2.1, by rw [tk_zero]; exact HF.out.2.2.2.2.2.2.1, by rw [tk_zero]; exact HF.out.2.2.2.2.2.2.2⟩
                case round =>
                  clear HF
                  obtain ⟨k, hk, rfl, hD, hG, hX, hbl, hO, hP, hU, hV⟩ := hrel
                  by_cases hkl : k < n'
                  · obtain ⟨gU, rfl⟩ := ownsRow_some hU (by omega)
                    obtain ⟨gV, rfl⟩ := ownsRow_some hV (by omega)
                    have hnV := own_own_ne hU hV (by decide)
                    have hneV : ¬ (gV = gU) := by rcases hnV with h | h; (cases h); (intro h2; exact h (by rw [h2]; rfl))
                    have lgU := (own_cells hU).1
                    have bgU := (own_cells hU).2.1
                    have cU := (own_cells hU).2.2.2
                    have lgV := (own_cells hV).1
                    have bgV := (own_cells hV).2.1
                    have cV := (own_cells hV).2.2.2
                    obtain ⟨i, hi, a1, a2, a3, a4⟩ := HAT.out k hkl
                    have hke : k < e2.l.length := by rw [HE.out.1]; exact hkl
                    have hkf : k < e2.h.length := by rw [HE.out.2.1]; exact hkl
                    have hle : e2.l.length = L.length := by rw [HE.out.1, HE.out.2.2.1]
                    have hlf : e2.h.length = M.length := by rw [HE.out.2.1, HE.out.2.2.2]
                    have hUk : k < (tk e2.l L k).length := by rw [tk_len hle (by omega)]; exact hke
                    have hVk : k < (tk e2.h M k).length := by rw [tk_len hlf (by omega)]; exact hkf
                    obtain ⟨x, hx⟩ : ∃ x, x = L.getD k default := ⟨_, rfl⟩
                    obtain ⟨z, hz⟩ : ∃ z, z = M.getD k 0 := ⟨_, rfl⟩
                    have gU1 := tk_get (A := e2.l) (B := L) hke default
                    have gV1 := tk_get (A := e2.h) (B := M) hkf 0
                    rw [← hx] at a1 gU1
                    rw [← hz] at a2 gV1
                    have q0 := cU (k * 4 + 0) _ (flat_get (tk e2.l L k) k hUk 0 (by omega))
                    have q1 := cU (k * 4 + 1) _ (flat_get (tk e2.l L k) k hUk 1 (by omega))
                    have q2 := cU (k * 4 + 2) _ (flat_get (tk e2.l L k) k hUk 2 (by omega))
                    have q3 := cU (k * 4 + 3) _ (flat_get (tk e2.l L k) k hUk 3 (by omega))
                    rw [gU1] at q0 q1 q2 q3
                    have p0 := q0
                    have p1 := q1
                    have p2 := q2
                    have p3 := q3
                    clear q0 q1 q2 q3
                    have q0 : wr.cell? ⟨gU, k * 4, none⟩ = some (.int .i64 x.d) := p0
                    have q1 : wr.cell? ⟨gU, k * 4 + 1, none⟩ = some (.int .i64 x.a) := p1
                    have q2 : wr.cell? ⟨gU, k * 4 + 2, none⟩ = some (.int .i64 x.b) := p2
                    have q3 : wr.cell? ⟨gU, k * 4 + 3, none⟩ = some (.int .i64 x.c) := p3
                    clear p0 p1 p2 p3
                    have hkl2 : (k : Int) < n' := by omega
                    have hkw : IntKind.i64.wrap ((k : Int) + 1) = k + 1 := IntWalk.i64_in _ (by have := HV2.out; omega)
                    have HA := Lib.hid (And.intro a1 (And.intro a2 (And.intro a3 (And.intro a4 (And.intro gU1 (And.intro gV1 (And.intro hle hlf)))))))
                    have HF := Lib.hid (And.intro hD (And.intro hG (And.intro hX (And.intro hbl (And.intro hO (And.intro hP (And.intro hU hV)))))))
                    clear hD hG hX hbl hO hP hU hV cU cV a1 a2 a3 a4 gU1 gV1 hx hz hnV hle hlf
                    go_upto_region 33 with fail
                    have bR := Blk.new wr #[.int .i64 x.d, .int .i64 x.a, .int .i64 x.b, .int .i64 x.c] 53
                    have bD := HF.out.1.alloc (.cells #[.int .i64 x.d, .int .i64 x.a, .int .i64 x.b, .int .i64 x.c] 53)
                    have bG := HF.out.2.1.alloc (.cells #[.int .i64 x.d, .int .i64 x.a, .int .i64 x.b, .int .i64 x.c] 53)
                    have bX := HF.out.2.2.1.alloc (.cells #[.int .i64 x.d, .int .i64 x.a, .int .i64 x.b, .int .i64 x.c] 53)
                    have bB := HF.out.2.2.2.1.alloc HF.out.2.2.2.1.size (.cells #[.int .i64 x.d, .int .i64 x.a, .int .i64 x.b, .int .i64 x.c] 53)
                    have bO := HF.out.2.2.2.2.1.alloc (.cells #[.int .i64 x.d, .int .i64 x.a, .int .i64 x.b, .int .i64 x.c] 53)
                    have bP := HF.out.2.2.2.2.2.1.alloc (.cells #[.int .i64 x.d, .int .i64 x.a, .int .i64 x.b, .int .i64 x.c] 53)
                    have bU := HF.out.2.2.2.2.2.2.1.alloc (.cells #[.int .i64 x.d, .int .i64 x.a, .int .i64 x.b, .int .i64 x.c] 53)
                    have bV := HF.out.2.2.2.2.2.2.2.alloc (.cells #[.int .i64 x.d, .int .i64 x.a, .int .i64 x.b, .int .i64 x.c] 53)
                    have hUR : gU < wr.heap.size := lgU
                    have hVR : gV < wr.heap.size := lgV
                    obtain ⟨R, hRR⟩ : ∃ R, R = wr.heap.size := ⟨_, rfl⟩
                    rw [← hRR] at bR hUR hVR ⊢
                    generalize (wr.alloc (.cells #[.int .i64 x.d, .int .i64 x.a, .int .i64 x.b, .int .i64 x.c] 53)) = w4 at bR bD bG bX bB bO bP bU bV ⊢
                    clear hRR HF q0 q1 q2 q3 lgU lgV
                    have r0 : w4.cell? ⟨R, 0, none⟩ = some (.int .i64 x.d) := bR.cell 0 rfl
                    have H4 := Lib.hid (And.intro bR (And.intro bD (And.intro bG (And.intro bX (And.intro bB (And.intro bO (And.intro bP (And.intro bU bV))))))))
                    clear bR bD bG bX bB bO bP bU bV
                    have gG := HGs.out.1
                    have ggl := HGs.out.2.2.1
                    have ggh := HGs.out.2.2.2.1
                    have gw := HGs.out.2.2.2.2
                    obtain ⟨d, a, b, c'⟩ := x
                    dsimp only at r0
                    by_cases h4 : d = 4
                    · subst h4
                      have HJ := Lib.hid (show isJ 4 by unfold isJ; omega)
                      have hins := (codeV_ins (codeV_impD HV.out)).2.2.2.1 i (by rw [impD_len]; exact hi)
                      rw [impD_len, ← HA.out.1] at hins
                      have hja := insV_J hins (show isJ 4 by unfold isJ; omega)
                      dsimp only at hja
                      obtain ⟨ja, rfl⟩ : ∃ ja : Nat, a = ja := ⟨a.toNat, by omega⟩
                      have hjl : ja < c.l.length := by omega
                      clear hins hja
                      have gp := H4.out.2.2.1.cell ja (v := .int .i64 (plc st ja)) (by have h1 := pk_get (st := st) hjl; have h2 : ja < (pk st c.l.length c.l.length).length := by { rw [pk_len]; exact hjl }; simp only [List.getElem?_toArray, List.getElem?_map, List.getElem?_eq_getElem h2, Option.map_some]; rw [← h1]; simp [List.getD_eq_getElem?_getD, h2])
                      have r1 : w4.cell? ⟨R, 1, none⟩ = some (.int .i64 ja) := H4.out.1.cell 1 rfl
                      have x0 : w4.cell? ⟨G+1, 0, none⟩ = some (.slice (some ⟨gU, 0, none⟩) n' lc3) := H4.out.2.2.2.1.cell 0 rfl
                      have fu := (own_cells H4.out.2.2.2.2.2.2.2.1).2.2.1 (k * 4 + 1)
                      have lU := (own_cells H4.out.2.2.2.2.2.2.2.1).1
                      have lG := H4.out.2.2.1.lt
                      have qu : w4.cell? ⟨gU, k * 4 + 1, none⟩ = some (.int .i64 ja) := (own_cells H4.out.2.2.2.2.2.2.2.1).2.2.2 (k * 4 + 1) _ (by rw [flat_get (tk e2.l L k) k hUk 1 (by omega), HA.out.2.2.2.2.1]; rfl)
                      go_wp2_with fail
                      refine wp_still_tail 10 (by kernel_rfl) (by kernel_rfl) ?_
                      simp only [List.take_succ_cons, List.take_zero, List.drop_succ_cons, List.drop_zero]
                      repeat still_step
                      refine wpStill_nil ?_
                      repeat (refine wpList_one (by rfl) fun K hK => ?_; go_simp; refine hK _ _ ?_; clear hK K)
                      clear gp r1 x0 fu lU lG qu r0
                      have f5D := (H4.out.2.1.other (a := ⟨gU, k * 4 + 1, none⟩) (by show D ≠ gU; omega) (.int .i64 (plc st ja))).drew
                      have f5G := (H4.out.2.2.1.other (a := ⟨gU, k * 4 + 1, none⟩) (by show G ≠ gU; omega) (.int .i64 (plc st ja))).drew
                      have f5X := (H4.out.2.2.2.1.other (a := ⟨gU, k * 4 + 1, none⟩) (by show G + 1 ≠ gU; omega) (.int .i64 (plc st ja))).drew
                      have f5B := (H4.out.2.2.2.2.1.setCell (p := ⟨gU, k * 4 + 1, none⟩) (by show w1.heap.size ≤ gU; omega) (.int .i64 (plc st ja))).drew
                      have f5O := own_drew (ownsRow_setCell_other H4.out.2.2.2.2.2.1 (a := ⟨gU, k * 4 + 1, none⟩) (by simp [Value.ownBlock]; omega) (.int .i64 (plc st ja)))
                      have f5P := own_drew (ownsRow_setCell_other H4.out.2.2.2.2.2.2.1 (a := ⟨gU, k * 4 + 1, none⟩) (by simp [Value.ownBlock]; omega) (.int .i64 (plc st ja)))
                      have f5U := own_drew (own_set H4.out.2.2.2.2.2.2.2.1 (k * 4 + 1) (.int .i64 (plc st ja)))
                      have f5V := own_drew (ownsRow_setCell_other H4.out.2.2.2.2.2.2.2.2 (a := ⟨gU, k * 4 + 1, none⟩) (by simp [Value.ownBlock]; omega) (.int .i64 (plc st ja)))
                      generalize (w4.setCell ⟨gU, k * 4 + 1, none⟩ (.int .i64 (plc st ja))).drew = w5 at f5D f5G f5X f5B f5O f5P f5U f5V ⊢
                      have hout : e2.l.getD k default = ({ (⟨4, ja, b, c'⟩ : Ins) with a := (plc st ja : Int) }) := by rw [HA.out.2.2.1, outI_J HA.out.1.symm HJ.out]; simp
                      rw [flat_setA _ _ _ hUk, HA.out.2.2.2.2.1, ← hout, ← tk_succ HA.out.2.2.2.2.2.2.1 hke] at f5U
                      have H5 := Lib.hid (And.intro f5D (And.intro f5G (And.intro f5X (And.intro f5B (And.intro f5O (And.intro f5P (And.intro f5U f5V)))))))
                      clear f5D f5G f5X f5B f5O f5P f5U f5V hout
                      have x1 : w5.cell? ⟨G+1, 1, none⟩ = some (.slice (some ⟨gV, 0, none⟩) n' hc3) := H5.out.2.2.1.cell 1 rfl
                      have qv : w5.cell? ⟨gV, k, none⟩ = some (.int .i64 z) := (own_cells H5.out.2.2.2.2.2.2.2).2.2.2 k (.int .i64 z) (by rw [← HA.out.2.2.2.2.2.1]; simp [List.getD_eq_getElem?_getD, hVk])
                      by_cases hz0 : 0 ≤ z
                      · have hzr := (codeV_ins (codeV_impD HV.out)).2.2.2.2 i (by rw [impD_len]; exact hi)
                        rw [← HA.out.2.1, impD_len] at hzr
                        simp only [inB, Bool.and_eq_true, decide_eq_true_eq] at hzr
                        obtain ⟨zn, rfl⟩ : ∃ zn : Nat, z = zn := ⟨z.toNat, by omega⟩
                        have hzl : zn < c.l.length := by omega
                        clear hzr
                        have gq := H5.out.2.1.cell zn (v := .int .i64 (plc st zn)) (by have h1 := pk_get (st := st) hzl; have h2 : zn < (pk st c.l.length c.l.length).length := by { rw [pk_len]; exact hzl }; simp only [List.getElem?_toArray, List.getElem?_map, List.getElem?_eq_getElem h2, Option.map_some]; rw [← h1]; simp [List.getD_eq_getElem?_getD, h2])
                        have fv := (own_cells H5.out.2.2.2.2.2.2.2).2.2.1 k
                        have lV := (own_cells H5.out.2.2.2.2.2.2.2).1
                        have lG := H5.out.2.1.lt
                        go_wp2_with fail
                        refine wp_still_tail 8 (by kernel_rfl) (by kernel_rfl) ?_
                        simp only [List.take_succ_cons, List.take_zero, List.drop_succ_cons, List.drop_zero]
                        repeat still_step
                        refine wpStill_nil ?_
                        repeat (refine wpList_one (by rfl) fun K hK => ?_; go_simp; refine hK _ _ ?_; clear hK K)
                        clear gq fv lV lG qv x1
                        have f6D := (H5.out.1.other (a := ⟨gV, k, none⟩) (by show D ≠ gV; omega) (.int .i64 (plc st zn))).drew
                        have f6G := (H5.out.2.1.other (a := ⟨gV, k, none⟩) (by show G ≠ gV; omega) (.int .i64 (plc st zn))).drew
                        have f6X := (H5.out.2.2.1.other (a := ⟨gV, k, none⟩) (by show G + 1 ≠ gV; omega) (.int .i64 (plc st zn))).drew
                        have f6B := (H5.out.2.2.2.1.setCell (p := ⟨gV, k, none⟩) (by show w1.heap.size ≤ gV; omega) (.int .i64 (plc st zn))).drew
                        have f6O := own_drew (ownsRow_setCell_other H5.out.2.2.2.2.1 (a := ⟨gV, k, none⟩) (by simp [Value.ownBlock]; omega) (.int .i64 (plc st zn)))
                        have f6P := own_drew (ownsRow_setCell_other H5.out.2.2.2.2.2.1 (a := ⟨gV, k, none⟩) (by simp [Value.ownBlock]; omega) (.int .i64 (plc st zn)))
                        have f6U := own_drew (ownsRow_setCell_other H5.out.2.2.2.2.2.2.1 (a := ⟨gV, k, none⟩) (by simp [Value.ownBlock]; omega) (.int .i64 (plc st zn)))
                        have f6V := own_drew (own_set H5.out.2.2.2.2.2.2.2 (k) (.int .i64 (plc st zn)))
                        generalize (w5.setCell ⟨gV, k, none⟩ (.int .i64 (plc st zn))).drew = w6 at f6D f6G f6X f6B f6O f6P f6U f6V ⊢
                        have hout : e2.h.getD k 0 = (plc st zn : Int) := by rw [HA.out.2.2.2.1, outH, ← HA.out.2.1, if_pos hz0]; simp
                        rw [← List.map_set, ← hout, ← tk_succ HA.out.2.2.2.2.2.2.2 hkf] at f6V
                        have H6 := Lib.hid (And.intro f6D (And.intro f6G (And.intro f6X (And.intro f6B (And.intro f6O (And.intro f6P (And.intro f6U f6V)))))))
                        clear f6D f6G f6X f6B f6O f6P f6U f6V hout
                        go_wp2_with fail
                        refine ⟨⟨k + 1, by omega, by go_num, H6.out.1, H6.out.2.1, H6.out.2.2.1, H6.out.2.2.2.1, H6.out.2.2.2.2.1, H6.out.2.2.2.2.2.1, H6.out.2.2.2.2.2.2.1, H6.out.2.2.2.2.2.2.2⟩, by show n' - ((k : Int) + 1).toNat < n' - (k : Int).toNat; omega⟩
                      · have f6V := H5.out.2.2.2.2.2.2.2
                        have hout : tk e2.h M (k + 1) = tk e2.h M k := by rw [tk_succ HA.out.2.2.2.2.2.2.2 hkf 0, HA.out.2.2.2.1, outH, ← HA.out.2.1, if_neg hz0]; conv => { lhs; rw [← HA.out.2.2.2.2.2.1] }; exact set_selfG _ _ _
                        rw [← hout] at f6V
                        have H6 := Lib.hid (And.intro H5.out.1 (And.intro H5.out.2.1 (And.intro H5.out.2.2.1 (And.intro H5.out.2.2.2.1 (And.intro H5.out.2.2.2.2.1 (And.intro H5.out.2.2.2.2.2.1 (And.intro H5.out.2.2.2.2.2.2.1 f6V)))))))
                        clear f6V hout
                        go_wp2_with fail
                        refine ⟨⟨k + 1, by omega, by go_num, H6.out.1, H6.out.2.1, H6.out.2.2.1, H6.out.2.2.2.1, H6.out.2.2.2.2.1, H6.out.2.2.2.2.2.1, H6.out.2.2.2.2.2.2.1, H6.out.2.2.2.2.2.2.2⟩, by show n' - ((k : Int) + 1).toNat < n' - (k : Int).toNat; omega⟩
                    by_cases h5 : d = 5
                    · subst h5
                      have HJ := Lib.hid (show isJ 5 by unfold isJ; omega)
                      have hins := (codeV_ins (codeV_impD HV.out)).2.2.2.1 i (by rw [impD_len]; exact hi)
                      rw [impD_len, ← HA.out.1] at hins
                      have hja := insV_J hins (show isJ 5 by unfold isJ; omega)
                      dsimp only at hja
                      obtain ⟨ja, rfl⟩ : ∃ ja : Nat, a = ja := ⟨a.toNat, by omega⟩
                      have hjl : ja < c.l.length := by omega
                      clear hins hja
                      have gp := H4.out.2.2.1.cell ja (v := .int .i64 (plc st ja)) (by have h1 := pk_get (st := st) hjl; have h2 : ja < (pk st c.l.length c.l.length).length := by { rw [pk_len]; exact hjl }; simp only [List.getElem?_toArray, List.getElem?_map, List.getElem?_eq_getElem h2, Option.map_some]; rw [← h1]; simp [List.getD_eq_getElem?_getD, h2])
                      have r1 : w4.cell? ⟨R, 1, none⟩ = some (.int .i64 ja) := H4.out.1.cell 1 rfl
                      have x0 : w4.cell? ⟨G+1, 0, none⟩ = some (.slice (some ⟨gU, 0, none⟩) n' lc3) := H4.out.2.2.2.1.cell 0 rfl
                      have fu := (own_cells H4.out.2.2.2.2.2.2.2.1).2.2.1 (k * 4 + 1)
                      have lU := (own_cells H4.out.2.2.2.2.2.2.2.1).1
                      have lG := H4.out.2.2.1.lt
                      have qu : w4.cell? ⟨gU, k * 4 + 1, none⟩ = some (.int .i64 ja) := (own_cells H4.out.2.2.2.2.2.2.2.1).2.2.2 (k * 4 + 1) _ (by rw [flat_get (tk e2.l L k) k hUk 1 (by omega), HA.out.2.2.2.2.1]; rfl)
                      go_wp2_with fail
                      refine wp_still_tail 10 (by kernel_rfl) (by kernel_rfl) ?_
                      simp only [List.take_succ_cons, List.take_zero, List.drop_succ_cons, List.drop_zero]
                      repeat still_step
                      refine wpStill_nil ?_
                      repeat (refine wpList_one (by rfl) fun K hK => ?_; go_simp; refine hK _ _ ?_; clear hK K)
                      clear gp r1 x0 fu lU lG qu r0
                      have f5D := (H4.out.2.1.other (a := ⟨gU, k * 4 + 1, none⟩) (by show D ≠ gU; omega) (.int .i64 (plc st ja))).drew
                      have f5G := (H4.out.2.2.1.other (a := ⟨gU, k * 4 + 1, none⟩) (by show G ≠ gU; omega) (.int .i64 (plc st ja))).drew
                      have f5X := (H4.out.2.2.2.1.other (a := ⟨gU, k * 4 + 1, none⟩) (by show G + 1 ≠ gU; omega) (.int .i64 (plc st ja))).drew
                      have f5B := (H4.out.2.2.2.2.1.setCell (p := ⟨gU, k * 4 + 1, none⟩) (by show w1.heap.size ≤ gU; omega) (.int .i64 (plc st ja))).drew
                      have f5O := own_drew (ownsRow_setCell_other H4.out.2.2.2.2.2.1 (a := ⟨gU, k * 4 + 1, none⟩) (by simp [Value.ownBlock]; omega) (.int .i64 (plc st ja)))
                      have f5P := own_drew (ownsRow_setCell_other H4.out.2.2.2.2.2.2.1 (a := ⟨gU, k * 4 + 1, none⟩) (by simp [Value.ownBlock]; omega) (.int .i64 (plc st ja)))
                      have f5U := own_drew (own_set H4.out.2.2.2.2.2.2.2.1 (k * 4 + 1) (.int .i64 (plc st ja)))
                      have f5V := own_drew (ownsRow_setCell_other H4.out.2.2.2.2.2.2.2.2 (a := ⟨gU, k * 4 + 1, none⟩) (by simp [Value.ownBlock]; omega) (.int .i64 (plc st ja)))
                      generalize (w4.setCell ⟨gU, k * 4 + 1, none⟩ (.int .i64 (plc st ja))).drew = w5 at f5D f5G f5X f5B f5O f5P f5U f5V ⊢
                      have hout : e2.l.getD k default = ({ (⟨5, ja, b, c'⟩ : Ins) with a := (plc st ja : Int) }) := by rw [HA.out.2.2.1, outI_J HA.out.1.symm HJ.out]; simp
                      rw [flat_setA _ _ _ hUk, HA.out.2.2.2.2.1, ← hout, ← tk_succ HA.out.2.2.2.2.2.2.1 hke] at f5U
                      have H5 := Lib.hid (And.intro f5D (And.intro f5G (And.intro f5X (And.intro f5B (And.intro f5O (And.intro f5P (And.intro f5U f5V)))))))
                      clear f5D f5G f5X f5B f5O f5P f5U f5V hout
                      have x1 : w5.cell? ⟨G+1, 1, none⟩ = some (.slice (some ⟨gV, 0, none⟩) n' hc3) := H5.out.2.2.1.cell 1 rfl
                      have qv : w5.cell? ⟨gV, k, none⟩ = some (.int .i64 z) := (own_cells H5.out.2.2.2.2.2.2.2).2.2.2 k (.int .i64 z) (by rw [← HA.out.2.2.2.2.2.1]; simp [List.getD_eq_getElem?_getD, hVk])
                      by_cases hz0 : 0 ≤ z
                      · have hzr := (codeV_ins (codeV_impD HV.out)).2.2.2.2 i (by rw [impD_len]; exact hi)
                        rw [← HA.out.2.1, impD_len] at hzr
                        simp only [inB, Bool.and_eq_true, decide_eq_true_eq] at hzr
                        obtain ⟨zn, rfl⟩ : ∃ zn : Nat, z = zn := ⟨z.toNat, by omega⟩
                        have hzl : zn < c.l.length := by omega
                        clear hzr
                        have gq := H5.out.2.1.cell zn (v := .int .i64 (plc st zn)) (by have h1 := pk_get (st := st) hzl; have h2 : zn < (pk st c.l.length c.l.length).length := by { rw [pk_len]; exact hzl }; simp only [List.getElem?_toArray, List.getElem?_map, List.getElem?_eq_getElem h2, Option.map_some]; rw [← h1]; simp [List.getD_eq_getElem?_getD, h2])
                        have fv := (own_cells H5.out.2.2.2.2.2.2.2).2.2.1 k
                        have lV := (own_cells H5.out.2.2.2.2.2.2.2).1
                        have lG := H5.out.2.1.lt
                        go_wp2_with fail
                        refine wp_still_tail 8 (by kernel_rfl) (by kernel_rfl) ?_
                        simp only [List.take_succ_cons, List.take_zero, List.drop_succ_cons, List.drop_zero]
                        repeat still_step
                        refine wpStill_nil ?_
                        repeat (refine wpList_one (by rfl) fun K hK => ?_; go_simp; refine hK _ _ ?_; clear hK K)
                        clear gq fv lV lG qv x1
                        have f6D := (H5.out.1.other (a := ⟨gV, k, none⟩) (by show D ≠ gV; omega) (.int .i64 (plc st zn))).drew
                        have f6G := (H5.out.2.1.other (a := ⟨gV, k, none⟩) (by show G ≠ gV; omega) (.int .i64 (plc st zn))).drew
                        have f6X := (H5.out.2.2.1.other (a := ⟨gV, k, none⟩) (by show G + 1 ≠ gV; omega) (.int .i64 (plc st zn))).drew
                        have f6B := (H5.out.2.2.2.1.setCell (p := ⟨gV, k, none⟩) (by show w1.heap.size ≤ gV; omega) (.int .i64 (plc st zn))).drew
                        have f6O := own_drew (ownsRow_setCell_other H5.out.2.2.2.2.1 (a := ⟨gV, k, none⟩) (by simp [Value.ownBlock]; omega) (.int .i64 (plc st zn)))
                        have f6P := own_drew (ownsRow_setCell_other H5.out.2.2.2.2.2.1 (a := ⟨gV, k, none⟩) (by simp [Value.ownBlock]; omega) (.int .i64 (plc st zn)))
                        have f6U := own_drew (ownsRow_setCell_other H5.out.2.2.2.2.2.2.1 (a := ⟨gV, k, none⟩) (by simp [Value.ownBlock]; omega) (.int .i64 (plc st zn)))
                        have f6V := own_drew (own_set H5.out.2.2.2.2.2.2.2 (k) (.int .i64 (plc st zn)))
                        generalize (w5.setCell ⟨gV, k, none⟩ (.int .i64 (plc st zn))).drew = w6 at f6D f6G f6X f6B f6O f6P f6U f6V ⊢
                        have hout : e2.h.getD k 0 = (plc st zn : Int) := by rw [HA.out.2.2.2.1, outH, ← HA.out.2.1, if_pos hz0]; simp
                        rw [← List.map_set, ← hout, ← tk_succ HA.out.2.2.2.2.2.2.2 hkf] at f6V
                        have H6 := Lib.hid (And.intro f6D (And.intro f6G (And.intro f6X (And.intro f6B (And.intro f6O (And.intro f6P (And.intro f6U f6V)))))))
                        clear f6D f6G f6X f6B f6O f6P f6U f6V hout
                        go_wp2_with fail
                        refine ⟨⟨k + 1, by omega, by go_num, H6.out.1, H6.out.2.1, H6.out.2.2.1, H6.out.2.2.2.1, H6.out.2.2.2.2.1, H6.out.2.2.2.2.2.1, H6.out.2.2.2.2.2.2.1, H6.out.2.2.2.2.2.2.2⟩, by show n' - ((k : Int) + 1).toNat < n' - (k : Int).toNat; omega⟩
                      · have f6V := H5.out.2.2.2.2.2.2.2
                        have hout : tk e2.h M (k + 1) = tk e2.h M k := by rw [tk_succ HA.out.2.2.2.2.2.2.2 hkf 0, HA.out.2.2.2.1, outH, ← HA.out.2.1, if_neg hz0]; conv => { lhs; rw [← HA.out.2.2.2.2.2.1] }; exact set_selfG _ _ _
                        rw [← hout] at f6V
                        have H6 := Lib.hid (And.intro H5.out.1 (And.intro H5.out.2.1 (And.intro H5.out.2.2.1 (And.intro H5.out.2.2.2.1 (And.intro H5.out.2.2.2.2.1 (And.intro H5.out.2.2.2.2.2.1 (And.intro H5.out.2.2.2.2.2.2.1 f6V)))))))
                        clear f6V hout
                        go_wp2_with fail
                        refine ⟨⟨k + 1, by omega, by go_num, H6.out.1, H6.out.2.1, H6.out.2.2.1, H6.out.2.2.2.1, H6.out.2.2.2.2.1, H6.out.2.2.2.2.2.1, H6.out.2.2.2.2.2.2.1, H6.out.2.2.2.2.2.2.2⟩, by show n' - ((k : Int) + 1).toNat < n' - (k : Int).toNat; omega⟩
                    by_cases h8 : d = 8
                    · subst h8
                      have HJ := Lib.hid (show isJ 8 by unfold isJ; omega)
                      have hins := (codeV_ins (codeV_impD HV.out)).2.2.2.1 i (by rw [impD_len]; exact hi)
                      rw [impD_len, ← HA.out.1] at hins
                      have hja := insV_J hins (show isJ 8 by unfold isJ; omega)
                      dsimp only at hja
                      obtain ⟨ja, rfl⟩ : ∃ ja : Nat, a = ja := ⟨a.toNat, by omega⟩
                      have hjl : ja < c.l.length := by omega
                      clear hins hja
                      have gp := H4.out.2.2.1.cell ja (v := .int .i64 (plc st ja)) (by have h1 := pk_get (st := st) hjl; have h2 : ja < (pk st c.l.length c.l.length).length := by { rw [pk_len]; exact hjl }; simp only [List.getElem?_toArray, List.getElem?_map, List.getElem?_eq_getElem h2, Option.map_some]; rw [← h1]; simp [List.getD_eq_getElem?_getD, h2])
                      have r1 : w4.cell? ⟨R, 1, none⟩ = some (.int .i64 ja) := H4.out.1.cell 1 rfl
                      have x0 : w4.cell? ⟨G+1, 0, none⟩ = some (.slice (some ⟨gU, 0, none⟩) n' lc3) := H4.out.2.2.2.1.cell 0 rfl
                      have fu := (own_cells H4.out.2.2.2.2.2.2.2.1).2.2.1 (k * 4 + 1)
                      have lU := (own_cells H4.out.2.2.2.2.2.2.2.1).1
                      have lG := H4.out.2.2.1.lt
                      have qu : w4.cell? ⟨gU, k * 4 + 1, none⟩ = some (.int .i64 ja) := (own_cells H4.out.2.2.2.2.2.2.2.1).2.2.2 (k * 4 + 1) _ (by rw [flat_get (tk e2.l L k) k hUk 1 (by omega), HA.out.2.2.2.2.1]; rfl)
                      go_wp2_with fail
                      refine wp_still_tail 10 (by kernel_rfl) (by kernel_rfl) ?_
                      simp only [List.take_succ_cons, List.take_zero, List.drop_succ_cons, List.drop_zero]
                      repeat still_step
                      refine wpStill_nil ?_
                      repeat (refine wpList_one (by rfl) fun K hK => ?_; go_simp; refine hK _ _ ?_; clear hK K)
                      clear gp r1 x0 fu lU lG qu r0
                      have f5D := (H4.out.2.1.other (a := ⟨gU, k * 4 + 1, none⟩) (by show D ≠ gU; omega) (.int .i64 (plc st ja))).drew
                      have f5G := (H4.out.2.2.1.other (a := ⟨gU, k * 4 + 1, none⟩) (by show G ≠ gU; omega) (.int .i64 (plc st ja))).drew
                      have f5X := (H4.out.2.2.2.1.other (a := ⟨gU, k * 4 + 1, none⟩) (by show G + 1 ≠ gU; omega) (.int .i64 (plc st ja))).drew
                      have f5B := (H4.out.2.2.2.2.1.setCell (p := ⟨gU, k * 4 + 1, none⟩) (by show w1.heap.size ≤ gU; omega) (.int .i64 (plc st ja))).drew
                      have f5O := own_drew (ownsRow_setCell_other H4.out.2.2.2.2.2.1 (a := ⟨gU, k * 4 + 1, none⟩) (by simp [Value.ownBlock]; omega) (.int .i64 (plc st ja)))
                      have f5P := own_drew (ownsRow_setCell_other H4.out.2.2.2.2.2.2.1 (a := ⟨gU, k * 4 + 1, none⟩) (by simp [Value.ownBlock]; omega) (.int .i64 (plc st ja)))
                      have f5U := own_drew (own_set H4.out.2.2.2.2.2.2.2.1 (k * 4 + 1) (.int .i64 (plc st ja)))
                      have f5V := own_drew (ownsRow_setCell_other H4.out.2.2.2.2.2.2.2.2 (a := ⟨gU, k * 4 + 1, none⟩) (by simp [Value.ownBlock]; omega) (.int .i64 (plc st ja)))
                      generalize (w4.setCell ⟨gU, k * 4 + 1, none⟩ (.int .i64 (plc st ja))).drew = w5 at f5D f5G f5X f5B f5O f5P f5U f5V ⊢
                      have hout : e2.l.getD k default = ({ (⟨8, ja, b, c'⟩ : Ins) with a := (plc st ja : Int) }) := by rw [HA.out.2.2.1, outI_J HA.out.1.symm HJ.out]; simp
                      rw [flat_setA _ _ _ hUk, HA.out.2.2.2.2.1, ← hout, ← tk_succ HA.out.2.2.2.2.2.2.1 hke] at f5U
                      have H5 := Lib.hid (And.intro f5D (And.intro f5G (And.intro f5X (And.intro f5B (And.intro f5O (And.intro f5P (And.intro f5U f5V)))))))
                      clear f5D f5G f5X f5B f5O f5P f5U f5V hout
                      have x1 : w5.cell? ⟨G+1, 1, none⟩ = some (.slice (some ⟨gV, 0, none⟩) n' hc3) := H5.out.2.2.1.cell 1 rfl
                      have qv : w5.cell? ⟨gV, k, none⟩ = some (.int .i64 z) := (own_cells H5.out.2.2.2.2.2.2.2).2.2.2 k (.int .i64 z) (by rw [← HA.out.2.2.2.2.2.1]; simp [List.getD_eq_getElem?_getD, hVk])
                      by_cases hz0 : 0 ≤ z
                      · have hzr := (codeV_ins (codeV_impD HV.out)).2.2.2.2 i (by rw [impD_len]; exact hi)
                        rw [← HA.out.2.1, impD_len] at hzr
                        simp only [inB, Bool.and_eq_true, decide_eq_true_eq] at hzr
                        obtain ⟨zn, rfl⟩ : ∃ zn : Nat, z = zn := ⟨z.toNat, by omega⟩
                        have hzl : zn < c.l.length := by omega
                        clear hzr
                        have gq := H5.out.2.1.cell zn (v := .int .i64 (plc st zn)) (by have h1 := pk_get (st := st) hzl; have h2 : zn < (pk st c.l.length c.l.length).length := by { rw [pk_len]; exact hzl }; simp only [List.getElem?_toArray, List.getElem?_map, List.getElem?_eq_getElem h2, Option.map_some]; rw [← h1]; simp [List.getD_eq_getElem?_getD, h2])
                        have fv := (own_cells H5.out.2.2.2.2.2.2.2).2.2.1 k
                        have lV := (own_cells H5.out.2.2.2.2.2.2.2).1
                        have lG := H5.out.2.1.lt
                        go_wp2_with fail
                        refine wp_still_tail 8 (by kernel_rfl) (by kernel_rfl) ?_
                        simp only [List.take_succ_cons, List.take_zero, List.drop_succ_cons, List.drop_zero]
                        repeat still_step
                        refine wpStill_nil ?_
                        repeat (refine wpList_one (by rfl) fun K hK => ?_; go_simp; refine hK _ _ ?_; clear hK K)
                        clear gq fv lV lG qv x1
                        have f6D := (H5.out.1.other (a := ⟨gV, k, none⟩) (by show D ≠ gV; omega) (.int .i64 (plc st zn))).drew
                        have f6G := (H5.out.2.1.other (a := ⟨gV, k, none⟩) (by show G ≠ gV; omega) (.int .i64 (plc st zn))).drew
                        have f6X := (H5.out.2.2.1.other (a := ⟨gV, k, none⟩) (by show G + 1 ≠ gV; omega) (.int .i64 (plc st zn))).drew
                        have f6B := (H5.out.2.2.2.1.setCell (p := ⟨gV, k, none⟩) (by show w1.heap.size ≤ gV; omega) (.int .i64 (plc st zn))).drew
                        have f6O := own_drew (ownsRow_setCell_other H5.out.2.2.2.2.1 (a := ⟨gV, k, none⟩) (by simp [Value.ownBlock]; omega) (.int .i64 (plc st zn)))
                        have f6P := own_drew (ownsRow_setCell_other H5.out.2.2.2.2.2.1 (a := ⟨gV, k, none⟩) (by simp [Value.ownBlock]; omega) (.int .i64 (plc st zn)))
                        have f6U := own_drew (ownsRow_setCell_other H5.out.2.2.2.2.2.2.1 (a := ⟨gV, k, none⟩) (by simp [Value.ownBlock]; omega) (.int .i64 (plc st zn)))
                        have f6V := own_drew (own_set H5.out.2.2.2.2.2.2.2 (k) (.int .i64 (plc st zn)))
                        generalize (w5.setCell ⟨gV, k, none⟩ (.int .i64 (plc st zn))).drew = w6 at f6D f6G f6X f6B f6O f6P f6U f6V ⊢
                        have hout : e2.h.getD k 0 = (plc st zn : Int) := by rw [HA.out.2.2.2.1, outH, ← HA.out.2.1, if_pos hz0]; simp
                        rw [← List.map_set, ← hout, ← tk_succ HA.out.2.2.2.2.2.2.2 hkf] at f6V
                        have H6 := Lib.hid (And.intro f6D (And.intro f6G (And.intro f6X (And.intro f6B (And.intro f6O (And.intro f6P (And.intro f6U f6V)))))))
                        clear f6D f6G f6X f6B f6O f6P f6U f6V hout
                        go_wp2_with fail
                        refine ⟨⟨k + 1, by omega, by go_num, H6.out.1, H6.out.2.1, H6.out.2.2.1, H6.out.2.2.2.1, H6.out.2.2.2.2.1, H6.out.2.2.2.2.2.1, H6.out.2.2.2.2.2.2.1, H6.out.2.2.2.2.2.2.2⟩, by show n' - ((k : Int) + 1).toNat < n' - (k : Int).toNat; omega⟩
                      · have f6V := H5.out.2.2.2.2.2.2.2
                        have hout : tk e2.h M (k + 1) = tk e2.h M k := by rw [tk_succ HA.out.2.2.2.2.2.2.2 hkf 0, HA.out.2.2.2.1, outH, ← HA.out.2.1, if_neg hz0]; conv => { lhs; rw [← HA.out.2.2.2.2.2.1] }; exact set_selfG _ _ _
                        rw [← hout] at f6V
                        have H6 := Lib.hid (And.intro H5.out.1 (And.intro H5.out.2.1 (And.intro H5.out.2.2.1 (And.intro H5.out.2.2.2.1 (And.intro H5.out.2.2.2.2.1 (And.intro H5.out.2.2.2.2.2.1 (And.intro H5.out.2.2.2.2.2.2.1 f6V)))))))
                        clear f6V hout
                        go_wp2_with fail
                        refine ⟨⟨k + 1, by omega, by go_num, H6.out.1, H6.out.2.1, H6.out.2.2.1, H6.out.2.2.2.1, H6.out.2.2.2.2.1, H6.out.2.2.2.2.2.1, H6.out.2.2.2.2.2.2.1, H6.out.2.2.2.2.2.2.2⟩, by show n' - ((k : Int) + 1).toNat < n' - (k : Int).toNat; omega⟩
                    · have HJ := Lib.hid (show ¬ isJ d by unfold isJ; omega)
                      have hb4 : (d == 4) = false := by simp [h4]
                      have hb5 : (d == 5) = false := by simp [h5]
                      have hb8 : (d == 8) = false := by simp [h8]
                      have hout : tk e2.l L (k + 1) = tk e2.l L k := by rw [tk_succ HA.out.2.2.2.2.2.2.1 hke default, HA.out.2.2.1, outI_N HA.out.1.symm HJ.out]; conv => { lhs; rw [← HA.out.2.2.2.2.1] }; exact set_selfG _ _ _
                      have f5U := H4.out.2.2.2.2.2.2.2.1
                      rw [← hout] at f5U
                      have H5 := Lib.hid (And.intro H4.out.2.1 (And.intro H4.out.2.2.1 (And.intro H4.out.2.2.2.1 (And.intro H4.out.2.2.2.2.1 (And.intro H4.out.2.2.2.2.2.1 (And.intro H4.out.2.2.2.2.2.2.1 (And.intro f5U H4.out.2.2.2.2.2.2.2.2)))))))
                      clear f5U hout
                      have x1 : w4.cell? ⟨G+1, 1, none⟩ = some (.slice (some ⟨gV, 0, none⟩) n' hc3) := H5.out.2.2.1.cell 1 rfl
                      have qv : w4.cell? ⟨gV, k, none⟩ = some (.int .i64 z) := (own_cells H5.out.2.2.2.2.2.2.2).2.2.2 k (.int .i64 z) (by rw [← HA.out.2.2.2.2.2.1]; simp [List.getD_eq_getElem?_getD, hVk])
                      by_cases hz0 : 0 ≤ z
                      · have hzr := (codeV_ins (codeV_impD HV.out)).2.2.2.2 i (by rw [impD_len]; exact hi)
                        rw [← HA.out.2.1, impD_len] at hzr
                        simp only [inB, Bool.and_eq_true, decide_eq_true_eq] at hzr
                        obtain ⟨zn, rfl⟩ : ∃ zn : Nat, z = zn := ⟨z.toNat, by omega⟩
                        have hzl : zn < c.l.length := by omega
                        clear hzr
                        have gq := H5.out.2.1.cell zn (v := .int .i64 (plc st zn)) (by have h1 := pk_get (st := st) hzl; have h2 : zn < (pk st c.l.length c.l.length).length := by { rw [pk_len]; exact hzl }; simp only [List.getElem?_toArray, List.getElem?_map, List.getElem?_eq_getElem h2, Option.map_some]; rw [← h1]; simp [List.getD_eq_getElem?_getD, h2])
                        have fv := (own_cells H5.out.2.2.2.2.2.2.2).2.2.1 k
                        have lV := (own_cells H5.out.2.2.2.2.2.2.2).1
                        have lG := H5.out.2.1.lt
                        go_wp2_with fail
                        refine wp_still_tail 8 (by kernel_rfl) (by kernel_rfl) ?_
                        simp only [List.take_succ_cons, List.take_zero, List.drop_succ_cons, List.drop_zero]
                        repeat still_step
                        refine wpStill_nil ?_
                        repeat (refine wpList_one (by rfl) fun K hK => ?_; go_simp; refine hK _ _ ?_; clear hK K)
                        clear gq fv lV lG qv x1
                        have f6D := (H5.out.1.other (a := ⟨gV, k, none⟩) (by show D ≠ gV; omega) (.int .i64 (plc st zn))).drew
                        have f6G := (H5.out.2.1.other (a := ⟨gV, k, none⟩) (by show G ≠ gV; omega) (.int .i64 (plc st zn))).drew
                        have f6X := (H5.out.2.2.1.other (a := ⟨gV, k, none⟩) (by show G + 1 ≠ gV; omega) (.int .i64 (plc st zn))).drew
                        have f6B := (H5.out.2.2.2.1.setCell (p := ⟨gV, k, none⟩) (by show w1.heap.size ≤ gV; omega) (.int .i64 (plc st zn))).drew
                        have f6O := own_drew (ownsRow_setCell_other H5.out.2.2.2.2.1 (a := ⟨gV, k, none⟩) (by simp [Value.ownBlock]; omega) (.int .i64 (plc st zn)))
                        have f6P := own_drew (ownsRow_setCell_other H5.out.2.2.2.2.2.1 (a := ⟨gV, k, none⟩) (by simp [Value.ownBlock]; omega) (.int .i64 (plc st zn)))
                        have f6U := own_drew (ownsRow_setCell_other H5.out.2.2.2.2.2.2.1 (a := ⟨gV, k, none⟩) (by simp [Value.ownBlock]; omega) (.int .i64 (plc st zn)))
                        have f6V := own_drew (own_set H5.out.2.2.2.2.2.2.2 (k) (.int .i64 (plc st zn)))
                        generalize (w4.setCell ⟨gV, k, none⟩ (.int .i64 (plc st zn))).drew = w6 at f6D f6G f6X f6B f6O f6P f6U f6V ⊢
                        have hout : e2.h.getD k 0 = (plc st zn : Int) := by rw [HA.out.2.2.2.1, outH, ← HA.out.2.1, if_pos hz0]; simp
                        rw [← List.map_set, ← hout, ← tk_succ HA.out.2.2.2.2.2.2.2 hkf] at f6V
                        have H6 := Lib.hid (And.intro f6D (And.intro f6G (And.intro f6X (And.intro f6B (And.intro f6O (And.intro f6P (And.intro f6U f6V)))))))
                        clear f6D f6G f6X f6B f6O f6P f6U f6V hout
                        go_wp2_with fail
                        refine ⟨⟨k + 1, by omega, by go_num, H6.out.1, H6.out.2.1, H6.out.2.2.1, H6.out.2.2.2.1, H6.out.2.2.2.2.1, H6.out.2.2.2.2.2.1, H6.out.2.2.2.2.2.2.1, H6.out.2.2.2.2.2.2.2⟩, by show n' - ((k : Int) + 1).toNat < n' - (k : Int).toNat; omega⟩
                      · have f6V := H5.out.2.2.2.2.2.2.2
                        have hout : tk e2.h M (k + 1) = tk e2.h M k := by rw [tk_succ HA.out.2.2.2.2.2.2.2 hkf 0, HA.out.2.2.2.1, outH, ← HA.out.2.1, if_neg hz0]; conv => { lhs; rw [← HA.out.2.2.2.2.2.1] }; exact set_selfG _ _ _
                        rw [← hout] at f6V
                        have H6 := Lib.hid (And.intro H5.out.1 (And.intro H5.out.2.1 (And.intro H5.out.2.2.1 (And.intro H5.out.2.2.2.1 (And.intro H5.out.2.2.2.2.1 (And.intro H5.out.2.2.2.2.2.1 (And.intro H5.out.2.2.2.2.2.2.1 f6V)))))))
                        clear f6V hout
                        go_wp2_with fail
                        refine ⟨⟨k + 1, by omega, by go_num, H6.out.1, H6.out.2.1, H6.out.2.2.1, H6.out.2.2.2.1, H6.out.2.2.2.2.1, H6.out.2.2.2.2.2.1, H6.out.2.2.2.2.2.2.1, H6.out.2.2.2.2.2.2.2⟩, by show n' - ((k : Int) + 1).toNat < n' - (k : Int).toNat; omega⟩
                  · have hkn : n' = k := by omega
                    subst hkn
                    have hU3 := hU
                    have hV3 := hV
                    clear hU hV
                    have ht1 := tk_end (A := e2.l) (B := L) (by rw [HE.out.1, HE.out.2.2.1])
                    have ht2 := tk_end (A := e2.h) (B := M) (by rw [HE.out.2.1, HE.out.2.2.2])
                    rw [HE.out.1] at ht1
                    rw [HE.out.2.1] at ht2
                    rw [ht1] at hU3
                    rw [ht2] at hV3
                    have hcd : CdAt wr lo3 lc3 ho3 hc3 e2 := by constructor; (unfold InsAt; rw [HE.out.1]; exact (ownsRow_slA hU3).2); (rw [HE.out.2.1]; exact (ownsRow_slA hV3).2)
                    have hva := Valid_any wr lo3 lc3 ho3 hc3 e2 hcd
                    rw [HE.out.1, HE.out.2.1] at hva
                    have HVa := Lib.hid hva
                    have HF := Lib.hid (And.intro hD (And.intro hX (And.intro hbl (And.intro hO (And.intro hP (And.intro hU3 hV3))))))
                    have gw := HGs.out.2.2.2.2
                    have x0 := hX.cell 0 rfl
                    have x1 := hX.cell 1 rfl
                    clear hD hG hX hbl hO hP hU3 hV3 ht1 ht2 hcd hva
                    go_wp2_with fail
                    refine HVa.out.mono ?_
                    rintro e w6 ⟨rfl, hb6⟩
                    have HB6 := Lib.hid (bthen HF.out.2.2.1 hb6)
                    have HR6 := Lib.hid (HR1.out.old HB6.out)
                    have HF6 := Lib.hid (And.intro (HF.out.1.old hb6) (And.intro (HF.out.2.1.old hb6) (And.intro (own_old HF.out.2.2.2.1 hb6) (And.intro (own_old HF.out.2.2.2.2.1 hb6) (And.intro (own_old HF.out.2.2.2.2.2.1 hb6) (own_old HF.out.2.2.2.2.2.2 hb6))))))
                    clear hb6 HF x0 x1 HVa
                    rcases hve : codeV e2 with _ | _
                    · have hq1 : (impD c).l.length = c.l.length := impD_len c
                      have hq2 : (impD c).h.length = c.h.length := by have := HV3.out; simp [impD]; omega
                      have HQ := Lib.hid (And.intro hq1 hq2)
                      clear hq1 hq2 hve
                      have r0 := HR6.out.cell 0 rfl
                      have r1 := HR6.out.cell 1 rfl
                      have rf0 := HR6.out.frozen 0
                      have rf1 := HR6.out.frozen 1
                      have rl := HR6.out.lt
                      have b0 := HF6.out.1.cell 0 rfl
                      have b1 := HF6.out.1.cell 1 rfl
                      go_wp2_with fail
                      have hR7 := (HR6.out.set 0 (.slice (some ⟨gl, 0, none⟩) c.l.length lc2)).set 1 (.slice (some ⟨gh, 0, none⟩) c.h.length hc2)
                      have z0 := hR7.cell 0 rfl
                      have z1 := hR7.cell 1 rfl
                      refine bodyPost_ret (v := .tuple #[.agg #[.slice (some ⟨gl, 0, none⟩) c.l.length lc2, .slice (some ⟨gh, 0, none⟩) c.h.length hc2], .int .i64 0]) (by simp [results, Try.results25, go_sem, z0, z1]) rfl ⟨(some ⟨gl, 0, none⟩), lc2, (some ⟨gh, 0, none⟩), hc2, impD c, ?_, ?_, ?_, codeV_impD HV.out, by rw [impD_len]; exact Nat.le_refl _, fun zs n hov => by have h1 := over_imp HV.out (begS zs) rfl n hov; exact h1⟩
                      · rw [HQ.out.1, HQ.out.2]
                      · have := HB.out; exact ((bthen HL1.out HB6.out).setCell (p := ⟨B+1, 0, none⟩) (by show W.heap.size ≤ B + 1; omega) _).setCell (p := ⟨B+1, 1, none⟩) (by show W.heap.size ≤ B + 1; omega) _
                      · constructor
                        · have h := (ownsRow_slA (ownsRow_setCell_below (ownsRow_setCell_below HF6.out.2.2.1 (a := ⟨B+1, 0, none⟩) (by show B + 1 < _; omega) (.slice (some ⟨gl, 0, none⟩) c.l.length lc2)) (a := ⟨B+1, 1, none⟩) (by show B + 1 < _; omega) (.slice (some ⟨gh, 0, none⟩) c.h.length hc2))).2; unfold InsAt; rw [HQ.out.1]; exact h
                        · have h := (ownsRow_slA (ownsRow_setCell_below (ownsRow_setCell_below HF6.out.2.2.2.1 (a := ⟨B+1, 0, none⟩) (by show B + 1 < _; omega) (.slice (some ⟨gl, 0, none⟩) c.l.length lc2)) (a := ⟨B+1, 1, none⟩) (by show B + 1 < _; omega) (.slice (some ⟨gh, 0, none⟩) c.h.length hc2))).2; rw [HQ.out.2]; exact h
                    · have HQ := Lib.hid (And.intro HE.out.1 HE.out.2.1)
                      have HVE := Lib.hid hve
                      clear hve
                      have r0 := HR6.out.cell 0 rfl
                      have r1 := HR6.out.cell 1 rfl
                      have rf0 := HR6.out.frozen 0
                      have rf1 := HR6.out.frozen 1
                      have rl := HR6.out.lt
                      have b0 := HF6.out.2.1.cell 0 rfl
                      have b1 := HF6.out.2.1.cell 1 rfl
                      go_wp2_with fail
                      have hR7 := (HR6.out.set 0 (.slice lo3 n' lc3)).set 1 (.slice ho3 n' hc3)
                      have z0 := hR7.cell 0 rfl
                      have z1 := hR7.cell 1 rfl
                      refine bodyPost_ret (v := .tuple #[.agg #[.slice lo3 n' lc3, .slice ho3 n' hc3], .int .i64 0]) (by simp [results, Try.results25, go_sem, z0, z1]) rfl ⟨lo3, lc3, ho3, hc3, e2, ?_, ?_, ?_, HVE.out, by rw [HE.out.1]; exact hnl, fun zs n hov => by have h1 := over_imp HV.out (begS zs) rfl n hov; exact h1.trans (by rw [HE2.out]; exact over_out (codeV_impD HV.out) HSt.out (begS zs) rfl n (by rw [h1.ov]; exact hov))⟩
                      · rw [HQ.out.1, HQ.out.2]
                      · have := HB.out; exact ((bthen HL1.out HB6.out).setCell (p := ⟨B+1, 0, none⟩) (by show W.heap.size ≤ B + 1; omega) _).setCell (p := ⟨B+1, 1, none⟩) (by show W.heap.size ≤ B + 1; omega) _
                      · constructor
                        · have h := (ownsRow_slA (ownsRow_setCell_below (ownsRow_setCell_below HF6.out.2.2.2.2.1 (a := ⟨B+1, 0, none⟩) (by show B + 1 < _; omega) (.slice lo3 n' lc3)) (a := ⟨B+1, 1, none⟩) (by show B + 1 < _; omega) (.slice ho3 n' hc3))).2; unfold InsAt; rw [HQ.out.1]; exact h
                        · have h := (ownsRow_slA (ownsRow_setCell_below (ownsRow_setCell_below HF6.out.2.2.2.2.2 (a := ⟨B+1, 0, none⟩) (by show B + 1 < _; omega) (.slice lo3 n' lc3)) (a := ⟨B+1, 1, none⟩) (by show B + 1 < _; omega) (.slice ho3 n' hc3))).2; rw [HQ.out.2]; exact h
        --E2

end Go.Proofs.Ytignlfcjlbijaaa
