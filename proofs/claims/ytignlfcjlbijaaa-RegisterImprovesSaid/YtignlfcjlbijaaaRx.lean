/- An instruction that cannot be reached does not matter: the plain law; and what a store into a row leaves. -/
import Derived.Test.YtignlfcjlbijaaaRw
import Derived.OneCell
namespace Go.Proofs.Ytignlfcjlbijaaa
open Go.RowKit

/-- code with a stop in an instruction's place -/
def killC (c : Cd) (k : Nat) : Cd := ⟨c.l.set k ⟨0, -1, 0, 0⟩, c.h.set k (-1)⟩
theorem getD_setA {α : Type} [Inhabited α] (l : List α) (i j : Nat) (v : α) (hi : i < l.length) : (l.set i v).getD j default = if i = j then v else l.getD j default := by
  simp only [List.getD_eq_getElem?_getD, List.getElem?_set]
  split
  · subst_vars; simp
  · rfl
theorem codeV_kill {c : Cd} {k : Nat} (hv : codeV c = true) (hk : k < c.l.length) : codeV (killC c k) = true := by
  obtain ⟨v1, v2, v3, v4, v5⟩ := codeV_ins hv
  have hl : (killC c k).l.length = c.l.length := by simp [killC]
  refine codeV_true (by rw [hl]; exact v1) (by rw [hl]; exact v2) (by simp [killC, v3]) (fun i hi => ?_) (fun i hi => ?_)
  · rw [hl] at hi ⊢
    show insV ((c.l.set k ⟨0, -1, 0, 0⟩).getD i default) _ = true
    rw [getD_setA _ _ _ _ hk]
    split
    · simp [insV, inB]
    · exact v4 i hi
  · rw [hl] at hi ⊢
    show inB ((c.h.set k (-1)).getD i 0) _ _ = true
    rw [getD_set _ _ _ _ (by omega)]
    split
    · simp [inB]; omega
    · exact v5 i hi

theorem stepS_congr {c c2 : Cd} {s : RS} (h1 : c2.l.getD s.at_ default = c.l.getD s.at_ default) (h2 : c2.l.length = c.l.length) (h3 : c2.h.getD s.at_ 0 = c.h.getD s.at_ 0) : stepS c2 s = stepS c s := by
  unfold stepS goS trapS
  simp only [h1, h2, h3]
theorem next_reach {c : Cd} {i : Nat} {s : RS} (hr : Reach c i) (hn : nxV c i ⊆ folV c i) : (goS c (i + 1) s).ov = true ∨ Reach c (goS c (i + 1) s).at_ := by
  by_cases h : i + 1 < c.l.length
  · exact .inr (.step hr (hn (by unfold nxV; rw [if_pos h]; exact List.mem_singleton.2 rfl)))
  · exact .inl (by simp [goS]; omega)
theorem trap_reach {c : Cd} {s : RS} {n : Int} (hr : Reach c s.at_) (hn : hdV c s.at_ ⊆ folV c s.at_) : (trapS c s n).ov = true ∨ Reach c (trapS c s n).at_ := by
  unfold trapS
  by_cases h : 0 ≤ c.h.getD s.at_ 0
  · rw [if_pos h]; exact .inr (.step hr (hn (by unfold hdV; rw [if_pos h]; simp)))
  · rw [if_neg h]; exact .inl rfl
theorem folV_nx {c : Cd} {i : Nat} (h : (c.l.getD i default).d ≠ 0 ∧ (c.l.getD i default).d ≠ 4 ∧ (c.l.getD i default).d ≠ 7) : nxV c i ⊆ folV c i := by
  intro j hj
  unfold folV
  dsimp only
  rw [if_neg h.1, if_neg h.2.1]
  split
  · exact List.mem_cons_of_mem _ hj
  rw [if_neg h.2.2]
  split
  · exact List.mem_append_right _ hj
  · exact hj
theorem stepS_reach {c : Cd} {s : RS} (hr : Reach c s.at_) : (stepS c s).ov = true ∨ Reach c (stepS c s).at_ := by
  have key : ∀ r : RS, r = stepS c s → (r.ov = true ∨ Reach c r.at_) := by
    intro r hr'
    unfold stepS at hr'
    dsimp only at hr'
    split at hr'
    · split at hr' <;> subst hr' <;> exact .inl rfl
    rename_i n0
    split at hr'
    · rename_i h; subst hr'; exact next_reach hr (folV_nx ⟨by rw [h]; decide, by rw [h]; decide, by rw [h]; decide⟩)
    split at hr'
    · rename_i h; subst hr'; exact next_reach hr (folV_nx ⟨by rw [h]; decide, by rw [h]; decide, by rw [h]; decide⟩)
    split at hr'
    · rename_i h; subst hr'
      exact .inr (.step hr (by unfold folV; dsimp only; rw [if_neg n0, if_pos h]; simp [goS]))
    rename_i n4
    split at hr'
    · rename_i h; subst hr'
      split
      · exact .inr (.step hr (by unfold folV; dsimp only; rw [if_neg n0, if_neg n4, if_pos (.inl h)]; simp [goS]))
      · exact next_reach hr (folV_nx ⟨n0, n4, by rw [h]; decide⟩)
    split at hr'
    · rename_i h; subst hr'; exact next_reach hr (folV_nx ⟨n0, n4, by rw [h]; decide⟩)
    split at hr'
    · rename_i h; subst hr'
      exact trap_reach (s := { s with cost := s.cost + costV (c.l.getD s.at_ default).d }) hr (by intro j hj; unfold folV; dsimp only; rw [if_neg n0, if_neg n4, if_neg (by omega), if_pos h]; exact hj)
    rename_i n7
    split at hr'
    · rename_i h; subst hr'
      split
      · exact .inr (.step hr (by unfold folV; dsimp only; rw [if_neg n0, if_neg n4, if_pos (.inr h)]; simp [goS]))
      · exact next_reach hr (folV_nx ⟨n0, n4, n7⟩)
    split at hr'
    · rename_i h; subst hr'
      exact trap_reach (s := { s with cost := s.cost + costV (c.l.getD s.at_ default).d }) hr (by intro j hj; unfold folV; dsimp only; rw [if_neg n0, if_neg n4, if_neg (by omega), if_neg n7, if_pos h.1]; exact List.mem_append_left _ hj)
    · subst hr'; exact next_reach hr (folV_nx ⟨n0, n4, n7⟩)
  exact key _ rfl
theorem itS_kill {c : Cd} {k : Nat} {s : RS} (hk : k < c.l.length) (hkh : k < c.h.length) (hn : ¬ Reach c k) (h0 : s.at_ = 0) : ∀ n, itS (killC c k) s n = itS c s n ∧ ((itS c s n).ov = true ∨ Reach c (itS c s n).at_)
  | 0 => ⟨rfl, .inr (by show Reach c s.at_; rw [h0]; exact .zero)⟩
  | n + 1 => by
    obtain ⟨h1, h2⟩ := itS_kill (s := s) hk hkh hn h0 n
    have e1 : itS (killC c k) s (n + 1) = if (itS (killC c k) s n).ov then itS (killC c k) s n else stepS (killC c k) (itS (killC c k) s n) := rfl
    have e2 : itS c s (n + 1) = if (itS c s n).ov then itS c s n else stepS c (itS c s n) := rfl
    rw [e1, e2, h1]
    by_cases ho : (itS c s n).ov = true
    · rw [if_pos ho, if_pos ho]; exact ⟨rfl, .inl ho⟩
    · rw [if_neg ho, if_neg ho]
      have hr : Reach c (itS c s n).at_ := by rcases h2 with h | h; exact absurd h ho; exact h
      have hne : k ≠ (itS c s n).at_ := by intro h; rw [← h] at hr; exact hn hr
      exact ⟨stepS_congr (by show (c.l.set k _).getD _ default = _; rw [getD_setA _ _ _ _ hk, if_neg hne]) (by simp [killC]) (by show (c.h.set k _).getD _ 0 = _; rw [getD_set _ _ _ _ hkh, if_neg hne]), stepS_reach hr⟩
theorem runV_kill {c : Cd} {k : Nat} (hv : codeV c = true) (hk : k < c.l.length) (hn : ¬ Reach c k) (zs : List Int) (most : Int) : runV (killC c k) zs most = runV c zs most ∧ runE (killC c k) zs most = runE c zs most := by
  have hkh : k < c.h.length := by obtain ⟨_, _, v3, _⟩ := codeV_ins hv; omega
  have h1 : okRun (killC c k) zs most = okRun c zs most := by unfold okRun; rw [codeV_kill hv hk, hv]
  unfold runV runE
  rw [h1]
  refine ⟨?_, rfl⟩
  split
  · exact (itS_kill hk hkh hn rfl _).1
  · rfl

theorem flat_set (l : List Ins) (i : Nat) (x : Ins) (hi : i < l.length) : ((((flat l).set (i * 4) (.int .i64 x.d)).set (i * 4 + 1) (.int .i64 x.a)).set (i * 4 + 2) (.int .i64 x.b)).set (i * 4 + 3) (.int .i64 x.c) = flat (l.set i x) := by
  induction l generalizing i with
  | nil => cases hi
  | cons y r ih =>
    cases i with
    | zero => simp [flat, Ins.cells]
    | succ i =>
      have h1 := ih i (by simpa using hi)
      have e : flat (y :: r) = .int .i64 y.d :: .int .i64 y.a :: .int .i64 y.b :: .int .i64 y.c :: flat r := by simp [flat, Ins.cells]
      have e2 : flat ((y :: r).set (i + 1) x) = .int .i64 y.d :: .int .i64 y.a :: .int .i64 y.b :: .int .i64 y.c :: flat (r.set i x) := by simp [flat, Ins.cells]
      rw [e, e2, ← h1, show (i + 1) * 4 = i * 4 + 1 + 1 + 1 + 1 by omega]
      simp only [List.set_cons_succ]
theorem own_set {w : World} {base : Nat} {e : TypeId} {size g cap n : Nat} {xs : List Value} (h : w.ownsRow base e size (.slice (some ⟨g, 0, none⟩) n cap) n xs) (j : Nat) (v : Value) : (w.setCell ⟨g, j, none⟩ v).ownsRow base e size (.slice (some ⟨g, 0, none⟩) n cap) n (xs.set j v) := by
  obtain ⟨h1, h2⟩ := h
  rcases h2 with ⟨h0, _⟩ | ⟨g', cap', cur, hv, hg, hh, hn, hcap, hsz, htake⟩
  · cases h0
  · cases hv
    refine ⟨by simpa using h1, .inr ⟨g, cap, cur.setIfInBounds j v, rfl, hg, heap_setCell_same w g j cur e v hh, hn, hcap, by simpa using hsz, ?_⟩⟩
    rw [Array.toList_setIfInBounds, List.take_set, htake]
theorem own_cells {w : World} {base : Nat} {e : TypeId} {size g cap n : Nat} {xs : List Value} (h : w.ownsRow base e size (.slice (some ⟨g, 0, none⟩) n cap) n xs) : g < w.heap.size ∧ base ≤ g ∧ (∀ j, w.frozen? ⟨g, j, none⟩ = false) ∧ ∀ j u, xs[j]? = some u → w.cell? ⟨g, j, none⟩ = some u := by
  obtain ⟨h1, h2⟩ := h
  rcases h2 with ⟨h0, _⟩ | ⟨g', cap', cur, hv, hg, hh, hn, hcap, hsz, htake⟩
  · cases h0
  · cases hv
    have hb : Blk w g cur e := hh
    refine ⟨hb.lt, hg, fun j => hb.frozen j, fun j u hu => hb.cell j ?_⟩
    rw [← htake, List.getElem?_take] at hu
    split at hu
    · simpa using hu
    · cases hu

end Go.Proofs.Ytignlfcjlbijaaa
