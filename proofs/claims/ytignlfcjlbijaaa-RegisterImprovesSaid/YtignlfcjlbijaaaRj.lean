/- A whole run, in plain terms: what a step keeps to. -/
import Derived.Test.YtignlfcjlbijaaaRi
namespace Go.Proofs.Ytignlfcjlbijaaa
open Go.RowKit

/-- what a run keeps to behind n steps -/
structure RunB (c : Cd) (s : RS) (n : Nat) : Prop where
  len : s.ws.length = 40
  wd : ∀ i, i < 40 → vB (s.ws.getD i 0) = true
  lt : s.at_ < c.l.length ∨ s.ov = true
  cost0 : 0 ≤ s.cost
  cost1 : s.cost ≤ 8 * n
  told : s.told.length ≤ n
theorem RunB.ok {c : Cd} {s : RS} {n : Nat} (h : RunB c s n) (hn : n ≤ 1000000) : RunOk c s := ⟨h.len, h.wd, h.lt, h.cost0, by have := h.cost1; omega, by have := h.told; omega⟩

theorem getD_set (l : List Int) (i j : Nat) (v : Int) (hi : i < l.length) : (l.set i v).getD j 0 = if i = j then v else l.getD j 0 := by
  simp only [List.getD_eq_getElem?_getD, List.getElem?_set]
  split
  · subst_vars; simp
  · rfl
theorem wd_set {l : List Int} (hl : l.length = 40) (h : ∀ i, i < 40 → vB (l.getD i 0) = true) (k : Nat) {v : Int} (hv : vB v = true) : ∀ i, i < 40 → vB ((l.set k v).getD i 0) = true := by
  intro i hi
  by_cases hk : k < l.length
  · rw [getD_set l k i v hk]
    split
    · exact hv
    · exact h i hi
  · rw [List.set_eq_of_length_le (by omega)]; exact h i hi
theorem calcV_vB (d a b : Int) : vB (calcV d a b) = true := by
  unfold calcV
  split
  · exact wrap32_vB _
  split
  · exact wrap32_vB _
  split
  · exact wrap32_vB _
  split
  · exact wrap32_vB _
  split <;> split <;> decide

theorem goS_ok {c : Cd} {s : RS} {n k : Nat} (hl : s.ws.length = 40) (hw : ∀ i, i < 40 → vB (s.ws.getD i 0) = true) (h0 : 0 ≤ s.cost) (h1 : s.cost ≤ 8 * n) (ht : s.told.length ≤ n) : RunB c (goS c k s) n :=
  ⟨hl, hw, by unfold goS; by_cases h : k < c.l.length; exact .inl h; exact .inr (by simp; omega), h0, h1, ht⟩
theorem trapS_ok {c : Cd} {s : RS} {n : Nat} {t : Int} (hv : codeV c = true) (hat : s.at_ < c.l.length) (hl : s.ws.length = 40) (hw : ∀ i, i < 40 → vB (s.ws.getD i 0) = true) (h0 : 0 ≤ s.cost) (h1 : s.cost ≤ 8 * n) (ht : s.told.length ≤ n) : RunB c (trapS c s t) n := by
  obtain ⟨v1, v2, v3, v4, v5⟩ := codeV_ins hv
  have h5 := v5 _ hat
  simp [inB] at h5
  unfold trapS
  split
  · refine ⟨hl, hw, .inl ?_, h0, h1, ht⟩
    simp only [List.getD_eq_getElem?_getD] at *
    omega
  · exact ⟨hl, hw, .inr rfl, h0, h1, ht⟩
set_option maxHeartbeats 4000000 in
theorem stepS_ok {c : Cd} {s : RS} {n : Nat} (hv : codeV c = true) (h : RunB c s n) (hov : s.ov = false) : RunB c (stepS c s) (n + 1) := by
  obtain ⟨v1, v2, v3, v4, v5⟩ := codeV_ins hv
  have hat : s.at_ < c.l.length := by rcases h.lt with h | h; exact h; rw [hov] at h; cases h
  have hx := v4 _ hat
  have hc := costV_range (c.l.getD s.at_ default).d
  have h0 := h.cost0
  have h1 := h.cost1
  have ht := h.told
  have hxb : (c.l.getD s.at_ default).d = 1 → vB (c.l.getD s.at_ default).b = true := by
    intro hd
    simp only [insV, hd] at hx
    simp at hx
    exact hx.1.2
  unfold stepS
  dsimp only
  generalize c.l.getD s.at_ default = x at *
  generalize costV x.d = q at *
  have k0 : 0 ≤ s.cost + q := by omega
  have k1 : s.cost + q ≤ 8 * ((n + 1 : Nat) : Int) := by omega
  have kt : s.told.length ≤ n + 1 := by omega
  have hw : ∀ k : Int, vB (s.ws.getD k.toNat 0) = true := by
    intro k
    by_cases hb : k.toNat < 40
    · exact h.wd _ hb
    · rw [List.getD_eq_getElem?_getD, List.getElem?_eq_none (by have := h.len; omega)]; rfl
  by_cases c0 : x.d = 0
  · rw [if_pos c0]
    split
    · exact ⟨h.len, h.wd, .inr rfl, k0, k1, kt⟩
    · exact ⟨h.len, h.wd, .inr rfl, k0, k1, kt⟩
  rw [if_neg c0]
  by_cases c1 : x.d = 1
  · rw [if_pos c1]; exact goS_ok (by simpa using h.len) (wd_set h.len h.wd _ (hxb c1)) k0 k1 kt
  rw [if_neg c1]
  by_cases c2 : x.d = 2
  · rw [if_pos c2]; exact goS_ok (by simpa using h.len) (wd_set h.len h.wd _ (hw _)) k0 k1 kt
  rw [if_neg c2]
  by_cases c4 : x.d = 4
  · rw [if_pos c4]; exact goS_ok h.len h.wd k0 k1 kt
  rw [if_neg c4]
  by_cases c5 : x.d = 5
  · rw [if_pos c5]; exact goS_ok h.len h.wd k0 k1 kt
  rw [if_neg c5]
  by_cases c6 : x.d = 6
  · rw [if_pos c6]; exact goS_ok h.len h.wd k0 k1 (by simp; omega)
  rw [if_neg c6]
  by_cases c7 : x.d = 7
  · rw [if_pos c7]; exact trapS_ok hv hat h.len h.wd k0 k1 kt
  rw [if_neg c7]
  by_cases c8 : x.d = 8
  · rw [if_pos c8]; exact goS_ok h.len h.wd k0 k1 kt
  rw [if_neg c8]
  split
  · exact trapS_ok hv hat h.len h.wd k0 k1 kt
  · exact goS_ok (by simpa using h.len) (wd_set h.len h.wd _ (calcV_vB _ _ _)) k0 k1 kt

/-- the states of a run, one step behind the other -/
def itS (c : Cd) (s : RS) : Nat → RS
  | 0 => s
  | n + 1 => if (itS c s n).ov then itS c s n else stepS c (itS c s n)
theorem itS_ok {c : Cd} {s : RS} (hv : codeV c = true) (h : RunB c s 0) : ∀ n, RunB c (itS c s n) n
  | 0 => h
  | n + 1 => by
    have ih := itS_ok hv h n
    unfold itS
    split
    · exact ⟨ih.len, ih.wd, ih.lt, ih.cost0, by have := ih.cost1; omega, by have := ih.told; omega⟩
    · rename_i ho
      exact stepS_ok hv ih (by simpa using ho)
theorem itS_over {c : Cd} {s : RS} {n : Nat} (h : (itS c s n).ov = true) : ∀ k, itS c s (n + k) = itS c s n
  | 0 => rfl
  | k + 1 => by
    have ih := itS_over h k
    have e : itS c s (n + (k + 1)) = if (itS c s (n + k)).ov then itS c s (n + k) else stepS c (itS c s (n + k)) := rfl
    rw [e, ih, if_pos h]

/-- how a run begins -/
def begS (args : List Int) : RS := ⟨args ++ List.replicate (40 - args.length) 0, 0, false, 0, 0, 0, []⟩
theorem begS_ok {c : Cd} {args : List Int} (hv : codeV c = true) (hl : args.length ≤ 4) (ha : args.all vB = true) : RunB c (begS args) 0 := by
  obtain ⟨v1, _⟩ := codeV_ins hv
  refine ⟨by simp [begS]; omega, fun i hi => ?_, .inl v1, by simp [begS], by simp [begS], by simp [begS]⟩
  simp only [begS, List.getD_eq_getElem?_getD]
  by_cases h : i < args.length
  · rw [List.getElem?_append_left h]
    simp only [List.getElem?_eq_getElem h, Option.getD_some]
    exact List.all_eq_true.1 ha _ (List.getElem_mem h)
  · rw [List.getElem?_append_right (by omega), List.getElem?_replicate]
    split <;> decide

end Go.Proofs.Ytignlfcjlbijaaa
