/- Improve, first half: jumps that lead to jumps are cut short. -/
import Derived.Test.YtignlfcjlbijaaaIa
namespace Go.Proofs.Ytignlfcjlbijaaa
open Go.RowKit

theorem insV_J {x : Ins} {n : Int} (h : insV x n = true) (hj : isJ x.d) : 0 ≤ x.a ∧ x.a < n := by
  unfold insV at h
  unfold isJ at hj
  rcases hj with hj | hj | hj <;> simp only [hj] at h <;> simp [inB] at h <;> omega
theorem ctl_jump {x : Ins} {ws : List Int} (h : ctl x ws = .jump) : isJ x.d := by
  unfold ctl at h
  unfold isJ
  repeat' split at h
  all_goals first
    | (cases h; done)
    | omega
theorem ctl_trap {x : Ins} {ws : List Int} {n : Int} (h : ctl x ws = .trap n) : x.d = 7 ∨ x.d = 14 := by
  unfold ctl at h
  repeat' split at h
  all_goals first
    | (cases h; done)
    | omega
theorem ctl_halt {x : Ins} {ws : List Int} (h : ctl x ws = .halt) : x.d = 0 := by
  unfold ctl at h
  repeat' split at h
  all_goals first
    | (cases h; done)
    | assumption
theorem dat_halt {x : Ins} (s : RS) (h : x.d = 0) : (dat x s).ov = true := by
  unfold dat
  rw [if_pos h]
  split <;> rfl
theorem goS_sim {c c2 : Cd} {k k2 : Nat} {s t : RS} (h : Sim s t) (hk : c.l.length ≤ k ↔ c2.l.length ≤ k2) : Sim (goS c k s) (goS c2 k2 t) :=
  ⟨h.ws, decide_eq_decide.2 hk.symm, h.res, h.trap, h.told, h.cost⟩

def thr (l : List Ins) : Nat → Nat → Nat
  | 0, a => a
  | n + 1, a => if (l.getD a default).d = 4 then thr l n (l.getD a default).a.toNat else a
theorem thr_lt {c : Cd} (hv : codeV c = true) : ∀ (m a : Nat), a < c.l.length → thr c.l m a < c.l.length
  | 0, _, h => h
  | m + 1, a, h => by
    obtain ⟨_, _, _, v4, _⟩ := codeV_ins hv
    unfold thr
    split
    · rename_i h4
      have := insV_J (v4 a h) (.inl h4)
      exact thr_lt hv m _ (by omega)
    · exact h
theorem thr_stop {l : List Ins} {a : Nat} (h : (l.getD a default).d ≠ 4) (m : Nat) : thr l m a = a := by
  cases m with
  | zero => rfl
  | succ m => unfold thr; rw [if_neg h]

def impI (l : List Ins) (x : Ins) : Ins := if isJ x.d then { x with a := thr l l.length x.a.toNat } else x
def impH (x : Ins) (z : Int) : Int := if x.d = 7 ∨ x.d = 14 then z else -1
/-- code with its jumps cut short, and without the handlers of what does not trap -/
def impD (c : Cd) : Cd := ⟨c.l.map (impI c.l), (List.range c.l.length).map fun i => impH (c.l.getD i default) (c.h.getD i 0)⟩
theorem impD_len (c : Cd) : (impD c).l.length = c.l.length := by simp [impD]
theorem impD_get {c : Cd} {i : Nat} (h : i < c.l.length) : (impD c).l.getD i default = impI c.l (c.l.getD i default) := by
  simp [impD, List.getD_eq_getElem?_getD, h]
theorem impD_h {c : Cd} {i : Nat} (h : i < c.l.length) : (impD c).h.getD i 0 = impH (c.l.getD i default) (c.h.getD i 0) := by
  simp [impD, List.getD_eq_getElem?_getD, h]
theorem impI_same (l : List Ins) (x : Ins) : (impI l x).d = x.d ∧ (impI l x).b = x.b ∧ (impI l x).c = x.c ∧ ((impI l x).a = x.a ∨ isJ x.d) := by
  unfold impI
  split
  · rename_i h; exact ⟨rfl, rfl, rfl, .inr h⟩
  · exact ⟨rfl, rfl, rfl, .inl rfl⟩
theorem insV_a {x : Ins} {n : Int} {v : Int} (h : insV x n = true) (hj : isJ x.d) (h0 : 0 ≤ v) (h1 : v < n) : insV { x with a := v } n = true := by
  unfold insV at h ⊢
  unfold isJ at hj
  rcases hj with hj | hj | hj <;> simp only [hj] at h ⊢ <;> simp [inB] at h ⊢ <;> first | omega | grind
theorem codeV_impD {c : Cd} (hv : codeV c = true) : codeV (impD c) = true := by
  obtain ⟨v1, v2, v3, v4, v5⟩ := codeV_ins hv
  refine codeV_true (by rw [impD_len]; exact v1) (by rw [impD_len]; exact v2) (by simp [impD]) (fun i hi => ?_) (fun i hi => ?_)
  · rw [impD_len] at hi ⊢
    rw [impD_get hi]
    have h := v4 i hi
    unfold impI
    split
    · rename_i hj
      have ha := insV_J h hj
      exact insV_a h hj (by omega) (by have := thr_lt hv c.l.length (c.l.getD i default).a.toNat (by omega); omega)
    · exact h
  · rw [impD_len] at hi ⊢
    rw [impD_h hi]
    unfold impH
    split
    · exact v5 i hi
    · simp [inB]; omega

/-- the two runs stand at the same place, or the second one is ahead by jumps -/
structure R1 (c : Cd) (s t : RS) : Prop where
  sim : Sim s t
  at_ : s.ov = false → s.at_ < c.l.length ∧ ∃ m, t.at_ = thr c.l m s.at_
theorem R1.step {c : Cd} (hv : codeV c = true) {s t : RS} (h : R1 c s t) (ho : s.ov = false) : R1 c (stepS c s) t ∨ R1 c (stepS c s) (stepS (impD c) t) := by
  obtain ⟨v1, v2, v3, v4, v5⟩ := codeV_ins hv
  obtain ⟨hlt, m, hm⟩ := h.at_ ho
  have hx := v4 _ hlt
  obtain ⟨x, hxx⟩ : ∃ x, x = c.l.getD s.at_ default := ⟨_, rfl⟩
  rw [stepS_eq c s, ← hxx]
  rw [← hxx] at hx
  by_cases hJ : x.d = 4 ∧ t.at_ ≠ s.at_
  · left
    obtain ⟨h4, hne⟩ := hJ
    have ha := insV_J hx (.inl h4)
    cases m with
    | zero => exact absurd hm hne
    | succ m =>
      unfold thr at hm
      rw [← hxx, if_pos h4] at hm
      have hc : ctl x s.ws = .jump := by unfold ctl; simp only [h4]; rfl
      unfold stepC
      rw [hc]
      show R1 c (goS c x.a.toNat (dat x s)) t
      rw [dat_J (.inl h4)]
      have hk : ¬ c.l.length ≤ x.a.toNat := by omega
      have h8 := costV_range x.d
      refine ⟨⟨h.sim.ws, ?_, h.sim.res, h.sim.trap, h.sim.told, ?_⟩, fun _ => ⟨by show x.a.toNat < _; omega, m, hm⟩⟩
      · show t.ov = decide _
        rw [decide_eq_false hk, h.sim.ov, ho]
      · show t.cost ≤ s.cost + _
        have := h.sim.cost
        omega
  · right
    have hat : t.at_ = s.at_ := by
      by_cases h4 : x.d = 4
      · exact Classical.byContradiction fun hn => hJ ⟨h4, hn⟩
      · rw [hm]; exact thr_stop (by rw [← hxx]; exact h4) m
    rw [stepS_eq (impD c) t, hat, impD_get hlt, ← hxx]
    obtain ⟨e1, e2, e3, e4⟩ := impI_same c.l x
    have hd := dat_sim h.sim e1 e2 e3 e4
    have hc := ctl_same s.ws e1 e2 e3 e4
    unfold stepC
    rw [h.sim.ws, hc]
    rcases hct : ctl x s.ws with _ | _ | _ | n
    · exact ⟨hd, fun h0 => by rw [dat_halt s (ctl_halt hct)] at h0; cases h0⟩
    · refine ⟨goS_sim hd (by rw [impD_len, hat]), fun h0 => ⟨?_, 0, by show t.at_ + 1 = s.at_ + 1; rw [hat]⟩⟩
      simp only [goS, decide_eq_false_iff_not] at h0
      show s.at_ + 1 < _
      omega
    · have hj := ctl_jump hct
      have ha := insV_J hx hj
      have ht := thr_lt hv c.l.length x.a.toNat (by omega)
      have hia : (impI c.l x).a.toNat = thr c.l c.l.length x.a.toNat := by unfold impI; rw [if_pos hj]; simp
      refine ⟨goS_sim hd (by rw [impD_len, hia]; omega), fun _ => ⟨by show x.a.toNat < _; omega, c.l.length, hia⟩⟩
    · have h714 := ctl_trap hct
      have hh : (impD c).h.getD t.at_ 0 = c.h.getD s.at_ 0 := by rw [hat, impD_h hlt, ← hxx]; unfold impH; rw [if_pos h714]
      have hz := v5 _ hlt
      simp only [inB, Bool.and_eq_true, decide_eq_true_eq] at hz
      show R1 c (trapS c (dat x s) n) (trapS (impD c) (dat (impI c.l x) t) n)
      unfold trapS
      rw [dat_at, dat_at, hh]
      split
      · rename_i h0
        exact ⟨⟨hd.ws, hd.ov, hd.res, hd.trap, hd.told, hd.cost⟩, fun _ => ⟨by show (c.h.getD s.at_ 0).toNat < _; omega, 0, rfl⟩⟩
      · exact ⟨⟨hd.ws, rfl, hd.res, rfl, hd.told, hd.cost⟩, fun h0 => by cases h0⟩
theorem itS_imp {c : Cd} (hv : codeV c = true) (s : RS) (h0 : s.at_ = 0) : ∀ n, ∃ m, m ≤ n ∧ R1 c (itS c s n) (itS (impD c) s m)
  | 0 => ⟨0, Nat.le_refl _, ⟨⟨rfl, rfl, rfl, rfl, rfl, Int.le_refl _⟩, fun _ => ⟨by show s.at_ < _; rw [h0]; exact (codeV_ins hv).1, 0, rfl⟩⟩⟩
  | n + 1 => by
    obtain ⟨m, hm, hr⟩ := itS_imp hv s h0 n
    have e1 : itS c s (n + 1) = if (itS c s n).ov then itS c s n else stepS c (itS c s n) := rfl
    rcases ho : (itS c s n).ov with _ | _
    · rw [e1, ho]
      rcases hr.step hv ho with h | h
      · exact ⟨m, by omega, h⟩
      · refine ⟨m + 1, by omega, ?_⟩
        have e2 : itS (impD c) s (m + 1) = if (itS (impD c) s m).ov then itS (impD c) s m else stepS (impD c) (itS (impD c) s m) := rfl
        rw [e2, hr.sim.ov, ho]
        exact h
    · rw [e1, ho]
      exact ⟨m, by omega, hr⟩
/-- a run that is over: so is that of the code with its jumps cut short -/
theorem over_imp {c : Cd} (hv : codeV c = true) (s : RS) (h0 : s.at_ = 0) (n : Nat) (h : (itS c s n).ov = true) : Sim (itS c s n) (itS (impD c) s n) := by
  obtain ⟨m, hm, hr⟩ := itS_imp hv s h0 n
  have ho : (itS (impD c) s m).ov = true := by rw [hr.sim.ov, h]
  have := itS_over ho (n - m)
  rw [show m + (n - m) = n by omega] at this
  rw [this]
  exact hr.sim

end Go.Proofs.Ytignlfcjlbijaaa
