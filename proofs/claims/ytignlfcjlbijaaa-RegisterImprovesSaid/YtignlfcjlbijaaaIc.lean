/- Improve, second half: what is not reached or idle is left out, and targets are renumbered. -/
import Derived.Test.YtignlfcjlbijaaaIb
namespace Go.Proofs.Ytignlfcjlbijaaa
open Go.RowKit

/-- an instruction that does nothing but go on -/
def idleB (d : Cd) (i : Nat) : Bool := decide (((d.l.getD i default).d = 2 ∧ (d.l.getD i default).a = (d.l.getD i default).b) ∨ ((d.l.getD i default).d = 4 ∧ (d.l.getD i default).a = (i : Int) + 1))
structure Stay (d : Cd) (st : List Bool) : Prop where
  len : st.length = d.l.length
  iff : ∀ i, i < d.l.length → (st.getD i false = true ↔ Reach d i ∧ ¬ (idleB d i = true ∧ i + 1 < d.l.length))
def plc (st : List Bool) (k : Nat) : Nat := (st.take k).count true
def keeps (st : List Bool) (k : Nat) : List Nat := (List.range k).filter fun i => st.getD i false
def outI (d : Cd) (st : List Bool) (i : Nat) : Ins := if isJ (d.l.getD i default).d then { d.l.getD i default with a := plc st (d.l.getD i default).a.toNat } else d.l.getD i default
def outH (d : Cd) (st : List Bool) (i : Nat) : Int := if 0 ≤ d.h.getD i 0 then plc st (d.h.getD i 0).toNat else d.h.getD i 0
def outC (d : Cd) (st : List Bool) : Cd := ⟨(keeps st d.l.length).map (outI d st), (keeps st d.l.length).map (outH d st)⟩

theorem plc_succ {st : List Bool} {k : Nat} (h : k < st.length) : plc st (k + 1) = plc st k + (if st.getD k false = true then 1 else 0) := by
  unfold plc
  rw [List.take_succ_eq_append_getElem h, List.count_append]
  congr 1
  simp only [List.getD_eq_getElem?_getD, List.getElem?_eq_getElem h, Option.getD_some]
  cases st[k] <;> simp
theorem plc_mono {st : List Bool} {i j : Nat} (h : i ≤ j) (hj : j ≤ st.length) : plc st i ≤ plc st j := by
  induction j with
  | zero => obtain rfl : i = 0 := by omega
            exact Nat.le_refl _
  | succ j ih =>
    by_cases he : i = j + 1
    · subst he; exact Nat.le_refl _
    · have := ih (by omega) (by omega)
      rw [plc_succ (by omega)]
      omega
theorem plc_lt {st : List Bool} {i j : Nat} (h : i < j) (hj : j ≤ st.length) (hi : st.getD i false = true) : plc st i < plc st j := by
  have h1 := plc_succ (st := st) (k := i) (by omega)
  rw [if_pos hi] at h1
  have := plc_mono (st := st) (i := i + 1) (j := j) (by omega) hj
  omega
theorem keeps_succ (st : List Bool) (k : Nat) : keeps st (k + 1) = keeps st k ++ (if st.getD k false = true then [k] else []) := by
  unfold keeps
  rw [List.range_succ, List.filter_append]
  congr 1
  simp only [List.filter_cons, List.filter_nil]
theorem keeps_len {st : List Bool} {k : Nat} (h : k ≤ st.length) : (keeps st k).length = plc st k := by
  induction k with
  | zero => simp [keeps, plc]
  | succ k ih =>
    rw [keeps_succ, List.length_append, ih (by omega), plc_succ (by omega)]
    split <;> rfl
theorem keeps_get {st : List Bool} {k i : Nat} (hk : k ≤ st.length) (hi : i < k) (h : st.getD i false = true) : (keeps st k)[plc st i]? = some i := by
  induction k with
  | zero => omega
  | succ k ih =>
    rw [keeps_succ]
    by_cases he : i = k
    · subst he
      rw [if_pos h, List.getElem?_append_right (by rw [keeps_len (by omega)]; exact Nat.le_refl _), keeps_len (by omega)]
      simp
    · have := plc_lt (st := st) (i := i) (j := k) (by omega) (by omega) h
      rw [List.getElem?_append_left (by rw [keeps_len (by omega)]; exact this)]
      exact ih (by omega) (by omega)

section
variable {d : Cd} {st : List Bool}
theorem outC_len (h : Stay d st) : (outC d st).l.length = plc st d.l.length := by simp only [outC, List.length_map]; exact keeps_len (by rw [h.len]; exact Nat.le_refl _)
theorem outC_get (h : Stay d st) {i : Nat} (hi : i < d.l.length) (hs : st.getD i false = true) : (outC d st).l.getD (plc st i) default = outI d st i := by
  simp only [outC, List.getD_eq_getElem?_getD, List.getElem?_map, keeps_get (st := st) (k := d.l.length) (by rw [h.len]; exact Nat.le_refl _) hi hs]
  rfl
theorem outC_h (h : Stay d st) {i : Nat} (hi : i < d.l.length) (hs : st.getD i false = true) : (outC d st).h.getD (plc st i) 0 = outH d st i := by
  simp only [outC, List.getD_eq_getElem?_getD, List.getElem?_map, keeps_get (st := st) (k := d.l.length) (by rw [h.len]; exact Nat.le_refl _) hi hs]
  rfl
theorem folV_J {i : Nat} (h : isJ (d.l.getD i default).d) : (d.l.getD i default).a.toNat ∈ folV d i := by
  unfold folV
  dsimp only
  unfold isJ at h
  rw [if_neg (by omega)]
  split
  · simp
  · rw [if_pos (by omega)]; simp
theorem idle_next {i : Nat} (h : idleB d i = true) (hn : i + 1 < d.l.length) : i + 1 ∈ folV d i := by
  simp only [idleB, decide_eq_true_eq] at h
  rcases h with ⟨h2, _⟩ | ⟨h4, ha⟩
  · exact folV_nx ⟨by rw [h2]; decide, by rw [h2]; decide, by rw [h2]; decide⟩ (by unfold nxV; rw [if_pos hn]; exact List.mem_singleton.2 rfl)
  · have := folV_J (d := d) (i := i) (.inl h4)
    rw [ha] at this
    exact this
theorem Stay.not (h : Stay d st) {i : Nat} (hi : i < d.l.length) (hr : Reach d i) (hs : ¬ st.getD i false = true) : idleB d i = true ∧ i + 1 < d.l.length :=
  Classical.byContradiction fun hn => hs ((h.iff i hi).2 ⟨hr, hn⟩)
theorem plc_reach (h : Stay d st) : ∀ (k i : Nat), d.l.length - i = k → i < d.l.length → Reach d i → plc st i < plc st d.l.length
  | 0, i, hk, hi, _ => by omega
  | k + 1, i, hk, hi, hr => by
    by_cases hs : st.getD i false = true
    · exact plc_lt hi (by rw [h.len]; exact Nat.le_refl _) hs
    · obtain ⟨h1, h2⟩ := h.not hi hr hs
      have := plc_reach h k (i + 1) (by omega) h2 (.step hr (idle_next h1 h2))
      rw [plc_succ (by rw [h.len]; exact hi), if_neg hs] at this
      exact this
theorem outI_same (i : Nat) : (outI d st i).d = (d.l.getD i default).d ∧ (outI d st i).b = (d.l.getD i default).b ∧ (outI d st i).c = (d.l.getD i default).c ∧ ((outI d st i).a = (d.l.getD i default).a ∨ isJ (d.l.getD i default).d) := by
  unfold outI
  split
  · rename_i h; exact ⟨rfl, rfl, rfl, .inr h⟩
  · exact ⟨rfl, rfl, rfl, .inl rfl⟩
end
theorem ctl_next {x : Ins} {ws : List Int} (h : ctl x ws = .next) : x.d ≠ 0 ∧ x.d ≠ 4 ∧ x.d ≠ 7 := by
  unfold ctl at h
  refine ⟨fun h0 => ?_, fun h0 => ?_, fun h0 => ?_⟩ <;> simp only [h0] at h <;> simp at h
theorem set_own (l : List Int) (i : Nat) : l.set i (l.getD i 0) = l := by
  refine List.ext_getElem (by simp) fun j h1 h2 => ?_
  rw [List.getElem_set]
  split
  · subst_vars; simp at h1; simp [h1]
  · rfl

structure R2 (d : Cd) (st : List Bool) (s t : RS) : Prop where
  sim : Sim s t
  at_ : s.ov = false → Reach d s.at_ ∧ s.at_ < d.l.length ∧ t.at_ = plc st s.at_
theorem R2.step {d : Cd} {st : List Bool} (hv : codeV d = true) (hst : Stay d st) {s t : RS} (h : R2 d st s t) (ho : s.ov = false) : R2 d st (stepS d s) t ∨ R2 d st (stepS d s) (stepS (outC d st) t) := by
  obtain ⟨v1, v2, v3, v4, v5⟩ := codeV_ins hv
  obtain ⟨hr, hlt, hat⟩ := h.at_ ho
  have hx := v4 _ hlt
  have hlen : s.at_ < st.length := by rw [hst.len]; exact hlt
  by_cases hs : st.getD s.at_ false = true
  · right
    rw [stepS_eq d s, stepS_eq (outC d st) t, hat, outC_get hst hlt hs]
    obtain ⟨e1, e2, e3, e4⟩ := outI_same (d := d) (st := st) s.at_
    have hia : isJ (d.l.getD s.at_ default).d → (outI d st s.at_).a.toNat = plc st (d.l.getD s.at_ default).a.toNat := by
      intro hj; unfold outI; rw [if_pos hj]; simp
    have hfj : isJ (d.l.getD s.at_ default).d → Reach d (d.l.getD s.at_ default).a.toNat := fun hj => .step hr (folV_J hj)
    have hfn : (d.l.getD s.at_ default).d ≠ 0 ∧ (d.l.getD s.at_ default).d ≠ 4 ∧ (d.l.getD s.at_ default).d ≠ 7 → s.at_ + 1 < d.l.length → Reach d (s.at_ + 1) :=
      fun hd hn => .step hr (folV_nx hd (by unfold nxV; rw [if_pos hn]; exact List.mem_singleton.2 rfl))
    have hfh : (d.l.getD s.at_ default).d = 7 ∨ (d.l.getD s.at_ default).d = 14 → 0 ≤ d.h.getD s.at_ 0 → Reach d (d.h.getD s.at_ 0).toNat := by
      intro h7 h0
      refine .step hr ?_
      have hm : (d.h.getD s.at_ 0).toNat ∈ hdV d s.at_ := by unfold hdV; rw [if_pos h0]; exact List.mem_singleton.2 rfl
      unfold folV
      dsimp only
      rw [if_neg (by omega), if_neg (by omega), if_neg (by omega)]
      rcases h7 with h7 | h7
      · rw [if_pos h7]; exact hm
      · rw [if_neg (by omega), if_pos h7]; exact List.mem_append_left _ hm
    have hoh : outH d st s.at_ = if 0 ≤ d.h.getD s.at_ 0 then ((plc st (d.h.getD s.at_ 0).toNat : Nat) : Int) else d.h.getD s.at_ 0 := rfl
    generalize hxx : d.l.getD s.at_ default = x at hx e1 e2 e3 e4 hia hfj hfn hfh
    have hd := dat_sim h.sim e1 e2 e3 e4
    have hc := ctl_same s.ws e1 e2 e3 e4
    unfold stepC
    rw [h.sim.ws, hc]
    have hps := plc_succ hlen
    rw [if_pos hs] at hps
    rcases hct : ctl x s.ws with _ | _ | _ | n
    · exact ⟨hd, fun h0 => by rw [dat_halt s (ctl_halt hct)] at h0; cases h0⟩
    · have hn := ctl_next hct
      have hk : d.l.length ≤ s.at_ + 1 ↔ (outC d st).l.length ≤ t.at_ + 1 := by
        rw [outC_len hst, hat, ← hps]
        constructor
        · intro hle
          rw [show s.at_ + 1 = d.l.length by omega]
          exact Nat.le_refl _
        · intro hle
          refine Classical.byContradiction fun hnn => ?_
          have := plc_reach hst _ _ rfl (by omega) (hfn hn (by omega))
          omega
      refine ⟨goS_sim hd hk, fun h0 => ?_⟩
      simp only [goS, decide_eq_false_iff_not] at h0
      exact ⟨hfn hn (by omega), by show s.at_ + 1 < _; omega, by show t.at_ + 1 = plc st (s.at_ + 1); rw [hat, hps]⟩
    · have hj := ctl_jump hct
      have ha := insV_J hx hj
      have hp := plc_reach hst _ _ rfl (show x.a.toNat < d.l.length by omega) (hfj hj)
      refine ⟨goS_sim hd (by rw [outC_len hst, hia hj]; omega), fun _ => ⟨hfj hj, by show x.a.toNat < _; omega, hia hj⟩⟩
    · have h714 := ctl_trap hct
      have hz := v5 _ hlt
      simp only [inB, Bool.and_eq_true, decide_eq_true_eq] at hz
      show R2 d st (trapS d (dat x s) n) (trapS (outC d st) (dat (outI d st s.at_) t) n)
      unfold trapS
      rw [dat_at, dat_at, hat, outC_h hst hlt hs, hoh]
      by_cases h0 : 0 ≤ d.h.getD s.at_ 0
      · rw [if_pos h0, if_pos h0, if_pos (by omega)]
        refine ⟨⟨hd.ws, hd.ov, hd.res, hd.trap, hd.told, hd.cost⟩, fun _ => ⟨hfh h714 h0, by show (d.h.getD s.at_ 0).toNat < _; omega, by simp⟩⟩
      · rw [if_neg h0, if_neg h0, if_neg h0]
        exact ⟨⟨hd.ws, rfl, hd.res, rfl, hd.told, hd.cost⟩, fun h0 => by cases h0⟩
  · left
    obtain ⟨h1, h2⟩ := hst.not hlt hr hs
    have hr2 : Reach d (s.at_ + 1) := .step hr (idle_next h1 h2)
    have hps := plc_succ hlen
    rw [if_neg hs] at hps
    have h8 := costV_range (d.l.getD s.at_ default).d
    rw [stepS_eq d s]
    simp only [idleB, decide_eq_true_eq] at h1
    have hk : decide (d.l.length ≤ s.at_ + 1) = false := decide_eq_false (by omega)
    generalize d.l.getD s.at_ default = x at h1 h8
    have key : ∀ r : RS, r.ws = s.ws → r.res = s.res → r.trap = s.trap → r.told = s.told → r.cost = s.cost + costV x.d → R2 d st (goS d (s.at_ + 1) r) t := by
      intro r q1 q2 q3 q4 q5
      refine ⟨⟨by rw [h.sim.ws]; exact q1.symm, ?_, by rw [h.sim.res]; exact q2.symm, by rw [h.sim.trap]; exact q3.symm, by rw [h.sim.told]; exact q4.symm, ?_⟩, fun _ => ⟨hr2, h2, by rw [hat]; show _ = plc st (s.at_ + 1); rw [hps]; rfl⟩⟩
      · show t.ov = decide _
        rw [hk, h.sim.ov, ho]
      · show t.cost ≤ r.cost
        have := h.sim.cost
        omega
    rcases h1 with ⟨h2, hab⟩ | ⟨h4, ha⟩
    · have hc : ctl x s.ws = .next := by unfold ctl; simp only [h2]; rfl
      unfold stepC
      rw [hc]
      refine key _ ?_ ?_ ?_ ?_ ?_ <;> unfold dat <;> simp only [h2]
      · show s.ws.set x.a.toNat (s.ws.getD x.b.toNat 0) = s.ws
        rw [hab]; exact set_own _ _
      all_goals rfl
    · have hc : ctl x s.ws = .jump := by unfold ctl; simp only [h4]; rfl
      unfold stepC
      rw [hc]
      show R2 d st (goS d x.a.toNat (dat x s)) t
      rw [show x.a.toNat = s.at_ + 1 by omega, dat_J (.inl h4)]
      exact key _ rfl rfl rfl rfl rfl
theorem itS_out {d : Cd} {st : List Bool} (hv : codeV d = true) (hst : Stay d st) (s : RS) (h0 : s.at_ = 0) : ∀ n, ∃ m, m ≤ n ∧ R2 d st (itS d s n) (itS (outC d st) s m)
  | 0 => ⟨0, Nat.le_refl _, ⟨⟨rfl, rfl, rfl, rfl, rfl, Int.le_refl _⟩, fun _ => ⟨by show Reach d s.at_; rw [h0]; exact .zero, by show s.at_ < _; rw [h0]; exact (codeV_ins hv).1, by show s.at_ = plc st s.at_; rw [h0]; simp [plc]⟩⟩⟩
  | n + 1 => by
    obtain ⟨m, hm, hr⟩ := itS_out hv hst s h0 n
    have e1 : itS d s (n + 1) = if (itS d s n).ov then itS d s n else stepS d (itS d s n) := rfl
    rcases ho : (itS d s n).ov with _ | _
    · rw [e1, ho]
      rcases hr.step hv hst ho with h | h
      · exact ⟨m, by omega, h⟩
      · refine ⟨m + 1, by omega, ?_⟩
        have e2 : itS (outC d st) s (m + 1) = if (itS (outC d st) s m).ov then itS (outC d st) s m else stepS (outC d st) (itS (outC d st) s m) := rfl
        rw [e2, hr.sim.ov, ho]
        exact h
    · rw [e1, ho]
      exact ⟨m, by omega, hr⟩
theorem over_out {d : Cd} {st : List Bool} (hv : codeV d = true) (hst : Stay d st) (s : RS) (h0 : s.at_ = 0) (n : Nat) (h : (itS d s n).ov = true) : Sim (itS d s n) (itS (outC d st) s n) := by
  obtain ⟨m, hm, hr⟩ := itS_out hv hst s h0 n
  have ho : (itS (outC d st) s m).ov = true := by rw [hr.sim.ov, h]
  have := itS_over ho (n - m)
  rw [show m + (n - m) = n by omega] at this
  rw [this]
  exact hr.sim
theorem Sim.trans {s t u : RS} (h : Sim s t) (h2 : Sim t u) : Sim s u :=
  ⟨h2.ws.trans h.ws, h2.ov.trans h.ov, h2.res.trans h.res, h2.trap.trans h.trap, h2.told.trans h.told, Int.le_trans h2.cost h.cost⟩

end Go.Proofs.Ytignlfcjlbijaaa
