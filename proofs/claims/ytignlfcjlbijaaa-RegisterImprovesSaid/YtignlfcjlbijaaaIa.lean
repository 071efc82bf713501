/- What Improve makes of code, and that its runs do the same: the plain law. -/
import Derived.Test.YtignlfcjlbijaaaRx
namespace Go.Proofs.Ytignlfcjlbijaaa
open Go.RowKit

inductive Ctl
  | halt
  | next
  | jump
  | trap (n : Int)
/-- where an instruction leads -/
def ctl (x : Ins) (ws : List Int) : Ctl :=
  if x.d = 0 then .halt else if x.d = 1 then .next else if x.d = 2 then .next else if x.d = 4 then .jump
  else if x.d = 5 then (if ws.getD x.b.toNat 0 = 0 then .jump else .next) else if x.d = 6 then .next
  else if x.d = 7 then .trap x.a else if x.d = 8 then (if ws.getD x.b.toNat 0 < ws.getD x.c.toNat 0 then .jump else .next)
  else if x.d = 14 ∧ ws.getD x.c.toNat 0 = 0 then .trap 4 else .next
/-- what it does beside -/
def dat (x : Ins) (s : RS) : RS :=
  if x.d = 0 then (if 0 ≤ x.a then { s with cost := s.cost + costV x.d, ov := true, res := s.ws.getD x.a.toNat 0 } else { s with cost := s.cost + costV x.d, ov := true })
  else if x.d = 1 then { s with cost := s.cost + costV x.d, ws := s.ws.set x.a.toNat x.b }
  else if x.d = 2 then { s with cost := s.cost + costV x.d, ws := s.ws.set x.a.toNat (s.ws.getD x.b.toNat 0) }
  else if x.d = 4 then { s with cost := s.cost + costV x.d } else if x.d = 5 then { s with cost := s.cost + costV x.d }
  else if x.d = 6 then { s with cost := s.cost + costV x.d, told := s.told ++ [(x.a, s.ws.getD x.b.toNat 0)] }
  else if x.d = 7 then { s with cost := s.cost + costV x.d } else if x.d = 8 then { s with cost := s.cost + costV x.d }
  else if x.d = 14 ∧ s.ws.getD x.c.toNat 0 = 0 then { s with cost := s.cost + costV x.d }
  else { s with cost := s.cost + costV x.d, ws := s.ws.set x.a.toNat (calcV x.d (s.ws.getD x.b.toNat 0) (s.ws.getD x.c.toNat 0)) }
def stepC (c : Cd) (x : Ins) (s : RS) : RS :=
  match ctl x s.ws with
  | .halt => dat x s
  | .next => goS c (s.at_ + 1) (dat x s)
  | .jump => goS c x.a.toNat (dat x s)
  | .trap n => trapS c (dat x s) n
theorem stepS_eq (c : Cd) (s : RS) : stepS c s = stepC c (c.l.getD s.at_ default) s := by
  unfold stepS stepC ctl dat
  dsimp only
  generalize c.l.getD s.at_ default = x
  by_cases h0 : x.d = 0
  · simp only [h0]; rfl
  by_cases h1 : x.d = 1
  · simp only [h1]; rfl
  by_cases h2 : x.d = 2
  · simp only [h2]; rfl
  by_cases h4 : x.d = 4
  · simp only [h4]; rfl
  by_cases h5 : x.d = 5
  · simp only [h5]
    by_cases hz : s.ws.getD x.b.toNat 0 = 0
    · simp only [hz]; rfl
    · simp only [hz]; rfl
  by_cases h6 : x.d = 6
  · simp only [h6]; rfl
  by_cases h7 : x.d = 7
  · simp only [h7]; rfl
  by_cases h8 : x.d = 8
  · simp only [h8]
    by_cases hz : s.ws.getD x.b.toNat 0 < s.ws.getD x.c.toNat 0
    · simp only [hz]; rfl
    · simp only [hz]; rfl
  by_cases h14 : x.d = 14 ∧ s.ws.getD x.c.toNat 0 = 0
  · simp only [if_neg h0, if_neg h1, if_neg h2, if_neg h4, if_neg h5, if_neg h6, if_neg h7, if_neg h8, if_pos h14]
  · simp only [if_neg h0, if_neg h1, if_neg h2, if_neg h4, if_neg h5, if_neg h6, if_neg h7, if_neg h8, if_neg h14]

def isJ (d : Int) : Prop := d = 4 ∨ d = 5 ∨ d = 8
instance (d : Int) : Decidable (isJ d) := by unfold isJ; infer_instance
/-- two runs that tell the same so far, the second one at no greater cost -/
structure Sim (s t : RS) : Prop where
  ws : t.ws = s.ws
  ov : t.ov = s.ov
  res : t.res = s.res
  trap : t.trap = s.trap
  told : t.told = s.told
  cost : t.cost ≤ s.cost
theorem dat_J {x : Ins} {s : RS} (h : isJ x.d) : dat x s = { s with cost := s.cost + costV x.d } := by
  unfold dat
  unfold isJ at h
  rcases h with h | h | h
  all_goals
    simp only [h]
    rfl
theorem dat_sim {x y : Ins} {s t : RS} (h : Sim s t) (hd : y.d = x.d) (hb : y.b = x.b) (hc : y.c = x.c) (ha : y.a = x.a ∨ isJ x.d) : Sim (dat x s) (dat y t) := by
  obtain ⟨h1, h2, h3, h4, h5, h6⟩ := h
  rcases ha with ha | ha
  · unfold dat
    rw [hd, hb, hc, h1, ha]
    repeat' split
    all_goals exact ⟨by first | rfl | assumption, by first | rfl | assumption, by first | rfl | assumption, by first | rfl | assumption, by first | assumption | (simp only [h5]), by show t.cost + _ ≤ s.cost + _; omega⟩
  · rw [dat_J ha, dat_J (by rw [hd]; exact ha), hd]
    exact ⟨h1, h2, h3, h4, h5, by show t.cost + _ ≤ s.cost + _; omega⟩
theorem ctl_same {x y : Ins} (ws : List Int) (hd : y.d = x.d) (hb : y.b = x.b) (hc : y.c = x.c) (ha : y.a = x.a ∨ isJ x.d) : ctl y ws = ctl x ws := by
  unfold ctl
  rw [hd, hb, hc]
  rcases ha with ha | ha
  · rw [ha]
  · have n7 : ¬ x.d = 7 := by unfold isJ at ha; omega
    rw [if_neg n7, if_neg n7]
theorem dat_at (x : Ins) (s : RS) : (dat x s).at_ = s.at_ := by
  unfold dat
  repeat' split
  all_goals rfl
theorem dat_ov {x : Ins} (s : RS) (h : x.d ≠ 0) : (dat x s).ov = s.ov := by
  unfold dat
  rw [if_neg h]
  repeat' split
  all_goals rfl

end Go.Proofs.Ytignlfcjlbijaaa
