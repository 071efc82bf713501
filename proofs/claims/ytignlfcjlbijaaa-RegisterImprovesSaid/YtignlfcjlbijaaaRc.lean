/- What is valid code: the reference's side. -/
import Derived.Test.YtignlfcjlbijaaaRa
import Derived.Test.YtignlfcjlbijaaaWa
namespace Go.Proofs.Ytignlfcjlbijaaa
open Go.RowKit

def inB (n lo hi : Int) : Bool := decide (lo ≤ n) && decide (n ≤ hi)
def rgB (n : Int) : Bool := inB n 0 39
/-- an instruction of code of n instructions is valid -/
def insV (x : Ins) (n : Int) : Bool :=
  if x.d = 0 then inB x.a (-1) 39 && (x.b == 0) && (x.c == 0)
  else if x.d = 1 then rgB x.a && vB x.b && (x.c == 0)
  else if x.d = 2 then rgB x.a && rgB x.b && (x.c == 0)
  else if x.d = 4 then inB x.a 0 (n - 1) && (x.b == 0) && (x.c == 0)
  else if x.d = 5 then inB x.a 0 (n - 1) && rgB x.b && (x.c == 0)
  else if x.d = 6 then inB x.a 0 3 && rgB x.b && (x.c == 0)
  else if x.d = 7 then inB x.a 1 17 && (x.b == 0) && (x.c == 0)
  else if x.d = 8 then inB x.a 0 (n - 1) && rgB x.b && rgB x.c
  else if 11 ≤ x.d ∧ x.d ≤ 16 then rgB x.a && rgB x.b && rgB x.c
  else false

set_option maxHeartbeats 400000 in
theorem rin_any (n lo hi : Int) (w : World) :
    Calls Try.prog 34 #[.int .i64 n, .int .i64 lo, .int .i64 hi] w fun e w' => e = .returned (.bool (inB n lo hi)) ∧ w = w' := by
  go_enter Try.func34, Try.ntmps34
  by_cases h : lo ≤ n
  all_goals
    go_wp2
    go_ret
    exact ⟨ret_bool (by simp [inB]; try omega), rfl⟩
set_option maxHeartbeats 400000 in
theorem rreg_any (n : Int) (w : World) :
    Calls Try.prog 54 #[.int .i64 n] w fun e w' => e = .returned (.bool (rgB n)) ∧ w = w' := by
  go_enter Try.func54, Try.ntmps54
  go_wp2_with (go_at_call 34; refine (rin_any _ _ _ _).mono ?_; rintro e w' ⟨rfl, rfl⟩)
  go_ret
  exact ⟨rfl, rfl⟩

set_option maxHeartbeats 4000000 in
set_option maxRecDepth 100000 in
theorem rvalidI_any (x : Ins) (n : Int) (w : World) (h0 : 0 ≤ n) (h1 : n ≤ 1000) :
    Calls Try.prog 33 #[.agg #[.int .i64 x.d, .int .i64 x.a, .int .i64 x.b, .int .i64 x.c], .int .i64 n] w fun e w' => e = .returned (.bool (insV x n)) ∧ Below w.heap.size w w' := by
  obtain ⟨d, a, b, c⟩ := x
  dsimp only
  have hn : IntKind.i64.wrap (n - 1) = n - 1 := IntWalk.i64_in _ (by omega)
  rcases (show d = 0 ∨ d = 1 ∨ d = 2 ∨ d = 4 ∨ d = 5 ∨ d = 6 ∨ d = 7 ∨ d = 8 ∨ d = 11 ∨ d = 12 ∨ d = 13 ∨ d = 14 ∨ d = 15 ∨ d = 16 ∨ (d ≠ 0 ∧ d ≠ 1 ∧ d ≠ 2 ∧ d ≠ 4 ∧ d ≠ 5 ∧ d ≠ 6 ∧ d ≠ 7 ∧ d ≠ 8 ∧ d ≠ 11 ∧ d ≠ 12 ∧ d ≠ 13 ∧ d ≠ 14 ∧ d ≠ 15 ∧ d ≠ 16) by omega) with rfl | rfl | rfl | rfl | rfl | rfl | rfl | rfl | rfl | rfl | rfl | rfl | rfl | rfl | ⟨n0, n1, n2, n4, n5, n6, n7, n8, n11, n12, n13, n14, n15, n16⟩
  all_goals
    go_enter Try.func33, Try.ntmps33
    go_wp2_with (first
      | (go_at_call 34; refine (rin_any _ _ _ _).mono ?_; rintro e w' ⟨rfl, rfl⟩)
      | (go_at_call 54; refine (rreg_any _ _).mono ?_; rintro e w' ⟨rfl, rfl⟩)
      | (go_at_call 30; refine (rvalid_any _ _).mono ?_; rintro e w' ⟨rfl, rfl⟩))
    all_goals
      go_ret
      refine ⟨ret_bool ?_, (Below.refl _ _).alloc (Nat.le_refl _) _⟩
      first
        | (simp [insV, *]; done)
        | (simp_all [insV]; done)
        | (simp [insV, *]; omega)


/-- code is valid -/
def codeV (c : Cd) : Bool := decide (1 ≤ c.l.length) && decide (c.l.length ≤ 600) && decide (c.h.length = c.l.length) && c.l.all (fun x => insV x c.l.length) && c.h.all (fun n => inB n (-1) (c.l.length - 1))
theorem codeV_len {c : Cd} (h : ¬ (1 ≤ c.l.length ∧ c.l.length ≤ 600 ∧ c.h.length = c.l.length)) : codeV c = false := by
  cases hc : codeV c
  · rfl
  · exfalso; apply h; simp [codeV] at hc; obtain ⟨⟨⟨⟨h1, h2⟩, h3⟩, _⟩, _⟩ := hc; exact ⟨h1, h2, h3⟩
theorem codeV_true {c : Cd} (h1 : 1 ≤ c.l.length) (h2 : c.l.length ≤ 600) (h3 : c.h.length = c.l.length) (h : ∀ i, i < c.l.length → insV (c.l.getD i default) c.l.length = true) (h' : ∀ i, i < c.l.length → inB (c.h.getD i 0) (-1) (c.l.length - 1) = true) : codeV c = true := by
  simp only [codeV, Bool.and_eq_true, decide_eq_true_eq, List.all_eq_true]
  refine ⟨⟨⟨⟨h1, h2⟩, h3⟩, fun x hx => ?_⟩, fun n hn => ?_⟩
  · obtain ⟨i, hi, rfl⟩ := List.getElem_of_mem hx
    have := h i hi; simpa [hi] using this
  · obtain ⟨i, hi, rfl⟩ := List.getElem_of_mem hn
    have := h' i (by omega); simpa [hi] using this
theorem codeV_ins {c : Cd} (h : codeV c = true) : 1 ≤ c.l.length ∧ c.l.length ≤ 600 ∧ c.h.length = c.l.length ∧ (∀ i, i < c.l.length → insV (c.l.getD i default) c.l.length = true) ∧ ∀ i, i < c.l.length → inB (c.h.getD i 0) (-1) (c.l.length - 1) = true := by
  simp only [codeV, Bool.and_eq_true, decide_eq_true_eq, List.all_eq_true] at h
  obtain ⟨⟨⟨⟨h1, h2⟩, h3⟩, h4⟩, h5⟩ := h
  refine ⟨h1, h2, h3, fun i hi => ?_, fun i hi => ?_⟩
  · have := h4 (c.l[i]) (List.getElem_mem hi); simpa [hi] using this
  · have := h5 (c.h[i]'(by omega)) (List.getElem_mem _); simpa [show i < c.h.length by omega] using this
theorem codeV_false {c : Cd} {i : Nat} (hi : i < c.l.length) (h : insV (c.l.getD i default) c.l.length = false ∨ inB (c.h.getD i 0) (-1) (c.l.length - 1) = false) : codeV c = false := by
  cases hc : codeV c
  · rfl
  · obtain ⟨_, _, _, h4, h5⟩ := codeV_ins hc
    rcases h with h | h
    · rw [h4 i hi] at h; cases h
    · rw [h5 i hi] at h; cases h

theorem sla_int {w : World} {ao : Option Addr} {n cap : Nat} {zs : List Int} (h : SlA w 1 ao n cap (zs.map (Value.int .i64))) {i : Nat} (hi : i < zs.length) : ∃ ad, ao = some ad ∧ w.cell? (ad.add i) = some (.int .i64 (zs.getD i 0)) := h.ints.2 i hi

end Go.Proofs.Ytignlfcjlbijaaa
