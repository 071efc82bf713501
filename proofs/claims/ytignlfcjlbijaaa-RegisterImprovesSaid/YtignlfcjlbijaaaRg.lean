/- Costs, and what is made of two words: both sides. -/
import Derived.Test.YtignlfcjlbijaaaRf
import Derived.Test.YtignlfcjlbijaaaWc
namespace Go.Proofs.Ytignlfcjlbijaaa
open Go.RowKit

def costV (d : Int) : Int := if d = 6 then 2 else if d = 13 then 3 else if d = 14 then 8 else if d = 1 ∨ d = 2 ∨ d = 4 ∨ d = 5 ∨ d = 7 ∨ d = 8 ∨ d = 11 ∨ d = 12 ∨ d = 15 ∨ d = 16 then 1 else 0
def costE (d : Int) : Int := if d = 0 ∨ d = 6 ∨ d = 13 ∨ d = 14 ∨ d = 1 ∨ d = 2 ∨ d = 4 ∨ d = 5 ∨ d = 7 ∨ d = 8 ∨ d = 11 ∨ d = 12 ∨ d = 15 ∨ d = 16 then 0 else 1
theorem costV_range (d : Int) : 0 ≤ costV d ∧ costV d ≤ 8 := by unfold costV; split <;> (try split) <;> (try split) <;> (try split) <;> omega

set_option maxHeartbeats 4000000 in
theorem rCost_any (x : Ins) (w : World) :
    Calls Try.prog 24 #[.agg #[.int .i64 x.d, .int .i64 x.a, .int .i64 x.b, .int .i64 x.c]] w fun e w' => e = .returned (.tuple #[.int .i64 (costV x.d), .int .i64 (costE x.d)]) ∧ Below w.heap.size w w' := by
  obtain ⟨d, a, b, c⟩ := x
  dsimp only
  rcases (show d = 0 ∨ d = 1 ∨ d = 2 ∨ d = 4 ∨ d = 5 ∨ d = 6 ∨ d = 7 ∨ d = 8 ∨ d = 11 ∨ d = 12 ∨ d = 13 ∨ d = 14 ∨ d = 15 ∨ d = 16 ∨ (d ≠ 0 ∧ d ≠ 1 ∧ d ≠ 2 ∧ d ≠ 4 ∧ d ≠ 5 ∧ d ≠ 6 ∧ d ≠ 7 ∧ d ≠ 8 ∧ d ≠ 11 ∧ d ≠ 12 ∧ d ≠ 13 ∧ d ≠ 14 ∧ d ≠ 15 ∧ d ≠ 16) by omega) with rfl | rfl | rfl | rfl | rfl | rfl | rfl | rfl | rfl | rfl | rfl | rfl | rfl | rfl | ⟨n0, n1, n2, n4, n5, n6, n7, n8, n11, n12, n13, n14, n15, n16⟩
  all_goals
    go_enter Try.func24, Try.ntmps24
    go_wp2
    all_goals
      go_ret2
      exact ⟨by simp [costV, costE, *], (Below.refl _ _).alloc (Nat.le_refl _) _⟩

set_option maxHeartbeats 4000000 in
theorem Cost_any (x : Ins) (w : World) :
    Calls Try.prog 23 #[.agg #[.int .i64 x.d, .int .i64 x.a, .int .i64 x.b, .int .i64 x.c]] w fun e w' => e = .returned (.tuple #[.int .i64 (costV x.d), .int .i64 (costE x.d)]) ∧ Below w.heap.size w w' := by
  obtain ⟨d, a, b, c⟩ := x
  dsimp only
  rcases (show d = 0 ∨ d = 1 ∨ d = 2 ∨ d = 4 ∨ d = 5 ∨ d = 6 ∨ d = 7 ∨ d = 8 ∨ d = 11 ∨ d = 12 ∨ d = 13 ∨ d = 14 ∨ d = 15 ∨ d = 16 ∨ (d ≠ 0 ∧ d ≠ 1 ∧ d ≠ 2 ∧ d ≠ 4 ∧ d ≠ 5 ∧ d ≠ 6 ∧ d ≠ 7 ∧ d ≠ 8 ∧ d ≠ 11 ∧ d ≠ 12 ∧ d ≠ 13 ∧ d ≠ 14 ∧ d ≠ 15 ∧ d ≠ 16) by omega) with rfl | rfl | rfl | rfl | rfl | rfl | rfl | rfl | rfl | rfl | rfl | rfl | rfl | rfl | ⟨n0, n1, n2, n4, n5, n6, n7, n8, n11, n12, n13, n14, n15, n16⟩
  all_goals
    go_enter Try.func23, Try.ntmps23
    go_wp2
    all_goals
      go_ret2
      exact ⟨by simp [costV, costE, *], (Below.refl _ _).alloc (Nat.le_refl _) _⟩

/-- what a Do from 11 to 16 makes of two words -/
def calcV (d a b : Int) : Int :=
  if d = 11 then wrap32 (a + b) else if d = 12 then wrap32 (a - b) else if d = 13 then wrap32 (a * b)
  else if d = 14 then wrap32 (quoV a b) else if d = 15 then (if a < b then 1 else 0) else (if a = b then 1 else 0)

set_option maxHeartbeats 4000000 in
theorem calc_ok (d a b : Int) (w : World) (h1 : 11 ≤ d) (h2 : d ≤ 16) (hv : (vB a && vB b) = true) (h : d = 14 → b ≠ 0) :
    Calls Try.prog 53 #[.int .i64 d, .int .i64 a, .int .i64 b] w fun e w' => e = .returned (.tuple #[.int .i64 (calcV d a b), .bool true]) ∧ w = w' := by
  have i1 := in_add hv
  have i2 := in_sub hv
  have i3 := in_mul hv
  have HV := Lib.hid hv
  clear hv
  rcases (show d = 11 ∨ d = 12 ∨ d = 13 ∨ d = 14 ∨ d = 15 ∨ d = 16 by omega) with rfl | rfl | rfl | rfl | rfl | rfl
  all_goals
    go_enter Try.func53, Try.ntmps53
    go_wp2_with (first
      | (go_at_call 64; refine (rwrap_any _ _).mono ?_; rintro e w' ⟨rfl, rfl⟩)
      | (go_at_call 65; refine (rdiv_ok _ _ _ HV.out (h rfl)).mono ?_; rintro e w' ⟨rfl, rfl⟩))
    all_goals
      go_ret2
      exact ⟨by first | (simp [calcV, *]; done) | (simp_all [calcV]; done), rfl⟩
set_option maxHeartbeats 4000000 in
theorem calc_no (a : Int) (w : World) :
    Calls Try.prog 53 #[.int .i64 14, .int .i64 a, .int .i64 0] w fun e w' => e = .returned (.tuple #[.int .i64 0, .bool false]) ∧ w = w' := by
  go_enter Try.func53, Try.ntmps53
  go_wp2
  go_ret2
  exact ⟨rfl, rfl⟩

theorem bit_any (q : Bool) (w : World) : Calls Try.prog 51 #[.bool q] w fun e w' => e = .returned (.int .i64 (if q then 1 else 0)) ∧ w = w' := by
  cases q
  all_goals
    go_enter Try.func51, Try.ntmps51
    go_wp2
    go_ret
    exact ⟨rfl, rfl⟩

set_option maxHeartbeats 4000000 in
theorem comp_ok (d a b : Int) (w : World) (h1 : 11 ≤ d) (h2 : d ≤ 16) (hv : (vB a && vB b) = true) (h : d = 14 → b ≠ 0) :
    Calls Try.prog 29 #[.int .i64 d, .int .i64 a, .int .i64 b] w fun e w' => e = .returned (.tuple #[.int .i64 (calcV d a b), .bool true]) ∧ Below w.heap.size w w' := by
  have HV := Lib.hid hv
  clear hv
  rcases (show d = 11 ∨ d = 12 ∨ d = 13 ∨ d = 14 ∨ d = 15 ∨ d = 16 by omega) with rfl | rfl | rfl | rfl | rfl | rfl
  all_goals
    go_enter Try.func29, Try.ntmps29
    go_wp2_with (first
      | (go_at_call 47; refine (add_ok _ _ _ HV.out).mono ?_; rintro e w' ⟨rfl, hb1⟩)
      | (go_at_call 48; refine (sub_ok _ _ _ HV.out).mono ?_; rintro e w' ⟨rfl, hb1⟩)
      | (go_at_call 49; refine (mul_ok _ _ _ HV.out).mono ?_; rintro e w' ⟨rfl, hb1⟩)
      | (go_at_call 50; refine (div_ok _ _ _ HV.out (h rfl)).mono ?_; rintro e w' ⟨rfl, hb1⟩)
      | (go_at_call 51; refine (bit_any _ _).mono ?_; rintro e w' ⟨rfl, rfl⟩))
    all_goals
      go_ret2
      first
        | exact ⟨by first | (simp [calcV, *]; done) | (simp_all [calcV]; done), hb1⟩
        | exact ⟨by first | (simp [calcV, *]; done) | (simp_all [calcV]; done), Below.refl _ _⟩
set_option maxHeartbeats 4000000 in
theorem comp_no (a : Int) (w : World) (hv : vB a = true) :
    Calls Try.prog 29 #[.int .i64 14, .int .i64 a, .int .i64 0] w fun e w' => e = .returned (.tuple #[.int .i64 0, .bool false]) ∧ Below w.heap.size w w' := by
  have HV := Lib.hid hv
  clear hv
  go_enter Try.func29, Try.ntmps29
  go_wp2_with (first | (go_at_call 50; refine (div_zero _ _ HV.out).mono ?_; rintro e w' ⟨rfl, hb1⟩))
  go_ret2
  exact ⟨rfl, hb1⟩

end Go.Proofs.Ytignlfcjlbijaaa
