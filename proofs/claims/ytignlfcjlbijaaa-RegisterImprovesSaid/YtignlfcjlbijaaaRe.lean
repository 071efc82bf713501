/- What is valid code: the program's side, one instruction. -/
import Derived.Test.YtignlfcjlbijaaaRd
namespace Go.Proofs.Ytignlfcjlbijaaa
open Go.RowKit

set_option maxHeartbeats 400000 in
theorem isReg_any (n : Int) (w : World) :
    Calls Try.prog 57 #[.int .i64 n] w fun e w' => e = .returned (.bool (rgB n)) ∧ w = w' := by
  go_enter Try.func57, Try.ntmps57
  by_cases h : 0 ≤ n
  all_goals
    go_wp2
    go_ret
    exact ⟨ret_bool (by rw [Bool.eq_iff_iff]; simp [rgB, inB]; omega), rfl⟩

theorem insV_tgt (a n : Int) (q : Bool) (h : (decide (0 ≤ a) && decide (a < n)) = q) : inB a 0 (n - 1) = q := by
  rw [← h, Bool.eq_iff_iff]; simp [inB]; omega

set_option maxHeartbeats 8000000 in
set_option maxRecDepth 100000 in
theorem validI_any (x : Ins) (n : Int) (w : World) (_h0 : 0 ≤ n) (_h1 : n ≤ 1000) :
    Calls Try.prog 39 #[.agg #[.int .i64 x.d, .int .i64 x.a, .int .i64 x.b, .int .i64 x.c], .int .i64 n] w fun e w' => e = .returned (.bool (insV x n)) ∧ Below w.heap.size w w' := by
  obtain ⟨d, a, b, c⟩ := x
  dsimp only
  rcases (show d = 0 ∨ d = 1 ∨ d = 2 ∨ d = 4 ∨ d = 5 ∨ d = 6 ∨ d = 7 ∨ d = 8 ∨ d = 11 ∨ d = 12 ∨ d = 13 ∨ d = 14 ∨ d = 15 ∨ d = 16 ∨ (d ≠ 0 ∧ d ≠ 1 ∧ d ≠ 2 ∧ d ≠ 4 ∧ d ≠ 5 ∧ d ≠ 6 ∧ d ≠ 7 ∧ d ≠ 8 ∧ d ≠ 11 ∧ d ≠ 12 ∧ d ≠ 13 ∧ d ≠ 14 ∧ d ≠ 15 ∧ d ≠ 16) by omega) with rfl | rfl | rfl | rfl | rfl | rfl | rfl | rfl | rfl | rfl | rfl | rfl | rfl | rfl | ⟨n0, n1, n2, n4, n5, n6, n7, n8, n11, n12, n13, n14, n15, n16⟩
  all_goals
    go_enter Try.func39, Try.ntmps39
    go_wp2_with (first
      | (go_at_call 57; refine (isReg_any _ _).mono ?_; rintro e w' ⟨rfl, rfl⟩)
      | (go_at_call 28; refine (valid_any _ _).mono ?_; rintro e w' ⟨rfl, rfl⟩))
    all_goals
      go_ret
      refine ⟨ret_bool ?_, (Below.refl _ _).alloc (Nat.le_refl _) _⟩
      first
        | (simp [insV, inB, rgB, vB] at *; done)
        | (simp [insV, inB, rgB, vB] at *; omega)
        | (rw [Bool.eq_iff_iff]; simp [insV, inB, rgB, vB] at *; done)
        | (rw [Bool.eq_iff_iff]; simp [insV, inB, rgB, vB] at *; omega)
        | (clear _h0; unfold insV; dsimp only; rw [if_neg n0, if_neg n1, if_neg n2, if_neg n4, if_neg n5, if_neg n6, if_neg n7, if_neg n8, if_neg (by omega)])

end Go.Proofs.Ytignlfcjlbijaaa
