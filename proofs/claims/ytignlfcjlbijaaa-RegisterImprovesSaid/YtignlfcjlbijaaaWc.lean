/- Division, remainder, shifts, bits of layer 1 and of its reference, each function by a contract. -/
import Derived.Test.YtignlfcjlbijaaaWb
namespace Go.Proofs.Ytignlfcjlbijaaa
open Go.RowKit

set_option maxHeartbeats 400000 in
theorem two_ok (a b : Int) (w : World) (hv : (vB a && vB b) = true) :
    Calls Try.prog 67 #[.int .i64 a, .int .i64 b] w fun e w' => e = .returned (.int .i64 0) ∧ w = w' := by
  obtain ⟨h1, h2⟩ : vB a = true ∧ vB b = true := by simpa using hv
  clear hv
  go_enter Try.func67, Try.ntmps67
  go_wp2_with (go_at_call 30; refine (rvalid_any _ _).mono ?_; rintro e w' ⟨rfl, rfl⟩)
  go_ret
  exact ⟨rfl, rfl⟩
set_option maxHeartbeats 400000 in
theorem two_no (a b : Int) (w : World) (hv : (vB a && vB b) = false) :
    Calls Try.prog 67 #[.int .i64 a, .int .i64 b] w fun e w' => e = .returned (.int .i64 1) ∧ w = w' := by
  cases h1 : vB a
  · clear hv
    go_enter Try.func67, Try.ntmps67
    go_wp2_with (go_at_call 30; refine (rvalid_any _ _).mono ?_; rintro e w' ⟨rfl, rfl⟩)
    go_ret
    exact ⟨rfl, rfl⟩
  · have h2 : vB b = false := by simpa [h1] using hv
    clear hv
    go_enter Try.func67, Try.ntmps67
    go_wp2_with (go_at_call 30; refine (rvalid_any _ _).mono ?_; rintro e w' ⟨rfl, rfl⟩)
    go_ret
    exact ⟨rfl, rfl⟩

/-- the quotient of two words -/
def quoV (a b : Int) : Int := a.tdiv b
theorem quo_b {a b : Int} (ha : vB a = true) : -2147483648 ≤ quoV a b ∧ quoV a b ≤ 2147483648 := by
  rw [vB_iff] at ha
  have h : (quoV a b).natAbs ≤ a.natAbs := by unfold quoV; rw [Int.natAbs_tdiv]; exact Nat.div_le_self _ _
  omega

set_option maxHeartbeats 400000 in
theorem div_no (a b : Int) (w : World) (hv : (vB a && vB b) = false) :
    Calls Try.prog 50 #[.int .i64 a, .int .i64 b] w fun e w' => e = .returned (.tuple #[.int .i64 0, .int .i64 1]) ∧ Below w.heap.size w w' := by
  go_enter Try.func50, Try.ntmps50
  go_wp2_with (first | (go_at_call 63; refine (words2 a b _ _ (by simp [go_sem]) (by simp [go_sem, Addr.add])).mono ?_; rintro e w' ⟨rfl, rfl⟩))
  go_ret2
  exact ⟨rfl, (Below.refl _ _).alloc (Nat.le_refl _) _⟩
set_option maxHeartbeats 400000 in
theorem div_zero (a : Int) (w : World) (hv : vB a = true) :
    Calls Try.prog 50 #[.int .i64 a, .int .i64 0] w fun e w' => e = .returned (.tuple #[.int .i64 0, .int .i64 5]) ∧ Below w.heap.size w w' := by
  have h0 : vB 0 = true := by decide
  go_enter Try.func50, Try.ntmps50
  go_wp2_with (first | (go_at_call 63; refine (words2 a 0 _ _ (by simp [go_sem]) (by simp [go_sem, Addr.add])).mono ?_; rintro e w' ⟨rfl, rfl⟩))
  go_ret2
  exact ⟨rfl, (Below.refl _ _).alloc (Nat.le_refl _) _⟩
set_option maxHeartbeats 400000 in
theorem div_ok (a b : Int) (w : World) (hv : (vB a && vB b) = true) (hb : b ≠ 0) :
    Calls Try.prog 50 #[.int .i64 a, .int .i64 b] w fun e w' => e = .returned (.tuple #[.int .i64 (wrap32 (quoV a b)), .int .i64 0]) ∧ Below w.heap.size w w' := by
  have hz : (b == 0) = false := by simpa using hb
  have hq : IntKind.i64.wrap (a.tdiv b) = quoV a b := by
    obtain ⟨h1, _⟩ : vB a = true ∧ vB b = true := by simpa using hv
    have := quo_b (b := b) h1; exact IntWalk.i64_in _ (by unfold quoV at this; omega)
  go_enter Try.func50, Try.ntmps50
  go_wp2_with (first | (go_at_call 63; refine (words2 a b _ _ (by simp [go_sem]) (by simp [go_sem, Addr.add])).mono ?_; rintro e w' ⟨rfl, rfl⟩) | (go_at_call 60; refine (wrap_any _ _).mono ?_; rintro e w' ⟨rfl, rfl⟩))
  go_ret2
  exact ⟨rfl, (Below.refl _ _).alloc (Nat.le_refl _) _⟩

/-- what the quotient leaves -/
def remV (a b : Int) : Int := a.tmod b
theorem remV_eq (a b : Int) : remV a b = a - b * quoV a b := by unfold remV quoV; have := Int.mul_tdiv_add_tmod a b; omega
theorem remV_b {a b : Int} (ha : vB a = true) : vB (remV a b) = true := by
  rw [vB_iff] at ha ⊢
  have h : (remV a b).natAbs ≤ a.natAbs := by unfold remV; rw [Int.natAbs_tmod]; exact Nat.mod_le _ _
  have h2 : 0 ≤ a → 0 ≤ remV a b := fun h => by unfold remV; exact Int.tmod_nonneg _ h
  have h3 : a ≤ 0 → remV a b ≤ 0 := fun h => by unfold remV; have := Int.tmod_nonneg b (a := -a) (by omega); rw [Int.neg_tmod] at this; omega
  omega
set_option maxHeartbeats 400000 in
theorem quotient_ok (a b : Int) (w : World) (hv : (vB a && vB b) = true) (hb : b ≠ 0) :
    Calls Try.prog 68 #[.int .i64 a, .int .i64 b] w fun e w' => e = .returned (.int .i64 (quoV a b)) ∧ w = w' := by
  have hz : (b == 0) = false := by simpa using hb
  obtain ⟨h1, h2⟩ : vB a = true ∧ vB b = true := by simpa using hv
  obtain ⟨d1, d2⟩ : -2147483648 ≤ a.tdiv b ∧ a.tdiv b ≤ 2147483648 := quo_b (b := b) h1
  rw [vB_iff] at h1 h2
  obtain ⟨a1, a2⟩ := h1
  obtain ⟨b1, b2⟩ := h2
  clear hv
  by_cases ha : a < 0 <;> by_cases hb' : b < 0
  all_goals
    go_enter Try.func68, Try.ntmps68
    go_wp2
    go_ret
    exact ⟨ret_i64 (by first | rfl | (unfold quoV; omega) | (unfold quoV; rw [← Int.tdiv_eq_ediv_of_nonneg (by omega)]; simp)), rfl⟩

set_option maxHeartbeats 400000 in
theorem rdiv_no (a b : Int) (w : World) (hv : (vB a && vB b) = false) :
    Calls Try.prog 65 #[.int .i64 a, .int .i64 b] w fun e w' => e = .returned (.tuple #[.int .i64 0, .int .i64 1]) ∧ w = w' := by
  have HV := Lib.hid hv
  clear hv
  go_enter Try.func65, Try.ntmps65
  go_wp2_with (go_at_call 67; refine (two_no _ _ _ HV.out).mono ?_; rintro e w' ⟨rfl, rfl⟩)
  go_ret2
  exact ⟨rfl, rfl⟩
set_option maxHeartbeats 400000 in
theorem rdiv_zero (a : Int) (w : World) (hv : vB a = true) :
    Calls Try.prog 65 #[.int .i64 a, .int .i64 0] w fun e w' => e = .returned (.tuple #[.int .i64 0, .int .i64 5]) ∧ w = w' := by
  have hv : (vB a && vB 0) = true := by rw [hv]; decide
  have HV := Lib.hid hv
  clear hv
  go_enter Try.func65, Try.ntmps65
  go_wp2_with (go_at_call 67; refine (two_ok _ _ _ HV.out).mono ?_; rintro e w' ⟨rfl, rfl⟩)
  go_ret2
  exact ⟨rfl, rfl⟩
set_option maxHeartbeats 400000 in
theorem rdiv_ok (a b : Int) (w : World) (hv : (vB a && vB b) = true) (hb : b ≠ 0) :
    Calls Try.prog 65 #[.int .i64 a, .int .i64 b] w fun e w' => e = .returned (.tuple #[.int .i64 (wrap32 (quoV a b)), .int .i64 0]) ∧ w = w' := by
  have hz : (b == 0) = false := by simpa using hb
  have HV := Lib.hid hv
  have HB := Lib.hid hb
  clear hv hb
  go_enter Try.func65, Try.ntmps65
  go_wp2_with (first | (go_at_call 67; refine (two_ok _ _ _ HV.out).mono ?_; rintro e w' ⟨rfl, rfl⟩) | (go_at_call 68; refine (quotient_ok _ _ _ HV.out HB.out).mono ?_; rintro e w' ⟨rfl, rfl⟩) | (go_at_call 64; refine (rwrap_any _ _).mono ?_; rintro e w' ⟨rfl, rfl⟩))
  go_ret2
  exact ⟨rfl, rfl⟩

end Go.Proofs.Ytignlfcjlbijaaa
