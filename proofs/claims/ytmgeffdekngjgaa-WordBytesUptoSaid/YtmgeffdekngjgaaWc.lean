/- Division, remainder, shifts, bits of layer 1 and of its reference, each function by a contract. -/
import Derived.Test.YtmgeffdekngjgaaWb
namespace Go.Proofs.Ytmgeffdekngjgaa
open Go.RowKit

set_option maxHeartbeats 400000 in
theorem two_ok (a b : Int) (w : World) (hv : (vB a && vB b) = true) :
    Calls Try.prog 23 #[.int .i64 a, .int .i64 b] w fun e w' => e = .returned (.int .i64 0) ∧ w = w' := by
  obtain ⟨h1, h2⟩ : vB a = true ∧ vB b = true := by simpa using hv
  clear hv
  go_enter Try.func23, Try.ntmps23
  go_wp2_with (go_at_call 15; refine (rvalid_any _ _).mono ?_; rintro e w' ⟨rfl, rfl⟩)
  go_ret
  exact ⟨rfl, rfl⟩
set_option maxHeartbeats 400000 in
theorem two_no (a b : Int) (w : World) (hv : (vB a && vB b) = false) :
    Calls Try.prog 23 #[.int .i64 a, .int .i64 b] w fun e w' => e = .returned (.int .i64 1) ∧ w = w' := by
  cases h1 : vB a
  · clear hv
    go_enter Try.func23, Try.ntmps23
    go_wp2_with (go_at_call 15; refine (rvalid_any _ _).mono ?_; rintro e w' ⟨rfl, rfl⟩)
    go_ret
    exact ⟨rfl, rfl⟩
  · have h2 : vB b = false := by simpa [h1] using hv
    clear hv
    go_enter Try.func23, Try.ntmps23
    go_wp2_with (go_at_call 15; refine (rvalid_any _ _).mono ?_; rintro e w' ⟨rfl, rfl⟩)
    go_ret
    exact ⟨rfl, rfl⟩

/-- the quotient of two words -/
def quoV (a b : Int) : Int := a.tdiv b
theorem quo_b {a b : Int} (ha : vB a = true) : -2147483648 ≤ quoV a b ∧ quoV a b ≤ 2147483648 := by
  rw [vB_iff] at ha
  have h : (quoV a b).natAbs ≤ a.natAbs := by unfold quoV; rw [Int.natAbs_tdiv]; exact Nat.div_le_self _ _
  omega

set_option maxHeartbeats 400000 in
theorem div_no (a b : Int) (w : World) (hv : (vB a && vB b) = false) :
    Calls Try.prog 28 #[.int .i64 a, .int .i64 b] w fun e w' => e = .returned (.tuple #[.int .i64 0, .int .i64 1]) ∧ Below w.heap.size w w' := by
  go_enter Try.func28, Try.ntmps28
  go_wp2_with (first | (go_at_call 45; refine (words2 a b _ _ (by simp [go_sem]) (by simp [go_sem, Addr.add])).mono ?_; rintro e w' ⟨rfl, rfl⟩))
  go_ret2
  exact ⟨rfl, (Below.refl _ _).alloc (Nat.le_refl _) _⟩
set_option maxHeartbeats 400000 in
theorem div_zero (a : Int) (w : World) (hv : vB a = true) :
    Calls Try.prog 28 #[.int .i64 a, .int .i64 0] w fun e w' => e = .returned (.tuple #[.int .i64 0, .int .i64 5]) ∧ Below w.heap.size w w' := by
  have h0 : vB 0 = true := by decide
  go_enter Try.func28, Try.ntmps28
  go_wp2_with (first | (go_at_call 45; refine (words2 a 0 _ _ (by simp [go_sem]) (by simp [go_sem, Addr.add])).mono ?_; rintro e w' ⟨rfl, rfl⟩))
  go_ret2
  exact ⟨rfl, (Below.refl _ _).alloc (Nat.le_refl _) _⟩
set_option maxHeartbeats 400000 in
theorem div_ok (a b : Int) (w : World) (hv : (vB a && vB b) = true) (hb : b ≠ 0) :
    Calls Try.prog 28 #[.int .i64 a, .int .i64 b] w fun e w' => e = .returned (.tuple #[.int .i64 (wrap32 (quoV a b)), .int .i64 0]) ∧ Below w.heap.size w w' := by
  have hz : (b == 0) = false := by simpa using hb
  have hq : IntKind.i64.wrap (a.tdiv b) = quoV a b := by
    obtain ⟨h1, _⟩ : vB a = true ∧ vB b = true := by simpa using hv
    have := quo_b (b := b) h1; exact IntWalk.i64_in _ (by unfold quoV at this; omega)
  go_enter Try.func28, Try.ntmps28
  go_wp2_with (first | (go_at_call 45; refine (words2 a b _ _ (by simp [go_sem]) (by simp [go_sem, Addr.add])).mono ?_; rintro e w' ⟨rfl, rfl⟩) | (go_at_call 16; refine (wrap_any _ _).mono ?_; rintro e w' ⟨rfl, rfl⟩))
  go_ret2
  exact ⟨rfl, (Below.refl _ _).alloc (Nat.le_refl _) _⟩

set_option maxHeartbeats 400000 in
theorem rem_no (a b : Int) (w : World) (hv : (vB a && vB b) = false) :
    Calls Try.prog 29 #[.int .i64 a, .int .i64 b] w fun e w' => e = .returned (.tuple #[.int .i64 0, .int .i64 1]) ∧ Below w.heap.size w w' := by
  go_enter Try.func29, Try.ntmps29
  go_wp2_with (first | (go_at_call 45; refine (words2 a b _ _ (by simp [go_sem]) (by simp [go_sem, Addr.add])).mono ?_; rintro e w' ⟨rfl, rfl⟩))
  go_ret2
  exact ⟨rfl, (Below.refl _ _).alloc (Nat.le_refl _) _⟩
set_option maxHeartbeats 400000 in
theorem rem_zero (a : Int) (w : World) (hv : vB a = true) :
    Calls Try.prog 29 #[.int .i64 a, .int .i64 0] w fun e w' => e = .returned (.tuple #[.int .i64 0, .int .i64 5]) ∧ Below w.heap.size w w' := by
  have h0 : vB 0 = true := by decide
  go_enter Try.func29, Try.ntmps29
  go_wp2_with (first | (go_at_call 45; refine (words2 a 0 _ _ (by simp [go_sem]) (by simp [go_sem, Addr.add])).mono ?_; rintro e w' ⟨rfl, rfl⟩))
  go_ret2
  exact ⟨rfl, (Below.refl _ _).alloc (Nat.le_refl _) _⟩
/-- what the quotient leaves -/
def remV (a b : Int) : Int := a.tmod b
theorem remV_eq (a b : Int) : remV a b = a - b * quoV a b := by unfold remV quoV; have := Int.mul_tdiv_add_tmod a b; omega
theorem remV_b {a b : Int} (ha : vB a = true) : vB (remV a b) = true := by
  rw [vB_iff] at ha ⊢
  have h : (remV a b).natAbs ≤ a.natAbs := by unfold remV; rw [Int.natAbs_tmod]; exact Nat.mod_le _ _
  have h2 : 0 ≤ a → 0 ≤ remV a b := fun h => by unfold remV; exact Int.tmod_nonneg _ h
  have h3 : a ≤ 0 → remV a b ≤ 0 := fun h => by unfold remV; have := Int.tmod_nonneg b (a := -a) (by omega); rw [Int.neg_tmod] at this; omega
  omega
set_option maxHeartbeats 400000 in
theorem rem_ok (a b : Int) (w : World) (hv : (vB a && vB b) = true) (hb : b ≠ 0) :
    Calls Try.prog 29 #[.int .i64 a, .int .i64 b] w fun e w' => e = .returned (.tuple #[.int .i64 (remV a b), .int .i64 0]) ∧ Below w.heap.size w w' := by
  have hz : (b == 0) = false := by simpa using hb
  go_enter Try.func29, Try.ntmps29
  go_wp2_with (first | (go_at_call 45; refine (words2 a b _ _ (by simp [go_sem]) (by simp [go_sem, Addr.add])).mono ?_; rintro e w' ⟨rfl, rfl⟩))
  go_ret2
  exact ⟨rfl, (Below.refl _ _).alloc (Nat.le_refl _) _⟩

set_option maxHeartbeats 400000 in
theorem quotient_ok (a b : Int) (w : World) (hv : (vB a && vB b) = true) (hb : b ≠ 0) :
    Calls Try.prog 46 #[.int .i64 a, .int .i64 b] w fun e w' => e = .returned (.int .i64 (quoV a b)) ∧ w = w' := by
  have hz : (b == 0) = false := by simpa using hb
  obtain ⟨h1, h2⟩ : vB a = true ∧ vB b = true := by simpa using hv
  obtain ⟨d1, d2⟩ : -2147483648 ≤ a.tdiv b ∧ a.tdiv b ≤ 2147483648 := quo_b (b := b) h1
  rw [vB_iff] at h1 h2
  obtain ⟨a1, a2⟩ := h1
  obtain ⟨b1, b2⟩ := h2
  clear hv
  by_cases ha : a < 0 <;> by_cases hb' : b < 0
  all_goals
    go_enter Try.func46, Try.ntmps46
    go_wp2
    go_ret
    exact ⟨ret_i64 (by first | rfl | (unfold quoV; omega) | (unfold quoV; rw [← Int.tdiv_eq_ediv_of_nonneg (by omega)]; simp)), rfl⟩

set_option maxHeartbeats 400000 in
theorem rdiv_no (a b : Int) (w : World) (hv : (vB a && vB b) = false) :
    Calls Try.prog 30 #[.int .i64 a, .int .i64 b] w fun e w' => e = .returned (.tuple #[.int .i64 0, .int .i64 1]) ∧ w = w' := by
  have HV := Lib.hid hv
  clear hv
  go_enter Try.func30, Try.ntmps30
  go_wp2_with (go_at_call 23; refine (two_no _ _ _ HV.out).mono ?_; rintro e w' ⟨rfl, rfl⟩)
  go_ret2
  exact ⟨rfl, rfl⟩
set_option maxHeartbeats 400000 in
theorem rdiv_zero (a : Int) (w : World) (hv : vB a = true) :
    Calls Try.prog 30 #[.int .i64 a, .int .i64 0] w fun e w' => e = .returned (.tuple #[.int .i64 0, .int .i64 5]) ∧ w = w' := by
  have hv : (vB a && vB 0) = true := by rw [hv]; decide
  have HV := Lib.hid hv
  clear hv
  go_enter Try.func30, Try.ntmps30
  go_wp2_with (go_at_call 23; refine (two_ok _ _ _ HV.out).mono ?_; rintro e w' ⟨rfl, rfl⟩)
  go_ret2
  exact ⟨rfl, rfl⟩
set_option maxHeartbeats 400000 in
theorem rdiv_ok (a b : Int) (w : World) (hv : (vB a && vB b) = true) (hb : b ≠ 0) :
    Calls Try.prog 30 #[.int .i64 a, .int .i64 b] w fun e w' => e = .returned (.tuple #[.int .i64 (wrap32 (quoV a b)), .int .i64 0]) ∧ w = w' := by
  have hz : (b == 0) = false := by simpa using hb
  have HV := Lib.hid hv
  have HB := Lib.hid hb
  clear hv hb
  go_enter Try.func30, Try.ntmps30
  go_wp2_with (first | (go_at_call 23; refine (two_ok _ _ _ HV.out).mono ?_; rintro e w' ⟨rfl, rfl⟩) | (go_at_call 46; refine (quotient_ok _ _ _ HV.out HB.out).mono ?_; rintro e w' ⟨rfl, rfl⟩) | (go_at_call 17; refine (rwrap_any _ _).mono ?_; rintro e w' ⟨rfl, rfl⟩))
  go_ret2
  exact ⟨rfl, rfl⟩

set_option maxHeartbeats 400000 in
theorem rrem_no (a b : Int) (w : World) (hv : (vB a && vB b) = false) :
    Calls Try.prog 31 #[.int .i64 a, .int .i64 b] w fun e w' => e = .returned (.tuple #[.int .i64 0, .int .i64 1]) ∧ w = w' := by
  have HV := Lib.hid hv
  clear hv
  go_enter Try.func31, Try.ntmps31
  go_wp2_with (go_at_call 30; refine (rdiv_no _ _ _ HV.out).mono ?_; rintro e w' ⟨rfl, rfl⟩)
  go_ret2
  exact ⟨rfl, rfl⟩
set_option maxHeartbeats 400000 in
theorem rrem_zero (a : Int) (w : World) (hv : vB a = true) :
    Calls Try.prog 31 #[.int .i64 a, .int .i64 0] w fun e w' => e = .returned (.tuple #[.int .i64 0, .int .i64 5]) ∧ w = w' := by
  have HV := Lib.hid hv
  clear hv
  go_enter Try.func31, Try.ntmps31
  go_wp2_with (go_at_call 30; refine (rdiv_zero _ _ HV.out).mono ?_; rintro e w' ⟨rfl, rfl⟩)
  go_ret2
  exact ⟨rfl, rfl⟩
set_option maxHeartbeats 400000 in
theorem rrem_ok (a b : Int) (w : World) (hv : (vB a && vB b) = true) (hb : b ≠ 0) :
    Calls Try.prog 31 #[.int .i64 a, .int .i64 b] w fun e w' => e = .returned (.tuple #[.int .i64 (remV a b), .int .i64 0]) ∧ w = w' := by
  have hz : (b == 0) = false := by simpa using hb
  have hw : wrap64 (a - wrap64 (b * quoV a b)) = remV a b := by
    obtain ⟨h1, h2⟩ : vB a = true ∧ vB b = true := by simpa using hv
    have h3 := remV_b (b := b) h1
    have h4 := remV_eq a b
    rw [vB_iff] at h1 h3
    have h5 : wrap64 (b * quoV a b) = b * quoV a b := IntWalk.wrap64_in _ (by omega)
    rw [h5, ← h4]; exact IntWalk.wrap64_in _ (by omega)
  have HW := Lib.hid hw
  have HV := Lib.hid hv
  have HB := Lib.hid hb
  clear hv hb hw
  go_enter Try.func31, Try.ntmps31
  go_wp2_with (first | (go_at_call 30; refine (rdiv_ok _ _ _ HV.out HB.out).mono ?_; rintro e w' ⟨rfl, rfl⟩) | (go_at_call 46; refine (quotient_ok _ _ _ HV.out HB.out).mono ?_; rintro e w' ⟨rfl, rfl⟩))
  go_ret2
  exact ⟨ret_two HW.out rfl, rfl⟩

set_option maxHeartbeats 400000 in
theorem same_any (n e m f : Int) (w : World) : Calls Try.prog 24 #[.int .i64 n, .int .i64 e, .int .i64 m, .int .i64 f] w fun e' w' => e' = .returned (.bool (n == m && e == f)) ∧ w = w' := by
  cases h1 : (n == m)
  all_goals
    go_enter Try.func24, Try.ntmps24
    go_wp2
    go_ret
    exact ⟨ret_bool (by simp), rfl⟩

end Go.Proofs.Ytmgeffdekngjgaa
