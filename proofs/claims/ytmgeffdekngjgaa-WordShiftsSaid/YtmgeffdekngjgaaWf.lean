/- Shifts and bits of layer 1 and of its reference, each function by a contract. -/
import Derived.Test.YtmgeffdekngjgaaWe
namespace Go.Proofs.Ytmgeffdekngjgaa
open Go.RowKit

set_option maxHeartbeats 400000 in
theorem ones_no (a : Int) (w : World) (hv : vB a = false) :
    Calls Try.prog 38 #[.int .i64 a] w fun e w' => e = .returned (.tuple #[.int .i64 0, .int .i64 1]) ∧ Below w.heap.size w w' := by
  go_enter Try.func38, Try.ntmps38
  go_wp2_with (go_at_call 45; refine (words1 a _ _ (by simp [go_sem])).mono ?_; rintro e w' ⟨rfl, rfl⟩)
  go_ret2
  exact ⟨rfl, (Below.refl _ _).alloc (Nat.le_refl _) _⟩
set_option maxHeartbeats 400000 in
theorem ones_ok (a : Int) (w : World) (hv : vB a = true) :
    Calls Try.prog 38 #[.int .i64 a] w fun e w' => e = .returned (.tuple #[.int .i64 (popN 32 (res a).toNat), .int .i64 0]) ∧ Below w.heap.size w w' := by
  have h := vB_iff.1 hv
  obtain ⟨h1, h2⟩ := h
  obtain ⟨r1, r2⟩ := res_range a
  have hu : IntKind.u32.wrap a = res a := by rw [IntKind.wrap_u32]; rfl
  go_enter Try.func38, Try.ntmps38
  go_wp2_with (first | (go_at_call 45; refine (words1 a _ _ (by simp [go_sem])).mono ?_; rintro e w' ⟨rfl, rfl⟩) | (go_at_call 47; refine (ones32_any (res a) _ r1 (by omega)).mono ?_; rintro e w1 ⟨rfl, hb1⟩))
  go_ret2
  exact ⟨rfl, bthen ((Below.refl _ _).alloc (Nat.le_refl _) _) hb1⟩

theorem popN_half (m : Nat) (h : m < 4294967296) : popN 32 m = m % 2 + popN 32 (m / 2) := by
  have h1 : popN 32 m = m % 2 + popN 31 (m / 2) := rfl
  have h2 := popN_add 31 1 (m / 2)
  have h3 : m / 2 / 2 ^ 31 = 0 := by omega
  rw [h3] at h2
  simp [popN] at h2
  have h4 : popN 32 (m / 2) = popN 31 (m / 2) := by simpa [popN] using h2
  omega

set_option maxHeartbeats 400000 in
theorem rones_no (a : Int) (w : World) (hv : vB a = false) :
    Calls Try.prog 39 #[.int .i64 a] w fun e w' => e = .returned (.tuple #[.int .i64 0, .int .i64 1]) ∧ w = w' := by
  go_enter Try.func39, Try.ntmps39
  go_wp2_with (go_at_call 15; refine (rvalid_any _ _).mono ?_; rintro e w' ⟨rfl, rfl⟩)
  go_ret2
  exact ⟨rfl, rfl⟩
set_option maxHeartbeats 400000 in
theorem rones_ok (a : Int) (w : World) (hv : vB a = true) :
    Calls Try.prog 39 #[.int .i64 a] w fun e w' => e = .returned (.tuple #[.int .i64 (popN 32 (res a).toNat), .int .i64 0]) ∧ w = w' := by
  obtain ⟨r1, r2⟩ := res_range a
  have hP := popN_le 32 (res a).toNat
  obtain ⟨P, hp⟩ : ∃ P, P = popN 32 (res a).toNat := ⟨_, rfl⟩
  rw [← hp] at hP ⊢
  have HPP := Lib.hid hp
  clear hp
  go_enter Try.func39, Try.ntmps39
  go_wp2_with (first | (go_at_call 15; refine (rvalid_any _ _).mono ?_; rintro e w' ⟨rfl, rfl⟩) | (go_at_call 40; refine (residue_any _ _).mono ?_; rintro e w' ⟨rfl, rfl⟩))
  go_loop [4, 5] (fun n m => ∃ (k : Nat) (x : Nat), x < 4294967296 ∧ n = .int .i64 k ∧ m = .int .i64 x ∧ k + popN 32 x = P) (fun _ m => (intOf m).toNat)
  case atStart => exact ⟨0, (res a).toNat, by omega, rfl, by congr 1; omega, by rw [HPP.out]; omega⟩
  case round =>
    obtain ⟨k, x, hx, rfl, rfl, hkx⟩ := hrel
    by_cases h0 : 0 < x
    · have hk : k ≤ 32 := by omega
      have hh := popN_half x hx
      have H := Lib.hid (show k + x % 2 + popN 32 (x / 2) = P by omega)
      clear hkx hh
      go_wp2
      go_round
      case rel => exact ⟨k + x % 2, x / 2, by omega, by go_num, by go_num, H.out⟩
      case measure => simp [intOf]; omega
    · have hx0 : x = 0 := by omega
      subst hx0
      have H := Lib.hid (show k = P by simpa [popN] using hkx)
      clear hkx
      go_wp2
      go_ret2
      exact ⟨ret_two (by rw [H.out]) rfl, rfl⟩

theorem w3264 (n : Int) : wrap32 (wrap64 n) = wrap32 n := by unfold wrap32 wrap64; omega
/-- a word that is shifted -/
def shiftV (a by' : Int) : Int := if by' < 0 then a / 2 ^ (-by').toNat else wrap32 (a * 2 ^ by'.toNat)

set_option maxHeartbeats 400000 in
theorem shift_no (a s : Int) (w : World) (h : vB a = false ∨ s < -31 ∨ 31 < s) :
    Calls Try.prog 36 #[.int .i64 a, .int .i64 s] w fun e w' => e = .returned (.tuple #[.int .i64 0, .int .i64 1]) ∧ Below w.heap.size w w' := by
  cases hv : vB a
  · clear h
    go_enter Try.func36, Try.ntmps36
    go_wp2_with (go_at_call 45; refine (words1 a _ _ (by simp [go_sem])).mono ?_; rintro e w' ⟨rfl, rfl⟩)
    go_ret2
    exact ⟨rfl, (Below.refl _ _).alloc (Nat.le_refl _) _⟩
  · by_cases h1 : s < -31
    · clear h
      go_enter Try.func36, Try.ntmps36
      go_wp2_with (go_at_call 45; refine (words1 a _ _ (by simp [go_sem])).mono ?_; rintro e w' ⟨rfl, rfl⟩)
      go_ret2
      exact ⟨rfl, (Below.refl _ _).alloc (Nat.le_refl _) _⟩
    · have h2 : 31 < s := by rw [hv] at h; simp at h; omega
      clear h
      go_enter Try.func36, Try.ntmps36
      go_wp2_with (go_at_call 45; refine (words1 a _ _ (by simp [go_sem])).mono ?_; rintro e w' ⟨rfl, rfl⟩)
      go_ret2
      exact ⟨rfl, (Below.refl _ _).alloc (Nat.le_refl _) _⟩
set_option maxHeartbeats 400000 in
theorem shift_ok (a s : Int) (w : World) (hv : vB a = true) (h1 : -31 ≤ s) (h2 : s ≤ 31) :
    Calls Try.prog 36 #[.int .i64 a, .int .i64 s] w fun e w' => e = .returned (.tuple #[.int .i64 (shiftV a s), .int .i64 0]) ∧ Below w.heap.size w w' := by
  by_cases hs : s < 0
  all_goals
    go_enter Try.func36, Try.ntmps36
    go_wp2_with (first | (go_at_call 45; refine (words1 a _ _ (by simp [go_sem])).mono ?_; rintro e w' ⟨rfl, rfl⟩) | (go_at_call 16; refine (wrap_any _ _).mono ?_; rintro e w' ⟨rfl, rfl⟩))
    go_ret2
    exact ⟨ret_two (by unfold shiftV; first | (rw [if_pos hs]; done) | (rw [if_neg (by omega), w3264])) rfl, (Below.refl _ _).alloc (Nat.le_refl _) _⟩

theorem pow_pos' (k : Nat) : (0 : Int) < 2 ^ k := Int.pow_pos (by decide)
theorem wrap32_double (n : Int) : wrap32 (2 * wrap32 n) = wrap32 (n * 2) := by unfold wrap32; omega
theorem half_step (n : Int) : (n - res n % 2).tdiv 2 = n / 2 := by
  have h : n - res n % 2 = 2 * (n / 2) := by unfold res; omega
  rw [h, Int.mul_tdiv_cancel_left _ (by decide)]
theorem half_pow (a : Int) (k : Nat) : a / 2 ^ k / 2 = a / 2 ^ (k + 1) := by rw [Int.ediv_ediv_of_nonneg (Int.le_of_lt (pow_pos' k)), Int.pow_succ]
theorem div_pow_b {a : Int} (k : Nat) (h : vB a = true) : -2147483648 ≤ a / 2 ^ k ∧ a / 2 ^ k ≤ 2147483647 := by
  rw [vB_iff] at h
  have hp : (1 : Int) ≤ 2 ^ k := pow_pos' k
  constructor
  · rw [Int.le_ediv_iff_mul_le (pow_pos' k)]
    have : -2147483648 * (2 : Int) ^ k ≤ -2147483648 := by omega
    omega
  · by_cases h0 : 0 ≤ a
    · have := Int.ediv_le_self (2 ^ k) h0; omega
    · have h3 : a / 2 ^ k < 0 := Int.ediv_neg_of_neg_of_pos (by omega) (pow_pos' k); omega

set_option maxHeartbeats 400000 in
theorem rshift_no (a s : Int) (w : World) (h : vB a = false ∨ s < -31 ∨ 31 < s) :
    Calls Try.prog 37 #[.int .i64 a, .int .i64 s] w fun e w' => e = .returned (.tuple #[.int .i64 0, .int .i64 1]) ∧ w = w' := by
  cases hv : vB a
  · clear h
    go_enter Try.func37, Try.ntmps37
    go_wp2_with (go_at_call 15; refine (rvalid_any _ _).mono ?_; rintro e w' ⟨rfl, rfl⟩)
    go_ret2
    exact ⟨rfl, rfl⟩
  · by_cases h1 : s < -31
    · clear h
      go_enter Try.func37, Try.ntmps37
      go_wp2_with (go_at_call 15; refine (rvalid_any _ _).mono ?_; rintro e w' ⟨rfl, rfl⟩)
      go_ret2
      exact ⟨rfl, rfl⟩
    · have h2 : 31 < s := by rw [hv] at h; simp at h; omega
      clear h
      go_enter Try.func37, Try.ntmps37
      go_wp2_with (go_at_call 15; refine (rvalid_any _ _).mono ?_; rintro e w' ⟨rfl, rfl⟩)
      go_ret2
      exact ⟨rfl, rfl⟩
set_option maxHeartbeats 400000 in
theorem rshift_up (a : Int) (s : Nat) (w : World) (hv : vB a = true) (h2 : s ≤ 31) :
    Calls Try.prog 37 #[.int .i64 a, .int .i64 s] w fun e w' => e = .returned (.tuple #[.int .i64 (shiftV a s), .int .i64 0]) ∧ w = w' := by
  have HV := Lib.hid hv
  go_enter Try.func37, Try.ntmps37
  go_wp2_with (go_at_call 15; refine (rvalid_any _ _).mono ?_; rintro e w' ⟨rfl, rfl⟩)
  clear hv
  go_loop [6, 7] (fun n i => ∃ k : Nat, k ≤ s ∧ i = .int .i64 k ∧ n = .int .i64 (wrap32 (a * 2 ^ k))) (fun _ i => s - (intOf i).toNat)
  case atStart => exact ⟨0, by omega, rfl, by rw [Int.pow_zero, Int.mul_one, wrap32_of_vB HV.out]⟩
  case round =>
    obtain ⟨k, hk, rfl, rfl⟩ := hrel
    have hb := wrap32_vB (a * 2 ^ k)
    rw [vB_iff] at hb
    obtain ⟨b1, b2⟩ := hb
    by_cases hlt : k < s
    · have H := Lib.hid (show wrap32 (2 * wrap32 (a * 2 ^ k)) = wrap32 (a * 2 ^ (k + 1)) by rw [wrap32_double, Int.pow_succ, Int.mul_assoc])
      revert b1 b2 H
      generalize wrap32 (a * 2 ^ k) = y
      intro b1 b2 H
      go_wp2_with (go_at_call 17; refine (rwrap_any _ _).mono ?_; rintro e w' ⟨rfl, rfl⟩)
      go_round
      case rel => exact ⟨k + 1, by omega, by go_num, by rw [H.out]⟩
      case measure => simp [intOf]; omega
    · obtain rfl : k = s := by omega
      go_wp2
      go_loop [6, 8] (fun n i => i = .int .i64 0 ∧ n = .int .i64 (wrap32 (a * 2 ^ k))) (fun _ _ => 0)
      case atStart => exact ⟨rfl, rfl⟩
      case round =>
        obtain ⟨rfl, rfl⟩ := hrel
        go_wp2
        go_ret2
        exact ⟨ret_two (by unfold shiftV; rw [if_neg (by omega)]; congr 3) rfl, rfl⟩
set_option maxHeartbeats 400000 in
theorem rshift_down (a : Int) (s : Nat) (w : World) (hv : vB a = true) (h1 : 0 < s) (h2 : s ≤ 31) :
    Calls Try.prog 37 #[.int .i64 a, .int .i64 (-(s : Int))] w fun e w' => e = .returned (.tuple #[.int .i64 (shiftV a (-(s : Int))), .int .i64 0]) ∧ w = w' := by
  have HV := Lib.hid hv
  go_enter Try.func37, Try.ntmps37
  go_wp2_with (go_at_call 15; refine (rvalid_any _ _).mono ?_; rintro e w' ⟨rfl, rfl⟩)
  clear hv
  go_loop [6, 7] (fun n i => i = .int .i64 0 ∧ n = .int .i64 a) (fun _ _ => 0)
  case atStart => exact ⟨rfl, rfl⟩
  case round =>
    obtain ⟨rfl, rfl⟩ := hrel
    go_wp2
    go_loop [6, 8] (fun n i => ∃ k : Nat, k ≤ s ∧ i = .int .i64 k ∧ n = .int .i64 (a / 2 ^ k)) (fun _ i => s - (intOf i).toNat)
    case atStart => exact ⟨0, by omega, rfl, by rw [Int.pow_zero, Int.ediv_one]⟩
    case round =>
      obtain ⟨k, hk, rfl, rfl⟩ := hrel
      have hb := div_pow_b k HV.out
      obtain ⟨b1, b2⟩ := hb
      by_cases hlt : k < s
      · obtain ⟨r1, r2⟩ := res_range (a / 2 ^ k)
        have H := Lib.hid (half_pow a k)
        have hh := half_step (a / 2 ^ k)
        revert b1 b2 H r1 r2 hh
        generalize a / 2 ^ k = y
        intro b1 b2 r1 r2 H hh
        have hh2 := Lib.hid hh
        clear hh
        go_wp2_with (go_at_call 40; refine (residue_any _ _).mono ?_; rintro e w' ⟨rfl, rfl⟩)
        go_round
        case rel => exact ⟨k + 1, by omega, by go_num, by first | (rw [hh2.out, H.out]; done) | rw [H.out]⟩
        case measure => simp [intOf]; omega
      · obtain rfl : k = s := by omega
        go_wp2
        go_ret2
        exact ⟨ret_two (by unfold shiftV; rw [if_pos (by omega)]; congr 2; omega) rfl, rfl⟩

end Go.Proofs.Ytmgeffdekngjgaa
