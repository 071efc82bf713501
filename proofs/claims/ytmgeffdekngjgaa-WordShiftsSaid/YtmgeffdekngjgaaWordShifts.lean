/- The walk of WordShifts: for every two numbers it returns true. -/
import Derived.Test.YtmgeffdekngjgaaWf
import Derived.Test.YtmgeffdekngjgaaWs
namespace Go.Proofs.Ytmgeffdekngjgaa
open Go.RowKit

theorem compl_ones (a : Int) : popN 32 (res a).toNat + popN 32 (res (-1 - a)).toNat = 32 := by
  have h : (res (-1 - a)).toNat = 2 ^ 32 - 1 - (res a).toNat := by unfold res; omega
  rw [h]; have := popN_compl 32 (res a).toNat (by unfold res; omega); omega
theorem compl_vB {a : Int} (h : vB a = true) : vB (-1 - a) = true := by rw [vB_iff] at h ⊢; omega
theorem shift_back (a : Int) (s : Nat) (h : vB (a * 2 ^ s) = true) : wrap32 (a * 2 ^ s) / 2 ^ s = a := by
  rw [wrap32_of_vB h]; exact Int.mul_ediv_cancel _ (Int.ne_of_gt (pow_pos' s))
theorem shiftV_vB (a s : Int) (h : vB a = true) : vB (shiftV a s) = true := by
  unfold shiftV; split
  · rw [vB_iff]; exact div_pow_b _ h
  · exact wrap32_vB _
theorem pow_in (s : Nat) (h : s ≤ 31) : (2 : Int) ^ s ≤ 2147483648 := by
  have h1 : (2 : Nat) ^ s ≤ 2147483648 := Nat.le_trans (Nat.pow_le_pow_right (by decide) h) (by decide)
  have h2 : (2 : Int) ^ s = ((2 ^ s : Nat) : Int) := by rw [Int.natCast_pow]; rfl
  rw [h2]; omega
theorem mul_pow_in {a : Int} (s : Nat) (h : s ≤ 31) (ha : vB a = true) : -4611686018427387904 ≤ a * 2 ^ s ∧ a * 2 ^ s ≤ 4611686018427387904 := by
  rw [vB_iff] at ha
  have h1 := pow_in s h
  have h2 := pow_pos' s
  have h3 : (a * 2 ^ s).natAbs ≤ 2147483648 * 2147483648 := by rw [Int.natAbs_mul]; exact Nat.mul_le_mul (by omega) (by omega)
  omega

set_option maxHeartbeats 1000000 in
theorem wordShifts_no (a s : Int) (w : World) (h : vB a = false) :
    Calls Try.prog 10 #[.int .i64 a, .int .i64 s] w fun e w' => e = .returned (.bool true) ∧ Below w.heap.size w w' := by
  have H := Lib.hid h
  clear h
  go_enter Try.func10, Try.ntmps10
  go_wp2_with (first
    | (go_at_call 36; refine (shift_no _ _ _ (.inl H.out)).mono ?_; rintro e b1 ⟨rfl, hb1⟩)
    | (go_at_call 37; refine (rshift_no _ _ _ (.inl H.out)).mono ?_; rintro e w' ⟨rfl, rfl⟩)
    | (go_at_call 38; refine (ones_no _ _ H.out).mono ?_; rintro e b2 ⟨rfl, hb2⟩)
    | (go_at_call 39; refine (rones_no _ _ H.out).mono ?_; rintro e w' ⟨rfl, rfl⟩)
    | (go_at_call 24; refine (same_any _ _ _ _ _).mono ?_; rintro e w' ⟨rfl, rfl⟩)
    | (go_at_call 13; refine (sane_any _).mono ?_; rintro e b3 ⟨rfl, hb3⟩))
  go_ret
  exact ⟨rfl, bthen (bthen hb1 hb2) hb3⟩
set_option maxHeartbeats 1000000 in
theorem wordShifts_out (a s : Int) (w : World) (h : vB a = true) (hs : s < -31 ∨ 31 < s) :
    Calls Try.prog 10 #[.int .i64 a, .int .i64 s] w fun e w' => e = .returned (.bool true) ∧ Below w.heap.size w w' := by
  have H := Lib.hid h
  have HS := Lib.hid hs
  clear h hs
  go_enter Try.func10, Try.ntmps10
  go_wp2_with (first
    | (go_at_call 36; refine (shift_no _ _ _ (.inr HS.out)).mono ?_; rintro e b1 ⟨rfl, hb1⟩)
    | (go_at_call 37; refine (rshift_no _ _ _ (.inr HS.out)).mono ?_; rintro e w' ⟨rfl, rfl⟩)
    | (go_at_call 38; refine (ones_ok _ _ H.out).mono ?_; rintro e b2 ⟨rfl, hb2⟩)
    | (go_at_call 39; refine (rones_ok _ _ H.out).mono ?_; rintro e w' ⟨rfl, rfl⟩)
    | (go_at_call 24; refine (same_any _ _ _ _ _).mono ?_; rintro e w' ⟨rfl, rfl⟩)
    | (go_at_call 13; refine (sane_any _).mono ?_; rintro e b3 ⟨rfl, hb3⟩))
  go_ret
  exact ⟨rfl, bthen (bthen hb1 hb2) hb3⟩
set_option maxHeartbeats 1000000 in
theorem wordShifts_down (a : Int) (s : Nat) (w : World) (h : vB a = true) (h1 : 0 < s) (h2 : s ≤ 31) :
    Calls Try.prog 10 #[.int .i64 a, .int .i64 (-(s : Int))] w fun e w' => e = .returned (.bool true) ∧ Below w.heap.size w w' := by
  have H := Lib.hid h
  have hneg : -(s : Int) < 0 := by omega
  clear h
  go_enter Try.func10, Try.ntmps10
  go_wp2_with (first
    | (go_at_call 36; refine (shift_ok a (-(s : Int)) _ H.out (by omega) (by omega)).mono ?_; rintro e b1 ⟨rfl, hb1⟩)
    | (go_at_call 37; refine (rshift_down a s _ H.out h1 h2).mono ?_; rintro e w' ⟨rfl, rfl⟩)
    | (go_at_call 38; refine (ones_ok _ _ H.out).mono ?_; rintro e b2 ⟨rfl, hb2⟩)
    | (go_at_call 39; refine (rones_ok _ _ H.out).mono ?_; rintro e w' ⟨rfl, rfl⟩)
    | (go_at_call 24; refine (same_any _ _ _ _ _).mono ?_; rintro e w' ⟨rfl, rfl⟩)
    | (go_at_call 13; refine (sane_any _).mono ?_; rintro e b3 ⟨rfl, hb3⟩))
  go_ret
  exact ⟨rfl, bthen (bthen hb1 hb2) hb3⟩
set_option maxHeartbeats 1000000 in
theorem wordShifts_up (a : Int) (s : Nat) (w : World) (h : vB a = true) (h2 : s ≤ 31) :
    Calls Try.prog 10 #[.int .i64 a, .int .i64 s] w fun e w' => e = .returned (.bool true) ∧ Below w.heap.size w w' := by
  have hc := compl_ones a
  have H := Lib.hid h
  have H3 := Lib.hid (compl_vB h)
  have H4 := Lib.hid (shiftV_vB a s h)
  have hm := mul_pow_in s h2 h
  have hp1 := pow_in s h2
  have hp2 := pow_pos' s
  have e1 : shiftV (shiftV a s) (-(s : Int)) = wrap32 (a * 2 ^ s) / 2 ^ s := by
    by_cases h0 : s = 0
    · subst h0
      have : shiftV a ((0 : Nat) : Int) = wrap32 (a * 2 ^ 0) := by unfold shiftV; simp
      rw [this]; unfold shiftV; simp [wrap32_of_vB (wrap32_vB _)]
    · unfold shiftV
      rw [if_pos (by omega), if_neg (by omega)]
      simp
  obtain ⟨ha1, ha2⟩ := vB_iff.1 h
  have e2 : ((popN 32 (res a).toNat : Int) + popN 32 (res (-1 - a)).toNat) = 32 := by omega
  have HM := Lib.hid hm
  clear hc h hm
  have hp3 : IntKind.i64.wrap (2 ^ s) = 2 ^ s := IntWalk.i64_in _ (by omega)
  have hp4 : IntKind.i64.wrap (a * 2 ^ s) = a * 2 ^ s := IntWalk.i64_in _ (by have := HM.out; omega)
  have hq' : (wrap32 (a * 2 ^ s) / 2 ^ s == a) = false → vB (a * 2 ^ s) = false := by
    intro hq
    cases hv : vB (a * 2 ^ s)
    · rfl
    · rw [shift_back a s hv] at hq; simp at hq
  have HQ := Lib.hid hq'
  clear hq'
  cases hq : (wrap32 (a * 2 ^ s) / 2 ^ s == a)
  all_goals
    try (have hv := HQ.out hq)
    go_enter Try.func10, Try.ntmps10
    go_wp2_with fail
    refine (shift_ok a s _ H.out (by omega) (by omega)).mono ?_
    rintro e b1 ⟨rfl, hb1⟩
    go_wp2_with (first
      | (go_at_call 37; refine (rshift_up a s _ H.out h2).mono ?_; rintro e w' ⟨rfl, rfl⟩)
      | (go_at_call 38; refine (ones_ok a _ H.out).mono ?_; rintro e b2 ⟨rfl, hb2⟩)
      | (go_at_call 39; refine (rones_ok _ _ H.out).mono ?_; rintro e w' ⟨rfl, rfl⟩)
      | (go_at_call 24; refine (same_any _ _ _ _ _).mono ?_; rintro e w' ⟨rfl, rfl⟩))
    refine (shift_ok (shiftV a s) (-(s : Int)) _ H4.out (by omega) (by omega)).mono ?_
    rintro e b3 ⟨rfl, hb3⟩
    rw [e1]
    go_wp2_with fail
    refine (ones_ok (-1 - a) _ H3.out).mono ?_
    rintro e b4 ⟨rfl, hb4⟩
    go_wp2_with (first
      | (go_at_call 15; refine (rvalid_any _ _).mono ?_; rintro e w' ⟨rfl, rfl⟩)
      | (go_at_call 13; refine (sane_any _).mono ?_; rintro e b5 ⟨rfl, hb5⟩))
    go_ret
    exact ⟨rfl, bthen (bthen (bthen (bthen hb1 hb2) hb3) hb4) hb5⟩

theorem wordShifts_walk (a s : Int) (w : World) :
    Calls Try.prog 10 #[.int .i64 a, .int .i64 s] w fun e w' => e = .returned (.bool true) ∧ Below w.heap.size w w' := by
  cases h : vB a
  · exact wordShifts_no a s w h
  · by_cases h1 : s < -31 ∨ 31 < s
    · exact wordShifts_out a s w h h1
    · by_cases h2 : s < 0
      · obtain ⟨t, ht⟩ : ∃ t : Nat, s = -(t : Int) := ⟨(-s).toNat, by omega⟩
        subst ht
        exact wordShifts_down a t w h (by omega) (by omega)
      · obtain ⟨t, ht⟩ : ∃ t : Nat, s = (t : Int) := ⟨s.toNat, by omega⟩
        subst ht
        exact wordShifts_up a t w h (by omega)

end Go.Proofs.Ytmgeffdekngjgaa
