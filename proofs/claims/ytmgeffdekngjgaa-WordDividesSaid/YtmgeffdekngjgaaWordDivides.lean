/- The walk of WordDivides: for every two numbers it returns true. -/
import Derived.Test.YtmgeffdekngjgaaWs
namespace Go.Proofs.Ytmgeffdekngjgaa
open Go.RowKit

theorem quo_back {a b : Int} (ha : vB a = true) (hb : vB b = true) : wrap32 (wrap32 (wrap32 (quoV a b) * b) + remV a b) = a := by
  have h1 := remV_eq a b
  have h2 := remV_b (b := b) ha
  have h3 := quo_b (b := b) ha
  have h4 := mul_bound (wrap32_vB (quoV a b)) hb
  have h7 : ∃ k, wrap32 (quoV a b) = quoV a b + 4294967296 * k := ⟨-((quoV a b + 2147483648) / 4294967296), by unfold wrap32; omega⟩
  obtain ⟨k, hk⟩ := h7
  have h8 : wrap32 (quoV a b) * b = quoV a b * b + 4294967296 * (k * b) := by rw [hk, Int.add_mul, Int.mul_assoc]
  have h9 : b * quoV a b = quoV a b * b := Int.mul_comm _ _
  rw [h8, h1, h9]
  rw [vB_iff] at ha
  generalize quoV a b * b = q
  generalize k * b = r
  unfold wrap32
  omega

set_option maxHeartbeats 1000000 in
theorem wordDivides_walk (a b : Int) (w : World) :
    Calls Try.prog 8 #[.int .i64 a, .int .i64 b] w fun e w' => e = .returned (.bool true) ∧ Below w.heap.size w w' := by
  cases hv : (vB a && vB b)
  · have HV := Lib.hid hv
    clear hv
    go_enter Try.func8, Try.ntmps8
    go_wp2_with (first | (go_at_call 28; refine (div_no _ _ _ HV.out).mono ?_; rintro e b1 ⟨rfl, hb1⟩) | (go_at_call 29; refine (rem_no _ _ _ HV.out).mono ?_; rintro e b2 ⟨rfl, hb2⟩) | (go_at_call 30; refine (rdiv_no _ _ _ HV.out).mono ?_; rintro e w' ⟨rfl, rfl⟩) | (go_at_call 31; refine (rrem_no _ _ _ HV.out).mono ?_; rintro e w' ⟨rfl, rfl⟩) | (go_at_call 24; refine (same_any _ _ _ _ _).mono ?_; rintro e w' ⟨rfl, rfl⟩) | (go_at_call 13; refine (sane_any _).mono ?_; rintro e b3 ⟨rfl, hb3⟩))
    go_ret
    exact ⟨rfl, bthen (bthen (hb1) hb2) hb3⟩
  · obtain ⟨h1, h2⟩ : vB a = true ∧ vB b = true := by simpa using hv
    by_cases hb : b = 0
    · subst hb
      have HV := Lib.hid h1
      clear hv h1 h2
      go_enter Try.func8, Try.ntmps8
      go_wp2_with (first | (go_at_call 28; refine (div_zero _ _ HV.out).mono ?_; rintro e b1 ⟨rfl, hb1⟩) | (go_at_call 29; refine (rem_zero _ _ HV.out).mono ?_; rintro e b2 ⟨rfl, hb2⟩) | (go_at_call 30; refine (rdiv_zero _ _ HV.out).mono ?_; rintro e w' ⟨rfl, rfl⟩) | (go_at_call 31; refine (rrem_zero _ _ HV.out).mono ?_; rintro e w' ⟨rfl, rfl⟩) | (go_at_call 24; refine (same_any _ _ _ _ _).mono ?_; rintro e w' ⟨rfl, rfl⟩) | (go_at_call 13; refine (sane_any _).mono ?_; rintro e b3 ⟨rfl, hb3⟩))
      go_ret
      exact ⟨rfl, bthen (bthen (hb1) hb2) hb3⟩
    · have HB := Lib.hid hb
      have HV := Lib.hid hv
      have H1 : Hid ((vB (wrap32 (quoV a b)) && vB b) = true) := by show _ = true; rw [wrap32_vB, h2]; rfl
      have H2 : Hid ((vB (wrap32 (wrap32 (quoV a b) * b)) && vB (remV a b)) = true) := by show _ = true; rw [wrap32_vB, remV_b h1]; rfl
      have q := quo_back h1 h2
      clear hv h1 h2 hb
      go_enter Try.func8, Try.ntmps8
      go_wp2_with (first | (go_at_call 28; refine (div_ok _ _ _ HV.out HB.out).mono ?_; rintro e b1 ⟨rfl, hb1⟩) | (go_at_call 29; refine (rem_ok _ _ _ HV.out HB.out).mono ?_; rintro e b2 ⟨rfl, hb2⟩) | (go_at_call 30; refine (rdiv_ok _ _ _ HV.out HB.out).mono ?_; rintro e w' ⟨rfl, rfl⟩) | (go_at_call 31; refine (rrem_ok _ _ _ HV.out HB.out).mono ?_; rintro e w' ⟨rfl, rfl⟩) | (go_at_call 24; refine (same_any _ _ _ _ _).mono ?_; rintro e w' ⟨rfl, rfl⟩) | (go_at_call 22; refine (mul_ok _ _ _ H1.out).mono ?_; rintro e b3 ⟨rfl, hb3⟩) | (go_at_call 20; refine (add_ok _ _ _ H2.out).mono ?_; rintro e b4 ⟨rfl, hb4⟩) | (go_at_call 13; refine (sane_any _).mono ?_; rintro e b5 ⟨rfl, hb5⟩))
      go_ret
      exact ⟨rfl, bthen (bthen (bthen (bthen (hb1) hb2) hb3) hb4) hb5⟩

end Go.Proofs.Ytmgeffdekngjgaa
