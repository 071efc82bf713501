/- The walk of WordSaturates: for every two numbers it returns true. -/
import Derived.Test.YtmgeffdekngjgaaWs
namespace Go.Proofs.Ytmgeffdekngjgaa
open Go.RowKit

/-- wrapped and saturated are the same exactly of a word, if the number is less than 2^32 away from the words -/
theorem sat_wrap {n : Int} (h : -4294967296 ≤ n) (h' : n ≤ 4294967295) : (wrap32 n == satV n) = vB n := by
  cases hv : vB n
  · have h1 : ¬ (-2147483648 ≤ n ∧ n ≤ 2147483647) := by rw [← vB_iff, hv]; simp
    have h2 : wrap32 n ≠ satV n := by unfold wrap32 satV; omega
    simpa using h2
  · rw [wrap32_of_vB hv, satV_of_vB hv]; simp
set_option maxHeartbeats 1000000 in
theorem wordSaturates_walk (a b : Int) (w : World) :
    Calls Try.prog 7 #[.int .i64 a, .int .i64 b] w fun e w' => e = .returned (.bool true) ∧ Below w.heap.size w w' := by
  cases hv : (vB a && vB b)
  · have HV := Lib.hid hv
    clear hv
    go_enter Try.func7, Try.ntmps7
    go_wp2_with (first | (go_at_call 25; refine (addSat_no _ _ _ HV.out).mono ?_; rintro e b1 ⟨rfl, hb1⟩) | (go_at_call 26; refine (subSat_no _ _ _ HV.out).mono ?_; rintro e b2 ⟨rfl, hb2⟩) | (go_at_call 27; refine (mulSat_no _ _ _ HV.out).mono ?_; rintro e b3 ⟨rfl, hb3⟩) | (go_at_call 23; refine (two_no _ _ _ HV.out).mono ?_; rintro e w' ⟨rfl, rfl⟩) | (go_at_call 24; refine (same_any _ _ _ _ _).mono ?_; rintro e w' ⟨rfl, rfl⟩) | (go_at_call 13; refine (sane_any _).mono ?_; rintro e b4 ⟨rfl, hb4⟩))
    go_ret
    exact ⟨rfl, bthen (bthen (bthen (hb1) hb2) hb3) hb4⟩
  · obtain ⟨h1, h2⟩ : vB a = true ∧ vB b = true := by simpa using hv
    have hm := mul_bound h1 h2
    rw [vB_iff] at h1 h2
    have q1 : (wrap32 (a + b) == satV (a + b)) = vB (a + b) := sat_wrap (by omega) (by omega)
    have q2 : (wrap32 (a - b) == satV (a - b)) = vB (a - b) := sat_wrap (by omega) (by omega)
    have q3 : vB (a * b) = true → (wrap32 (a * b) == satV (a * b)) = true := fun h => by rw [wrap32_of_vB h, satV_of_vB h]; simp
    have p3 := in_mul hv
    obtain ⟨h1a, h1b⟩ := h1
    obtain ⟨h2a, h2b⟩ := h2
    obtain ⟨m1, m2⟩ := hm
    have HV := Lib.hid hv
    clear hv
    cases hq : (wrap32 (a * b) == satV (a * b))
    · have q4 : vB (a * b) = false := by
        cases h : vB (a * b)
        · rfl
        · rw [q3 h] at hq; exact hq
      clear q3
      go_enter Try.func7, Try.ntmps7
      go_wp2_with (first | (go_at_call 25; refine (addSat_ok _ _ _ HV.out).mono ?_; rintro e b1 ⟨rfl, hb1⟩) | (go_at_call 26; refine (subSat_ok _ _ _ HV.out).mono ?_; rintro e b2 ⟨rfl, hb2⟩) | (go_at_call 27; refine (mulSat_ok _ _ _ HV.out).mono ?_; rintro e b3 ⟨rfl, hb3⟩) | (go_at_call 23; refine (two_ok _ _ _ HV.out).mono ?_; rintro e w' ⟨rfl, rfl⟩) | (go_at_call 24; refine (same_any _ _ _ _ _).mono ?_; rintro e w' ⟨rfl, rfl⟩) | (go_at_call 19; refine (rsat_any _ _).mono ?_; rintro e w' ⟨rfl, rfl⟩) | (go_at_call 15; refine (rvalid_any _ _).mono ?_; rintro e w' ⟨rfl, rfl⟩) | (go_at_call 20; refine (add_ok _ _ _ HV.out).mono ?_; rintro e b4 ⟨rfl, hb4⟩) | (go_at_call 21; refine (sub_ok _ _ _ HV.out).mono ?_; rintro e b5 ⟨rfl, hb5⟩) | (go_at_call 22; refine (mul_ok _ _ _ HV.out).mono ?_; rintro e b6 ⟨rfl, hb6⟩) | (go_at_call 13; refine (sane_any _).mono ?_; rintro e b7 ⟨rfl, hb7⟩))
      go_ret
      exact ⟨rfl, bthen (bthen (bthen (bthen (bthen (bthen (hb1) hb2) hb3) hb4) hb5) hb6) hb7⟩
    · clear q3
      go_enter Try.func7, Try.ntmps7
      go_wp2_with (first | (go_at_call 25; refine (addSat_ok _ _ _ HV.out).mono ?_; rintro e b1 ⟨rfl, hb1⟩) | (go_at_call 26; refine (subSat_ok _ _ _ HV.out).mono ?_; rintro e b2 ⟨rfl, hb2⟩) | (go_at_call 27; refine (mulSat_ok _ _ _ HV.out).mono ?_; rintro e b3 ⟨rfl, hb3⟩) | (go_at_call 23; refine (two_ok _ _ _ HV.out).mono ?_; rintro e w' ⟨rfl, rfl⟩) | (go_at_call 24; refine (same_any _ _ _ _ _).mono ?_; rintro e w' ⟨rfl, rfl⟩) | (go_at_call 19; refine (rsat_any _ _).mono ?_; rintro e w' ⟨rfl, rfl⟩) | (go_at_call 15; refine (rvalid_any _ _).mono ?_; rintro e w' ⟨rfl, rfl⟩) | (go_at_call 20; refine (add_ok _ _ _ HV.out).mono ?_; rintro e b4 ⟨rfl, hb4⟩) | (go_at_call 21; refine (sub_ok _ _ _ HV.out).mono ?_; rintro e b5 ⟨rfl, hb5⟩) | (go_at_call 22; refine (mul_ok _ _ _ HV.out).mono ?_; rintro e b6 ⟨rfl, hb6⟩) | (go_at_call 13; refine (sane_any _).mono ?_; rintro e b7 ⟨rfl, hb7⟩))
      go_ret
      exact ⟨rfl, bthen (bthen (bthen (bthen (bthen (bthen (hb1) hb2) hb3) hb4) hb5) hb6) hb7⟩

end Go.Proofs.Ytmgeffdekngjgaa
