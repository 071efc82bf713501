/- The walk of WordChecks: for every number it returns true. -/
import Derived.Test.YtmgeffdekngjgaaWs
namespace Go.Proofs.Ytmgeffdekngjgaa
open Go.RowKit

set_option maxHeartbeats 400000 in
theorem wordChecks_walk (n : Int) (w : World) :
    Calls Try.prog 5 #[.int .i64 n] w fun e w' => e = .returned (.bool true) ∧ Below w.heap.size w w' := by
  have h1 := wrap32_vB n
  have h2 := satV_vB n
  cases hv : vB n
  · go_enter Try.func5, Try.ntmps5
    go_wp2_with (first | (go_at_call 15; refine (rvalid_any _ _).mono ?_; rintro e w' ⟨rfl, rfl⟩) | (go_at_call 14; refine (valid_any _ _).mono ?_; rintro e w' ⟨rfl, rfl⟩) | (go_at_call 17; refine (rwrap_any _ _).mono ?_; rintro e w' ⟨rfl, rfl⟩) | (go_at_call 16; refine (wrap_any _ _).mono ?_; rintro e w' ⟨rfl, rfl⟩) | (go_at_call 19; refine (rsat_any _ _).mono ?_; rintro e w' ⟨rfl, rfl⟩) | (go_at_call 18; refine (sat_any _ _).mono ?_; rintro e w' ⟨rfl, rfl⟩) | (go_at_call 13; refine (sane_any _).mono ?_; rintro e b1 ⟨rfl, hb1⟩))
    go_ret
    exact ⟨rfl, hb1⟩
  · have e1 : (wrap32 n == n) = true := by rw [wrap32_of_vB hv]; simp
    have e2 : (satV n == n) = true := by rw [satV_of_vB hv]; simp
    have e3 : (wrap32 n != n) = false := by rw [wrap32_of_vB hv]; simp
    have e4 : (satV n != n) = false := by rw [satV_of_vB hv]; simp
    go_enter Try.func5, Try.ntmps5
    go_wp2_with (first | (go_at_call 15; refine (rvalid_any _ _).mono ?_; rintro e w' ⟨rfl, rfl⟩) | (go_at_call 14; refine (valid_any _ _).mono ?_; rintro e w' ⟨rfl, rfl⟩) | (go_at_call 17; refine (rwrap_any _ _).mono ?_; rintro e w' ⟨rfl, rfl⟩) | (go_at_call 16; refine (wrap_any _ _).mono ?_; rintro e w' ⟨rfl, rfl⟩) | (go_at_call 19; refine (rsat_any _ _).mono ?_; rintro e w' ⟨rfl, rfl⟩) | (go_at_call 18; refine (sat_any _ _).mono ?_; rintro e w' ⟨rfl, rfl⟩) | (go_at_call 13; refine (sane_any _).mono ?_; rintro e b1 ⟨rfl, hb1⟩))
    go_ret
    exact ⟨rfl, hb1⟩

end Go.Proofs.Ytmgeffdekngjgaa
