/- The walk of WordAdds: for every two numbers it returns true. -/
import Derived.Test.YtmgeffdekngjgaaWs
namespace Go.Proofs.Ytmgeffdekngjgaa
open Go.RowKit

set_option maxHeartbeats 400000 in
theorem wordAdds_walk (a b : Int) (w : World) :
    Calls Try.prog 6 #[.int .i64 a, .int .i64 b] w fun e w' => e = .returned (.bool true) ∧ Below w.heap.size w w' := by
  cases hv : (vB a && vB b)
  · have HV := Lib.hid hv
    clear hv
    go_enter Try.func6, Try.ntmps6
    go_wp2_with (first | (go_at_call 20; refine (add_no _ _ _ HV.out).mono ?_; rintro e w1 ⟨rfl, hb1⟩) | (go_at_call 21; refine (sub_no _ _ _ HV.out).mono ?_; rintro e w2 ⟨rfl, hb2⟩) | (go_at_call 22; refine (mul_no _ _ _ HV.out).mono ?_; rintro e w3 ⟨rfl, hb3⟩) | (go_at_call 23; refine (two_no _ _ _ HV.out).mono ?_; rintro e w' ⟨rfl, rfl⟩) | (go_at_call 24; refine (same_any _ _ _ _ _).mono ?_; rintro e w' ⟨rfl, rfl⟩) | (go_at_call 13; refine (sane_any _).mono ?_; rintro e w4 ⟨rfl, hb4⟩))
    go_ret
    exact ⟨rfl, hb1.trans ((hb2.mono hb1.size).trans ((hb3.mono (Nat.le_trans hb1.size hb2.size)).trans (hb4.mono (Nat.le_trans hb1.size (Nat.le_trans hb2.size hb3.size)))))⟩
  · have HV := Lib.hid hv
    have p1 := in_add hv
    have p2 := in_sub hv
    have p3 := in_mul hv
    clear hv
    go_enter Try.func6, Try.ntmps6
    go_wp2_with (first | (go_at_call 20; refine (add_ok _ _ _ HV.out).mono ?_; rintro e w1 ⟨rfl, hb1⟩) | (go_at_call 21; refine (sub_ok _ _ _ HV.out).mono ?_; rintro e w2 ⟨rfl, hb2⟩) | (go_at_call 22; refine (mul_ok _ _ _ HV.out).mono ?_; rintro e w3 ⟨rfl, hb3⟩) | (go_at_call 23; refine (two_ok _ _ _ HV.out).mono ?_; rintro e w' ⟨rfl, rfl⟩) | (go_at_call 17; refine (rwrap_any _ _).mono ?_; rintro e w' ⟨rfl, rfl⟩) | (go_at_call 24; refine (same_any _ _ _ _ _).mono ?_; rintro e w' ⟨rfl, rfl⟩) | (go_at_call 13; refine (sane_any _).mono ?_; rintro e w4 ⟨rfl, hb4⟩))
    go_ret
    exact ⟨rfl, hb1.trans ((hb2.mono hb1.size).trans ((hb3.mono (Nat.le_trans hb1.size hb2.size)).trans (hb4.mono (Nat.le_trans hb1.size (Nat.le_trans hb2.size hb3.size)))))⟩

end Go.Proofs.Ytmgeffdekngjgaa
