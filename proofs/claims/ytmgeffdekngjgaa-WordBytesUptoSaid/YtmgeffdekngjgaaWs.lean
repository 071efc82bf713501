/- 'sane' of the statements on layer 1 returns true. -/
import Derived.Test.YtmgeffdekngjgaaWd
namespace Go.Proofs.Ytmgeffdekngjgaa
open Go.RowKit

theorem add_sane (w : World) : Calls Try.prog 20 #[.int .i64 2147483647, .int .i64 1] w fun e w' => e = .returned (.tuple #[.int .i64 (-2147483648), .int .i64 0]) ∧ Below w.heap.size w w' :=
  (add_ok _ _ w (by decide)).mono fun e w' ⟨h1, h2⟩ => ⟨h1.trans (ret_two (by unfold wrap32; first | (unfold wrap64; decide) | decide) rfl), h2⟩
theorem div_sane (w : World) : Calls Try.prog 28 #[.int .i64 (-7), .int .i64 2] w fun e w' => e = .returned (.tuple #[.int .i64 (-3), .int .i64 0]) ∧ Below w.heap.size w w' :=
  (div_ok _ _ w (by decide) (by decide)).mono fun e w' ⟨h1, h2⟩ => ⟨h1.trans (ret_two (by unfold wrap32; first | (unfold wrap64; decide) | decide) rfl), h2⟩
theorem sum_sane (ad : Addr) (w : World) (h0 : w.cell? ad = some (.int .u8 0)) (h1 : w.cell? (ad.add 1) = some (.int .u8 0)) :
    Calls Try.prog 11 #[.int .i64 0, .slice (some ad) 2 2] w fun e w' => e = .returned (.int .i64 258) ∧ w = w' := by
  refine (sum_any 0 (some ad) 2 [0, 0] w ?_ ?_ (by simp [maxLen])).mono fun e w' ⟨h1, h2⟩ => ⟨h1.trans (ret_i64 (by decide)), h2⟩
  · intro i hi
    match i, hi with
    | 0, _ => exact ⟨ad, rfl, by simpa [Addr.add] using h0⟩
    | 1, _ => exact ⟨ad, rfl, by simpa using h1⟩
  · intro i hi
    match i, hi with
    | 0, _ => simp
    | 1, _ => simp

set_option maxHeartbeats 400000 in
theorem sane_any (w : World) : Calls Try.prog 13 #[] w fun e w' => e = .returned (.bool true) ∧ Below w.heap.size w w' := by
  go_enter Try.func13, Try.ntmps13
  go_wp2_with (first | (go_at_call 20; refine (add_sane _).mono ?_; rintro e w1 ⟨rfl, hb1⟩) | (go_at_call 28; refine (div_sane _).mono ?_; rintro e w2 ⟨rfl, hb2⟩) | (go_at_call 11; refine (sum_sane _ _ (by simp [go_sem]) (by simp [go_sem, Addr.add])).mono ?_; rintro e w3 ⟨rfl, rfl⟩))
  go_ret
  exact ⟨rfl, (hb1.trans (hb2.mono hb1.size)).alloc (Nat.le_trans hb1.size hb2.size) _⟩

end Go.Proofs.Ytmgeffdekngjgaa
