/- The program's Run: its test of the arguments. -/
import Derived.Test.YtignlfcjlbijaaaRk
namespace Go.Proofs.Ytignlfcjlbijaaa
open Go.RowKit

theorem run1_any (h : Int) (w : World) :
    Calls Try.prog 27 #[.int .i64 h] w fun e w' => e = .returned (.bool (!vB h)) ∧ w = w' := by
  go_enter Try.func27, Try.ntmps27
  go_wp2_with (go_at_call 28; refine (valid_any _ _).mono ?_; rintro e w' ⟨rfl, rfl⟩)
  go_ret
  exact ⟨rfl, rfl⟩

set_option maxHeartbeats 4000000 in
theorem idx3_any (l : List Int) (ao : Option Addr) (cap : Nat) (w : World) (hlen : l.length ≤ 1000) (hl : SlA w 1 ao l.length cap (l.map (Value.int .i64))) :
    Calls Try.prog 46 #[.slice ao l.length cap, .func (Fn.func 27) #[] #[]] w fun e w' => (∃ r : Int, e = .returned (.int .i64 r) ∧ decide (0 ≤ r) = l.any (fun x => !vB x)) ∧ Below w.heap.size w w' := by
  have cf : ∀ A W, (callFunc 27 A).run Try.prog W = .ok (.enter 27 A) W := fun A W => by kernel_rfl
  have HI := Lib.hid hl
  clear hl
  go_enter Try.func46, Try.ntmps46
  go_wp2
  go_loopw [8] (fun i wr => ∃ (k : Nat), k ≤ l.length ∧ i = .int .i64 k ∧ Below w.heap.size w wr ∧ (∀ i, i < k → (!vB (l.getD i 0)) = false)) (fun i _ => l.length - (intOf i).toNat)
  case atStart => exact ⟨0, by omega, rfl, Below.refl _ _, by omega⟩
  case round =>
    obtain ⟨k, hk, rfl, hbel, q1⟩ := hrel
    have HL := Lib.hid hbel
    have Q1 := Lib.hid q1
    clear hbel q1
    by_cases hkl : k < l.length
    · obtain ⟨ad, rfl, e0⟩ := sla_int (SlA.old HI.out HL.out) hkl
      obtain ⟨x, hx⟩ : ∃ x, x = l.getD k 0 := ⟨_, rfl⟩
      rw [← hx] at e0
      have HX := Lib.hid hx
      clear hx
      go_wp2_with fail
      refine (run1_any x _).mono ?_
      rintro e w1 ⟨rfl, rfl⟩
      have HL1 := Lib.hid HL.out
      rcases hI : vB x with _ | _
      · go_wp2
        go_ret
        exact ⟨⟨_, rfl, by rw [any_of (d := 0) hkl (by rw [← HX.out]; simp [hI])]; simp⟩, HL1.out⟩
      · go_wp2
        go_roundw
        case rel =>
          refine ⟨k + 1, by omega, by go_num, HL1.out, fun i hi => ?_⟩
          by_cases hik : i < k
          · exact Q1.out i hik
          · obtain rfl : i = k := by omega
            rw [← HX.out]; simp [hI]
        case measure => simp [intOf]; omega
    · go_wp2
      go_ret
      exact ⟨⟨_, rfl, (any_not (d := 0) fun i hi => Q1.out i (by omega)).symm⟩, HL.out⟩

set_option maxHeartbeats 1000000 in
theorem con3_any (l : List Int) (ao : Option Addr) (cap : Nat) (w : World) (hlen : l.length ≤ 1000) (hl : SlA w 1 ao l.length cap (l.map (Value.int .i64))) :
    Calls Try.prog 26 #[.slice ao l.length cap, .func (Fn.func 27) #[] #[]] w fun e w' => e = .returned (.bool (l.any fun x => !vB x)) ∧ Below w.heap.size w w' := by
  have HI := Lib.hid hl
  clear hl
  go_enter Try.func26, Try.ntmps26
  go_wp2_with fail
  refine (idx3_any l ao cap w hlen HI.out).mono ?_
  rintro e w1 ⟨⟨r, rfl, hr⟩, hb1⟩
  have HR := Lib.hid hr
  clear hr
  go_wp2
  go_ret
  exact ⟨ret_bool HR.out, hb1⟩


end Go.Proofs.Ytignlfcjlbijaaa
