/- The arithmetic of layer 1 and of its reference, each function by a contract. -/
import Derived.Test.YtignlfcjlbijaaaWa
namespace Go.Proofs.Ytignlfcjlbijaaa
open Go.RowKit

set_option maxHeartbeats 400000 in
theorem plus_any (a b : Int) (w : World) : Calls Try.prog 59 #[.int .i64 a, .int .i64 b] w fun e w' => e = .returned (.int .i64 (wrap64 (a + b))) ∧ w = w' := by
  go_enter Try.func59, Try.ntmps59
  go_wp2
  go_ret
  exact ⟨rfl, rfl⟩
set_option maxHeartbeats 400000 in
theorem minus_any (a b : Int) (w : World) : Calls Try.prog 61 #[.int .i64 a, .int .i64 b] w fun e w' => e = .returned (.int .i64 (wrap64 (a - b))) ∧ w = w' := by
  go_enter Try.func61, Try.ntmps61
  go_wp2
  go_ret
  exact ⟨rfl, rfl⟩
set_option maxHeartbeats 400000 in
theorem times_any (a b : Int) (w : World) : Calls Try.prog 62 #[.int .i64 a, .int .i64 b] w fun e w' => e = .returned (.int .i64 (wrap64 (a * b))) ∧ w = w' := by
  go_enter Try.func62, Try.ntmps62
  go_wp2
  go_ret
  exact ⟨rfl, rfl⟩
set_option maxHeartbeats 400000 in
theorem both_ok (f g : Nat) (a b c d : Int) (w : World) (hv : (vB a && vB b) = true)
    (cf : ∀ A W, (callFunc f A).run Try.prog W = .ok (.enter f A) W) (cg : ∀ A W, (callFunc g A).run Try.prog W = .ok (.enter g A) W)
    (hf : ∀ W, Calls Try.prog f #[.int .i64 a, .int .i64 b] W fun e w' => e = .returned (.int .i64 c) ∧ W = w')
    (hg : ∀ W, Calls Try.prog g #[.int .i64 c] W fun e w' => e = .returned (.int .i64 d) ∧ W = w') :
    Calls Try.prog 58 #[.int .i64 a, .int .i64 b, .func (.func f) #[] #[], .func (.func g) #[] #[]] w fun e w' => e = .returned (.tuple #[.int .i64 d, .int .i64 0]) ∧ Below w.heap.size w w' := by
  have HF := Lib.hid hf
  have HG := Lib.hid hg
  clear hf hg
  go_enter Try.func58, Try.ntmps58
  go_wp2_with (first | (go_at_call 63; refine (words2 a b _ _ (by simp [go_sem]) (by simp [go_sem, Addr.add])).mono ?_; rintro e w' ⟨rfl, rfl⟩) | (refine (HF.out _).mono ?_; rintro e w' ⟨rfl, rfl⟩) | (refine (HG.out _).mono ?_; rintro e w' ⟨rfl, rfl⟩))
  go_ret2
  exact ⟨rfl, (Below.refl _ _).alloc (Nat.le_refl _) _⟩

set_option maxHeartbeats 400000 in
theorem both_no (f g : Nat) (a b : Int) (w : World) (hv : (vB a && vB b) = false) :
    Calls Try.prog 58 #[.int .i64 a, .int .i64 b, .func (.func f) #[] #[], .func (.func g) #[] #[]] w fun e w' => e = .returned (.tuple #[.int .i64 0, .int .i64 1]) ∧ Below w.heap.size w w' := by
  go_enter Try.func58, Try.ntmps58
  go_wp2_with (first | (go_at_call 63; refine (words2 a b _ _ (by simp [go_sem]) (by simp [go_sem, Addr.add])).mono ?_; rintro e w' ⟨rfl, rfl⟩))
  go_ret2
  exact ⟨rfl, (Below.refl _ _).alloc (Nat.le_refl _) _⟩

theorem cf_plus (A : Array Value) (W : World) : (callFunc 59 A).run Try.prog W = .ok (.enter 59 A) W := by kernel_rfl
theorem cf_minus (A : Array Value) (W : World) : (callFunc 61 A).run Try.prog W = .ok (.enter 61 A) W := by kernel_rfl
theorem cf_times (A : Array Value) (W : World) : (callFunc 62 A).run Try.prog W = .ok (.enter 62 A) W := by kernel_rfl
theorem cf_wrap (A : Array Value) (W : World) : (callFunc 60 A).run Try.prog W = .ok (.enter 60 A) W := by kernel_rfl
theorem mul_bound {a b : Int} (ha : vB a = true) (hb : vB b = true) : -4611686018427387904 ≤ a * b ∧ a * b ≤ 4611686018427387904 := by
  rw [vB_iff] at ha hb
  have h : (a * b).natAbs ≤ 2147483648 * 2147483648 := by rw [Int.natAbs_mul]; exact Nat.mul_le_mul (by omega) (by omega)
  omega

theorem in_add {a b : Int} (h : (vB a && vB b) = true) : wrap64 (a + b) = a + b := by
  obtain ⟨h1, h2⟩ : vB a = true ∧ vB b = true := by simpa using h
  rw [vB_iff] at h1 h2; exact IntWalk.wrap64_in _ (by omega)
theorem in_sub {a b : Int} (h : (vB a && vB b) = true) : wrap64 (a - b) = a - b := by
  obtain ⟨h1, h2⟩ : vB a = true ∧ vB b = true := by simpa using h
  rw [vB_iff] at h1 h2; exact IntWalk.wrap64_in _ (by omega)
theorem in_mul {a b : Int} (h : (vB a && vB b) = true) : wrap64 (a * b) = a * b := by
  obtain ⟨h1, h2⟩ : vB a = true ∧ vB b = true := by simpa using h
  have := mul_bound h1 h2; exact IntWalk.wrap64_in _ (by omega)

set_option maxHeartbeats 400000 in
theorem add_ok (a b : Int) (w : World) (hv : (vB a && vB b) = true) :
    Calls Try.prog 47 #[.int .i64 a, .int .i64 b] w fun e w' => e = .returned (.tuple #[.int .i64 (wrap32 (a + b)), .int .i64 0]) ∧ Below w.heap.size w w' := by
  have HV := Lib.hid hv
  clear hv
  go_enter Try.func47, Try.ntmps47
  go_wp2_with (first | (go_at_call 58; refine (both_ok 59 60 _ _ _ _ _ HV.out cf_plus cf_wrap (fun W => by have h := plus_any a b W; rw [in_add HV.out] at h; exact h) (wrap_any _)).mono ?_; rintro e w' ⟨rfl, hb⟩))
  go_ret2
  exact ⟨rfl, hb⟩

set_option maxHeartbeats 400000 in
theorem add_no (a b : Int) (w : World) (hv : (vB a && vB b) = false) :
    Calls Try.prog 47 #[.int .i64 a, .int .i64 b] w fun e w' => e = .returned (.tuple #[.int .i64 0, .int .i64 1]) ∧ Below w.heap.size w w' := by
  have HV := Lib.hid hv
  clear hv
  go_enter Try.func47, Try.ntmps47
  go_wp2_with (first | (go_at_call 58; refine (both_no 59 60 _ _ _ HV.out).mono ?_; rintro e w' ⟨rfl, hb⟩))
  go_ret2
  exact ⟨rfl, hb⟩

set_option maxHeartbeats 400000 in
theorem sub_ok (a b : Int) (w : World) (hv : (vB a && vB b) = true) :
    Calls Try.prog 48 #[.int .i64 a, .int .i64 b] w fun e w' => e = .returned (.tuple #[.int .i64 (wrap32 (a - b)), .int .i64 0]) ∧ Below w.heap.size w w' := by
  have HV := Lib.hid hv
  clear hv
  go_enter Try.func48, Try.ntmps48
  go_wp2_with (first | (go_at_call 58; refine (both_ok 61 60 _ _ _ _ _ HV.out cf_minus cf_wrap (fun W => by have h := minus_any a b W; rw [in_sub HV.out] at h; exact h) (wrap_any _)).mono ?_; rintro e w' ⟨rfl, hb⟩))
  go_ret2
  exact ⟨rfl, hb⟩

set_option maxHeartbeats 400000 in
theorem sub_no (a b : Int) (w : World) (hv : (vB a && vB b) = false) :
    Calls Try.prog 48 #[.int .i64 a, .int .i64 b] w fun e w' => e = .returned (.tuple #[.int .i64 0, .int .i64 1]) ∧ Below w.heap.size w w' := by
  have HV := Lib.hid hv
  clear hv
  go_enter Try.func48, Try.ntmps48
  go_wp2_with (first | (go_at_call 58; refine (both_no 61 60 _ _ _ HV.out).mono ?_; rintro e w' ⟨rfl, hb⟩))
  go_ret2
  exact ⟨rfl, hb⟩

set_option maxHeartbeats 400000 in
theorem mul_ok (a b : Int) (w : World) (hv : (vB a && vB b) = true) :
    Calls Try.prog 49 #[.int .i64 a, .int .i64 b] w fun e w' => e = .returned (.tuple #[.int .i64 (wrap32 (a * b)), .int .i64 0]) ∧ Below w.heap.size w w' := by
  have HV := Lib.hid hv
  clear hv
  go_enter Try.func49, Try.ntmps49
  go_wp2_with (first | (go_at_call 58; refine (both_ok 62 60 _ _ _ _ _ HV.out cf_times cf_wrap (fun W => by have h := times_any a b W; rw [in_mul HV.out] at h; exact h) (wrap_any _)).mono ?_; rintro e w' ⟨rfl, hb⟩))
  go_ret2
  exact ⟨rfl, hb⟩

set_option maxHeartbeats 400000 in
theorem mul_no (a b : Int) (w : World) (hv : (vB a && vB b) = false) :
    Calls Try.prog 49 #[.int .i64 a, .int .i64 b] w fun e w' => e = .returned (.tuple #[.int .i64 0, .int .i64 1]) ∧ Below w.heap.size w w' := by
  have HV := Lib.hid hv
  clear hv
  go_enter Try.func49, Try.ntmps49
  go_wp2_with (first | (go_at_call 58; refine (both_no 62 60 _ _ _ HV.out).mono ?_; rintro e w' ⟨rfl, hb⟩))
  go_ret2
  exact ⟨rfl, hb⟩

end Go.Proofs.Ytignlfcjlbijaaa
