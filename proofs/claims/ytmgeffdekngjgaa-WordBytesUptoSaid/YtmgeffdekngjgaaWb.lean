/- The arithmetic of layer 1 and of its reference, each function by a contract. -/
import Derived.Test.YtmgeffdekngjgaaWa
namespace Go.Proofs.Ytmgeffdekngjgaa
open Go.RowKit

set_option maxHeartbeats 400000 in
theorem plus_any (a b : Int) (w : World) : Calls Try.prog 42 #[.int .i64 a, .int .i64 b] w fun e w' => e = .returned (.int .i64 (wrap64 (a + b))) ∧ w = w' := by
  go_enter Try.func42, Try.ntmps42
  go_wp2
  go_ret
  exact ⟨rfl, rfl⟩
set_option maxHeartbeats 400000 in
theorem minus_any (a b : Int) (w : World) : Calls Try.prog 43 #[.int .i64 a, .int .i64 b] w fun e w' => e = .returned (.int .i64 (wrap64 (a - b))) ∧ w = w' := by
  go_enter Try.func43, Try.ntmps43
  go_wp2
  go_ret
  exact ⟨rfl, rfl⟩
set_option maxHeartbeats 400000 in
theorem times_any (a b : Int) (w : World) : Calls Try.prog 44 #[.int .i64 a, .int .i64 b] w fun e w' => e = .returned (.int .i64 (wrap64 (a * b))) ∧ w = w' := by
  go_enter Try.func44, Try.ntmps44
  go_wp2
  go_ret
  exact ⟨rfl, rfl⟩
set_option maxHeartbeats 400000 in
theorem sat_any (n : Int) (w : World) : Calls Try.prog 18 #[.int .i64 n] w fun e w' => e = .returned (.int .i64 (satV n)) ∧ w = w' := by
  go_enter Try.func18, Try.ntmps18
  go_wp2
  all_goals
    go_ret
    exact ⟨ret_i64 (show _ = satV n by unfold satV; omega), rfl⟩
set_option maxHeartbeats 400000 in
theorem rsat_any (n : Int) (w : World) : Calls Try.prog 19 #[.int .i64 n] w fun e w' => e = .returned (.int .i64 (satV n)) ∧ w = w' := by
  go_enter Try.func19, Try.ntmps19
  go_wp2
  all_goals
    go_ret
    exact ⟨ret_i64 (show _ = satV n by unfold satV; omega), rfl⟩

set_option maxHeartbeats 400000 in
theorem both_ok (f g : Nat) (a b c d : Int) (w : World) (hv : (vB a && vB b) = true)
    (cf : ∀ A W, (callFunc f A).run Try.prog W = .ok (.enter f A) W) (cg : ∀ A W, (callFunc g A).run Try.prog W = .ok (.enter g A) W)
    (hf : ∀ W, Calls Try.prog f #[.int .i64 a, .int .i64 b] W fun e w' => e = .returned (.int .i64 c) ∧ W = w')
    (hg : ∀ W, Calls Try.prog g #[.int .i64 c] W fun e w' => e = .returned (.int .i64 d) ∧ W = w') :
    Calls Try.prog 41 #[.int .i64 a, .int .i64 b, .func (.func f) #[] #[], .func (.func g) #[] #[]] w fun e w' => e = .returned (.tuple #[.int .i64 d, .int .i64 0]) ∧ Below w.heap.size w w' := by
  have HF := Lib.hid hf
  have HG := Lib.hid hg
  clear hf hg
  go_enter Try.func41, Try.ntmps41
  go_wp2_with (first | (go_at_call 45; refine (words2 a b _ _ (by simp [go_sem]) (by simp [go_sem, Addr.add])).mono ?_; rintro e w' ⟨rfl, rfl⟩) | (refine (HF.out _).mono ?_; rintro e w' ⟨rfl, rfl⟩) | (refine (HG.out _).mono ?_; rintro e w' ⟨rfl, rfl⟩))
  go_ret2
  exact ⟨rfl, (Below.refl _ _).alloc (Nat.le_refl _) _⟩

set_option maxHeartbeats 400000 in
theorem both_no (f g : Nat) (a b : Int) (w : World) (hv : (vB a && vB b) = false) :
    Calls Try.prog 41 #[.int .i64 a, .int .i64 b, .func (.func f) #[] #[], .func (.func g) #[] #[]] w fun e w' => e = .returned (.tuple #[.int .i64 0, .int .i64 1]) ∧ Below w.heap.size w w' := by
  go_enter Try.func41, Try.ntmps41
  go_wp2_with (first | (go_at_call 45; refine (words2 a b _ _ (by simp [go_sem]) (by simp [go_sem, Addr.add])).mono ?_; rintro e w' ⟨rfl, rfl⟩))
  go_ret2
  exact ⟨rfl, (Below.refl _ _).alloc (Nat.le_refl _) _⟩

theorem cf_plus (A : Array Value) (W : World) : (callFunc 42 A).run Try.prog W = .ok (.enter 42 A) W := by kernel_rfl
theorem cf_minus (A : Array Value) (W : World) : (callFunc 43 A).run Try.prog W = .ok (.enter 43 A) W := by kernel_rfl
theorem cf_times (A : Array Value) (W : World) : (callFunc 44 A).run Try.prog W = .ok (.enter 44 A) W := by kernel_rfl
theorem cf_wrap (A : Array Value) (W : World) : (callFunc 16 A).run Try.prog W = .ok (.enter 16 A) W := by kernel_rfl
theorem cf_sat (A : Array Value) (W : World) : (callFunc 18 A).run Try.prog W = .ok (.enter 18 A) W := by kernel_rfl


theorem mul_bound {a b : Int} (ha : vB a = true) (hb : vB b = true) : -4611686018427387904 ≤ a * b ∧ a * b ≤ 4611686018427387904 := by
  rw [vB_iff] at ha hb
  have h : (a * b).natAbs ≤ 2147483648 * 2147483648 := by rw [Int.natAbs_mul]; exact Nat.mul_le_mul (by omega) (by omega)
  omega

theorem in_add {a b : Int} (h : (vB a && vB b) = true) : wrap64 (a + b) = a + b := by
  obtain ⟨h1, h2⟩ : vB a = true ∧ vB b = true := by simpa using h
  rw [vB_iff] at h1 h2; exact IntWalk.wrap64_in _ (by omega)
theorem in_sub {a b : Int} (h : (vB a && vB b) = true) : wrap64 (a - b) = a - b := by
  obtain ⟨h1, h2⟩ : vB a = true ∧ vB b = true := by simpa using h
  rw [vB_iff] at h1 h2; exact IntWalk.wrap64_in _ (by omega)
theorem in_mul {a b : Int} (h : (vB a && vB b) = true) : wrap64 (a * b) = a * b := by
  obtain ⟨h1, h2⟩ : vB a = true ∧ vB b = true := by simpa using h
  have := mul_bound h1 h2; exact IntWalk.wrap64_in _ (by omega)

set_option maxHeartbeats 400000 in
theorem add_ok (a b : Int) (w : World) (hv : (vB a && vB b) = true) :
    Calls Try.prog 20 #[.int .i64 a, .int .i64 b] w fun e w' => e = .returned (.tuple #[.int .i64 (wrap32 (a + b)), .int .i64 0]) ∧ Below w.heap.size w w' := by
  have HV := Lib.hid hv
  clear hv
  go_enter Try.func20, Try.ntmps20
  go_wp2_with (first | (go_at_call 41; refine (both_ok 42 16 _ _ _ _ _ HV.out cf_plus cf_wrap (fun W => by have h := plus_any a b W; rw [in_add HV.out] at h; exact h) (wrap_any _)).mono ?_; rintro e w' ⟨rfl, hb⟩))
  go_ret2
  exact ⟨rfl, hb⟩

set_option maxHeartbeats 400000 in
theorem add_no (a b : Int) (w : World) (hv : (vB a && vB b) = false) :
    Calls Try.prog 20 #[.int .i64 a, .int .i64 b] w fun e w' => e = .returned (.tuple #[.int .i64 0, .int .i64 1]) ∧ Below w.heap.size w w' := by
  have HV := Lib.hid hv
  clear hv
  go_enter Try.func20, Try.ntmps20
  go_wp2_with (first | (go_at_call 41; refine (both_no 42 16 _ _ _ HV.out).mono ?_; rintro e w' ⟨rfl, hb⟩))
  go_ret2
  exact ⟨rfl, hb⟩

set_option maxHeartbeats 400000 in
theorem sub_ok (a b : Int) (w : World) (hv : (vB a && vB b) = true) :
    Calls Try.prog 21 #[.int .i64 a, .int .i64 b] w fun e w' => e = .returned (.tuple #[.int .i64 (wrap32 (a - b)), .int .i64 0]) ∧ Below w.heap.size w w' := by
  have HV := Lib.hid hv
  clear hv
  go_enter Try.func21, Try.ntmps21
  go_wp2_with (first | (go_at_call 41; refine (both_ok 43 16 _ _ _ _ _ HV.out cf_minus cf_wrap (fun W => by have h := minus_any a b W; rw [in_sub HV.out] at h; exact h) (wrap_any _)).mono ?_; rintro e w' ⟨rfl, hb⟩))
  go_ret2
  exact ⟨rfl, hb⟩

set_option maxHeartbeats 400000 in
theorem sub_no (a b : Int) (w : World) (hv : (vB a && vB b) = false) :
    Calls Try.prog 21 #[.int .i64 a, .int .i64 b] w fun e w' => e = .returned (.tuple #[.int .i64 0, .int .i64 1]) ∧ Below w.heap.size w w' := by
  have HV := Lib.hid hv
  clear hv
  go_enter Try.func21, Try.ntmps21
  go_wp2_with (first | (go_at_call 41; refine (both_no 43 16 _ _ _ HV.out).mono ?_; rintro e w' ⟨rfl, hb⟩))
  go_ret2
  exact ⟨rfl, hb⟩

set_option maxHeartbeats 400000 in
theorem mul_ok (a b : Int) (w : World) (hv : (vB a && vB b) = true) :
    Calls Try.prog 22 #[.int .i64 a, .int .i64 b] w fun e w' => e = .returned (.tuple #[.int .i64 (wrap32 (a * b)), .int .i64 0]) ∧ Below w.heap.size w w' := by
  have HV := Lib.hid hv
  clear hv
  go_enter Try.func22, Try.ntmps22
  go_wp2_with (first | (go_at_call 41; refine (both_ok 44 16 _ _ _ _ _ HV.out cf_times cf_wrap (fun W => by have h := times_any a b W; rw [in_mul HV.out] at h; exact h) (wrap_any _)).mono ?_; rintro e w' ⟨rfl, hb⟩))
  go_ret2
  exact ⟨rfl, hb⟩

set_option maxHeartbeats 400000 in
theorem mul_no (a b : Int) (w : World) (hv : (vB a && vB b) = false) :
    Calls Try.prog 22 #[.int .i64 a, .int .i64 b] w fun e w' => e = .returned (.tuple #[.int .i64 0, .int .i64 1]) ∧ Below w.heap.size w w' := by
  have HV := Lib.hid hv
  clear hv
  go_enter Try.func22, Try.ntmps22
  go_wp2_with (first | (go_at_call 41; refine (both_no 44 16 _ _ _ HV.out).mono ?_; rintro e w' ⟨rfl, hb⟩))
  go_ret2
  exact ⟨rfl, hb⟩

set_option maxHeartbeats 400000 in
theorem addSat_ok (a b : Int) (w : World) (hv : (vB a && vB b) = true) :
    Calls Try.prog 25 #[.int .i64 a, .int .i64 b] w fun e w' => e = .returned (.tuple #[.int .i64 (satV (a + b)), .int .i64 0]) ∧ Below w.heap.size w w' := by
  have HV := Lib.hid hv
  clear hv
  go_enter Try.func25, Try.ntmps25
  go_wp2_with (first | (go_at_call 41; refine (both_ok 42 18 _ _ _ _ _ HV.out cf_plus cf_sat (fun W => by have h := plus_any a b W; rw [in_add HV.out] at h; exact h) (sat_any _)).mono ?_; rintro e w' ⟨rfl, hb⟩))
  go_ret2
  exact ⟨rfl, hb⟩

set_option maxHeartbeats 400000 in
theorem addSat_no (a b : Int) (w : World) (hv : (vB a && vB b) = false) :
    Calls Try.prog 25 #[.int .i64 a, .int .i64 b] w fun e w' => e = .returned (.tuple #[.int .i64 0, .int .i64 1]) ∧ Below w.heap.size w w' := by
  have HV := Lib.hid hv
  clear hv
  go_enter Try.func25, Try.ntmps25
  go_wp2_with (first | (go_at_call 41; refine (both_no 42 18 _ _ _ HV.out).mono ?_; rintro e w' ⟨rfl, hb⟩))
  go_ret2
  exact ⟨rfl, hb⟩

set_option maxHeartbeats 400000 in
theorem subSat_ok (a b : Int) (w : World) (hv : (vB a && vB b) = true) :
    Calls Try.prog 26 #[.int .i64 a, .int .i64 b] w fun e w' => e = .returned (.tuple #[.int .i64 (satV (a - b)), .int .i64 0]) ∧ Below w.heap.size w w' := by
  have HV := Lib.hid hv
  clear hv
  go_enter Try.func26, Try.ntmps26
  go_wp2_with (first | (go_at_call 41; refine (both_ok 43 18 _ _ _ _ _ HV.out cf_minus cf_sat (fun W => by have h := minus_any a b W; rw [in_sub HV.out] at h; exact h) (sat_any _)).mono ?_; rintro e w' ⟨rfl, hb⟩))
  go_ret2
  exact ⟨rfl, hb⟩

set_option maxHeartbeats 400000 in
theorem subSat_no (a b : Int) (w : World) (hv : (vB a && vB b) = false) :
    Calls Try.prog 26 #[.int .i64 a, .int .i64 b] w fun e w' => e = .returned (.tuple #[.int .i64 0, .int .i64 1]) ∧ Below w.heap.size w w' := by
  have HV := Lib.hid hv
  clear hv
  go_enter Try.func26, Try.ntmps26
  go_wp2_with (first | (go_at_call 41; refine (both_no 43 18 _ _ _ HV.out).mono ?_; rintro e w' ⟨rfl, hb⟩))
  go_ret2
  exact ⟨rfl, hb⟩

set_option maxHeartbeats 400000 in
theorem mulSat_ok (a b : Int) (w : World) (hv : (vB a && vB b) = true) :
    Calls Try.prog 27 #[.int .i64 a, .int .i64 b] w fun e w' => e = .returned (.tuple #[.int .i64 (satV (a * b)), .int .i64 0]) ∧ Below w.heap.size w w' := by
  have HV := Lib.hid hv
  clear hv
  go_enter Try.func27, Try.ntmps27
  go_wp2_with (first | (go_at_call 41; refine (both_ok 44 18 _ _ _ _ _ HV.out cf_times cf_sat (fun W => by have h := times_any a b W; rw [in_mul HV.out] at h; exact h) (sat_any _)).mono ?_; rintro e w' ⟨rfl, hb⟩))
  go_ret2
  exact ⟨rfl, hb⟩

set_option maxHeartbeats 400000 in
theorem mulSat_no (a b : Int) (w : World) (hv : (vB a && vB b) = false) :
    Calls Try.prog 27 #[.int .i64 a, .int .i64 b] w fun e w' => e = .returned (.tuple #[.int .i64 0, .int .i64 1]) ∧ Below w.heap.size w w' := by
  have HV := Lib.hid hv
  clear hv
  go_enter Try.func27, Try.ntmps27
  go_wp2_with (first | (go_at_call 41; refine (both_no 44 18 _ _ _ HV.out).mono ?_; rintro e w' ⟨rfl, hb⟩))
  go_ret2
  exact ⟨rfl, hb⟩

end Go.Proofs.Ytmgeffdekngjgaa
