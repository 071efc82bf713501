/- Sums, multiples and what fits: layer 17's functions and those of its reference, each by a contract. -/
import Derived.Test.YtenaklaajdpimaaLc
namespace Go.Proofs.Ytenaklaajdpimaa
open Go.RowKit

set_option maxHeartbeats 1000000 in
theorem loose_no (a b c : Int) (w : World) (h : tB a b c = false) :
    Calls Try.prog 12 #[.agg #[.int .i64 a, .int .i64 b, .int .i64 c]] w fun e w' => e = .returned (.tuple #[.int .i64 0, .int .i64 1]) ∧ Below w.heap.size w w' := by
  go_enter Try.func12, Try.ntmps12
  go_wp2_with (go_at_call 17; refine (are1 _ a b c _ (Blk.new' _ _ (by simp))).mono ?_; rintro e w1 ⟨rfl, hb1⟩)
  go_ret2
  exact ⟨rfl, bthen (((Below.refl _ _).alloc (Nat.le_refl _) _).alloc (by simp) _) hb1⟩
/-- the sum of three numbers, or the error that it is too large -/
def lsV (a b c : Int) : Int := if 1000000000 < a + b + c then 0 else a + b + c
def lsE (a b c : Int) : Int := if 1000000000 < a + b + c then 6 else 0
set_option maxHeartbeats 1000000 in
theorem loose_ok (a b c : Int) (w : World) (h : tB a b c = true) :
    Calls Try.prog 12 #[.agg #[.int .i64 a, .int .i64 b, .int .i64 c]] w fun e w' => e = .returned (.tuple #[.int .i64 (lsV a b c), .int .i64 (lsE a b c)]) ∧ Below w.heap.size w w' := by
  obtain ⟨a0, a1, b0, b1, c0, c1⟩ := tB_iff.1 h
  by_cases hs : 1000000000 < a + b + c
  all_goals
    go_enter Try.func12, Try.ntmps12
    go_wp2_with (go_at_call 17; refine (are1 _ a b c _ (Blk.new' _ _ (by simp))).mono ?_; rintro e w1 ⟨rfl, hb1⟩; have hq := (((Blk.new w (cl3 a b c) 22).alloc _).old hb1).c3; obtain ⟨q0, q1, q2⟩ := hq)
    go_ret2
    exact ⟨ret_two (by unfold lsV; split <;> first | rfl | omega) (by unfold lsE; split <;> first | rfl | omega), bthen (((Below.refl _ _).alloc (Nat.le_refl _) _).alloc (by simp) _) hb1⟩
set_option maxHeartbeats 1000000 in
theorem rloose_no (a b c : Int) (w : World) (h : tB a b c = false) :
    Calls Try.prog 13 #[.agg #[.int .i64 a, .int .i64 b, .int .i64 c]] w fun e w' => e = .returned (.tuple #[.int .i64 0, .int .i64 1]) ∧ Below w.heap.size w w' := by
  go_enter Try.func13, Try.ntmps13
  go_wp2_with (first | (go_at_call 21; refine (rtriple_any a b c _).mono ?_; rintro e w1 ⟨rfl, hb1⟩))
  go_ret2
  exact ⟨rfl, bthen ((Below.refl _ _).alloc (Nat.le_refl _) _) hb1⟩
set_option maxHeartbeats 1000000 in
theorem rloose_ok (a b c : Int) (w : World) (h : tB a b c = true) :
    Calls Try.prog 13 #[.agg #[.int .i64 a, .int .i64 b, .int .i64 c]] w fun e w' => e = .returned (.tuple #[.int .i64 (lsV a b c), .int .i64 (lsE a b c)]) ∧ Below w.heap.size w w' := by
  obtain ⟨a0, a1, b0, b1, c0, c1⟩ := tB_iff.1 h
  by_cases hs : 1000000000 < a + b + c
  all_goals
    go_enter Try.func13, Try.ntmps13
    go_wp2_with (go_at_call 21; refine (rtriple_any a b c _).mono ?_; rintro e w1 ⟨rfl, hb1⟩; have hq := ((Blk.new w (cl3 a b c) 22).old hb1).c3; obtain ⟨q0, q1, q2⟩ := hq)
    go_ret2
    exact ⟨ret_two (by unfold lsV; split <;> first | rfl | omega) (by unfold lsE; split <;> first | rfl | omega), bthen ((Below.refl _ _).alloc (Nat.le_refl _) _) hb1⟩

/-- whether blocks fit into pages -/
def ftB (a b c n : Int) : Bool := tB a b c && decide (0 ≤ n) && decide (n ≤ 24)
theorem ret_bi {a c : Bool} {b d : Int} (h : a = c) (h' : b = d) : Ending.returned (.tuple #[.bool a, .int .i64 b]) = .returned (.tuple #[.bool c, .int .i64 d]) := by rw [h, h']
set_option maxHeartbeats 1000000 in
theorem fits_no (a b c n : Int) (w : World) (h : ftB a b c n = false) :
    Calls Try.prog 14 #[.agg #[.int .i64 a, .int .i64 b, .int .i64 c], .int .i64 n] w fun e w' => e = .returned (.tuple #[.bool false, .int .i64 1]) ∧ Below w.heap.size w w' := by
  cases ht : tB a b c
  · go_enter Try.func14, Try.ntmps14
    go_wp2_with (go_at_call 10; refine (pages_no a b c _ ht).mono ?_; rintro e w1 ⟨rfl, hb1⟩)
    go_ret2
    exact ⟨rfl, bthen ((Below.refl _ _).alloc (Nat.le_refl _) _) hb1⟩
  · rcases (show n < 0 ∨ (0 ≤ n ∧ 24 < n) by unfold ftB at h; simp [ht] at h; omega) with h1 | ⟨h1, h1'⟩
    all_goals
      clear h
      go_enter Try.func14, Try.ntmps14
      go_wp2_with (go_at_call 10; refine (pages_ok a b c _ ht).mono ?_; rintro e w1 ⟨rfl, hb1⟩)
      go_ret2
      exact ⟨rfl, bthen ((Below.refl _ _).alloc (Nat.le_refl _) _) hb1⟩
set_option maxHeartbeats 1000000 in
theorem fits_ok (a b c n : Int) (w : World) (h : ftB a b c n = true) :
    Calls Try.prog 14 #[.agg #[.int .i64 a, .int .i64 b, .int .i64 c], .int .i64 n] w fun e w' => e = .returned (.tuple #[.bool (decide (pgV a b c ≤ n)), .int .i64 0]) ∧ Below w.heap.size w w' := by
  obtain ⟨⟨ht, h1⟩, h2⟩ : (tB a b c = true ∧ 0 ≤ n) ∧ n ≤ 24 := by simpa [ftB] using h
  clear h
  go_enter Try.func14, Try.ntmps14
  go_wp2_with (go_at_call 10; refine (pages_ok a b c _ ht).mono ?_; rintro e w1 ⟨rfl, hb1⟩)
  go_ret2
  exact ⟨rfl, bthen ((Below.refl _ _).alloc (Nat.le_refl _) _) hb1⟩
set_option maxHeartbeats 1000000 in
theorem rfits_no (a b c n : Int) (w : World) (h : ftB a b c n = false) :
    Calls Try.prog 15 #[.agg #[.int .i64 a, .int .i64 b, .int .i64 c], .int .i64 n] w fun e w' => e = .returned (.tuple #[.bool false, .int .i64 1]) ∧ Below w.heap.size w w' := by
  cases ht : tB a b c
  · go_enter Try.func15, Try.ntmps15
    go_wp2_with (go_at_call 21; refine (rtriple_any a b c _).mono ?_; rintro e w1 ⟨rfl, hb1⟩)
    go_ret2
    exact ⟨rfl, bthen ((Below.refl _ _).alloc (Nat.le_refl _) _) hb1⟩
  · rcases (show n < 0 ∨ (0 ≤ n ∧ 24 < n) by unfold ftB at h; simp [ht] at h; omega) with h1 | ⟨h1, h1'⟩
    all_goals
      clear h
      go_enter Try.func15, Try.ntmps15
      go_wp2_with (go_at_call 21; refine (rtriple_any a b c _).mono ?_; rintro e w1 ⟨rfl, hb1⟩)
      go_ret2
      exact ⟨rfl, bthen ((Below.refl _ _).alloc (Nat.le_refl _) _) hb1⟩
set_option maxHeartbeats 1000000 in
theorem rfits_ok (a b c n : Int) (w : World) (h : ftB a b c n = true) :
    Calls Try.prog 15 #[.agg #[.int .i64 a, .int .i64 b, .int .i64 c], .int .i64 n] w fun e w' => e = .returned (.tuple #[.bool (decide (pgV a b c ≤ n)), .int .i64 0]) ∧ Below w.heap.size w w' := by
  obtain ⟨⟨ht, h1⟩, h2⟩ : (tB a b c = true ∧ 0 ≤ n) ∧ n ≤ 24 := by simpa [ftB] using h
  clear h
  go_enter Try.func15, Try.ntmps15
  go_wp2_with (first | (go_at_call 21; refine (rtriple_any a b c _).mono ?_; rintro e w1 ⟨rfl, hb1⟩; have hq := ((Blk.new w (cl3 a b c) 22).old hb1).c3; obtain ⟨q0, q1, q2⟩ := hq) | (go_at_call 27; refine (rpages_any a b c _ ht).mono ?_; rintro e w2 ⟨rfl, hb2⟩))
  go_ret2
  exact ⟨rfl, bthen (bthen ((Below.refl _ _).alloc (Nat.le_refl _) _) hb1) hb2⟩

/-- the product, cut ahead of an overflow -/
def mulV (n x : Int) : Int := if 0 < x ∧ 1000000001 / x < n then 1000000001 else x * n
theorem cut_mul {n x : Int} (h : 0 ≤ x) : cutV (mulV n x) = cutV (x * n) := by
  unfold mulV
  split
  · rename_i h1
    obtain ⟨h1, h2⟩ := h1
    have h3 := Int.lt_ediv_add_one_mul_self 1000000001 h1
    have h4 : (1000000001 / x + 1) * x ≤ n * x := Int.mul_le_mul_of_nonneg_right (by omega) h
    have h5 : 1000000001 < x * n := by rw [Int.mul_comm]; omega
    unfold cutV
    rw [if_pos (by omega), if_neg (by omega)]
  · rfl
theorem mul_in {n x : Int} (h : 0 ≤ x) (h' : x ≤ 1000000000) (hn : 0 ≤ n) (hn' : n ≤ 1000000000) : 0 ≤ x * n ∧ x * n ≤ 1000000000000000000 := by
  have h1 := Int.mul_nonneg h hn
  have h2 : x * n ≤ 1000000000 * 1000000000 := Int.mul_le_mul h' hn' hn (by decide)
  omega

set_option maxHeartbeats 1000000 in
theorem mul1_any (x y n : Int) (g : Nat) (w : World) (hx : 0 ≤ x) (hx' : x ≤ 1000000000) (hn : 0 ≤ n) (hn' : n ≤ 1000000000) (hc : w.cell? ⟨g, 0, none⟩ = some (.int .i64 n)) :
    Calls Try.prog 32 #[.int .i64 x, .int .i64 y, .pointer (some ⟨g, 0, none⟩)] w fun e w' => e = .returned (.int .i64 (mulV n x)) ∧ ∃ k, w' = w.drewN k := by
  have hm := mul_in hx hx' hn hn'
  have hw : IntKind.i64.wrap (x * n) = x * n := IntWalk.i64_in _ (by omega)
  clear hm
  by_cases h0 : 0 < x
  · have hd := IntWalk.tdiv_le 1000000001 x (by decide) (by omega)
    obtain ⟨d1, d2⟩ := hd
    by_cases h1 : 1000000001 / x < n
    · have HV : Hid (mulV n x = 1000000001) := by show _ = _; unfold mulV; rw [if_pos ⟨h0, h1⟩]
      go_enter Try.func32, Try.ntmps32
      go_wp2
      go_quiet (fail)
      go_wp2
      go_ret
      exact ⟨ret_i64 HV.out.symm, _, rfl⟩
    · have HV : Hid (mulV n x = x * n) := by show _ = _; unfold mulV; rw [if_neg (by omega)]
      go_enter Try.func32, Try.ntmps32
      go_wp2
      go_quiet (fail)
      go_wp2
      go_ret
      exact ⟨ret_i64 HV.out.symm, _, rfl⟩
  · have HV : Hid (mulV n x = x * n) := by show _ = _; unfold mulV; rw [if_neg (by omega)]
    have hd : decide (0 < x) = false := by simpa using h0
    go_enter Try.func32, Try.ntmps32
    go_wp2
    go_quiet (fail)
    go_wp2
    go_ret
    exact ⟨ret_i64 HV.out.symm, _, rfl⟩

end Go.Proofs.Ytenaklaajdpimaa
