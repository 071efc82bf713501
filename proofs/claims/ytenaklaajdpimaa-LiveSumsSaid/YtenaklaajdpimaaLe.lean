/- Add, Most and Times of layer 17 and of its reference, each by a contract. -/
import Derived.Test.YtenaklaajdpimaaLd
namespace Go.Proofs.Ytenaklaajdpimaa
open Go.RowKit

theorem cf_plus (A : Array Value) (W : World) : (callFunc 20 A).run Try.prog W = .ok (.enter 20 A) W := by kernel_rfl
theorem cf_higher (A : Array Value) (W : World) : (callFunc 24 A).run Try.prog W = .ok (.enter 24 A) W := by kernel_rfl
theorem cf_mul1 (A : Array Value) (W : World) : (callFunc 32 A).run Try.prog W = .ok (.enter 32 A) W := by kernel_rfl
set_option maxHeartbeats 400000 in
theorem plus_fn (w : World) (x y : Int) (hx : 0 ≤ x) (hx' : x ≤ 1000000001) (hy : 0 ≤ y) (hy' : y ≤ 1000000001) : FnOf 20 #[] w (· + ·) x y := by
  intro W _
  show Calls Try.prog 20 #[.int .i64 x, .int .i64 y] W _
  go_enter Try.func20, Try.ntmps20
  go_wp2
  go_ret
  exact ⟨rfl, 0, rfl⟩
set_option maxHeartbeats 400000 in
theorem higher_fn (w : World) (x y : Int) : FnOf 24 #[] w maxV x y := by
  intro W _
  show Calls Try.prog 24 #[.int .i64 x, .int .i64 y] W _
  go_enter Try.func24, Try.ntmps24
  go_wp2
  all_goals
    go_ret
    exact ⟨ret_i64 (by unfold maxV; split <;> omega), 0, rfl⟩

def add3 (a0 a1 a2 b0 b1 b2 : Int) : (Int × Int × Int) × Int :=
  if (tB a0 a1 a2 && tB b0 b1 b2) = false then ((0, 0, 0), 1)
  else if bigB (cutV (a0 + b0)) (cutV (a1 + b1)) (cutV (a2 + b2)) then ((0, 0, 0), 6)
  else ((cutV (a0 + b0), cutV (a1 + b1), cutV (a2 + b2)), 0)
def most3 (a0 a1 a2 b0 b1 b2 : Int) : (Int × Int × Int) × Int :=
  if (tB a0 a1 a2 && tB b0 b1 b2) = false then ((0, 0, 0), 1)
  else ((maxV a0 b0, maxV a1 b1, maxV a2 b2), 0)
def nB (n : Int) : Bool := decide (0 ≤ n) && decide (n ≤ 1000000000)
def times3 (a0 a1 a2 n : Int) : (Int × Int × Int) × Int :=
  if (tB a0 a1 a2 && nB n) = false then ((0, 0, 0), 1)
  else if bigB (cutV (a0 * n)) (cutV (a1 * n)) (cutV (a2 * n)) then ((0, 0, 0), 6)
  else ((a0 * n, a1 * n, a2 * n), 0)
/-- a result of four numbers, returned -/
def RetP (r : (Int × Int × Int) × Int) (w : World) : Ending → World → Prop := Ret4 r.1.1 r.1.2.1 r.1.2.2 r.2 w
theorem Ret4.to {x y z e : Int} {r : (Int × Int × Int) × Int} {w : World} {en : Ending} {w' : World} (h : Ret4 x y z e w en w') (hr : r = ((x, y, z), e)) : RetP r w en w' := by subst hr; exact h
theorem cut_max {a b : Int} (ha : a ≤ 1000000000) (hb : b ≤ 1000000000) : cutV (maxV a b) = maxV a b := by unfold cutV; rw [if_pos]; unfold maxV; split <;> omega

set_option maxHeartbeats 2000000 in
theorem add_any (a0 a1 a2 b0 b1 b2 : Int) (w : World) :
    Calls Try.prog 4 #[.agg #[.int .i64 a0, .int .i64 a1, .int .i64 a2], .agg #[.int .i64 b0, .int .i64 b1, .int .i64 b2]] w (RetP (add3 a0 a1 a2 b0 b1 b2) w) := by
  have HA := Lib.hid (show Blk ((((w.alloc (.cells (cl3 a0 a1 a2) 22)).alloc (.cells (cl3 b0 b1 b2) 22)).alloc (.cells (cl3 0 0 0) 22)).alloc (.cells #[.int .i64 a0, .int .i64 a1, .int .i64 a2, .int .i64 b0, .int .i64 b1, .int .i64 b2] 22)) w.heap.size (cl3 a0 a1 a2) 22 from ((Blk.new' _ _ rfl).alloc _).alloc _ |>.alloc _)
  have HBk := Lib.hid (show Blk ((((w.alloc (.cells (cl3 a0 a1 a2) 22)).alloc (.cells (cl3 b0 b1 b2) 22)).alloc (.cells (cl3 0 0 0) 22)).alloc (.cells #[.int .i64 a0, .int .i64 a1, .int .i64 a2, .int .i64 b0, .int .i64 b1, .int .i64 b2] 22)) (w.heap.size + 1) (cl3 b0 b1 b2) 22 from (Blk.new' _ _ (by simp)).alloc _ |>.alloc _)
  have HC := Lib.hid (show Blk ((((w.alloc (.cells (cl3 a0 a1 a2) 22)).alloc (.cells (cl3 b0 b1 b2) 22)).alloc (.cells (cl3 0 0 0) 22)).alloc (.cells #[.int .i64 a0, .int .i64 a1, .int .i64 a2, .int .i64 b0, .int .i64 b1, .int .i64 b2] 22)) (w.heap.size + 1 + 1) (cl3 0 0 0) 22 from (Blk.new' _ _ (by simp)).alloc _)
  have HL := Lib.hid (show Below w.heap.size w ((((w.alloc (.cells (cl3 a0 a1 a2) 22)).alloc (.cells (cl3 b0 b1 b2) 22)).alloc (.cells (cl3 0 0 0) 22)).alloc (.cells #[.int .i64 a0, .int .i64 a1, .int .i64 a2, .int .i64 b0, .int .i64 b1, .int .i64 b2] 22)) from ((((Below.refl _ _).alloc (Nat.le_refl _) _).alloc (by simp) _).alloc (by simp; omega) _).alloc (by simp; omega) _)
  by_cases hv : (tB a0 a1 a2 && tB b0 b1 b2) = false
  · refine Calls.mono (R := Ret4 0 0 0 1 w) ?_ (fun e w' h => h.to (by unfold add3; rw [if_pos hv]))
    go_enter Try.func4, Try.ntmps4
    go_wp2_with fail
    refine (are2 (w.heap.size + 1 + 1 + 1) a0 a1 a2 b0 b1 b2 _ 22 (Blk.new' _ _ (by simp))).mono ?_
    rintro e w1 ⟨rfl, hb1⟩
    have hqa := (HA.out.old hb1).c3
    obtain ⟨qa0, qa1, qa2⟩ := hqa
    have hqb := (HBk.out.old hb1).c3
    obtain ⟨qb0, qb1, qb2⟩ := hqb
    have hqc := (HC.out.old hb1).c3
    obtain ⟨qc0, qc1, qc2⟩ := hqc
    have hqf := (HC.out.old hb1).f3
    obtain ⟨qf0, qf1, qf2⟩ := hqf
    clear qa0 qa1 qa2 qb0 qb1 qb2
    go_wp2_with fail
    have hz := set3_all (x := 0) (y := 0) (z := 0) (HC.out.old hb1)
    exact ret4_end (F := w.heap.size + 1 + 1) Try.results4 rfl rfl rfl hz.c3.1 hz.c3.2.1 hz.c3.2.2 (bset3 (bthen HL.out hb1) _ _ _ (by omega))
  have hv' : (tB a0 a1 a2 && tB b0 b1 b2) = true := by simpa using hv
  obtain ⟨ht1, ht2⟩ : tB a0 a1 a2 = true ∧ tB b0 b1 b2 = true := by simpa using hv'
  obtain ⟨a00, a01, a10, a11, a20, a21⟩ := tB_iff.1 ht1
  obtain ⟨b00, b01, b10, b11, b20, b21⟩ := tB_iff.1 ht2
  cases hbig : bigB (cutV (a0 + b0)) (cutV (a1 + b1)) (cutV (a2 + b2))
  · refine Calls.mono (R := Ret4 (cutV (a0 + b0)) (cutV (a1 + b1)) (cutV (a2 + b2)) 0 w) ?_ (fun e w' h => h.to (by unfold add3; rw [if_neg (by rw [hv']; decide), hbig]; rfl))
    go_enter Try.func4, Try.ntmps4
    go_wp2_with fail
    refine (are2 (w.heap.size + 1 + 1 + 1) a0 a1 a2 b0 b1 b2 _ 22 (Blk.new' _ _ (by simp))).mono ?_
    rintro e w1 ⟨rfl, hb1⟩
    have hqa := (HA.out.old hb1).c3
    obtain ⟨qa0, qa1, qa2⟩ := hqa
    have hqb := (HBk.out.old hb1).c3
    obtain ⟨qb0, qb1, qb2⟩ := hqb
    have hqc := (HC.out.old hb1).c3
    obtain ⟨qc0, qc1, qc2⟩ := hqc
    have hqf := (HC.out.old hb1).f3
    obtain ⟨qf0, qf1, qf2⟩ := hqf
    go_wp2_with fail
    clear qa0 qa1 qa2 qb0 qb1 qb2 qc0 qc1 qc2 qf0 qf1 qf2
    refine (zip_any 20 #[] (· + ·) a0 a1 a2 b0 b1 b2 _ cf_plus (plus_fn _ _ _ (by omega) (by omega) (by omega) (by omega)) (plus_fn _ _ _ (by omega) (by omega) (by omega) (by omega)) (plus_fn _ _ _ (by omega) (by omega) (by omega) (by omega))).mono ?_
    rintro e w2 ⟨rfl, hb2⟩
    go_wp2_with fail
    refine (told_small _ _ _ _ hbig).mono ?_
    rintro e w3 ⟨rfl, hb3⟩
    have hC3 := (((HC.out.old hb1).old hb2).old hb3)
    obtain ⟨qc0, qc1, qc2⟩ := hC3.c3
    obtain ⟨qf0, qf1, qf2⟩ := hC3.f3
    go_wp2_with fail
    have hz := set3_all (x := cutV (a0 + b0)) (y := cutV (a1 + b1)) (z := cutV (a2 + b2)) hC3
    exact ret4_end (F := w.heap.size + 1 + 1) Try.results4 rfl rfl rfl hz.c3.1 hz.c3.2.1 hz.c3.2.2 (bset3 (bthen (bthen (bthen HL.out hb1) hb2) hb3) _ _ _ (by omega))
  · refine Calls.mono (R := Ret4 (0) (0) (0) 6 w) ?_ (fun e w' h => h.to (by unfold add3; rw [if_neg (by rw [hv']; decide), hbig]; rfl))
    go_enter Try.func4, Try.ntmps4
    go_wp2_with fail
    refine (are2 (w.heap.size + 1 + 1 + 1) a0 a1 a2 b0 b1 b2 _ 22 (Blk.new' _ _ (by simp))).mono ?_
    rintro e w1 ⟨rfl, hb1⟩
    have hqa := (HA.out.old hb1).c3
    obtain ⟨qa0, qa1, qa2⟩ := hqa
    have hqb := (HBk.out.old hb1).c3
    obtain ⟨qb0, qb1, qb2⟩ := hqb
    have hqc := (HC.out.old hb1).c3
    obtain ⟨qc0, qc1, qc2⟩ := hqc
    have hqf := (HC.out.old hb1).f3
    obtain ⟨qf0, qf1, qf2⟩ := hqf
    go_wp2_with fail
    clear qa0 qa1 qa2 qb0 qb1 qb2 qc0 qc1 qc2 qf0 qf1 qf2
    refine (zip_any 20 #[] (· + ·) a0 a1 a2 b0 b1 b2 _ cf_plus (plus_fn _ _ _ (by omega) (by omega) (by omega) (by omega)) (plus_fn _ _ _ (by omega) (by omega) (by omega) (by omega)) (plus_fn _ _ _ (by omega) (by omega) (by omega) (by omega))).mono ?_
    rintro e w2 ⟨rfl, hb2⟩
    go_wp2_with fail
    refine (told_big _ _ _ _ hbig).mono ?_
    rintro e w3 ⟨rfl, hb3⟩
    have hC3 := (((HC.out.old hb1).old hb2).old hb3)
    obtain ⟨qc0, qc1, qc2⟩ := hC3.c3
    obtain ⟨qf0, qf1, qf2⟩ := hC3.f3
    go_wp2_with fail
    have hz := set3_all (x := 0) (y := 0) (z := 0) hC3
    exact ret4_end (F := w.heap.size + 1 + 1) Try.results4 rfl rfl rfl hz.c3.1 hz.c3.2.1 hz.c3.2.2 (bset3 (bthen (bthen (bthen HL.out hb1) hb2) hb3) _ _ _ (by omega))

set_option maxHeartbeats 2000000 in
theorem radd_any (a0 a1 a2 b0 b1 b2 : Int) (w : World) :
    Calls Try.prog 5 #[.agg #[.int .i64 a0, .int .i64 a1, .int .i64 a2], .agg #[.int .i64 b0, .int .i64 b1, .int .i64 b2]] w (RetP (add3 a0 a1 a2 b0 b1 b2) w) := by
  have HA := Lib.hid (show Blk (((w.alloc (.cells (cl3 a0 a1 a2) 22)).alloc (.cells (cl3 b0 b1 b2) 22)).alloc (.cells (cl3 0 0 0) 22)) w.heap.size (cl3 a0 a1 a2) 22 from ((Blk.new' _ _ rfl).alloc _).alloc _)
  have HBk := Lib.hid (show Blk (((w.alloc (.cells (cl3 a0 a1 a2) 22)).alloc (.cells (cl3 b0 b1 b2) 22)).alloc (.cells (cl3 0 0 0) 22)) (w.heap.size + 1) (cl3 b0 b1 b2) 22 from (Blk.new' _ _ (by simp)).alloc _)
  have HC := Lib.hid (show Blk (((w.alloc (.cells (cl3 a0 a1 a2) 22)).alloc (.cells (cl3 b0 b1 b2) 22)).alloc (.cells (cl3 0 0 0) 22)) (w.heap.size + 1 + 1) (cl3 0 0 0) 22 from Blk.new' _ _ (by simp))
  have HL := Lib.hid (show Below w.heap.size w (((w.alloc (.cells (cl3 a0 a1 a2) 22)).alloc (.cells (cl3 b0 b1 b2) 22)).alloc (.cells (cl3 0 0 0) 22)) from (((Below.refl _ _).alloc (Nat.le_refl _) _).alloc (by simp) _).alloc (by simp; omega) _)
  by_cases hv : (tB a0 a1 a2 && tB b0 b1 b2) = false
  · refine Calls.mono (R := Ret4 0 0 0 1 w) ?_ (fun e w' h => h.to (by unfold add3; rw [if_pos hv]))
    cases ht : tB a0 a1 a2
    · go_enter Try.func5, Try.ntmps5
      go_wp2_with fail
      refine (rtriple_any a0 a1 a2 _).mono ?_
      rintro e w1 ⟨rfl, hb1⟩
      have hqc := (HC.out.old hb1).c3
      obtain ⟨qc0, qc1, qc2⟩ := hqc
      have hqf := (HC.out.old hb1).f3
      obtain ⟨qf0, qf1, qf2⟩ := hqf
      go_wp2_with fail
      have hz := set3_all (x := 0) (y := 0) (z := 0) (HC.out.old hb1)
      exact ret4_end (F := w.heap.size + 1 + 1) Try.results5 rfl rfl rfl hz.c3.1 hz.c3.2.1 hz.c3.2.2 (bset3 (bthen HL.out hb1) _ _ _ (by omega))
    · have ht2 : tB b0 b1 b2 = false := by simpa [ht] using hv
      clear hv
      go_enter Try.func5, Try.ntmps5
      go_wp2_with fail
      refine (rtriple_any a0 a1 a2 _).mono ?_
      rintro e w1 ⟨rfl, hb1⟩
      have hqb := (HBk.out.old hb1).c3
      obtain ⟨qb0, qb1, qb2⟩ := hqb
      go_wp2_with fail
      refine (rtriple_any b0 b1 b2 _).mono ?_
      rintro e w2 ⟨rfl, hb2⟩
      have hqc := ((HC.out.old hb1).old hb2).c3
      obtain ⟨qc0, qc1, qc2⟩ := hqc
      have hqf := ((HC.out.old hb1).old hb2).f3
      obtain ⟨qf0, qf1, qf2⟩ := hqf
      go_wp2_with fail
      have hz := set3_all (x := 0) (y := 0) (z := 0) ((HC.out.old hb1).old hb2)
      exact ret4_end (F := w.heap.size + 1 + 1) Try.results5 rfl rfl rfl hz.c3.1 hz.c3.2.1 hz.c3.2.2 (bset3 (bthen (bthen HL.out hb1) hb2) _ _ _ (by omega))
  have hv' : (tB a0 a1 a2 && tB b0 b1 b2) = true := by simpa using hv
  obtain ⟨ht1, ht2⟩ : tB a0 a1 a2 = true ∧ tB b0 b1 b2 = true := by simpa using hv'
  obtain ⟨a00, a01, a10, a11, a20, a21⟩ := tB_iff.1 ht1
  obtain ⟨b00, b01, b10, b11, b20, b21⟩ := tB_iff.1 ht2
  cases hbig : bigB (cutV (a0 + b0)) (cutV (a1 + b1)) (cutV (a2 + b2))
  · refine Calls.mono (R := Ret4 (cutV (a0 + b0)) (cutV (a1 + b1)) (cutV (a2 + b2)) 0 w) ?_ (fun e w' h => h.to (by unfold add3; rw [if_neg (by rw [hv']; decide), hbig]; rfl))
    go_enter Try.func5, Try.ntmps5
    go_wp2_with fail
    refine (rtriple_any a0 a1 a2 _).mono ?_
    rintro e w1 ⟨rfl, hb1⟩
    have hqb := (HBk.out.old hb1).c3
    obtain ⟨qb0, qb1, qb2⟩ := hqb
    go_wp2_with fail
    refine (rtriple_any b0 b1 b2 _).mono ?_
    rintro e w2 ⟨rfl, hb2⟩
    clear qb0 qb1 qb2
    have hqa := ((HA.out.old hb1).old hb2).c3
    obtain ⟨qa0, qa1, qa2⟩ := hqa
    have hqb := ((HBk.out.old hb1).old hb2).c3
    obtain ⟨qb0, qb1, qb2⟩ := hqb
    go_wp2_with fail
    clear qa0 qa1 qa2 qb0 qb1 qb2
    refine (rplus_any a0 a1 a2 b0 b1 b2 _ (by omega) (by omega) (by omega) (by omega) (by omega) (by omega) (by omega) (by omega) (by omega) (by omega) (by omega) (by omega)).mono ?_
    rintro e w3 ⟨rfl, hb3⟩
    go_wp2_with fail
    refine (rtold_any _ _ _ _).mono ?_
    rintro e w4 ⟨hR, _⟩
    obtain ⟨rfl, hb4⟩ := hR hbig
    have hC3 := ((((HC.out.old hb1).old hb2).old hb3).old hb4)
    obtain ⟨qc0, qc1, qc2⟩ := hC3.c3
    obtain ⟨qf0, qf1, qf2⟩ := hC3.f3
    go_wp2_with fail
    have hz := set3_all (x := cutV (a0 + b0)) (y := cutV (a1 + b1)) (z := cutV (a2 + b2)) hC3
    exact ret4_end (F := w.heap.size + 1 + 1) Try.results5 rfl rfl rfl hz.c3.1 hz.c3.2.1 hz.c3.2.2 (bset3 (bthen (bthen (bthen (bthen HL.out hb1) hb2) hb3) hb4) _ _ _ (by omega))
  · refine Calls.mono (R := Ret4 (0) (0) (0) 6 w) ?_ (fun e w' h => h.to (by unfold add3; rw [if_neg (by rw [hv']; decide), hbig]; rfl))
    go_enter Try.func5, Try.ntmps5
    go_wp2_with fail
    refine (rtriple_any a0 a1 a2 _).mono ?_
    rintro e w1 ⟨rfl, hb1⟩
    have hqb := (HBk.out.old hb1).c3
    obtain ⟨qb0, qb1, qb2⟩ := hqb
    go_wp2_with fail
    refine (rtriple_any b0 b1 b2 _).mono ?_
    rintro e w2 ⟨rfl, hb2⟩
    clear qb0 qb1 qb2
    have hqa := ((HA.out.old hb1).old hb2).c3
    obtain ⟨qa0, qa1, qa2⟩ := hqa
    have hqb := ((HBk.out.old hb1).old hb2).c3
    obtain ⟨qb0, qb1, qb2⟩ := hqb
    go_wp2_with fail
    clear qa0 qa1 qa2 qb0 qb1 qb2
    refine (rplus_any a0 a1 a2 b0 b1 b2 _ (by omega) (by omega) (by omega) (by omega) (by omega) (by omega) (by omega) (by omega) (by omega) (by omega) (by omega) (by omega)).mono ?_
    rintro e w3 ⟨rfl, hb3⟩
    go_wp2_with fail
    refine (rtold_any _ _ _ _).mono ?_
    rintro e w4 ⟨_, hR⟩
    obtain ⟨rfl, hb4⟩ := hR hbig
    have hC3 := ((((HC.out.old hb1).old hb2).old hb3).old hb4)
    obtain ⟨qc0, qc1, qc2⟩ := hC3.c3
    obtain ⟨qf0, qf1, qf2⟩ := hC3.f3
    go_wp2_with fail
    have hz := set3_all (x := 0) (y := 0) (z := 0) hC3
    exact ret4_end (F := w.heap.size + 1 + 1) Try.results5 rfl rfl rfl hz.c3.1 hz.c3.2.1 hz.c3.2.2 (bset3 (bthen (bthen (bthen (bthen HL.out hb1) hb2) hb3) hb4) _ _ _ (by omega))

set_option maxHeartbeats 2000000 in
theorem most_any (a0 a1 a2 b0 b1 b2 : Int) (w : World) :
    Calls Try.prog 6 #[.agg #[.int .i64 a0, .int .i64 a1, .int .i64 a2], .agg #[.int .i64 b0, .int .i64 b1, .int .i64 b2]] w (RetP (most3 a0 a1 a2 b0 b1 b2) w) := by
  have HA := Lib.hid (show Blk ((((w.alloc (.cells (cl3 a0 a1 a2) 22)).alloc (.cells (cl3 b0 b1 b2) 22)).alloc (.cells (cl3 0 0 0) 22)).alloc (.cells #[.int .i64 a0, .int .i64 a1, .int .i64 a2, .int .i64 b0, .int .i64 b1, .int .i64 b2] 22)) w.heap.size (cl3 a0 a1 a2) 22 from ((Blk.new' _ _ rfl).alloc _).alloc _ |>.alloc _)
  have HBk := Lib.hid (show Blk ((((w.alloc (.cells (cl3 a0 a1 a2) 22)).alloc (.cells (cl3 b0 b1 b2) 22)).alloc (.cells (cl3 0 0 0) 22)).alloc (.cells #[.int .i64 a0, .int .i64 a1, .int .i64 a2, .int .i64 b0, .int .i64 b1, .int .i64 b2] 22)) (w.heap.size + 1) (cl3 b0 b1 b2) 22 from (Blk.new' _ _ (by simp)).alloc _ |>.alloc _)
  have HC := Lib.hid (show Blk ((((w.alloc (.cells (cl3 a0 a1 a2) 22)).alloc (.cells (cl3 b0 b1 b2) 22)).alloc (.cells (cl3 0 0 0) 22)).alloc (.cells #[.int .i64 a0, .int .i64 a1, .int .i64 a2, .int .i64 b0, .int .i64 b1, .int .i64 b2] 22)) (w.heap.size + 1 + 1) (cl3 0 0 0) 22 from (Blk.new' _ _ (by simp)).alloc _)
  have HL := Lib.hid (show Below w.heap.size w ((((w.alloc (.cells (cl3 a0 a1 a2) 22)).alloc (.cells (cl3 b0 b1 b2) 22)).alloc (.cells (cl3 0 0 0) 22)).alloc (.cells #[.int .i64 a0, .int .i64 a1, .int .i64 a2, .int .i64 b0, .int .i64 b1, .int .i64 b2] 22)) from ((((Below.refl _ _).alloc (Nat.le_refl _) _).alloc (by simp) _).alloc (by simp; omega) _).alloc (by simp; omega) _)
  by_cases hv : (tB a0 a1 a2 && tB b0 b1 b2) = false
  · refine Calls.mono (R := Ret4 0 0 0 1 w) ?_ (fun e w' h => h.to (by unfold most3; rw [if_pos hv]))
    go_enter Try.func6, Try.ntmps6
    go_wp2_with fail
    refine (are2 (w.heap.size + 1 + 1 + 1) a0 a1 a2 b0 b1 b2 _ 22 (Blk.new' _ _ (by simp))).mono ?_
    rintro e w1 ⟨rfl, hb1⟩
    have hqa := (HA.out.old hb1).c3
    obtain ⟨qa0, qa1, qa2⟩ := hqa
    have hqb := (HBk.out.old hb1).c3
    obtain ⟨qb0, qb1, qb2⟩ := hqb
    have hqc := (HC.out.old hb1).c3
    obtain ⟨qc0, qc1, qc2⟩ := hqc
    have hqf := (HC.out.old hb1).f3
    obtain ⟨qf0, qf1, qf2⟩ := hqf
    clear qa0 qa1 qa2 qb0 qb1 qb2
    go_wp2_with fail
    have hz := set3_all (x := 0) (y := 0) (z := 0) (HC.out.old hb1)
    exact ret4_end (F := w.heap.size + 1 + 1) Try.results6 rfl rfl rfl hz.c3.1 hz.c3.2.1 hz.c3.2.2 (bset3 (bthen HL.out hb1) _ _ _ (by omega))
  have hv' : (tB a0 a1 a2 && tB b0 b1 b2) = true := by simpa using hv
  obtain ⟨ht1, ht2⟩ : tB a0 a1 a2 = true ∧ tB b0 b1 b2 = true := by simpa using hv'
  obtain ⟨a00, a01, a10, a11, a20, a21⟩ := tB_iff.1 ht1
  obtain ⟨b00, b01, b10, b11, b20, b21⟩ := tB_iff.1 ht2
  refine Calls.mono (R := Ret4 (maxV a0 b0) (maxV a1 b1) (maxV a2 b2) 0 w) ?_ (fun e w' h => h.to (by unfold most3; rw [if_neg (by rw [hv']; decide)]))
  go_enter Try.func6, Try.ntmps6
  go_wp2_with fail
  refine (are2 (w.heap.size + 1 + 1 + 1) a0 a1 a2 b0 b1 b2 _ 22 (Blk.new' _ _ (by simp))).mono ?_
  rintro e w1 ⟨rfl, hb1⟩
  have hqa := (HA.out.old hb1).c3
  obtain ⟨qa0, qa1, qa2⟩ := hqa
  have hqb := (HBk.out.old hb1).c3
  obtain ⟨qb0, qb1, qb2⟩ := hqb
  have hqc := (HC.out.old hb1).c3
  obtain ⟨qc0, qc1, qc2⟩ := hqc
  have hqf := (HC.out.old hb1).f3
  obtain ⟨qf0, qf1, qf2⟩ := hqf
  go_wp2_with fail
  clear qa0 qa1 qa2 qb0 qb1 qb2 qc0 qc1 qc2 qf0 qf1 qf2
  refine (zip_any 24 #[] maxV a0 a1 a2 b0 b1 b2 _ cf_higher (higher_fn _ _ _) (higher_fn _ _ _) (higher_fn _ _ _)).mono ?_
  rintro e w2 ⟨rfl, hb2⟩
  rw [cut_max a01 b01, cut_max a11 b11, cut_max a21 b21]
  have hC3 := ((HC.out.old hb1).old hb2)
  obtain ⟨qc0, qc1, qc2⟩ := hC3.c3
  obtain ⟨qf0, qf1, qf2⟩ := hC3.f3
  go_wp2_with fail
  have hz := set3_all (x := maxV a0 b0) (y := maxV a1 b1) (z := maxV a2 b2) hC3
  exact ret4_end (F := w.heap.size + 1 + 1) Try.results6 rfl rfl rfl hz.c3.1 hz.c3.2.1 hz.c3.2.2 (bset3 (bthen (bthen HL.out hb1) hb2) _ _ _ (by omega))

set_option maxHeartbeats 2000000 in
theorem rMost_any (a0 a1 a2 b0 b1 b2 : Int) (w : World) :
    Calls Try.prog 7 #[.agg #[.int .i64 a0, .int .i64 a1, .int .i64 a2], .agg #[.int .i64 b0, .int .i64 b1, .int .i64 b2]] w (RetP (most3 a0 a1 a2 b0 b1 b2) w) := by
  have HA := Lib.hid (show Blk (((w.alloc (.cells (cl3 a0 a1 a2) 22)).alloc (.cells (cl3 b0 b1 b2) 22)).alloc (.cells (cl3 0 0 0) 22)) w.heap.size (cl3 a0 a1 a2) 22 from ((Blk.new' _ _ rfl).alloc _).alloc _)
  have HBk := Lib.hid (show Blk (((w.alloc (.cells (cl3 a0 a1 a2) 22)).alloc (.cells (cl3 b0 b1 b2) 22)).alloc (.cells (cl3 0 0 0) 22)) (w.heap.size + 1) (cl3 b0 b1 b2) 22 from (Blk.new' _ _ (by simp)).alloc _)
  have HC := Lib.hid (show Blk (((w.alloc (.cells (cl3 a0 a1 a2) 22)).alloc (.cells (cl3 b0 b1 b2) 22)).alloc (.cells (cl3 0 0 0) 22)) (w.heap.size + 1 + 1) (cl3 0 0 0) 22 from Blk.new' _ _ (by simp))
  have HL := Lib.hid (show Below w.heap.size w (((w.alloc (.cells (cl3 a0 a1 a2) 22)).alloc (.cells (cl3 b0 b1 b2) 22)).alloc (.cells (cl3 0 0 0) 22)) from (((Below.refl _ _).alloc (Nat.le_refl _) _).alloc (by simp) _).alloc (by simp; omega) _)
  by_cases hv : (tB a0 a1 a2 && tB b0 b1 b2) = false
  · refine Calls.mono (R := Ret4 0 0 0 1 w) ?_ (fun e w' h => h.to (by unfold most3; rw [if_pos hv]))
    cases ht : tB a0 a1 a2
    · go_enter Try.func7, Try.ntmps7
      go_wp2_with fail
      refine (rtriple_any a0 a1 a2 _).mono ?_
      rintro e w1 ⟨rfl, hb1⟩
      have hqc := (HC.out.old hb1).c3
      obtain ⟨qc0, qc1, qc2⟩ := hqc
      have hqf := (HC.out.old hb1).f3
      obtain ⟨qf0, qf1, qf2⟩ := hqf
      go_wp2_with fail
      have hz := set3_all (x := 0) (y := 0) (z := 0) (HC.out.old hb1)
      exact ret4_end (F := w.heap.size + 1 + 1) Try.results7 rfl rfl rfl hz.c3.1 hz.c3.2.1 hz.c3.2.2 (bset3 (bthen HL.out hb1) _ _ _ (by omega))
    · have ht2 : tB b0 b1 b2 = false := by simpa [ht] using hv
      clear hv
      go_enter Try.func7, Try.ntmps7
      go_wp2_with fail
      refine (rtriple_any a0 a1 a2 _).mono ?_
      rintro e w1 ⟨rfl, hb1⟩
      have hqb := (HBk.out.old hb1).c3
      obtain ⟨qb0, qb1, qb2⟩ := hqb
      go_wp2_with fail
      refine (rtriple_any b0 b1 b2 _).mono ?_
      rintro e w2 ⟨rfl, hb2⟩
      have hqc := ((HC.out.old hb1).old hb2).c3
      obtain ⟨qc0, qc1, qc2⟩ := hqc
      have hqf := ((HC.out.old hb1).old hb2).f3
      obtain ⟨qf0, qf1, qf2⟩ := hqf
      go_wp2_with fail
      have hz := set3_all (x := 0) (y := 0) (z := 0) ((HC.out.old hb1).old hb2)
      exact ret4_end (F := w.heap.size + 1 + 1) Try.results7 rfl rfl rfl hz.c3.1 hz.c3.2.1 hz.c3.2.2 (bset3 (bthen (bthen HL.out hb1) hb2) _ _ _ (by omega))
  have hv' : (tB a0 a1 a2 && tB b0 b1 b2) = true := by simpa using hv
  obtain ⟨ht1, ht2⟩ : tB a0 a1 a2 = true ∧ tB b0 b1 b2 = true := by simpa using hv'
  obtain ⟨a00, a01, a10, a11, a20, a21⟩ := tB_iff.1 ht1
  obtain ⟨b00, b01, b10, b11, b20, b21⟩ := tB_iff.1 ht2
  refine Calls.mono (R := Ret4 (maxV a0 b0) (maxV a1 b1) (maxV a2 b2) 0 w) ?_ (fun e w' h => h.to (by unfold most3; rw [if_neg (by rw [hv']; decide)]))
  go_enter Try.func7, Try.ntmps7
  go_wp2_with fail
  refine (rtriple_any a0 a1 a2 _).mono ?_
  rintro e w1 ⟨rfl, hb1⟩
  have hqb := (HBk.out.old hb1).c3
  obtain ⟨qb0, qb1, qb2⟩ := hqb
  go_wp2_with fail
  refine (rtriple_any b0 b1 b2 _).mono ?_
  rintro e w2 ⟨rfl, hb2⟩
  clear qb0 qb1 qb2
  have hqa := ((HA.out.old hb1).old hb2).c3
  obtain ⟨qa0, qa1, qa2⟩ := hqa
  have hqb := ((HBk.out.old hb1).old hb2).c3
  obtain ⟨qb0, qb1, qb2⟩ := hqb
  go_wp2_with fail
  clear qa0 qa1 qa2 qb0 qb1 qb2
  refine (rmost_any a0 a1 a2 b0 b1 b2 _).mono ?_
  rintro e w3 ⟨rfl, hb3⟩
  have hC3 := (((HC.out.old hb1).old hb2).old hb3)
  obtain ⟨qc0, qc1, qc2⟩ := hC3.c3
  obtain ⟨qf0, qf1, qf2⟩ := hC3.f3
  go_wp2_with fail
  have hz := set3_all (x := maxV a0 b0) (y := maxV a1 b1) (z := maxV a2 b2) hC3
  exact ret4_end (F := w.heap.size + 1 + 1) Try.results7 rfl rfl rfl hz.c3.1 hz.c3.2.1 hz.c3.2.2 (bset3 (bthen (bthen (bthen HL.out hb1) hb2) hb3) _ _ _ (by omega))

end Go.Proofs.Ytenaklaajdpimaa
