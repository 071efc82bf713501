/- Triples: layer 17's functions and those of its reference, each by a contract. -/
import Derived.Test.YtenaklaajdpimaaBk
import Derived.Test.YtenaklaajdpimaaQt
namespace Go.Proofs.Ytenaklaajdpimaa
open Go.RowKit

/-- three numbers, as an array's cells -/
def cl3 (a b c : Int) : Array Value := #[.int .i64 a, .int .i64 b, .int .i64 c]
theorem cl3_0 (a b c : Int) : (cl3 a b c)[0]? = some (.int .i64 a) := rfl
theorem cl3_1 (a b c : Int) : (cl3 a b c)[1]? = some (.int .i64 b) := rfl
theorem cl3_2 (a b c : Int) : (cl3 a b c)[2]? = some (.int .i64 c) := rfl
/-- an array whose first k numbers are those of the first three -/
def stg (x y z a b c : Int) : Nat → Array Value
  | 0 => cl3 a b c
  | 1 => cl3 x b c
  | 2 => cl3 x y c
  | _ => cl3 x y z
/-- at most one more than the greatest cost -/
def cutV (n : Int) : Int := if n ≤ 1000000001 then n else 1000000001
/-- the greater one -/
def maxV (a b : Int) : Int := if a ≤ b then b else a
theorem set3_0 {a b c x : Int} {w : World} {B : Nat} {t : TypeId} (h : Blk w B (cl3 a b c) t) {v : Value} (hv : v = .int .i64 x) : Blk (w.setCell ⟨B, 0, none⟩ v) B (cl3 x b c) t := by subst hv; exact h.set 0 _
theorem set3_1 {a b c x : Int} {w : World} {B : Nat} {t : TypeId} (h : Blk w B (cl3 a b c) t) {v : Value} (hv : v = .int .i64 x) : Blk (w.setCell ⟨B, 1, none⟩ v) B (cl3 a x c) t := by subst hv; exact h.set 1 _
theorem set3_2 {a b c x : Int} {w : World} {B : Nat} {t : TypeId} (h : Blk w B (cl3 a b c) t) {v : Value} (hv : v = .int .i64 x) : Blk (w.setCell ⟨B, 2, none⟩ v) B (cl3 a b x) t := by subst hv; exact h.set 2 _
theorem set3_all {a b c x y z : Int} {w : World} {B : Nat} {t : TypeId} (h : Blk w B (cl3 a b c) t) : Blk (((w.setCell ⟨B, 0, none⟩ (.int .i64 x)).setCell ⟨B, 1, none⟩ (.int .i64 y)).setCell ⟨B, 2, none⟩ (.int .i64 z)) B (cl3 x y z) t :=
  set3_2 (set3_1 (set3_0 h rfl) rfl) rfl
theorem bset {B b : Nat} {w w' : World} (h : Below B w w') (i : Nat) (v : Value) (hb : B ≤ b) : Below B w (w'.setCell ⟨b, i, none⟩ v) := h.setCell hb v
theorem bset3 {B b : Nat} {w w' : World} (h : Below B w w') (x y z : Value) (hb : B ≤ b) : Below B w (((w'.setCell ⟨b, 0, none⟩ x).setCell ⟨b, 1, none⟩ y).setCell ⟨b, 2, none⟩ z) := ((h.setCell hb x).setCell hb y).setCell hb z

set_option maxHeartbeats 2000000 in
theorem rplus_any (a0 a1 a2 b0 b1 b2 : Int) (w : World) (ha0 : 0 ≤ a0) (ha0' : a0 ≤ 1000000001) (ha1 : 0 ≤ a1) (ha1' : a1 ≤ 1000000001) (ha2 : 0 ≤ a2) (ha2' : a2 ≤ 1000000001) (hb0 : 0 ≤ b0) (hb0' : b0 ≤ 1000000001) (hb1 : 0 ≤ b1) (hb1' : b1 ≤ 1000000001) (hb2 : 0 ≤ b2) (hb2' : b2 ≤ 1000000001) :
    Calls Try.prog 23 #[.agg #[.int .i64 a0, .int .i64 a1, .int .i64 a2], .agg #[.int .i64 b0, .int .i64 b1, .int .i64 b2]] w fun e w' => e = .returned (.agg #[.int .i64 (cutV (a0 + b0)), .int .i64 (cutV (a1 + b1)), .int .i64 (cutV (a2 + b2))]) ∧ Below w.heap.size w w' := by
  obtain ⟨B, hB⟩ : ∃ B, B = w.heap.size := ⟨_, rfl⟩
  go_enter Try.func23, Try.ntmps23
  go_wp2
  have H := Lib.hid (show Blk (((w.alloc (.cells (cl3 a0 a1 a2) 22)).alloc (.cells (cl3 b0 b1 b2) 22)).alloc (.cells (cl3 0 0 0) 22)) B (cl3 a0 a1 a2) 22 ∧ Blk (((w.alloc (.cells (cl3 a0 a1 a2) 22)).alloc (.cells (cl3 b0 b1 b2) 22)).alloc (.cells (cl3 0 0 0) 22)) (B+1) (cl3 b0 b1 b2) 22 ∧ Blk (((w.alloc (.cells (cl3 a0 a1 a2) 22)).alloc (.cells (cl3 b0 b1 b2) 22)).alloc (.cells (cl3 0 0 0) 22)) (B+1+1) (cl3 0 0 0) 22 ∧ Below w.heap.size w (((w.alloc (.cells (cl3 a0 a1 a2) 22)).alloc (.cells (cl3 b0 b1 b2) 22)).alloc (.cells (cl3 0 0 0) 22)) from
    ⟨((Blk.new' _ _ hB).alloc _).alloc _, (Blk.new' _ _ (by simp [hB])).alloc _, Blk.new' _ _ (by simp [hB]), (((Below.refl _ _).alloc (Nat.le_refl _) _).alloc (by simp) _).alloc (by simp; omega) _⟩)
  rw [← hB]
  change Code.wp _ _ _ _ (((w.alloc (.cells (cl3 a0 a1 a2) 22)).alloc (.cells (cl3 b0 b1 b2) 22)).alloc (.cells (cl3 0 0 0) 22))
  revert H
  generalize (((w.alloc (.cells (cl3 a0 a1 a2) 22)).alloc (.cells (cl3 b0 b1 b2) 22)).alloc (.cells (cl3 0 0 0) 22)) = w1
  intro H
  have HB := Lib.hid hB
  clear hB
  go_loopw [5] (fun i wr => ∃ k : Nat, k ≤ 3 ∧ i = .int .i64 k ∧ Blk wr B (stg (cutV (a0 + b0)) (cutV (a1 + b1)) (cutV (a2 + b2)) a0 a1 a2 k) 22 ∧ Blk wr (B+1) (cl3 b0 b1 b2) 22 ∧ Blk wr (B+1+1) (cl3 0 0 0) 22 ∧ Below w.heap.size w wr) (fun i _ => 3 - (intOf i).toNat)
  case atStart => exact ⟨0, by omega, rfl, H.out⟩
  case round =>
    obtain ⟨k, hk, rfl, hA, hBb, hC, hbel⟩ := hrel
    have HA := Lib.hid hA
    have HBB := Lib.hid hBb
    have HC := Lib.hid hC
    have HL := Lib.hid hbel
    clear hA hBb hC hbel H
    rcases (show k = 0 ∨ k = 1 ∨ k = 2 ∨ k = 3 by omega) with rfl | rfl | rfl | rfl
    · have hA : Blk wr B (cl3 (a0) (a1) (a2)) 22 := HA.out
      have c1 := hA.cell 0 (cl3_0 _ _ _)
      have f1 := hA.frozen 0
      have c2 := HBB.out.cell 0 (cl3_0 _ _ _)
      have HA' := Lib.hid hA
      clear hA HA
      go_wp2
      refine wp_still_tail 10 (by kernel_rfl) (by kernel_rfl) ?_
      simp only [List.take_succ_cons, List.take_zero, List.drop_succ_cons, List.drop_zero]
      repeat still_step
      refine wpStill_nil ?_
      go_wp2
      all_goals
        go_roundw
        case rel => exact ⟨1, by omega, by go_num, (set3_0 HA'.out (by unfold cutV; congr 1; split <;> split <;> omega)).drew, (HBB.out.other (by simp) _).drew, (HC.out.other (by show B + 1 + 1 ≠ B; omega) _).drew, (bset HL.out _ _ (by have := HB.out; omega)).drew⟩
        case measure => simp [intOf]
    · have hA : Blk wr B (cl3 (cutV (a0 + b0)) (a1) (a2)) 22 := HA.out
      have c1 := hA.cell 1 (cl3_1 _ _ _)
      have f1 := hA.frozen 1
      have c2 := HBB.out.cell 1 (cl3_1 _ _ _)
      have HA' := Lib.hid hA
      clear hA HA
      go_wp2
      refine wp_still_tail 10 (by kernel_rfl) (by kernel_rfl) ?_
      simp only [List.take_succ_cons, List.take_zero, List.drop_succ_cons, List.drop_zero]
      repeat still_step
      refine wpStill_nil ?_
      go_wp2
      all_goals
        go_roundw
        case rel => exact ⟨2, by omega, by go_num, (set3_1 HA'.out (by unfold cutV; congr 1; split <;> split <;> omega)).drew, (HBB.out.other (by simp) _).drew, (HC.out.other (by show B + 1 + 1 ≠ B; omega) _).drew, (bset HL.out _ _ (by have := HB.out; omega)).drew⟩
        case measure => simp [intOf]
    · have hA : Blk wr B (cl3 (cutV (a0 + b0)) (cutV (a1 + b1)) (a2)) 22 := HA.out
      have c1 := hA.cell 2 (cl3_2 _ _ _)
      have f1 := hA.frozen 2
      have c2 := HBB.out.cell 2 (cl3_2 _ _ _)
      have HA' := Lib.hid hA
      clear hA HA
      go_wp2
      refine wp_still_tail 10 (by kernel_rfl) (by kernel_rfl) ?_
      simp only [List.take_succ_cons, List.take_zero, List.drop_succ_cons, List.drop_zero]
      repeat still_step
      refine wpStill_nil ?_
      go_wp2
      all_goals
        go_roundw
        case rel => exact ⟨3, by omega, by go_num, (set3_2 HA'.out (by unfold cutV; congr 1; split <;> split <;> omega)).drew, (HBB.out.other (by simp) _).drew, (HC.out.other (by show B + 1 + 1 ≠ B; omega) _).drew, (bset HL.out _ _ (by have := HB.out; omega)).drew⟩
        case measure => simp [intOf]
    · have hA : Blk wr B (cl3 (cutV (a0 + b0)) (cutV (a1 + b1)) (cutV (a2 + b2))) 22 := HA.out
      have c0 := hA.cell 0 (cl3_0 _ _ _)
      have c1 := hA.cell 1 (cl3_1 _ _ _)
      have c2 := hA.cell 2 (cl3_2 _ _ _)
      have g0 := HC.out.cell 0 (cl3_0 _ _ _)
      have g1 := HC.out.cell 1 (cl3_1 _ _ _)
      have g2 := HC.out.cell 2 (cl3_2 _ _ _)
      have f0 := HC.out.frozen 0
      have f1 := HC.out.frozen 1
      have f2 := HC.out.frozen 2
      clear HA hA
      go_wp2
      have hq := set3_all (x := cutV (a0 + b0)) (y := cutV (a1 + b1)) (z := cutV (a2 + b2)) HC.out
      have q0 := hq.cell 0 (cl3_0 _ _ _)
      have q1 := hq.cell 1 (cl3_1 _ _ _)
      have q2 := hq.cell 2 (cl3_2 _ _ _)
      exact bodyPost_ret (v := .agg #[.int .i64 (cutV (a0 + b0)), .int .i64 (cutV (a1 + b1)), .int .i64 (cutV (a2 + b2))]) (by simp [results, Try.results23, go_sem, q0, q1, q2]) rfl ⟨rfl, bset3 HL.out _ _ _ (by have := HB.out; omega)⟩

set_option maxHeartbeats 2000000 in
theorem rmost_any (a0 a1 a2 b0 b1 b2 : Int) (w : World) :
    Calls Try.prog 25 #[.agg #[.int .i64 a0, .int .i64 a1, .int .i64 a2], .agg #[.int .i64 b0, .int .i64 b1, .int .i64 b2]] w fun e w' => e = .returned (.agg #[.int .i64 (maxV a0 b0), .int .i64 (maxV a1 b1), .int .i64 (maxV a2 b2)]) ∧ Below w.heap.size w w' := by
  obtain ⟨B, hB⟩ : ∃ B, B = w.heap.size := ⟨_, rfl⟩
  go_enter Try.func25, Try.ntmps25
  go_wp2
  have H := Lib.hid (show Blk (((w.alloc (.cells (cl3 a0 a1 a2) 22)).alloc (.cells (cl3 b0 b1 b2) 22)).alloc (.cells (cl3 0 0 0) 22)) B (cl3 a0 a1 a2) 22 ∧ Blk (((w.alloc (.cells (cl3 a0 a1 a2) 22)).alloc (.cells (cl3 b0 b1 b2) 22)).alloc (.cells (cl3 0 0 0) 22)) (B+1) (cl3 b0 b1 b2) 22 ∧ Blk (((w.alloc (.cells (cl3 a0 a1 a2) 22)).alloc (.cells (cl3 b0 b1 b2) 22)).alloc (.cells (cl3 0 0 0) 22)) (B+1+1) (cl3 0 0 0) 22 ∧ Below w.heap.size w (((w.alloc (.cells (cl3 a0 a1 a2) 22)).alloc (.cells (cl3 b0 b1 b2) 22)).alloc (.cells (cl3 0 0 0) 22)) from
    ⟨((Blk.new' _ _ hB).alloc _).alloc _, (Blk.new' _ _ (by simp [hB])).alloc _, Blk.new' _ _ (by simp [hB]), (((Below.refl _ _).alloc (Nat.le_refl _) _).alloc (by simp) _).alloc (by simp; omega) _⟩)
  rw [← hB]
  change Code.wp _ _ _ _ (((w.alloc (.cells (cl3 a0 a1 a2) 22)).alloc (.cells (cl3 b0 b1 b2) 22)).alloc (.cells (cl3 0 0 0) 22))
  revert H
  generalize (((w.alloc (.cells (cl3 a0 a1 a2) 22)).alloc (.cells (cl3 b0 b1 b2) 22)).alloc (.cells (cl3 0 0 0) 22)) = w1
  intro H
  have HB := Lib.hid hB
  clear hB
  go_loopw [5] (fun i wr => ∃ k : Nat, k ≤ 3 ∧ i = .int .i64 k ∧ Blk wr B (stg (maxV a0 b0) (maxV a1 b1) (maxV a2 b2) a0 a1 a2 k) 22 ∧ Blk wr (B+1) (cl3 b0 b1 b2) 22 ∧ Blk wr (B+1+1) (cl3 0 0 0) 22 ∧ Below w.heap.size w wr) (fun i _ => 3 - (intOf i).toNat)
  case atStart => exact ⟨0, by omega, rfl, H.out⟩
  case round =>
    obtain ⟨k, hk, rfl, hA, hBb, hC, hbel⟩ := hrel
    have HA := Lib.hid hA
    have HBB := Lib.hid hBb
    have HC := Lib.hid hC
    have HL := Lib.hid hbel
    clear hA hBb hC hbel H
    rcases (show k = 0 ∨ k = 1 ∨ k = 2 ∨ k = 3 by omega) with rfl | rfl | rfl | rfl
    · have hA : Blk wr B (cl3 (a0) (a1) (a2)) 22 := HA.out
      have c1 := hA.cell 0 (cl3_0 _ _ _)
      have f1 := hA.frozen 0
      have c2 := HBB.out.cell 0 (cl3_0 _ _ _)
      have HA' := Lib.hid hA
      clear hA HA
      go_wp2
      refine wp_still_tail 9 (by kernel_rfl) (by kernel_rfl) ?_
      simp only [List.take_succ_cons, List.take_zero, List.drop_succ_cons, List.drop_zero]
      repeat still_step
      refine wpStill_nil ?_
      go_wp2
      all_goals
        go_roundw
        case rel => exact ⟨1, by omega, by go_num, (set3_0 HA'.out (by unfold maxV; congr 1; split <;> split <;> omega)).drew, (HBB.out.other (by simp) _).drew, (HC.out.other (by show B + 1 + 1 ≠ B; omega) _).drew, (bset HL.out _ _ (by have := HB.out; omega)).drew⟩
        case measure => simp [intOf]
    · have hA : Blk wr B (cl3 (maxV a0 b0) (a1) (a2)) 22 := HA.out
      have c1 := hA.cell 1 (cl3_1 _ _ _)
      have f1 := hA.frozen 1
      have c2 := HBB.out.cell 1 (cl3_1 _ _ _)
      have HA' := Lib.hid hA
      clear hA HA
      go_wp2
      refine wp_still_tail 9 (by kernel_rfl) (by kernel_rfl) ?_
      simp only [List.take_succ_cons, List.take_zero, List.drop_succ_cons, List.drop_zero]
      repeat still_step
      refine wpStill_nil ?_
      go_wp2
      all_goals
        go_roundw
        case rel => exact ⟨2, by omega, by go_num, (set3_1 HA'.out (by unfold maxV; congr 1; split <;> split <;> omega)).drew, (HBB.out.other (by simp) _).drew, (HC.out.other (by show B + 1 + 1 ≠ B; omega) _).drew, (bset HL.out _ _ (by have := HB.out; omega)).drew⟩
        case measure => simp [intOf]
    · have hA : Blk wr B (cl3 (maxV a0 b0) (maxV a1 b1) (a2)) 22 := HA.out
      have c1 := hA.cell 2 (cl3_2 _ _ _)
      have f1 := hA.frozen 2
      have c2 := HBB.out.cell 2 (cl3_2 _ _ _)
      have HA' := Lib.hid hA
      clear hA HA
      go_wp2
      refine wp_still_tail 9 (by kernel_rfl) (by kernel_rfl) ?_
      simp only [List.take_succ_cons, List.take_zero, List.drop_succ_cons, List.drop_zero]
      repeat still_step
      refine wpStill_nil ?_
      go_wp2
      all_goals
        go_roundw
        case rel => exact ⟨3, by omega, by go_num, (set3_2 HA'.out (by unfold maxV; congr 1; split <;> split <;> omega)).drew, (HBB.out.other (by simp) _).drew, (HC.out.other (by show B + 1 + 1 ≠ B; omega) _).drew, (bset HL.out _ _ (by have := HB.out; omega)).drew⟩
        case measure => simp [intOf]
    · have hA : Blk wr B (cl3 (maxV a0 b0) (maxV a1 b1) (maxV a2 b2)) 22 := HA.out
      have c0 := hA.cell 0 (cl3_0 _ _ _)
      have c1 := hA.cell 1 (cl3_1 _ _ _)
      have c2 := hA.cell 2 (cl3_2 _ _ _)
      have g0 := HC.out.cell 0 (cl3_0 _ _ _)
      have g1 := HC.out.cell 1 (cl3_1 _ _ _)
      have g2 := HC.out.cell 2 (cl3_2 _ _ _)
      have f0 := HC.out.frozen 0
      have f1 := HC.out.frozen 1
      have f2 := HC.out.frozen 2
      clear HA hA
      go_wp2
      have hq := set3_all (x := maxV a0 b0) (y := maxV a1 b1) (z := maxV a2 b2) HC.out
      have q0 := hq.cell 0 (cl3_0 _ _ _)
      have q1 := hq.cell 1 (cl3_1 _ _ _)
      have q2 := hq.cell 2 (cl3_2 _ _ _)
      exact bodyPost_ret (v := .agg #[.int .i64 (maxV a0 b0), .int .i64 (maxV a1 b1), .int .i64 (maxV a2 b2)]) (by simp [results, Try.results25, go_sem, q0, q1, q2]) rfl ⟨rfl, bset3 HL.out _ _ _ (by have := HB.out; omega)⟩

/-- The function handed to zip: what it answers, in every world that is below as it was. -/
def FnOf (f : Nat) (caps : Array Value) (w : World) (F : Int → Int → Int) (x y : Int) : Prop :=
  ∀ W, Below w.heap.size w W → Calls Try.prog f (#[.int .i64 x, .int .i64 y] ++ caps) W fun e w' => e = .returned (.int .i64 (F x y)) ∧ ∃ k, w' = W.drewN k
set_option maxHeartbeats 2000000 in
theorem zip_any (f : Nat) (caps : Array Value) (F : Int → Int → Int) (a0 a1 a2 b0 b1 b2 : Int) (w : World)
    (cf : ∀ A W, (callFunc f A).run Try.prog W = .ok (.enter f A) W)
    (h0 : FnOf f caps w F a0 b0) (h1 : FnOf f caps w F a1 b1) (h2 : FnOf f caps w F a2 b2) :
    Calls Try.prog 19 #[.agg #[.int .i64 a0, .int .i64 a1, .int .i64 a2], .agg #[.int .i64 b0, .int .i64 b1, .int .i64 b2], .func (.func f) #[] caps] w fun e w' => e = .returned (.agg #[.int .i64 (cutV (F a0 b0)), .int .i64 (cutV (F a1 b1)), .int .i64 (cutV (F a2 b2))]) ∧ Below w.heap.size w w' := by
  have H0 := Lib.hid h0
  have H1 := Lib.hid h1
  have H2 := Lib.hid h2
  clear h0 h1 h2
  obtain ⟨B, hB⟩ : ∃ B, B = w.heap.size := ⟨_, rfl⟩
  go_enter Try.func19, Try.ntmps19
  go_wp2
  have H := Lib.hid (show Blk ((((w.alloc (.cells (cl3 a0 a1 a2) 22)).alloc (.cells (cl3 b0 b1 b2) 22)).alloc (.cells (cl3 0 0 0) 22)).alloc (.cells (cl3 0 0 0) 22)) B (cl3 a0 a1 a2) 22 ∧ Blk ((((w.alloc (.cells (cl3 a0 a1 a2) 22)).alloc (.cells (cl3 b0 b1 b2) 22)).alloc (.cells (cl3 0 0 0) 22)).alloc (.cells (cl3 0 0 0) 22)) (B+1) (cl3 b0 b1 b2) 22 ∧ Blk ((((w.alloc (.cells (cl3 a0 a1 a2) 22)).alloc (.cells (cl3 b0 b1 b2) 22)).alloc (.cells (cl3 0 0 0) 22)).alloc (.cells (cl3 0 0 0) 22)) (B+1+1) (cl3 0 0 0) 22 ∧ Blk ((((w.alloc (.cells (cl3 a0 a1 a2) 22)).alloc (.cells (cl3 b0 b1 b2) 22)).alloc (.cells (cl3 0 0 0) 22)).alloc (.cells (cl3 0 0 0) 22)) (B+1+1+1) (cl3 0 0 0) 22 ∧ Below w.heap.size w ((((w.alloc (.cells (cl3 a0 a1 a2) 22)).alloc (.cells (cl3 b0 b1 b2) 22)).alloc (.cells (cl3 0 0 0) 22)).alloc (.cells (cl3 0 0 0) 22)) from
    ⟨(((Blk.new' _ _ hB).alloc _).alloc _).alloc _, ((Blk.new' _ _ (by simp [hB])).alloc _).alloc _, (Blk.new' _ _ (by simp [hB])).alloc _, Blk.new' _ _ (by simp [hB]), ((((Below.refl _ _).alloc (Nat.le_refl _) _).alloc (by simp) _).alloc (by simp; omega) _).alloc (by simp; omega) _⟩)
  rw [← hB]
  change Code.wp _ _ _ _ ((((w.alloc (.cells (cl3 a0 a1 a2) 22)).alloc (.cells (cl3 b0 b1 b2) 22)).alloc (.cells (cl3 0 0 0) 22)).alloc (.cells (cl3 0 0 0) 22))
  revert H
  generalize ((((w.alloc (.cells (cl3 a0 a1 a2) 22)).alloc (.cells (cl3 b0 b1 b2) 22)).alloc (.cells (cl3 0 0 0) 22)).alloc (.cells (cl3 0 0 0) 22)) = w1
  intro H
  have HB := Lib.hid hB
  clear hB
  go_loopw [9] (fun i wr => ∃ k : Nat, k ≤ 3 ∧ i = .int .i64 k ∧ Blk wr B (cl3 a0 a1 a2) 22 ∧ Blk wr (B+1) (cl3 b0 b1 b2) 22 ∧ Blk wr (B+1+1) (cl3 0 0 0) 22 ∧ Blk wr (B+1+1+1) (stg (cutV (F a0 b0)) (cutV (F a1 b1)) (cutV (F a2 b2)) 0 0 0 k) 22 ∧ Below w.heap.size w wr) (fun i _ => 3 - (intOf i).toNat)
  case atStart => exact ⟨0, by omega, rfl, H.out⟩
  case round =>
    obtain ⟨k, hk, rfl, hA, hBb, hC, hO, hbel⟩ := hrel
    have HA := Lib.hid hA
    have HBB := Lib.hid hBb
    have HC := Lib.hid hC
    have HO := Lib.hid hO
    have HL := Lib.hid hbel
    clear hA hBb hC hO hbel H
    rcases (show k = 0 ∨ k = 1 ∨ k = 2 ∨ k = 3 by omega) with rfl | rfl | rfl | rfl
    · have hO : Blk wr (B+1+1+1) (cl3 (0) (0) (0)) 22 := HO.out
      have c1 := HA.out.cell 0 (cl3_0 _ _ _)
      have f1 := hO.frozen 0
      have c3 := hO.cell 0 (cl3_0 _ _ _)
      have c2 := HBB.out.cell 0 (cl3_0 _ _ _)
      have HO' := Lib.hid hO
      clear hO HO
      go_wp2
      refine wp_drawn_tail 11 (by kernel_rfl) (by kernel_rfl) ?_
      simp only [List.take_succ_cons, List.take_zero, List.drop_succ_cons, List.drop_zero]
      repeat (first | go_big_quiet_step (exact Calls.quiet_of (H0.out _ (below_drewN HL.out _))) | quiet_step (exact Calls.quiet_of (H0.out _ (below_drewN HL.out _))))
      refine wpQuiet_nil ?_
      rintro _ ⟨nq, rfl⟩
      go_wp2
      all_goals
        go_roundw
        case rel => exact ⟨1, by omega, by go_num, (HA.out.drewN _).other (by show B ≠ B + 1 + 1 + 1; omega) _, (HBB.out.drewN _).other (by show B + 1 ≠ B + 1 + 1 + 1; omega) _, (HC.out.drewN _).other (by show B + 1 + 1 ≠ B + 1 + 1 + 1; omega) _, set3_0 (HO'.out.drewN _) (by unfold cutV; congr 1; split <;> split <;> omega), bset (below_drewN HL.out _) _ _ (by have := HB.out; omega)⟩
        case measure => simp [intOf]
    · have hO : Blk wr (B+1+1+1) (cl3 (cutV (F a0 b0)) (0) (0)) 22 := HO.out
      have c1 := HA.out.cell 1 (cl3_1 _ _ _)
      have f1 := hO.frozen 1
      have c3 := hO.cell 1 (cl3_1 _ _ _)
      have c2 := HBB.out.cell 1 (cl3_1 _ _ _)
      have HO' := Lib.hid hO
      clear hO HO
      go_wp2
      refine wp_drawn_tail 11 (by kernel_rfl) (by kernel_rfl) ?_
      simp only [List.take_succ_cons, List.take_zero, List.drop_succ_cons, List.drop_zero]
      repeat (first | go_big_quiet_step (exact Calls.quiet_of (H1.out _ (below_drewN HL.out _))) | quiet_step (exact Calls.quiet_of (H1.out _ (below_drewN HL.out _))))
      refine wpQuiet_nil ?_
      rintro _ ⟨nq, rfl⟩
      go_wp2
      all_goals
        go_roundw
        case rel => exact ⟨2, by omega, by go_num, (HA.out.drewN _).other (by show B ≠ B + 1 + 1 + 1; omega) _, (HBB.out.drewN _).other (by show B + 1 ≠ B + 1 + 1 + 1; omega) _, (HC.out.drewN _).other (by show B + 1 + 1 ≠ B + 1 + 1 + 1; omega) _, set3_1 (HO'.out.drewN _) (by unfold cutV; congr 1; split <;> split <;> omega), bset (below_drewN HL.out _) _ _ (by have := HB.out; omega)⟩
        case measure => simp [intOf]
    · have hO : Blk wr (B+1+1+1) (cl3 (cutV (F a0 b0)) (cutV (F a1 b1)) (0)) 22 := HO.out
      have c1 := HA.out.cell 2 (cl3_2 _ _ _)
      have f1 := hO.frozen 2
      have c3 := hO.cell 2 (cl3_2 _ _ _)
      have c2 := HBB.out.cell 2 (cl3_2 _ _ _)
      have HO' := Lib.hid hO
      clear hO HO
      go_wp2
      refine wp_drawn_tail 11 (by kernel_rfl) (by kernel_rfl) ?_
      simp only [List.take_succ_cons, List.take_zero, List.drop_succ_cons, List.drop_zero]
      repeat (first | go_big_quiet_step (exact Calls.quiet_of (H2.out _ (below_drewN HL.out _))) | quiet_step (exact Calls.quiet_of (H2.out _ (below_drewN HL.out _))))
      refine wpQuiet_nil ?_
      rintro _ ⟨nq, rfl⟩
      go_wp2
      all_goals
        go_roundw
        case rel => exact ⟨3, by omega, by go_num, (HA.out.drewN _).other (by show B ≠ B + 1 + 1 + 1; omega) _, (HBB.out.drewN _).other (by show B + 1 ≠ B + 1 + 1 + 1; omega) _, (HC.out.drewN _).other (by show B + 1 + 1 ≠ B + 1 + 1 + 1; omega) _, set3_2 (HO'.out.drewN _) (by unfold cutV; congr 1; split <;> split <;> omega), bset (below_drewN HL.out _) _ _ (by have := HB.out; omega)⟩
        case measure => simp [intOf]
    · have hO : Blk wr (B+1+1+1) (cl3 (cutV (F a0 b0)) (cutV (F a1 b1)) (cutV (F a2 b2))) 22 := HO.out
      have c0 := hO.cell 0 (cl3_0 _ _ _)
      have c1 := hO.cell 1 (cl3_1 _ _ _)
      have c2 := hO.cell 2 (cl3_2 _ _ _)
      have g0 := HC.out.cell 0 (cl3_0 _ _ _)
      have g1 := HC.out.cell 1 (cl3_1 _ _ _)
      have g2 := HC.out.cell 2 (cl3_2 _ _ _)
      have f0 := HC.out.frozen 0
      have f1 := HC.out.frozen 1
      have f2 := HC.out.frozen 2
      clear HO hO
      go_wp2
      have hq := set3_all (x := cutV (F a0 b0)) (y := cutV (F a1 b1)) (z := cutV (F a2 b2)) HC.out
      have q0 := hq.cell 0 (cl3_0 _ _ _)
      have q1 := hq.cell 1 (cl3_1 _ _ _)
      have q2 := hq.cell 2 (cl3_2 _ _ _)
      exact bodyPost_ret (v := .agg #[.int .i64 (cutV (F a0 b0)), .int .i64 (cutV (F a1 b1)), .int .i64 (cutV (F a2 b2))]) (by simp [results, Try.results19, go_sem, q0, q1, q2]) rfl ⟨rfl, bset3 HL.out _ _ _ (by have := HB.out; omega)⟩

end Go.Proofs.Ytenaklaajdpimaa
