/- The walk of LiveSums: for every two triples and number it returns true. -/
import Derived.Test.YtenaklaajdpimaaLf
namespace Go.Proofs.Ytenaklaajdpimaa
open Go.RowKit

theorem eqArr3 {P : Program} {t e : TypeId} (ht : P.underlying t = some (.array 3 e)) (he : P.underlying e = some (.int .i64)) (hs : ∀ w, (sizeOf e).run P w = .ok 1 w) (hg : ∀ w, (isAgg e).run P w = .ok false w) (a b c x y z : Int) (w : World) :
    (Op.equalIn 10000 t (.agg #[.int .i64 a, .int .i64 b, .int .i64 c]) (.agg #[.int .i64 x, .int .i64 y, .int .i64 z])).run P w = .ok (a == x && (b == y && c == z)) w := by
  have h1 : ∀ (p q : Int) (w : World), (Op.equalIn 9999 e (.int .i64 p) (.int .i64 q)).run P w = .ok (p == q) w := fun p q w => run_equalIn_int w 9998 e .i64 .i64 p q he
  show (Op.equalIn (9999 + 1) t _ _).run P w = _
  rw [Op.equalIn]
  simp only [Sem.run_bind, run_underlying ht, Result.andThen_ok]
  cases h2 : (a == x) <;> cases h3 : (b == y) <;> cases h4 : (c == z) <;> simp [go_sem, hs, hg, h1, h2, h3, h4, Std.Legacy.Range.forIn_eq_forIn_range', List.range']
theorem size_int (w : World) : (sizeOf 3).run Try.prog w = .ok 1 w := by kernel_rfl
theorem agg_int (w : World) : (isAgg 3).run Try.prog w = .ok false w := by kernel_rfl
theorem eq3 (a b c x y z : Int) (w : World) : (Op.equalIn 10000 22 (.agg #[.int .i64 a, .int .i64 b, .int .i64 c]) (.agg #[.int .i64 x, .int .i64 y, .int .i64 z])).run Try.prog w = .ok (a == x && (b == y && c == z)) w :=
  eqArr3 Try.underlying22 Try.underlying3 size_int agg_int a b c x y z w

theorem pages_sane (w : World) : Calls Try.prog 10 #[.agg #[.int .i64 9, .int .i64 1, .int .i64 0]] w fun e w' => e = .returned (.tuple #[.int .i64 3, .int .i64 0]) ∧ Below w.heap.size w w' :=
  (pages_ok 9 1 0 w (by decide)).mono fun _ _ ⟨h1, h2⟩ => ⟨h1.trans (ret_two (by decide) rfl), h2⟩
theorem add_sane (w : World) : Calls Try.prog 4 #[.agg #[.int .i64 1, .int .i64 2, .int .i64 3], .agg #[.int .i64 4, .int .i64 5, .int .i64 6]] w (Ret4 5 7 9 0 w) := by
  have h : add3 1 2 3 4 5 6 = ((5, 7, 9), 0) := by decide
  have := add_any 1 2 3 4 5 6 w
  rw [h] at this
  exact this

set_option maxHeartbeats 1000000 in
theorem sane_any (w : World) : Calls Try.prog 16 #[] w fun e w' => e = .returned (.bool true) ∧ Below w.heap.size w w' := by
  have heq := eq3
  go_enter Try.func16, Try.ntmps16
  go_wp2_with (first | (go_at_call 10; refine (pages_sane _).mono ?_; rintro e w1 ⟨rfl, hb1⟩) | (go_at_call 4; refine (add_sane _).mono ?_; rintro e w2 ⟨rfl, hb2⟩))
  go_ret
  exact ⟨rfl, bthen (bthen hb1 hb2) ((Below.refl _ _).alloc (Nat.le_refl _) _)⟩

/-- the pages, or the error -/
def pgP (a b c : Int) : Int := if tB a b c then pgV a b c else 0
def okE (a b c : Int) : Int := if tB a b c then 0 else 1
def lsP (a b c : Int) : Int := if tB a b c then lsV a b c else 0
def lsQ (a b c : Int) : Int := if tB a b c then lsE a b c else 1
def ftP (a b c n : Int) : Bool := ftB a b c n && decide (pgV a b c ≤ n)
def ftE (a b c n : Int) : Int := if ftB a b c n then 0 else 1
theorem pages_u (a b c : Int) (w : World) : Calls Try.prog 10 #[.agg #[.int .i64 a, .int .i64 b, .int .i64 c]] w fun e w' => e = .returned (.tuple #[.int .i64 (pgP a b c), .int .i64 (okE a b c)]) ∧ Below w.heap.size w w' := by
  unfold pgP okE
  cases h : tB a b c
  · exact pages_no a b c w h
  · exact pages_ok a b c w h
theorem rpages_u (a b c : Int) (w : World) : Calls Try.prog 11 #[.agg #[.int .i64 a, .int .i64 b, .int .i64 c]] w fun e w' => e = .returned (.tuple #[.int .i64 (pgP a b c), .int .i64 (okE a b c)]) ∧ Below w.heap.size w w' := by
  unfold pgP okE
  cases h : tB a b c
  · exact rPages_no a b c w h
  · exact rPages_ok a b c w h
theorem loose_u (a b c : Int) (w : World) : Calls Try.prog 12 #[.agg #[.int .i64 a, .int .i64 b, .int .i64 c]] w fun e w' => e = .returned (.tuple #[.int .i64 (lsP a b c), .int .i64 (lsQ a b c)]) ∧ Below w.heap.size w w' := by
  unfold lsP lsQ
  cases h : tB a b c
  · exact loose_no a b c w h
  · exact loose_ok a b c w h
theorem rloose_u (a b c : Int) (w : World) : Calls Try.prog 13 #[.agg #[.int .i64 a, .int .i64 b, .int .i64 c]] w fun e w' => e = .returned (.tuple #[.int .i64 (lsP a b c), .int .i64 (lsQ a b c)]) ∧ Below w.heap.size w w' := by
  unfold lsP lsQ
  cases h : tB a b c
  · exact rloose_no a b c w h
  · exact rloose_ok a b c w h
theorem fits_u (a b c n : Int) (w : World) : Calls Try.prog 14 #[.agg #[.int .i64 a, .int .i64 b, .int .i64 c], .int .i64 n] w fun e w' => e = .returned (.tuple #[.bool (ftP a b c n), .int .i64 (ftE a b c n)]) ∧ Below w.heap.size w w' := by
  unfold ftP ftE
  cases h : ftB a b c n
  · exact fits_no a b c n w h
  · exact fits_ok a b c n w h
theorem rfits_u (a b c n : Int) (w : World) : Calls Try.prog 15 #[.agg #[.int .i64 a, .int .i64 b, .int .i64 c], .int .i64 n] w fun e w' => e = .returned (.tuple #[.bool (ftP a b c n), .int .i64 (ftE a b c n)]) ∧ Below w.heap.size w w' := by
  unfold ftP ftE
  cases h : ftB a b c n
  · exact rfits_no a b c n w h
  · exact rfits_ok a b c n w h

theorem loose_fact (a b c : Int) (h : lsQ a b c = 0) : pgP a b c ≤ lsP a b c := by
  unfold lsQ at h
  cases ht : tB a b c
  · simp [ht] at h
  · have := tB_iff.1 ht
    simp [ht] at h
    unfold lsE at h
    unfold pgP lsP lsV pgV
    simp [ht]
    split at h
    · omega
    · rw [if_neg (by assumption)]; omega
theorem add_fact {a0 a1 a2 b0 b1 b2 c0 c1 c2 f : Int} (h : add3 a0 a1 a2 b0 b1 b2 = ((c0, c1, c2), f)) (hf : f = 0) :
    okE c0 c1 c2 = 0 ∧ okE b0 b1 b2 = 0 ∧ pgP c0 c1 c2 ≤ pgP a0 a1 a2 + pgP b0 b1 b2 ∧ pgP a0 a1 a2 ≤ pgP c0 c1 c2 ∧ pgP b0 b1 b2 ≤ pgP c0 c1 c2 ∧ 0 ≤ pgP a0 a1 a2 ∧ pgP a0 a1 a2 ≤ 1000000000 ∧ 0 ≤ pgP b0 b1 b2 ∧ pgP b0 b1 b2 ≤ 1000000000 := by
  subst hf
  unfold add3 at h
  by_cases hv : (tB a0 a1 a2 && tB b0 b1 b2) = false
  · rw [if_pos hv] at h; simp at h
  · rw [if_neg hv] at h
    obtain ⟨ht1, ht2⟩ : tB a0 a1 a2 = true ∧ tB b0 b1 b2 = true := by simpa using hv
    cases hb : bigB (cutV (a0 + b0)) (cutV (a1 + b1)) (cutV (a2 + b2))
    · rw [hb] at h
      simp at h
      obtain ⟨rfl, rfl, rfl⟩ := h
      rw [big_cut] at hb
      obtain ⟨e1, e2, e3⟩ := cut_of_small hb
      obtain ⟨g1, g2, g3⟩ := bigB_f hb
      rw [e1, e2, e3]
      have h1 := tB_iff.1 ht1
      have h2 := tB_iff.1 ht2
      have h3 : tB (a0 + b0) (a1 + b1) (a2 + b2) = true := tB_iff.2 (by omega)
      unfold okE pgP pgV
      rw [if_pos h3, if_pos ht2, if_pos h3, if_pos ht1, if_pos ht2]
      omega
    · rw [hb] at h; simp at h

set_option maxRecDepth 100000 in
set_option maxHeartbeats 4000000 in
theorem liveSums_tt (a0 a1 a2 b0 b1 b2 n : Int) (w : World) {c0 c1 c2 f x0 x1 x2 g t0 t1 t2 i : Int} (hc : add3 a0 a1 a2 b0 b1 b2 = ((c0, c1, c2), f)) (hx : most3 a0 a1 a2 b0 b1 b2 = ((x0, x1, x2), g)) (ht : times3 a0 a1 a2 n = ((t0, t1, t2), i)) (hf : f = 0) (hv : lsQ a0 a1 a2 = 0) :
    Calls Try.prog 3 #[.agg #[.int .i64 a0, .int .i64 a1, .int .i64 a2], .agg #[.int .i64 b0, .int .i64 b1, .int .i64 b2], .int .i64 n] w fun e w' => e = .returned (.bool true) ∧ Below w.heap.size w w' := by
  have heq := eq3
  have CA := Lib.hid (fun W => (by have h := add_any a0 a1 a2 b0 b1 b2 W; rw [hc] at h; exact h : Calls Try.prog 4 #[.agg #[.int .i64 a0, .int .i64 a1, .int .i64 a2], .agg #[.int .i64 b0, .int .i64 b1, .int .i64 b2]] W (Ret4 c0 c1 c2 f W)))
  have CB := Lib.hid (fun W => (by have h := radd_any a0 a1 a2 b0 b1 b2 W; rw [hc] at h; exact h : Calls Try.prog 5 #[.agg #[.int .i64 a0, .int .i64 a1, .int .i64 a2], .agg #[.int .i64 b0, .int .i64 b1, .int .i64 b2]] W (Ret4 c0 c1 c2 f W)))
  have CM := Lib.hid (fun W => (by have h := most_any a0 a1 a2 b0 b1 b2 W; rw [hx] at h; exact h : Calls Try.prog 6 #[.agg #[.int .i64 a0, .int .i64 a1, .int .i64 a2], .agg #[.int .i64 b0, .int .i64 b1, .int .i64 b2]] W (Ret4 x0 x1 x2 g W)))
  have CN := Lib.hid (fun W => (by have h := rMost_any a0 a1 a2 b0 b1 b2 W; rw [hx] at h; exact h : Calls Try.prog 7 #[.agg #[.int .i64 a0, .int .i64 a1, .int .i64 a2], .agg #[.int .i64 b0, .int .i64 b1, .int .i64 b2]] W (Ret4 x0 x1 x2 g W)))
  have CT := Lib.hid (fun W => (by have h := times_any a0 a1 a2 n W; rw [ht] at h; exact h : Calls Try.prog 8 #[.agg #[.int .i64 a0, .int .i64 a1, .int .i64 a2], .int .i64 n] W (Ret4 t0 t1 t2 i W)))
  have CU := Lib.hid (fun W => (by have h := rtimes_any a0 a1 a2 n W; rw [ht] at h; exact h : Calls Try.prog 9 #[.agg #[.int .i64 a0, .int .i64 a1, .int .i64 a2], .int .i64 n] W (Ret4 t0 t1 t2 i W)))
  have hp := loose_fact a0 a1 a2 hv
  have hvb : (lsQ a0 a1 a2 == 0) = true := by simpa using hv
  clear hv
  obtain ⟨y1, y2, y3, y4, y5, y6, y7, y8, y9⟩ := add_fact hc hf
  subst hf
  have Y1 := Lib.hid y1
  have Y2 := Lib.hid y2
  clear y1 y2
  clear hc hx ht
  have HA := Lib.hid (show Blk ((w.alloc (.cells (cl3 a0 a1 a2) 22)).alloc (.cells (cl3 b0 b1 b2) 22)) w.heap.size (cl3 a0 a1 a2) 22 from (Blk.new' _ _ rfl).alloc _)
  have HB := Lib.hid (show Blk ((w.alloc (.cells (cl3 a0 a1 a2) 22)).alloc (.cells (cl3 b0 b1 b2) 22)) (w.heap.size + 1) (cl3 b0 b1 b2) 22 from Blk.new' _ _ (by simp))
  have HL := Lib.hid (show Below w.heap.size w ((w.alloc (.cells (cl3 a0 a1 a2) 22)).alloc (.cells (cl3 b0 b1 b2) 22)) from ((Below.refl _ _).alloc (Nat.le_refl _) _).alloc (by simp) _)
  go_enter Try.func3, Try.ntmps3
  go_wp2_with fail
  refine (CA.out _).mono ?_
  rintro e w1 ⟨rfl, h1⟩
  have B1 := Lib.hid (bthen HL.out h1)
  have A1 := Lib.hid (Blk.old HA.out h1)
  have Q1 := Lib.hid (Blk.old HB.out h1)
  clear h1
  obtain ⟨p0, p1, p2⟩ := A1.out.c3
  obtain ⟨q0, q1, q2⟩ := Q1.out.c3
  have l1 := A1.out.lt
  have l2 := Q1.out.lt
  go_wp2_with fail
  refine (CB.out _).mono ?_
  rintro e w2 ⟨rfl, h2⟩
  have B2 := Lib.hid (bthen (B1.out.alloc (B1.out.size) _) h2)
  have A2 := Lib.hid (Blk.old (A1.out.alloc _) h2)
  have Q2 := Lib.hid (Blk.old (Q1.out.alloc _) h2)
  have G1_2 := Lib.hid (Blk.old (Blk.new w1 (cl3 c0 c1 c2) 22) h2)
  clear h2 p0 p1 p2 q0 q1 q2 l1 l2
  obtain ⟨p0, p1, p2⟩ := A2.out.c3
  obtain ⟨q0, q1, q2⟩ := Q2.out.c3
  have l1 := A2.out.lt
  have l2 := Q2.out.lt
  go_wp2_with fail
  refine (CM.out _).mono ?_
  rintro e w3 ⟨rfl, h3⟩
  have B3 := Lib.hid (bthen (B2.out.alloc (B2.out.size) _) h3)
  have A3 := Lib.hid (Blk.old (A2.out.alloc _) h3)
  have Q3 := Lib.hid (Blk.old (Q2.out.alloc _) h3)
  have G1_3 := Lib.hid (Blk.old (G1_2.out.alloc _) h3)
  have G2_3 := Lib.hid (Blk.old (Blk.new w2 (cl3 c0 c1 c2) 22) h3)
  clear h3 p0 p1 p2 q0 q1 q2 l1 l2
  obtain ⟨p0, p1, p2⟩ := A3.out.c3
  obtain ⟨q0, q1, q2⟩ := Q3.out.c3
  have l1 := A3.out.lt
  have l2 := Q3.out.lt
  go_wp2_with fail
  refine (CN.out _).mono ?_
  rintro e w4 ⟨rfl, h4⟩
  have B4 := Lib.hid (bthen (B3.out.alloc (B3.out.size) _) h4)
  have A4 := Lib.hid (Blk.old (A3.out.alloc _) h4)
  have Q4 := Lib.hid (Blk.old (Q3.out.alloc _) h4)
  have G1_4 := Lib.hid (Blk.old (G1_3.out.alloc _) h4)
  have G2_4 := Lib.hid (Blk.old (G2_3.out.alloc _) h4)
  have G3_4 := Lib.hid (Blk.old (Blk.new w3 (cl3 x0 x1 x2) 22) h4)
  clear h4 p0 p1 p2 q0 q1 q2 l1 l2
  obtain ⟨p0, p1, p2⟩ := A4.out.c3
  obtain ⟨q0, q1, q2⟩ := Q4.out.c3
  have l1 := A4.out.lt
  have l2 := Q4.out.lt
  go_wp2_with fail
  refine (CT.out _).mono ?_
  rintro e w5 ⟨rfl, h5⟩
  have B5 := Lib.hid (bthen (B4.out.alloc (B4.out.size) _) h5)
  have A5 := Lib.hid (Blk.old (A4.out.alloc _) h5)
  have Q5 := Lib.hid (Blk.old (Q4.out.alloc _) h5)
  have G1_5 := Lib.hid (Blk.old (G1_4.out.alloc _) h5)
  have G2_5 := Lib.hid (Blk.old (G2_4.out.alloc _) h5)
  have G3_5 := Lib.hid (Blk.old (G3_4.out.alloc _) h5)
  have G4_5 := Lib.hid (Blk.old (Blk.new w4 (cl3 x0 x1 x2) 22) h5)
  clear h5 p0 p1 p2 q0 q1 q2 l1 l2
  obtain ⟨p0, p1, p2⟩ := A5.out.c3
  obtain ⟨q0, q1, q2⟩ := Q5.out.c3
  have l1 := A5.out.lt
  have l2 := Q5.out.lt
  go_wp2_with fail
  refine (CU.out _).mono ?_
  rintro e w6 ⟨rfl, h6⟩
  have B6 := Lib.hid (bthen (B5.out.alloc (B5.out.size) _) h6)
  have A6 := Lib.hid (Blk.old (A5.out.alloc _) h6)
  have Q6 := Lib.hid (Blk.old (Q5.out.alloc _) h6)
  have G1_6 := Lib.hid (Blk.old (G1_5.out.alloc _) h6)
  have G2_6 := Lib.hid (Blk.old (G2_5.out.alloc _) h6)
  have G3_6 := Lib.hid (Blk.old (G3_5.out.alloc _) h6)
  have G4_6 := Lib.hid (Blk.old (G4_5.out.alloc _) h6)
  have G5_6 := Lib.hid (Blk.old (Blk.new w5 (cl3 t0 t1 t2) 22) h6)
  clear h6 p0 p1 p2 q0 q1 q2 l1 l2
  obtain ⟨p0, p1, p2⟩ := A6.out.c3
  obtain ⟨q0, q1, q2⟩ := Q6.out.c3
  have l1 := A6.out.lt
  have l2 := Q6.out.lt
  go_wp2_with fail
  refine (pages_u a0 a1 a2 _).mono ?_
  rintro e w7 ⟨rfl, h7⟩
  have B7 := Lib.hid (bthen (B6.out.alloc (B6.out.size) _) h7)
  have A7 := Lib.hid (Blk.old (A6.out.alloc _) h7)
  have Q7 := Lib.hid (Blk.old (Q6.out.alloc _) h7)
  have G1_7 := Lib.hid (Blk.old (G1_6.out.alloc _) h7)
  have G2_7 := Lib.hid (Blk.old (G2_6.out.alloc _) h7)
  have G3_7 := Lib.hid (Blk.old (G3_6.out.alloc _) h7)
  have G4_7 := Lib.hid (Blk.old (G4_6.out.alloc _) h7)
  have G5_7 := Lib.hid (Blk.old (G5_6.out.alloc _) h7)
  have G6_7 := Lib.hid (Blk.old (Blk.new w6 (cl3 t0 t1 t2) 22) h7)
  clear h7 p0 p1 p2 q0 q1 q2 l1 l2
  obtain ⟨p0, p1, p2⟩ := A7.out.c3
  obtain ⟨q0, q1, q2⟩ := Q7.out.c3
  have l1 := A7.out.lt
  have l2 := Q7.out.lt
  go_wp2_with fail
  refine (rpages_u a0 a1 a2 _).mono ?_
  rintro e w8 ⟨rfl, h8⟩
  have B8 := Lib.hid (bthen B7.out h8)
  have A8 := Lib.hid (Blk.old A7.out h8)
  have Q8 := Lib.hid (Blk.old Q7.out h8)
  have G1_8 := Lib.hid (Blk.old G1_7.out h8)
  have G2_8 := Lib.hid (Blk.old G2_7.out h8)
  have G3_8 := Lib.hid (Blk.old G3_7.out h8)
  have G4_8 := Lib.hid (Blk.old G4_7.out h8)
  have G5_8 := Lib.hid (Blk.old G5_7.out h8)
  have G6_8 := Lib.hid (Blk.old G6_7.out h8)
  clear h8 p0 p1 p2 q0 q1 q2 l1 l2
  obtain ⟨p0, p1, p2⟩ := A8.out.c3
  obtain ⟨q0, q1, q2⟩ := Q8.out.c3
  have l1 := A8.out.lt
  have l2 := Q8.out.lt
  go_wp2_with fail
  refine (loose_u a0 a1 a2 _).mono ?_
  rintro e w9 ⟨rfl, h9⟩
  have B9 := Lib.hid (bthen B8.out h9)
  have A9 := Lib.hid (Blk.old A8.out h9)
  have Q9 := Lib.hid (Blk.old Q8.out h9)
  have G1_9 := Lib.hid (Blk.old G1_8.out h9)
  have G2_9 := Lib.hid (Blk.old G2_8.out h9)
  have G3_9 := Lib.hid (Blk.old G3_8.out h9)
  have G4_9 := Lib.hid (Blk.old G4_8.out h9)
  have G5_9 := Lib.hid (Blk.old G5_8.out h9)
  have G6_9 := Lib.hid (Blk.old G6_8.out h9)
  clear h9 p0 p1 p2 q0 q1 q2 l1 l2
  obtain ⟨p0, p1, p2⟩ := A9.out.c3
  obtain ⟨q0, q1, q2⟩ := Q9.out.c3
  have l1 := A9.out.lt
  have l2 := Q9.out.lt
  go_wp2_with fail
  refine (rloose_u a0 a1 a2 _).mono ?_
  rintro e w10 ⟨rfl, h10⟩
  have B10 := Lib.hid (bthen B9.out h10)
  have A10 := Lib.hid (Blk.old A9.out h10)
  have Q10 := Lib.hid (Blk.old Q9.out h10)
  have G1_10 := Lib.hid (Blk.old G1_9.out h10)
  have G2_10 := Lib.hid (Blk.old G2_9.out h10)
  have G3_10 := Lib.hid (Blk.old G3_9.out h10)
  have G4_10 := Lib.hid (Blk.old G4_9.out h10)
  have G5_10 := Lib.hid (Blk.old G5_9.out h10)
  have G6_10 := Lib.hid (Blk.old G6_9.out h10)
  clear h10 p0 p1 p2 q0 q1 q2 l1 l2
  obtain ⟨p0, p1, p2⟩ := A10.out.c3
  obtain ⟨q0, q1, q2⟩ := Q10.out.c3
  have l1 := A10.out.lt
  have l2 := Q10.out.lt
  go_wp2_with fail
  refine (fits_u a0 a1 a2 n _).mono ?_
  rintro e w11 ⟨rfl, h11⟩
  have B11 := Lib.hid (bthen B10.out h11)
  have A11 := Lib.hid (Blk.old A10.out h11)
  have Q11 := Lib.hid (Blk.old Q10.out h11)
  have G1_11 := Lib.hid (Blk.old G1_10.out h11)
  have G2_11 := Lib.hid (Blk.old G2_10.out h11)
  have G3_11 := Lib.hid (Blk.old G3_10.out h11)
  have G4_11 := Lib.hid (Blk.old G4_10.out h11)
  have G5_11 := Lib.hid (Blk.old G5_10.out h11)
  have G6_11 := Lib.hid (Blk.old G6_10.out h11)
  clear h11 p0 p1 p2 q0 q1 q2 l1 l2
  obtain ⟨p0, p1, p2⟩ := A11.out.c3
  obtain ⟨q0, q1, q2⟩ := Q11.out.c3
  have l1 := A11.out.lt
  have l2 := Q11.out.lt
  go_wp2_with fail
  refine (rfits_u a0 a1 a2 n _).mono ?_
  rintro e w12 ⟨rfl, h12⟩
  have B12 := Lib.hid (bthen B11.out h12)
  have A12 := Lib.hid (Blk.old A11.out h12)
  have Q12 := Lib.hid (Blk.old Q11.out h12)
  have G1_12 := Lib.hid (Blk.old G1_11.out h12)
  have G2_12 := Lib.hid (Blk.old G2_11.out h12)
  have G3_12 := Lib.hid (Blk.old G3_11.out h12)
  have G4_12 := Lib.hid (Blk.old G4_11.out h12)
  have G5_12 := Lib.hid (Blk.old G5_11.out h12)
  have G6_12 := Lib.hid (Blk.old G6_11.out h12)
  clear h12 p0 p1 p2 q0 q1 q2 l1 l2
  obtain ⟨p0, p1, p2⟩ := A12.out.c3
  obtain ⟨q0, q1, q2⟩ := Q12.out.c3
  have l1 := A12.out.lt
  have l2 := Q12.out.lt
  obtain ⟨g10, g11, g12⟩ := (G1_12.out).c3
  obtain ⟨g20, g21, g22⟩ := (G2_12.out).c3
  obtain ⟨g30, g31, g32⟩ := (G3_12.out).c3
  obtain ⟨g40, g41, g42⟩ := (G4_12.out).c3
  obtain ⟨g50, g51, g52⟩ := (G5_12.out).c3
  obtain ⟨g60, g61, g62⟩ := (G6_12.out).c3
  go_wp2_with fail
  refine (pages_u c0 c1 c2 _).mono ?_
  rintro e w13 ⟨rfl, h13⟩
  rw [Y1.out]
  obtain ⟨r0, r1, r2⟩ := (Q12.out.old h13).c3
  have B13 := Lib.hid (bthen B12.out h13)
  clear h13
  go_wp2_with fail
  refine (pages_u b0 b1 b2 _).mono ?_
  rintro e w14 ⟨rfl, h14⟩
  rw [Y2.out]
  have B14 := Lib.hid (bthen B13.out h14)
  clear h14
  go_wp2_with (go_at_call 16; refine (sane_any _).mono ?_; rintro e w15 ⟨rfl, h15⟩)
  go_ret
  exact ⟨rfl, bthen B14.out h15⟩

set_option maxRecDepth 100000 in
set_option maxHeartbeats 4000000 in
theorem liveSums_tf (a0 a1 a2 b0 b1 b2 n : Int) (w : World) {c0 c1 c2 f x0 x1 x2 g t0 t1 t2 i : Int} (hc : add3 a0 a1 a2 b0 b1 b2 = ((c0, c1, c2), f)) (hx : most3 a0 a1 a2 b0 b1 b2 = ((x0, x1, x2), g)) (ht : times3 a0 a1 a2 n = ((t0, t1, t2), i)) (hf : f = 0) (hv : lsQ a0 a1 a2 ≠ 0) :
    Calls Try.prog 3 #[.agg #[.int .i64 a0, .int .i64 a1, .int .i64 a2], .agg #[.int .i64 b0, .int .i64 b1, .int .i64 b2], .int .i64 n] w fun e w' => e = .returned (.bool true) ∧ Below w.heap.size w w' := by
  have heq := eq3
  have CA := Lib.hid (fun W => (by have h := add_any a0 a1 a2 b0 b1 b2 W; rw [hc] at h; exact h : Calls Try.prog 4 #[.agg #[.int .i64 a0, .int .i64 a1, .int .i64 a2], .agg #[.int .i64 b0, .int .i64 b1, .int .i64 b2]] W (Ret4 c0 c1 c2 f W)))
  have CB := Lib.hid (fun W => (by have h := radd_any a0 a1 a2 b0 b1 b2 W; rw [hc] at h; exact h : Calls Try.prog 5 #[.agg #[.int .i64 a0, .int .i64 a1, .int .i64 a2], .agg #[.int .i64 b0, .int .i64 b1, .int .i64 b2]] W (Ret4 c0 c1 c2 f W)))
  have CM := Lib.hid (fun W => (by have h := most_any a0 a1 a2 b0 b1 b2 W; rw [hx] at h; exact h : Calls Try.prog 6 #[.agg #[.int .i64 a0, .int .i64 a1, .int .i64 a2], .agg #[.int .i64 b0, .int .i64 b1, .int .i64 b2]] W (Ret4 x0 x1 x2 g W)))
  have CN := Lib.hid (fun W => (by have h := rMost_any a0 a1 a2 b0 b1 b2 W; rw [hx] at h; exact h : Calls Try.prog 7 #[.agg #[.int .i64 a0, .int .i64 a1, .int .i64 a2], .agg #[.int .i64 b0, .int .i64 b1, .int .i64 b2]] W (Ret4 x0 x1 x2 g W)))
  have CT := Lib.hid (fun W => (by have h := times_any a0 a1 a2 n W; rw [ht] at h; exact h : Calls Try.prog 8 #[.agg #[.int .i64 a0, .int .i64 a1, .int .i64 a2], .int .i64 n] W (Ret4 t0 t1 t2 i W)))
  have CU := Lib.hid (fun W => (by have h := rtimes_any a0 a1 a2 n W; rw [ht] at h; exact h : Calls Try.prog 9 #[.agg #[.int .i64 a0, .int .i64 a1, .int .i64 a2], .int .i64 n] W (Ret4 t0 t1 t2 i W)))
  have hvb : (lsQ a0 a1 a2 == 0) = false := by simpa using hv
  clear hv
  obtain ⟨y1, y2, y3, y4, y5, y6, y7, y8, y9⟩ := add_fact hc hf
  subst hf
  have Y1 := Lib.hid y1
  have Y2 := Lib.hid y2
  clear y1 y2
  clear hc hx ht
  have HA := Lib.hid (show Blk ((w.alloc (.cells (cl3 a0 a1 a2) 22)).alloc (.cells (cl3 b0 b1 b2) 22)) w.heap.size (cl3 a0 a1 a2) 22 from (Blk.new' _ _ rfl).alloc _)
  have HB := Lib.hid (show Blk ((w.alloc (.cells (cl3 a0 a1 a2) 22)).alloc (.cells (cl3 b0 b1 b2) 22)) (w.heap.size + 1) (cl3 b0 b1 b2) 22 from Blk.new' _ _ (by simp))
  have HL := Lib.hid (show Below w.heap.size w ((w.alloc (.cells (cl3 a0 a1 a2) 22)).alloc (.cells (cl3 b0 b1 b2) 22)) from ((Below.refl _ _).alloc (Nat.le_refl _) _).alloc (by simp) _)
  go_enter Try.func3, Try.ntmps3
  go_wp2_with fail
  refine (CA.out _).mono ?_
  rintro e w1 ⟨rfl, h1⟩
  have B1 := Lib.hid (bthen HL.out h1)
  have A1 := Lib.hid (Blk.old HA.out h1)
  have Q1 := Lib.hid (Blk.old HB.out h1)
  clear h1
  obtain ⟨p0, p1, p2⟩ := A1.out.c3
  obtain ⟨q0, q1, q2⟩ := Q1.out.c3
  have l1 := A1.out.lt
  have l2 := Q1.out.lt
  go_wp2_with fail
  refine (CB.out _).mono ?_
  rintro e w2 ⟨rfl, h2⟩
  have B2 := Lib.hid (bthen (B1.out.alloc (B1.out.size) _) h2)
  have A2 := Lib.hid (Blk.old (A1.out.alloc _) h2)
  have Q2 := Lib.hid (Blk.old (Q1.out.alloc _) h2)
  have G1_2 := Lib.hid (Blk.old (Blk.new w1 (cl3 c0 c1 c2) 22) h2)
  clear h2 p0 p1 p2 q0 q1 q2 l1 l2
  obtain ⟨p0, p1, p2⟩ := A2.out.c3
  obtain ⟨q0, q1, q2⟩ := Q2.out.c3
  have l1 := A2.out.lt
  have l2 := Q2.out.lt
  go_wp2_with fail
  refine (CM.out _).mono ?_
  rintro e w3 ⟨rfl, h3⟩
  have B3 := Lib.hid (bthen (B2.out.alloc (B2.out.size) _) h3)
  have A3 := Lib.hid (Blk.old (A2.out.alloc _) h3)
  have Q3 := Lib.hid (Blk.old (Q2.out.alloc _) h3)
  have G1_3 := Lib.hid (Blk.old (G1_2.out.alloc _) h3)
  have G2_3 := Lib.hid (Blk.old (Blk.new w2 (cl3 c0 c1 c2) 22) h3)
  clear h3 p0 p1 p2 q0 q1 q2 l1 l2
  obtain ⟨p0, p1, p2⟩ := A3.out.c3
  obtain ⟨q0, q1, q2⟩ := Q3.out.c3
  have l1 := A3.out.lt
  have l2 := Q3.out.lt
  go_wp2_with fail
  refine (CN.out _).mono ?_
  rintro e w4 ⟨rfl, h4⟩
  have B4 := Lib.hid (bthen (B3.out.alloc (B3.out.size) _) h4)
  have A4 := Lib.hid (Blk.old (A3.out.alloc _) h4)
  have Q4 := Lib.hid (Blk.old (Q3.out.alloc _) h4)
  have G1_4 := Lib.hid (Blk.old (G1_3.out.alloc _) h4)
  have G2_4 := Lib.hid (Blk.old (G2_3.out.alloc _) h4)
  have G3_4 := Lib.hid (Blk.old (Blk.new w3 (cl3 x0 x1 x2) 22) h4)
  clear h4 p0 p1 p2 q0 q1 q2 l1 l2
  obtain ⟨p0, p1, p2⟩ := A4.out.c3
  obtain ⟨q0, q1, q2⟩ := Q4.out.c3
  have l1 := A4.out.lt
  have l2 := Q4.out.lt
  go_wp2_with fail
  refine (CT.out _).mono ?_
  rintro e w5 ⟨rfl, h5⟩
  have B5 := Lib.hid (bthen (B4.out.alloc (B4.out.size) _) h5)
  have A5 := Lib.hid (Blk.old (A4.out.alloc _) h5)
  have Q5 := Lib.hid (Blk.old (Q4.out.alloc _) h5)
  have G1_5 := Lib.hid (Blk.old (G1_4.out.alloc _) h5)
  have G2_5 := Lib.hid (Blk.old (G2_4.out.alloc _) h5)
  have G3_5 := Lib.hid (Blk.old (G3_4.out.alloc _) h5)
  have G4_5 := Lib.hid (Blk.old (Blk.new w4 (cl3 x0 x1 x2) 22) h5)
  clear h5 p0 p1 p2 q0 q1 q2 l1 l2
  obtain ⟨p0, p1, p2⟩ := A5.out.c3
  obtain ⟨q0, q1, q2⟩ := Q5.out.c3
  have l1 := A5.out.lt
  have l2 := Q5.out.lt
  go_wp2_with fail
  refine (CU.out _).mono ?_
  rintro e w6 ⟨rfl, h6⟩
  have B6 := Lib.hid (bthen (B5.out.alloc (B5.out.size) _) h6)
  have A6 := Lib.hid (Blk.old (A5.out.alloc _) h6)
  have Q6 := Lib.hid (Blk.old (Q5.out.alloc _) h6)
  have G1_6 := Lib.hid (Blk.old (G1_5.out.alloc _) h6)
  have G2_6 := Lib.hid (Blk.old (G2_5.out.alloc _) h6)
  have G3_6 := Lib.hid (Blk.old (G3_5.out.alloc _) h6)
  have G4_6 := Lib.hid (Blk.old (G4_5.out.alloc _) h6)
  have G5_6 := Lib.hid (Blk.old (Blk.new w5 (cl3 t0 t1 t2) 22) h6)
  clear h6 p0 p1 p2 q0 q1 q2 l1 l2
  obtain ⟨p0, p1, p2⟩ := A6.out.c3
  obtain ⟨q0, q1, q2⟩ := Q6.out.c3
  have l1 := A6.out.lt
  have l2 := Q6.out.lt
  go_wp2_with fail
  refine (pages_u a0 a1 a2 _).mono ?_
  rintro e w7 ⟨rfl, h7⟩
  have B7 := Lib.hid (bthen (B6.out.alloc (B6.out.size) _) h7)
  have A7 := Lib.hid (Blk.old (A6.out.alloc _) h7)
  have Q7 := Lib.hid (Blk.old (Q6.out.alloc _) h7)
  have G1_7 := Lib.hid (Blk.old (G1_6.out.alloc _) h7)
  have G2_7 := Lib.hid (Blk.old (G2_6.out.alloc _) h7)
  have G3_7 := Lib.hid (Blk.old (G3_6.out.alloc _) h7)
  have G4_7 := Lib.hid (Blk.old (G4_6.out.alloc _) h7)
  have G5_7 := Lib.hid (Blk.old (G5_6.out.alloc _) h7)
  have G6_7 := Lib.hid (Blk.old (Blk.new w6 (cl3 t0 t1 t2) 22) h7)
  clear h7 p0 p1 p2 q0 q1 q2 l1 l2
  obtain ⟨p0, p1, p2⟩ := A7.out.c3
  obtain ⟨q0, q1, q2⟩ := Q7.out.c3
  have l1 := A7.out.lt
  have l2 := Q7.out.lt
  go_wp2_with fail
  refine (rpages_u a0 a1 a2 _).mono ?_
  rintro e w8 ⟨rfl, h8⟩
  have B8 := Lib.hid (bthen B7.out h8)
  have A8 := Lib.hid (Blk.old A7.out h8)
  have Q8 := Lib.hid (Blk.old Q7.out h8)
  have G1_8 := Lib.hid (Blk.old G1_7.out h8)
  have G2_8 := Lib.hid (Blk.old G2_7.out h8)
  have G3_8 := Lib.hid (Blk.old G3_7.out h8)
  have G4_8 := Lib.hid (Blk.old G4_7.out h8)
  have G5_8 := Lib.hid (Blk.old G5_7.out h8)
  have G6_8 := Lib.hid (Blk.old G6_7.out h8)
  clear h8 p0 p1 p2 q0 q1 q2 l1 l2
  obtain ⟨p0, p1, p2⟩ := A8.out.c3
  obtain ⟨q0, q1, q2⟩ := Q8.out.c3
  have l1 := A8.out.lt
  have l2 := Q8.out.lt
  go_wp2_with fail
  refine (loose_u a0 a1 a2 _).mono ?_
  rintro e w9 ⟨rfl, h9⟩
  have B9 := Lib.hid (bthen B8.out h9)
  have A9 := Lib.hid (Blk.old A8.out h9)
  have Q9 := Lib.hid (Blk.old Q8.out h9)
  have G1_9 := Lib.hid (Blk.old G1_8.out h9)
  have G2_9 := Lib.hid (Blk.old G2_8.out h9)
  have G3_9 := Lib.hid (Blk.old G3_8.out h9)
  have G4_9 := Lib.hid (Blk.old G4_8.out h9)
  have G5_9 := Lib.hid (Blk.old G5_8.out h9)
  have G6_9 := Lib.hid (Blk.old G6_8.out h9)
  clear h9 p0 p1 p2 q0 q1 q2 l1 l2
  obtain ⟨p0, p1, p2⟩ := A9.out.c3
  obtain ⟨q0, q1, q2⟩ := Q9.out.c3
  have l1 := A9.out.lt
  have l2 := Q9.out.lt
  go_wp2_with fail
  refine (rloose_u a0 a1 a2 _).mono ?_
  rintro e w10 ⟨rfl, h10⟩
  have B10 := Lib.hid (bthen B9.out h10)
  have A10 := Lib.hid (Blk.old A9.out h10)
  have Q10 := Lib.hid (Blk.old Q9.out h10)
  have G1_10 := Lib.hid (Blk.old G1_9.out h10)
  have G2_10 := Lib.hid (Blk.old G2_9.out h10)
  have G3_10 := Lib.hid (Blk.old G3_9.out h10)
  have G4_10 := Lib.hid (Blk.old G4_9.out h10)
  have G5_10 := Lib.hid (Blk.old G5_9.out h10)
  have G6_10 := Lib.hid (Blk.old G6_9.out h10)
  clear h10 p0 p1 p2 q0 q1 q2 l1 l2
  obtain ⟨p0, p1, p2⟩ := A10.out.c3
  obtain ⟨q0, q1, q2⟩ := Q10.out.c3
  have l1 := A10.out.lt
  have l2 := Q10.out.lt
  go_wp2_with fail
  refine (fits_u a0 a1 a2 n _).mono ?_
  rintro e w11 ⟨rfl, h11⟩
  have B11 := Lib.hid (bthen B10.out h11)
  have A11 := Lib.hid (Blk.old A10.out h11)
  have Q11 := Lib.hid (Blk.old Q10.out h11)
  have G1_11 := Lib.hid (Blk.old G1_10.out h11)
  have G2_11 := Lib.hid (Blk.old G2_10.out h11)
  have G3_11 := Lib.hid (Blk.old G3_10.out h11)
  have G4_11 := Lib.hid (Blk.old G4_10.out h11)
  have G5_11 := Lib.hid (Blk.old G5_10.out h11)
  have G6_11 := Lib.hid (Blk.old G6_10.out h11)
  clear h11 p0 p1 p2 q0 q1 q2 l1 l2
  obtain ⟨p0, p1, p2⟩ := A11.out.c3
  obtain ⟨q0, q1, q2⟩ := Q11.out.c3
  have l1 := A11.out.lt
  have l2 := Q11.out.lt
  go_wp2_with fail
  refine (rfits_u a0 a1 a2 n _).mono ?_
  rintro e w12 ⟨rfl, h12⟩
  have B12 := Lib.hid (bthen B11.out h12)
  have A12 := Lib.hid (Blk.old A11.out h12)
  have Q12 := Lib.hid (Blk.old Q11.out h12)
  have G1_12 := Lib.hid (Blk.old G1_11.out h12)
  have G2_12 := Lib.hid (Blk.old G2_11.out h12)
  have G3_12 := Lib.hid (Blk.old G3_11.out h12)
  have G4_12 := Lib.hid (Blk.old G4_11.out h12)
  have G5_12 := Lib.hid (Blk.old G5_11.out h12)
  have G6_12 := Lib.hid (Blk.old G6_11.out h12)
  clear h12 p0 p1 p2 q0 q1 q2 l1 l2
  obtain ⟨p0, p1, p2⟩ := A12.out.c3
  obtain ⟨q0, q1, q2⟩ := Q12.out.c3
  have l1 := A12.out.lt
  have l2 := Q12.out.lt
  obtain ⟨g10, g11, g12⟩ := (G1_12.out).c3
  obtain ⟨g20, g21, g22⟩ := (G2_12.out).c3
  obtain ⟨g30, g31, g32⟩ := (G3_12.out).c3
  obtain ⟨g40, g41, g42⟩ := (G4_12.out).c3
  obtain ⟨g50, g51, g52⟩ := (G5_12.out).c3
  obtain ⟨g60, g61, g62⟩ := (G6_12.out).c3
  go_wp2_with fail
  refine (pages_u c0 c1 c2 _).mono ?_
  rintro e w13 ⟨rfl, h13⟩
  rw [Y1.out]
  obtain ⟨r0, r1, r2⟩ := (Q12.out.old h13).c3
  have B13 := Lib.hid (bthen B12.out h13)
  clear h13
  go_wp2_with fail
  refine (pages_u b0 b1 b2 _).mono ?_
  rintro e w14 ⟨rfl, h14⟩
  rw [Y2.out]
  have B14 := Lib.hid (bthen B13.out h14)
  clear h14
  go_wp2_with (go_at_call 16; refine (sane_any _).mono ?_; rintro e w15 ⟨rfl, h15⟩)
  go_ret
  exact ⟨rfl, bthen B14.out h15⟩

set_option maxRecDepth 100000 in
set_option maxHeartbeats 4000000 in
theorem liveSums_ft (a0 a1 a2 b0 b1 b2 n : Int) (w : World) {c0 c1 c2 f x0 x1 x2 g t0 t1 t2 i : Int} (hc : add3 a0 a1 a2 b0 b1 b2 = ((c0, c1, c2), f)) (hx : most3 a0 a1 a2 b0 b1 b2 = ((x0, x1, x2), g)) (ht : times3 a0 a1 a2 n = ((t0, t1, t2), i)) (hf : f ≠ 0) (hv : lsQ a0 a1 a2 = 0) :
    Calls Try.prog 3 #[.agg #[.int .i64 a0, .int .i64 a1, .int .i64 a2], .agg #[.int .i64 b0, .int .i64 b1, .int .i64 b2], .int .i64 n] w fun e w' => e = .returned (.bool true) ∧ Below w.heap.size w w' := by
  have heq := eq3
  have CA := Lib.hid (fun W => (by have h := add_any a0 a1 a2 b0 b1 b2 W; rw [hc] at h; exact h : Calls Try.prog 4 #[.agg #[.int .i64 a0, .int .i64 a1, .int .i64 a2], .agg #[.int .i64 b0, .int .i64 b1, .int .i64 b2]] W (Ret4 c0 c1 c2 f W)))
  have CB := Lib.hid (fun W => (by have h := radd_any a0 a1 a2 b0 b1 b2 W; rw [hc] at h; exact h : Calls Try.prog 5 #[.agg #[.int .i64 a0, .int .i64 a1, .int .i64 a2], .agg #[.int .i64 b0, .int .i64 b1, .int .i64 b2]] W (Ret4 c0 c1 c2 f W)))
  have CM := Lib.hid (fun W => (by have h := most_any a0 a1 a2 b0 b1 b2 W; rw [hx] at h; exact h : Calls Try.prog 6 #[.agg #[.int .i64 a0, .int .i64 a1, .int .i64 a2], .agg #[.int .i64 b0, .int .i64 b1, .int .i64 b2]] W (Ret4 x0 x1 x2 g W)))
  have CN := Lib.hid (fun W => (by have h := rMost_any a0 a1 a2 b0 b1 b2 W; rw [hx] at h; exact h : Calls Try.prog 7 #[.agg #[.int .i64 a0, .int .i64 a1, .int .i64 a2], .agg #[.int .i64 b0, .int .i64 b1, .int .i64 b2]] W (Ret4 x0 x1 x2 g W)))
  have CT := Lib.hid (fun W => (by have h := times_any a0 a1 a2 n W; rw [ht] at h; exact h : Calls Try.prog 8 #[.agg #[.int .i64 a0, .int .i64 a1, .int .i64 a2], .int .i64 n] W (Ret4 t0 t1 t2 i W)))
  have CU := Lib.hid (fun W => (by have h := rtimes_any a0 a1 a2 n W; rw [ht] at h; exact h : Calls Try.prog 9 #[.agg #[.int .i64 a0, .int .i64 a1, .int .i64 a2], .int .i64 n] W (Ret4 t0 t1 t2 i W)))
  have hp := loose_fact a0 a1 a2 hv
  have hvb : (lsQ a0 a1 a2 == 0) = true := by simpa using hv
  clear hv
  have hfb : (f == 0) = false := by simpa using hf
  clear hf
  clear hc hx ht
  have HA := Lib.hid (show Blk ((w.alloc (.cells (cl3 a0 a1 a2) 22)).alloc (.cells (cl3 b0 b1 b2) 22)) w.heap.size (cl3 a0 a1 a2) 22 from (Blk.new' _ _ rfl).alloc _)
  have HB := Lib.hid (show Blk ((w.alloc (.cells (cl3 a0 a1 a2) 22)).alloc (.cells (cl3 b0 b1 b2) 22)) (w.heap.size + 1) (cl3 b0 b1 b2) 22 from Blk.new' _ _ (by simp))
  have HL := Lib.hid (show Below w.heap.size w ((w.alloc (.cells (cl3 a0 a1 a2) 22)).alloc (.cells (cl3 b0 b1 b2) 22)) from ((Below.refl _ _).alloc (Nat.le_refl _) _).alloc (by simp) _)
  go_enter Try.func3, Try.ntmps3
  go_wp2_with fail
  refine (CA.out _).mono ?_
  rintro e w1 ⟨rfl, h1⟩
  have B1 := Lib.hid (bthen HL.out h1)
  have A1 := Lib.hid (Blk.old HA.out h1)
  have Q1 := Lib.hid (Blk.old HB.out h1)
  clear h1
  obtain ⟨p0, p1, p2⟩ := A1.out.c3
  obtain ⟨q0, q1, q2⟩ := Q1.out.c3
  have l1 := A1.out.lt
  have l2 := Q1.out.lt
  go_wp2_with fail
  refine (CB.out _).mono ?_
  rintro e w2 ⟨rfl, h2⟩
  have B2 := Lib.hid (bthen (B1.out.alloc (B1.out.size) _) h2)
  have A2 := Lib.hid (Blk.old (A1.out.alloc _) h2)
  have Q2 := Lib.hid (Blk.old (Q1.out.alloc _) h2)
  have G1_2 := Lib.hid (Blk.old (Blk.new w1 (cl3 c0 c1 c2) 22) h2)
  clear h2 p0 p1 p2 q0 q1 q2 l1 l2
  obtain ⟨p0, p1, p2⟩ := A2.out.c3
  obtain ⟨q0, q1, q2⟩ := Q2.out.c3
  have l1 := A2.out.lt
  have l2 := Q2.out.lt
  go_wp2_with fail
  refine (CM.out _).mono ?_
  rintro e w3 ⟨rfl, h3⟩
  have B3 := Lib.hid (bthen (B2.out.alloc (B2.out.size) _) h3)
  have A3 := Lib.hid (Blk.old (A2.out.alloc _) h3)
  have Q3 := Lib.hid (Blk.old (Q2.out.alloc _) h3)
  have G1_3 := Lib.hid (Blk.old (G1_2.out.alloc _) h3)
  have G2_3 := Lib.hid (Blk.old (Blk.new w2 (cl3 c0 c1 c2) 22) h3)
  clear h3 p0 p1 p2 q0 q1 q2 l1 l2
  obtain ⟨p0, p1, p2⟩ := A3.out.c3
  obtain ⟨q0, q1, q2⟩ := Q3.out.c3
  have l1 := A3.out.lt
  have l2 := Q3.out.lt
  go_wp2_with fail
  refine (CN.out _).mono ?_
  rintro e w4 ⟨rfl, h4⟩
  have B4 := Lib.hid (bthen (B3.out.alloc (B3.out.size) _) h4)
  have A4 := Lib.hid (Blk.old (A3.out.alloc _) h4)
  have Q4 := Lib.hid (Blk.old (Q3.out.alloc _) h4)
  have G1_4 := Lib.hid (Blk.old (G1_3.out.alloc _) h4)
  have G2_4 := Lib.hid (Blk.old (G2_3.out.alloc _) h4)
  have G3_4 := Lib.hid (Blk.old (Blk.new w3 (cl3 x0 x1 x2) 22) h4)
  clear h4 p0 p1 p2 q0 q1 q2 l1 l2
  obtain ⟨p0, p1, p2⟩ := A4.out.c3
  obtain ⟨q0, q1, q2⟩ := Q4.out.c3
  have l1 := A4.out.lt
  have l2 := Q4.out.lt
  go_wp2_with fail
  refine (CT.out _).mono ?_
  rintro e w5 ⟨rfl, h5⟩
  have B5 := Lib.hid (bthen (B4.out.alloc (B4.out.size) _) h5)
  have A5 := Lib.hid (Blk.old (A4.out.alloc _) h5)
  have Q5 := Lib.hid (Blk.old (Q4.out.alloc _) h5)
  have G1_5 := Lib.hid (Blk.old (G1_4.out.alloc _) h5)
  have G2_5 := Lib.hid (Blk.old (G2_4.out.alloc _) h5)
  have G3_5 := Lib.hid (Blk.old (G3_4.out.alloc _) h5)
  have G4_5 := Lib.hid (Blk.old (Blk.new w4 (cl3 x0 x1 x2) 22) h5)
  clear h5 p0 p1 p2 q0 q1 q2 l1 l2
  obtain ⟨p0, p1, p2⟩ := A5.out.c3
  obtain ⟨q0, q1, q2⟩ := Q5.out.c3
  have l1 := A5.out.lt
  have l2 := Q5.out.lt
  go_wp2_with fail
  refine (CU.out _).mono ?_
  rintro e w6 ⟨rfl, h6⟩
  have B6 := Lib.hid (bthen (B5.out.alloc (B5.out.size) _) h6)
  have A6 := Lib.hid (Blk.old (A5.out.alloc _) h6)
  have Q6 := Lib.hid (Blk.old (Q5.out.alloc _) h6)
  have G1_6 := Lib.hid (Blk.old (G1_5.out.alloc _) h6)
  have G2_6 := Lib.hid (Blk.old (G2_5.out.alloc _) h6)
  have G3_6 := Lib.hid (Blk.old (G3_5.out.alloc _) h6)
  have G4_6 := Lib.hid (Blk.old (G4_5.out.alloc _) h6)
  have G5_6 := Lib.hid (Blk.old (Blk.new w5 (cl3 t0 t1 t2) 22) h6)
  clear h6 p0 p1 p2 q0 q1 q2 l1 l2
  obtain ⟨p0, p1, p2⟩ := A6.out.c3
  obtain ⟨q0, q1, q2⟩ := Q6.out.c3
  have l1 := A6.out.lt
  have l2 := Q6.out.lt
  go_wp2_with fail
  refine (pages_u a0 a1 a2 _).mono ?_
  rintro e w7 ⟨rfl, h7⟩
  have B7 := Lib.hid (bthen (B6.out.alloc (B6.out.size) _) h7)
  have A7 := Lib.hid (Blk.old (A6.out.alloc _) h7)
  have Q7 := Lib.hid (Blk.old (Q6.out.alloc _) h7)
  have G1_7 := Lib.hid (Blk.old (G1_6.out.alloc _) h7)
  have G2_7 := Lib.hid (Blk.old (G2_6.out.alloc _) h7)
  have G3_7 := Lib.hid (Blk.old (G3_6.out.alloc _) h7)
  have G4_7 := Lib.hid (Blk.old (G4_6.out.alloc _) h7)
  have G5_7 := Lib.hid (Blk.old (G5_6.out.alloc _) h7)
  have G6_7 := Lib.hid (Blk.old (Blk.new w6 (cl3 t0 t1 t2) 22) h7)
  clear h7 p0 p1 p2 q0 q1 q2 l1 l2
  obtain ⟨p0, p1, p2⟩ := A7.out.c3
  obtain ⟨q0, q1, q2⟩ := Q7.out.c3
  have l1 := A7.out.lt
  have l2 := Q7.out.lt
  go_wp2_with fail
  refine (rpages_u a0 a1 a2 _).mono ?_
  rintro e w8 ⟨rfl, h8⟩
  have B8 := Lib.hid (bthen B7.out h8)
  have A8 := Lib.hid (Blk.old A7.out h8)
  have Q8 := Lib.hid (Blk.old Q7.out h8)
  have G1_8 := Lib.hid (Blk.old G1_7.out h8)
  have G2_8 := Lib.hid (Blk.old G2_7.out h8)
  have G3_8 := Lib.hid (Blk.old G3_7.out h8)
  have G4_8 := Lib.hid (Blk.old G4_7.out h8)
  have G5_8 := Lib.hid (Blk.old G5_7.out h8)
  have G6_8 := Lib.hid (Blk.old G6_7.out h8)
  clear h8 p0 p1 p2 q0 q1 q2 l1 l2
  obtain ⟨p0, p1, p2⟩ := A8.out.c3
  obtain ⟨q0, q1, q2⟩ := Q8.out.c3
  have l1 := A8.out.lt
  have l2 := Q8.out.lt
  go_wp2_with fail
  refine (loose_u a0 a1 a2 _).mono ?_
  rintro e w9 ⟨rfl, h9⟩
  have B9 := Lib.hid (bthen B8.out h9)
  have A9 := Lib.hid (Blk.old A8.out h9)
  have Q9 := Lib.hid (Blk.old Q8.out h9)
  have G1_9 := Lib.hid (Blk.old G1_8.out h9)
  have G2_9 := Lib.hid (Blk.old G2_8.out h9)
  have G3_9 := Lib.hid (Blk.old G3_8.out h9)
  have G4_9 := Lib.hid (Blk.old G4_8.out h9)
  have G5_9 := Lib.hid (Blk.old G5_8.out h9)
  have G6_9 := Lib.hid (Blk.old G6_8.out h9)
  clear h9 p0 p1 p2 q0 q1 q2 l1 l2
  obtain ⟨p0, p1, p2⟩ := A9.out.c3
  obtain ⟨q0, q1, q2⟩ := Q9.out.c3
  have l1 := A9.out.lt
  have l2 := Q9.out.lt
  go_wp2_with fail
  refine (rloose_u a0 a1 a2 _).mono ?_
  rintro e w10 ⟨rfl, h10⟩
  have B10 := Lib.hid (bthen B9.out h10)
  have A10 := Lib.hid (Blk.old A9.out h10)
  have Q10 := Lib.hid (Blk.old Q9.out h10)
  have G1_10 := Lib.hid (Blk.old G1_9.out h10)
  have G2_10 := Lib.hid (Blk.old G2_9.out h10)
  have G3_10 := Lib.hid (Blk.old G3_9.out h10)
  have G4_10 := Lib.hid (Blk.old G4_9.out h10)
  have G5_10 := Lib.hid (Blk.old G5_9.out h10)
  have G6_10 := Lib.hid (Blk.old G6_9.out h10)
  clear h10 p0 p1 p2 q0 q1 q2 l1 l2
  obtain ⟨p0, p1, p2⟩ := A10.out.c3
  obtain ⟨q0, q1, q2⟩ := Q10.out.c3
  have l1 := A10.out.lt
  have l2 := Q10.out.lt
  go_wp2_with fail
  refine (fits_u a0 a1 a2 n _).mono ?_
  rintro e w11 ⟨rfl, h11⟩
  have B11 := Lib.hid (bthen B10.out h11)
  have A11 := Lib.hid (Blk.old A10.out h11)
  have Q11 := Lib.hid (Blk.old Q10.out h11)
  have G1_11 := Lib.hid (Blk.old G1_10.out h11)
  have G2_11 := Lib.hid (Blk.old G2_10.out h11)
  have G3_11 := Lib.hid (Blk.old G3_10.out h11)
  have G4_11 := Lib.hid (Blk.old G4_10.out h11)
  have G5_11 := Lib.hid (Blk.old G5_10.out h11)
  have G6_11 := Lib.hid (Blk.old G6_10.out h11)
  clear h11 p0 p1 p2 q0 q1 q2 l1 l2
  obtain ⟨p0, p1, p2⟩ := A11.out.c3
  obtain ⟨q0, q1, q2⟩ := Q11.out.c3
  have l1 := A11.out.lt
  have l2 := Q11.out.lt
  go_wp2_with fail
  refine (rfits_u a0 a1 a2 n _).mono ?_
  rintro e w12 ⟨rfl, h12⟩
  have B12 := Lib.hid (bthen B11.out h12)
  have A12 := Lib.hid (Blk.old A11.out h12)
  have Q12 := Lib.hid (Blk.old Q11.out h12)
  have G1_12 := Lib.hid (Blk.old G1_11.out h12)
  have G2_12 := Lib.hid (Blk.old G2_11.out h12)
  have G3_12 := Lib.hid (Blk.old G3_11.out h12)
  have G4_12 := Lib.hid (Blk.old G4_11.out h12)
  have G5_12 := Lib.hid (Blk.old G5_11.out h12)
  have G6_12 := Lib.hid (Blk.old G6_11.out h12)
  clear h12 p0 p1 p2 q0 q1 q2 l1 l2
  obtain ⟨p0, p1, p2⟩ := A12.out.c3
  obtain ⟨q0, q1, q2⟩ := Q12.out.c3
  have l1 := A12.out.lt
  have l2 := Q12.out.lt
  obtain ⟨g10, g11, g12⟩ := (G1_12.out).c3
  obtain ⟨g20, g21, g22⟩ := (G2_12.out).c3
  obtain ⟨g30, g31, g32⟩ := (G3_12.out).c3
  obtain ⟨g40, g41, g42⟩ := (G4_12.out).c3
  obtain ⟨g50, g51, g52⟩ := (G5_12.out).c3
  obtain ⟨g60, g61, g62⟩ := (G6_12.out).c3
  go_wp2_with (go_at_call 16; refine (sane_any _).mono ?_; rintro e w15 ⟨rfl, h15⟩)
  go_ret
  exact ⟨rfl, bthen B12.out h15⟩

set_option maxRecDepth 100000 in
set_option maxHeartbeats 4000000 in
theorem liveSums_ff (a0 a1 a2 b0 b1 b2 n : Int) (w : World) {c0 c1 c2 f x0 x1 x2 g t0 t1 t2 i : Int} (hc : add3 a0 a1 a2 b0 b1 b2 = ((c0, c1, c2), f)) (hx : most3 a0 a1 a2 b0 b1 b2 = ((x0, x1, x2), g)) (ht : times3 a0 a1 a2 n = ((t0, t1, t2), i)) (hf : f ≠ 0) (hv : lsQ a0 a1 a2 ≠ 0) :
    Calls Try.prog 3 #[.agg #[.int .i64 a0, .int .i64 a1, .int .i64 a2], .agg #[.int .i64 b0, .int .i64 b1, .int .i64 b2], .int .i64 n] w fun e w' => e = .returned (.bool true) ∧ Below w.heap.size w w' := by
  have heq := eq3
  have CA := Lib.hid (fun W => (by have h := add_any a0 a1 a2 b0 b1 b2 W; rw [hc] at h; exact h : Calls Try.prog 4 #[.agg #[.int .i64 a0, .int .i64 a1, .int .i64 a2], .agg #[.int .i64 b0, .int .i64 b1, .int .i64 b2]] W (Ret4 c0 c1 c2 f W)))
  have CB := Lib.hid (fun W => (by have h := radd_any a0 a1 a2 b0 b1 b2 W; rw [hc] at h; exact h : Calls Try.prog 5 #[.agg #[.int .i64 a0, .int .i64 a1, .int .i64 a2], .agg #[.int .i64 b0, .int .i64 b1, .int .i64 b2]] W (Ret4 c0 c1 c2 f W)))
  have CM := Lib.hid (fun W => (by have h := most_any a0 a1 a2 b0 b1 b2 W; rw [hx] at h; exact h : Calls Try.prog 6 #[.agg #[.int .i64 a0, .int .i64 a1, .int .i64 a2], .agg #[.int .i64 b0, .int .i64 b1, .int .i64 b2]] W (Ret4 x0 x1 x2 g W)))
  have CN := Lib.hid (fun W => (by have h := rMost_any a0 a1 a2 b0 b1 b2 W; rw [hx] at h; exact h : Calls Try.prog 7 #[.agg #[.int .i64 a0, .int .i64 a1, .int .i64 a2], .agg #[.int .i64 b0, .int .i64 b1, .int .i64 b2]] W (Ret4 x0 x1 x2 g W)))
  have CT := Lib.hid (fun W => (by have h := times_any a0 a1 a2 n W; rw [ht] at h; exact h : Calls Try.prog 8 #[.agg #[.int .i64 a0, .int .i64 a1, .int .i64 a2], .int .i64 n] W (Ret4 t0 t1 t2 i W)))
  have CU := Lib.hid (fun W => (by have h := rtimes_any a0 a1 a2 n W; rw [ht] at h; exact h : Calls Try.prog 9 #[.agg #[.int .i64 a0, .int .i64 a1, .int .i64 a2], .int .i64 n] W (Ret4 t0 t1 t2 i W)))
  have hvb : (lsQ a0 a1 a2 == 0) = false := by simpa using hv
  clear hv
  have hfb : (f == 0) = false := by simpa using hf
  clear hf
  clear hc hx ht
  have HA := Lib.hid (show Blk ((w.alloc (.cells (cl3 a0 a1 a2) 22)).alloc (.cells (cl3 b0 b1 b2) 22)) w.heap.size (cl3 a0 a1 a2) 22 from (Blk.new' _ _ rfl).alloc _)
  have HB := Lib.hid (show Blk ((w.alloc (.cells (cl3 a0 a1 a2) 22)).alloc (.cells (cl3 b0 b1 b2) 22)) (w.heap.size + 1) (cl3 b0 b1 b2) 22 from Blk.new' _ _ (by simp))
  have HL := Lib.hid (show Below w.heap.size w ((w.alloc (.cells (cl3 a0 a1 a2) 22)).alloc (.cells (cl3 b0 b1 b2) 22)) from ((Below.refl _ _).alloc (Nat.le_refl _) _).alloc (by simp) _)
  go_enter Try.func3, Try.ntmps3
  go_wp2_with fail
  refine (CA.out _).mono ?_
  rintro e w1 ⟨rfl, h1⟩
  have B1 := Lib.hid (bthen HL.out h1)
  have A1 := Lib.hid (Blk.old HA.out h1)
  have Q1 := Lib.hid (Blk.old HB.out h1)
  clear h1
  obtain ⟨p0, p1, p2⟩ := A1.out.c3
  obtain ⟨q0, q1, q2⟩ := Q1.out.c3
  have l1 := A1.out.lt
  have l2 := Q1.out.lt
  go_wp2_with fail
  refine (CB.out _).mono ?_
  rintro e w2 ⟨rfl, h2⟩
  have B2 := Lib.hid (bthen (B1.out.alloc (B1.out.size) _) h2)
  have A2 := Lib.hid (Blk.old (A1.out.alloc _) h2)
  have Q2 := Lib.hid (Blk.old (Q1.out.alloc _) h2)
  have G1_2 := Lib.hid (Blk.old (Blk.new w1 (cl3 c0 c1 c2) 22) h2)
  clear h2 p0 p1 p2 q0 q1 q2 l1 l2
  obtain ⟨p0, p1, p2⟩ := A2.out.c3
  obtain ⟨q0, q1, q2⟩ := Q2.out.c3
  have l1 := A2.out.lt
  have l2 := Q2.out.lt
  go_wp2_with fail
  refine (CM.out _).mono ?_
  rintro e w3 ⟨rfl, h3⟩
  have B3 := Lib.hid (bthen (B2.out.alloc (B2.out.size) _) h3)
  have A3 := Lib.hid (Blk.old (A2.out.alloc _) h3)
  have Q3 := Lib.hid (Blk.old (Q2.out.alloc _) h3)
  have G1_3 := Lib.hid (Blk.old (G1_2.out.alloc _) h3)
  have G2_3 := Lib.hid (Blk.old (Blk.new w2 (cl3 c0 c1 c2) 22) h3)
  clear h3 p0 p1 p2 q0 q1 q2 l1 l2
  obtain ⟨p0, p1, p2⟩ := A3.out.c3
  obtain ⟨q0, q1, q2⟩ := Q3.out.c3
  have l1 := A3.out.lt
  have l2 := Q3.out.lt
  go_wp2_with fail
  refine (CN.out _).mono ?_
  rintro e w4 ⟨rfl, h4⟩
  have B4 := Lib.hid (bthen (B3.out.alloc (B3.out.size) _) h4)
  have A4 := Lib.hid (Blk.old (A3.out.alloc _) h4)
  have Q4 := Lib.hid (Blk.old (Q3.out.alloc _) h4)
  have G1_4 := Lib.hid (Blk.old (G1_3.out.alloc _) h4)
  have G2_4 := Lib.hid (Blk.old (G2_3.out.alloc _) h4)
  have G3_4 := Lib.hid (Blk.old (Blk.new w3 (cl3 x0 x1 x2) 22) h4)
  clear h4 p0 p1 p2 q0 q1 q2 l1 l2
  obtain ⟨p0, p1, p2⟩ := A4.out.c3
  obtain ⟨q0, q1, q2⟩ := Q4.out.c3
  have l1 := A4.out.lt
  have l2 := Q4.out.lt
  go_wp2_with fail
  refine (CT.out _).mono ?_
  rintro e w5 ⟨rfl, h5⟩
  have B5 := Lib.hid (bthen (B4.out.alloc (B4.out.size) _) h5)
  have A5 := Lib.hid (Blk.old (A4.out.alloc _) h5)
  have Q5 := Lib.hid (Blk.old (Q4.out.alloc _) h5)
  have G1_5 := Lib.hid (Blk.old (G1_4.out.alloc _) h5)
  have G2_5 := Lib.hid (Blk.old (G2_4.out.alloc _) h5)
  have G3_5 := Lib.hid (Blk.old (G3_4.out.alloc _) h5)
  have G4_5 := Lib.hid (Blk.old (Blk.new w4 (cl3 x0 x1 x2) 22) h5)
  clear h5 p0 p1 p2 q0 q1 q2 l1 l2
  obtain ⟨p0, p1, p2⟩ := A5.out.c3
  obtain ⟨q0, q1, q2⟩ := Q5.out.c3
  have l1 := A5.out.lt
  have l2 := Q5.out.lt
  go_wp2_with fail
  refine (CU.out _).mono ?_
  rintro e w6 ⟨rfl, h6⟩
  have B6 := Lib.hid (bthen (B5.out.alloc (B5.out.size) _) h6)
  have A6 := Lib.hid (Blk.old (A5.out.alloc _) h6)
  have Q6 := Lib.hid (Blk.old (Q5.out.alloc _) h6)
  have G1_6 := Lib.hid (Blk.old (G1_5.out.alloc _) h6)
  have G2_6 := Lib.hid (Blk.old (G2_5.out.alloc _) h6)
  have G3_6 := Lib.hid (Blk.old (G3_5.out.alloc _) h6)
  have G4_6 := Lib.hid (Blk.old (G4_5.out.alloc _) h6)
  have G5_6 := Lib.hid (Blk.old (Blk.new w5 (cl3 t0 t1 t2) 22) h6)
  clear h6 p0 p1 p2 q0 q1 q2 l1 l2
  obtain ⟨p0, p1, p2⟩ := A6.out.c3
  obtain ⟨q0, q1, q2⟩ := Q6.out.c3
  have l1 := A6.out.lt
  have l2 := Q6.out.lt
  go_wp2_with fail
  refine (pages_u a0 a1 a2 _).mono ?_
  rintro e w7 ⟨rfl, h7⟩
  have B7 := Lib.hid (bthen (B6.out.alloc (B6.out.size) _) h7)
  have A7 := Lib.hid (Blk.old (A6.out.alloc _) h7)
  have Q7 := Lib.hid (Blk.old (Q6.out.alloc _) h7)
  have G1_7 := Lib.hid (Blk.old (G1_6.out.alloc _) h7)
  have G2_7 := Lib.hid (Blk.old (G2_6.out.alloc _) h7)
  have G3_7 := Lib.hid (Blk.old (G3_6.out.alloc _) h7)
  have G4_7 := Lib.hid (Blk.old (G4_6.out.alloc _) h7)
  have G5_7 := Lib.hid (Blk.old (G5_6.out.alloc _) h7)
  have G6_7 := Lib.hid (Blk.old (Blk.new w6 (cl3 t0 t1 t2) 22) h7)
  clear h7 p0 p1 p2 q0 q1 q2 l1 l2
  obtain ⟨p0, p1, p2⟩ := A7.out.c3
  obtain ⟨q0, q1, q2⟩ := Q7.out.c3
  have l1 := A7.out.lt
  have l2 := Q7.out.lt
  go_wp2_with fail
  refine (rpages_u a0 a1 a2 _).mono ?_
  rintro e w8 ⟨rfl, h8⟩
  have B8 := Lib.hid (bthen B7.out h8)
  have A8 := Lib.hid (Blk.old A7.out h8)
  have Q8 := Lib.hid (Blk.old Q7.out h8)
  have G1_8 := Lib.hid (Blk.old G1_7.out h8)
  have G2_8 := Lib.hid (Blk.old G2_7.out h8)
  have G3_8 := Lib.hid (Blk.old G3_7.out h8)
  have G4_8 := Lib.hid (Blk.old G4_7.out h8)
  have G5_8 := Lib.hid (Blk.old G5_7.out h8)
  have G6_8 := Lib.hid (Blk.old G6_7.out h8)
  clear h8 p0 p1 p2 q0 q1 q2 l1 l2
  obtain ⟨p0, p1, p2⟩ := A8.out.c3
  obtain ⟨q0, q1, q2⟩ := Q8.out.c3
  have l1 := A8.out.lt
  have l2 := Q8.out.lt
  go_wp2_with fail
  refine (loose_u a0 a1 a2 _).mono ?_
  rintro e w9 ⟨rfl, h9⟩
  have B9 := Lib.hid (bthen B8.out h9)
  have A9 := Lib.hid (Blk.old A8.out h9)
  have Q9 := Lib.hid (Blk.old Q8.out h9)
  have G1_9 := Lib.hid (Blk.old G1_8.out h9)
  have G2_9 := Lib.hid (Blk.old G2_8.out h9)
  have G3_9 := Lib.hid (Blk.old G3_8.out h9)
  have G4_9 := Lib.hid (Blk.old G4_8.out h9)
  have G5_9 := Lib.hid (Blk.old G5_8.out h9)
  have G6_9 := Lib.hid (Blk.old G6_8.out h9)
  clear h9 p0 p1 p2 q0 q1 q2 l1 l2
  obtain ⟨p0, p1, p2⟩ := A9.out.c3
  obtain ⟨q0, q1, q2⟩ := Q9.out.c3
  have l1 := A9.out.lt
  have l2 := Q9.out.lt
  go_wp2_with fail
  refine (rloose_u a0 a1 a2 _).mono ?_
  rintro e w10 ⟨rfl, h10⟩
  have B10 := Lib.hid (bthen B9.out h10)
  have A10 := Lib.hid (Blk.old A9.out h10)
  have Q10 := Lib.hid (Blk.old Q9.out h10)
  have G1_10 := Lib.hid (Blk.old G1_9.out h10)
  have G2_10 := Lib.hid (Blk.old G2_9.out h10)
  have G3_10 := Lib.hid (Blk.old G3_9.out h10)
  have G4_10 := Lib.hid (Blk.old G4_9.out h10)
  have G5_10 := Lib.hid (Blk.old G5_9.out h10)
  have G6_10 := Lib.hid (Blk.old G6_9.out h10)
  clear h10 p0 p1 p2 q0 q1 q2 l1 l2
  obtain ⟨p0, p1, p2⟩ := A10.out.c3
  obtain ⟨q0, q1, q2⟩ := Q10.out.c3
  have l1 := A10.out.lt
  have l2 := Q10.out.lt
  go_wp2_with fail
  refine (fits_u a0 a1 a2 n _).mono ?_
  rintro e w11 ⟨rfl, h11⟩
  have B11 := Lib.hid (bthen B10.out h11)
  have A11 := Lib.hid (Blk.old A10.out h11)
  have Q11 := Lib.hid (Blk.old Q10.out h11)
  have G1_11 := Lib.hid (Blk.old G1_10.out h11)
  have G2_11 := Lib.hid (Blk.old G2_10.out h11)
  have G3_11 := Lib.hid (Blk.old G3_10.out h11)
  have G4_11 := Lib.hid (Blk.old G4_10.out h11)
  have G5_11 := Lib.hid (Blk.old G5_10.out h11)
  have G6_11 := Lib.hid (Blk.old G6_10.out h11)
  clear h11 p0 p1 p2 q0 q1 q2 l1 l2
  obtain ⟨p0, p1, p2⟩ := A11.out.c3
  obtain ⟨q0, q1, q2⟩ := Q11.out.c3
  have l1 := A11.out.lt
  have l2 := Q11.out.lt
  go_wp2_with fail
  refine (rfits_u a0 a1 a2 n _).mono ?_
  rintro e w12 ⟨rfl, h12⟩
  have B12 := Lib.hid (bthen B11.out h12)
  have A12 := Lib.hid (Blk.old A11.out h12)
  have Q12 := Lib.hid (Blk.old Q11.out h12)
  have G1_12 := Lib.hid (Blk.old G1_11.out h12)
  have G2_12 := Lib.hid (Blk.old G2_11.out h12)
  have G3_12 := Lib.hid (Blk.old G3_11.out h12)
  have G4_12 := Lib.hid (Blk.old G4_11.out h12)
  have G5_12 := Lib.hid (Blk.old G5_11.out h12)
  have G6_12 := Lib.hid (Blk.old G6_11.out h12)
  clear h12 p0 p1 p2 q0 q1 q2 l1 l2
  obtain ⟨p0, p1, p2⟩ := A12.out.c3
  obtain ⟨q0, q1, q2⟩ := Q12.out.c3
  have l1 := A12.out.lt
  have l2 := Q12.out.lt
  obtain ⟨g10, g11, g12⟩ := (G1_12.out).c3
  obtain ⟨g20, g21, g22⟩ := (G2_12.out).c3
  obtain ⟨g30, g31, g32⟩ := (G3_12.out).c3
  obtain ⟨g40, g41, g42⟩ := (G4_12.out).c3
  obtain ⟨g50, g51, g52⟩ := (G5_12.out).c3
  obtain ⟨g60, g61, g62⟩ := (G6_12.out).c3
  go_wp2_with (go_at_call 16; refine (sane_any _).mono ?_; rintro e w15 ⟨rfl, h15⟩)
  go_ret
  exact ⟨rfl, bthen B12.out h15⟩

theorem liveSums_walk (a0 a1 a2 b0 b1 b2 n : Int) (w : World) :
    Calls Try.prog 3 #[.agg #[.int .i64 a0, .int .i64 a1, .int .i64 a2], .agg #[.int .i64 b0, .int .i64 b1, .int .i64 b2], .int .i64 n] w fun e w' => e = .returned (.bool true) ∧ Below w.heap.size w w' := by
  obtain ⟨⟨⟨c0, c1, c2⟩, f⟩, hc⟩ : ∃ r, add3 a0 a1 a2 b0 b1 b2 = r := ⟨_, rfl⟩
  obtain ⟨⟨⟨x0, x1, x2⟩, g⟩, hx⟩ : ∃ r, most3 a0 a1 a2 b0 b1 b2 = r := ⟨_, rfl⟩
  obtain ⟨⟨⟨t0, t1, t2⟩, i⟩, ht⟩ : ∃ r, times3 a0 a1 a2 n = r := ⟨_, rfl⟩
  by_cases hf : f = 0 <;> by_cases hv : lsQ a0 a1 a2 = 0
  · exact liveSums_tt a0 a1 a2 b0 b1 b2 n w hc hx ht hf hv
  · exact liveSums_tf a0 a1 a2 b0 b1 b2 n w hc hx ht hf hv
  · exact liveSums_ft a0 a1 a2 b0 b1 b2 n w hc hx ht hf hv
  · exact liveSums_ff a0 a1 a2 b0 b1 b2 n w hc hx ht hf hv

end Go.Proofs.Ytenaklaajdpimaa
