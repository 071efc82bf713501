/- Times of layer 17 and of its reference, each by a contract. -/
import Derived.Test.YtenaklaajdpimaaLe
namespace Go.Proofs.Ytenaklaajdpimaa
open Go.RowKit

theorem tail3 {F : Nat} {fn : Func} {r : Nat} {w w' : World} {a : Act} {x y z : Int} (hres : fn.results = #[.cell r 22]) (hr : a.tmps[r]?.getD undef = .pointer (some ⟨F, 0, none⟩)) (hd : a.defers = [])
    (h0 : w'.cell? ⟨F, 0, none⟩ = some (.int .i64 x)) (h1 : w'.cell? ⟨F, 1, none⟩ = some (.int .i64 y)) (h2 : w'.cell? ⟨F, 2, none⟩ = some (.int .i64 z)) (hb : Below w.heap.size w w') :
    bodyPost Try.prog fn (fun e w' => e = .returned (.agg #[.int .i64 x, .int .i64 y, .int .i64 z]) ∧ Below w.heap.size w w') .ret a w' :=
  bodyPost_ret (v := .agg #[.int .i64 x, .int .i64 y, .int .i64 z]) (by simp [results, hres, go_sem, hr, h0, h1, h2]) hd ⟨rfl, hb⟩

theorem mul_fn (w : World) (g : Nat) (n x y : Int) (hx : 0 ≤ x) (hx' : x ≤ 1000000000) (hn : 0 ≤ n) (hn' : n ≤ 1000000000) (hc : w.cell? ⟨g, 0, none⟩ = some (.int .i64 n)) : FnOf 32 #[.pointer (some ⟨g, 0, none⟩)] w (fun x _ => mulV n x) x y := by
  intro W hb
  exact mul1_any x y n g W hx hx' hn hn' (by rw [hb.cell (p := ⟨g, 0, none⟩) (cell_lt hc)]; exact hc)

set_option maxHeartbeats 2000000 in
theorem multiple_any (a b c n : Int) (w : World) (ha : tB a b c = true) (hn : nB n = true) :
    Calls Try.prog 26 #[.agg #[.int .i64 a, .int .i64 b, .int .i64 c], .int .i64 n] w fun e w' => e = .returned (.agg #[.int .i64 (cutV (a * n)), .int .i64 (cutV (b * n)), .int .i64 (cutV (c * n))]) ∧ Below w.heap.size w w' := by
  obtain ⟨a0, a1, b0, b1, c0, c1⟩ := tB_iff.1 ha
  obtain ⟨n0, n1⟩ : 0 ≤ n ∧ n ≤ 1000000000 := by simpa [nB] using hn
  have HC := Lib.hid (show Blk (((w.alloc (.cells (cl3 a b c) 22)).alloc (.cells #[.int .i64 n] 3)).alloc (.cells (cl3 0 0 0) 22)) (w.heap.size + 1 + 1) (cl3 0 0 0) 22 from Blk.new' _ _ (by simp))
  have HN := Lib.hid (show Blk (((w.alloc (.cells (cl3 a b c) 22)).alloc (.cells #[.int .i64 n] 3)).alloc (.cells (cl3 0 0 0) 22)) (w.heap.size + 1) #[.int .i64 n] 3 from (Blk.new' _ _ (by simp)).alloc _)
  have HL := Lib.hid (show Below w.heap.size w (((w.alloc (.cells (cl3 a b c) 22)).alloc (.cells #[.int .i64 n] 3)).alloc (.cells (cl3 0 0 0) 22)) from (((Below.refl _ _).alloc (Nat.le_refl _) _).alloc (by simp) _).alloc (by simp; omega) _)
  clear ha hn
  go_enter Try.func26, Try.ntmps26
  go_wp2_with fail
  have hc := HN.out.cell 0 rfl
  refine (zip_any 32 #[.pointer (some ⟨w.heap.size + 1, 0, none⟩)] (fun x _ => mulV n x) a b c 0 0 0 _ cf_mul1 (mul_fn _ _ _ _ _ a0 a1 n0 n1 hc) (mul_fn _ _ _ _ _ b0 b1 n0 n1 hc) (mul_fn _ _ _ _ _ c0 c1 n0 n1 hc)).mono ?_
  clear hc
  rintro e w1 ⟨rfl, hb1⟩
  rw [cut_mul a0, cut_mul b0, cut_mul c0]
  obtain ⟨qf0, qf1, qf2⟩ := (HC.out.old hb1).f3
  obtain ⟨qc0, qc1, qc2⟩ := (HC.out.old hb1).c3
  go_wp2_with fail
  have hz := set3_all (x := cutV (a * n)) (y := cutV (b * n)) (z := cutV (c * n)) (HC.out.old hb1)
  exact tail3 (F := w.heap.size + 1 + 1) Try.results26 rfl rfl hz.c3.1 hz.c3.2.1 hz.c3.2.2 (bset3 (bthen HL.out hb1) _ _ _ (by omega))

theorem big_cut (x y z : Int) : bigB (cutV x) (cutV y) (cutV z) = bigB x y z := by
  unfold bigB cutV
  rw [decide_eq_decide]
  constructor <;> intro h <;> (repeat' split at *) <;> (repeat' split) <;> omega
theorem cut_of_small {x y z : Int} (h : bigB x y z = false) : cutV x = x ∧ cutV y = y ∧ cutV z = z := by
  obtain ⟨h1, h2, h3⟩ := bigB_f h
  unfold cutV
  exact ⟨if_pos (by omega), if_pos (by omega), if_pos (by omega)⟩

set_option maxHeartbeats 2000000 in
theorem times_any (a b c n : Int) (w : World) :
    Calls Try.prog 8 #[.agg #[.int .i64 a, .int .i64 b, .int .i64 c], .int .i64 n] w (RetP (times3 a b c n) w) := by
  have HA := Lib.hid (show Blk (((w.alloc (.cells (cl3 a b c) 22)).alloc (.cells (cl3 0 0 0) 22)).alloc (.cells (cl3 a b c) 22)) w.heap.size (cl3 a b c) 22 from ((Blk.new' _ _ rfl).alloc _).alloc _)
  have HC := Lib.hid (show Blk (((w.alloc (.cells (cl3 a b c) 22)).alloc (.cells (cl3 0 0 0) 22)).alloc (.cells (cl3 a b c) 22)) (w.heap.size + 1) (cl3 0 0 0) 22 from (Blk.new' _ _ (by simp)).alloc _)
  have HL := Lib.hid (show Below w.heap.size w (((w.alloc (.cells (cl3 a b c) 22)).alloc (.cells (cl3 0 0 0) 22)).alloc (.cells (cl3 a b c) 22)) from (((Below.refl _ _).alloc (Nat.le_refl _) _).alloc (by simp) _).alloc (by simp; omega) _)
  by_cases hv : (tB a b c && nB n) = false
  · refine Calls.mono (R := Ret4 0 0 0 1 w) ?_ (fun e w' h => h.to (by unfold times3; rw [if_pos hv]))
    rcases (show tB a b c = false ∨ (tB a b c = true ∧ n < 0) ∨ (tB a b c = true ∧ 0 ≤ n ∧ 1000000000 < n) by
      cases ht : tB a b c
      · exact .inl rfl
      · simp [ht, nB] at hv; by_cases h0 : n < 0
        · exact .inr (.inl ⟨rfl, h0⟩)
        · exact .inr (.inr ⟨rfl, by omega, hv (by omega)⟩)) with ht | ⟨ht, h1⟩ | ⟨ht, h1, h2⟩
    all_goals
      clear hv
      go_enter Try.func8, Try.ntmps8
      go_wp2_with fail
      refine (are1 (w.heap.size + 1 + 1) a b c _ (Blk.new' _ _ (by simp))).mono ?_
      rintro e w1 ⟨rfl, hb1⟩
      obtain ⟨qf0, qf1, qf2⟩ := (HC.out.old hb1).f3
      obtain ⟨qc0, qc1, qc2⟩ := (HC.out.old hb1).c3
      go_wp2_with fail
      have hz := set3_all (x := 0) (y := 0) (z := 0) (HC.out.old hb1)
      exact ret4_end (F := w.heap.size + 1) Try.results8 rfl rfl rfl hz.c3.1 hz.c3.2.1 hz.c3.2.2 (bset3 (bthen HL.out hb1) _ _ _ (by omega))
  · have hv' : (tB a b c && nB n) = true := by simpa using hv
    obtain ⟨ht, hn⟩ : tB a b c = true ∧ nB n = true := by simpa using hv'
    obtain ⟨n0, n1⟩ : 0 ≤ n ∧ n ≤ 1000000000 := by simpa [nB] using hn
    cases hbig : bigB (cutV (a * n)) (cutV (b * n)) (cutV (c * n))
    · obtain ⟨e1, e2, e3⟩ := cut_of_small (by rw [big_cut] at hbig; exact hbig)
      refine Calls.mono (R := Ret4 (a * n) (b * n) (c * n) 0 w) ?_ (fun e w' h => h.to (by unfold times3; rw [if_neg (by rw [hv']; decide), hbig]; rfl))
      have HN := Lib.hid hn
      have HE := Lib.hid (And.intro e1 (And.intro e2 e3))
      clear hn e1 e2 e3 hv hv'
      go_enter Try.func8, Try.ntmps8
      go_wp2_with fail
      refine (are1 (w.heap.size + 1 + 1) a b c _ (Blk.new' _ _ (by simp))).mono ?_
      rintro e w1 ⟨rfl, hb1⟩
      obtain ⟨qa0, qa1, qa2⟩ := (HA.out.old hb1).c3
      go_wp2_with fail
      clear qa0 qa1 qa2
      refine (multiple_any a b c n _ ht HN.out).mono ?_
      rintro e w2 ⟨rfl, hb2⟩
      go_wp2_with fail
      refine (told_small _ _ _ _ hbig).mono ?_
      rintro e w3 ⟨rfl, hb3⟩
      rw [HE.out.1, HE.out.2.1, HE.out.2.2]
      obtain ⟨qf0, qf1, qf2⟩ := (((HC.out.old hb1).old hb2).old hb3).f3
      obtain ⟨qc0, qc1, qc2⟩ := (((HC.out.old hb1).old hb2).old hb3).c3
      go_wp2_with fail
      have hz := set3_all (x := a * n) (y := b * n) (z := c * n) (((HC.out.old hb1).old hb2).old hb3)
      exact ret4_end (F := w.heap.size + 1) Try.results8 rfl rfl rfl hz.c3.1 hz.c3.2.1 hz.c3.2.2 (bset3 (bthen (bthen (bthen HL.out hb1) hb2) hb3) _ _ _ (by omega))
    · refine Calls.mono (R := Ret4 0 0 0 6 w) ?_ (fun e w' h => h.to (by unfold times3; rw [if_neg (by rw [hv']; decide), hbig]; rfl))
      have HN := Lib.hid hn
      clear hn hv hv'
      go_enter Try.func8, Try.ntmps8
      go_wp2_with fail
      refine (are1 (w.heap.size + 1 + 1) a b c _ (Blk.new' _ _ (by simp))).mono ?_
      rintro e w1 ⟨rfl, hb1⟩
      obtain ⟨qa0, qa1, qa2⟩ := (HA.out.old hb1).c3
      go_wp2_with fail
      clear qa0 qa1 qa2
      refine (multiple_any a b c n _ ht HN.out).mono ?_
      rintro e w2 ⟨rfl, hb2⟩
      go_wp2_with fail
      refine (told_big _ _ _ _ hbig).mono ?_
      rintro e w3 ⟨rfl, hb3⟩
      obtain ⟨qf0, qf1, qf2⟩ := (((HC.out.old hb1).old hb2).old hb3).f3
      obtain ⟨qc0, qc1, qc2⟩ := (((HC.out.old hb1).old hb2).old hb3).c3
      go_wp2_with fail
      have hz := set3_all (x := 0) (y := 0) (z := 0) (((HC.out.old hb1).old hb2).old hb3)
      exact ret4_end (F := w.heap.size + 1) Try.results8 rfl rfl rfl hz.c3.1 hz.c3.2.1 hz.c3.2.2 (bset3 (bthen (bthen (bthen HL.out hb1) hb2) hb3) _ _ _ (by omega))

set_option maxHeartbeats 2000000 in
theorem rtimes_any (a b c n : Int) (w : World) :
    Calls Try.prog 9 #[.agg #[.int .i64 a, .int .i64 b, .int .i64 c], .int .i64 n] w (RetP (times3 a b c n) w) := by
  have HA := Lib.hid (show Blk ((w.alloc (.cells (cl3 a b c) 22)).alloc (.cells (cl3 0 0 0) 22)) w.heap.size (cl3 a b c) 22 from (Blk.new' _ _ rfl).alloc _)
  have HC := Lib.hid (show Blk ((w.alloc (.cells (cl3 a b c) 22)).alloc (.cells (cl3 0 0 0) 22)) (w.heap.size + 1) (cl3 0 0 0) 22 from Blk.new' _ _ (by simp))
  have HL := Lib.hid (show Below w.heap.size w ((w.alloc (.cells (cl3 a b c) 22)).alloc (.cells (cl3 0 0 0) 22)) from ((Below.refl _ _).alloc (Nat.le_refl _) _).alloc (by simp) _)
  by_cases hv : (tB a b c && nB n) = false
  · refine Calls.mono (R := Ret4 0 0 0 1 w) ?_ (fun e w' h => h.to (by unfold times3; rw [if_pos hv]))
    rcases (show tB a b c = false ∨ (tB a b c = true ∧ n < 0) ∨ (tB a b c = true ∧ 0 ≤ n ∧ 1000000000 < n) by
      cases ht : tB a b c
      · exact .inl rfl
      · simp [ht, nB] at hv; by_cases h0 : n < 0
        · exact .inr (.inl ⟨rfl, h0⟩)
        · exact .inr (.inr ⟨rfl, by omega, hv (by omega)⟩)) with ht | ⟨ht, h1⟩ | ⟨ht, h1, h2⟩
    all_goals
      clear hv
      go_enter Try.func9, Try.ntmps9
      go_wp2_with fail
      refine (rtriple_any a b c _).mono ?_
      rintro e w1 ⟨rfl, hb1⟩
      obtain ⟨qf0, qf1, qf2⟩ := (HC.out.old hb1).f3
      obtain ⟨qc0, qc1, qc2⟩ := (HC.out.old hb1).c3
      go_wp2_with fail
      have hz := set3_all (x := 0) (y := 0) (z := 0) (HC.out.old hb1)
      exact ret4_end (F := w.heap.size + 1) Try.results9 rfl rfl rfl hz.c3.1 hz.c3.2.1 hz.c3.2.2 (bset3 (bthen HL.out hb1) _ _ _ (by omega))
  · have hv' : (tB a b c && nB n) = true := by simpa using hv
    obtain ⟨ht, hn⟩ : tB a b c = true ∧ nB n = true := by simpa using hv'
    obtain ⟨n0, n1⟩ : 0 ≤ n ∧ n ≤ 1000000000 := by simpa [nB] using hn
    obtain ⟨a0, a1, b0, b1, c0, c1⟩ := tB_iff.1 ht
    have m1 : IntKind.i64.wrap (a * n) = a * n := IntWalk.i64_in _ (by have := mul_in a0 a1 n0 n1; omega)
    have m2 : IntKind.i64.wrap (b * n) = b * n := IntWalk.i64_in _ (by have := mul_in b0 b1 n0 n1; omega)
    have m3 : IntKind.i64.wrap (c * n) = c * n := IntWalk.i64_in _ (by have := mul_in c0 c1 n0 n1; omega)
    have hsp : ∀ e w', ((bigB (a * n) (b * n) (c * n) = false → Ret4 (a * n) (b * n) (c * n) 0 w e w') ∧ (bigB (a * n) (b * n) (c * n) = true → Ret4 0 0 0 6 w e w')) → RetP (times3 a b c n) w e w' := by
      intro e w' ⟨h1, h2⟩
      cases hb : bigB (a * n) (b * n) (c * n)
      · exact (h1 hb).to (by unfold times3; rw [if_neg (by rw [hv']; decide), big_cut, hb]; rfl)
      · exact (h2 hb).to (by unfold times3; rw [if_neg (by rw [hv']; decide), big_cut, hb]; rfl)
    refine Calls.mono ?_ hsp
    clear hsp hv hv' hn
    have HT := Lib.hid ht
    go_enter Try.func9, Try.ntmps9
    go_wp2_with fail
    refine (rtriple_any a b c _).mono ?_
    rintro e w1 ⟨rfl, hb1⟩
    have HA1 := Lib.hid (HA.out.old hb1)
    have HC1 := Lib.hid (HC.out.old hb1)
    have HL1 := Lib.hid (bthen HL.out hb1)
    go_wp2_with fail
    clear ht hb1
    obtain ⟨B, hB⟩ : ∃ B, B = w.heap.size := ⟨_, rfl⟩
    go_loopw [6] (fun i wr => ∃ k : Nat, k ≤ 3 ∧ i = .int .i64 k ∧ Blk wr w.heap.size (stg (a * n) (b * n) (c * n) a b c k) 22 ∧ Blk wr (w.heap.size + 1) (cl3 0 0 0) 22 ∧ Below w.heap.size w wr) (fun i _ => 3 - (intOf i).toNat)
    case atStart => exact ⟨0, by omega, rfl, HA1.out, HC1.out, HL1.out⟩
    case round =>
      obtain ⟨k, hk, rfl, hA, hC, hbel⟩ := hrel
      have HA2 := Lib.hid hA
      have HC2 := Lib.hid hC
      have HL2 := Lib.hid hbel
      clear hA hC hbel
      rcases (show k = 0 ∨ k = 1 ∨ k = 2 ∨ k = 3 by omega) with rfl | rfl | rfl | rfl
      · have hA : Blk wr w.heap.size (cl3 a b c) 22 := HA2.out
        have c0' := hA.cell 0 (cl3_0 _ _ _)
        have f0' := hA.frozen 0
        have HA3 := Lib.hid hA
        clear hA HA2
        go_wp2
        go_roundw
        case rel => exact ⟨1, by omega, by go_num, set3_0 HA3.out rfl, HC2.out.other (by show w.heap.size + 1 ≠ w.heap.size; omega) _, bset HL2.out _ _ (Nat.le_refl _)⟩
        case measure => simp [intOf]
      · have hA : Blk wr w.heap.size (cl3 (a * n) b c) 22 := HA2.out
        have c0' := hA.cell 1 (cl3_1 _ _ _)
        have f0' := hA.frozen 1
        have HA3 := Lib.hid hA
        clear hA HA2
        go_wp2
        go_roundw
        case rel => exact ⟨2, by omega, by go_num, set3_1 HA3.out rfl, HC2.out.other (by show w.heap.size + 1 ≠ w.heap.size; omega) _, bset HL2.out _ _ (Nat.le_refl _)⟩
        case measure => simp [intOf]
      · have hA : Blk wr w.heap.size (cl3 (a * n) (b * n) c) 22 := HA2.out
        have c0' := hA.cell 2 (cl3_2 _ _ _)
        have f0' := hA.frozen 2
        have HA3 := Lib.hid hA
        clear hA HA2
        go_wp2
        go_roundw
        case rel => exact ⟨3, by omega, by go_num, set3_2 HA3.out rfl, HC2.out.other (by show w.heap.size + 1 ≠ w.heap.size; omega) _, bset HL2.out _ _ (Nat.le_refl _)⟩
        case measure => simp [intOf]
      · have hA : Blk wr w.heap.size (cl3 (a * n) (b * n) (c * n)) 22 := HA2.out
        obtain ⟨c0', c1', c2'⟩ := hA.c3
        clear hA HA2
        go_wp2_with fail
        refine (rtold_any _ _ _ _).mono ?_
        rintro e w4 ⟨hR1, hR2⟩
        cases hbig : bigB (a * n) (b * n) (c * n)
        · obtain ⟨rfl, hb4⟩ := hR1 hbig
          obtain ⟨qf0, qf1, qf2⟩ := (HC2.out.old hb4).f3
          obtain ⟨qc0, qc1, qc2⟩ := (HC2.out.old hb4).c3
          clear hR1 hR2 c0' c1' c2'
          go_wp2_with fail
          have hz := set3_all (x := a * n) (y := b * n) (z := c * n) (HC2.out.old hb4)
          refine bodyPost_ret (v := .tuple #[.agg #[.int .i64 (a * n), .int .i64 (b * n), .int .i64 (c * n)], .int .i64 0]) (by simp [results, Try.results9, go_sem, hz.c3.1, hz.c3.2.1, hz.c3.2.2]) rfl ⟨fun _ => ⟨rfl, bset3 (bthen HL2.out hb4) _ _ _ (by omega)⟩, (fun h => by first | cases h | (simp [hbig] at h))⟩
        · obtain ⟨rfl, hb4⟩ := hR2 hbig
          obtain ⟨qf0, qf1, qf2⟩ := (HC2.out.old hb4).f3
          obtain ⟨qc0, qc1, qc2⟩ := (HC2.out.old hb4).c3
          clear hR1 hR2 c0' c1' c2'
          go_wp2_with fail
          have hz := set3_all (x := 0) (y := 0) (z := 0) (HC2.out.old hb4)
          refine bodyPost_ret (v := .tuple #[.agg #[.int .i64 0, .int .i64 0, .int .i64 0], .int .i64 6]) (by simp [results, Try.results9, go_sem, hz.c3.1, hz.c3.2.1, hz.c3.2.2]) rfl ⟨(fun h => by first | cases h | (simp [hbig] at h)), fun _ => ⟨rfl, bset3 (bthen HL2.out hb4) _ _ _ (by omega)⟩⟩

end Go.Proofs.Ytenaklaajdpimaa
