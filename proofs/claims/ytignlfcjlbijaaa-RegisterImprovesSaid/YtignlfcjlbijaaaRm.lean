/- The program's Run. -/
import Derived.Test.YtignlfcjlbijaaaRn
import Derived.Laws.CopyOwn
namespace Go.Proofs.Ytignlfcjlbijaaa
open Go.RowKit

set_option maxHeartbeats 16000000 in
set_option maxRecDepth 100000 in
theorem Run_any (W : World) (lo : Option Addr) (lc : Nat) (ho : Option Addr) (hc : Nat) (c : Cd) (hcd : CdAt W lo lc ho hc c) (ao : Option Addr) (acap : Nat) (zs : List Int) (hz : Sl .i64 W ao zs) (hzn : ao = none → acap = 0) (hzl : zs.length ≤ 1000) (most : Int) :
    Calls Try.prog 11 #[.agg #[.slice lo c.l.length lc, .slice ho c.h.length hc], .slice ao zs.length acap, .int .i64 most] W fun e w' => ∃ to tc, e = .returned (.tuple #[resV (runV c zs most) (.slice to (runV c zs most).told.length tc), .int .i64 (runE c zs most)]) ∧ Below W.heap.size W w' ∧ w'.ownsRow W.heap.size 45 2 (.slice to (runV c zs most).told.length tc) (runV c zs most).told.length (flatT (runV c zs most).told) := by
  obtain ⟨B, hB⟩ : ∃ B, B = W.heap.size := ⟨_, rfl⟩
  have HC := Lib.hid hcd
  have HZ := Lib.hid hz
  clear hcd hz
  go_enter Try.func11, Try.ntmps11
  go_wp2_with fail
  have hb0 := ((Below.refl W.heap.size W).alloc (Nat.le_refl _) (.cells #[.slice lo c.l.length lc, .slice ho c.h.length hc] 30)).alloc (by simp) (.cells #[.bool false, .int .i64 0, .int .i64 0, .int .i64 0, .slice none 0 0] 34)
  have hA0 : Blk ((W.alloc (.cells #[.slice lo c.l.length lc, .slice ho c.h.length hc] 30)).alloc (.cells #[.bool false, .int .i64 0, .int .i64 0, .int .i64 0, .slice none 0 0] 34)) B #[.slice lo c.l.length lc, .slice ho c.h.length hc] 30 := (Blk.new' _ _ hB).alloc _
  have hR0 : Blk ((W.alloc (.cells #[.slice lo c.l.length lc, .slice ho c.h.length hc] 30)).alloc (.cells #[.bool false, .int .i64 0, .int .i64 0, .int .i64 0, .slice none 0 0] 34)) (B+1) #[.bool false, .int .i64 0, .int .i64 0, .int .i64 0, .slice none 0 0] 34 := Blk.new' _ _ (by simp [hB])
  refine (Valid_any _ lo lc ho hc c (HC.out.old hb0)).mono ?_
  rintro e w1 ⟨rfl, hb1⟩
  have HA1 := Lib.hid (hA0.old hb1)
  have HR1 := Lib.hid (hR0.old hb1)
  have HL1 := Lib.hid (hb0.trans (hb1.mono hb0.size))
  clear hA0 hR0 hb1 hb0
  rw [← hB]
  have HB := Lib.hid hB
  clear hB
  have f0 := HR1.out.frozen 0
  have f1 := HR1.out.frozen 1
  have f2 := HR1.out.frozen 2
  have f3 := HR1.out.frozen 3
  have f4 := HR1.out.frozen 4
  have x0 : w1.cell? ⟨B+1, 0, none⟩ = some (.bool false) := HR1.out.cell 0 rfl
  have x1 : w1.cell? ⟨B+1, 1, none⟩ = some (.int .i64 0) := HR1.out.cell 1 rfl
  have x2 : w1.cell? ⟨B+1, 2, none⟩ = some (.int .i64 0) := HR1.out.cell 2 rfl
  have x3 : w1.cell? ⟨B+1, 3, none⟩ = some (.int .i64 0) := HR1.out.cell 3 rfl
  have x4 : w1.cell? ⟨B+1, 4, none⟩ = some (.slice none 0 0) := HR1.out.cell 4 rfl
  have l1 : B + 1 < w1.heap.size := HR1.out.lt
  have a0 : w1.cell? ⟨B, 0, none⟩ = some (.slice lo c.l.length lc) := HA1.out.cell 0 rfl
  have a1 : w1.cell? ⟨B, 1, none⟩ = some (.slice ho c.h.length hc) := HA1.out.cell 1 rfl
  by_cases hk : codeV c = true ∧ zs.length ≤ 4 ∧ 0 ≤ most ∧ most ≤ 100000
  · obtain ⟨k1, k2, k3, k4⟩ := hk
    have k2' : (zs.length : Int) ≤ 4 := by omega
    go_wp2_with fail
    refine (con3_any zs ao acap w1 hzl (SlA.of_ints (HZ.out.below HL1.out) hzn)).mono ?_
    rintro e w2 ⟨rfl, hb2⟩
    have HA2 := Lib.hid (HA1.out.old hb2)
    have HR2 := Lib.hid (HR1.out.old hb2)
    have HL2 := Lib.hid (bthen HL1.out hb2)
    clear hb2
    rcases hcv : zs.any (fun x => !vB x) with _ | _
    · obtain ⟨G, hG⟩ : ∃ G, G = w2.heap.size := ⟨_, rfl⟩
      have HG := Lib.hid hG
      clear hG
      have hst : splice (List.replicate 40 (Value.int .i64 0)) 0 (zs.map (Value.int .i64)) = (begS zs).ws.map (Value.int .i64) := by
        simp only [splice, begS, List.take_zero, List.nil_append, List.map_append, List.map_replicate, List.length_map, Nat.zero_add, List.drop_replicate]
      have HS0 := Lib.hid hst
      clear hst
      go_wp2_with (first
        | (refine wpList_copy_splice rfl (.tmp 39) (.tmp 40) 23 23 rfl 3 rfl (by kernel_rfl) (some ⟨w2.heap.size, 0, none⟩) ao 40 40 zs.length acap rfl rfl w2.heap.size 0 (List.replicate 40 (Value.int .i64 0)) 66 (Blk.new w2 _ _) (zs.map (Value.int .i64)) (by rw [List.length_map]; exact (Nat.min_eq_left (by omega)).symm) (fun hp => ⟨rfl, by
             have hz0 : 0 < zs.length := by simpa using hp
             obtain ⟨ad, ha, _⟩ := HZ.out 0 hz0
             refine ⟨ad, ha, fun j v hv => ?_⟩
             rw [List.getElem?_map] at hv
             obtain ⟨z, hz, rfl⟩ := Option.map_eq_some_iff.1 hv
             have hj : j < zs.length := (List.getElem?_eq_some_iff.1 hz).1
             obtain ⟨ad', ha', hc'⟩ := HZ.out.below HL2.out j hj
             rw [ha] at ha'
             obtain rfl := Option.some.inj ha'
             rw [List.getD_eq_getElem?_getD, hz] at hc'
             exact cell_alloc hc' _⟩) (by simp; omega) (by intro u hu; obtain ⟨z, _, rfl⟩ := List.mem_map.1 hu; rfl) w2.heap.size w2 ((Below.refl _ _).alloc (Nat.le_refl _) _) (Nat.le_refl _) ?_
           intro w3 hg3 hb3
           rw [HS0.out] at hg3
           have HG3 := Lib.hid hg3.out
           have HA3 := Lib.hid (HA2.out.old hb3)
           have HR3 := Lib.hid (HR2.out.old hb3)
           have HL3 := Lib.hid (bthen HL2.out hb3)
           clear hg3 hb3))
      clear f0 f1 f2 f3 f4 x0 x1 x2 x3 x4 l1 a0 a1
      have hGB : B + 1 < w2.heap.size := HR2.out.lt
      generalize w2.heap.size = G at HG3 hGB
      have hk2 : zs.length ≤ 4 := k2
      have hall : zs.all vB = true := by
        rw [List.all_eq_true]; intro z hz
        cases hv : vB z
        · exfalso
          rw [List.any_eq_false] at hcv
          exact hcv z hz (by simp [hv])
        · rfl
      have hok : okRun c zs most = true := by simp only [okRun, k1, hall, Bool.and_eq_true, decide_eq_true_eq]; exact ⟨⟨⟨⟨trivial, k2⟩, k3⟩, k4⟩, trivial⟩
      have HOk := Lib.hid hok
      have HBg := Lib.hid (begS_ok k1 hk2 hall)
      have HK1 := Lib.hid k1
      clear hok hall hcv
      go_loopw [9, 10] (fun p i wr => ∃ (j : Nat) (to : Option Addr) (tc : Nat) (av : Int), (j : Int) ≤ most ∧ p = .int .i64 av ∧ i = .int .i64 j ∧ ((itS c (begS zs) j).ov = false → av = (itS c (begS zs) j).at_) ∧ Blk wr B #[.slice lo c.l.length lc, .slice ho c.h.length hc] 30 ∧
        Blk wr (B+1) #[.bool (itS c (begS zs) j).ov, .int .i64 (itS c (begS zs) j).res, .int .i64 (itS c (begS zs) j).trap, .int .i64 (itS c (begS zs) j).cost, .slice to (itS c (begS zs) j).told.length tc] 34 ∧
        Blk wr G ((itS c (begS zs) j).ws.map (Value.int .i64)).toArray 66 ∧ Below W.heap.size W wr ∧ wr.ownsRow (G+1) 45 2 (.slice to (itS c (begS zs) j).told.length tc) (itS c (begS zs) j).told.length (flatT (itS c (begS zs) j).told)) (fun _ i _ => (most - intOf i).toNat)
      case atStart => exact ⟨0, none, 0, 0, by omega, rfl, rfl, fun _ => rfl, HA3.out, HR3.out, HG3.out, HL3.out, World.ownsRow_nil _ _ _ _⟩
      case round =>
        obtain ⟨j, to, tc, av, hj, rfl, rfl, hav, r1, r2, r3, r4, r5⟩ := hrel
        have hib := itS_ok HK1.out HBg.out j
        have hit : itS c (begS zs) (j + 1) = if (itS c (begS zs) j).ov then itS c (begS zs) j else stepS c (itS c (begS zs) j) := rfl
        have hrun : runV c zs most = itS c (begS zs) most.toNat := by unfold runV; rw [HOk.out]; rfl
        have hrunE : runE c zs most = 0 := by unfold runE; rw [HOk.out]; rfl
        have hover : (itS c (begS zs) j).ov = true → itS c (begS zs) most.toNat = itS c (begS zs) j := by
          intro ho
          have := itS_over ho (most.toNat - j)
          rwa [show j + (most.toNat - j) = most.toNat by omega] at this
        have hend : (most : Int) ≤ j → itS c (begS zs) most.toNat = itS c (begS zs) j := by
          intro h; congr 1; omega
        have HR := Lib.hid (And.intro hrun hrunE)
        have HIt := Lib.hid hit
        have HIb := Lib.hid hib
        have HOv := Lib.hid hover
        have HEn := Lib.hid hend
        clear hrun hrunE hit hover hend hib
        generalize hs : itS c (begS zs) j = s at *
        have HS := Lib.hid hs
        clear hs
        have X1 := Lib.hid r1
        have X2 := Lib.hid r2
        have X3 := Lib.hid r3
        have X4 := Lib.hid r4
        have X5 := Lib.hid r5
        have HAv := Lib.hid hav
        have x0 : wr.cell? ⟨B+1, 0, none⟩ = some (.bool s.ov) := r2.cell 0 rfl
        clear r1 r2 r3 r4 r5 hav
        by_cases hgo : (j : Int) < most ∧ s.ov = false
        · obtain ⟨q1, q2⟩ := hgo
          obtain ⟨v1, v2, v3, v4, v5⟩ := codeV_ins HK1.out
          have hat : s.at_ < c.l.length := by rcases HIb.out.lt with h | h; exact h; rw [q2] at h; cases h
          have hav := HAv.out q2
          obtain ⟨ad, had, e0, e1, e2, e3⟩ := (HC.out.old X4.out).l.cell hat
          have hx := v4 _ hat
          obtain ⟨x, hxx⟩ : ∃ x, x = c.l.getD s.at_ default := ⟨_, rfl⟩
          rw [← hxx] at e0 e1 e2 e3 hx
          rw [q2] at x0
          have c0 : wr.cell? ⟨B, 0, none⟩ = some (.slice lo c.l.length lc) := X1.out.cell 0 rfl
          have hatl : (s.at_ : Int) < c.l.length := by omega
          have HX := Lib.hid hxx
          have HV := Lib.hid hx
          have HAd := Lib.hid had
          have HL5 := Lib.hid v5
          have HV3 := Lib.hid v3
          have HOV := Lib.hid q2
          clear hxx hx v4 v5 v3 q2
          subst had
          subst hav
          go_wp2_with fail
          have hbA : Below wr.heap.size wr (wr.alloc (.cells #[.int .i64 x.d, .int .i64 x.a, .int .i64 x.b, .int .i64 x.c] 53)) := (Below.refl _ _).alloc (Nat.le_refl _) _
          have hXb : Blk (wr.alloc (.cells #[.int .i64 x.d, .int .i64 x.a, .int .i64 x.b, .int .i64 x.c] 53)) wr.heap.size #[.int .i64 x.d, .int .i64 x.a, .int .i64 x.b, .int .i64 x.c] 53 := Blk.new _ _ _
          refine (Cost_any x _).mono ?_
          rintro e w4 ⟨rfl, hb4⟩
          have M1 : PMid B G wr.heap.size (.slice (some ad) c.l.length lc) (.slice ho c.h.length hc) (.slice to s.told.length tc) x W s w4 := ⟨(X1.out.old hbA).old hb4, (X2.out.old hbA).old hb4, (X3.out.old hbA).old hb4, hXb.old hb4, own_old (own_old X5.out hbA) hb4, (bthen X4.out hbA).trans (hb4.mono (bthen X4.out hbA).size)⟩
          have hGX : G < wr.heap.size := X3.out.lt
          clear hbA hXb hb4 c0 e0 e1 e2 e3 x0
          generalize wr.heap.size = X at M1 hGX
          have HM := Lib.hid M1
          clear M1
          obtain ⟨d, a, b, c'⟩ := x
          have r0 : w4.cell? ⟨X, 0, none⟩ = some (.int .i64 d) := HM.out.reg.cell 0 rfl
          have r1 : w4.cell? ⟨X, 1, none⟩ = some (.int .i64 a) := HM.out.reg.cell 1 rfl
          have r2 : w4.cell? ⟨X, 2, none⟩ = some (.int .i64 b) := HM.out.reg.cell 2 rfl
          have r3 : w4.cell? ⟨X, 3, none⟩ = some (.int .i64 c') := HM.out.reg.cell 3 rfl
          have y0 : w4.cell? ⟨B+1, 0, none⟩ = some (.bool s.ov) := HM.out.res.cell 0 rfl
          have y3 : w4.cell? ⟨B+1, 3, none⟩ = some (.int .i64 s.cost) := HM.out.res.cell 3 rfl
          have f0 := HM.out.res.frozen 0
          have f3 := HM.out.res.frozen 3
          have z0 : w4.cell? ⟨B, 0, none⟩ = some (.slice (some ad) c.l.length lc) := HM.out.code.cell 0 rfl
          have hGB1 : ¬ (G = B + 1) := by omega
          have hXB1 : ¬ (X = B + 1) := by omega
          have hXG1 : ¬ (X = G) := by omega
          have lG : G < w4.heap.size := HM.out.regs.lt
          have hcw : IntKind.i64.wrap (s.cost + costV d) = s.cost + costV d := IntWalk.i64_in _ (by have h0 := HIb.out.cost0; have h1 := HIb.out.cost1; have := costV_range d; omega)
          have haw : IntKind.i64.wrap ((s.at_ : Int) + 1) = s.at_ + 1 := IntWalk.i64_in _ (by omega)
          have hjw : IntKind.i64.wrap ((j : Int) + 1) = j + 1 := IntWalk.i64_in _ (by omega)
          rw [HOV.out] at y0
          dsimp only
          --CASES
          have hBW : W.heap.size ≤ B := by have := HB.out; omega
          rcases (show d = 0 ∨ d = 1 ∨ d = 2 ∨ d = 4 ∨ d = 5 ∨ d = 6 ∨ d = 7 ∨ d = 8 ∨ d = 11 ∨ d = 12 ∨ d = 13 ∨ d = 14 ∨ d = 15 ∨ d = 16 ∨ ¬ (d = 0 ∨ d = 1 ∨ d = 2 ∨ d = 4 ∨ d = 5 ∨ d = 6 ∨ d = 7 ∨ d = 8 ∨ d = 11 ∨ d = 12 ∨ d = 13 ∨ d = 14 ∨ d = 15 ∨ d = 16) by omega) with rfl | rfl | rfl | rfl | rfl | rfl | rfl | rfl | rfl | rfl | rfl | rfl | rfl | rfl | hd
          · as_aux_lemma =>
              have hv1 := HV.out
              simp [insV, inB] at hv1
              by_cases ha : 0 ≤ a
              · obtain ⟨ia, rfl⟩ : ∃ ia : Nat, a = ia := ⟨a.toNat, by omega⟩
                have hia : (ia : Int) < 40 := by omega
                have HI := Lib.hid (show itS c (begS zs) (j + 1) = { s with cost := s.cost + costV 0, ov := true, res := s.ws.getD ia 0 } by rw [HIt.out, if_neg (by rw [HOV.out]; decide)]; unfold stepS; rw [← HX.out]; simp)
                clear hv1 HIt
                have xia : w4.cell? ⟨G, ia, none⟩ = some (.int .i64 (s.ws.getD ia 0)) := HM.out.word HIb.out.len (by omega)
                have f1 := HM.out.res.frozen 1
                have l1 := HM.out.res.lt
                have y1 : w4.cell? ⟨B+1, 1, none⟩ = some (.int .i64 s.res) := HM.out.res.cell 1 rfl
                generalize hz : s.ws.getD ia 0 = z at *
                go_wp2_with fail
                have Mx := ((HM.out.setRes hBW hGB hGX 3 (v := .int .i64 (s.cost + costV 0)) (s' := { s with cost := s.cost + costV 0 }) rfl rfl rfl).setRes hBW hGB hGX 0 (v := .bool true) (s' := { s with cost := s.cost + costV 0, ov := true }) rfl rfl rfl).setRes hBW hGB hGX 1 (v := .int .i64 z) (s' := { s with cost := s.cost + costV 0, ov := true, res := z }) rfl rfl rfl
                refine ⟨Mx.close rfl  hBW hGB hGX _ HI.out q1 _ _ rfl rfl rfl rfl rfl ?_ ?_, ?_⟩
                · rfl
                · exact fun h => absurd h (by simp)
                · show (most - ((j : Int) + 1)).toNat < (most - (j : Int)).toNat; omega
              · have HI := Lib.hid (show itS c (begS zs) (j + 1) = { s with cost := s.cost + costV 0, ov := true } by rw [HIt.out, if_neg (by rw [HOV.out]; decide)]; unfold stepS; rw [← HX.out]; simp; omega)
                clear hv1 HIt
                have l1 := HM.out.res.lt
                go_wp2_with fail
                have Mx := (HM.out.setRes hBW hGB hGX 3 (v := .int .i64 (s.cost + costV 0)) (s' := { s with cost := s.cost + costV 0 }) rfl rfl rfl).setRes hBW hGB hGX 0 (v := .bool true) (s' := { s with cost := s.cost + costV 0, ov := true }) rfl rfl rfl
                refine ⟨Mx.close rfl  hBW hGB hGX _ HI.out q1 _ _ rfl rfl rfl rfl rfl ?_ ?_, ?_⟩
                · rfl
                · exact fun h => absurd h (by simp)
                · show (most - ((j : Int) + 1)).toNat < (most - (j : Int)).toNat; omega
          · as_aux_lemma =>
              have hv1 := HV.out
              simp [insV, rgB, inB] at hv1
              obtain ⟨ia, rfl⟩ : ∃ ia : Nat, a = ia := ⟨a.toNat, by omega⟩
              have hia : (ia : Int) < 40 := by omega
              have HI := Lib.hid (show itS c (begS zs) (j + 1) = goS c (s.at_ + 1) { s with cost := s.cost + costV 1, ws := s.ws.set ia b } by rw [HIt.out, if_neg (by rw [HOV.out]; decide)]; unfold stepS; rw [← HX.out]; simp)
              clear hv1 HIt
              have yw : w4.cell? ⟨G, ia, none⟩ = some (.int .i64 (s.ws.getD ia 0)) := HM.out.word HIb.out.len (by omega)
              have fw := HM.out.regs.frozen ia
              go_wp2_with fail
              have Mx := (HM.out.setRes hBW hGB hGX 3 (v := .int .i64 (s.cost + costV 1)) (s' := { s with cost := s.cost + costV 1 }) rfl rfl rfl).setReg hBW hGB hGX HIb.out.len (i := ia) b
              refine ⟨Mx.close rfl  hBW hGB hGX _ HI.out q1 _ _ rfl rfl rfl rfl rfl ?_ ?_, ?_⟩
              · show decide _ = decide _; exact decide_eq_decide.2 (by omega)
              · intro _; simp [goS]
              · show (most - ((j : Int) + 1)).toNat < (most - (j : Int)).toNat; omega
          · as_aux_lemma =>
              have hv1 := HV.out
              simp [insV, rgB, inB] at hv1
              obtain ⟨ia, rfl⟩ : ∃ ia : Nat, a = ia := ⟨a.toNat, by omega⟩
              have hia : (ia : Int) < 40 := by omega
              obtain ⟨ib, rfl⟩ : ∃ ib : Nat, b = ib := ⟨b.toNat, by omega⟩
              have hib : (ib : Int) < 40 := by omega
              have HI := Lib.hid (show itS c (begS zs) (j + 1) = goS c (s.at_ + 1) { s with cost := s.cost + costV 2, ws := s.ws.set ia (s.ws.getD ib 0) } by rw [HIt.out, if_neg (by rw [HOV.out]; decide)]; unfold stepS; rw [← HX.out]; simp)
              clear hv1 HIt
              go_wp2_with fail
              have M2 := HM.out.setRes hBW hGB hGX 3 (v := .int .i64 (s.cost + costV 2)) (s' := { s with cost := s.cost + costV 2 }) rfl rfl rfl
              clear r0 r1 r2 r3 y0 y3 z0 f0 f3 HM
              generalize (w4.setCell ⟨B+1, 3, none⟩ (.int .i64 (s.cost + costV 2))) = w5 at M2
              have r1 : w5.cell? ⟨X, 1, none⟩ = some (.int .i64 ia) := M2.reg.cell 1 rfl
              have r2 : w5.cell? ⟨X, 2, none⟩ = some (.int .i64 ib) := M2.reg.cell 2 rfl
              have xia : w5.cell? ⟨G, ia, none⟩ = some (.int .i64 (s.ws.getD ia 0)) := M2.word HIb.out.len (by omega)
              have xib : w5.cell? ⟨G, ib, none⟩ = some (.int .i64 (s.ws.getD ib 0)) := M2.word HIb.out.len (by omega)
              generalize hz : s.ws.getD ib 0 = z at *
              have HZ := Lib.hid hz
              clear hz
              have HM2 := Lib.hid M2
              clear M2
              refine wp_still_tail 7 (by kernel_rfl) (by kernel_rfl) ?_
              simp only [List.take_succ_cons, List.take_zero, List.drop_succ_cons, List.drop_zero]
              repeat still_step
              refine wpStill_nil ?_
              have y1 : w5.frozen? ⟨G, ia, none⟩ = false := HM2.out.regs.frozen _
              have z1 : G < w5.heap.size := HM2.out.regs.lt
              (refine wpList_one (by rfl) fun K hK => ?_; go_simp; refine hK _ _ ?_; clear hK K)
              have M3 := (HM2.out.setReg hBW hGB hGX HIb.out.len (i := ia) z).drew
              clear r1 r2 xia xib y1 z1 HM2
              generalize (w5.setCell ⟨G, ia, none⟩ (.int .i64 z)).drew = w6 at M3
              obtain ⟨g0, g1, y0, y4, f0, f1, f2, f4, l1, l2, l3⟩ := M3.facts HOV.out
              have HM3 := Lib.hid M3
              clear M3
              go_wp2_with fail
              have Mx := HM3.out
              refine ⟨Mx.close rfl  hBW hGB hGX _ HI.out q1 _ _ rfl rfl rfl rfl rfl ?_ ?_, ?_⟩
              · show decide _ = decide _; exact decide_eq_decide.2 (by omega)
              · intro _; simp [goS]
              · show (most - ((j : Int) + 1)).toNat < (most - (j : Int)).toNat; omega
          · as_aux_lemma =>
              have hv1 := HV.out
              simp [insV, inB] at hv1
              obtain ⟨ja, rfl⟩ : ∃ ja : Nat, a = ja := ⟨a.toNat, by omega⟩
              have hja : (ja : Int) < c.l.length := by omega
              have HI := Lib.hid (show itS c (begS zs) (j + 1) = goS c ja { s with cost := s.cost + costV 4 } by rw [HIt.out, if_neg (by rw [HOV.out]; decide)]; unfold stepS; rw [← HX.out]; simp)
              clear hv1 HIt
              go_wp2_with fail
              have Mx := HM.out.setRes hBW hGB hGX 3 (v := .int .i64 (s.cost + costV 4)) (s' := { s with cost := s.cost + costV 4 }) rfl rfl rfl
              refine ⟨Mx.close rfl  hBW hGB hGX _ HI.out q1 _ _ rfl rfl rfl rfl rfl ?_ ?_, ?_⟩
              · show decide _ = decide _; exact decide_eq_decide.2 (by omega)
              · intro _; rfl
              · show (most - ((j : Int) + 1)).toNat < (most - (j : Int)).toNat; omega
          · as_aux_lemma =>
              have hv1 := HV.out
              simp [insV, rgB, inB] at hv1
              obtain ⟨ja, rfl⟩ : ∃ ja : Nat, a = ja := ⟨a.toNat, by omega⟩
              have hja : (ja : Int) < c.l.length := by omega
              obtain ⟨ib, rfl⟩ : ∃ ib : Nat, b = ib := ⟨b.toNat, by omega⟩
              have hib : (ib : Int) < 40 := by omega
              have HI := Lib.hid (show itS c (begS zs) (j + 1) = goS c (if s.ws.getD ib 0 = 0 then ja else s.at_ + 1) { s with cost := s.cost + costV 5 } by rw [HIt.out, if_neg (by rw [HOV.out]; decide)]; unfold stepS; rw [← HX.out]; simp)
              clear hv1 HIt
              have xib : w4.cell? ⟨G, ib, none⟩ = some (.int .i64 (s.ws.getD ib 0)) := HM.out.word HIb.out.len (by omega)
              have hI := HI.out
              clear HI
              generalize s.ws.getD ib 0 = z at xib hI
              by_cases hw : z = 0
              · rw [if_pos hw] at hI
                have HI := Lib.hid hI
                clear hI
                go_wp2_with fail
                have Mx := HM.out.setRes hBW hGB hGX 3 (v := .int .i64 (s.cost + costV 5)) (s' := { s with cost := s.cost + costV 5 }) rfl rfl rfl
                refine ⟨Mx.close rfl  hBW hGB hGX _ HI.out q1 _ _ rfl rfl rfl rfl rfl ?_ ?_, ?_⟩
                · show decide _ = decide _; exact decide_eq_decide.2 (by omega)
                · intro _; rfl
                · show (most - ((j : Int) + 1)).toNat < (most - (j : Int)).toNat; omega
              · rw [if_neg hw] at hI
                have HI := Lib.hid hI
                clear hI
                go_wp2_with fail
                have Mx := HM.out.setRes hBW hGB hGX 3 (v := .int .i64 (s.cost + costV 5)) (s' := { s with cost := s.cost + costV 5 }) rfl rfl rfl
                refine ⟨Mx.close rfl  hBW hGB hGX _ HI.out q1 _ _ rfl rfl rfl rfl rfl ?_ ?_, ?_⟩
                · show decide _ = decide _; exact decide_eq_decide.2 (by omega)
                · intro _; simp [goS]
                · show (most - ((j : Int) + 1)).toNat < (most - (j : Int)).toNat; omega
          · as_aux_lemma =>
              have hv1 := HV.out
              simp [insV, rgB, inB] at hv1
              obtain ⟨ib, rfl⟩ : ∃ ib : Nat, b = ib := ⟨b.toNat, by omega⟩
              have hib : (ib : Int) < 40 := by omega
              have HI := Lib.hid (show itS c (begS zs) (j + 1) = goS c (s.at_ + 1) { s with cost := s.cost + costV 6, told := s.told ++ [(a, s.ws.getD ib 0)] } by rw [HIt.out, if_neg (by rw [HOV.out]; decide)]; unfold stepS; rw [← HX.out]; simp)
              clear hv1 HIt
              go_wp2_with fail
              have M2 := HM.out.setRes hBW hGB hGX 3 (v := .int .i64 (s.cost + costV 6)) (s' := { s with cost := s.cost + costV 6 }) rfl rfl rfl
              clear r0 r1 r2 r3 y0 y3 z0 f0 f3 HM
              generalize (w4.setCell ⟨B+1, 3, none⟩ (.int .i64 (s.cost + costV 6))) = w5 at M2
              have r1 : w5.cell? ⟨X, 1, none⟩ = some (.int .i64 a) := M2.reg.cell 1 rfl
              have r2 : w5.cell? ⟨X, 2, none⟩ = some (.int .i64 ib) := M2.reg.cell 2 rfl
              have xib : w5.cell? ⟨G, ib, none⟩ = some (.int .i64 (s.ws.getD ib 0)) := M2.word HIb.out.len (by omega)
              have y4 : w5.cell? ⟨B+1, 4, none⟩ = some (.slice to s.told.length tc) := M2.res.cell 4 rfl
              have hI := HI.out
              clear HI
              generalize s.ws.getD ib 0 = z at xib hI
              have HI := Lib.hid hI
              clear hI
              have HM2 := Lib.hid M2
              clear M2
              have z1 : G < w5.heap.size := HM2.out.regs.lt
              refine wp_held_tails (fun w => w.cell? ⟨X, 1, none⟩ = some (.int .i64 a) ∧ w.cell? ⟨X, 2, none⟩ = some (.int .i64 ib) ∧ w.cell? ⟨G, ib, none⟩ = some (.int .i64 z) ∧ w.cell? ⟨B+1, 4, none⟩ = some (.slice to s.told.length tc)) 9 2 (by kernel_rfl) (by kernel_rfl) (by intro c a d v w h; cases d <;> exact h) ⟨r1, r2, xib, y4⟩ ?_
              simp only [List.take_succ_cons, List.take_zero, List.drop_succ_cons, List.drop_zero]
              repeat ((first | (apply Exists.intro; refine ⟨Or.inl ⟨by rfl, ?_⟩, ?_⟩; focus (intro w hSw; (try dsimp only at hSw); go_simp; (try with_reducible rfl); done)) | (refine ⟨_, Or.inr ⟨by rfl, rfl⟩, ?_⟩)); (try simp only [Act.put, List.setIfInBounds_toArray, List.set_cons_zero, List.set_cons_succ]))
              refine wpHead_nil ?_
              refine wpMids_one _ (by rfl) (by rfl) fun K hK => ?_
              go_simp
              refine hK _ _ ?_ ?_
              exact ⟨cell_alloc r1 _, cell_alloc r2 _, cell_alloc xib _, cell_alloc y4 _⟩
              clear hK K
              have htl := HIb.out.told
              refine wpMids_one _ (by rfl) (by rfl) fun K hK => ?_
              refine wp_append_sl (.tmp 146) (.tmp 154) 32 rfl (G+1) 45 2 16 elTold (.slice to s.told.length tc) s.told.length (flatT s.told) rfl (HM2.out.own.alloc _) _ 1 1 (flatT [(a, z)]) rfl (sla_built w5.drew #[.int .i64 a, .int .i64 z] 45 rfl) (flatT_one _) (by decide) (by omega) (by unfold maxLen; omega) (by simp; omega) ?_
              intro ao' cap' w6 hown3 hg3
              have M5 := HM2.out.told hBW hGB hGX rfl hg3 hown3
              have st3 : Blk w6 (B+1) _ 34 := ((HM2.out.res.alloc _).drew).grown hg3 (own_ne HM2.out.own (by omega))
              have rg3 : Blk w6 X _ 53 := ((HM2.out.reg.alloc _).drew).grown hg3 (blk_not_own HM2.out.reg HM2.out.own (by decide))
              have z3 := st3.lt
              have y3 := st3.frozen 4
              have q3 : w6.cell? ⟨B+1, 4, none⟩ = some (.slice to s.told.length tc) := st3.cell 4 rfl
              have q1 : w6.cell? ⟨X, 1, none⟩ = some (.int .i64 a) := rg3.cell 1 rfl
              have q2 : w6.cell? ⟨X, 2, none⟩ = some (.int .i64 ib) := rg3.cell 2 rfl
              have q4 : w6.cell? ⟨G, ib, none⟩ = some (.int .i64 z) := (World.cell?_of_block (a := ⟨G, ib, none⟩) (hg3.block G (by simp; omega) (own_ne HM2.out.own (by omega)))).trans (cell_alloc xib _)
              refine hK _ _ ?_ ?_
              exact ⟨q1, q2, q4, q3⟩
              clear hK K hown3 hg3 r1 r2 xib y4 z1 st3 rg3 q1 q2 q4
              show wpList _ _ _ _ _ _
              repeat (refine wpList_one (by rfl) fun K hK => ?_; go_simp; refine hK _ _ ?_; clear hK K)
              generalize (w6.setCell ⟨B+1, 4, none⟩ (.slice ao' (s.told.length + 1) cap')) = w7 at M5
              obtain ⟨g0, g1, y0, y4, f0, f1, f2, f4, l1, l2, l3⟩ := M5.facts HOV.out
              have HM5 := Lib.hid M5
              clear M5 q3 z3 y3
              go_wp2_with fail
              have Mx := HM5.out
              refine ⟨Mx.close (to := ao') (tc := cap') (by simp)  hBW hGB hGX _ HI.out q1 _ _ rfl rfl rfl rfl rfl ?_ ?_, ?_⟩
              · show decide _ = decide _; exact decide_eq_decide.2 (by omega)
              · intro _; simp [goS]
              · show (most - ((j : Int) + 1)).toNat < (most - (j : Int)).toNat; omega
          · as_aux_lemma =>
              have hv1 := HV.out
              simp [insV, inB] at hv1
              have HI := Lib.hid (show itS c (begS zs) (j + 1) = trapS c { s with cost := s.cost + costV 7 } a by rw [HIt.out, if_neg (by rw [HOV.out]; decide)]; unfold stepS; rw [← HX.out]; simp)
              clear hv1 HIt
              obtain ⟨ah, hah, ehW⟩ := sla_int ((HC.out).h) (show s.at_ < c.h.length by have := HV3.out; omega)
              subst hah
              obtain ⟨ah2, hah2, eh⟩ := sla_int ((HC.out.old HM.out.bel).h) (show s.at_ < c.h.length by have := HV3.out; omega)
              obtain rfl := Option.some.inj hah2
              have hz5 := HL5.out _ hat
              obtain ⟨z, hz⟩ : ∃ z, z = c.h.getD s.at_ 0 := ⟨_, rfl⟩
              have HI := Lib.hid (HI.out.trans (trapS_eq (s := { s with cost := s.cost + costV 7 }) hz))
              rw [← hz] at ehW eh hz5
              have HZZ := Lib.hid hz
              clear hz
              simp only [inB, Bool.and_eq_true, decide_eq_true_eq] at hz5
              have l1 := HM.out.res.lt
              have y2 : w4.cell? ⟨B+1, 2, none⟩ = some (.int .i64 s.trap) := HM.out.res.cell 2 rfl
              have z5 : w4.cell? ⟨B, 1, none⟩ = some (.slice (some ah) c.h.length hc) := HM.out.code.cell 1 rfl
              have hatl2 : (s.at_ : Int) < c.h.length := by have := HV3.out; omega
              have f1 := HM.out.res.frozen 0
              have f2 := HM.out.res.frozen 2
              have eh2 : (w4.setCell ⟨B+1, 3, none⟩ (.int .i64 (s.cost + costV 7))).cell? (ah.add s.at_) = some (.int .i64 z) := set_add 3 HB.out ehW eh
              clear ehW eh
              have hv1 := HV.out
              simp [insV, inB] at hv1
              by_cases hz0 : 0 ≤ z
              · have HI := Lib.hid (show itS c (begS zs) (j + 1) = { s with cost := s.cost + costV 7, at_ := z.toNat } by rw [HI.out, if_pos hz0])
                go_wp2_with fail
                have Mx := HM.out.setRes hBW hGB hGX 3 (v := .int .i64 (s.cost + costV 7)) (s' := { s with cost := s.cost + costV 7 }) rfl rfl rfl
                refine ⟨Mx.close rfl  hBW hGB hGX _ HI.out q1 _ _ rfl rfl rfl rfl rfl ?_ ?_, ?_⟩
                · show decide _ = s.ov; rw [HOV.out]; exact decide_eq_false (by omega)
                · intro _; show z = ((z.toNat : Nat) : Int); omega
                · show (most - ((j : Int) + 1)).toNat < (most - (j : Int)).toNat; omega
              · have HI := Lib.hid (show itS c (begS zs) (j + 1) = { s with cost := s.cost + costV 7, ov := true, trap := a } by rw [HI.out, if_neg hz0])
                go_wp2_with fail
                have Mx := ((HM.out.setRes hBW hGB hGX 3 (v := .int .i64 (s.cost + costV 7)) (s' := { s with cost := s.cost + costV 7 }) rfl rfl rfl).setRes hBW hGB hGX 0 (v := .bool true) (s' := { s with cost := s.cost + costV 7, ov := true }) rfl rfl rfl).setRes hBW hGB hGX 2 (v := .int .i64 a) (s' := { s with cost := s.cost + costV 7, ov := true, trap := a }) rfl rfl rfl
                refine ⟨Mx.close rfl  hBW hGB hGX _ HI.out q1 _ _ rfl rfl rfl rfl rfl ?_ ?_, ?_⟩
                · rfl
                · exact fun h => absurd h (by simp)
                · show (most - ((j : Int) + 1)).toNat < (most - (j : Int)).toNat; omega
          · as_aux_lemma =>
              have hv1 := HV.out
              simp [insV, rgB, inB] at hv1
              obtain ⟨ja, rfl⟩ : ∃ ja : Nat, a = ja := ⟨a.toNat, by omega⟩
              have hja : (ja : Int) < c.l.length := by omega
              obtain ⟨ib, rfl⟩ : ∃ ib : Nat, b = ib := ⟨b.toNat, by omega⟩
              have hib : (ib : Int) < 40 := by omega
              obtain ⟨ic, rfl⟩ : ∃ ic : Nat, c' = ic := ⟨c'.toNat, by omega⟩
              have hic : (ic : Int) < 40 := by omega
              have HI := Lib.hid (show itS c (begS zs) (j + 1) = goS c (if s.ws.getD ib 0 < s.ws.getD ic 0 then ja else s.at_ + 1) { s with cost := s.cost + costV 8 } by rw [HIt.out, if_neg (by rw [HOV.out]; decide)]; unfold stepS; rw [← HX.out]; simp)
              clear hv1 HIt
              go_wp2_with fail
              have M2 := HM.out.setRes hBW hGB hGX 3 (v := .int .i64 (s.cost + costV 8)) (s' := { s with cost := s.cost + costV 8 }) rfl rfl rfl
              clear r0 r1 r2 r3 y0 y3 z0 f0 f3 HM
              generalize (w4.setCell ⟨B+1, 3, none⟩ (.int .i64 (s.cost + costV 8))) = w5 at M2
              have r2 : w5.cell? ⟨X, 2, none⟩ = some (.int .i64 ib) := M2.reg.cell 2 rfl
              have r3 : w5.cell? ⟨X, 3, none⟩ = some (.int .i64 ic) := M2.reg.cell 3 rfl
              have xib : w5.cell? ⟨G, ib, none⟩ = some (.int .i64 (s.ws.getD ib 0)) := M2.word HIb.out.len (by omega)
              have xic : w5.cell? ⟨G, ic, none⟩ = some (.int .i64 (s.ws.getD ic 0)) := M2.word HIb.out.len (by omega)
              have hI := HI.out
              clear HI
              generalize s.ws.getD ib 0 = z at xib hI
              generalize s.ws.getD ic 0 = y at xic hI
              have HM2 := Lib.hid M2
              clear M2
              refine wp_still_all (by kernel_rfl) (by kernel_rfl) ?_
              repeat still_step
              refine wpStill_nil ?_
              clear r2 r3 xib xic
              have M3 := HM2.out.drew
              generalize w5.drew = w6 at M3
              have r1 : w6.cell? ⟨X, 1, none⟩ = some (.int .i64 ja) := M3.reg.cell 1 rfl
              obtain ⟨g0, g1, y0, y4, f0, f1, f2, f4, l1, l2, l3⟩ := M3.facts HOV.out
              have HM3 := Lib.hid M3
              clear M3 HM2
              by_cases hw : z < y
              · rw [if_pos hw] at hI
                have HI := Lib.hid hI
                clear hI
                go_wp2_with fail
                have Mx := HM3.out
                refine ⟨Mx.close rfl  hBW hGB hGX _ HI.out q1 _ _ rfl rfl rfl rfl rfl ?_ ?_, ?_⟩
                · show decide _ = decide _; exact decide_eq_decide.2 (by omega)
                · intro _; rfl
                · show (most - ((j : Int) + 1)).toNat < (most - (j : Int)).toNat; omega
              · rw [if_neg hw] at hI
                have HI := Lib.hid hI
                clear hI
                go_wp2_with fail
                have Mx := HM3.out
                refine ⟨Mx.close rfl  hBW hGB hGX _ HI.out q1 _ _ rfl rfl rfl rfl rfl ?_ ?_, ?_⟩
                · show decide _ = decide _; exact decide_eq_decide.2 (by omega)
                · intro _; simp [goS]
                · show (most - ((j : Int) + 1)).toNat < (most - (j : Int)).toNat; omega
          · as_aux_lemma =>
              have hv1 := HV.out
              simp [insV, rgB, inB] at hv1
              obtain ⟨ia, rfl⟩ : ∃ ia : Nat, a = ia := ⟨a.toNat, by omega⟩
              have hia : (ia : Int) < 40 := by omega
              obtain ⟨ib, rfl⟩ : ∃ ib : Nat, b = ib := ⟨b.toNat, by omega⟩
              have hib : (ib : Int) < 40 := by omega
              obtain ⟨ic, rfl⟩ : ∃ ic : Nat, c' = ic := ⟨c'.toNat, by omega⟩
              have hic : (ic : Int) < 40 := by omega
              have HI := Lib.hid (show itS c (begS zs) (j + 1) = goS c (s.at_ + 1) { s with cost := s.cost + costV 11, ws := s.ws.set ia (calcV 11 (s.ws.getD ib 0) (s.ws.getD ic 0)) } by rw [HIt.out, if_neg (by rw [HOV.out]; decide)]; unfold stepS; rw [← HX.out]; simp)
              clear hv1 HIt
              go_wp2_with fail
              have M2 := HM.out.setRes hBW hGB hGX 3 (v := .int .i64 (s.cost + costV 11)) (s' := { s with cost := s.cost + costV 11 }) rfl rfl rfl
              clear r0 r1 r2 r3 y0 y3 z0 f0 f3 HM
              generalize (w4.setCell ⟨B+1, 3, none⟩ (.int .i64 (s.cost + costV 11))) = w5 at M2
              have r0 : w5.cell? ⟨X, 0, none⟩ = some (.int .i64 11) := M2.reg.cell 0 rfl
              have r2 : w5.cell? ⟨X, 2, none⟩ = some (.int .i64 ib) := M2.reg.cell 2 rfl
              have r3 : w5.cell? ⟨X, 3, none⟩ = some (.int .i64 ic) := M2.reg.cell 3 rfl
              have xib : w5.cell? ⟨G, ib, none⟩ = some (.int .i64 (s.ws.getD ib 0)) := M2.word HIb.out.len (by omega)
              have xic : w5.cell? ⟨G, ic, none⟩ = some (.int .i64 (s.ws.getD ic 0)) := M2.word HIb.out.len (by omega)
              have hI := HI.out
              clear HI
              have hvz := HIb.out.wd ib (by omega)
              have hvy := HIb.out.wd ic (by omega)
              obtain ⟨z, hz⟩ : ∃ z, z = s.ws.getD ib 0 := ⟨_, rfl⟩
              obtain ⟨y, hyy⟩ : ∃ y, y = s.ws.getD ic 0 := ⟨_, rfl⟩
              rw [← hz] at xib hI hvz
              rw [← hyy] at xic hI hvy
              have HZ := Lib.hid hz
              have HY := Lib.hid hyy
              clear hz hyy
              have HI := Lib.hid hI
              clear hI
              have hvv := Lib.hid (show (vB z && vB y) = true by rw [hvz, hvy]; rfl)
              clear hvz hvy
              have hcl : ∀ w, PMid B G X (.slice (some ad) c.l.length lc) (.slice ho c.h.length hc) (.slice to s.told.length tc) ⟨11, ia, ib, ic⟩ W { s with cost := s.cost + costV 11 } w → (w.cell? ⟨X, 0, none⟩ = some (.int .i64 11) ∧ w.cell? ⟨X, 2, none⟩ = some (.int .i64 ib) ∧ w.cell? ⟨X, 3, none⟩ = some (.int .i64 ic) ∧ w.cell? ⟨G, ib, none⟩ = some (.int .i64 z) ∧ w.cell? ⟨G, ic, none⟩ = some (.int .i64 y)) := fun w h => ⟨h.reg.cell 0 rfl, h.reg.cell 2 rfl, h.reg.cell 3 rfl, (h.word HIb.out.len (by omega)).trans (by rw [← HZ.out]), (h.word HIb.out.len (by omega)).trans (by rw [← HY.out])⟩
              refine wp_class (C := fun w => PMid B G X (.slice (some ad) c.l.length lc) (.slice ho c.h.length hc) (.slice to s.told.length tc) ⟨11, ia, ib, ic⟩ W { s with cost := s.cost + costV 11 } w ∧ (w.cell? ⟨X, 0, none⟩ = some (.int .i64 11) ∧ w.cell? ⟨X, 2, none⟩ = some (.int .i64 ib) ∧ w.cell? ⟨X, 3, none⟩ = some (.int .i64 ic) ∧ w.cell? ⟨G, ib, none⟩ = some (.int .i64 z) ∧ w.cell? ⟨G, ic, none⟩ = some (.int .i64 y))) (by kernel_rfl) (by kernel_rfl) ⟨M2.drew, hcl _ M2.drew⟩ ?_
              have HCl := Lib.hid hcl
              clear M2 hcl
              repeat (refine Go.BigFrame.wpQuiet_want (by rfl) (fun K hK => ?_); apply Exists.intro; refine ⟨fun w hSw => ?_, hK _ ?_⟩; (focus (go_simp; (try with_reducible rfl); done)); clear hK K; (try simp only [Act.put, List.setIfInBounds_toArray, List.set_cons_zero, List.set_cons_succ]))
              refine Go.BigFrame.wpQuiet_want (by rfl) (fun K hK => ?_)
              apply Exists.intro
              refine ⟨fun w hSw => ?_, hK _ ?_⟩
              focus (go_simp; exact Calls.mono (comp_ok _ _ _ _ (by omega) (by omega) hvv.out (fun h => absurd h (by decide))) fun e w' h => ⟨h.1, hSw.1.old h.2, HCl.out _ (hSw.1.old h.2)⟩)
              clear hK K
              repeat (refine Go.BigFrame.wpQuiet_want (by rfl) (fun K hK => ?_); apply Exists.intro; refine ⟨fun w hSw => ?_, hK _ ?_⟩; (focus (go_simp; (try with_reducible rfl); done)); clear hK K; (try simp only [Act.put, List.setIfInBounds_toArray, List.set_cons_zero, List.set_cons_succ]))
              refine wpQuiet_nil ?_
              rintro w6 ⟨M3, -⟩
              clear r0 r2 r3 xib xic HCl
              have r1 : w6.cell? ⟨X, 1, none⟩ = some (.int .i64 ia) := M3.reg.cell 1 rfl
              have xia : w6.cell? ⟨G, ia, none⟩ = some (.int .i64 (s.ws.getD ia 0)) := M3.word HIb.out.len (by omega)
              have fw := M3.regs.frozen ia
              obtain ⟨g0, g1, y0, y4, f0, f1, f2, f4, l1, l2, l3⟩ := M3.facts HOV.out
              generalize hq : calcV 11 z y = q at *
              have HQ := Lib.hid hq
              clear hq
              have HM3 := Lib.hid M3
              clear M3
              go_wp2_with fail
              have Mx := HM3.out.setReg hBW hGB hGX HIb.out.len (i := ia) q
              refine ⟨Mx.close rfl  hBW hGB hGX _ HI.out q1 _ _ rfl rfl rfl rfl rfl ?_ ?_, ?_⟩
              · show decide _ = decide _; exact decide_eq_decide.2 (by omega)
              · intro _; simp [goS]
              · show (most - ((j : Int) + 1)).toNat < (most - (j : Int)).toNat; omega
          · as_aux_lemma =>
              have hv1 := HV.out
              simp [insV, rgB, inB] at hv1
              obtain ⟨ia, rfl⟩ : ∃ ia : Nat, a = ia := ⟨a.toNat, by omega⟩
              have hia : (ia : Int) < 40 := by omega
              obtain ⟨ib, rfl⟩ : ∃ ib : Nat, b = ib := ⟨b.toNat, by omega⟩
              have hib : (ib : Int) < 40 := by omega
              obtain ⟨ic, rfl⟩ : ∃ ic : Nat, c' = ic := ⟨c'.toNat, by omega⟩
              have hic : (ic : Int) < 40 := by omega
              have HI := Lib.hid (show itS c (begS zs) (j + 1) = goS c (s.at_ + 1) { s with cost := s.cost + costV 12, ws := s.ws.set ia (calcV 12 (s.ws.getD ib 0) (s.ws.getD ic 0)) } by rw [HIt.out, if_neg (by rw [HOV.out]; decide)]; unfold stepS; rw [← HX.out]; simp)
              clear hv1 HIt
              go_wp2_with fail
              have M2 := HM.out.setRes hBW hGB hGX 3 (v := .int .i64 (s.cost + costV 12)) (s' := { s with cost := s.cost + costV 12 }) rfl rfl rfl
              clear r0 r1 r2 r3 y0 y3 z0 f0 f3 HM
              generalize (w4.setCell ⟨B+1, 3, none⟩ (.int .i64 (s.cost + costV 12))) = w5 at M2
              have r0 : w5.cell? ⟨X, 0, none⟩ = some (.int .i64 12) := M2.reg.cell 0 rfl
              have r2 : w5.cell? ⟨X, 2, none⟩ = some (.int .i64 ib) := M2.reg.cell 2 rfl
              have r3 : w5.cell? ⟨X, 3, none⟩ = some (.int .i64 ic) := M2.reg.cell 3 rfl
              have xib : w5.cell? ⟨G, ib, none⟩ = some (.int .i64 (s.ws.getD ib 0)) := M2.word HIb.out.len (by omega)
              have xic : w5.cell? ⟨G, ic, none⟩ = some (.int .i64 (s.ws.getD ic 0)) := M2.word HIb.out.len (by omega)
              have hI := HI.out
              clear HI
              have hvz := HIb.out.wd ib (by omega)
              have hvy := HIb.out.wd ic (by omega)
              obtain ⟨z, hz⟩ : ∃ z, z = s.ws.getD ib 0 := ⟨_, rfl⟩
              obtain ⟨y, hyy⟩ : ∃ y, y = s.ws.getD ic 0 := ⟨_, rfl⟩
              rw [← hz] at xib hI hvz
              rw [← hyy] at xic hI hvy
              have HZ := Lib.hid hz
              have HY := Lib.hid hyy
              clear hz hyy
              have HI := Lib.hid hI
              clear hI
              have hvv := Lib.hid (show (vB z && vB y) = true by rw [hvz, hvy]; rfl)
              clear hvz hvy
              have hcl : ∀ w, PMid B G X (.slice (some ad) c.l.length lc) (.slice ho c.h.length hc) (.slice to s.told.length tc) ⟨12, ia, ib, ic⟩ W { s with cost := s.cost + costV 12 } w → (w.cell? ⟨X, 0, none⟩ = some (.int .i64 12) ∧ w.cell? ⟨X, 2, none⟩ = some (.int .i64 ib) ∧ w.cell? ⟨X, 3, none⟩ = some (.int .i64 ic) ∧ w.cell? ⟨G, ib, none⟩ = some (.int .i64 z) ∧ w.cell? ⟨G, ic, none⟩ = some (.int .i64 y)) := fun w h => ⟨h.reg.cell 0 rfl, h.reg.cell 2 rfl, h.reg.cell 3 rfl, (h.word HIb.out.len (by omega)).trans (by rw [← HZ.out]), (h.word HIb.out.len (by omega)).trans (by rw [← HY.out])⟩
              refine wp_class (C := fun w => PMid B G X (.slice (some ad) c.l.length lc) (.slice ho c.h.length hc) (.slice to s.told.length tc) ⟨12, ia, ib, ic⟩ W { s with cost := s.cost + costV 12 } w ∧ (w.cell? ⟨X, 0, none⟩ = some (.int .i64 12) ∧ w.cell? ⟨X, 2, none⟩ = some (.int .i64 ib) ∧ w.cell? ⟨X, 3, none⟩ = some (.int .i64 ic) ∧ w.cell? ⟨G, ib, none⟩ = some (.int .i64 z) ∧ w.cell? ⟨G, ic, none⟩ = some (.int .i64 y))) (by kernel_rfl) (by kernel_rfl) ⟨M2.drew, hcl _ M2.drew⟩ ?_
              have HCl := Lib.hid hcl
              clear M2 hcl
              repeat (refine Go.BigFrame.wpQuiet_want (by rfl) (fun K hK => ?_); apply Exists.intro; refine ⟨fun w hSw => ?_, hK _ ?_⟩; (focus (go_simp; (try with_reducible rfl); done)); clear hK K; (try simp only [Act.put, List.setIfInBounds_toArray, List.set_cons_zero, List.set_cons_succ]))
              refine Go.BigFrame.wpQuiet_want (by rfl) (fun K hK => ?_)
              apply Exists.intro
              refine ⟨fun w hSw => ?_, hK _ ?_⟩
              focus (go_simp; exact Calls.mono (comp_ok _ _ _ _ (by omega) (by omega) hvv.out (fun h => absurd h (by decide))) fun e w' h => ⟨h.1, hSw.1.old h.2, HCl.out _ (hSw.1.old h.2)⟩)
              clear hK K
              repeat (refine Go.BigFrame.wpQuiet_want (by rfl) (fun K hK => ?_); apply Exists.intro; refine ⟨fun w hSw => ?_, hK _ ?_⟩; (focus (go_simp; (try with_reducible rfl); done)); clear hK K; (try simp only [Act.put, List.setIfInBounds_toArray, List.set_cons_zero, List.set_cons_succ]))
              refine wpQuiet_nil ?_
              rintro w6 ⟨M3, -⟩
              clear r0 r2 r3 xib xic HCl
              have r1 : w6.cell? ⟨X, 1, none⟩ = some (.int .i64 ia) := M3.reg.cell 1 rfl
              have xia : w6.cell? ⟨G, ia, none⟩ = some (.int .i64 (s.ws.getD ia 0)) := M3.word HIb.out.len (by omega)
              have fw := M3.regs.frozen ia
              obtain ⟨g0, g1, y0, y4, f0, f1, f2, f4, l1, l2, l3⟩ := M3.facts HOV.out
              generalize hq : calcV 12 z y = q at *
              have HQ := Lib.hid hq
              clear hq
              have HM3 := Lib.hid M3
              clear M3
              go_wp2_with fail
              have Mx := HM3.out.setReg hBW hGB hGX HIb.out.len (i := ia) q
              refine ⟨Mx.close rfl  hBW hGB hGX _ HI.out q1 _ _ rfl rfl rfl rfl rfl ?_ ?_, ?_⟩
              · show decide _ = decide _; exact decide_eq_decide.2 (by omega)
              · intro _; simp [goS]
              · show (most - ((j : Int) + 1)).toNat < (most - (j : Int)).toNat; omega
          · as_aux_lemma =>
              have hv1 := HV.out
              simp [insV, rgB, inB] at hv1
              obtain ⟨ia, rfl⟩ : ∃ ia : Nat, a = ia := ⟨a.toNat, by omega⟩
              have hia : (ia : Int) < 40 := by omega
              obtain ⟨ib, rfl⟩ : ∃ ib : Nat, b = ib := ⟨b.toNat, by omega⟩
              have hib : (ib : Int) < 40 := by omega
              obtain ⟨ic, rfl⟩ : ∃ ic : Nat, c' = ic := ⟨c'.toNat, by omega⟩
              have hic : (ic : Int) < 40 := by omega
              have HI := Lib.hid (show itS c (begS zs) (j + 1) = goS c (s.at_ + 1) { s with cost := s.cost + costV 13, ws := s.ws.set ia (calcV 13 (s.ws.getD ib 0) (s.ws.getD ic 0)) } by rw [HIt.out, if_neg (by rw [HOV.out]; decide)]; unfold stepS; rw [← HX.out]; simp)
              clear hv1 HIt
              go_wp2_with fail
              have M2 := HM.out.setRes hBW hGB hGX 3 (v := .int .i64 (s.cost + costV 13)) (s' := { s with cost := s.cost + costV 13 }) rfl rfl rfl
              clear r0 r1 r2 r3 y0 y3 z0 f0 f3 HM
              generalize (w4.setCell ⟨B+1, 3, none⟩ (.int .i64 (s.cost + costV 13))) = w5 at M2
              have r0 : w5.cell? ⟨X, 0, none⟩ = some (.int .i64 13) := M2.reg.cell 0 rfl
              have r2 : w5.cell? ⟨X, 2, none⟩ = some (.int .i64 ib) := M2.reg.cell 2 rfl
              have r3 : w5.cell? ⟨X, 3, none⟩ = some (.int .i64 ic) := M2.reg.cell 3 rfl
              have xib : w5.cell? ⟨G, ib, none⟩ = some (.int .i64 (s.ws.getD ib 0)) := M2.word HIb.out.len (by omega)
              have xic : w5.cell? ⟨G, ic, none⟩ = some (.int .i64 (s.ws.getD ic 0)) := M2.word HIb.out.len (by omega)
              have hI := HI.out
              clear HI
              have hvz := HIb.out.wd ib (by omega)
              have hvy := HIb.out.wd ic (by omega)
              obtain ⟨z, hz⟩ : ∃ z, z = s.ws.getD ib 0 := ⟨_, rfl⟩
              obtain ⟨y, hyy⟩ : ∃ y, y = s.ws.getD ic 0 := ⟨_, rfl⟩
              rw [← hz] at xib hI hvz
              rw [← hyy] at xic hI hvy
              have HZ := Lib.hid hz
              have HY := Lib.hid hyy
              clear hz hyy
              have HI := Lib.hid hI
              clear hI
              have hvv := Lib.hid (show (vB z && vB y) = true by rw [hvz, hvy]; rfl)
              clear hvz hvy
              have hcl : ∀ w, PMid B G X (.slice (some ad) c.l.length lc) (.slice ho c.h.length hc) (.slice to s.told.length tc) ⟨13, ia, ib, ic⟩ W { s with cost := s.cost + costV 13 } w → (w.cell? ⟨X, 0, none⟩ = some (.int .i64 13) ∧ w.cell? ⟨X, 2, none⟩ = some (.int .i64 ib) ∧ w.cell? ⟨X, 3, none⟩ = some (.int .i64 ic) ∧ w.cell? ⟨G, ib, none⟩ = some (.int .i64 z) ∧ w.cell? ⟨G, ic, none⟩ = some (.int .i64 y)) := fun w h => ⟨h.reg.cell 0 rfl, h.reg.cell 2 rfl, h.reg.cell 3 rfl, (h.word HIb.out.len (by omega)).trans (by rw [← HZ.out]), (h.word HIb.out.len (by omega)).trans (by rw [← HY.out])⟩
              refine wp_class (C := fun w => PMid B G X (.slice (some ad) c.l.length lc) (.slice ho c.h.length hc) (.slice to s.told.length tc) ⟨13, ia, ib, ic⟩ W { s with cost := s.cost + costV 13 } w ∧ (w.cell? ⟨X, 0, none⟩ = some (.int .i64 13) ∧ w.cell? ⟨X, 2, none⟩ = some (.int .i64 ib) ∧ w.cell? ⟨X, 3, none⟩ = some (.int .i64 ic) ∧ w.cell? ⟨G, ib, none⟩ = some (.int .i64 z) ∧ w.cell? ⟨G, ic, none⟩ = some (.int .i64 y))) (by kernel_rfl) (by kernel_rfl) ⟨M2.drew, hcl _ M2.drew⟩ ?_
              have HCl := Lib.hid hcl
              clear M2 hcl
              repeat (refine Go.BigFrame.wpQuiet_want (by rfl) (fun K hK => ?_); apply Exists.intro; refine ⟨fun w hSw => ?_, hK _ ?_⟩; (focus (go_simp; (try with_reducible rfl); done)); clear hK K; (try simp only [Act.put, List.setIfInBounds_toArray, List.set_cons_zero, List.set_cons_succ]))
              refine Go.BigFrame.wpQuiet_want (by rfl) (fun K hK => ?_)
              apply Exists.intro
              refine ⟨fun w hSw => ?_, hK _ ?_⟩
              focus (go_simp; exact Calls.mono (comp_ok _ _ _ _ (by omega) (by omega) hvv.out (fun h => absurd h (by decide))) fun e w' h => ⟨h.1, hSw.1.old h.2, HCl.out _ (hSw.1.old h.2)⟩)
              clear hK K
              repeat (refine Go.BigFrame.wpQuiet_want (by rfl) (fun K hK => ?_); apply Exists.intro; refine ⟨fun w hSw => ?_, hK _ ?_⟩; (focus (go_simp; (try with_reducible rfl); done)); clear hK K; (try simp only [Act.put, List.setIfInBounds_toArray, List.set_cons_zero, List.set_cons_succ]))
              refine wpQuiet_nil ?_
              rintro w6 ⟨M3, -⟩
              clear r0 r2 r3 xib xic HCl
              have r1 : w6.cell? ⟨X, 1, none⟩ = some (.int .i64 ia) := M3.reg.cell 1 rfl
              have xia : w6.cell? ⟨G, ia, none⟩ = some (.int .i64 (s.ws.getD ia 0)) := M3.word HIb.out.len (by omega)
              have fw := M3.regs.frozen ia
              obtain ⟨g0, g1, y0, y4, f0, f1, f2, f4, l1, l2, l3⟩ := M3.facts HOV.out
              generalize hq : calcV 13 z y = q at *
              have HQ := Lib.hid hq
              clear hq
              have HM3 := Lib.hid M3
              clear M3
              go_wp2_with fail
              have Mx := HM3.out.setReg hBW hGB hGX HIb.out.len (i := ia) q
              refine ⟨Mx.close rfl  hBW hGB hGX _ HI.out q1 _ _ rfl rfl rfl rfl rfl ?_ ?_, ?_⟩
              · show decide _ = decide _; exact decide_eq_decide.2 (by omega)
              · intro _; simp [goS]
              · show (most - ((j : Int) + 1)).toNat < (most - (j : Int)).toNat; omega
          · as_aux_lemma =>
              have hv1 := HV.out
              simp [insV, rgB, inB] at hv1
              obtain ⟨ia, rfl⟩ : ∃ ia : Nat, a = ia := ⟨a.toNat, by omega⟩
              have hia : (ia : Int) < 40 := by omega
              obtain ⟨ib, rfl⟩ : ∃ ib : Nat, b = ib := ⟨b.toNat, by omega⟩
              have hib : (ib : Int) < 40 := by omega
              obtain ⟨ic, rfl⟩ : ∃ ic : Nat, c' = ic := ⟨c'.toNat, by omega⟩
              have hic : (ic : Int) < 40 := by omega
              have HI := Lib.hid (show itS c (begS zs) (j + 1) = (if s.ws.getD ic 0 = 0 then trapS c { s with cost := s.cost + costV 14 } 4 else goS c (s.at_ + 1) { s with cost := s.cost + costV 14, ws := s.ws.set ia (calcV 14 (s.ws.getD ib 0) (s.ws.getD ic 0)) }) by rw [HIt.out, if_neg (by rw [HOV.out]; decide)]; unfold stepS; rw [← HX.out]; simp)
              clear hv1 HIt
              go_wp2_with fail
              have M2 := HM.out.setRes hBW hGB hGX 3 (v := .int .i64 (s.cost + costV 14)) (s' := { s with cost := s.cost + costV 14 }) rfl rfl rfl
              clear r0 r1 r2 r3 y0 y3 z0 f0 f3 HM
              generalize (w4.setCell ⟨B+1, 3, none⟩ (.int .i64 (s.cost + costV 14))) = w5 at M2
              have r0 : w5.cell? ⟨X, 0, none⟩ = some (.int .i64 14) := M2.reg.cell 0 rfl
              have r2 : w5.cell? ⟨X, 2, none⟩ = some (.int .i64 ib) := M2.reg.cell 2 rfl
              have r3 : w5.cell? ⟨X, 3, none⟩ = some (.int .i64 ic) := M2.reg.cell 3 rfl
              have xib : w5.cell? ⟨G, ib, none⟩ = some (.int .i64 (s.ws.getD ib 0)) := M2.word HIb.out.len (by omega)
              have xic : w5.cell? ⟨G, ic, none⟩ = some (.int .i64 (s.ws.getD ic 0)) := M2.word HIb.out.len (by omega)
              have hI := HI.out
              clear HI
              have hvz := HIb.out.wd ib (by omega)
              have hvy := HIb.out.wd ic (by omega)
              obtain ⟨z, hz⟩ : ∃ z, z = s.ws.getD ib 0 := ⟨_, rfl⟩
              obtain ⟨y, hyy⟩ : ∃ y, y = s.ws.getD ic 0 := ⟨_, rfl⟩
              rw [← hz] at xib hI hvz
              rw [← hyy] at xic hI hvy
              have HZ := Lib.hid hz
              have HY := Lib.hid hyy
              clear hz hyy
              by_cases hy : y = 0
              · rw [if_pos hy] at hI
                subst hy
                have HI := Lib.hid hI
                clear hI
                have hvv := Lib.hid (show (vB z && vB 0) = true by rw [hvz, hvy]; rfl)
                clear hvz hvy
                have hcl : ∀ w, PMid B G X (.slice (some ad) c.l.length lc) (.slice ho c.h.length hc) (.slice to s.told.length tc) ⟨14, ia, ib, ic⟩ W { s with cost := s.cost + costV 14 } w → (w.cell? ⟨X, 0, none⟩ = some (.int .i64 14) ∧ w.cell? ⟨X, 2, none⟩ = some (.int .i64 ib) ∧ w.cell? ⟨X, 3, none⟩ = some (.int .i64 ic) ∧ w.cell? ⟨G, ib, none⟩ = some (.int .i64 z) ∧ w.cell? ⟨G, ic, none⟩ = some (.int .i64 0)) := fun w h => ⟨h.reg.cell 0 rfl, h.reg.cell 2 rfl, h.reg.cell 3 rfl, (h.word HIb.out.len (by omega)).trans (by rw [← HZ.out]), (h.word HIb.out.len (by omega)).trans (by rw [← HY.out])⟩
                refine wp_class (C := fun w => PMid B G X (.slice (some ad) c.l.length lc) (.slice ho c.h.length hc) (.slice to s.told.length tc) ⟨14, ia, ib, ic⟩ W { s with cost := s.cost + costV 14 } w ∧ (w.cell? ⟨X, 0, none⟩ = some (.int .i64 14) ∧ w.cell? ⟨X, 2, none⟩ = some (.int .i64 ib) ∧ w.cell? ⟨X, 3, none⟩ = some (.int .i64 ic) ∧ w.cell? ⟨G, ib, none⟩ = some (.int .i64 z) ∧ w.cell? ⟨G, ic, none⟩ = some (.int .i64 0))) (by kernel_rfl) (by kernel_rfl) ⟨M2.drew, hcl _ M2.drew⟩ ?_
                have HCl := Lib.hid hcl
                clear M2 hcl
                repeat (refine Go.BigFrame.wpQuiet_want (by rfl) (fun K hK => ?_); apply Exists.intro; refine ⟨fun w hSw => ?_, hK _ ?_⟩; (focus (go_simp; (try with_reducible rfl); done)); clear hK K; (try simp only [Act.put, List.setIfInBounds_toArray, List.set_cons_zero, List.set_cons_succ]))
                refine Go.BigFrame.wpQuiet_want (by rfl) (fun K hK => ?_)
                apply Exists.intro
                refine ⟨fun w hSw => ?_, hK _ ?_⟩
                focus (go_simp; exact Calls.mono (comp_no _ _ (by have := hvv.out; simp at this; exact this.1)) fun e w' h => ⟨h.1, hSw.1.old h.2, HCl.out _ (hSw.1.old h.2)⟩)
                clear hK K
                repeat (refine Go.BigFrame.wpQuiet_want (by rfl) (fun K hK => ?_); apply Exists.intro; refine ⟨fun w hSw => ?_, hK _ ?_⟩; (focus (go_simp; (try with_reducible rfl); done)); clear hK K; (try simp only [Act.put, List.setIfInBounds_toArray, List.set_cons_zero, List.set_cons_succ]))
                refine wpQuiet_nil ?_
                rintro w6 ⟨M3, -⟩
                clear r0 r2 r3 xib xic HCl
                obtain ⟨g0, g1, y0, y4, f0, f1, f2, f4, l1, l2, l3⟩ := M3.facts HOV.out
                have HM3 := Lib.hid M3
                clear M3
                obtain ⟨ah, hah, ehW⟩ := sla_int ((HC.out).h) (show s.at_ < c.h.length by have := HV3.out; omega)
                subst hah
                obtain ⟨ah2, hah2, eh⟩ := sla_int ((HC.out.old HM3.out.bel).h) (show s.at_ < c.h.length by have := HV3.out; omega)
                obtain rfl := Option.some.inj hah2
                have hz5 := HL5.out _ hat
                obtain ⟨z, hz⟩ : ∃ z, z = c.h.getD s.at_ 0 := ⟨_, rfl⟩
                have HI := Lib.hid (HI.out.trans (trapS_eq (s := { s with cost := s.cost + costV 14 }) hz))
                rw [← hz] at ehW eh hz5
                have HZZ := Lib.hid hz
                clear hz
                simp only [inB, Bool.and_eq_true, decide_eq_true_eq] at hz5
                have l1 := HM3.out.res.lt
                have y2 : w6.cell? ⟨B+1, 2, none⟩ = some (.int .i64 s.trap) := HM3.out.res.cell 2 rfl
                have z5 : w6.cell? ⟨B, 1, none⟩ = some (.slice (some ah) c.h.length hc) := HM3.out.code.cell 1 rfl
                have hatl2 : (s.at_ : Int) < c.h.length := by have := HV3.out; omega
                have f1 := HM3.out.res.frozen 0
                have f2 := HM3.out.res.frozen 2
                clear ehW
                by_cases hz0 : 0 ≤ z
                · have HI := Lib.hid (show itS c (begS zs) (j + 1) = { s with cost := s.cost + costV 14, at_ := z.toNat } by rw [HI.out, if_pos hz0])
                  go_wp2_with fail
                  have Mx := HM3.out
                  refine ⟨Mx.close rfl  hBW hGB hGX _ HI.out q1 _ _ rfl rfl rfl rfl rfl ?_ ?_, ?_⟩
                  · show decide _ = s.ov; rw [HOV.out]; exact decide_eq_false (by omega)
                  · intro _; show z = ((z.toNat : Nat) : Int); omega
                  · show (most - ((j : Int) + 1)).toNat < (most - (j : Int)).toNat; omega
                · have HI := Lib.hid (show itS c (begS zs) (j + 1) = { s with cost := s.cost + costV 14, ov := true, trap := 4 } by rw [HI.out, if_neg hz0])
                  go_wp2_with fail
                  have Mx := ((HM3.out).setRes hBW hGB hGX 0 (v := .bool true) (s' := { s with cost := s.cost + costV 14, ov := true }) rfl rfl rfl).setRes hBW hGB hGX 2 (v := .int .i64 4) (s' := { s with cost := s.cost + costV 14, ov := true, trap := 4 }) rfl rfl rfl
                  refine ⟨Mx.close rfl  hBW hGB hGX _ HI.out q1 _ _ rfl rfl rfl rfl rfl ?_ ?_, ?_⟩
                  · rfl
                  · exact fun h => absurd h (by simp)
                  · show (most - ((j : Int) + 1)).toNat < (most - (j : Int)).toNat; omega
              · rw [if_neg hy] at hI
                have HI := Lib.hid hI
                clear hI
                have hvv := Lib.hid (show (vB z && vB y) = true by rw [hvz, hvy]; rfl)
                clear hvz hvy
                have hcl : ∀ w, PMid B G X (.slice (some ad) c.l.length lc) (.slice ho c.h.length hc) (.slice to s.told.length tc) ⟨14, ia, ib, ic⟩ W { s with cost := s.cost + costV 14 } w → (w.cell? ⟨X, 0, none⟩ = some (.int .i64 14) ∧ w.cell? ⟨X, 2, none⟩ = some (.int .i64 ib) ∧ w.cell? ⟨X, 3, none⟩ = some (.int .i64 ic) ∧ w.cell? ⟨G, ib, none⟩ = some (.int .i64 z) ∧ w.cell? ⟨G, ic, none⟩ = some (.int .i64 y)) := fun w h => ⟨h.reg.cell 0 rfl, h.reg.cell 2 rfl, h.reg.cell 3 rfl, (h.word HIb.out.len (by omega)).trans (by rw [← HZ.out]), (h.word HIb.out.len (by omega)).trans (by rw [← HY.out])⟩
                refine wp_class (C := fun w => PMid B G X (.slice (some ad) c.l.length lc) (.slice ho c.h.length hc) (.slice to s.told.length tc) ⟨14, ia, ib, ic⟩ W { s with cost := s.cost + costV 14 } w ∧ (w.cell? ⟨X, 0, none⟩ = some (.int .i64 14) ∧ w.cell? ⟨X, 2, none⟩ = some (.int .i64 ib) ∧ w.cell? ⟨X, 3, none⟩ = some (.int .i64 ic) ∧ w.cell? ⟨G, ib, none⟩ = some (.int .i64 z) ∧ w.cell? ⟨G, ic, none⟩ = some (.int .i64 y))) (by kernel_rfl) (by kernel_rfl) ⟨M2.drew, hcl _ M2.drew⟩ ?_
                have HCl := Lib.hid hcl
                clear M2 hcl
                repeat (refine Go.BigFrame.wpQuiet_want (by rfl) (fun K hK => ?_); apply Exists.intro; refine ⟨fun w hSw => ?_, hK _ ?_⟩; (focus (go_simp; (try with_reducible rfl); done)); clear hK K; (try simp only [Act.put, List.setIfInBounds_toArray, List.set_cons_zero, List.set_cons_succ]))
                refine Go.BigFrame.wpQuiet_want (by rfl) (fun K hK => ?_)
                apply Exists.intro
                refine ⟨fun w hSw => ?_, hK _ ?_⟩
                focus (go_simp; exact Calls.mono (comp_ok _ _ _ _ (by omega) (by omega) hvv.out (fun _ => hy)) fun e w' h => ⟨h.1, hSw.1.old h.2, HCl.out _ (hSw.1.old h.2)⟩)
                clear hK K
                repeat (refine Go.BigFrame.wpQuiet_want (by rfl) (fun K hK => ?_); apply Exists.intro; refine ⟨fun w hSw => ?_, hK _ ?_⟩; (focus (go_simp; (try with_reducible rfl); done)); clear hK K; (try simp only [Act.put, List.setIfInBounds_toArray, List.set_cons_zero, List.set_cons_succ]))
                refine wpQuiet_nil ?_
                rintro w6 ⟨M3, -⟩
                clear r0 r2 r3 xib xic HCl
                have r1 : w6.cell? ⟨X, 1, none⟩ = some (.int .i64 ia) := M3.reg.cell 1 rfl
                have xia : w6.cell? ⟨G, ia, none⟩ = some (.int .i64 (s.ws.getD ia 0)) := M3.word HIb.out.len (by omega)
                have fw := M3.regs.frozen ia
                obtain ⟨g0, g1, y0, y4, f0, f1, f2, f4, l1, l2, l3⟩ := M3.facts HOV.out
                generalize hq : calcV 14 z y = q at *
                have HQ := Lib.hid hq
                clear hq
                have HM3 := Lib.hid M3
                clear M3
                go_wp2_with fail
                have Mx := HM3.out.setReg hBW hGB hGX HIb.out.len (i := ia) q
                refine ⟨Mx.close rfl  hBW hGB hGX _ HI.out q1 _ _ rfl rfl rfl rfl rfl ?_ ?_, ?_⟩
                · show decide _ = decide _; exact decide_eq_decide.2 (by omega)
                · intro _; simp [goS]
                · show (most - ((j : Int) + 1)).toNat < (most - (j : Int)).toNat; omega
          · as_aux_lemma =>
              have hv1 := HV.out
              simp [insV, rgB, inB] at hv1
              obtain ⟨ia, rfl⟩ : ∃ ia : Nat, a = ia := ⟨a.toNat, by omega⟩
              have hia : (ia : Int) < 40 := by omega
              obtain ⟨ib, rfl⟩ : ∃ ib : Nat, b = ib := ⟨b.toNat, by omega⟩
              have hib : (ib : Int) < 40 := by omega
              obtain ⟨ic, rfl⟩ : ∃ ic : Nat, c' = ic := ⟨c'.toNat, by omega⟩
              have hic : (ic : Int) < 40 := by omega
              have HI := Lib.hid (show itS c (begS zs) (j + 1) = goS c (s.at_ + 1) { s with cost := s.cost + costV 15, ws := s.ws.set ia (calcV 15 (s.ws.getD ib 0) (s.ws.getD ic 0)) } by rw [HIt.out, if_neg (by rw [HOV.out]; decide)]; unfold stepS; rw [← HX.out]; simp)
              clear hv1 HIt
              go_wp2_with fail
              have M2 := HM.out.setRes hBW hGB hGX 3 (v := .int .i64 (s.cost + costV 15)) (s' := { s with cost := s.cost + costV 15 }) rfl rfl rfl
              clear r0 r1 r2 r3 y0 y3 z0 f0 f3 HM
              generalize (w4.setCell ⟨B+1, 3, none⟩ (.int .i64 (s.cost + costV 15))) = w5 at M2
              have r0 : w5.cell? ⟨X, 0, none⟩ = some (.int .i64 15) := M2.reg.cell 0 rfl
              have r2 : w5.cell? ⟨X, 2, none⟩ = some (.int .i64 ib) := M2.reg.cell 2 rfl
              have r3 : w5.cell? ⟨X, 3, none⟩ = some (.int .i64 ic) := M2.reg.cell 3 rfl
              have xib : w5.cell? ⟨G, ib, none⟩ = some (.int .i64 (s.ws.getD ib 0)) := M2.word HIb.out.len (by omega)
              have xic : w5.cell? ⟨G, ic, none⟩ = some (.int .i64 (s.ws.getD ic 0)) := M2.word HIb.out.len (by omega)
              have hI := HI.out
              clear HI
              have hvz := HIb.out.wd ib (by omega)
              have hvy := HIb.out.wd ic (by omega)
              obtain ⟨z, hz⟩ : ∃ z, z = s.ws.getD ib 0 := ⟨_, rfl⟩
              obtain ⟨y, hyy⟩ : ∃ y, y = s.ws.getD ic 0 := ⟨_, rfl⟩
              rw [← hz] at xib hI hvz
              rw [← hyy] at xic hI hvy
              have HZ := Lib.hid hz
              have HY := Lib.hid hyy
              clear hz hyy
              have HI := Lib.hid hI
              clear hI
              have hvv := Lib.hid (show (vB z && vB y) = true by rw [hvz, hvy]; rfl)
              clear hvz hvy
              have hcl : ∀ w, PMid B G X (.slice (some ad) c.l.length lc) (.slice ho c.h.length hc) (.slice to s.told.length tc) ⟨15, ia, ib, ic⟩ W { s with cost := s.cost + costV 15 } w → (w.cell? ⟨X, 0, none⟩ = some (.int .i64 15) ∧ w.cell? ⟨X, 2, none⟩ = some (.int .i64 ib) ∧ w.cell? ⟨X, 3, none⟩ = some (.int .i64 ic) ∧ w.cell? ⟨G, ib, none⟩ = some (.int .i64 z) ∧ w.cell? ⟨G, ic, none⟩ = some (.int .i64 y)) := fun w h => ⟨h.reg.cell 0 rfl, h.reg.cell 2 rfl, h.reg.cell 3 rfl, (h.word HIb.out.len (by omega)).trans (by rw [← HZ.out]), (h.word HIb.out.len (by omega)).trans (by rw [← HY.out])⟩
              refine wp_class (C := fun w => PMid B G X (.slice (some ad) c.l.length lc) (.slice ho c.h.length hc) (.slice to s.told.length tc) ⟨15, ia, ib, ic⟩ W { s with cost := s.cost + costV 15 } w ∧ (w.cell? ⟨X, 0, none⟩ = some (.int .i64 15) ∧ w.cell? ⟨X, 2, none⟩ = some (.int .i64 ib) ∧ w.cell? ⟨X, 3, none⟩ = some (.int .i64 ic) ∧ w.cell? ⟨G, ib, none⟩ = some (.int .i64 z) ∧ w.cell? ⟨G, ic, none⟩ = some (.int .i64 y))) (by kernel_rfl) (by kernel_rfl) ⟨M2.drew, hcl _ M2.drew⟩ ?_
              have HCl := Lib.hid hcl
              clear M2 hcl
              repeat (refine Go.BigFrame.wpQuiet_want (by rfl) (fun K hK => ?_); apply Exists.intro; refine ⟨fun w hSw => ?_, hK _ ?_⟩; (focus (go_simp; (try with_reducible rfl); done)); clear hK K; (try simp only [Act.put, List.setIfInBounds_toArray, List.set_cons_zero, List.set_cons_succ]))
              refine Go.BigFrame.wpQuiet_want (by rfl) (fun K hK => ?_)
              apply Exists.intro
              refine ⟨fun w hSw => ?_, hK _ ?_⟩
              focus (go_simp; exact Calls.mono (comp_ok _ _ _ _ (by omega) (by omega) hvv.out (fun h => absurd h (by decide))) fun e w' h => ⟨h.1, hSw.1.old h.2, HCl.out _ (hSw.1.old h.2)⟩)
              clear hK K
              repeat (refine Go.BigFrame.wpQuiet_want (by rfl) (fun K hK => ?_); apply Exists.intro; refine ⟨fun w hSw => ?_, hK _ ?_⟩; (focus (go_simp; (try with_reducible rfl); done)); clear hK K; (try simp only [Act.put, List.setIfInBounds_toArray, List.set_cons_zero, List.set_cons_succ]))
              refine wpQuiet_nil ?_
              rintro w6 ⟨M3, -⟩
              clear r0 r2 r3 xib xic HCl
              have r1 : w6.cell? ⟨X, 1, none⟩ = some (.int .i64 ia) := M3.reg.cell 1 rfl
              have xia : w6.cell? ⟨G, ia, none⟩ = some (.int .i64 (s.ws.getD ia 0)) := M3.word HIb.out.len (by omega)
              have fw := M3.regs.frozen ia
              obtain ⟨g0, g1, y0, y4, f0, f1, f2, f4, l1, l2, l3⟩ := M3.facts HOV.out
              generalize hq : calcV 15 z y = q at *
              have HQ := Lib.hid hq
              clear hq
              have HM3 := Lib.hid M3
              clear M3
              go_wp2_with fail
              have Mx := HM3.out.setReg hBW hGB hGX HIb.out.len (i := ia) q
              refine ⟨Mx.close rfl  hBW hGB hGX _ HI.out q1 _ _ rfl rfl rfl rfl rfl ?_ ?_, ?_⟩
              · show decide _ = decide _; exact decide_eq_decide.2 (by omega)
              · intro _; simp [goS]
              · show (most - ((j : Int) + 1)).toNat < (most - (j : Int)).toNat; omega
          · as_aux_lemma =>
              have hv1 := HV.out
              simp [insV, rgB, inB] at hv1
              obtain ⟨ia, rfl⟩ : ∃ ia : Nat, a = ia := ⟨a.toNat, by omega⟩
              have hia : (ia : Int) < 40 := by omega
              obtain ⟨ib, rfl⟩ : ∃ ib : Nat, b = ib := ⟨b.toNat, by omega⟩
              have hib : (ib : Int) < 40 := by omega
              obtain ⟨ic, rfl⟩ : ∃ ic : Nat, c' = ic := ⟨c'.toNat, by omega⟩
              have hic : (ic : Int) < 40 := by omega
              have HI := Lib.hid (show itS c (begS zs) (j + 1) = goS c (s.at_ + 1) { s with cost := s.cost + costV 16, ws := s.ws.set ia (calcV 16 (s.ws.getD ib 0) (s.ws.getD ic 0)) } by rw [HIt.out, if_neg (by rw [HOV.out]; decide)]; unfold stepS; rw [← HX.out]; simp)
              clear hv1 HIt
              go_wp2_with fail
              have M2 := HM.out.setRes hBW hGB hGX 3 (v := .int .i64 (s.cost + costV 16)) (s' := { s with cost := s.cost + costV 16 }) rfl rfl rfl
              clear r0 r1 r2 r3 y0 y3 z0 f0 f3 HM
              generalize (w4.setCell ⟨B+1, 3, none⟩ (.int .i64 (s.cost + costV 16))) = w5 at M2
              have r0 : w5.cell? ⟨X, 0, none⟩ = some (.int .i64 16) := M2.reg.cell 0 rfl
              have r2 : w5.cell? ⟨X, 2, none⟩ = some (.int .i64 ib) := M2.reg.cell 2 rfl
              have r3 : w5.cell? ⟨X, 3, none⟩ = some (.int .i64 ic) := M2.reg.cell 3 rfl
              have xib : w5.cell? ⟨G, ib, none⟩ = some (.int .i64 (s.ws.getD ib 0)) := M2.word HIb.out.len (by omega)
              have xic : w5.cell? ⟨G, ic, none⟩ = some (.int .i64 (s.ws.getD ic 0)) := M2.word HIb.out.len (by omega)
              have hI := HI.out
              clear HI
              have hvz := HIb.out.wd ib (by omega)
              have hvy := HIb.out.wd ic (by omega)
              obtain ⟨z, hz⟩ : ∃ z, z = s.ws.getD ib 0 := ⟨_, rfl⟩
              obtain ⟨y, hyy⟩ : ∃ y, y = s.ws.getD ic 0 := ⟨_, rfl⟩
              rw [← hz] at xib hI hvz
              rw [← hyy] at xic hI hvy
              have HZ := Lib.hid hz
              have HY := Lib.hid hyy
              clear hz hyy
              have HI := Lib.hid hI
              clear hI
              have hvv := Lib.hid (show (vB z && vB y) = true by rw [hvz, hvy]; rfl)
              clear hvz hvy
              have hcl : ∀ w, PMid B G X (.slice (some ad) c.l.length lc) (.slice ho c.h.length hc) (.slice to s.told.length tc) ⟨16, ia, ib, ic⟩ W { s with cost := s.cost + costV 16 } w → (w.cell? ⟨X, 0, none⟩ = some (.int .i64 16) ∧ w.cell? ⟨X, 2, none⟩ = some (.int .i64 ib) ∧ w.cell? ⟨X, 3, none⟩ = some (.int .i64 ic) ∧ w.cell? ⟨G, ib, none⟩ = some (.int .i64 z) ∧ w.cell? ⟨G, ic, none⟩ = some (.int .i64 y)) := fun w h => ⟨h.reg.cell 0 rfl, h.reg.cell 2 rfl, h.reg.cell 3 rfl, (h.word HIb.out.len (by omega)).trans (by rw [← HZ.out]), (h.word HIb.out.len (by omega)).trans (by rw [← HY.out])⟩
              refine wp_class (C := fun w => PMid B G X (.slice (some ad) c.l.length lc) (.slice ho c.h.length hc) (.slice to s.told.length tc) ⟨16, ia, ib, ic⟩ W { s with cost := s.cost + costV 16 } w ∧ (w.cell? ⟨X, 0, none⟩ = some (.int .i64 16) ∧ w.cell? ⟨X, 2, none⟩ = some (.int .i64 ib) ∧ w.cell? ⟨X, 3, none⟩ = some (.int .i64 ic) ∧ w.cell? ⟨G, ib, none⟩ = some (.int .i64 z) ∧ w.cell? ⟨G, ic, none⟩ = some (.int .i64 y))) (by kernel_rfl) (by kernel_rfl) ⟨M2.drew, hcl _ M2.drew⟩ ?_
              have HCl := Lib.hid hcl
              clear M2 hcl
              repeat (refine Go.BigFrame.wpQuiet_want (by rfl) (fun K hK => ?_); apply Exists.intro; refine ⟨fun w hSw => ?_, hK _ ?_⟩; (focus (go_simp; (try with_reducible rfl); done)); clear hK K; (try simp only [Act.put, List.setIfInBounds_toArray, List.set_cons_zero, List.set_cons_succ]))
              refine Go.BigFrame.wpQuiet_want (by rfl) (fun K hK => ?_)
              apply Exists.intro
              refine ⟨fun w hSw => ?_, hK _ ?_⟩
              focus (go_simp; exact Calls.mono (comp_ok _ _ _ _ (by omega) (by omega) hvv.out (fun h => absurd h (by decide))) fun e w' h => ⟨h.1, hSw.1.old h.2, HCl.out _ (hSw.1.old h.2)⟩)
              clear hK K
              repeat (refine Go.BigFrame.wpQuiet_want (by rfl) (fun K hK => ?_); apply Exists.intro; refine ⟨fun w hSw => ?_, hK _ ?_⟩; (focus (go_simp; (try with_reducible rfl); done)); clear hK K; (try simp only [Act.put, List.setIfInBounds_toArray, List.set_cons_zero, List.set_cons_succ]))
              refine wpQuiet_nil ?_
              rintro w6 ⟨M3, -⟩
              clear r0 r2 r3 xib xic HCl
              have r1 : w6.cell? ⟨X, 1, none⟩ = some (.int .i64 ia) := M3.reg.cell 1 rfl
              have xia : w6.cell? ⟨G, ia, none⟩ = some (.int .i64 (s.ws.getD ia 0)) := M3.word HIb.out.len (by omega)
              have fw := M3.regs.frozen ia
              obtain ⟨g0, g1, y0, y4, f0, f1, f2, f4, l1, l2, l3⟩ := M3.facts HOV.out
              generalize hq : calcV 16 z y = q at *
              have HQ := Lib.hid hq
              clear hq
              have HM3 := Lib.hid M3
              clear M3
              go_wp2_with fail
              have Mx := HM3.out.setReg hBW hGB hGX HIb.out.len (i := ia) q
              refine ⟨Mx.close rfl  hBW hGB hGX _ HI.out q1 _ _ rfl rfl rfl rfl rfl ?_ ?_, ?_⟩
              · show decide _ = decide _; exact decide_eq_decide.2 (by omega)
              · intro _; simp [goS]
              · show (most - ((j : Int) + 1)).toNat < (most - (j : Int)).toNat; omega
          · as_aux_lemma =>
              exfalso
              have hv1 := HV.out
              rw [show insV ⟨d, a, b, c'⟩ c.l.length = false by unfold insV; dsimp only; rw [if_neg (by omega), if_neg (by omega), if_neg (by omega), if_neg (by omega), if_neg (by omega), if_neg (by omega), if_neg (by omega), if_neg (by omega), if_neg (by omega)]] at hv1
              cases hv1
          --END
        · have hfin : runV c zs most = s := by
            rw [HR.out.1]
            by_cases hjm : (j : Int) < most
            · exact HOv.out (by cases h : s.ov; exact absurd ⟨hjm, h⟩ hgo; rfl)
            · exact HEn.out (by omega)
          have hov : (j : Int) < most → s.ov = true := fun h => by cases h' : s.ov; exact absurd ⟨h, h'⟩ hgo; rfl
          have f0 := X2.out.frozen 0
          have f1 := X2.out.frozen 1
          have f2 := X2.out.frozen 2
          have f3 := X2.out.frozen 3
          have f4 := X2.out.frozen 4
          have x1 : wr.cell? ⟨B+1, 1, none⟩ = some (.int .i64 s.res) := X2.out.cell 1 rfl
          have x2 : wr.cell? ⟨B+1, 2, none⟩ = some (.int .i64 s.trap) := X2.out.cell 2 rfl
          have x3 : wr.cell? ⟨B+1, 3, none⟩ = some (.int .i64 s.cost) := X2.out.cell 3 rfl
          have x4 : wr.cell? ⟨B+1, 4, none⟩ = some (.slice to s.told.length tc) := X2.out.cell 4 rfl
          have l1 : B + 1 < wr.heap.size := X2.out.lt
          have HF := Lib.hid hfin
          have HG := Lib.hid hgo
          clear hfin hgo
          by_cases hjm : (j : Int) < most
          · have ho := hov hjm
            rw [ho] at x0
            have HO := Lib.hid ho
            clear hov ho
            go_wp2_with fail
            have hq := res_set X2.out rfl (.bool true) (.int .i64 s.res) (.int .i64 s.trap) (.int .i64 s.cost) (.slice to s.told.length tc)
            have q0 : _ = some (Value.bool true) := hq.cell 0 rfl
            have q1 : _ = some (Value.int .i64 s.res) := hq.cell 1 rfl
            have q2 : _ = some (Value.int .i64 s.trap) := hq.cell 2 rfl
            have q3 : _ = some (Value.int .i64 s.cost) := hq.cell 3 rfl
            have q4 : _ = some (Value.slice to s.told.length tc) := hq.cell 4 rfl
            refine bodyPost_ret (v := .tuple #[.agg #[.bool true, .int .i64 s.res, .int .i64 s.trap, .int .i64 s.cost, .slice to s.told.length tc], .int .i64 0]) (by simp [results, Try.results11, go_sem, q0, q1, q2, q3, q4]) rfl ⟨to, tc, ?_, bel_set5 X4.out (by have := HB.out; omega) _ _ _ _ _, ?_⟩
            · rw [HF.out, HR.out.2]; simp only [resV, HO.out]
            · rw [HF.out]
              exact own_mono (base := G + 1) (ownsRow_setCell_below (ownsRow_setCell_below (ownsRow_setCell_below (ownsRow_setCell_below (ownsRow_setCell_below X5.out (a := ⟨B+1, 0, none⟩) (by show B + 1 < _; omega) _) (a := ⟨B+1, 1, none⟩) (by show B + 1 < _; omega) _) (a := ⟨B+1, 2, none⟩) (by show B + 1 < _; omega) _) (a := ⟨B+1, 3, none⟩) (by show B + 1 < _; omega) _) (a := ⟨B+1, 4, none⟩) (by show B + 1 < _; omega) _) (by have := HB.out; omega)
          · clear hov
            go_wp2_with fail
            have hq := res_set X2.out rfl (.bool s.ov) (.int .i64 s.res) (.int .i64 s.trap) (.int .i64 s.cost) (.slice to s.told.length tc)
            have q0 : _ = some (Value.bool s.ov) := hq.cell 0 rfl
            have q1 : _ = some (Value.int .i64 s.res) := hq.cell 1 rfl
            have q2 : _ = some (Value.int .i64 s.trap) := hq.cell 2 rfl
            have q3 : _ = some (Value.int .i64 s.cost) := hq.cell 3 rfl
            have q4 : _ = some (Value.slice to s.told.length tc) := hq.cell 4 rfl
            refine bodyPost_ret (v := .tuple #[.agg #[.bool s.ov, .int .i64 s.res, .int .i64 s.trap, .int .i64 s.cost, .slice to s.told.length tc], .int .i64 0]) (by simp [results, Try.results11, go_sem, q0, q1, q2, q3, q4]) rfl ⟨to, tc, ?_, bel_set5 X4.out (by have := HB.out; omega) _ _ _ _ _, ?_⟩
            · rw [HF.out, HR.out.2]; rfl
            · rw [HF.out]
              exact own_mono (base := G + 1) (ownsRow_setCell_below (ownsRow_setCell_below (ownsRow_setCell_below (ownsRow_setCell_below (ownsRow_setCell_below X5.out (a := ⟨B+1, 0, none⟩) (by show B + 1 < _; omega) _) (a := ⟨B+1, 1, none⟩) (by show B + 1 < _; omega) _) (a := ⟨B+1, 2, none⟩) (by show B + 1 < _; omega) _) (a := ⟨B+1, 3, none⟩) (by show B + 1 < _; omega) _) (a := ⟨B+1, 4, none⟩) (by show B + 1 < _; omega) _) (by have := HB.out; omega)
    · have hno : okRun c zs most = false := by
        cases h : okRun c zs most
        · rfl
        · exfalso
          simp only [okRun, Bool.and_eq_true, List.all_eq_true] at h
          rw [List.any_eq_true] at hcv
          obtain ⟨z, hz, hzv⟩ := hcv
          rw [h.2 z hz] at hzv
          cases hzv
      have HNo := Lib.hid hno
      clear hno f0 f1 f2 f3 f4 x0 x1 x2 x3 x4 l1
      have f0 := HR2.out.frozen 0
      have f1 := HR2.out.frozen 1
      have f2 := HR2.out.frozen 2
      have f3 := HR2.out.frozen 3
      have f4 := HR2.out.frozen 4
      have x0 : w2.cell? ⟨B+1, 0, none⟩ = some (.bool false) := HR2.out.cell 0 rfl
      have x1 : w2.cell? ⟨B+1, 1, none⟩ = some (.int .i64 0) := HR2.out.cell 1 rfl
      have x2 : w2.cell? ⟨B+1, 2, none⟩ = some (.int .i64 0) := HR2.out.cell 2 rfl
      have x3 : w2.cell? ⟨B+1, 3, none⟩ = some (.int .i64 0) := HR2.out.cell 3 rfl
      have x4 : w2.cell? ⟨B+1, 4, none⟩ = some (.slice none 0 0) := HR2.out.cell 4 rfl
      have l1 : B + 1 < w2.heap.size := HR2.out.lt
      have a0 : w2.cell? ⟨B, 0, none⟩ = some (.slice lo c.l.length lc) := HA2.out.cell 0 rfl
      have a1 : w2.cell? ⟨B, 1, none⟩ = some (.slice ho c.h.length hc) := HA2.out.cell 1 rfl
      go_wp2_with fail
      have hq := res_set HR2.out rfl (.bool false) (.int .i64 0) (.int .i64 0) (.int .i64 0) (.slice none 0 0)
      have q0 : _ = some (Value.bool false) := hq.cell 0 rfl
      have q1 : _ = some (Value.int .i64 0) := hq.cell 1 rfl
      have q2 : _ = some (Value.int .i64 0) := hq.cell 2 rfl
      have q3 : _ = some (Value.int .i64 0) := hq.cell 3 rfl
      have q4 : _ = some (Value.slice none 0 0) := hq.cell 4 rfl
      refine bodyPost_ret (v := .tuple #[.agg #[.bool false, .int .i64 0, .int .i64 0, .int .i64 0, .slice none 0 0], .int .i64 1]) (by simp [results, Try.results11, go_sem, q0, q1, q2, q3, q4]) rfl ⟨none, 0, ?_, bel_set5 HL2.out (by have := HB.out; omega) _ _ _ _ _, ?_⟩
      · simp [runV, runE, HNo.out, resV, noS]
      · simp [runV, HNo.out, noS, flatT]; exact World.ownsRow_nil _ _ _ _
  · have HK := Lib.hid hk
    have hno : okRun c zs most = false := by
      cases h : okRun c zs most
      · rfl
      · exfalso; apply hk; simp [okRun] at h; exact ⟨h.1.1.1.1, h.1.1.1.2, h.1.1.2, h.1.2⟩
    have HNo := Lib.hid hno
    clear hno hk
    rcases hcv : codeV c with _ | _
    all_goals
      go_wp2_with fail
    all_goals try (exfalso; have := HK.out; simp_all; omega)
    all_goals
      have hq := res_set HR1.out rfl (.bool false) (.int .i64 0) (.int .i64 0) (.int .i64 0) (.slice none 0 0)
      have q0 : _ = some (Value.bool false) := hq.cell 0 rfl
      have q1 : _ = some (Value.int .i64 0) := hq.cell 1 rfl
      have q2 : _ = some (Value.int .i64 0) := hq.cell 2 rfl
      have q3 : _ = some (Value.int .i64 0) := hq.cell 3 rfl
      have q4 : _ = some (Value.slice none 0 0) := hq.cell 4 rfl
      refine bodyPost_ret (v := .tuple #[.agg #[.bool false, .int .i64 0, .int .i64 0, .int .i64 0, .slice none 0 0], .int .i64 1]) (by simp [results, Try.results11, go_sem, q0, q1, q2, q3, q4]) rfl ⟨none, 0, ?_, bel_set5 HL1.out (by have := HB.out; omega) _ _ _ _ _, ?_⟩
      · simp [runV, runE, HNo.out, resV, noS]
      · simp [runV, HNo.out, noS, flatT]; exact World.ownsRow_nil _ _ _ _

end Go.Proofs.Ytignlfcjlbijaaa
