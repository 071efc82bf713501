/- The reference's Run. -/
import Derived.Test.YtignlfcjlbijaaaRj
namespace Go.Proofs.Ytignlfcjlbijaaa
open Go.RowKit

/-- a run's answer: how far it came, and the error -/
def okRun (c : Cd) (args : List Int) (most : Int) : Bool := codeV c && decide (args.length ≤ 4) && decide (0 ≤ most) && decide (most ≤ 100000) && args.all vB
def noS : RS := ⟨[], 0, false, 0, 0, 0, []⟩
def runV (c : Cd) (args : List Int) (most : Int) : RS := if okRun c args most then itS c (begS args) most.toNat else noS
def runE (c : Cd) (args : List Int) (most : Int) : Int := if okRun c args most then 0 else 1
/-- a result as its five cells -/
def resV (s : RS) (tv : Value) : Value := .agg #[.bool s.ov, .int .i64 s.res, .int .i64 s.trap, .int .i64 s.cost, tv]

theorem beg_set {zs : List Int} {k : Nat} (hk : k < zs.length) (hl : zs.length ≤ 4) : { begS (zs.take k) with ws := (begS (zs.take k)).ws.set k (zs.getD k 0) } = begS (zs.take (k + 1)) := by
  have hk' : (zs.take k).length = k := by rw [List.length_take]; omega
  simp only [begS]
  congr 1
  rw [List.set_append_right _ _ (by omega), hk', Nat.sub_self, take_snoc _ _ hk, show 40 - k = (40 - (k + 1)) + 1 by omega, List.replicate_succ, List.set_cons_zero]
  simp [hk']
theorem beg_len (zs : List Int) (h : zs.length ≤ 4) : (begS zs).ws.length = 40 := by simp [begS]; omega
/-- a result's block, all five cells written -/
theorem res_set {w : World} {b : Nat} {xs : Array Value} {t : TypeId} (h : Blk w b xs t) (hs : xs.size = 5) (v0 v1 v2 v3 v4 : Value) :
    Blk (((((w.setCell ⟨b, 0, none⟩ v0).setCell ⟨b, 1, none⟩ v1).setCell ⟨b, 2, none⟩ v2).setCell ⟨b, 3, none⟩ v3).setCell ⟨b, 4, none⟩ v4) b #[v0, v1, v2, v3, v4] t := by
  obtain ⟨l⟩ := xs
  obtain ⟨a0, a1, a2, a3, a4, rfl⟩ : ∃ a0 a1 a2 a3 a4, l = [a0, a1, a2, a3, a4] := by
    match l, hs with
    | [a0, a1, a2, a3, a4], _ => exact ⟨_, _, _, _, _, rfl⟩
  have h5 := ((((h.set 0 v0).set 1 v1).set 2 v2).set 3 v3).set 4 v4
  simp only [List.setIfInBounds_toArray, List.set_cons_zero, List.set_cons_succ] at h5
  exact h5
theorem bel_set5 {B : Nat} {W w : World} (h : Below B W w) {b : Nat} (hb : B ≤ b) (v0 v1 v2 v3 v4 : Value) :
    Below B W (((((w.setCell ⟨b, 0, none⟩ v0).setCell ⟨b, 1, none⟩ v1).setCell ⟨b, 2, none⟩ v2).setCell ⟨b, 3, none⟩ v3).setCell ⟨b, 4, none⟩ v4) :=
  ((((h.setCell (p := ⟨b, 0, none⟩) hb _).setCell (p := ⟨b, 1, none⟩) hb _).setCell (p := ⟨b, 2, none⟩) hb _).setCell (p := ⟨b, 3, none⟩) hb _).setCell (p := ⟨b, 4, none⟩) hb _

set_option maxHeartbeats 8000000 in
set_option maxRecDepth 100000 in
theorem rRun_any (W : World) (lo : Option Addr) (lc : Nat) (ho : Option Addr) (hc : Nat) (c : Cd) (hcd : CdAt W lo lc ho hc c) (ao : Option Addr) (acap : Nat) (zs : List Int) (hz : Sl .i64 W ao zs) (hzl : zs.length ≤ 1000) (most : Int) :
    Calls Try.prog 12 #[.agg #[.slice lo c.l.length lc, .slice ho c.h.length hc], .slice ao zs.length acap, .int .i64 most] W fun e w' => ∃ to tc, e = .returned (.tuple #[resV (runV c zs most) (.slice to (runV c zs most).told.length tc), .int .i64 (runE c zs most)]) ∧ Below W.heap.size W w' ∧ w'.ownsRow W.heap.size 45 2 (.slice to (runV c zs most).told.length tc) (runV c zs most).told.length (flatT (runV c zs most).told) := by
  obtain ⟨B, hB⟩ : ∃ B, B = W.heap.size := ⟨_, rfl⟩
  have HC := Lib.hid hcd
  have HZ := Lib.hid hz
  clear hcd hz
  go_enter Try.func12, Try.ntmps12
  go_wp2_with fail
  have hb0 := ((Below.refl W.heap.size W).alloc (Nat.le_refl _) (.cells #[.slice lo c.l.length lc, .slice ho c.h.length hc] 25)).alloc (by simp) (.cells #[.bool false, .int .i64 0, .int .i64 0, .int .i64 0, .slice none 0 0] 38)
  have hA0 : Blk ((W.alloc (.cells #[.slice lo c.l.length lc, .slice ho c.h.length hc] 25)).alloc (.cells #[.bool false, .int .i64 0, .int .i64 0, .int .i64 0, .slice none 0 0] 38)) B #[.slice lo c.l.length lc, .slice ho c.h.length hc] 25 := (Blk.new' _ _ hB).alloc _
  have hR0 : Blk ((W.alloc (.cells #[.slice lo c.l.length lc, .slice ho c.h.length hc] 25)).alloc (.cells #[.bool false, .int .i64 0, .int .i64 0, .int .i64 0, .slice none 0 0] 38)) (B+1) #[.bool false, .int .i64 0, .int .i64 0, .int .i64 0, .slice none 0 0] 38 := Blk.new' _ _ (by simp [hB])
  refine (rValid_any _ lo lc ho hc c (HC.out.old hb0)).mono ?_
  rintro e w1 ⟨rfl, hb1⟩
  have HA1 := Lib.hid (hA0.old hb1)
  have HR1 := Lib.hid (hR0.old hb1)
  have HL1 := Lib.hid (hb0.trans (hb1.mono hb0.size))
  clear hA0 hR0 hb1 hb0
  rw [← hB]
  have HB := Lib.hid hB
  clear hB
  have f0 := HR1.out.frozen 0
  have f1 := HR1.out.frozen 1
  have f2 := HR1.out.frozen 2
  have f3 := HR1.out.frozen 3
  have f4 := HR1.out.frozen 4
  have x0 : w1.cell? ⟨B+1, 0, none⟩ = some (.bool false) := HR1.out.cell 0 rfl
  have x1 : w1.cell? ⟨B+1, 1, none⟩ = some (.int .i64 0) := HR1.out.cell 1 rfl
  have x2 : w1.cell? ⟨B+1, 2, none⟩ = some (.int .i64 0) := HR1.out.cell 2 rfl
  have x3 : w1.cell? ⟨B+1, 3, none⟩ = some (.int .i64 0) := HR1.out.cell 3 rfl
  have x4 : w1.cell? ⟨B+1, 4, none⟩ = some (.slice none 0 0) := HR1.out.cell 4 rfl
  have l1 : B + 1 < w1.heap.size := HR1.out.lt
  have a0 : w1.cell? ⟨B, 0, none⟩ = some (.slice lo c.l.length lc) := HA1.out.cell 0 rfl
  have a1 : w1.cell? ⟨B, 1, none⟩ = some (.slice ho c.h.length hc) := HA1.out.cell 1 rfl
  by_cases hk : codeV c = true ∧ zs.length ≤ 4 ∧ 0 ≤ most ∧ most ≤ 100000
  · obtain ⟨k1, k2, k3, k4⟩ := hk
    have k2' : (zs.length : Int) ≤ 4 := by omega
    go_wp2_with fail
    obtain ⟨S, hS⟩ : ∃ S, S = w1.heap.size := ⟨_, rfl⟩
    change Code.wp _ _ _ _ (w1.alloc (.cells (stA (.slice lo c.l.length lc) (.slice ho c.h.length hc) (begS (zs.take 0)) (.slice none 0 0)) 71))
    have H2 : Blk (w1.alloc (.cells (stA (.slice lo c.l.length lc) (.slice ho c.h.length hc) (begS (zs.take 0)) (.slice none 0 0)) 71)) S (stA (.slice lo c.l.length lc) (.slice ho c.h.length hc) (begS (zs.take 0)) (.slice none 0 0)) 71 := Blk.new' _ _ hS
    have H3 := HR1.out.alloc (.cells (stA (.slice lo c.l.length lc) (.slice ho c.h.length hc) (begS (zs.take 0)) (.slice none 0 0)) 71)
    have H4 := HL1.out.alloc HL1.out.size (.cells (stA (.slice lo c.l.length lc) (.slice ho c.h.length hc) (begS (zs.take 0)) (.slice none 0 0)) 71)
    generalize (w1.alloc (.cells (stA (.slice lo c.l.length lc) (.slice ho c.h.length hc) (begS (zs.take 0)) (.slice none 0 0)) 71)) = w2 at H2 H3 H4
    rw [← hS]
    have hSB : B + 1 < S := by omega
    have hk2 : zs.length ≤ 4 := k2
    clear hS f0 f1 f2 f3 f4 x0 x1 x2 x3 x4 l1 a0 a1
    go_loopw [9] (fun i wr => ∃ (k : Nat), k ≤ zs.length ∧ i = .int .i64 k ∧ Blk wr S (stA (.slice lo c.l.length lc) (.slice ho c.h.length hc) (begS (zs.take k)) (.slice none 0 0)) 71 ∧ Blk wr (B+1) #[.bool false, .int .i64 0, .int .i64 0, .int .i64 0, .slice none 0 0] 38 ∧ Below W.heap.size W wr ∧ (zs.take k).all vB = true) (fun i _ => zs.length - (intOf i).toNat)
    case atStart => exact ⟨0, by omega, rfl, H2, H3, H4, rfl⟩
    case round =>
      obtain ⟨k, hk, rfl, r1, r2, r3, r4⟩ := hrel
      have R1 := Lib.hid r1
      have R2 := Lib.hid r2
      have R3 := Lib.hid r3
      have R4 := Lib.hid r4
      clear r1 r2 r3 r4 H2 H3 H4
      by_cases hkl : k < zs.length
      · obtain ⟨ad, had, e0⟩ := HZ.out.below R3.out k hkl
        have HAd := Lib.hid had
        subst had
        generalize hz : zs.getD k 0 = z at e0
        have HZz := Lib.hid hz
        clear hz
        have y0 : wr.cell? ⟨S, 2 + k, none⟩ = some (.int .i64 ((begS (zs.take k)).ws.getD k 0)) := R1.out.cell (2 + k) (stA_w (beg_len _ (by rw [List.length_take]; omega)) (by omega))
        have y1 : wr.frozen? ⟨S, 2 + k, none⟩ = false := R1.out.frozen _
        have y2 : S < wr.heap.size := R1.out.lt
        have hkI : (k : Int) < 40 := by omega
        rcases hv : vB z with _ | _
        · have hno : okRun c zs most = false := by
            cases h : okRun c zs most
            · rfl
            · exfalso
              simp only [okRun, Bool.and_eq_true, List.all_eq_true] at h
              have := h.2 (zs.getD k 0) (by rw [List.getD_eq_getElem?_getD, List.getElem?_eq_getElem hkl]; exact List.getElem_mem hkl)
              rw [HZz.out, hv] at this; cases this
          have HNo := Lib.hid hno
          clear hno y0 y1
          have f0 := R2.out.frozen 0
          have f1 := R2.out.frozen 1
          have f2 := R2.out.frozen 2
          have f3 := R2.out.frozen 3
          have f4 := R2.out.frozen 4
          have x0 : wr.cell? ⟨B+1, 0, none⟩ = some (.bool false) := R2.out.cell 0 rfl
          have x1 : wr.cell? ⟨B+1, 1, none⟩ = some (.int .i64 0) := R2.out.cell 1 rfl
          have x2 : wr.cell? ⟨B+1, 2, none⟩ = some (.int .i64 0) := R2.out.cell 2 rfl
          have x3 : wr.cell? ⟨B+1, 3, none⟩ = some (.int .i64 0) := R2.out.cell 3 rfl
          have x4 : wr.cell? ⟨B+1, 4, none⟩ = some (.slice none 0 0) := R2.out.cell 4 rfl
          have l1 : B + 1 < wr.heap.size := R2.out.lt
          go_wp2_with (go_at_call 30; refine (rvalid_any _ _).mono ?_; rintro e w' ⟨rfl, rfl⟩)
          have hq := res_set R2.out rfl (.bool false) (.int .i64 0) (.int .i64 0) (.int .i64 0) (.slice none 0 0)
          have q0 : _ = some (Value.bool false) := hq.cell 0 rfl
          have q1 : _ = some (Value.int .i64 0) := hq.cell 1 rfl
          have q2 : _ = some (Value.int .i64 0) := hq.cell 2 rfl
          have q3 : _ = some (Value.int .i64 0) := hq.cell 3 rfl
          have q4 : _ = some (Value.slice none 0 0) := hq.cell 4 rfl
          refine bodyPost_ret (v := .tuple #[.agg #[.bool false, .int .i64 0, .int .i64 0, .int .i64 0, .slice none 0 0], .int .i64 1]) (by simp [results, Try.results12, go_sem, q0, q1, q2, q3, q4]) rfl ⟨none, 0, ?_, bel_set5 R3.out (by have := HB.out; omega) _ _ _ _ _, ?_⟩
          · simp [runV, runE, HNo.out, resV, noS]
          · simp [runV, HNo.out, noS, flatT]; exact World.ownsRow_nil _ _ _ _
        · go_wp2_with (go_at_call 30; refine (rvalid_any _ _).mono ?_; rintro e w' ⟨rfl, rfl⟩)
          refine wp_still_tail 9 (by kernel_rfl) (by kernel_rfl) ?_
          simp only [List.take_succ_cons, List.take_zero, List.drop_succ_cons, List.drop_zero]
          repeat still_step
          refine wpStill_nil ?_
          go_wp2
          go_roundw
          case rel =>
            refine ⟨k + 1, by omega, by go_num, ?_, (R2.out.other (by show B + 1 ≠ S; omega) _).drew, (R3.out.setCell (p := ⟨S, 2 + k, none⟩) (by show _ ≤ S; have := HB.out; omega) _).drew, ?_⟩
            · have := (R1.out.set (2 + k) (.int .i64 z))
              rw [stA_set_w (beg_len _ (by rw [List.length_take]; omega)) (by omega), ← HZz.out, beg_set hkl hk2] at this
              rw [← HZz.out]
              exact this
            · rw [take_snoc _ _ hkl, List.all_append, R4.out, HZz.out]; simp [hv]
          case measure => simp [intOf]; omega
      · have hke : k = zs.length := by omega
        subst hke
        rw [List.take_length] at R1 R4
        have hok : okRun c zs most = true := by simp only [okRun, k1, R4.out, Bool.and_eq_true, decide_eq_true_eq]; exact ⟨⟨⟨⟨trivial, k2⟩, k3⟩, k4⟩, trivial⟩
        have HOk := Lib.hid hok
        have hbeg := begS_ok k1 hk2 R4.out
        have HBg := Lib.hid hbeg
        have HK1 := Lib.hid k1
        clear hok hbeg
        go_wp2
        go_loopw [10] (fun i wr => ∃ (j : Nat) (to : Option Addr) (tc : Nat), (j : Int) ≤ most ∧ i = .int .i64 j ∧ Blk wr S (stA (.slice lo c.l.length lc) (.slice ho c.h.length hc) (itS c (begS zs) j) (.slice to (itS c (begS zs) j).told.length tc)) 71 ∧ Blk wr (B+1) #[.bool false, .int .i64 0, .int .i64 0, .int .i64 0, .slice none 0 0] 38 ∧ Below W.heap.size W wr ∧ wr.ownsRow (S+1) 45 2 (.slice to (itS c (begS zs) j).told.length tc) (itS c (begS zs) j).told.length (flatT (itS c (begS zs) j).told)) (fun i _ => (most - intOf i).toNat)
        case atStart => exact ⟨0, none, 0, by omega, rfl, R1.out, R2.out, R3.out, World.ownsRow_nil _ _ _ _⟩
        case round =>
          obtain ⟨j, to, tc, hj, rfl, r1, r2, r3, r4⟩ := hrel
          have hS := (HBg.out.len)
          have hib := itS_ok HK1.out HBg.out j
          have hit : itS c (begS zs) (j + 1) = if (itS c (begS zs) j).ov then itS c (begS zs) j else stepS c (itS c (begS zs) j) := rfl
          have hrun : runV c zs most = itS c (begS zs) most.toNat := by unfold runV; rw [HOk.out]; rfl
          have hrunE : runE c zs most = 0 := by unfold runE; rw [HOk.out]; rfl
          have hover : (itS c (begS zs) j).ov = true → itS c (begS zs) most.toNat = itS c (begS zs) j := by
            intro ho
            have := itS_over ho (most.toNat - j)
            rwa [show j + (most.toNat - j) = most.toNat by omega] at this
          have hend : (most : Int) ≤ j → itS c (begS zs) most.toNat = itS c (begS zs) j := by
            intro h; congr 1; omega
          have HR := Lib.hid (And.intro hrun hrunE)
          have HIt := Lib.hid hit
          have HIb := Lib.hid hib
          have HOv := Lib.hid hover
          have HEn := Lib.hid hend
          clear hrun hrunE hit hover hend hS
          generalize hs : itS c (begS zs) j = s at *
          have HS := Lib.hid hs
          clear hs
          have X1 := Lib.hid r1
          have X2 := Lib.hid r2
          have X3 := Lib.hid r3
          have X4 := Lib.hid r4
          obtain ⟨g0, g1, g42, g43, g44, g45, g46, g47, f42, f43, f44, f45, f46, f47, lS⟩ := stFacts r1 hib.len
          clear r1 r2 r3 r4 g0 g1 g42 f42 f43 f44 f45 f46 f47 hib
          by_cases hgo : (j : Int) < most ∧ s.ov = false
          · obtain ⟨q1, q2⟩ := hgo
            rw [q2] at g43
            go_wp2_with fail
            refine (rstep_any W wr S lo lc ho hc c s to tc HC.out (by have := HB.out; omega) X3.out HK1.out X1.out (HIb.out.ok (by omega)) q2 X4.out).mono ?_
            rintro e w3 ⟨rfl, ⟨to', tc', h5, h6⟩, h7⟩
            have hit' : itS c (begS zs) (j + 1) = stepS c s := by rw [HIt.out, q2]; rfl
            have Y1 := Lib.hid h5
            have Y2 := Lib.hid (X2.out.below h7 hSB)
            have Y3 := Lib.hid (X3.out.trans (h7.mono (by have := HB.out; omega)))
            have Y4 := Lib.hid h6
            have HI' := Lib.hid hit'
            clear h5 h6 h7 hit' g43 g44 g45 g46 g47 lS
            have hw1 : IntKind.i64.wrap ((j : Int) + 1) = j + 1 := IntWalk.i64_in _ (by omega)
            go_wp2
            go_roundw
            case rel =>
              refine ⟨j + 1, to', tc', by omega, by go_num, ?_, Y2.out, Y3.out, ?_⟩
              · rw [HI'.out]; exact Y1.out
              · rw [HI'.out]; exact Y4.out
            case measure => simp [intOf]; omega
          · have hfin : runV c zs most = s := by
              rw [HR.out.1]
              by_cases hjm : (j : Int) < most
              · exact HOv.out (by cases h : s.ov; exact absurd ⟨hjm, h⟩ hgo; rfl)
              · exact HEn.out (by omega)
            have hstop : (j : Int) < most → s.ov = true := fun h => by cases h' : s.ov; exact absurd ⟨h, h'⟩ hgo; rfl
            have f0 := X2.out.frozen 0
            have f1 := X2.out.frozen 1
            have f2 := X2.out.frozen 2
            have f3 := X2.out.frozen 3
            have f4 := X2.out.frozen 4
            have x0 : wr.cell? ⟨B+1, 0, none⟩ = some (.bool false) := X2.out.cell 0 rfl
            have x1 : wr.cell? ⟨B+1, 1, none⟩ = some (.int .i64 0) := X2.out.cell 1 rfl
            have x2 : wr.cell? ⟨B+1, 2, none⟩ = some (.int .i64 0) := X2.out.cell 2 rfl
            have x3 : wr.cell? ⟨B+1, 3, none⟩ = some (.int .i64 0) := X2.out.cell 3 rfl
            have x4 : wr.cell? ⟨B+1, 4, none⟩ = some (.slice none 0 0) := X2.out.cell 4 rfl
            have l1 : B + 1 < wr.heap.size := X2.out.lt
            have hov : (j : Int) < most → s.ov = true := hstop
            have HF := Lib.hid hfin
            have HG := Lib.hid hgo
            clear hfin hgo hstop
            by_cases hjm : (j : Int) < most
            · rw [hov hjm] at g43
              have ho := hov hjm
              have HO := Lib.hid ho
              clear hov ho
              go_wp2_with fail
              have hq := res_set X2.out rfl (.bool true) (.int .i64 s.res) (.int .i64 s.trap) (.int .i64 s.cost) (.slice to s.told.length tc)
              have q0 : _ = some (Value.bool true) := hq.cell 0 rfl
              have q1 : _ = some (Value.int .i64 s.res) := hq.cell 1 rfl
              have q2 : _ = some (Value.int .i64 s.trap) := hq.cell 2 rfl
              have q3 : _ = some (Value.int .i64 s.cost) := hq.cell 3 rfl
              have q4 : _ = some (Value.slice to s.told.length tc) := hq.cell 4 rfl
              refine bodyPost_ret (v := .tuple #[.agg #[.bool true, .int .i64 s.res, .int .i64 s.trap, .int .i64 s.cost, .slice to s.told.length tc], .int .i64 0]) (by simp [results, Try.results12, go_sem, q0, q1, q2, q3, q4]) rfl ⟨to, tc, ?_, bel_set5 X3.out (by have := HB.out; omega) _ _ _ _ _, ?_⟩
              · rw [HF.out, HR.out.2]; simp only [resV, HO.out]
              · rw [HF.out]
                exact own_mono (base := S + 1) (ownsRow_setCell_below (ownsRow_setCell_below (ownsRow_setCell_below (ownsRow_setCell_below (ownsRow_setCell_below X4.out (a := ⟨B+1, 0, none⟩) (by show B + 1 < _; omega) _) (a := ⟨B+1, 1, none⟩) (by show B + 1 < _; omega) _) (a := ⟨B+1, 2, none⟩) (by show B + 1 < _; omega) _) (a := ⟨B+1, 3, none⟩) (by show B + 1 < _; omega) _) (a := ⟨B+1, 4, none⟩) (by show B + 1 < _; omega) _) (by have := HB.out; omega)
            · clear hov
              go_wp2_with fail
              have hq := res_set X2.out rfl (.bool s.ov) (.int .i64 s.res) (.int .i64 s.trap) (.int .i64 s.cost) (.slice to s.told.length tc)
              have q0 : _ = some (Value.bool s.ov) := hq.cell 0 rfl
              have q1 : _ = some (Value.int .i64 s.res) := hq.cell 1 rfl
              have q2 : _ = some (Value.int .i64 s.trap) := hq.cell 2 rfl
              have q3 : _ = some (Value.int .i64 s.cost) := hq.cell 3 rfl
              have q4 : _ = some (Value.slice to s.told.length tc) := hq.cell 4 rfl
              refine bodyPost_ret (v := .tuple #[.agg #[.bool s.ov, .int .i64 s.res, .int .i64 s.trap, .int .i64 s.cost, .slice to s.told.length tc], .int .i64 0]) (by simp [results, Try.results12, go_sem, q0, q1, q2, q3, q4]) rfl ⟨to, tc, ?_, bel_set5 X3.out (by have := HB.out; omega) _ _ _ _ _, ?_⟩
              · rw [HF.out, HR.out.2]; rfl
              · rw [HF.out]
                exact own_mono (base := S + 1) (ownsRow_setCell_below (ownsRow_setCell_below (ownsRow_setCell_below (ownsRow_setCell_below (ownsRow_setCell_below X4.out (a := ⟨B+1, 0, none⟩) (by show B + 1 < _; omega) _) (a := ⟨B+1, 1, none⟩) (by show B + 1 < _; omega) _) (a := ⟨B+1, 2, none⟩) (by show B + 1 < _; omega) _) (a := ⟨B+1, 3, none⟩) (by show B + 1 < _; omega) _) (a := ⟨B+1, 4, none⟩) (by show B + 1 < _; omega) _) (by have := HB.out; omega)
  · have HK := Lib.hid hk
    have hno : okRun c zs most = false := by
      cases h : okRun c zs most
      · rfl
      · exfalso; apply hk; simp [okRun] at h; exact ⟨h.1.1.1.1, h.1.1.1.2, h.1.1.2, h.1.2⟩
    have HNo := Lib.hid hno
    clear hno hk
    rcases hcv : codeV c with _ | _
    all_goals
      go_wp2_with fail
    all_goals try (exfalso; have := HK.out; simp_all; omega)
    all_goals
      have hq := res_set HR1.out rfl (.bool false) (.int .i64 0) (.int .i64 0) (.int .i64 0) (.slice none 0 0)
      have q0 : _ = some (Value.bool false) := hq.cell 0 rfl
      have q1 : _ = some (Value.int .i64 0) := hq.cell 1 rfl
      have q2 : _ = some (Value.int .i64 0) := hq.cell 2 rfl
      have q3 : _ = some (Value.int .i64 0) := hq.cell 3 rfl
      have q4 : _ = some (Value.slice none 0 0) := hq.cell 4 rfl
      refine bodyPost_ret (v := .tuple #[.agg #[.bool false, .int .i64 0, .int .i64 0, .int .i64 0, .slice none 0 0], .int .i64 1]) (by simp [results, Try.results12, go_sem, q0, q1, q2, q3, q4]) rfl ⟨none, 0, ?_, bel_set5 HL1.out (by have := HB.out; omega) _ _ _ _ _, ?_⟩
      · simp [runV, runE, HNo.out, resV, noS]
      · simp [runV, HNo.out, noS, flatT]; exact World.ownsRow_nil _ _ _ _

end Go.Proofs.Ytignlfcjlbijaaa
