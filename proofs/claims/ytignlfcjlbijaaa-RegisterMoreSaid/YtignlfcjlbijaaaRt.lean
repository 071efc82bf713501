/- RegisterMore returns true: the walk. -/
import Derived.Test.YtignlfcjlbijaaaRs
namespace Go.Proofs.Ytignlfcjlbijaaa
open Go.RowKit

set_option maxHeartbeats 8000000 in
set_option maxRecDepth 100000 in
theorem more_any (W : World) (lo : Option Addr) (lc : Nat) (ho : Option Addr) (hc : Nat) (c : Cd) (hcd : CdAt W lo lc ho hc c) (ao : Option Addr) (acap : Nat) (zs : List Int) (hz : Sl .i64 W ao zs) (hzn : ao = none → acap = 0) (steps more : Int) :
    Calls Try.prog 4 #[.agg #[.slice lo c.l.length lc, .slice ho c.h.length hc], .slice ao zs.length acap, .int .i64 steps, .int .i64 more] W fun e w' => e = .returned (.bool true) ∧ Below W.heap.size W w' := by
  obtain ⟨B, hB⟩ : ∃ B, B = W.heap.size := ⟨_, rfl⟩
  have HC := Lib.hid hcd
  have HZ := Lib.hid (SlA.of_ints hz hzn)
  have HN := Lib.hid hzn
  clear hcd hz hzn
  go_enter Try.func4, Try.ntmps4
  go_wp2_with fail
  have hb0 : Below W.heap.size W (W.alloc (.cells #[.slice lo c.l.length lc, .slice ho c.h.length hc] 25)) := (Below.refl _ _).alloc (Nat.le_refl _) _
  have hA0 : Blk (W.alloc (.cells #[.slice lo c.l.length lc, .slice ho c.h.length hc] 25)) B #[.slice lo c.l.length lc, .slice ho c.h.length hc] 25 := Blk.new' _ _ hB
  refine (long_any _ lo lc ho hc c.l.length c.h.length).mono ?_
  rintro e w1 ⟨rfl, hb1⟩
  have HA1 := Lib.hid (hA0.old hb1)
  have HL1 := Lib.hid (bthen hb0 hb1)
  clear hA0 hb1 hb0
  rw [← hB]
  have HB := Lib.hid hB
  clear hB
  have a0 : w1.cell? ⟨B, 0, none⟩ = some (.slice lo c.l.length lc) := HA1.out.cell 0 rfl
  have a1 : w1.cell? ⟨B, 1, none⟩ = some (.slice ho c.h.length hc) := HA1.out.cell 1 rfl
  rcases hlong : (decide ((c.l.length : Int) > 2000) || decide ((c.h.length : Int) > 2000)) with _ | _
  · have hll : c.l.length ≤ 2000 ∧ c.h.length ≤ 2000 := by
      simp only [Bool.or_eq_false_iff, decide_eq_false_iff_not] at hlong; omega
    have HLen := Lib.hid hll
    clear hlong hll
    by_cases hg : (zs.length : Int) ≤ 100 ∧ 0 ≤ steps ∧ steps ≤ 3000 ∧ 0 ≤ more ∧ more ≤ 3000
    · obtain ⟨g1, g2, g3, g4, g5⟩ := hg
      have hzl2 : zs.length ≤ 100 := by omega
      have hsm : IntKind.i64.wrap (steps + more) = steps + more := IntWalk.i64_in _ (by omega)
      go_wp2_with fail
      refine (to_any _ lo lc ho hc c (HC.out.old HL1.out) HLen.out.1 HLen.out.2).mono ?_
      rintro e w2 ⟨lo2, lc2, ho2, hc2, rfl, hb2, o2, p2⟩
      have HA2 := Lib.hid (HA1.out.old hb2)
      have HL2 := Lib.hid (bthen HL1.out hb2)
      have HD2 := Lib.hid (show CdAt w2 lo2 lc2 ho2 hc2 c from ⟨(ownsRow_slA o2).2, (ownsRow_slA p2).2⟩)
      clear hb2 o2 p2 a0 a1 HA1 HL1
      obtain ⟨D, hD⟩ : ∃ D, D = w2.heap.size := ⟨_, rfl⟩
      go_wp2_with fail
      have hb3 := (Below.refl w2.heap.size w2).alloc (Nat.le_refl _) (.cells #[.slice lo2 c.l.length lc2, .slice ho2 c.h.length hc2] 30)
      have hX3 := Blk.new' (w := w2) #[.slice lo2 c.l.length lc2, .slice ho2 c.h.length hc2] 30 hD
      refine (Run_any _ lo2 lc2 ho2 hc2 c (HD2.out.old hb3) ao acap zs (HZ.out.old (bthen HL2.out hb3)).ints.2 HN.out (by omega) steps).mono ?_
      rintro e w4 ⟨to4, tc4, rfl, hb4, o4⟩
      have hb34 := bthen hb3 hb4
      have HA4 := Lib.hid (HA2.out.old hb34)
      have HX4 := Lib.hid (hX3.old hb4)
      have HL4 := Lib.hid (bthen HL2.out hb34)
      have HD4 := Lib.hid (HD2.out.old hb34)
      have HT4 := Lib.hid (show TAt w4 to4 tc4 (runV c zs steps).told from (ownsRow_slA o4).2)
      rw [← hD]
      clear hb3 hb4 hb34 o4 hX3 HA2 HL2 HD2 hD
      have HTl := Lib.hid (runV_told c zs steps)
      obtain ⟨⟨t, m1⟩, m2, m3, m4⟩ := runV_more c zs steps more g2 g3 g4 g5
      have M4 := Lib.hid m4
      have hok : okRun c zs steps = (codeV c && (zs.all vB && decide (zs.length ≤ 4))) := by
        unfold okRun
        rw [show decide (0 ≤ steps) = true by simp [g2], show decide (steps ≤ 100000) = true by simp; omega]
        cases codeV c <;> cases zs.all vB <;> simp
      have hre : runE c zs steps = if (codeV c && (zs.all vB && decide (zs.length ≤ 4))) then 0 else 1 := by unfold runE; rw [hok]
      generalize hRA : runV c zs steps = sa at HT4 HTl m1 m2 m3
      generalize hRB : runV c zs (steps + more) = sb at m1 m2 m3
      have HRB := Lib.hid hRB
      have HRE := Lib.hid hre
      have M1 := Lib.hid m1
      have M2 := Lib.hid m2
      have M3 := Lib.hid m3
      clear m1 m2 m3 m4 hok hre hRA hRB
      generalize runE c zs steps = er at M4 HRE
      unfold resV
      have d0 : w4.cell? ⟨D, 0, none⟩ = some (.slice lo2 c.l.length lc2) := HX4.out.cell 0 rfl
      have d1 : w4.cell? ⟨D, 1, none⟩ = some (.slice ho2 c.h.length hc2) := HX4.out.cell 1 rfl
      have lD := HX4.out.lt
      obtain ⟨E, hE⟩ : ∃ E, E = w4.heap.size := ⟨_, rfl⟩
      go_wp2_with fail
      have hb5 := (Below.refl w4.heap.size w4).alloc (Nat.le_refl _) (.cells #[.bool sa.ov, .int .i64 sa.res, .int .i64 sa.trap, .int .i64 sa.cost, .slice to4 sa.told.length tc4] 34)
      have hE5 := Blk.new' (w := w4) #[.bool sa.ov, .int .i64 sa.res, .int .i64 sa.trap, .int .i64 sa.cost, .slice to4 sa.told.length tc4] 34 hE
      refine (Run_any _ lo2 lc2 ho2 hc2 c (HD4.out.old hb5) ao acap zs (HZ.out.old (bthen HL4.out hb5)).ints.2 HN.out (by omega) (steps + more)).mono ?_
      rw [HRB.out, M4.out]
      rintro e w6 ⟨to6, tc6, rfl, hb6, o6⟩
      have hb7 := bthen hb5 hb6
      have HA6 := Lib.hid (HA4.out.old hb7)
      have HL6 := Lib.hid (bthen HL4.out hb7)
      have HE6 := Lib.hid (hE5.old hb6)
      have HT6 := Lib.hid (HT4.out.old hb7)
      have HU6 := Lib.hid (show TAt w6 to6 tc6 sb.told from (ownsRow_slA o6).2)
      rw [← hE]
      clear hb5 hE5 hb6 hb7 o6 HA4 HX4 HL4 HD4 HT4 d0 d1 lD hE HRB M4
      unfold resV
      obtain ⟨F, hF⟩ : ∃ F, F = w6.heap.size := ⟨_, rfl⟩
      have lE := HE6.out.lt
      have e0 : w6.cell? ⟨E, 0, none⟩ = some (.bool sa.ov) := HE6.out.cell 0 rfl
      have e3 : w6.cell? ⟨E, 3, none⟩ = some (.int .i64 sa.cost) := HE6.out.cell 3 rfl
      have e4 : w6.cell? ⟨E, 4, none⟩ = some (.slice to4 sa.told.length tc4) := HE6.out.cell 4 rfl
      have n1 : ¬ ((sb.told.length : Int) < sa.told.length) := by rw [M1.out, List.length_append]; omega
      have n2 : ¬ (sb.cost < sa.cost) := by have := M2.out; omega
      go_wp2_with fail
      have hb7 := (Below.refl w6.heap.size w6).alloc (Nat.le_refl _) (.cells #[.bool sb.ov, .int .i64 sb.res, .int .i64 sb.trap, .int .i64 sb.cost, .slice to6 sb.told.length tc6] 34)
      have hF7 := Blk.new' (w := w6) #[.bool sb.ov, .int .i64 sb.res, .int .i64 sb.trap, .int .i64 sb.cost, .slice to6 sb.told.length tc6] 34 hF
      have HA7 := Lib.hid (HA6.out.old hb7)
      have HL7 := Lib.hid (bthen HL6.out hb7)
      have HE7 := Lib.hid (HE6.out.old hb7)
      have HT7 := Lib.hid (HT6.out.old hb7)
      have HU7 := Lib.hid (HU6.out.old hb7)
      have HF7 := Lib.hid hF7
      rw [← hF]
      clear hb7 hF7 HA6 HL6 HE6 HT6 HU6 hF lE e0 e3 e4 n1 n2
      generalize (w6.alloc (.cells #[.bool sb.ov, .int .i64 sb.res, .int .i64 sb.trap, .int .i64 sb.cost, .slice to6 sb.told.length tc6] 34)) = w7 at HA7 HL7 HE7 HT7 HU7 HF7 ⊢
      generalize decide (sb.told.length < sa.told.length) = q1
      generalize decide (sb.cost < sa.cost) = q2
      go_loopw [14] (fun i wr => ∃ (k : Nat), k ≤ sa.told.length ∧ i = .int .i64 k ∧ Below w7.heap.size w7 wr) (fun i _ => sa.told.length - (intOf i).toNat)
      case atStart => exact ⟨0, by omega, rfl, Below.refl _ _⟩
      case round =>
        obtain ⟨k, hk, rfl, hbel⟩ := hrel
        have HL := Lib.hid hbel
        clear hbel
        have e4 : wr.cell? ⟨E, 4, none⟩ = some (.slice to4 sa.told.length tc4) := (HE7.out.old HL.out).cell 4 rfl
        have f4 : wr.cell? ⟨F, 4, none⟩ = some (.slice to6 sb.told.length tc6) := (HF7.out.old HL.out).cell 4 rfl
        by_cases hkl : k < sa.told.length
        · obtain ⟨ad, ha, e0, e1⟩ := (HT7.out.old HL.out).cell hkl
          have hkb : k < sb.told.length := by rw [M1.out, List.length_append]; omega
          obtain ⟨ad2, ha2, d0, d1⟩ := (HU7.out.old HL.out).cell hkb
          have hsame : sb.told.getD k default = sa.told.getD k default := by
            rw [M1.out]; simp only [List.getD_eq_getElem?_getD]; rw [List.getElem?_append_left hkl]
          rw [hsame] at d0 d1
          generalize sa.told.getD k default = x at e0 e1 d0 d1
          have HAd := Lib.hid ha
          have HAd2 := Lib.hid ha2
          subst ha ha2
          clear hsame
          have hkl2 : (k : Int) < sa.told.length := by omega
          have hkb2 : (k : Int) < sb.told.length := by omega
          have hTl := HTl.out
          have heq := eqPair
          go_wp2_with fail
          refine wp_still_all (by kernel_rfl) (by kernel_rfl) ?_
          repeat still_step
          refine wpStill_nil ?_
          clear e0 e1 d0 d1 heq e4 f4
          go_wp2_with fail
          exact ⟨⟨k + 1, by omega, by go_num, HL.out.drew⟩, by show sa.told.length - ((k : Int) + 1).toNat < sa.told.length - (k : Int).toNat; omega⟩
        · have HLL := Lib.hid (bthen HL7.out HL.out)
          have HA8 := Lib.hid (HA7.out.old HL.out)
          have HE8 := Lib.hid (HE7.out.old HL.out)
          have HF8 := Lib.hid (HF7.out.old HL.out)
          have HT8 := Lib.hid (HT7.out.old HL.out)
          have HU8 := Lib.hid (HU7.out.old HL.out)
          clear HL HA7 HL7 HE7 HT7 HU7 HF7
          have e0 : wr.cell? ⟨E, 0, none⟩ = some (.bool sa.ov) := HE8.out.cell 0 rfl
          have e1 : wr.cell? ⟨E, 1, none⟩ = some (.int .i64 sa.res) := HE8.out.cell 1 rfl
          have e2 : wr.cell? ⟨E, 2, none⟩ = some (.int .i64 sa.trap) := HE8.out.cell 2 rfl
          have e3 : wr.cell? ⟨E, 3, none⟩ = some (.int .i64 sa.cost) := HE8.out.cell 3 rfl
          have f0 : wr.cell? ⟨F, 0, none⟩ = some (.bool sb.ov) := HF8.out.cell 0 rfl
          have f1 : wr.cell? ⟨F, 1, none⟩ = some (.int .i64 sb.res) := HF8.out.cell 1 rfl
          have f2 : wr.cell? ⟨F, 2, none⟩ = some (.int .i64 sb.trap) := HF8.out.cell 2 rfl
          have f3 : wr.cell? ⟨F, 3, none⟩ = some (.int .i64 sb.cost) := HF8.out.cell 3 rfl
          have b0 : wr.cell? ⟨B, 0, none⟩ = some (.slice lo c.l.length lc) := HA8.out.cell 0 rfl
          have b1 : wr.cell? ⟨B, 1, none⟩ = some (.slice ho c.h.length hc) := HA8.out.cell 1 rfl
          rcases hov : sa.ov with _ | _
          · rw [hov] at e0
            clear hov
            go_wp2_with fail
            refine (rValid_any wr lo lc ho hc c (HC.out.old HLL.out)).mono ?_
            rintro e w8 ⟨rfl, hb8⟩
            have HM8 := Lib.hid (bthen HLL.out hb8)
            rcases hcv : codeV c with _ | _
            · have hre := HRE.out
              rw [hcv] at hre
              simp only [Bool.false_and, Bool.false_eq_true, if_false] at hre
              subst hre
              clear HRE
              go_wp2_with (first | (go_at_call 9; refine (sane_any _).mono ?_; rintro e w9 ⟨rfl, hb9⟩))
              go_ret
              exact ⟨rfl, bthen HM8.out hb9⟩
            · rcases hgd : (zs.all vB && decide (zs.length ≤ 4)) with _ | _
              · have hre := HRE.out
                rw [hcv, hgd] at hre
                simp only [Bool.true_and, Bool.false_eq_true, if_false] at hre
                subst hre
                clear HRE
                go_wp2_with fail
                refine (good_any _ ao acap zs (HZ.out.old HM8.out).ints.2 (by omega)).mono ?_
                rw [hgd]
                rintro e w9 ⟨rfl, hb9⟩
                go_wp2_with (first | (go_at_call 9; refine (sane_any _).mono ?_; rintro e w10 ⟨rfl, hb10⟩))
                go_ret
                exact ⟨rfl, bthen (bthen HM8.out hb9) hb10⟩
              · have hre := HRE.out
                rw [hcv, hgd] at hre
                simp only [Bool.true_and, if_true] at hre
                subst hre
                clear HRE
                go_wp2_with fail
                refine (good_any _ ao acap zs (HZ.out.old HM8.out).ints.2 (by omega)).mono ?_
                rw [hgd]
                rintro e w9 ⟨rfl, hb9⟩
                go_wp2_with (first | (go_at_call 9; refine (sane_any _).mono ?_; rintro e w10 ⟨rfl, hb10⟩))
                go_ret
                exact ⟨rfl, bthen (bthen HM8.out hb9) hb10⟩
          · have hs := M3.out hov
            subst hs
            rw [hov] at e0 f0
            have hal := alike_ok wr sb sb to4 tc4 to6 tc6 ⟨rfl, rfl, rfl, rfl⟩ HT8.out HU8.out HTl.out
            unfold resV at hal
            rw [hov] at hal
            have HAl := Lib.hid hal
            clear hov hal
            go_wp2_with fail
            refine HAl.out.mono ?_
            rintro e w7a ⟨rfl, hba⟩
            have HLA := Lib.hid (bthen HLL.out hba)
            have HAA := Lib.hid (HA8.out.old hba)
            have e3 : w7a.cell? ⟨E, 3, none⟩ = some (.int .i64 sb.cost) := (HE8.out.old hba).cell 3 rfl
            have f3 : w7a.cell? ⟨F, 3, none⟩ = some (.int .i64 sb.cost) := (HF8.out.old hba).cell 3 rfl
            have b0 : w7a.cell? ⟨B, 0, none⟩ = some (.slice lo c.l.length lc) := HAA.out.cell 0 rfl
            have b1 : w7a.cell? ⟨B, 1, none⟩ = some (.slice ho c.h.length hc) := HAA.out.cell 1 rfl
            clear hba HAl
            go_wp2_with fail
            refine (rValid_any w7a lo lc ho hc c (HC.out.old HLA.out)).mono ?_
            rintro e w8 ⟨rfl, hb8⟩
            have HM8 := Lib.hid (bthen HLA.out hb8)
            rcases hcv : codeV c with _ | _
            · have hre := HRE.out
              rw [hcv] at hre
              simp only [Bool.false_and, Bool.false_eq_true, if_false] at hre
              subst hre
              clear HRE
              go_wp2_with (first | (go_at_call 9; refine (sane_any _).mono ?_; rintro e w9 ⟨rfl, hb9⟩))
              go_ret
              exact ⟨rfl, bthen HM8.out hb9⟩
            · rcases hgd : (zs.all vB && decide (zs.length ≤ 4)) with _ | _
              · have hre := HRE.out
                rw [hcv, hgd] at hre
                simp only [Bool.true_and, Bool.false_eq_true, if_false] at hre
                subst hre
                clear HRE
                go_wp2_with fail
                refine (good_any _ ao acap zs (HZ.out.old HM8.out).ints.2 (by omega)).mono ?_
                rw [hgd]
                rintro e w9 ⟨rfl, hb9⟩
                go_wp2_with (first | (go_at_call 9; refine (sane_any _).mono ?_; rintro e w10 ⟨rfl, hb10⟩))
                go_ret
                exact ⟨rfl, bthen (bthen HM8.out hb9) hb10⟩
              · have hre := HRE.out
                rw [hcv, hgd] at hre
                simp only [Bool.true_and, if_true] at hre
                subst hre
                clear HRE
                go_wp2_with fail
                refine (good_any _ ao acap zs (HZ.out.old HM8.out).ints.2 (by omega)).mono ?_
                rw [hgd]
                rintro e w9 ⟨rfl, hb9⟩
                go_wp2_with (first | (go_at_call 9; refine (sane_any _).mono ?_; rintro e w10 ⟨rfl, hb10⟩))
                go_ret
                exact ⟨rfl, bthen (bthen HM8.out hb9) hb10⟩
    · have HG := Lib.hid hg
      clear hg
      go_wp2_with (first | (go_at_call 9; refine (sane_any _).mono ?_; rintro e w2 ⟨rfl, hb2⟩))
      all_goals first
        | (go_ret; exact ⟨rfl, bthen HL1.out hb2⟩)
        | (exfalso; have := HG.out; omega)
  · go_wp2_with (first | (go_at_call 9; refine (sane_any _).mono ?_; rintro e w2 ⟨rfl, hb2⟩))
    go_ret
    exact ⟨rfl, bthen HL1.out hb2⟩

end Go.Proofs.Ytignlfcjlbijaaa
