/- RegisterImproves returns true: the walk. -/
import Derived.Test.YtignlfcjlbijaaaIe
import Derived.Test.YtignlfcjlbijaaaRb
namespace Go.Proofs.Ytignlfcjlbijaaa
open Go.RowKit

set_option maxHeartbeats 4000000 in
set_option maxRecDepth 100000 in
theorem Improve_no (W : World) (lo : Option Addr) (lc : Nat) (ho : Option Addr) (hc : Nat) (c : Cd) (hcd : CdAt W lo lc ho hc c) (hv : codeV c = false) :
    Calls Try.prog 25 #[.agg #[.slice lo c.l.length lc, .slice ho c.h.length hc]] W fun e w' => e = .returned (.tuple #[.agg #[.slice none 0 0, .slice none 0 0], .int .i64 1]) ∧ Below W.heap.size W w' := by
  obtain ⟨B, hB⟩ : ∃ B, B = W.heap.size := ⟨_, rfl⟩
  have HC := Lib.hid hcd
  have HV := Lib.hid hv
  clear hcd hv
  go_enter Try.func25, Try.ntmps25
  go_wp2_with fail
  have hb0 := ((Below.refl W.heap.size W).alloc (Nat.le_refl _) (.cells #[.slice lo c.l.length lc, .slice ho c.h.length hc] 30)).alloc (by simp) (.cells #[.slice none 0 0, .slice none 0 0] 30)
  have hR0 : Blk ((W.alloc (.cells #[.slice lo c.l.length lc, .slice ho c.h.length hc] 30)).alloc (.cells #[.slice none 0 0, .slice none 0 0] 30)) (B+1) #[.slice none 0 0, .slice none 0 0] 30 := Blk.new' _ _ (by simp [hB])
  refine (Valid_any _ lo lc ho hc c (HC.out.old hb0)).mono ?_
  rw [HV.out]
  rintro e w1 ⟨rfl, hb1⟩
  have HR1 := Lib.hid (hR0.old hb1)
  have HL1 := Lib.hid (bthen hb0 hb1)
  have hBW := hB
  rw [← hB]
  have HB := Lib.hid hB
  clear hb0 hb1 hR0 hB hBW
  have l1 := HR1.out.lt
  have f0 := HR1.out.frozen 0
  have f1 := HR1.out.frozen 1
  have r0 := HR1.out.cell 0 rfl
  have r1 := HR1.out.cell 1 rfl
  go_wp2_with fail
  have hR2 := (HR1.out.set 0 (.slice none 0 0)).set 1 (.slice none 0 0)
  have q0 := hR2.cell 0 rfl
  have q1 := hR2.cell 1 rfl
  refine bodyPost_ret (v := .tuple #[.agg #[.slice none 0 0, .slice none 0 0], .int .i64 1]) (by simp [results, Try.results25, go_sem, q0, q1]) rfl ⟨rfl, ?_⟩
  have := HB.out
  exact (HL1.out.setCell (p := ⟨B+1, 0, none⟩) (by show _ ≤ B + 1; omega) _).setCell (p := ⟨B+1, 1, none⟩) (by show _ ≤ B + 1; omega) _

theorem okRun_eq {c : Cd} {zs : List Int} {steps : Int} (hv : codeV c = true) (hg : (zs.all vB && decide (zs.length ≤ 4)) = true) (h0 : 0 ≤ steps) (h1 : steps ≤ 3000) : okRun c zs steps = true := by
  simp only [Bool.and_eq_true, decide_eq_true_eq] at hg
  unfold okRun
  rw [hv, hg.1, decide_eq_true hg.2, decide_eq_true h0, decide_eq_true (show steps ≤ 100000 by omega)]; rfl

set_option maxHeartbeats 8000000 in
set_option maxRecDepth 100000 in
theorem improves_any (W : World) (lo : Option Addr) (lc : Nat) (ho : Option Addr) (hc : Nat) (c : Cd) (hcd : CdAt W lo lc ho hc c) (ao : Option Addr) (acap : Nat) (zs : List Int) (hz : Sl .i64 W ao zs) (hzn : ao = none → acap = 0) (steps : Int) :
    Calls Try.prog 7 #[.agg #[.slice lo c.l.length lc, .slice ho c.h.length hc], .slice ao zs.length acap, .int .i64 steps] W fun e w' => e = .returned (.bool true) ∧ Below W.heap.size W w' := by
  obtain ⟨B, hB⟩ : ∃ B, B = W.heap.size := ⟨_, rfl⟩
  have HC := Lib.hid hcd
  have HZ := Lib.hid (SlA.of_ints hz hzn)
  have HN := Lib.hid hzn
  clear hcd hz hzn
  go_enter Try.func7, Try.ntmps7
  go_wp2_with fail
  have hb0 : Below W.heap.size W (W.alloc (.cells #[.slice lo c.l.length lc, .slice ho c.h.length hc] 25)) := (Below.refl _ _).alloc (Nat.le_refl _) _
  have hA0 : Blk (W.alloc (.cells #[.slice lo c.l.length lc, .slice ho c.h.length hc] 25)) B #[.slice lo c.l.length lc, .slice ho c.h.length hc] 25 := Blk.new' _ _ hB
  refine (long_any _ lo lc ho hc c.l.length c.h.length).mono ?_
  rintro e w1 ⟨rfl, hb1⟩
  have HA1 := Lib.hid (hA0.old hb1)
  have HL1 := Lib.hid (bthen hb0 hb1)
  clear hA0 hb1 hb0
  rw [← hB]
  have HB := Lib.hid hB
  clear hB
  have a0 : w1.cell? ⟨B, 0, none⟩ = some (.slice lo c.l.length lc) := HA1.out.cell 0 rfl
  have a1 : w1.cell? ⟨B, 1, none⟩ = some (.slice ho c.h.length hc) := HA1.out.cell 1 rfl
  rcases hlong : (decide ((c.l.length : Int) > 2000) || decide ((c.h.length : Int) > 2000)) with _ | _
  · have hll : c.l.length ≤ 2000 ∧ c.h.length ≤ 2000 := by
      simp only [Bool.or_eq_false_iff, decide_eq_false_iff_not] at hlong; omega
    have HLen := Lib.hid hll
    clear hlong hll
    by_cases hzl : (zs.length : Int) > 100
    · go_wp2_with (first | (go_at_call 9; refine (sane_any _).mono ?_; rintro e w2 ⟨rfl, hb2⟩))
      go_ret
      exact ⟨rfl, bthen HL1.out hb2⟩
    · have hzl2 : zs.length ≤ 100 := by omega
      go_wp2_with fail
      refine (to_any _ lo lc ho hc c (HC.out.old HL1.out) HLen.out.1 HLen.out.2).mono ?_
      rintro e w3 ⟨lo2, lc2, ho2, hc2, rfl, hb3, o3, p3⟩
      have HA3 := Lib.hid (HA1.out.old hb3)
      have HL3 := Lib.hid (bthen HL1.out hb3)
      have HD3 := Lib.hid (show CdAt w3 lo2 lc2 ho2 hc2 c from ⟨(ownsRow_slA o3).2, (ownsRow_slA p3).2⟩)
      clear hb3 o3 p3 a0 a1 HA1 HL1
      rcases hcv : codeV c with _ | _
      · have HV := Lib.hid hcv
        clear hcv
        go_wp2_with fail
        refine (Improve_no _ lo2 lc2 ho2 hc2 c HD3.out HV.out).mono ?_
        rintro e w4 ⟨rfl, hb4⟩
        have HA4 := Lib.hid (HA3.out.old hb4)
        have HL4 := Lib.hid (bthen HL3.out hb4)
        obtain ⟨X, hX⟩ : ∃ X, X = w4.heap.size := ⟨_, rfl⟩
        have a0 : w4.cell? ⟨B, 0, none⟩ = some (.slice lo c.l.length lc) := HA4.out.cell 0 rfl
        have a1 : w4.cell? ⟨B, 1, none⟩ = some (.slice ho c.h.length hc) := HA4.out.cell 1 rfl
        have lB := HA4.out.lt
        clear hb4 HA3 HL3 HD3
        go_wp2_with fail
        have hb5 := (Below.refl w4.heap.size w4).alloc (Nat.le_refl _) (.cells #[.slice none 0 0, .slice none 0 0] 30)
        have hX5 := Blk.new' (w := w4) #[.slice none 0 0, .slice none 0 0] 30 hX
        refine (rValid_any _ lo lc ho hc c (HC.out.old (bthen HL4.out hb5))).mono ?_
        rw [HV.out]
        rintro e w6 ⟨rfl, hb6⟩
        have HL6 := Lib.hid (bthen (bthen HL4.out hb5) hb6)
        have HX6 := Lib.hid (hX5.old hb6)
        rw [← hX]
        clear hb5 hX5 hb6 hX HA4 HL4 a0 a1
        have x0 := HX6.out.cell 0 rfl
        go_wp2_with (first | (go_at_call 9; refine (sane_any _).mono ?_; rintro e w7 ⟨rfl, hb7⟩))
        go_ret
        exact ⟨rfl, bthen HL6.out hb7⟩
      · have HV := Lib.hid hcv
        clear hcv
        go_wp2_with fail
        refine (Improve_any _ lo2 lc2 ho2 hc2 c HD3.out HV.out).mono ?_
        rintro e w4 ⟨lo4, lc4, ho4, hc4, e2, rfl, hb4, hcd4, hv2, hle, hsim⟩
        have HA4 := Lib.hid (HA3.out.old hb4)
        have HL4 := Lib.hid (bthen HL3.out hb4)
        have HE4 := Lib.hid hcd4
        have HV2 := Lib.hid hv2
        have HLe := Lib.hid hle
        have HSim := Lib.hid hsim
        obtain ⟨X, hX⟩ : ∃ X, X = w4.heap.size := ⟨_, rfl⟩
        have a0 : w4.cell? ⟨B, 0, none⟩ = some (.slice lo c.l.length lc) := HA4.out.cell 0 rfl
        have a1 : w4.cell? ⟨B, 1, none⟩ = some (.slice ho c.h.length hc) := HA4.out.cell 1 rfl
        have lB := HA4.out.lt
        clear hb4 hcd4 hv2 hle hsim HA3 HL3 HD3
        go_wp2_with fail
        have hb5 := (Below.refl w4.heap.size w4).alloc (Nat.le_refl _) (.cells #[.slice lo4 e2.l.length lc4, .slice ho4 e2.h.length hc4] 30)
        have hX5 := Blk.new' (w := w4) #[.slice lo4 e2.l.length lc4, .slice ho4 e2.h.length hc4] 30 hX
        refine (rValid_any _ lo lc ho hc c (HC.out.old (bthen HL4.out hb5))).mono ?_
        rw [HV.out]
        rintro e w6 ⟨rfl, hb6⟩
        have HL6 := Lib.hid (bthen (bthen HL4.out hb5) hb6)
        have HX6 := Lib.hid (hX5.old hb6)
        have HA6 := Lib.hid (HA4.out.old (bthen hb5 hb6))
        have HE6 := Lib.hid (HE4.out.old (bthen hb5 hb6))
        rw [← hX]
        clear hb5 hX5 hb6 hX HA4 HL4 HE4 a0 a1
        have x0 := HX6.out.cell 0 rfl
        have x1 := HX6.out.cell 1 rfl
        have a0 : w6.cell? ⟨B, 0, none⟩ = some (.slice lo c.l.length lc) := HA6.out.cell 0 rfl
        have a1 : w6.cell? ⟨B, 1, none⟩ = some (.slice ho c.h.length hc) := HA6.out.cell 1 rfl
        have he2 : e2.l.length ≤ 2000 ∧ e2.h.length ≤ 2000 := by
          obtain ⟨_, q2, q3, _⟩ := codeV_ins HV2.out; omega
        have HE2 := Lib.hid he2
        clear he2
        go_wp2_with fail
        refine (from_any _ lo4 lc4 ho4 hc4 e2 HE6.out HE2.out.1 HE2.out.2).mono ?_
        rintro e w7 ⟨lo7, lc7, ho7, hc7, rfl, hb7, o7, p7⟩
        have hcd7 : CdAt w7 lo7 lc7 ho7 hc7 e2 := ⟨(ownsRow_slA o7).2, (ownsRow_slA p7).2⟩
        have HC7 := Lib.hid hcd7
        have HL7 := Lib.hid (bthen HL6.out hb7)
        have HX7 := Lib.hid (HX6.out.old hb7)
        have HA7 := Lib.hid (HA6.out.old hb7)
        have HE7 := Lib.hid (HE6.out.old hb7)
        clear hb7 o7 p7 hcd7 HL6 HX6 HA6 HE6 x0 x1 a0 a1
        have x0 := HX7.out.cell 0 rfl
        have a0 : w7.cell? ⟨B, 0, none⟩ = some (.slice lo c.l.length lc) := HA7.out.cell 0 rfl
        go_wp2_with fail
        refine (rValid_any _ lo7 lc7 ho7 hc7 e2 HC7.out).mono ?_
        rw [HV2.out]
        rintro e w8 ⟨rfl, hb8⟩
        have HL8 := Lib.hid (bthen HL7.out hb8)
        have HX8 := Lib.hid (HX7.out.old hb8)
        have HA8 := Lib.hid (HA7.out.old hb8)
        have HE8 := Lib.hid (HE7.out.old hb8)
        clear hb8 HL7 HX7 HA7 HE7 x0 a0 HC7
        have x0 := HX8.out.cell 0 rfl
        have x1 := HX8.out.cell 1 rfl
        have a0 : w8.cell? ⟨B, 0, none⟩ = some (.slice lo c.l.length lc) := HA8.out.cell 0 rfl
        have a1 : w8.cell? ⟨B, 1, none⟩ = some (.slice ho c.h.length hc) := HA8.out.cell 1 rfl
        have hgt : ¬ ((e2.l.length : Int) > c.l.length) := by have := HLe.out; omega
        have hgt2 : ¬ (c.l.length < e2.l.length) := by have := HLe.out; omega
        by_cases hst : 0 ≤ steps ∧ steps ≤ 3000
        · obtain ⟨hs1, hs2⟩ := hst
          rcases hgd : (zs.all vB && decide (zs.length ≤ 4)) with _ | _
          · have HG := Lib.hid hgd
            clear hgd
            go_wp2_with fail
            refine (good_any _ ao acap zs (HZ.out.old HL8.out).ints.2 (by omega)).mono ?_
            rw [HG.out]
            rintro e w9 ⟨rfl, hb9⟩
            have HL9 := Lib.hid (bthen HL8.out hb9)
            clear hb9 x0 x1 a0 a1
            go_wp2_with (first | (go_at_call 9; refine (sane_any _).mono ?_; rintro e w10 ⟨rfl, hb10⟩))
            go_ret
            exact ⟨rfl, bthen HL9.out hb10⟩
          · have HG := Lib.hid hgd
            clear hgd
            go_wp2_with fail
            refine (good_any _ ao acap zs (HZ.out.old HL8.out).ints.2 (by omega)).mono ?_
            rw [HG.out]
            rintro e w9 ⟨rfl, hb9⟩
            have HL9 := Lib.hid (bthen HL8.out hb9)
            have HX9 := Lib.hid (HX8.out.old hb9)
            have HA9 := Lib.hid (HA8.out.old hb9)
            have HE9 := Lib.hid (HE8.out.old hb9)
            clear hb9 x0 x1 a0 a1 HL8 HX8 HA8 HE8 hgt hgt2
            have a0 : w9.cell? ⟨B, 0, none⟩ = some (.slice lo c.l.length lc) := HA9.out.cell 0 rfl
            have a1 : w9.cell? ⟨B, 1, none⟩ = some (.slice ho c.h.length hc) := HA9.out.cell 1 rfl
            go_wp2_with fail
            refine (to_any _ lo lc ho hc c (HC.out.old HL9.out) HLen.out.1 HLen.out.2).mono ?_
            rintro e w10 ⟨lo3, lc3, ho3, hc3, rfl, hb10, o10, p10⟩
            have HL10 := Lib.hid (bthen HL9.out hb10)
            have HX10 := Lib.hid (HX9.out.old hb10)
            have HE10 := Lib.hid (HE9.out.old hb10)
            have HD10 := Lib.hid (show CdAt w10 lo3 lc3 ho3 hc3 c from ⟨(ownsRow_slA o10).2, (ownsRow_slA p10).2⟩)
            clear hb10 o10 p10 a0 a1 HA9 HL9 HX9 HE9
            go_wp2_with fail
            have ok1 := okRun_eq HV.out HG.out hs1 hs2
            have ok2 := okRun_eq HV2.out HG.out hs1 hs2
            have hr1 : runV c zs steps = itS c (begS zs) steps.toNat := by unfold runV; rw [if_pos ok1]
            have hr2 : runV e2 zs steps = itS e2 (begS zs) steps.toNat := by unfold runV; rw [if_pos ok2]
            have he1 : runE c zs steps = 0 := by unfold runE; rw [if_pos ok1]
            have he2 : runE e2 zs steps = 0 := by unfold runE; rw [if_pos ok2]
            have hsim : (runV c zs steps).ov = true → Sim (runV c zs steps) (runV e2 zs steps) := by rw [hr1, hr2]; exact HSim.out zs steps.toNat
            have HS := Lib.hid hsim
            have HE1 := Lib.hid he1
            have HE2' := Lib.hid he2
            clear ok1 ok2 hr1 hr2 he1 he2 hsim
            refine (Run_any _ lo3 lc3 ho3 hc3 c HD10.out ao acap zs (HZ.out.old HL10.out).ints.2 HN.out (by omega) steps).mono ?_
            rw [HE1.out]
            rintro e w11 ⟨to4, tc4, rfl, hb11, o11⟩
            have HL11 := Lib.hid (bthen HL10.out hb11)
            have HX11 := Lib.hid (HX10.out.old hb11)
            have HE11 := Lib.hid (HE10.out.old hb11)
            have HT11 := Lib.hid (show TAt w11 to4 tc4 (runV c zs steps).told from (ownsRow_slA o11).2)
            have HTl := Lib.hid (runV_told c zs steps)
            clear hb11 o11 HL10 HX10 HE10 HD10 HE1
            generalize runV c zs steps = sa at HS HT11 HTl
            unfold resV
            obtain ⟨E, hE⟩ : ∃ E, E = w11.heap.size := ⟨_, rfl⟩
            have x0 := HX11.out.cell 0 rfl
            have x1 := HX11.out.cell 1 rfl
            have lX := HX11.out.lt
            go_wp2_with fail
            have hb12 := (Below.refl w11.heap.size w11).alloc (Nat.le_refl _) (.cells #[.bool sa.ov, .int .i64 sa.res, .int .i64 sa.trap, .int .i64 sa.cost, .slice to4 sa.told.length tc4] 34)
            have hE12 := Blk.new' (w := w11) #[.bool sa.ov, .int .i64 sa.res, .int .i64 sa.trap, .int .i64 sa.cost, .slice to4 sa.told.length tc4] 34 hE
            refine (Run_any _ lo4 lc4 ho4 hc4 e2 (HE11.out.old hb12) ao acap zs (HZ.out.old (bthen HL11.out hb12)).ints.2 HN.out (by omega) steps).mono ?_
            rw [HE2'.out]
            rintro e w13 ⟨to6, tc6, rfl, hb13, o13⟩
            have hb123 := bthen hb12 hb13
            have HL13 := Lib.hid (bthen HL11.out hb123)
            have HE13 := Lib.hid (hE12.old hb13)
            have HT13 := Lib.hid (HT11.out.old hb123)
            have HU13 := Lib.hid (show TAt w13 to6 tc6 (runV e2 zs steps).told from (ownsRow_slA o13).2)
            rw [← hE]
            clear hb12 hE12 hb13 hb123 o13 HL11 HX11 HE11 HT11 x0 x1 lX hE HE2'
            generalize runV e2 zs steps = sb at HS HU13
            unfold resV
            obtain ⟨F, hF⟩ : ∃ F, F = w13.heap.size := ⟨_, rfl⟩
            have lE := HE13.out.lt
            have e0 : w13.cell? ⟨E, 0, none⟩ = some (.bool sa.ov) := HE13.out.cell 0 rfl
            have e1 : w13.cell? ⟨E, 1, none⟩ = some (.int .i64 sa.res) := HE13.out.cell 1 rfl
            have e2 : w13.cell? ⟨E, 2, none⟩ = some (.int .i64 sa.trap) := HE13.out.cell 2 rfl
            have e3 : w13.cell? ⟨E, 3, none⟩ = some (.int .i64 sa.cost) := HE13.out.cell 3 rfl
            have e4 : w13.cell? ⟨E, 4, none⟩ = some (.slice to4 sa.told.length tc4) := HE13.out.cell 4 rfl
            rcases hov : sa.ov with _ | _
            · rw [hov] at e0
              clear hov
              go_wp2_with (first | (go_at_call 9; refine (sane_any _).mono ?_; rintro e w14 ⟨rfl, hb14⟩))
              go_ret
              exact ⟨rfl, bthen HL13.out (bthen ((Below.refl _ _).alloc (Nat.le_refl _) _) hb14)⟩
            · rw [hov] at e0
              have hsm := HS.out hov
              have hco := hsm.cost
              have HSM := Lib.hid hsm
              have HOv := Lib.hid hov
              clear hsm hov
              go_wp2_with fail
              have hb14 := (Below.refl w13.heap.size w13).alloc (Nat.le_refl _) (.cells #[.bool sb.ov, .int .i64 sb.res, .int .i64 sb.trap, .int .i64 sb.cost, .slice to6 sb.told.length tc6] 34)
              have hF14 := Blk.new' (w := w13) #[.bool sb.ov, .int .i64 sb.res, .int .i64 sb.trap, .int .i64 sb.cost, .slice to6 sb.told.length tc6] 34 hF
              have hal := alike_ok _ sa sb to4 tc4 to6 tc6 ⟨HSM.out.ov, HSM.out.res, HSM.out.trap, HSM.out.told⟩ (HT13.out.old hb14) (HU13.out.old hb14) HTl.out
              unfold resV at hal
              rw [HOv.out] at hal
              have HAl := Lib.hid hal
              clear hal
              refine HAl.out.mono ?_
              rintro e w15 ⟨rfl, hb15⟩
              have hb145 := bthen hb14 hb15
              have HL15 := Lib.hid (bthen HL13.out hb145)
              have e3 : w15.cell? ⟨E, 3, none⟩ = some (.int .i64 sa.cost) := (HE13.out.old hb145).cell 3 rfl
              have f3 : w15.cell? ⟨F, 3, none⟩ = some (.int .i64 sb.cost) := (hF14.old hb15).cell 3 rfl
              rw [← hF]
              clear hb14 hF14 hb15 hb145 HAl hF HE13 HT13 HU13
              go_wp2_with (first | (go_at_call 9; refine (sane_any _).mono ?_; rintro e w16 ⟨rfl, hb16⟩))
              go_ret
              exact ⟨rfl, bthen HL15.out hb16⟩
        · have HG := Lib.hid hst
          clear hst
          go_wp2_with (first | (go_at_call 9; refine (sane_any _).mono ?_; rintro e w9 ⟨rfl, hb9⟩))
          all_goals first
            | (go_ret; exact ⟨rfl, bthen HL8.out hb9⟩)
            | (exfalso; have := HG.out; omega)
  · go_wp2_with (first | (go_at_call 9; refine (sane_any _).mono ?_; rintro e w2 ⟨rfl, hb2⟩))
    go_ret
    exact ⟨rfl, bthen HL1.out hb2⟩

end Go.Proofs.Ytignlfcjlbijaaa
