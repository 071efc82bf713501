/- RegisterDead returns true: the walk. -/
import Derived.Test.YtignlfcjlbijaaaRx
namespace Go.Proofs.Ytignlfcjlbijaaa
open Go.RowKit

set_option maxHeartbeats 8000000 in
set_option maxRecDepth 100000 in
theorem dead_any (W : World) (lo : Option Addr) (lc : Nat) (ho : Option Addr) (hc : Nat) (c : Cd) (hcd : CdAt W lo lc ho hc c) (ao : Option Addr) (acap : Nat) (zs : List Int) (hz : Sl .i64 W ao zs) (hzn : ao = none → acap = 0) (at_ : Int) :
    Calls Try.prog 5 #[.agg #[.slice lo c.l.length lc, .slice ho c.h.length hc], .slice ao zs.length acap, .int .i64 at_] W fun e w' => e = .returned (.bool true) ∧ Below W.heap.size W w' := by
  obtain ⟨B, hB⟩ : ∃ B, B = W.heap.size := ⟨_, rfl⟩
  have HC := Lib.hid hcd
  have HZ := Lib.hid (SlA.of_ints hz hzn)
  have HN := Lib.hid hzn
  clear hcd hz hzn
  go_enter Try.func5, Try.ntmps5
  go_wp2_with fail
  have hb0 : Below W.heap.size W (W.alloc (.cells #[.slice lo c.l.length lc, .slice ho c.h.length hc] 25)) := (Below.refl _ _).alloc (Nat.le_refl _) _
  have hA0 : Blk (W.alloc (.cells #[.slice lo c.l.length lc, .slice ho c.h.length hc] 25)) B #[.slice lo c.l.length lc, .slice ho c.h.length hc] 25 := Blk.new' _ _ hB
  refine (long_any _ lo lc ho hc c.l.length c.h.length).mono ?_
  rintro e w1 ⟨rfl, hb1⟩
  have HA1 := Lib.hid (hA0.old hb1)
  have HL1 := Lib.hid (bthen hb0 hb1)
  clear hA0 hb1 hb0
  rw [← hB]
  have HB := Lib.hid hB
  clear hB
  have a0 : w1.cell? ⟨B, 0, none⟩ = some (.slice lo c.l.length lc) := HA1.out.cell 0 rfl
  have a1 : w1.cell? ⟨B, 1, none⟩ = some (.slice ho c.h.length hc) := HA1.out.cell 1 rfl
  rcases hlong : (decide ((c.l.length : Int) > 2000) || decide ((c.h.length : Int) > 2000)) with _ | _
  · have hll : c.l.length ≤ 2000 ∧ c.h.length ≤ 2000 := by
      simp only [Bool.or_eq_false_iff, decide_eq_false_iff_not] at hlong; omega
    have HLen := Lib.hid hll
    clear hlong hll
    by_cases hzl : (zs.length : Int) > 100
    · go_wp2_with (first | (go_at_call 9; refine (sane_any _).mono ?_; rintro e w2 ⟨rfl, hb2⟩))
      go_ret
      exact ⟨rfl, bthen HL1.out hb2⟩
    · have hzl2 : zs.length ≤ 100 := by omega
      go_wp2_with fail
      refine (rValid_any w1 lo lc ho hc c (HC.out.old HL1.out)).mono ?_
      rintro e w2 ⟨rfl, hb2⟩
      have HA2 := Lib.hid (HA1.out.old hb2)
      have HL2 := Lib.hid (bthen HL1.out hb2)
      clear hb2 a0 a1 HA1 HL1
      have a0 : w2.cell? ⟨B, 0, none⟩ = some (.slice lo c.l.length lc) := HA2.out.cell 0 rfl
      have a1 : w2.cell? ⟨B, 1, none⟩ = some (.slice ho c.h.length hc) := HA2.out.cell 1 rfl
      rcases hcv : codeV c with _ | _
      · go_wp2_with (first | (go_at_call 9; refine (sane_any _).mono ?_; rintro e w3 ⟨rfl, hb3⟩))
        go_ret
        exact ⟨rfl, bthen HL2.out hb3⟩
      · have HV := Lib.hid hcv
        clear hcv
        by_cases hat : 0 ≤ at_ ∧ at_ < c.l.length
        · obtain ⟨hat1, hat2⟩ := hat
          obtain ⟨k, rfl⟩ : ∃ k : Nat, at_ = k := ⟨at_.toNat, by omega⟩
          have hkn : k < c.l.length := by omega
          go_wp2_with fail
          refine (to_any _ lo lc ho hc c (HC.out.old HL2.out) HLen.out.1 HLen.out.2).mono ?_
          rintro e w3 ⟨lo2, lc2, ho2, hc2, rfl, hb3, o3, p3⟩
          have HA3 := Lib.hid (HA2.out.old hb3)
          have HL3 := Lib.hid (bthen HL2.out hb3)
          have HD3 := Lib.hid (show CdAt w3 lo2 lc2 ho2 hc2 c from ⟨(ownsRow_slA o3).2, (ownsRow_slA p3).2⟩)
          clear hb3 o3 p3 a0 a1 HA2 HL2
          obtain ⟨D, hD⟩ : ∃ D, D = w3.heap.size := ⟨_, rfl⟩
          go_wp2_with fail
          have hb4 := (Below.refl w3.heap.size w3).alloc (Nat.le_refl _) (.cells #[.slice lo2 c.l.length lc2, .slice ho2 c.h.length hc2] 30)
          have hX4 := Blk.new' (w := w3) #[.slice lo2 c.l.length lc2, .slice ho2 c.h.length hc2] 30 hD
          refine (Reached_any _ lo2 lc2 ho2 hc2 c (HD3.out.old hb4) HV.out).mono ?_
          rintro e w5 ⟨O, bs, rfl, hb5, -, hO5, hbl, hbr⟩
          have hb45 := bthen hb4 hb5
          have HA5 := Lib.hid (HA3.out.old hb45)
          have HX5 := Lib.hid (hX4.old hb5)
          have HL5 := Lib.hid (bthen HL3.out hb45)
          have HD5 := Lib.hid (HD3.out.old hb45)
          have HO5 := Lib.hid hO5
          have HBr := Lib.hid hbr
          have HBl := Lib.hid hbl
          rw [← hD]
          clear hb4 hb5 hb45 hX4 hO5 hbl hbr HA3 HL3 HD3 hD
          have a0 : w5.cell? ⟨B, 0, none⟩ = some (.slice lo c.l.length lc) := HA5.out.cell 0 rfl
          have a1 : w5.cell? ⟨B, 1, none⟩ = some (.slice ho c.h.length hc) := HA5.out.cell 1 rfl
          have o0 : w5.cell? ⟨O, 0, none⟩ = some (.bool true) := HO5.out.cell 0 (by
            have h1 := (HBr.out 0).2 .zero
            have h2 : 0 < bs.length := by rw [HBl.out]; omega
            have h3 : bs[0] = true := by simpa [List.getD_eq_getElem?_getD, h2] using h1
            simp [h2, h3])
          have hkb : k < bs.length := by rw [HBl.out]; exact hkn
          have ok : w5.cell? ⟨O, k, none⟩ = some (.bool (bs.getD k false)) := HO5.out.cell k (by simp [List.getD_eq_getElem?_getD, hkb])
          have h0n : (0 : Int) < c.l.length := by omega
          rcases hbk : bs.getD k false with _ | _
          · rw [hbk] at ok
            have hnr : ¬ Reach c k := fun h => by have := (HBr.out k).2 h; rw [hbk] at this; cases this
            have HNr := Lib.hid hnr
            clear hbk hnr
            go_wp2_with fail
            refine (to_any w5 lo lc ho hc c (HC.out.old HL5.out) HLen.out.1 HLen.out.2).mono ?_
            rintro e w6 ⟨lo6, lc6, ho6, hc6, rfl, hb6, o6, p6⟩
            have hlc : c.h.length = c.l.length := by obtain ⟨_, _, v3, _⟩ := codeV_ins HV.out; exact v3
            obtain ⟨gl, rfl⟩ := ownsRow_some o6 (by omega)
            obtain ⟨gh, rfl⟩ := ownsRow_some p6 (by omega)
            obtain ⟨lgl, bgl, fgl, cgl⟩ := own_cells o6
            obtain ⟨lgh, bgh, fgh, cgh⟩ := own_cells p6
            have hne : ¬ (gl = gh) := by
              intro h; subst h
              rcases o6.2 with ⟨h0, _⟩ | ⟨_, _, _, hv, _, hh, _⟩
              · cases h0
              · cases hv
                exact blk_not_own (show Blk w6 gl _ 53 from hh) p6 (by decide) rfl
            have hne2 : ¬ (gh = gl) := fun h => hne h.symm
            have HA6 := Lib.hid (HA5.out.old hb6)
            have HX6 := Lib.hid (HX5.out.old hb6)
            have HL6 := Lib.hid (bthen HL5.out hb6)
            have lD5 := HX5.out.lt
            have hDgl : ¬ (D = gl) := by omega
            have hDgh : ¬ (D = gh) := by omega
            have d0 : w6.cell? ⟨D, 0, none⟩ = some (.slice lo2 c.l.length lc2) := HX6.out.cell 0 rfl
            have d1 : w6.cell? ⟨D, 1, none⟩ = some (.slice ho2 c.h.length hc2) := HX6.out.cell 1 rfl
            have lD := HX6.out.lt
            have q0 := cgl (k * 4 + 0) _ (flat_get c.l k hkn 0 (by omega))
            have q1 := cgl (k * 4 + 1) _ (flat_get c.l k hkn 1 (by omega))
            have q2 := cgl (k * 4 + 2) _ (flat_get c.l k hkn 2 (by omega))
            have q3 := cgl (k * 4 + 3) _ (flat_get c.l k hkn 3 (by omega))
            rw [Nat.add_zero] at q0
            have q4 := cgh k (.int .i64 (c.h.getD k 0)) (by simp [show k < c.h.length by omega])
            have f0 := fgl (k * 4)
            have f1 := fgl (k * 4 + 1)
            have f2 := fgl (k * 4 + 2)
            have f3 := fgl (k * 4 + 3)
            have f4 := fgh k
            have hkh : (k : Int) < c.h.length := by omega
            have HO6 := Lib.hid o6
            have HP6 := Lib.hid p6
            have HB6 := Lib.hid hb6
            clear o6 p6 hb6 fgl cgl fgh cgh a0 a1 o0 ok HA5 HX5 HO5 HBr HBl
            obtain ⟨X, hX⟩ : ∃ X, X = w6.heap.size := ⟨_, rfl⟩
            go_wp2_with fail
            have HLC := Lib.hid hlc
            obtain ⟨w8, hw8⟩ : ∃ w8, w8 = (((((w6.setCell ⟨gl, k * 4, none⟩ (.int .i64 0)).setCell ⟨gl, k * 4 + 1, none⟩ (.int .i64 (-1))).setCell ⟨gl, k * 4 + 2, none⟩ (.int .i64 0)).setCell ⟨gl, k * 4 + 3, none⟩ (.int .i64 0)).setCell ⟨gh, k, none⟩ (.int .i64 (-1))) := ⟨_, rfl⟩
            have hb8 : Below w5.heap.size w5 w8 := by subst hw8; exact ((((HB6.out.setCell (p := ⟨gl, k * 4, none⟩) bgl _).setCell (p := ⟨gl, k * 4 + 1, none⟩) bgl _).setCell (p := ⟨gl, k * 4 + 2, none⟩) bgl _).setCell (p := ⟨gl, k * 4 + 3, none⟩) bgl _).setCell (p := ⟨gh, k, none⟩) bgh _
            have o8 : w8.ownsRow w5.heap.size 53 4 (.slice (some ⟨gl, 0, none⟩) c.l.length lc6) c.l.length (flat (c.l.set k ⟨0, -1, 0, 0⟩)) := by
              subst hw8; rw [← flat_set _ _ _ hkn]
              exact ownsRow_setCell_other (own_set (own_set (own_set (own_set HO6.out _ _) _ _) _ _) _ _) (by simp [Value.ownBlock]; exact hne) _
            have p8 : w8.ownsRow w5.heap.size 3 1 (.slice (some ⟨gh, 0, none⟩) c.h.length hc6) c.h.length ((c.h.set k (-1)).map (Value.int .i64)) := by
              subst hw8; rw [List.map_set]
              exact own_set (ownsRow_setCell_other (ownsRow_setCell_other (ownsRow_setCell_other (ownsRow_setCell_other HP6.out (by simp [Value.ownBlock]; exact hne2) _) (by simp [Value.ownBlock]; exact hne2) _) (by simp [Value.ownBlock]; exact hne2) _) (by simp [Value.ownBlock]; exact hne2) _) _ _
            have hs8 : w8.heap.size = w6.heap.size := by subst hw8; simp
            rw [← hw8]
            have hX9 : Blk (w8.alloc (.cells #[.slice (some ⟨gl, 0, none⟩) c.l.length lc6, .slice (some ⟨gh, 0, none⟩) c.l.length hc6] 30)) X #[.slice (some ⟨gl, 0, none⟩) c.l.length lc6, .slice (some ⟨gh, 0, none⟩) c.l.length hc6] 30 := Blk.new' _ _ (by rw [hX, hs8])
            have hb9 := hb8.alloc hb8.size (.cells #[.slice (some ⟨gl, 0, none⟩) c.l.length lc6, .slice (some ⟨gh, 0, none⟩) c.l.length hc6] 30)
            have hcd9 : CdAt (w8.alloc (.cells #[.slice (some ⟨gl, 0, none⟩) c.l.length lc6, .slice (some ⟨gh, 0, none⟩) c.l.length hc6] 30)) (some ⟨gl, 0, none⟩) lc6 (some ⟨gh, 0, none⟩) hc6 (killC c k) :=
              ⟨by show SlA _ 4 _ (c.l.set k _).length _ _; rw [List.length_set]; exact (ownsRow_slA o8).2.alloc _, by show SlA _ 1 _ (c.h.set k _).length _ _; rw [List.length_set]; exact (ownsRow_slA p8).2.alloc _⟩
            rw [← hX]
            generalize (w8.alloc (.cells #[.slice (some ⟨gl, 0, none⟩) c.l.length lc6, .slice (some ⟨gh, 0, none⟩) c.l.length hc6] 30)) = w9 at hX9 hb9 hcd9 ⊢
            have HL9 := Lib.hid (bthen HL5.out hb9)
            have HD9 := Lib.hid (HD5.out.old hb9)
            have HX9 := Lib.hid hX9
            have HC9 := Lib.hid hcd9
            clear hw8 hb8 o8 p8 hs8 hX9 hb9 hcd9 q0 q1 q2 q3 q4 f0 f1 f2 f3 f4 d0 d1 lD hDgl hDgh hne hne2 hX HO6 HP6 HB6 HA6 HX6 HL6 lgl lgh bgl bgh lD5 w8 hlc
            obtain ⟨rk1, rk2⟩ := runV_kill HV.out hkn HNr.out zs 2000
            have hrun := Run_any w9 lo2 lc2 ho2 hc2 c HD9.out ao acap zs (HZ.out.old HL9.out).ints.2 HN.out (by omega) 2000
            rw [HLC.out] at hrun
            refine hrun.mono ?_
            clear hrun
            rintro e w10 ⟨to4, tc4, rfl, hb10, o10⟩
            have HL10 := Lib.hid (bthen HL9.out hb10)
            have HX10 := Lib.hid (HX9.out.old hb10)
            have HC10 := Lib.hid (HC9.out.old hb10)
            have HT10 := Lib.hid (show TAt w10 to4 tc4 (runV c zs 2000).told from (ownsRow_slA o10).2)
            have HTl := Lib.hid (runV_told c zs 2000)
            have RK := Lib.hid (And.intro rk1 rk2)
            clear hb10 o10 HL9 HX9 HC9 HD9 rk1 rk2
            generalize runV c zs 2000 = sa at RK HT10 HTl
            generalize runE c zs 2000 = er at RK
            unfold resV
            have x0 : w10.cell? ⟨X, 0, none⟩ = some (.slice (some ⟨gl, 0, none⟩) c.l.length lc6) := HX10.out.cell 0 rfl
            have x1 : w10.cell? ⟨X, 1, none⟩ = some (.slice (some ⟨gh, 0, none⟩) c.l.length hc6) := HX10.out.cell 1 rfl
            have lX := HX10.out.lt
            obtain ⟨E, hE⟩ : ∃ E, E = w10.heap.size := ⟨_, rfl⟩
            go_wp2_with fail
            have hb11 := (Below.refl w10.heap.size w10).alloc (Nat.le_refl _) (.cells #[.bool sa.ov, .int .i64 sa.res, .int .i64 sa.trap, .int .i64 sa.cost, .slice to4 sa.told.length tc4] 34)
            have hE11 := Blk.new' (w := w10) #[.bool sa.ov, .int .i64 sa.res, .int .i64 sa.trap, .int .i64 sa.cost, .slice to4 sa.told.length tc4] 34 hE
            have hrun := Run_any _ (some ⟨gl, 0, none⟩) lc6 (some ⟨gh, 0, none⟩) hc6 (killC c k) (HC10.out.old hb11) ao acap zs (HZ.out.old (bthen HL10.out hb11)).ints.2 HN.out (by omega) 2000
            rw [show (killC c k).l.length = c.l.length by simp [killC], show (killC c k).h.length = c.l.length by simp [killC, HLC.out], RK.out.1, RK.out.2] at hrun
            refine hrun.mono ?_
            clear hrun
            rintro e w12 ⟨to6, tc6, rfl, hb12, o12⟩
            have hb112 := bthen hb11 hb12
            have HL12 := Lib.hid (bthen HL10.out hb112)
            have HE12 := Lib.hid (hE11.old hb12)
            have HT12 := Lib.hid (HT10.out.old hb112)
            have HU12 := Lib.hid (show TAt w12 to6 tc6 sa.told from (ownsRow_slA o12).2)
            rw [← hE]
            clear hb11 hE11 hb12 hb112 o12 HL10 HX10 HC10 HT10 x0 x1 lX hE RK
            unfold resV
            obtain ⟨F, hF⟩ : ∃ F, F = w12.heap.size := ⟨_, rfl⟩
            have lE := HE12.out.lt
            have e0 : w12.cell? ⟨E, 0, none⟩ = some (.bool sa.ov) := HE12.out.cell 0 rfl
            have e1 : w12.cell? ⟨E, 1, none⟩ = some (.int .i64 sa.res) := HE12.out.cell 1 rfl
            have e2 : w12.cell? ⟨E, 2, none⟩ = some (.int .i64 sa.trap) := HE12.out.cell 2 rfl
            have e3 : w12.cell? ⟨E, 3, none⟩ = some (.int .i64 sa.cost) := HE12.out.cell 3 rfl
            have e4 : w12.cell? ⟨E, 4, none⟩ = some (.slice to4 sa.told.length tc4) := HE12.out.cell 4 rfl
            go_wp2_with fail
            have hb13 := (Below.refl w12.heap.size w12).alloc (Nat.le_refl _) (.cells #[.bool sa.ov, .int .i64 sa.res, .int .i64 sa.trap, .int .i64 sa.cost, .slice to6 sa.told.length tc6] 34)
            have hF13 := Blk.new' (w := w12) #[.bool sa.ov, .int .i64 sa.res, .int .i64 sa.trap, .int .i64 sa.cost, .slice to6 sa.told.length tc6] 34 hF
            refine (alike_ok _ sa sa to4 tc4 to6 tc6 ⟨rfl, rfl, rfl, rfl⟩ (HT12.out.old hb13) (HU12.out.old hb13) HTl.out).mono ?_
            rintro e w14 ⟨rfl, hb14⟩
            have hb134 := bthen hb13 hb14
            have HL14 := Lib.hid (bthen HL12.out hb134)
            have e3 : w14.cell? ⟨E, 3, none⟩ = some (.int .i64 sa.cost) := (HE12.out.old hb134).cell 3 rfl
            have f3 : w14.cell? ⟨F, 3, none⟩ = some (.int .i64 sa.cost) := (hF13.old hb14).cell 3 rfl
            rw [← hF]
            clear hb13 hF13 hb14 hb134 HL12 HE12 HT12 HU12 hF
            go_wp2_with (first | (go_at_call 9; refine (sane_any _).mono ?_; rintro e w15 ⟨rfl, hb15⟩))
            go_ret
            exact ⟨rfl, bthen HL14.out hb15⟩
          · rw [hbk] at ok
            clear hbk
            go_wp2_with (first | (go_at_call 9; refine (sane_any _).mono ?_; rintro e w6 ⟨rfl, hb6⟩))
            go_ret
            exact ⟨rfl, bthen HL5.out hb6⟩
        · have HG := Lib.hid hat
          clear hat
          go_wp2_with (first | (go_at_call 9; refine (sane_any _).mono ?_; rintro e w3 ⟨rfl, hb3⟩))
          all_goals first
            | (go_ret; exact ⟨rfl, bthen HL2.out hb3⟩)
            | (exfalso; have := HG.out; omega)
  · go_wp2_with (first | (go_at_call 9; refine (sane_any _).mono ?_; rintro e w2 ⟨rfl, hb2⟩))
    go_ret
    exact ⟨rfl, bthen HL1.out hb2⟩

end Go.Proofs.Ytignlfcjlbijaaa
