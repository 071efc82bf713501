/- RegisterRuns returns true: the walk. -/
import Derived.Test.YtignlfcjlbijaaaRq
import Derived.Test.YtignlfcjlbijaaaHg
import Derived.Test.YtignlfcjlbijaaaRb
namespace Go.Proofs.Ytignlfcjlbijaaa
open Go.RowKit

theorem one_cells (zs : List Int) : ∀ u ∈ zs.map (Value.int .i64), u.oneCell' = true := by
  intro u hu; obtain ⟨z, _, rfl⟩ := List.mem_map.1 hu; rfl

set_option maxHeartbeats 4000000 in
set_option maxRecDepth 100000 in
theorem runs_any (W : World) (lo : Option Addr) (lc : Nat) (ho : Option Addr) (hc : Nat) (c : Cd) (hcd : CdAt W lo lc ho hc c) (ao : Option Addr) (acap : Nat) (zs : List Int) (hz : Sl .i64 W ao zs) (hzn : ao = none → acap = 0) (steps : Int) :
    Calls Try.prog 3 #[.agg #[.slice lo c.l.length lc, .slice ho c.h.length hc], .slice ao zs.length acap, .int .i64 steps] W fun e w' => e = .returned (.bool true) ∧ Below W.heap.size W w' := by
  obtain ⟨B, hB⟩ : ∃ B, B = W.heap.size := ⟨_, rfl⟩
  have HC := Lib.hid hcd
  have HZ := Lib.hid (SlA.of_ints hz hzn)
  clear hcd hz hzn
  go_enter Try.func3, Try.ntmps3
  go_wp2_with fail
  have hb0 : Below W.heap.size W (W.alloc (.cells #[.slice lo c.l.length lc, .slice ho c.h.length hc] 25)) := (Below.refl _ _).alloc (Nat.le_refl _) _
  have hA0 : Blk (W.alloc (.cells #[.slice lo c.l.length lc, .slice ho c.h.length hc] 25)) B #[.slice lo c.l.length lc, .slice ho c.h.length hc] 25 := Blk.new' _ _ hB
  refine (long_any _ lo lc ho hc c.l.length c.h.length).mono ?_
  rintro e w1 ⟨rfl, hb1⟩
  have HA1 := Lib.hid (hA0.old hb1)
  have HL1 := Lib.hid (bthen hb0 hb1)
  clear hA0 hb1 hb0
  rw [← hB]
  have HB := Lib.hid hB
  clear hB
  have a0 : w1.cell? ⟨B, 0, none⟩ = some (.slice lo c.l.length lc) := HA1.out.cell 0 rfl
  have a1 : w1.cell? ⟨B, 1, none⟩ = some (.slice ho c.h.length hc) := HA1.out.cell 1 rfl
  rcases hlong : (decide ((c.l.length : Int) > 2000) || decide ((c.h.length : Int) > 2000)) with _ | _
  · have hll : c.l.length ≤ 2000 ∧ c.h.length ≤ 2000 := by
      simp only [Bool.or_eq_false_iff, decide_eq_false_iff_not] at hlong; omega
    have HLen := Lib.hid hll
    clear hlong hll
    by_cases hzl : (zs.length : Int) > 100
    · go_wp2_with (first | (go_at_call 9; refine (sane_any _).mono ?_; rintro e w2 ⟨rfl, hb2⟩))
      go_ret
      exact ⟨rfl, bthen HL1.out hb2⟩
    · have hzl2 : zs.length ≤ 100 := by omega
      by_cases hs : 3000 < steps ∧ steps ≤ 100000
      · obtain ⟨hs1, hs2⟩ := hs
        --T 3000
        as_aux_lemma =>
          go_wp2_with fail
          refine (to_any _ lo lc ho hc c (HC.out.old HL1.out) HLen.out.1 HLen.out.2).mono ?_
          rintro e w2 ⟨lo2, lc2, ho2, hc2, rfl, hb2, o2, p2⟩
          have HA2 := Lib.hid (HA1.out.old hb2)
          have HL2 := Lib.hid (bthen HL1.out hb2)
          have HD2 := Lib.hid (show CdAt w2 lo2 lc2 ho2 hc2 c from ⟨(ownsRow_slA o2).2, (ownsRow_slA p2).2⟩)
          clear hb2 o2 p2 a0 a1 HA1 HL1
          obtain ⟨D, hD⟩ : ∃ D, D = w2.heap.size := ⟨_, rfl⟩
          have HO := Lib.hid (show ((w2.alloc (.cells #[.slice lo2 c.l.length lc2, .slice ho2 c.h.length hc2] 30)).alloc (.cells #[] 3)).ownsRow (w2.heap.size + 1) 3 1 (.slice (some ⟨w2.heap.size + 1, 0, none⟩) 0 0) 0 [] by
            have := World.ownsRow_made (e := 3) (size := 1) (w2.alloc (.cells #[.slice lo2 c.l.length lc2, .slice ho2 c.h.length hc2] 30)) #[] 0 (Nat.le_refl _) (by decide) rfl
            rw [show (w2.alloc (.cells #[.slice lo2 c.l.length lc2, .slice ho2 c.h.length hc2] 30)).heap.size = w2.heap.size + 1 by simp] at this
            exact this)
          go_wp2_with (first
            | (at_builtin; refine wpList_append_sl rfl (.tmp 30) (.tmp 31) 23 rfl (w2.heap.size + 1) 3 1 8 elInt (.slice (some ⟨w2.heap.size + 1, 0, none⟩) 0 0) 0 [] rfl HO.out ao zs.length acap (zs.map (.int .i64)) rfl (((HZ.out.old HL2.out).alloc _).alloc _) (one_cells _) (by omega) (by unfold maxLen; omega) (by simp) ?_
               intro ao3 cap3 w3 hown3 hg3
               simp only [Nat.zero_add, List.nil_append] at hown3 ⊢
               have HG3 := Lib.hid (And.intro hown3 hg3)
               have hb3 := (((Below.refl w2.heap.size w2).alloc (Nat.le_refl _) (.cells #[.slice lo2 c.l.length lc2, .slice ho2 c.h.length hc2] 30)).alloc (by simp) (.cells #[] 3)).grown hg3 (by simp; omega) (by intro k hk; simp [Value.ownBlock] at hk; omega)
               have hX3 := ((Blk.new' (w := w2) #[.slice lo2 c.l.length lc2, .slice ho2 c.h.length hc2] 30 hD).alloc (.cells #[] 3)).grown hg3 (by simp [Value.ownBlock]; omega)
               have HA3 := Lib.hid (HA2.out.old hb3)
               have HL3 := Lib.hid (bthen HL2.out hb3)
               have HD3 := Lib.hid (HD2.out.old hb3)
               have HX3 := Lib.hid hX3
               have HZ3 := Lib.hid (ownsRow_slA hown3).2
               have d0 := hX3.cell 0 rfl
               have d1 := hX3.cell 1 rfl
               rw [hD] at d0 d1
               clear hown3 hg3 hb3 hX3 HO HA2 HD2))
          rw [← hD]
          have HDl := Lib.hid hD
          clear hD HL2 d0 d1
          refine (Run_any w3 lo2 lc2 ho2 hc2 c HD3.out ao3 cap3 zs HZ3.out.ints.2 (fun h => (HZ3.out.2.1 h).2) (by omega) (3000)).mono ?_
          rintro e w4 ⟨to4, tc4, rfl, hb4, o4⟩
          have HA4 := Lib.hid (HA3.out.old hb4)
          have HX4 := Lib.hid (HX3.out.old hb4)
          have HL4 := Lib.hid (bthen HL3.out hb4)
          have HD4 := Lib.hid (HD3.out.old hb4)
          have HZ4 := Lib.hid (HZ3.out.old hb4)
          have HT4 := Lib.hid (show TAt w4 to4 tc4 (runV c zs (3000)).told from (ownsRow_slA o4).2)
          clear hb4 o4 HA3 HX3 HL3 HD3 HZ3
          unfold resV
          have a0 : w4.cell? ⟨B, 0, none⟩ = some (.slice lo c.l.length lc) := HA4.out.cell 0 rfl
          have a1 : w4.cell? ⟨B, 1, none⟩ = some (.slice ho c.h.length hc) := HA4.out.cell 1 rfl
          have lB := HA4.out.lt
          obtain ⟨E, hE⟩ : ∃ E, E = w4.heap.size := ⟨_, rfl⟩
          go_wp2_with fail
          have hb5 := (Below.refl w4.heap.size w4).alloc (Nat.le_refl _) (.cells #[.bool (runV c zs (3000)).ov, .int .i64 (runV c zs (3000)).res, .int .i64 (runV c zs (3000)).trap, .int .i64 (runV c zs (3000)).cost, .slice to4 (runV c zs (3000)).told.length tc4] 34)
          have hE5 := Blk.new' (w := w4) #[.bool (runV c zs (3000)).ov, .int .i64 (runV c zs (3000)).res, .int .i64 (runV c zs (3000)).trap, .int .i64 (runV c zs (3000)).cost, .slice to4 (runV c zs (3000)).told.length tc4] 34 hE
          refine (rRun_any _ lo lc ho hc c (HC.out.old (bthen HL4.out hb5)) ao acap zs (HZ.out.old (bthen HL4.out hb5)).ints.2 (by omega) (3000)).mono ?_
          rintro e w6 ⟨to6, tc6, rfl, hb6, o6⟩
          have hb7 := bthen hb5 hb6
          have HA6 := Lib.hid (HA4.out.old hb7)
          have HX6 := Lib.hid (HX4.out.old hb7)
          have HL6 := Lib.hid (bthen HL4.out hb7)
          have HD6 := Lib.hid (HD4.out.old hb7)
          have HZ6 := Lib.hid (HZ4.out.old hb7)
          have HE6 := Lib.hid (hE5.old hb6)
          have HT6 := Lib.hid (HT4.out.old hb7)
          have HU6 := Lib.hid (show TAt w6 to6 tc6 (runV c zs (3000)).told from (ownsRow_slA o6).2)
          rw [← hE]
          have HEl := Lib.hid hE
          clear hb5 hE5 hb6 hb7 o6 HA4 HX4 HL4 HD4 HZ4 HT4 a0 a1 lB hE
          have HTl := Lib.hid (runV_told c zs (3000))
          generalize runV c zs (3000) = s at HE6 HT6 HU6 HTl
          generalize runE c zs (3000) = er
          unfold resV
          obtain ⟨F, hF⟩ : ∃ F, F = w6.heap.size := ⟨_, rfl⟩
          have lB := HA6.out.lt
          have lD := HX6.out.lt
          have lE := HE6.out.lt
          go_wp2_with fail
          have hb7 := (Below.refl w6.heap.size w6).alloc (Nat.le_refl _) (.cells #[.bool s.ov, .int .i64 s.res, .int .i64 s.trap, .int .i64 s.cost, .slice to6 s.told.length tc6] 38)
          have hF7 := Blk.new' (w := w6) #[.bool s.ov, .int .i64 s.res, .int .i64 s.trap, .int .i64 s.cost, .slice to6 s.told.length tc6] 38 hF
          have HA7 := Lib.hid (HA6.out.old hb7)
          have HX7 := Lib.hid (HX6.out.old hb7)
          have HL7 := Lib.hid (bthen HL6.out hb7)
          have HD7 := Lib.hid (HD6.out.old hb7)
          have HZ7 := Lib.hid (HZ6.out.old hb7)
          have HE7 := Lib.hid (HE6.out.old hb7)
          have HT7 := Lib.hid (HT6.out.old hb7)
          have HU7 := Lib.hid (HU6.out.old hb7)
          have HF7 := Lib.hid hF7
          rw [← hF]
          clear hb7 hF7 HA6 HX6 HL6 HD6 HZ6 HE6 HT6 HU6 hF lB lD lE
          generalize (w6.alloc (.cells #[.bool s.ov, .int .i64 s.res, .int .i64 s.trap, .int .i64 s.cost, .slice to6 s.told.length tc6] 38)) = w7 at HA7 HX7 HL7 HD7 HZ7 HE7 HT7 HU7 HF7 ⊢
          have HCl := Lib.hid (show ∀ w, Below w7.heap.size w7 w → (Below w7.heap.size w7 w ∧ w.cell? ⟨B, 0, none⟩ = some (.slice lo c.l.length lc) ∧ w.cell? ⟨B, 1, none⟩ = some (.slice ho c.h.length hc) ∧ w.cell? ⟨D, 0, none⟩ = some (.slice lo2 c.l.length lc2) ∧ w.cell? ⟨D, 1, none⟩ = some (.slice ho2 c.h.length hc2) ∧
              w.cell? ⟨E, 0, none⟩ = some (.bool s.ov) ∧ w.cell? ⟨E, 1, none⟩ = some (.int .i64 s.res) ∧ w.cell? ⟨E, 2, none⟩ = some (.int .i64 s.trap) ∧ w.cell? ⟨E, 3, none⟩ = some (.int .i64 s.cost) ∧ w.cell? ⟨E, 4, none⟩ = some (.slice to4 s.told.length tc4) ∧
              w.cell? ⟨F, 0, none⟩ = some (.bool s.ov) ∧ w.cell? ⟨F, 1, none⟩ = some (.int .i64 s.res) ∧ w.cell? ⟨F, 2, none⟩ = some (.int .i64 s.trap) ∧ w.cell? ⟨F, 3, none⟩ = some (.int .i64 s.cost) ∧ w.cell? ⟨F, 4, none⟩ = some (.slice to6 s.told.length tc6)) from
            fun w h => ⟨h, (HA7.out.old h).cell 0 rfl, (HA7.out.old h).cell 1 rfl, (HX7.out.old h).cell 0 rfl, (HX7.out.old h).cell 1 rfl, (HE7.out.old h).cell 0 rfl, (HE7.out.old h).cell 1 rfl, (HE7.out.old h).cell 2 rfl, (HE7.out.old h).cell 3 rfl, (HE7.out.old h).cell 4 rfl, (HF7.out.old h).cell 0 rfl, (HF7.out.old h).cell 1 rfl, (HF7.out.old h).cell 2 rfl, (HF7.out.old h).cell 3 rfl, (HF7.out.old h).cell 4 rfl⟩)
          refine wp_mix (fun w => Below w7.heap.size w7 w ∧ w.cell? ⟨B, 0, none⟩ = some (.slice lo c.l.length lc) ∧ w.cell? ⟨B, 1, none⟩ = some (.slice ho c.h.length hc) ∧ w.cell? ⟨D, 0, none⟩ = some (.slice lo2 c.l.length lc2) ∧ w.cell? ⟨D, 1, none⟩ = some (.slice ho2 c.h.length hc2) ∧ w.cell? ⟨E, 0, none⟩ = some (.bool s.ov) ∧ w.cell? ⟨E, 1, none⟩ = some (.int .i64 s.res) ∧ w.cell? ⟨E, 2, none⟩ = some (.int .i64 s.trap) ∧ w.cell? ⟨E, 3, none⟩ = some (.int .i64 s.cost) ∧ w.cell? ⟨E, 4, none⟩ = some (.slice to4 s.told.length tc4) ∧ w.cell? ⟨F, 0, none⟩ = some (.bool s.ov) ∧ w.cell? ⟨F, 1, none⟩ = some (.int .i64 s.res) ∧ w.cell? ⟨F, 2, none⟩ = some (.int .i64 s.trap) ∧ w.cell? ⟨F, 3, none⟩ = some (.int .i64 s.cost) ∧ w.cell? ⟨F, 4, none⟩ = some (.slice to6 s.told.length tc6)) [false, false, true, false, false, false, false, false, false, false, false, false, true, true, false, false] (by kernel_rfl) (by kernel_rfl) (by intro c a d v w h; cases d <;> exact h) (HCl.out w7.drew (Below.refl _ _).drew) ?_
          repeat (refine wpMix_plain ?_; (first | (apply Exists.intro; refine ⟨Or.inl ⟨by rfl, ?_⟩, ?_⟩; focus (intro w hSw; (try dsimp only at hSw); go_simp; (try with_reducible rfl); done)) | (refine ⟨_, Or.inr ⟨by rfl, rfl⟩, ?_⟩)); (try simp only [Act.put, List.setIfInBounds_toArray, List.set_cons_zero, List.set_cons_succ]))
          refine wpMix_one _ (by rfl) (by rfl) fun K hK => ?_
          go_simp
          refine (same_ok _ s to4 tc4 to6 tc6 (HT7.out.old (Below.refl _ _).drew) (HU7.out.old (Below.refl _ _).drew) HTl.out).mono ?_
          rintro e w8 ⟨rfl, hb8⟩
          have HL8 := Lib.hid (show Below w7.heap.size w7 w8 from bthen (Below.refl _ w7).drew hb8)
          clear hb8
          go_simp
          refine hK _ _ (HCl.out w8 HL8.out) ?_
          clear hK K
          repeat (refine wpMix_plain ?_; (first | (apply Exists.intro; refine ⟨Or.inl ⟨by rfl, ?_⟩, ?_⟩; focus (intro w hSw; (try dsimp only at hSw); go_simp; (try with_reducible rfl); done)) | (refine ⟨_, Or.inr ⟨by rfl, rfl⟩, ?_⟩)); (try simp only [Act.put, List.setIfInBounds_toArray, List.set_cons_zero, List.set_cons_succ]))
          refine wpMix_one _ (by rfl) (by rfl) fun K hK => ?_
          go_simp
          refine (from_any _ lo2 lc2 ho2 hc2 c (HD7.out.old HL8.out) HLen.out.1 HLen.out.2).mono ?_
          rintro e w9 ⟨lo9, lc9, ho9, hc9, rfl, hb9, o9, p9⟩
          have HL9 := Lib.hid (bthen HL8.out hb9)
          have HD9 := Lib.hid (show CdAt w9 lo9 lc9 ho9 hc9 c from ⟨(ownsRow_slA o9).2, (ownsRow_slA p9).2⟩)
          clear hb9 o9 p9
          go_simp
          refine hK _ _ (HCl.out w9 HL9.out) ?_
          clear hK K
          refine wpMix_one _ (by rfl) (by rfl) fun K hK => ?_
          go_simp
          refine (requal_ok _ lo lc ho hc lo9 lc9 ho9 hc9 c (HC.out.old (bthen HL7.out HL9.out)) HD9.out (by have := HLen.out.1; omega) (by have := HLen.out.2; omega)).mono ?_
          rintro e w10 ⟨rfl, hb10⟩
          have HL10 := Lib.hid (bthen HL9.out hb10)
          clear hb10
          go_simp
          refine hK _ _ (HCl.out w10 HL10.out) ?_
          clear hK K
          repeat (refine wpMix_plain ?_; (first | (apply Exists.intro; refine ⟨Or.inl ⟨by rfl, ?_⟩, ?_⟩; focus (intro w hSw; (try dsimp only at hSw); go_simp; (try with_reducible rfl); done)) | (refine ⟨_, Or.inr ⟨by rfl, rfl⟩, ?_⟩)); (try simp only [Act.put, List.setIfInBounds_toArray, List.set_cons_zero, List.set_cons_succ]))
          refine wpMix_nil ?_
          have HB10 := Lib.hid (bthen HL7.out HL10.out)
          have HZ10 := Lib.hid (HZ7.out.old HL10.out)
          clear HCl HL10 HL9 HL8 HD9 HA7 HX7 HL7 HD7 HZ7 HE7 HT7 HU7 HF7
          go_wp2_with fail
          go_loopw [13] (fun i wr => ∃ (k : Nat), k ≤ zs.length ∧ i = .int .i64 k ∧ Below w10.heap.size w10 wr) (fun i _ => zs.length - (intOf i).toNat)
          case atStart => exact ⟨0, by omega, rfl, Below.refl _ _⟩
          case round =>
            obtain ⟨k, hk, rfl, hbel⟩ := hrel
            have HL := Lib.hid hbel
            clear hbel
            by_cases hkl : k < zs.length
            · obtain ⟨ad, ha, e0⟩ := sla_int (HZ10.out.old HL.out) hkl
              obtain ⟨ad2, ha2, d0⟩ := sla_int (HZ.out.old (bthen HB10.out HL.out)) hkl
              generalize zs.getD k 0 = x at e0 d0
              have HAd := Lib.hid ha
              have HAd2 := Lib.hid ha2
              subst ha ha2
              have hkl2 : (k : Int) < zs.length := by omega
              go_wp2_with fail
              refine wp_still_all (by kernel_rfl) (by kernel_rfl) ?_
              repeat still_step
              refine wpStill_nil ?_
              clear e0 d0
              go_wp2_with fail
              exact ⟨⟨k + 1, by omega, by go_num, HL.out.drew⟩, by show zs.length - ((k : Int) + 1).toNat < zs.length - (k : Int).toNat; omega⟩
            · go_wp2_with (first | (go_at_call 9; refine (sane_any _).mono ?_; rintro e w11 ⟨rfl, hb11⟩))
              go_ret
              exact ⟨rfl, bthen (bthen HB10.out HL.out) hb11⟩
        --E
      · by_cases hs1 : 3000 < steps
        · have hs2 : ¬ steps ≤ 100000 := fun h => hs ⟨hs1, h⟩
          clear hs
          --T steps
          as_aux_lemma =>
            go_wp2_with fail
            refine (to_any _ lo lc ho hc c (HC.out.old HL1.out) HLen.out.1 HLen.out.2).mono ?_
            rintro e w2 ⟨lo2, lc2, ho2, hc2, rfl, hb2, o2, p2⟩
            have HA2 := Lib.hid (HA1.out.old hb2)
            have HL2 := Lib.hid (bthen HL1.out hb2)
            have HD2 := Lib.hid (show CdAt w2 lo2 lc2 ho2 hc2 c from ⟨(ownsRow_slA o2).2, (ownsRow_slA p2).2⟩)
            clear hb2 o2 p2 a0 a1 HA1 HL1
            obtain ⟨D, hD⟩ : ∃ D, D = w2.heap.size := ⟨_, rfl⟩
            have HO := Lib.hid (show ((w2.alloc (.cells #[.slice lo2 c.l.length lc2, .slice ho2 c.h.length hc2] 30)).alloc (.cells #[] 3)).ownsRow (w2.heap.size + 1) 3 1 (.slice (some ⟨w2.heap.size + 1, 0, none⟩) 0 0) 0 [] by
              have := World.ownsRow_made (e := 3) (size := 1) (w2.alloc (.cells #[.slice lo2 c.l.length lc2, .slice ho2 c.h.length hc2] 30)) #[] 0 (Nat.le_refl _) (by decide) rfl
              rw [show (w2.alloc (.cells #[.slice lo2 c.l.length lc2, .slice ho2 c.h.length hc2] 30)).heap.size = w2.heap.size + 1 by simp] at this
              exact this)
            go_wp2_with (first
              | (at_builtin; refine wpList_append_sl rfl (.tmp 30) (.tmp 31) 23 rfl (w2.heap.size + 1) 3 1 8 elInt (.slice (some ⟨w2.heap.size + 1, 0, none⟩) 0 0) 0 [] rfl HO.out ao zs.length acap (zs.map (.int .i64)) rfl (((HZ.out.old HL2.out).alloc _).alloc _) (one_cells _) (by omega) (by unfold maxLen; omega) (by simp) ?_
                 intro ao3 cap3 w3 hown3 hg3
                 simp only [Nat.zero_add, List.nil_append] at hown3 ⊢
                 have HG3 := Lib.hid (And.intro hown3 hg3)
                 have hb3 := (((Below.refl w2.heap.size w2).alloc (Nat.le_refl _) (.cells #[.slice lo2 c.l.length lc2, .slice ho2 c.h.length hc2] 30)).alloc (by simp) (.cells #[] 3)).grown hg3 (by simp; omega) (by intro k hk; simp [Value.ownBlock] at hk; omega)
                 have hX3 := ((Blk.new' (w := w2) #[.slice lo2 c.l.length lc2, .slice ho2 c.h.length hc2] 30 hD).alloc (.cells #[] 3)).grown hg3 (by simp [Value.ownBlock]; omega)
                 have HA3 := Lib.hid (HA2.out.old hb3)
                 have HL3 := Lib.hid (bthen HL2.out hb3)
                 have HD3 := Lib.hid (HD2.out.old hb3)
                 have HX3 := Lib.hid hX3
                 have HZ3 := Lib.hid (ownsRow_slA hown3).2
                 have d0 := hX3.cell 0 rfl
                 have d1 := hX3.cell 1 rfl
                 rw [hD] at d0 d1
                 clear hown3 hg3 hb3 hX3 HO HA2 HD2))
            rw [← hD]
            have HDl := Lib.hid hD
            clear hD HL2 d0 d1
            refine (Run_any w3 lo2 lc2 ho2 hc2 c HD3.out ao3 cap3 zs HZ3.out.ints.2 (fun h => (HZ3.out.2.1 h).2) (by omega) (steps)).mono ?_
            rintro e w4 ⟨to4, tc4, rfl, hb4, o4⟩
            have HA4 := Lib.hid (HA3.out.old hb4)
            have HX4 := Lib.hid (HX3.out.old hb4)
            have HL4 := Lib.hid (bthen HL3.out hb4)
            have HD4 := Lib.hid (HD3.out.old hb4)
            have HZ4 := Lib.hid (HZ3.out.old hb4)
            have HT4 := Lib.hid (show TAt w4 to4 tc4 (runV c zs (steps)).told from (ownsRow_slA o4).2)
            clear hb4 o4 HA3 HX3 HL3 HD3 HZ3
            unfold resV
            have a0 : w4.cell? ⟨B, 0, none⟩ = some (.slice lo c.l.length lc) := HA4.out.cell 0 rfl
            have a1 : w4.cell? ⟨B, 1, none⟩ = some (.slice ho c.h.length hc) := HA4.out.cell 1 rfl
            have lB := HA4.out.lt
            obtain ⟨E, hE⟩ : ∃ E, E = w4.heap.size := ⟨_, rfl⟩
            go_wp2_with fail
            have hb5 := (Below.refl w4.heap.size w4).alloc (Nat.le_refl _) (.cells #[.bool (runV c zs (steps)).ov, .int .i64 (runV c zs (steps)).res, .int .i64 (runV c zs (steps)).trap, .int .i64 (runV c zs (steps)).cost, .slice to4 (runV c zs (steps)).told.length tc4] 34)
            have hE5 := Blk.new' (w := w4) #[.bool (runV c zs (steps)).ov, .int .i64 (runV c zs (steps)).res, .int .i64 (runV c zs (steps)).trap, .int .i64 (runV c zs (steps)).cost, .slice to4 (runV c zs (steps)).told.length tc4] 34 hE
            refine (rRun_any _ lo lc ho hc c (HC.out.old (bthen HL4.out hb5)) ao acap zs (HZ.out.old (bthen HL4.out hb5)).ints.2 (by omega) (steps)).mono ?_
            rintro e w6 ⟨to6, tc6, rfl, hb6, o6⟩
            have hb7 := bthen hb5 hb6
            have HA6 := Lib.hid (HA4.out.old hb7)
            have HX6 := Lib.hid (HX4.out.old hb7)
            have HL6 := Lib.hid (bthen HL4.out hb7)
            have HD6 := Lib.hid (HD4.out.old hb7)
            have HZ6 := Lib.hid (HZ4.out.old hb7)
            have HE6 := Lib.hid (hE5.old hb6)
            have HT6 := Lib.hid (HT4.out.old hb7)
            have HU6 := Lib.hid (show TAt w6 to6 tc6 (runV c zs (steps)).told from (ownsRow_slA o6).2)
            rw [← hE]
            have HEl := Lib.hid hE
            clear hb5 hE5 hb6 hb7 o6 HA4 HX4 HL4 HD4 HZ4 HT4 a0 a1 lB hE
            have HTl := Lib.hid (runV_told c zs (steps))
            generalize runV c zs (steps) = s at HE6 HT6 HU6 HTl
            generalize runE c zs (steps) = er
            unfold resV
            obtain ⟨F, hF⟩ : ∃ F, F = w6.heap.size := ⟨_, rfl⟩
            have lB := HA6.out.lt
            have lD := HX6.out.lt
            have lE := HE6.out.lt
            go_wp2_with fail
            have hb7 := (Below.refl w6.heap.size w6).alloc (Nat.le_refl _) (.cells #[.bool s.ov, .int .i64 s.res, .int .i64 s.trap, .int .i64 s.cost, .slice to6 s.told.length tc6] 38)
            have hF7 := Blk.new' (w := w6) #[.bool s.ov, .int .i64 s.res, .int .i64 s.trap, .int .i64 s.cost, .slice to6 s.told.length tc6] 38 hF
            have HA7 := Lib.hid (HA6.out.old hb7)
            have HX7 := Lib.hid (HX6.out.old hb7)
            have HL7 := Lib.hid (bthen HL6.out hb7)
            have HD7 := Lib.hid (HD6.out.old hb7)
            have HZ7 := Lib.hid (HZ6.out.old hb7)
            have HE7 := Lib.hid (HE6.out.old hb7)
            have HT7 := Lib.hid (HT6.out.old hb7)
            have HU7 := Lib.hid (HU6.out.old hb7)
            have HF7 := Lib.hid hF7
            rw [← hF]
            clear hb7 hF7 HA6 HX6 HL6 HD6 HZ6 HE6 HT6 HU6 hF lB lD lE
            generalize (w6.alloc (.cells #[.bool s.ov, .int .i64 s.res, .int .i64 s.trap, .int .i64 s.cost, .slice to6 s.told.length tc6] 38)) = w7 at HA7 HX7 HL7 HD7 HZ7 HE7 HT7 HU7 HF7 ⊢
            have HCl := Lib.hid (show ∀ w, Below w7.heap.size w7 w → (Below w7.heap.size w7 w ∧ w.cell? ⟨B, 0, none⟩ = some (.slice lo c.l.length lc) ∧ w.cell? ⟨B, 1, none⟩ = some (.slice ho c.h.length hc) ∧ w.cell? ⟨D, 0, none⟩ = some (.slice lo2 c.l.length lc2) ∧ w.cell? ⟨D, 1, none⟩ = some (.slice ho2 c.h.length hc2) ∧
                w.cell? ⟨E, 0, none⟩ = some (.bool s.ov) ∧ w.cell? ⟨E, 1, none⟩ = some (.int .i64 s.res) ∧ w.cell? ⟨E, 2, none⟩ = some (.int .i64 s.trap) ∧ w.cell? ⟨E, 3, none⟩ = some (.int .i64 s.cost) ∧ w.cell? ⟨E, 4, none⟩ = some (.slice to4 s.told.length tc4) ∧
                w.cell? ⟨F, 0, none⟩ = some (.bool s.ov) ∧ w.cell? ⟨F, 1, none⟩ = some (.int .i64 s.res) ∧ w.cell? ⟨F, 2, none⟩ = some (.int .i64 s.trap) ∧ w.cell? ⟨F, 3, none⟩ = some (.int .i64 s.cost) ∧ w.cell? ⟨F, 4, none⟩ = some (.slice to6 s.told.length tc6)) from
              fun w h => ⟨h, (HA7.out.old h).cell 0 rfl, (HA7.out.old h).cell 1 rfl, (HX7.out.old h).cell 0 rfl, (HX7.out.old h).cell 1 rfl, (HE7.out.old h).cell 0 rfl, (HE7.out.old h).cell 1 rfl, (HE7.out.old h).cell 2 rfl, (HE7.out.old h).cell 3 rfl, (HE7.out.old h).cell 4 rfl, (HF7.out.old h).cell 0 rfl, (HF7.out.old h).cell 1 rfl, (HF7.out.old h).cell 2 rfl, (HF7.out.old h).cell 3 rfl, (HF7.out.old h).cell 4 rfl⟩)
            refine wp_mix (fun w => Below w7.heap.size w7 w ∧ w.cell? ⟨B, 0, none⟩ = some (.slice lo c.l.length lc) ∧ w.cell? ⟨B, 1, none⟩ = some (.slice ho c.h.length hc) ∧ w.cell? ⟨D, 0, none⟩ = some (.slice lo2 c.l.length lc2) ∧ w.cell? ⟨D, 1, none⟩ = some (.slice ho2 c.h.length hc2) ∧ w.cell? ⟨E, 0, none⟩ = some (.bool s.ov) ∧ w.cell? ⟨E, 1, none⟩ = some (.int .i64 s.res) ∧ w.cell? ⟨E, 2, none⟩ = some (.int .i64 s.trap) ∧ w.cell? ⟨E, 3, none⟩ = some (.int .i64 s.cost) ∧ w.cell? ⟨E, 4, none⟩ = some (.slice to4 s.told.length tc4) ∧ w.cell? ⟨F, 0, none⟩ = some (.bool s.ov) ∧ w.cell? ⟨F, 1, none⟩ = some (.int .i64 s.res) ∧ w.cell? ⟨F, 2, none⟩ = some (.int .i64 s.trap) ∧ w.cell? ⟨F, 3, none⟩ = some (.int .i64 s.cost) ∧ w.cell? ⟨F, 4, none⟩ = some (.slice to6 s.told.length tc6)) [false, false, true, false, false, false, false, false, false, false, false, false, true, true, false, false] (by kernel_rfl) (by kernel_rfl) (by intro c a d v w h; cases d <;> exact h) (HCl.out w7.drew (Below.refl _ _).drew) ?_
            repeat (refine wpMix_plain ?_; (first | (apply Exists.intro; refine ⟨Or.inl ⟨by rfl, ?_⟩, ?_⟩; focus (intro w hSw; (try dsimp only at hSw); go_simp; (try with_reducible rfl); done)) | (refine ⟨_, Or.inr ⟨by rfl, rfl⟩, ?_⟩)); (try simp only [Act.put, List.setIfInBounds_toArray, List.set_cons_zero, List.set_cons_succ]))
            refine wpMix_one _ (by rfl) (by rfl) fun K hK => ?_
            go_simp
            refine (same_ok _ s to4 tc4 to6 tc6 (HT7.out.old (Below.refl _ _).drew) (HU7.out.old (Below.refl _ _).drew) HTl.out).mono ?_
            rintro e w8 ⟨rfl, hb8⟩
            have HL8 := Lib.hid (show Below w7.heap.size w7 w8 from bthen (Below.refl _ w7).drew hb8)
            clear hb8
            go_simp
            refine hK _ _ (HCl.out w8 HL8.out) ?_
            clear hK K
            repeat (refine wpMix_plain ?_; (first | (apply Exists.intro; refine ⟨Or.inl ⟨by rfl, ?_⟩, ?_⟩; focus (intro w hSw; (try dsimp only at hSw); go_simp; (try with_reducible rfl); done)) | (refine ⟨_, Or.inr ⟨by rfl, rfl⟩, ?_⟩)); (try simp only [Act.put, List.setIfInBounds_toArray, List.set_cons_zero, List.set_cons_succ]))
            refine wpMix_one _ (by rfl) (by rfl) fun K hK => ?_
            go_simp
            refine (from_any _ lo2 lc2 ho2 hc2 c (HD7.out.old HL8.out) HLen.out.1 HLen.out.2).mono ?_
            rintro e w9 ⟨lo9, lc9, ho9, hc9, rfl, hb9, o9, p9⟩
            have HL9 := Lib.hid (bthen HL8.out hb9)
            have HD9 := Lib.hid (show CdAt w9 lo9 lc9 ho9 hc9 c from ⟨(ownsRow_slA o9).2, (ownsRow_slA p9).2⟩)
            clear hb9 o9 p9
            go_simp
            refine hK _ _ (HCl.out w9 HL9.out) ?_
            clear hK K
            refine wpMix_one _ (by rfl) (by rfl) fun K hK => ?_
            go_simp
            refine (requal_ok _ lo lc ho hc lo9 lc9 ho9 hc9 c (HC.out.old (bthen HL7.out HL9.out)) HD9.out (by have := HLen.out.1; omega) (by have := HLen.out.2; omega)).mono ?_
            rintro e w10 ⟨rfl, hb10⟩
            have HL10 := Lib.hid (bthen HL9.out hb10)
            clear hb10
            go_simp
            refine hK _ _ (HCl.out w10 HL10.out) ?_
            clear hK K
            repeat (refine wpMix_plain ?_; (first | (apply Exists.intro; refine ⟨Or.inl ⟨by rfl, ?_⟩, ?_⟩; focus (intro w hSw; (try dsimp only at hSw); go_simp; (try with_reducible rfl); done)) | (refine ⟨_, Or.inr ⟨by rfl, rfl⟩, ?_⟩)); (try simp only [Act.put, List.setIfInBounds_toArray, List.set_cons_zero, List.set_cons_succ]))
            refine wpMix_nil ?_
            have HB10 := Lib.hid (bthen HL7.out HL10.out)
            have HZ10 := Lib.hid (HZ7.out.old HL10.out)
            clear HCl HL10 HL9 HL8 HD9 HA7 HX7 HL7 HD7 HZ7 HE7 HT7 HU7 HF7
            go_wp2_with fail
            go_loopw [13] (fun i wr => ∃ (k : Nat), k ≤ zs.length ∧ i = .int .i64 k ∧ Below w10.heap.size w10 wr) (fun i _ => zs.length - (intOf i).toNat)
            case atStart => exact ⟨0, by omega, rfl, Below.refl _ _⟩
            case round =>
              obtain ⟨k, hk, rfl, hbel⟩ := hrel
              have HL := Lib.hid hbel
              clear hbel
              by_cases hkl : k < zs.length
              · obtain ⟨ad, ha, e0⟩ := sla_int (HZ10.out.old HL.out) hkl
                obtain ⟨ad2, ha2, d0⟩ := sla_int (HZ.out.old (bthen HB10.out HL.out)) hkl
                generalize zs.getD k 0 = x at e0 d0
                have HAd := Lib.hid ha
                have HAd2 := Lib.hid ha2
                subst ha ha2
                have hkl2 : (k : Int) < zs.length := by omega
                go_wp2_with fail
                refine wp_still_all (by kernel_rfl) (by kernel_rfl) ?_
                repeat still_step
                refine wpStill_nil ?_
                clear e0 d0
                go_wp2_with fail
                exact ⟨⟨k + 1, by omega, by go_num, HL.out.drew⟩, by show zs.length - ((k : Int) + 1).toNat < zs.length - (k : Int).toNat; omega⟩
              · go_wp2_with (first | (go_at_call 9; refine (sane_any _).mono ?_; rintro e w11 ⟨rfl, hb11⟩))
                go_ret
                exact ⟨rfl, bthen (bthen HB10.out HL.out) hb11⟩
          --E
        · clear hs
          --T steps
          as_aux_lemma =>
            go_wp2_with fail
            refine (to_any _ lo lc ho hc c (HC.out.old HL1.out) HLen.out.1 HLen.out.2).mono ?_
            rintro e w2 ⟨lo2, lc2, ho2, hc2, rfl, hb2, o2, p2⟩
            have HA2 := Lib.hid (HA1.out.old hb2)
            have HL2 := Lib.hid (bthen HL1.out hb2)
            have HD2 := Lib.hid (show CdAt w2 lo2 lc2 ho2 hc2 c from ⟨(ownsRow_slA o2).2, (ownsRow_slA p2).2⟩)
            clear hb2 o2 p2 a0 a1 HA1 HL1
            obtain ⟨D, hD⟩ : ∃ D, D = w2.heap.size := ⟨_, rfl⟩
            have HO := Lib.hid (show ((w2.alloc (.cells #[.slice lo2 c.l.length lc2, .slice ho2 c.h.length hc2] 30)).alloc (.cells #[] 3)).ownsRow (w2.heap.size + 1) 3 1 (.slice (some ⟨w2.heap.size + 1, 0, none⟩) 0 0) 0 [] by
              have := World.ownsRow_made (e := 3) (size := 1) (w2.alloc (.cells #[.slice lo2 c.l.length lc2, .slice ho2 c.h.length hc2] 30)) #[] 0 (Nat.le_refl _) (by decide) rfl
              rw [show (w2.alloc (.cells #[.slice lo2 c.l.length lc2, .slice ho2 c.h.length hc2] 30)).heap.size = w2.heap.size + 1 by simp] at this
              exact this)
            go_wp2_with (first
              | (at_builtin; refine wpList_append_sl rfl (.tmp 30) (.tmp 31) 23 rfl (w2.heap.size + 1) 3 1 8 elInt (.slice (some ⟨w2.heap.size + 1, 0, none⟩) 0 0) 0 [] rfl HO.out ao zs.length acap (zs.map (.int .i64)) rfl (((HZ.out.old HL2.out).alloc _).alloc _) (one_cells _) (by omega) (by unfold maxLen; omega) (by simp) ?_
                 intro ao3 cap3 w3 hown3 hg3
                 simp only [Nat.zero_add, List.nil_append] at hown3 ⊢
                 have HG3 := Lib.hid (And.intro hown3 hg3)
                 have hb3 := (((Below.refl w2.heap.size w2).alloc (Nat.le_refl _) (.cells #[.slice lo2 c.l.length lc2, .slice ho2 c.h.length hc2] 30)).alloc (by simp) (.cells #[] 3)).grown hg3 (by simp; omega) (by intro k hk; simp [Value.ownBlock] at hk; omega)
                 have hX3 := ((Blk.new' (w := w2) #[.slice lo2 c.l.length lc2, .slice ho2 c.h.length hc2] 30 hD).alloc (.cells #[] 3)).grown hg3 (by simp [Value.ownBlock]; omega)
                 have HA3 := Lib.hid (HA2.out.old hb3)
                 have HL3 := Lib.hid (bthen HL2.out hb3)
                 have HD3 := Lib.hid (HD2.out.old hb3)
                 have HX3 := Lib.hid hX3
                 have HZ3 := Lib.hid (ownsRow_slA hown3).2
                 have d0 := hX3.cell 0 rfl
                 have d1 := hX3.cell 1 rfl
                 rw [hD] at d0 d1
                 clear hown3 hg3 hb3 hX3 HO HA2 HD2))
            rw [← hD]
            have HDl := Lib.hid hD
            clear hD HL2 d0 d1
            refine (Run_any w3 lo2 lc2 ho2 hc2 c HD3.out ao3 cap3 zs HZ3.out.ints.2 (fun h => (HZ3.out.2.1 h).2) (by omega) (steps)).mono ?_
            rintro e w4 ⟨to4, tc4, rfl, hb4, o4⟩
            have HA4 := Lib.hid (HA3.out.old hb4)
            have HX4 := Lib.hid (HX3.out.old hb4)
            have HL4 := Lib.hid (bthen HL3.out hb4)
            have HD4 := Lib.hid (HD3.out.old hb4)
            have HZ4 := Lib.hid (HZ3.out.old hb4)
            have HT4 := Lib.hid (show TAt w4 to4 tc4 (runV c zs (steps)).told from (ownsRow_slA o4).2)
            clear hb4 o4 HA3 HX3 HL3 HD3 HZ3
            unfold resV
            have a0 : w4.cell? ⟨B, 0, none⟩ = some (.slice lo c.l.length lc) := HA4.out.cell 0 rfl
            have a1 : w4.cell? ⟨B, 1, none⟩ = some (.slice ho c.h.length hc) := HA4.out.cell 1 rfl
            have lB := HA4.out.lt
            obtain ⟨E, hE⟩ : ∃ E, E = w4.heap.size := ⟨_, rfl⟩
            go_wp2_with fail
            have hb5 := (Below.refl w4.heap.size w4).alloc (Nat.le_refl _) (.cells #[.bool (runV c zs (steps)).ov, .int .i64 (runV c zs (steps)).res, .int .i64 (runV c zs (steps)).trap, .int .i64 (runV c zs (steps)).cost, .slice to4 (runV c zs (steps)).told.length tc4] 34)
            have hE5 := Blk.new' (w := w4) #[.bool (runV c zs (steps)).ov, .int .i64 (runV c zs (steps)).res, .int .i64 (runV c zs (steps)).trap, .int .i64 (runV c zs (steps)).cost, .slice to4 (runV c zs (steps)).told.length tc4] 34 hE
            refine (rRun_any _ lo lc ho hc c (HC.out.old (bthen HL4.out hb5)) ao acap zs (HZ.out.old (bthen HL4.out hb5)).ints.2 (by omega) (steps)).mono ?_
            rintro e w6 ⟨to6, tc6, rfl, hb6, o6⟩
            have hb7 := bthen hb5 hb6
            have HA6 := Lib.hid (HA4.out.old hb7)
            have HX6 := Lib.hid (HX4.out.old hb7)
            have HL6 := Lib.hid (bthen HL4.out hb7)
            have HD6 := Lib.hid (HD4.out.old hb7)
            have HZ6 := Lib.hid (HZ4.out.old hb7)
            have HE6 := Lib.hid (hE5.old hb6)
            have HT6 := Lib.hid (HT4.out.old hb7)
            have HU6 := Lib.hid (show TAt w6 to6 tc6 (runV c zs (steps)).told from (ownsRow_slA o6).2)
            rw [← hE]
            have HEl := Lib.hid hE
            clear hb5 hE5 hb6 hb7 o6 HA4 HX4 HL4 HD4 HZ4 HT4 a0 a1 lB hE
            have HTl := Lib.hid (runV_told c zs (steps))
            generalize runV c zs (steps) = s at HE6 HT6 HU6 HTl
            generalize runE c zs (steps) = er
            unfold resV
            obtain ⟨F, hF⟩ : ∃ F, F = w6.heap.size := ⟨_, rfl⟩
            have lB := HA6.out.lt
            have lD := HX6.out.lt
            have lE := HE6.out.lt
            go_wp2_with fail
            have hb7 := (Below.refl w6.heap.size w6).alloc (Nat.le_refl _) (.cells #[.bool s.ov, .int .i64 s.res, .int .i64 s.trap, .int .i64 s.cost, .slice to6 s.told.length tc6] 38)
            have hF7 := Blk.new' (w := w6) #[.bool s.ov, .int .i64 s.res, .int .i64 s.trap, .int .i64 s.cost, .slice to6 s.told.length tc6] 38 hF
            have HA7 := Lib.hid (HA6.out.old hb7)
            have HX7 := Lib.hid (HX6.out.old hb7)
            have HL7 := Lib.hid (bthen HL6.out hb7)
            have HD7 := Lib.hid (HD6.out.old hb7)
            have HZ7 := Lib.hid (HZ6.out.old hb7)
            have HE7 := Lib.hid (HE6.out.old hb7)
            have HT7 := Lib.hid (HT6.out.old hb7)
            have HU7 := Lib.hid (HU6.out.old hb7)
            have HF7 := Lib.hid hF7
            rw [← hF]
            clear hb7 hF7 HA6 HX6 HL6 HD6 HZ6 HE6 HT6 HU6 hF lB lD lE
            generalize (w6.alloc (.cells #[.bool s.ov, .int .i64 s.res, .int .i64 s.trap, .int .i64 s.cost, .slice to6 s.told.length tc6] 38)) = w7 at HA7 HX7 HL7 HD7 HZ7 HE7 HT7 HU7 HF7 ⊢
            have HCl := Lib.hid (show ∀ w, Below w7.heap.size w7 w → (Below w7.heap.size w7 w ∧ w.cell? ⟨B, 0, none⟩ = some (.slice lo c.l.length lc) ∧ w.cell? ⟨B, 1, none⟩ = some (.slice ho c.h.length hc) ∧ w.cell? ⟨D, 0, none⟩ = some (.slice lo2 c.l.length lc2) ∧ w.cell? ⟨D, 1, none⟩ = some (.slice ho2 c.h.length hc2) ∧
                w.cell? ⟨E, 0, none⟩ = some (.bool s.ov) ∧ w.cell? ⟨E, 1, none⟩ = some (.int .i64 s.res) ∧ w.cell? ⟨E, 2, none⟩ = some (.int .i64 s.trap) ∧ w.cell? ⟨E, 3, none⟩ = some (.int .i64 s.cost) ∧ w.cell? ⟨E, 4, none⟩ = some (.slice to4 s.told.length tc4) ∧
                w.cell? ⟨F, 0, none⟩ = some (.bool s.ov) ∧ w.cell? ⟨F, 1, none⟩ = some (.int .i64 s.res) ∧ w.cell? ⟨F, 2, none⟩ = some (.int .i64 s.trap) ∧ w.cell? ⟨F, 3, none⟩ = some (.int .i64 s.cost) ∧ w.cell? ⟨F, 4, none⟩ = some (.slice to6 s.told.length tc6)) from
              fun w h => ⟨h, (HA7.out.old h).cell 0 rfl, (HA7.out.old h).cell 1 rfl, (HX7.out.old h).cell 0 rfl, (HX7.out.old h).cell 1 rfl, (HE7.out.old h).cell 0 rfl, (HE7.out.old h).cell 1 rfl, (HE7.out.old h).cell 2 rfl, (HE7.out.old h).cell 3 rfl, (HE7.out.old h).cell 4 rfl, (HF7.out.old h).cell 0 rfl, (HF7.out.old h).cell 1 rfl, (HF7.out.old h).cell 2 rfl, (HF7.out.old h).cell 3 rfl, (HF7.out.old h).cell 4 rfl⟩)
            refine wp_mix (fun w => Below w7.heap.size w7 w ∧ w.cell? ⟨B, 0, none⟩ = some (.slice lo c.l.length lc) ∧ w.cell? ⟨B, 1, none⟩ = some (.slice ho c.h.length hc) ∧ w.cell? ⟨D, 0, none⟩ = some (.slice lo2 c.l.length lc2) ∧ w.cell? ⟨D, 1, none⟩ = some (.slice ho2 c.h.length hc2) ∧ w.cell? ⟨E, 0, none⟩ = some (.bool s.ov) ∧ w.cell? ⟨E, 1, none⟩ = some (.int .i64 s.res) ∧ w.cell? ⟨E, 2, none⟩ = some (.int .i64 s.trap) ∧ w.cell? ⟨E, 3, none⟩ = some (.int .i64 s.cost) ∧ w.cell? ⟨E, 4, none⟩ = some (.slice to4 s.told.length tc4) ∧ w.cell? ⟨F, 0, none⟩ = some (.bool s.ov) ∧ w.cell? ⟨F, 1, none⟩ = some (.int .i64 s.res) ∧ w.cell? ⟨F, 2, none⟩ = some (.int .i64 s.trap) ∧ w.cell? ⟨F, 3, none⟩ = some (.int .i64 s.cost) ∧ w.cell? ⟨F, 4, none⟩ = some (.slice to6 s.told.length tc6)) [false, false, true, false, false, false, false, false, false, false, false, false, true, true, false, false] (by kernel_rfl) (by kernel_rfl) (by intro c a d v w h; cases d <;> exact h) (HCl.out w7.drew (Below.refl _ _).drew) ?_
            repeat (refine wpMix_plain ?_; (first | (apply Exists.intro; refine ⟨Or.inl ⟨by rfl, ?_⟩, ?_⟩; focus (intro w hSw; (try dsimp only at hSw); go_simp; (try with_reducible rfl); done)) | (refine ⟨_, Or.inr ⟨by rfl, rfl⟩, ?_⟩)); (try simp only [Act.put, List.setIfInBounds_toArray, List.set_cons_zero, List.set_cons_succ]))
            refine wpMix_one _ (by rfl) (by rfl) fun K hK => ?_
            go_simp
            refine (same_ok _ s to4 tc4 to6 tc6 (HT7.out.old (Below.refl _ _).drew) (HU7.out.old (Below.refl _ _).drew) HTl.out).mono ?_
            rintro e w8 ⟨rfl, hb8⟩
            have HL8 := Lib.hid (show Below w7.heap.size w7 w8 from bthen (Below.refl _ w7).drew hb8)
            clear hb8
            go_simp
            refine hK _ _ (HCl.out w8 HL8.out) ?_
            clear hK K
            repeat (refine wpMix_plain ?_; (first | (apply Exists.intro; refine ⟨Or.inl ⟨by rfl, ?_⟩, ?_⟩; focus (intro w hSw; (try dsimp only at hSw); go_simp; (try with_reducible rfl); done)) | (refine ⟨_, Or.inr ⟨by rfl, rfl⟩, ?_⟩)); (try simp only [Act.put, List.setIfInBounds_toArray, List.set_cons_zero, List.set_cons_succ]))
            refine wpMix_one _ (by rfl) (by rfl) fun K hK => ?_
            go_simp
            refine (from_any _ lo2 lc2 ho2 hc2 c (HD7.out.old HL8.out) HLen.out.1 HLen.out.2).mono ?_
            rintro e w9 ⟨lo9, lc9, ho9, hc9, rfl, hb9, o9, p9⟩
            have HL9 := Lib.hid (bthen HL8.out hb9)
            have HD9 := Lib.hid (show CdAt w9 lo9 lc9 ho9 hc9 c from ⟨(ownsRow_slA o9).2, (ownsRow_slA p9).2⟩)
            clear hb9 o9 p9
            go_simp
            refine hK _ _ (HCl.out w9 HL9.out) ?_
            clear hK K
            refine wpMix_one _ (by rfl) (by rfl) fun K hK => ?_
            go_simp
            refine (requal_ok _ lo lc ho hc lo9 lc9 ho9 hc9 c (HC.out.old (bthen HL7.out HL9.out)) HD9.out (by have := HLen.out.1; omega) (by have := HLen.out.2; omega)).mono ?_
            rintro e w10 ⟨rfl, hb10⟩
            have HL10 := Lib.hid (bthen HL9.out hb10)
            clear hb10
            go_simp
            refine hK _ _ (HCl.out w10 HL10.out) ?_
            clear hK K
            repeat (refine wpMix_plain ?_; (first | (apply Exists.intro; refine ⟨Or.inl ⟨by rfl, ?_⟩, ?_⟩; focus (intro w hSw; (try dsimp only at hSw); go_simp; (try with_reducible rfl); done)) | (refine ⟨_, Or.inr ⟨by rfl, rfl⟩, ?_⟩)); (try simp only [Act.put, List.setIfInBounds_toArray, List.set_cons_zero, List.set_cons_succ]))
            refine wpMix_nil ?_
            have HB10 := Lib.hid (bthen HL7.out HL10.out)
            have HZ10 := Lib.hid (HZ7.out.old HL10.out)
            clear HCl HL10 HL9 HL8 HD9 HA7 HX7 HL7 HD7 HZ7 HE7 HT7 HU7 HF7
            go_wp2_with fail
            go_loopw [13] (fun i wr => ∃ (k : Nat), k ≤ zs.length ∧ i = .int .i64 k ∧ Below w10.heap.size w10 wr) (fun i _ => zs.length - (intOf i).toNat)
            case atStart => exact ⟨0, by omega, rfl, Below.refl _ _⟩
            case round =>
              obtain ⟨k, hk, rfl, hbel⟩ := hrel
              have HL := Lib.hid hbel
              clear hbel
              by_cases hkl : k < zs.length
              · obtain ⟨ad, ha, e0⟩ := sla_int (HZ10.out.old HL.out) hkl
                obtain ⟨ad2, ha2, d0⟩ := sla_int (HZ.out.old (bthen HB10.out HL.out)) hkl
                generalize zs.getD k 0 = x at e0 d0
                have HAd := Lib.hid ha
                have HAd2 := Lib.hid ha2
                subst ha ha2
                have hkl2 : (k : Int) < zs.length := by omega
                go_wp2_with fail
                refine wp_still_all (by kernel_rfl) (by kernel_rfl) ?_
                repeat still_step
                refine wpStill_nil ?_
                clear e0 d0
                go_wp2_with fail
                exact ⟨⟨k + 1, by omega, by go_num, HL.out.drew⟩, by show zs.length - ((k : Int) + 1).toNat < zs.length - (k : Int).toNat; omega⟩
              · go_wp2_with (first | (go_at_call 9; refine (sane_any _).mono ?_; rintro e w11 ⟨rfl, hb11⟩))
                go_ret
                exact ⟨rfl, bthen (bthen HB10.out HL.out) hb11⟩
          --E
  · go_wp2_with (first | (go_at_call 9; refine (sane_any _).mono ?_; rintro e w2 ⟨rfl, hb2⟩))
    go_ret
    exact ⟨rfl, bthen HL1.out hb2⟩

end Go.Proofs.Ytignlfcjlbijaaa
