/- The law's 'from': 'to' with the sides changed. (printed by gen_reg.py) -/
import Derived.Test.YtignlfcjlbijaaaRa
namespace Go.Proofs.Ytignlfcjlbijaaa
open Go.RowKit
theorem elRef : El Try.prog 22 60 4 32 := El.mk' (z := .agg #[.int .i64 0, .int .i64 0, .int .i64 0, .int .i64 0]) rfl (by kernel_rfl) (by kernel_rfl) (by decide)

set_option maxHeartbeats 4000000 in
theorem from_any (W : World) (lo : Option Addr) (lc : Nat) (ho : Option Addr) (hc : Nat) (c : Cd) (hcd : CdAt W lo lc ho hc c) (hl : c.l.length ≤ 2000) (hh : c.h.length ≤ 2000) :
    Calls Try.prog 15 #[.agg #[.slice lo c.l.length lc, .slice ho c.h.length hc]] W fun e w' => ∃ lo' lc' ho' hc', e = .returned (.agg #[.slice lo' c.l.length lc', .slice ho' c.h.length hc']) ∧ Below W.heap.size W w' ∧
      w'.ownsRow W.heap.size 60 4 (.slice lo' c.l.length lc') c.l.length (flat c.l) ∧ w'.ownsRow W.heap.size 3 1 (.slice ho' c.h.length hc') c.h.length (c.h.map (Value.int .i64)) := by
  obtain ⟨B, hB⟩ : ∃ B, B = W.heap.size := ⟨_, rfl⟩
  go_enter Try.func15, Try.ntmps15
  go_wp2
  have H := Lib.hid (show ∃ w1, w1 = (((W.alloc (.cells #[.slice lo c.l.length lc, .slice ho c.h.length hc] 30)).alloc (.cells #[.slice none 0 0, .slice none 0 0] 25)).alloc (.cells #[.slice none 0 0, .slice none 0 0] 25)) ∧ Blk w1 B #[.slice lo c.l.length lc, .slice ho c.h.length hc] 30 ∧ Blk w1 (B+1) #[.slice none 0 0, .slice none 0 0] 25 ∧ Blk w1 (B+1+1) #[.slice none 0 0, .slice none 0 0] 25 ∧ Below W.heap.size W w1 from
    ⟨_, rfl, ((Blk.new' _ _ hB).alloc _).alloc _, (Blk.new' _ _ (by simp [hB])).alloc _, Blk.new' _ _ (by simp [hB]), (((Below.refl _ _).alloc (Nat.le_refl _) _).alloc (by simp) _).alloc (by simp; omega) _⟩)
  rw [← hB]
  obtain ⟨w1, hw1, H⟩ := H.out
  change Code.wp _ _ _ _ (((W.alloc (.cells #[.slice lo c.l.length lc, .slice ho c.h.length hc] 30)).alloc (.cells #[.slice none 0 0, .slice none 0 0] 25)).alloc (.cells #[.slice none 0 0, .slice none 0 0] 25))
  rw [← hw1]
  clear hw1
  have HB := Lib.hid hB
  have HC := Lib.hid hcd
  clear hB hcd
  go_loopw [4] (fun i wr => ∃ (k : Nat) (ao : Option Addr) (cap : Nat), k ≤ c.l.length ∧ i = .int .i64 k ∧ Blk wr B #[.slice lo c.l.length lc, .slice ho c.h.length hc] 30 ∧ Blk wr (B+1) #[.slice none 0 0, .slice none 0 0] 25 ∧ Blk wr (B+1+1) #[.slice ao k cap, .slice none 0 0] 25 ∧ Below W.heap.size W wr ∧ wr.ownsRow (B+1+1+1) 60 4 (.slice ao k cap) k (flat (c.l.take k))) (fun i _ => c.l.length - (intOf i).toNat)
  case atStart => exact ⟨0, none, 0, by omega, rfl, H.1, H.2.1, H.2.2.1, H.2.2.2, ⟨rfl, .inl ⟨rfl, rfl⟩⟩⟩
  case round =>
    obtain ⟨k, ao, cap, hk, rfl, hA, hBb, hC, hbel, hown⟩ := hrel
    have HA := Lib.hid hA
    have HBB := Lib.hid hBb
    have HC' := Lib.hid hC
    have HL := Lib.hid hbel
    have HO := Lib.hid hown
    have c1 : wr.cell? ⟨B, 0, none⟩ = some (.slice lo c.l.length lc) := hA.cell 0 rfl
    have c2 : wr.cell? ⟨B+1+1, 0, none⟩ = some (.slice ao k cap) := hC.cell 0 rfl
    have f2 := hC.frozen 0
    clear hA hBb hC hbel hown H
    by_cases hkl : k < c.l.length
    · obtain ⟨ad, rfl, e0, e1, e2, e3⟩ := (HC.out.old HL.out).l.cell hkl
      generalize hx : c.l.getD k default = x at e0 e1 e2 e3
      have HX := Lib.hid hx
      clear hx
      go_wp2
      refine wp_held_tail (fun w => w.cell? ⟨B, 0, none⟩ = some (.slice (some ad) c.l.length lc) ∧ w.cell? ⟨B+1+1, 0, none⟩ = some (.slice ao k cap) ∧ w.cell? (ad.add (k * 4)) = some (.int .i64 x.d) ∧ w.cell? ⟨(ad.add (k * 4)).block, (ad.add (k * 4)).off + 1, none⟩ = some (.int .i64 x.a) ∧ w.cell? ⟨(ad.add (k * 4)).block, (ad.add (k * 4)).off + 2, none⟩ = some (.int .i64 x.b) ∧ w.cell? ⟨(ad.add (k * 4)).block, (ad.add (k * 4)).off + 3, none⟩ = some (.int .i64 x.c)) 7 (by kernel_rfl) (by kernel_rfl) (by intro c a d v w h; cases d <;> exact h) ⟨c1, c2, e0, e1, e2, e3⟩ ?_
      simp only [List.take_succ_cons, List.take_zero, List.drop_succ_cons, List.drop_zero]
      repeat ((first | (apply Exists.intro; refine ⟨Or.inl ⟨by rfl, ?_⟩, ?_⟩; focus (intro w hSw; (try dsimp only at hSw); go_simp; (try with_reducible rfl); done)) | (refine ⟨_, Or.inr ⟨by rfl, rfl⟩, ?_⟩)); (try simp only [Act.put, List.setIfInBounds_toArray, List.set_cons_zero, List.set_cons_succ]))
      refine wpHead_mid _ (by rfl) (by rfl) fun K hK => ?_
      go_simp
      refine hK _ _ ?_
      clear hK K
      refine ⟨⟨cell_alloc c1 _, cell_alloc c2 _, cell_alloc e0 _, cell_alloc e1 _, cell_alloc e2 _, cell_alloc e3 _⟩, ?_⟩
      have hlt : k + 1 ≤ 2000 := by omega
      have hsz : B + 1 + 1 + 1 ≤ wr.heap.size := HC'.out.lt
      refine wpList_append_sl rfl (.tmp 13) (.tmp 19) 22 rfl (B+1+1+1) 60 4 32 elRef (.slice ao k cap) k (flat (c.l.take k)) rfl (HO.out.alloc _) _ 1 1 (flat [x]) rfl (sla_built wr.drew #[.int .i64 x.d, .int .i64 x.a, .int .i64 x.b, .int .i64 x.c] 60 rfl) (flat_one _) (by omega) (by unfold maxLen; omega) (by simp; omega) ?_
      intro ao' cap' w2 hown2 hg2
      rw [← flat_append, ← HX.out, ← take_snocI _ _ hkl] at hown2
      have hA2 := Lib.hid (((HA.out.alloc _).drew).grown hg2 (own_ne HO.out (by omega)))
      have hB2 := Lib.hid (((HBB.out.alloc _).drew).grown hg2 (own_ne HO.out (by omega)))
      have hC2 := Lib.hid (((HC'.out.alloc _).drew).grown hg2 (own_ne HO.out (by omega)))
      have hL2 := Lib.hid (((HL.out.alloc (HL.out.size) _).drew).grown hg2 (by have := HL.out.size; simp; omega) (fun j hj => by have := (HO.out.lt j hj).1; have := HB.out; omega))
      have hO2 := Lib.hid hown2
      have c2 : w2.cell? ⟨B+1+1, 0, none⟩ = some (.slice ao k cap) := hC2.out.cell 0 rfl
      have f2 := hC2.out.frozen 0
      have l2 := hC2.out.lt
      clear hown2 hg2 c1 e0 e1 e2 e3
      go_wp2
      go_roundw
      case rel => exact ⟨k + 1, ao', cap', by omega, by go_num, hA2.out.other (by show B ≠ B + 1 + 1; omega) _, hB2.out.other (by show B + 1 ≠ B + 1 + 1; omega) _, hC2.out.set 0 _, hL2.out.setCell (by have := HB.out; show _ ≤ B + 1 + 1; omega) _, ownsRow_setCell_below hO2.out (by show B + 1 + 1 < _; omega) _⟩
      case measure => simp [intOf]; omega
    · have hke : k = c.l.length := by omega
      subst hke
      rw [List.take_length] at HO
      have d1 : wr.cell? ⟨B+1+1, 1, none⟩ = some (.slice none 0 0) := HC'.out.cell 1 rfl
      have d2 : wr.cell? ⟨B, 1, none⟩ = some (.slice ho c.h.length hc) := HA.out.cell 1 rfl
      have d3 := HC'.out.frozen 1
      have HH := Lib.hid (HC.out.old HL.out).h
      have hsz : B + 1 + 1 + 1 ≤ wr.heap.size := HC'.out.lt
      go_wp2_with (first
        | (at_builtin; refine wpList_append_sl rfl (.tmp 23) (.tmp 25) 23 rfl (B+1+1+1) 3 1 8 elInt (.slice none 0 0) 0 [] rfl (World.ownsRow_nil _ _ _ _) _ c.h.length hc (c.h.map (.int .i64)) rfl HH.out (by intro u hu; obtain ⟨z, _, rfl⟩ := List.mem_map.1 hu; rfl) (by omega) (by unfold maxLen; omega) hsz ?_; intro ao' cap' w2 hown2 hg2; simp only [Nat.zero_add, List.nil_append] at hown2;
           have hB2 := Lib.hid (HBB.out.grown hg2 (by simp [Value.ownBlock])); have hC2 := Lib.hid (HC'.out.grown hg2 (by simp [Value.ownBlock])); have hL2 := Lib.hid (HL.out.grown hg2 HL.out.size (by simp [Value.ownBlock]));
           have hO2 := Lib.hid hown2; have hP2 := Lib.hid (HO.out.kept hg2 (by
             rcases h : (Value.slice ao c.l.length cap).ownBlock with _ | q
             · exact .inl rfl
             · exact .inr (by simp [Value.ownBlock]))); clear hown2 hg2 hsz;
           have c20 : w2.cell? ⟨B+1+1, 0, none⟩ = some (.slice ao c.l.length cap) := hC2.out.cell 0 rfl; have f21 := hC2.out.frozen 1; have g20 := hB2.out.frozen 0; have g21 := hB2.out.frozen 1; have l2 := hC2.out.lt; have l3 := hB2.out.lt;
           have x21 : w2.cell? ⟨B+1+1, 1, none⟩ = some (.slice none 0 0) := hC2.out.cell 1 rfl; have y20 : w2.cell? ⟨B+1, 0, none⟩ = some (.slice none 0 0) := hB2.out.cell 0 rfl; have y21 : w2.cell? ⟨B+1, 1, none⟩ = some (.slice none 0 0) := hB2.out.cell 1 rfl))
      have hq : Blk (((w2.setCell ⟨B+1+1, 1, none⟩ (.slice ao' c.h.length cap')).setCell ⟨B+1, 0, none⟩ (.slice ao c.l.length cap)).setCell ⟨B+1, 1, none⟩ (.slice ao' c.h.length cap')) (B+1) #[.slice ao c.l.length cap, .slice ao' c.h.length cap'] 25 := ((hB2.out.other (by show B + 1 ≠ B + 1 + 1; omega) _).set 0 _).set 1 _
      have q0 : _ = some (Value.slice ao c.l.length cap) := hq.cell 0 rfl
      have q1 : _ = some (Value.slice ao' c.h.length cap') := hq.cell 1 rfl
      refine bodyPost_ret (v := .agg #[.slice ao c.l.length cap, .slice ao' c.h.length cap']) (by simp [results, Try.results15, go_sem, q0, q1]) rfl ⟨ao, cap, ao', cap', rfl, ?_, ?_, ?_⟩
      · have := HB.out
        exact ((hL2.out.setCell (by show _ ≤ B + 1 + 1; omega) _).setCell (by show _ ≤ B + 1; omega) _).setCell (by show _ ≤ B + 1; omega) _
      · exact own_mono (base := B+1+1+1) (ownsRow_setCell_below (ownsRow_setCell_below (ownsRow_setCell_below hP2.out (by show B + 1 + 1 < _; omega) _) (by show B + 1 < _; omega) _) (by show B + 1 < _; omega) _) (by have := HB.out; omega)
      · exact own_mono (base := B+1+1+1) (ownsRow_setCell_below (ownsRow_setCell_below (ownsRow_setCell_below hO2.out (by show B + 1 + 1 < _; omega) _) (by show B + 1 < _; omega) _) (by show B + 1 < _; omega) _) (by have := HB.out; omega)

end Go.Proofs.Ytignlfcjlbijaaa
