/- same and alike of equal results, and the reference's Equal of equal codes. -/
import Derived.Test.YtignlfcjlbijaaaRo
namespace Go.Proofs.Ytignlfcjlbijaaa
open Go.RowKit

set_option maxHeartbeats 4000000 in
set_option maxRecDepth 100000 in
theorem same_ok (W : World) (s : RS) (to : Option Addr) (tc : Nat) (so : Option Addr) (sc : Nat) (h1 : TAt W to tc s.told) (h2 : TAt W so sc s.told) (hl : s.told.length ≤ 1000000) :
    Calls Try.prog 13 #[resV s (.slice to s.told.length tc), resV s (.slice so s.told.length sc)] W fun e w' => e = .returned (.bool true) ∧ Below W.heap.size W w' := by
  have H1 := Lib.hid h1
  have H2 := Lib.hid h2
  clear h1 h2
  obtain ⟨ws, at_, ov, res, trap, cost, told⟩ := s
  unfold resV
  dsimp only at *
  go_enter Try.func13, Try.ntmps13
  go_wp2_with fail
  have hb : Below W.heap.size W ((W.alloc (.cells #[.bool ov, .int .i64 res, .int .i64 trap, .int .i64 cost, .slice to told.length tc] 34)).alloc (.cells #[.bool ov, .int .i64 res, .int .i64 trap, .int .i64 cost, .slice so told.length sc] 38)) := ((Below.refl _ _).alloc (Nat.le_refl _) _).alloc (by simp) _
  refine (told_any _ to tc told so sc told (TAt.old H1.out hb) (TAt.old H2.out hb) hl).mono ?_
  rintro e w1 ⟨rfl, hb1⟩
  have HB := Lib.hid (bthen hb hb1)
  go_wp2
  go_ret
  exact ⟨by simp, HB.out⟩
set_option maxHeartbeats 4000000 in
set_option maxRecDepth 100000 in
theorem alike_ok (W : World) (s s2 : RS) (to : Option Addr) (tc : Nat) (so : Option Addr) (sc : Nat) (he : s2.ov = s.ov ∧ s2.res = s.res ∧ s2.trap = s.trap ∧ s2.told = s.told) (h1 : TAt W to tc s.told) (h2 : TAt W so sc s2.told) (hl : s.told.length ≤ 1000000) :
    Calls Try.prog 16 #[resV s (.slice to s.told.length tc), resV s2 (.slice so s2.told.length sc)] W fun e w' => e = .returned (.bool true) ∧ Below W.heap.size W w' := by
  have H1 := Lib.hid h1
  have H2 := Lib.hid h2
  clear h1 h2
  obtain ⟨ws, at_, ov, res, trap, cost, told⟩ := s
  obtain ⟨ws2, at2, ov2, res2, trap2, cost2, told2⟩ := s2
  obtain ⟨rfl, rfl, rfl, rfl⟩ := he
  unfold resV
  dsimp only at *
  go_enter Try.func16, Try.ntmps16
  go_wp2_with fail
  have hb : Below W.heap.size W ((W.alloc (.cells #[.bool ov2, .int .i64 res2, .int .i64 trap2, .int .i64 cost, .slice to told2.length tc] 34)).alloc (.cells #[.bool ov2, .int .i64 res2, .int .i64 trap2, .int .i64 cost2, .slice so told2.length sc] 34)) := ((Below.refl _ _).alloc (Nat.le_refl _) _).alloc (by simp) _
  refine (told_any _ to tc told2 so sc told2 (TAt.old H1.out hb) (TAt.old H2.out hb) hl).mono ?_
  rintro e w1 ⟨rfl, hb1⟩
  have HB := Lib.hid (bthen hb hb1)
  go_wp2
  go_ret
  exact ⟨by simp, HB.out⟩

set_option maxHeartbeats 4000000 in
set_option maxRecDepth 100000 in
theorem requal_ok (W : World) (lo : Option Addr) (lc : Nat) (ho : Option Addr) (hc : Nat) (lo2 : Option Addr) (lc2 : Nat) (ho2 : Option Addr) (hc2 : Nat) (c : Cd) (h1 : CdAt W lo lc ho hc c) (h2 : CdAt W lo2 lc2 ho2 hc2 c) (hl : c.l.length ≤ 1000000) (hh : c.h.length ≤ 1000000) :
    Calls Try.prog 14 #[.agg #[.slice lo c.l.length lc, .slice ho c.h.length hc], .agg #[.slice lo2 c.l.length lc2, .slice ho2 c.h.length hc2]] W fun e w' => e = .returned (.bool true) ∧ Below W.heap.size W w' := by
  have H1 := Lib.hid h1
  have H2 := Lib.hid h2
  clear h1 h2
  obtain ⟨B, hB⟩ : ∃ B, B = W.heap.size := ⟨_, rfl⟩
  go_enter Try.func14, Try.ntmps14
  go_wp2
  have H := Lib.hid (show ∃ w1, w1 = ((W.alloc (.cells #[.slice lo c.l.length lc, .slice ho c.h.length hc] 25)).alloc (.cells #[.slice lo2 c.l.length lc2, .slice ho2 c.h.length hc2] 25)) ∧ Blk w1 B #[.slice lo c.l.length lc, .slice ho c.h.length hc] 25 ∧ Blk w1 (B+1) #[.slice lo2 c.l.length lc2, .slice ho2 c.h.length hc2] 25 ∧ Below W.heap.size W w1 from
    ⟨_, rfl, (Blk.new' _ _ hB).alloc _, Blk.new' _ _ (by simp [hB]), ((Below.refl _ _).alloc (Nat.le_refl _) _).alloc (by simp) _⟩)
  rw [← hB]
  obtain ⟨w1, hw1, H⟩ := H.out
  change Code.wp _ _ _ _ ((W.alloc (.cells #[.slice lo c.l.length lc, .slice ho c.h.length hc] 25)).alloc (.cells #[.slice lo2 c.l.length lc2, .slice ho2 c.h.length hc2] 25))
  rw [← hw1]
  clear hw1 hB
  go_loopw [5] (fun i wr => ∃ (k : Nat), k ≤ c.l.length ∧ i = .int .i64 k ∧ Blk wr B #[.slice lo c.l.length lc, .slice ho c.h.length hc] 25 ∧ Blk wr (B+1) #[.slice lo2 c.l.length lc2, .slice ho2 c.h.length hc2] 25 ∧ Below W.heap.size W wr) (fun i _ => c.l.length - (intOf i).toNat)
  case atStart => exact ⟨0, by omega, rfl, H.1, H.2.1, H.2.2⟩
  case round =>
    obtain ⟨k, hk, rfl, hA, hA2, hbel⟩ := hrel
    have HA := Lib.hid hA
    have HA2 := Lib.hid hA2
    have HL := Lib.hid hbel
    have c1 : wr.cell? ⟨B, 0, none⟩ = some (.slice lo c.l.length lc) := hA.cell 0 rfl
    have c2 : wr.cell? ⟨B+1, 0, none⟩ = some (.slice lo2 c.l.length lc2) := hA2.cell 0 rfl
    clear hA hA2 hbel
    by_cases hkl : k < c.l.length
    · obtain ⟨ad, ha, e0, e1, e2, e3⟩ := (H1.out.old HL.out).l.cell hkl
      obtain ⟨ad2, ha2, d0, d1, d2, d3⟩ := (H2.out.old HL.out).l.cell hkl
      generalize c.l.getD k default = x at e0 e1 e2 e3 d0 d1 d2 d3
      have HAd := Lib.hid ha
      have HAd2 := Lib.hid ha2
      subst ha ha2
      have hkl2 : (k : Int) < c.l.length := by omega
      have heq := eqRef
      go_wp2
      refine wp_still_all (by kernel_rfl) (by kernel_rfl) ?_
      repeat still_step
      refine wpStill_nil ?_
      clear e0 e1 e2 e3 d0 d1 d2 d3 heq c1 c2
      go_wp2
      exact ⟨⟨k + 1, by omega, by go_num, HA.out.drew, HA2.out.drew, HL.out.drew⟩, by show c.l.length - ((k : Int) + 1).toNat < c.l.length - (k : Int).toNat; omega⟩
    · clear H w1
      go_wp2
      go_loopw [6] (fun i wr => ∃ (k : Nat), k ≤ c.h.length ∧ i = .int .i64 k ∧ Blk wr B #[.slice lo c.l.length lc, .slice ho c.h.length hc] 25 ∧ Blk wr (B+1) #[.slice lo2 c.l.length lc2, .slice ho2 c.h.length hc2] 25 ∧ Below W.heap.size W wr) (fun i _ => c.h.length - (intOf i).toNat)
      case atStart => exact ⟨0, by omega, rfl, HA.out, HA2.out, HL.out⟩
      case round =>
        clear HA HA2 HL c1 c2 hkl hk
        obtain ⟨k, hk, rfl, hA, hA2, hbel⟩ := hrel
        have HA := Lib.hid hA
        have HA2 := Lib.hid hA2
        have HL := Lib.hid hbel
        have c1 := hA.cell 1 rfl
        have c2 := hA2.cell 1 rfl
        clear hA hA2 hbel
        by_cases hkl : k < c.h.length
        · obtain ⟨ad, ha, e0⟩ := sla_int (H1.out.old HL.out).h hkl
          obtain ⟨ad2, ha2, d0⟩ := sla_int (H2.out.old HL.out).h hkl
          generalize c.h.getD k 0 = x at e0 d0
          have HAd := Lib.hid ha
          have HAd2 := Lib.hid ha2
          subst ha ha2
          have hkl2 : (k : Int) < c.h.length := by omega
          go_wp2
          refine wp_still_all (by kernel_rfl) (by kernel_rfl) ?_
          repeat still_step
          refine wpStill_nil ?_
          clear e0 d0 c1 c2
          go_wp2
          exact ⟨⟨k + 1, by omega, by go_num, HA.out.drew, HA2.out.drew, HL.out.drew⟩, by show c.h.length - ((k : Int) + 1).toNat < c.h.length - (k : Int).toNat; omega⟩
        · go_wp2
          go_ret
          exact ⟨rfl, HL.out⟩

end Go.Proofs.Ytignlfcjlbijaaa
