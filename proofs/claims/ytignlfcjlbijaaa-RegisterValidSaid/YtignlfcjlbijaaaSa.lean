/- The program's Equal. -/
import Derived.Test.YtignlfcjlbijaaaRx
import Derived.Test.YtignlfcjlbijaaaRp
namespace Go.Proofs.Ytignlfcjlbijaaa
open Go.RowKit

set_option maxHeartbeats 4000000 in
theorem eqRegs_any (W : World) (ao : Option Addr) (acap : Nat) (l : List Ins) (bo : Option Addr) (bcap : Nat) (m : List Ins) (ha : InsAt W ao acap l) (hb : InsAt W bo bcap m) (hl : l.length ≤ 1000000) :
    Calls Try.prog 41 #[.slice ao l.length acap, .slice bo m.length bcap] W fun e w' => e = .returned (.bool (decide (l = m))) ∧ Below W.heap.size W w' := by
  by_cases hlen : l.length = m.length
  · have HA := Lib.hid ha
    have HB := Lib.hid hb
    have HN := Lib.hid hlen
    rw [← hlen]
    clear ha hb hlen
    go_enter Try.func41, Try.ntmps41
    go_wp2
    go_loopw [13] (fun i wr => ∃ (k : Nat), k ≤ l.length ∧ i = .int .i64 k ∧ Below W.heap.size W wr ∧ (∀ i, i < k → l.getD i default = m.getD i default)) (fun i _ => l.length - (intOf i).toNat)
    case atStart => exact ⟨0, by omega, rfl, Below.refl _ _, by omega⟩
    case round =>
      obtain ⟨k, hk, rfl, hbel, q1⟩ := hrel
      have HL := Lib.hid hbel
      have Q1 := Lib.hid q1
      clear hbel q1
      by_cases hkl : k < l.length
      · obtain ⟨ad, ha, e0, e1, e2, e3⟩ := (show InsAt wr ao acap l from SlA.old HA.out HL.out).cell hkl
        obtain ⟨ad2, ha2, d0, d1, d2, d3⟩ := (show InsAt wr bo bcap m from SlA.old HB.out HL.out).cell (i := k) (by have := HN.out; omega)
        generalize hx : l.getD k default = x at e0 e1 e2 e3
        generalize hy : m.getD k default = y at d0 d1 d2 d3
        have HX := Lib.hid hx
        have HY := Lib.hid hy
        have HAd := Lib.hid ha
        have HAd2 := Lib.hid ha2
        subst ha ha2
        clear hx hy
        have hkl2 : (k : Int) < l.length := by omega
        have heq := eqReg
        go_wp2
        refine wp_still_all (by kernel_rfl) (by kernel_rfl) ?_
        repeat still_step
        refine wpStill_nil ?_
        clear e0 e1 e2 e3 d0 d1 d2 d3 heq
        rcases hq : decide (x = y) with _ | _
        · have hxy := Lib.hid (of_decide_eq_false hq)
          clear hq
          go_wp2
          go_ret
          exact ⟨ret_bool (decide_eq_false (list_ne_of k (by rw [HX.out, HY.out]; exact hxy.out))).symm, HL.out.drew⟩
        · have hxy := Lib.hid (of_decide_eq_true hq)
          clear hq
          go_wp2
          refine ⟨⟨k + 1, by omega, by go_num, HL.out.drew, fun i hi => ?_⟩, by show l.length - ((k : Int) + 1).toNat < l.length - (k : Int).toNat; omega⟩
          by_cases hik : i < k
          · exact Q1.out i hik
          · obtain rfl : i = k := by omega
            rw [HX.out, HY.out]; exact hxy.out
      · go_wp2
        go_ret
        exact ⟨ret_bool (decide_eq_true (list_eq_of HN.out (fun i hi => Q1.out i (by omega)))).symm, HL.out⟩
  · go_enter Try.func41, Try.ntmps41
    go_wp2
    go_ret
    exact ⟨ret_bool (decide_eq_false (fun h => hlen (by rw [h]))).symm, Below.refl _ _⟩

set_option maxHeartbeats 4000000 in
theorem eqInts_any (W : World) (ao : Option Addr) (acap : Nat) (l : List Int) (bo : Option Addr) (bcap : Nat) (m : List Int) (ha : SlA W 1 ao l.length acap (l.map (Value.int .i64))) (hb : SlA W 1 bo m.length bcap (m.map (Value.int .i64))) (hl : l.length ≤ 1000000) :
    Calls Try.prog 42 #[.slice ao l.length acap, .slice bo m.length bcap] W fun e w' => e = .returned (.bool (decide (l = m))) ∧ Below W.heap.size W w' := by
  by_cases hlen : l.length = m.length
  · have HA := Lib.hid ha
    have HB := Lib.hid hb
    have HN := Lib.hid hlen
    rw [← hlen]
    clear ha hb hlen
    go_enter Try.func42, Try.ntmps42
    go_wp2
    go_loopw [13] (fun i wr => ∃ (k : Nat), k ≤ l.length ∧ i = .int .i64 k ∧ Below W.heap.size W wr ∧ (∀ i, i < k → l.getD i 0 = m.getD i 0)) (fun i _ => l.length - (intOf i).toNat)
    case atStart => exact ⟨0, by omega, rfl, Below.refl _ _, by omega⟩
    case round =>
      obtain ⟨k, hk, rfl, hbel, q1⟩ := hrel
      have HL := Lib.hid hbel
      have Q1 := Lib.hid q1
      clear hbel q1
      by_cases hkl : k < l.length
      · obtain ⟨ad, ha, e0⟩ := sla_int (HA.out.old HL.out) hkl
        obtain ⟨ad2, ha2, d0⟩ := sla_int (HB.out.old HL.out) (i := k) (by have := HN.out; omega)
        generalize hx : l.getD k 0 = x at e0
        generalize hy : m.getD k 0 = y at d0
        have HX := Lib.hid hx
        have HY := Lib.hid hy
        have HAd := Lib.hid ha
        have HAd2 := Lib.hid ha2
        subst ha ha2
        clear hx hy
        have hkl2 : (k : Int) < l.length := by omega
        go_wp2
        refine wp_still_all (by kernel_rfl) (by kernel_rfl) ?_
        repeat still_step
        refine wpStill_nil ?_
        clear e0 d0
        by_cases hxy : x = y
        · subst hxy
          go_wp2
          refine ⟨⟨k + 1, by omega, by go_num, HL.out.drew, fun i hi => ?_⟩, by show l.length - ((k : Int) + 1).toNat < l.length - (k : Int).toNat; omega⟩
          by_cases hik : i < k
          · exact Q1.out i hik
          · obtain rfl : i = k := by omega
            rw [HX.out, HY.out]
        · go_wp2
          go_ret
          exact ⟨ret_bool (decide_eq_false (fun h => hxy (by rw [← HX.out, ← HY.out, h]))).symm, HL.out.drew⟩
      · go_wp2
        go_ret
        exact ⟨ret_bool (decide_eq_true (list_eq_of (α := Int) HN.out (fun i hi => Q1.out i (by omega)))).symm, HL.out⟩
  · go_enter Try.func42, Try.ntmps42
    go_wp2
    go_ret
    exact ⟨ret_bool (decide_eq_false (fun h => hlen (by rw [h]))).symm, Below.refl _ _⟩

set_option maxHeartbeats 4000000 in
theorem Equal_any (W : World) (lo : Option Addr) (lc : Nat) (ho : Option Addr) (hc : Nat) (lo2 : Option Addr) (lc2 : Nat) (ho2 : Option Addr) (hc2 : Nat) (c d : Cd) (h1 : CdAt W lo lc ho hc c) (h2 : CdAt W lo2 lc2 ho2 hc2 d) (hl : c.l.length ≤ 1000000) (hh : c.h.length ≤ 1000000) :
    Calls Try.prog 22 #[.agg #[.slice lo c.l.length lc, .slice ho c.h.length hc], .agg #[.slice lo2 d.l.length lc2, .slice ho2 d.h.length hc2]] W fun e w' => e = .returned (.bool (decide (c.l = d.l) && decide (c.h = d.h))) ∧ Below W.heap.size W w' := by
  obtain ⟨B, hB⟩ : ∃ B, B = W.heap.size := ⟨_, rfl⟩
  have H1 := Lib.hid h1
  have H2 := Lib.hid h2
  clear h1 h2
  go_enter Try.func22, Try.ntmps22
  go_wp2_with fail
  have hb0 := ((Below.refl W.heap.size W).alloc (Nat.le_refl _) (.cells #[.slice lo c.l.length lc, .slice ho c.h.length hc] 30)).alloc (by simp) (.cells #[.slice lo2 d.l.length lc2, .slice ho2 d.h.length hc2] 30)
  have hA0 := (Blk.new' (w := W) #[.slice lo c.l.length lc, .slice ho c.h.length hc] 30 hB).alloc (.cells #[.slice lo2 d.l.length lc2, .slice ho2 d.h.length hc2] 30)
  have hC0 : Blk ((W.alloc (.cells #[.slice lo c.l.length lc, .slice ho c.h.length hc] 30)).alloc (.cells #[.slice lo2 d.l.length lc2, .slice ho2 d.h.length hc2] 30)) (B+1) #[.slice lo2 d.l.length lc2, .slice ho2 d.h.length hc2] 30 := Blk.new' _ _ (by simp [hB])
  refine (eqRegs_any _ lo lc c.l lo2 lc2 d.l (H1.out.old hb0).l (H2.out.old hb0).l hl).mono ?_
  rintro e w1 ⟨rfl, hb1⟩
  have hA1 := hA0.old hb1
  have hC1 := hC0.old hb1
  have a1 : w1.cell? ⟨B, 1, none⟩ = some (.slice ho c.h.length hc) := hA1.cell 1 rfl
  have c1 : w1.cell? ⟨B+1, 1, none⟩ = some (.slice ho2 d.h.length hc2) := hC1.cell 1 rfl
  have HL1 := Lib.hid (bthen hb0 hb1)
  rw [← hB]
  clear hb0 hA0 hC0 hb1 hA1 hC1 hB
  rcases hq : decide (c.l = d.l) with _ | _
  · have HQ := Lib.hid hq
    clear hq
    go_wp2_with fail
    go_ret
    exact ⟨ret_bool (by rw [HQ.out]; rfl), HL1.out⟩
  · have HQ := Lib.hid hq
    clear hq
    go_wp2_with fail
    refine (eqInts_any _ ho hc c.h ho2 hc2 d.h (H1.out.old HL1.out).h (H2.out.old HL1.out).h hh).mono ?_
    rintro e w2 ⟨rfl, hb2⟩
    have HL2 := Lib.hid (bthen HL1.out hb2)
    clear hb2
    obtain ⟨q, hq2⟩ : ∃ q, q = decide (c.h = d.h) := ⟨_, rfl⟩
    rw [← hq2]
    have HQ2 := Lib.hid hq2
    clear hq2
    go_wp2_with fail
    go_ret
    exact ⟨ret_bool (by rw [HQ.out, HQ2.out]; rfl), HL2.out⟩

end Go.Proofs.Ytignlfcjlbijaaa
