/- The reference's Valid. -/
import Derived.Test.YtignlfcjlbijaaaRc
namespace Go.Proofs.Ytignlfcjlbijaaa
open Go.RowKit

set_option maxHeartbeats 4000000 in
theorem rValid_any (W : World) (lo : Option Addr) (lc : Nat) (ho : Option Addr) (hc : Nat) (c : Cd) (hcd : CdAt W lo lc ho hc c) :
    Calls Try.prog 17 #[.agg #[.slice lo c.l.length lc, .slice ho c.h.length hc]] W fun e w' => e = .returned (.bool (codeV c)) ∧ Below W.heap.size W w' := by
  obtain ⟨B, hB⟩ : ∃ B, B = W.heap.size := ⟨_, rfl⟩
  by_cases hlen : 1 ≤ c.l.length ∧ c.l.length ≤ 600 ∧ c.h.length = c.l.length
  · obtain ⟨g1, g2, g3⟩ := hlen
    rw [g3]
    have HN := Lib.hid g3
    clear g3
    have hn : IntKind.i64.wrap ((c.l.length : Int) - 1) = c.l.length - 1 := IntWalk.i64_in _ (by omega)
    have HC := Lib.hid hcd
    have HB := Lib.hid hB
    clear hcd
    go_enter Try.func17, Try.ntmps17
    go_wp2
    have H := Lib.hid (show ∃ w1, w1 = (W.alloc (.cells #[.slice lo c.l.length lc, .slice ho c.l.length hc] 25)) ∧ Blk w1 B #[.slice lo c.l.length lc, .slice ho c.l.length hc] 25 ∧ Below W.heap.size W w1 from
      ⟨_, rfl, Blk.new' _ _ hB, (Below.refl _ _).alloc (Nat.le_refl _) _⟩)
    rw [← hB]
    obtain ⟨w1, hw1, H⟩ := H.out
    change Code.wp _ _ _ _ (W.alloc (.cells #[.slice lo c.l.length lc, .slice ho c.l.length hc] 25))
    rw [← hw1]
    clear hw1 hB
    go_loopw [4] (fun i wr => ∃ (k : Nat), k ≤ c.l.length ∧ i = .int .i64 k ∧ Blk wr B #[.slice lo c.l.length lc, .slice ho c.l.length hc] 25 ∧ Below W.heap.size W wr ∧ (∀ i, i < k → insV (c.l.getD i default) c.l.length = true) ∧ ∀ i, i < k → inB (c.h.getD i 0) (-1) (c.l.length - 1) = true) (fun i _ => c.l.length - (intOf i).toNat)
    case atStart => exact ⟨0, by omega, rfl, H.1, H.2, by omega, by omega⟩
    case round =>
      obtain ⟨k, hk, rfl, hA, hbel, q1, q2⟩ := hrel
      have HA := Lib.hid hA
      have HL := Lib.hid hbel
      have Q1 := Lib.hid q1
      have Q2 := Lib.hid q2
      have c1 : wr.cell? ⟨B, 0, none⟩ = some (.slice lo c.l.length lc) := hA.cell 0 rfl
      clear hA hbel q1 q2
      by_cases hkl : k < c.l.length
      · obtain ⟨ad, ha, e0, e1, e2, e3⟩ := (HC.out.old HL.out).l.cell hkl
        obtain ⟨x, hx⟩ : ∃ x, x = c.l.getD k default := ⟨_, rfl⟩
        rw [← hx] at e0 e1 e2 e3
        have HX := Lib.hid hx
        have HAd := Lib.hid ha
        subst ha
        clear hx
        go_wp2_with fail
        refine (rvalidI_any x c.l.length _ (by omega) (by omega)).mono ?_
        rintro e w1 ⟨rfl, hb1⟩
        have HA1 := Lib.hid (HA.out.old hb1)
        have HL1 := Lib.hid (bthen HL.out hb1)
        have d1 : w1.cell? ⟨B, 1, none⟩ = some (.slice ho c.l.length hc) := HA1.out.cell 1 rfl
        obtain ⟨ad2, ha2, d2⟩ := sla_int (HC.out.old HL1.out).h (i := k) (by have := HN.out; omega)
        obtain ⟨z, hz⟩ : ∃ z, z = c.h.getD k 0 := ⟨_, rfl⟩
        rw [← hz] at d2
        have HZ := Lib.hid hz
        subst ha2
        clear hz
        have hkh : (k : Int) < c.h.length := by have := HN.out; omega
        rcases hI : insV x c.l.length with _ | _
        · go_wp2
          go_ret
          exact ⟨ret_bool (codeV_false hkl (.inl (by rw [← HX.out]; exact hI))).symm, HL1.out⟩
        · rcases hZ : inB z (-1) (c.l.length - 1) with _ | _
          · go_wp2_with (first | (go_at_call 34; refine (rin_any _ _ _ _).mono ?_; rintro e w' ⟨rfl, rfl⟩))
            go_ret
            exact ⟨ret_bool (codeV_false hkl (.inr (by rw [← HZ.out]; exact hZ))).symm, HL1.out⟩
          · go_wp2_with (first | (go_at_call 34; refine (rin_any _ _ _ _).mono ?_; rintro e w' ⟨rfl, rfl⟩))
            go_roundw
            case rel =>
              refine ⟨k + 1, by omega, by go_num, HA1.out, HL1.out, fun i hi => ?_, fun i hi => ?_⟩
              · by_cases hik : i < k
                · exact Q1.out i hik
                · obtain rfl : i = k := by omega
                  rw [← HX.out]; exact hI
              · by_cases hik : i < k
                · exact Q2.out i hik
                · obtain rfl : i = k := by omega
                  rw [← HZ.out]; exact hZ
            case measure => simp [intOf]; omega
      · go_wp2
        go_ret
        exact ⟨ret_bool (codeV_true (by omega) (by omega) HN.out (fun i hi => Q1.out i (by omega)) (fun i hi => Q2.out i (by omega))).symm, HL.out⟩
  · go_enter Try.func17, Try.ntmps17
    go_wp2
    all_goals try (exfalso; simp only [bne_eq_false_iff_eq] at *; omega)
    all_goals first
      | (go_ret
         exact ⟨ret_bool (codeV_len (by omega)).symm, (Below.refl _ _).alloc (Nat.le_refl _) _⟩)

end Go.Proofs.Ytignlfcjlbijaaa
