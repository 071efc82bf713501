/- good, and what more steps make of a run. -/
import Derived.Test.YtignlfcjlbijaaaRq
namespace Go.Proofs.Ytignlfcjlbijaaa
open Go.RowKit

theorem trapS_told (c : Cd) (s : RS) (n : Int) : (trapS c s n).told = s.told ∧ (trapS c s n).cost = s.cost := by unfold trapS; split <;> exact ⟨rfl, rfl⟩
theorem stepS_more (c : Cd) (s : RS) : (∃ t, (stepS c s).told = s.told ++ t) ∧ s.cost ≤ (stepS c s).cost := by
  have hc := costV_range (c.l.getD s.at_ default).d
  have key : ∀ r : RS, r = stepS c s → ((∃ t, r.told = s.told ++ t) ∧ s.cost ≤ r.cost) := by
    intro r hr
    unfold stepS at hr
    dsimp only at hr
    generalize costV (c.l.getD s.at_ default).d = q at hr hc
    repeat' split at hr
    all_goals subst hr
    all_goals first
      | (refine ⟨⟨_, rfl⟩, ?_⟩; show s.cost ≤ s.cost + q; omega)
      | (refine ⟨⟨[], (List.append_nil _).symm⟩, ?_⟩; show s.cost ≤ s.cost + q; omega)
      | (refine ⟨⟨[], ?_⟩, ?_⟩; (rw [(trapS_told _ _ _).1]; exact (List.append_nil _).symm); (rw [(trapS_told _ _ _).2]; show s.cost ≤ s.cost + q; omega))
  exact key _ rfl
theorem itS_more (c : Cd) (s : RS) (n : Nat) : ∀ k, (∃ t, (itS c s (n + k)).told = (itS c s n).told ++ t) ∧ (itS c s n).cost ≤ (itS c s (n + k)).cost
  | 0 => ⟨⟨[], by simp⟩, Int.le_refl _⟩
  | k + 1 => by
    obtain ⟨⟨t, ht⟩, hc⟩ := itS_more c s n k
    have he : itS c s (n + (k + 1)) = if (itS c s (n + k)).ov then itS c s (n + k) else stepS c (itS c s (n + k)) := rfl
    rw [he]
    split
    · exact ⟨⟨t, ht⟩, hc⟩
    · obtain ⟨⟨t2, ht2⟩, hc2⟩ := stepS_more c (itS c s (n + k))
      exact ⟨⟨t ++ t2, by rw [ht2, ht, List.append_assoc]⟩, by omega⟩
theorem runV_more (c : Cd) (zs : List Int) (a m : Int) (ha : 0 ≤ a) (ha2 : a ≤ 3000) (hm : 0 ≤ m) (hm2 : m ≤ 3000) :
    (∃ t, (runV c zs (a + m)).told = (runV c zs a).told ++ t) ∧ (runV c zs a).cost ≤ (runV c zs (a + m)).cost ∧ ((runV c zs a).ov = true → runV c zs (a + m) = runV c zs a) ∧ runE c zs (a + m) = runE c zs a := by
  have h1 : okRun c zs (a + m) = okRun c zs a := by
    unfold okRun
    rw [show decide (0 ≤ a + m) = decide (0 ≤ a) by rw [decide_eq_decide]; omega, show decide (a + m ≤ 100000) = decide (a ≤ 100000) by rw [decide_eq_decide]; omega]
  unfold runV runE
  rw [h1]
  split
  · rw [show (a + m).toNat = a.toNat + m.toNat by omega]
    obtain ⟨h2, h3⟩ := itS_more c (begS zs) a.toNat m.toNat
    exact ⟨h2, h3, fun h => itS_over h _, rfl⟩
  · exact ⟨⟨[], by simp⟩, Int.le_refl _, fun _ => rfl, rfl⟩

set_option maxHeartbeats 4000000 in
theorem good_any (W : World) (ao : Option Addr) (acap : Nat) (zs : List Int) (hz : Sl .i64 W ao zs) (hl : zs.length ≤ 1000) :
    Calls Try.prog 18 #[.slice ao zs.length acap] W fun e w' => e = .returned (.bool (zs.all vB && decide (zs.length ≤ 4))) ∧ Below W.heap.size W w' := by
  have HZ := Lib.hid hz
  clear hz
  go_enter Try.func18, Try.ntmps18
  go_wp2
  go_loopw [3] (fun i wr => ∃ (k : Nat), k ≤ zs.length ∧ i = .int .i64 k ∧ Below W.heap.size W wr ∧ (∀ i, i < k → vB (zs.getD i 0) = true)) (fun i _ => zs.length - (intOf i).toNat)
  case atStart => exact ⟨0, by omega, rfl, Below.refl _ _, by omega⟩
  case round =>
    obtain ⟨k, hk, rfl, hbel, q1⟩ := hrel
    have HL := Lib.hid hbel
    have Q1 := Lib.hid q1
    clear hbel q1
    by_cases hkl : k < zs.length
    · obtain ⟨ad, ha, e0⟩ := HZ.out.below HL.out k hkl
      generalize hx : zs.getD k 0 = x at e0
      have HX := Lib.hid hx
      have HAd := Lib.hid ha
      subst ha
      clear hx
      have hkl2 : (k : Int) < zs.length := by omega
      refine' Classical.byCases (p := vB x = true) (fun hv => ?_) (fun hv => ?_)
      · go_wp2_with (first | (go_at_call 30; refine (rvalid_any _ _).mono ?_; rintro e w' ⟨rfl, rfl⟩; rw [hv]))
        exact ⟨⟨k + 1, by omega, by go_num, HL.out, fun i hi => by
          by_cases hik : i < k
          · exact Q1.out i hik
          · obtain rfl : i = k := by omega
            rw [HX.out]; exact hv⟩, by show zs.length - ((k : Int) + 1).toNat < zs.length - (k : Int).toNat; omega⟩
      · have hv' : vB x = false := by simpa using hv
        go_wp2_with (first | (go_at_call 30; refine (rvalid_any _ _).mono ?_; rintro e w' ⟨rfl, rfl⟩; rw [hv']))
        go_ret
        refine ⟨ret_bool ?_, HL.out⟩
        symm
        rw [Bool.and_eq_false_iff]
        refine .inl (List.all_eq_false.2 ⟨x, ?_, by simp [hv']⟩)
        rw [← HX.out, List.getD_eq_getElem?_getD, List.getElem?_eq_getElem hkl]
        exact List.getElem_mem hkl
    · have hall : zs.all vB = true := by
        rw [List.all_eq_true]; intro z hz
        obtain ⟨i, hi, rfl⟩ := List.mem_iff_getElem.1 hz
        have := Q1.out i (by omega)
        simpa [List.getD_eq_getElem?_getD, hi] using this
      have HAll := Lib.hid hall
      clear hall
      go_wp2
      go_ret
      exact ⟨ret_bool (by rw [HAll.out, Bool.true_and, decide_eq_decide]; omega), HL.out⟩

end Go.Proofs.Ytignlfcjlbijaaa
