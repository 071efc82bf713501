/- RegisterValid returns true: the walk. -/
import Derived.Test.YtignlfcjlbijaaaSd
import Derived.Test.YtignlfcjlbijaaaRq
namespace Go.Proofs.Ytignlfcjlbijaaa
open Go.RowKit

/-- code with one field changed -/
def flipC (c : Cd) (k : Nat) (v : Int) : Cd := ⟨c.l.set k { c.l.getD k default with b := v }, c.h⟩
theorem flat_setB (l : List Ins) (i : Nat) (v : Int) (hi : i < l.length) : (flat l).set (i * 4 + 2) (.int .i64 v) = flat (l.set i { l.getD i default with b := v }) := by
  induction l generalizing i with
  | nil => cases hi
  | cons y r ih =>
    have e : flat (y :: r) = .int .i64 y.d :: .int .i64 y.a :: .int .i64 y.b :: .int .i64 y.c :: flat r := by simp [flat, Ins.cells]
    cases i with
    | zero => simp [flat, Ins.cells]
    | succ i =>
      have h1 := ih i (by simpa using hi)
      have e2 : flat ((y :: r).set (i + 1) { (y :: r).getD (i + 1) default with b := v }) = .int .i64 y.d :: .int .i64 y.a :: .int .i64 y.b :: .int .i64 y.c :: flat (r.set i { r.getD i default with b := v }) := by simp [flat, Ins.cells]
      rw [e, e2, ← h1, show (i + 1) * 4 + 2 = i * 4 + 2 + 1 + 1 + 1 + 1 by omega]
      simp only [List.set_cons_succ]
theorem flip_ne {c : Cd} {k : Nat} {v : Int} (hk : k < c.l.length) (hv : v ≠ (c.l.getD k default).b) : c.l ≠ (flipC c k v).l := by
  intro h
  have h1 : c.l.getD k default = (c.l.set k { c.l.getD k default with b := v }).getD k default := congrArg (fun l => l.getD k default) h
  rw [getD_setA _ _ _ _ hk, if_pos rfl] at h1
  have := congrArg Ins.b h1
  exact hv this.symm

set_option maxHeartbeats 1000000 in
set_option maxRecDepth 100000 in
theorem lawValid_any (W : World) (lo : Option Addr) (lc : Nat) (ho : Option Addr) (hc : Nat) (c : Cd) (hcd : CdAt W lo lc ho hc c) (at_ by_ : Int) (hby : -9223372036854775808 ≤ by_ ∧ by_ ≤ 9223372036854775807) :
    Calls Try.prog 6 #[.agg #[.slice lo c.l.length lc, .slice ho c.h.length hc], .int .i64 at_, .int .i64 by_] W fun e w' => e = .returned (.bool true) ∧ Below W.heap.size W w' := by
  obtain ⟨B, hB⟩ : ∃ B, B = W.heap.size := ⟨_, rfl⟩
  have HC := Lib.hid hcd
  have HBy := Lib.hid hby
  clear hcd hby
  go_enter Try.func6, Try.ntmps6
  go_wp2_with fail
  have hb0 : Below W.heap.size W (W.alloc (.cells #[.slice lo c.l.length lc, .slice ho c.h.length hc] 25)) := (Below.refl _ _).alloc (Nat.le_refl _) _
  have hA0 : Blk (W.alloc (.cells #[.slice lo c.l.length lc, .slice ho c.h.length hc] 25)) B #[.slice lo c.l.length lc, .slice ho c.h.length hc] 25 := Blk.new' _ _ hB
  refine (long_any _ lo lc ho hc c.l.length c.h.length).mono ?_
  rintro e w1 ⟨rfl, hb1⟩
  have HA1 := Lib.hid (hA0.old hb1)
  have HL1 := Lib.hid (bthen hb0 hb1)
  clear hA0 hb1 hb0
  rw [← hB]
  have HB := Lib.hid hB
  clear hB
  have a0 : w1.cell? ⟨B, 0, none⟩ = some (.slice lo c.l.length lc) := HA1.out.cell 0 rfl
  have a1 : w1.cell? ⟨B, 1, none⟩ = some (.slice ho c.h.length hc) := HA1.out.cell 1 rfl
  rcases hlong : (decide ((c.l.length : Int) > 2000) || decide ((c.h.length : Int) > 2000)) with _ | _
  · have hll : c.l.length ≤ 2000 ∧ c.h.length ≤ 2000 := by
      simp only [Bool.or_eq_false_iff, decide_eq_false_iff_not] at hlong; omega
    have HLen := Lib.hid hll
    clear hlong hll
    go_wp2_with fail
    refine (to_any _ lo lc ho hc c (HC.out.old HL1.out) HLen.out.1 HLen.out.2).mono ?_
    rintro e w3 ⟨lo2, lc2, ho2, hc2, rfl, hb3, o3, p3⟩
    have HA3 := Lib.hid (HA1.out.old hb3)
    have HL3 := Lib.hid (bthen HL1.out hb3)
    have HD3 := Lib.hid (show CdAt w3 lo2 lc2 ho2 hc2 c from ⟨(ownsRow_slA o3).2, (ownsRow_slA p3).2⟩)
    clear hb3 o3 p3 a0 a1 HA1 HL1
    obtain ⟨D, hD⟩ : ∃ D, D = w3.heap.size := ⟨_, rfl⟩
    go_wp2_with fail
    have hb4 := (Below.refl w3.heap.size w3).alloc (Nat.le_refl _) (.cells #[.slice lo2 c.l.length lc2, .slice ho2 c.h.length hc2] 30)
    have hX4 := Blk.new' (w := w3) #[.slice lo2 c.l.length lc2, .slice ho2 c.h.length hc2] 30 hD
    refine (Reached_all _ lo2 lc2 ho2 hc2 c (HD3.out.old hb4)).mono ?_
    rintro e w5 ⟨r1, k1, bs, rfl, hb5, hs5, hr5⟩
    have hb45 := bthen hb4 hb5
    have HA5 := Lib.hid (HA3.out.old hb45)
    have HX5 := Lib.hid (hX4.old hb5)
    have HL5 := Lib.hid (bthen HL3.out hb45)
    have HD5 := Lib.hid (HD3.out.old hb45)
    have HS5 := Lib.hid hs5
    have HR5 := Lib.hid hr5
    rw [← hD]
    clear hb4 hb5 hb45 hX4 hs5 hr5 HA3 HL3 HD3 hD
    obtain ⟨er, her⟩ : ∃ er : Int, er = (if codeV c then 0 else 1) := ⟨_, rfl⟩
    rw [← her]
    have HEr := Lib.hid her
    clear her
    have a0 : w5.cell? ⟨B, 0, none⟩ = some (.slice lo c.l.length lc) := HA5.out.cell 0 rfl
    have a1 : w5.cell? ⟨B, 1, none⟩ = some (.slice ho c.h.length hc) := HA5.out.cell 1 rfl
    go_wp2_with fail
    refine (rReached_all _ lo lc ho hc c (HC.out.old HL5.out)).mono ?_
    rw [← HEr.out]
    rintro e w7 ⟨r2, k2, bs2, rfl, hb7, hs7, hr7⟩
    obtain rfl := RchOk.eq hr7 HR5.out
    have HA7 := Lib.hid (HA5.out.old hb7)
    have HX7 := Lib.hid (HX5.out.old hb7)
    have HL7 := Lib.hid (bthen HL5.out hb7)
    have HD7 := Lib.hid (HD5.out.old hb7)
    have HS7 := Lib.hid (HS5.out.old hb7)
    have HT7 := Lib.hid hs7
    have HBL := Lib.hid (show bs2.length ≤ 2000 by
      have h := hr7
      unfold RchOk at h
      split at h
      · rw [h.1]; exact HLen.out.1
      · rw [h]; simp)
    clear hb7 hs7 hr7 HA5 HX5 HL5 HD5 HS5 HR5 a0 a1 HEr
    have HBs := Lib.hid (show bs2.length = bs2.length from rfl)
    go_wp2_with fail
    have HCl := Lib.hid (show ∀ w, Below w7.heap.size w7 w → (Below w7.heap.size w7 w ∧ w.cell? ⟨B, 0, none⟩ = some (.slice lo c.l.length lc) ∧ w.cell? ⟨B, 1, none⟩ = some (.slice ho c.h.length hc) ∧ w.cell? ⟨D, 0, none⟩ = some (.slice lo2 c.l.length lc2) ∧ w.cell? ⟨D, 1, none⟩ = some (.slice ho2 c.h.length hc2)) from
      fun w h => ⟨h, (HA7.out.old h).cell 0 rfl, (HA7.out.old h).cell 1 rfl, (HX7.out.old h).cell 0 rfl, (HX7.out.old h).cell 1 rfl⟩)
    refine wp_mixL (fun w => Below w7.heap.size w7 w ∧ w.cell? ⟨B, 0, none⟩ = some (.slice lo c.l.length lc) ∧ w.cell? ⟨B, 1, none⟩ = some (.slice ho c.h.length hc) ∧ w.cell? ⟨D, 0, none⟩ = some (.slice lo2 c.l.length lc2) ∧ w.cell? ⟨D, 1, none⟩ = some (.slice ho2 c.h.length hc2)) [(false, 0), (false, 2), (true, 1), (true, 3), (false, 4), (false, 5), (false, 6), (false, 7), (false, 8), (false, 9), (false, 10), (false, 11), (false, 12), (false, 13), (false, 14), (false, 15), (false, 16), (false, 17), (false, 18), (false, 19), (true, 20), (true, 21), (false, 22), (false, 23)] (by kernel_rfl) (by kernel_rfl) (by intro c a d v w h; cases d <;> exact h) (HCl.out w7.drew (Below.refl _ _).drew) ?_
    simp only [List.map_cons, List.map_nil, opAt, List.getD_cons_zero, List.getD_cons_succ]
    repeat (refine wpMixL_plain ?_; (first | (apply Exists.intro; refine ⟨Or.inl ⟨by rfl, ?_⟩, ?_⟩; focus (intro w hSw; (try dsimp only at hSw); go_simp; (try with_reducible rfl); done)) | (refine ⟨_, Or.inr ⟨by rfl, rfl⟩, ?_⟩)); (try simp only [Act.put, List.setIfInBounds_toArray, List.set_cons_zero, List.set_cons_succ]))
    refine wpMixL_one (by rfl) (by rfl) fun K hK => ?_
    go_simp
    refine (Valid_any _ lo2 lc2 ho2 hc2 c (HD7.out.old (Below.refl _ _).drew)).mono ?_
    rintro e w8 ⟨rfl, hb8⟩
    have HL8 := Lib.hid (show Below w7.heap.size w7 w8 from bthen (Below.refl _ w7).drew hb8)
    clear hb8
    go_simp
    refine hK _ _ (HCl.out w8 HL8.out) ?_
    clear hK K
    refine wpMixL_one (by rfl) (by rfl) fun K hK => ?_
    go_simp
    refine (rValid_any _ lo lc ho hc c (HC.out.old (bthen HL7.out HL8.out))).mono ?_
    rintro e w9 ⟨rfl, hb9⟩
    have HL9 := Lib.hid (bthen HL8.out hb9)
    clear hb9
    go_simp
    refine hK _ _ (HCl.out w9 HL9.out) ?_
    clear hK K
    generalize codeV c = cv
    repeat (refine wpMixL_plain ?_; (first | (apply Exists.intro; refine ⟨Or.inl ⟨by rfl, ?_⟩, ?_⟩; focus (intro w hSw; (try dsimp only at hSw); go_simp; (try with_reducible rfl); done)) | (refine ⟨_, Or.inr ⟨by rfl, rfl⟩, ?_⟩)); (try simp only [Act.put, List.setIfInBounds_toArray, List.set_cons_zero, List.set_cons_succ]))
    refine wpMixL_one (by rfl) (by rfl) fun K hK => ?_
    go_simp
    refine (to_any _ lo lc ho hc c (HC.out.old (bthen HL7.out HL9.out)) HLen.out.1 HLen.out.2).mono ?_
    rintro e w10 ⟨lo6, lc6, ho6, hc6, rfl, hb10, o10, p10⟩
    have HL10 := Lib.hid (bthen HL9.out hb10)
    have HD10 := Lib.hid (show CdAt w10 lo6 lc6 ho6 hc6 c from ⟨(ownsRow_slA o10).2, (ownsRow_slA p10).2⟩)
    clear hb10 o10 p10
    go_simp
    refine hK _ _ (HCl.out w10 HL10.out) ?_
    clear hK K
    refine wpMixL_one (by rfl) (by rfl) fun K hK => ?_
    go_simp
    refine (Equal_any _ lo2 lc2 ho2 hc2 lo6 lc6 ho6 hc6 c c (HD7.out.old HL10.out) HD10.out (by have := HLen.out.1; omega) (by have := HLen.out.2; omega)).mono ?_
    rw [show (decide (c.l = c.l) && decide (c.h = c.h)) = true by simp]
    rintro e w11 ⟨rfl, hb11⟩
    have HL11 := Lib.hid (bthen HL10.out hb11)
    clear hb11
    go_simp
    refine hK _ _ (HCl.out w11 HL11.out) ?_
    clear hK K
    repeat (refine wpMixL_plain ?_; (first | (apply Exists.intro; refine ⟨Or.inl ⟨by rfl, ?_⟩, ?_⟩; focus (intro w hSw; (try dsimp only at hSw); go_simp; (try with_reducible rfl); done)) | (refine ⟨_, Or.inr ⟨by rfl, rfl⟩, ?_⟩)); (try simp only [Act.put, List.setIfInBounds_toArray, List.set_cons_zero, List.set_cons_succ]))
    refine wpMixL_nil ?_
    have HA := Lib.hid (HA7.out.old HL11.out)
    have HX := Lib.hid (HX7.out.old HL11.out)
    have HD := Lib.hid (HD7.out.old HL11.out)
    have HS := Lib.hid (HS7.out.old HL11.out)
    have HT := Lib.hid (HT7.out.old HL11.out)
    have HLW := Lib.hid (bthen HL7.out HL11.out)
    clear HCl HL8 HL9 HL10 HL11 HD10 HA7 HX7 HL7 HD7 HS7 HT7 HBs
    go_wp2_with fail
    have hbl := HBL.out
    go_loopw [12] (fun i wr => ∃ (k : Nat), k ≤ bs2.length ∧ i = .int .i64 k ∧ Below w11.heap.size w11 wr) (fun i _ => bs2.length - (intOf i).toNat)
    case atStart => exact ⟨0, by omega, rfl, Below.refl _ _⟩
    case round =>
      obtain ⟨k, hk, rfl, hbel⟩ := hrel
      have HL := Lib.hid hbel
      clear hbel
      by_cases hkl : k < bs2.length
      · obtain ⟨ad, ha, e0⟩ := (HS.out.old HL.out).2.2 k (.bool (bs2.getD k false)) (by simp [List.getD_eq_getElem?_getD, hkl])
        obtain ⟨ad2, ha2, d0⟩ := (HT.out.old HL.out).2.2 k (.bool (bs2.getD k false)) (by simp [List.getD_eq_getElem?_getD, hkl])
        have HAd := Lib.hid ha
        have HAd2 := Lib.hid ha2
        subst ha ha2
        have hkl2 : (k : Int) < bs2.length := by omega
        rcases bs2.getD k false with _ | _
        all_goals
          go_wp2_with fail
          refine wp_still_all (by kernel_rfl) (by kernel_rfl) ?_
          repeat still_step
          refine wpStill_nil ?_
          clear e0 d0
          go_wp2_with fail
          exact ⟨⟨k + 1, by omega, by go_num, HL.out.drew⟩, by show bs2.length - ((k : Int) + 1).toNat < bs2.length - (k : Int).toNat; omega⟩
      · have HA1 := Lib.hid (HA.out.old HL.out)
        have HX1 := Lib.hid (HX.out.old HL.out)
        have HD1 := Lib.hid (HD.out.old HL.out)
        have HLW1 := Lib.hid (bthen HLW.out HL.out)
        clear HA HX HD HLW HL HS HT hbl
        go_wp2_with fail
        go_loopw [13] (fun i w2 => ∃ (k : Nat), k ≤ c.l.length ∧ i = .int .i64 k ∧ Below wr.heap.size wr w2) (fun i _ => c.l.length - (intOf i).toNat)
        case atStart => exact ⟨0, by omega, rfl, Below.refl _ _⟩
        case round =>
          obtain ⟨m, hm, rfl, hbel⟩ := hrel
          have HL := Lib.hid hbel
          clear hbel
          have HA := Lib.hid (HA1.out.old HL.out)
          have HX := Lib.hid (HX1.out.old HL.out)
          have HD := Lib.hid (HD1.out.old HL.out)
          have HLW := Lib.hid (bthen HLW1.out HL.out)
          have a0 := HA.out.cell 0 rfl
          by_cases hml : m < c.l.length
          · obtain ⟨ad, ha, e0, e1, e2, e3⟩ := HD.out.l.cell hml
            have x0 := HX.out.cell 0 rfl
            obtain ⟨x, hx⟩ : ∃ x, x = c.l.getD m default := ⟨_, rfl⟩
            rw [← hx] at e0 e1 e2 e3
            have HXx := Lib.hid hx
            clear hx
            have HAd := Lib.hid ha
            subst ha
            have hml2 : (m : Int) < c.l.length := by omega
            have hmw : IntKind.i64.wrap ((m : Int) + 1) = m + 1 := IntWalk.i64_in _ (by have := HLen.out.1; omega)
            go_wp2_with fail
            refine (Cost_any x _).mono ?_
            rintro e w4 ⟨rfl, hb4⟩
            clear a0 e0 e1 e2 e3 x0
            have a0 := (HA.out.old hb4).cell 0 rfl
            obtain ⟨ad2, ha2, e0, e1, e2, e3⟩ := (HC.out.old (bthen HLW.out hb4)).l.cell hml
            rw [← HXx.out] at e0 e1 e2 e3
            have HAd2 := Lib.hid ha2
            subst ha2
            go_wp2_with fail
            refine (rCost_any x _).mono ?_
            rintro e w5 ⟨rfl, hb5⟩
            have HB5 := Lib.hid (bthen HL.out (bthen hb4 hb5))
            clear a0 e0 e1 e2 e3 hb4 hb5
            go_wp2_with fail
            exact ⟨⟨m + 1, by omega, by go_num, HB5.out⟩, by show c.l.length - ((m : Int) + 1).toNat < c.l.length - (m : Int).toNat; omega⟩
          · clear HA1 HX1 HD1 HLW1 HL
            by_cases g1 : 0 ≤ at_
            · by_cases g2 : at_ < c.l.length
              · by_cases g3 : by_ = 0
                · subst g3
                  go_wp2_with (first | (go_at_call 9; refine (sane_any _).mono ?_; rintro e w3 ⟨rfl, hb3⟩))
                  go_ret
                  exact ⟨rfl, bthen HLW.out hb3⟩
                · obtain ⟨k, rfl⟩ : ∃ k : Nat, at_ = k := ⟨at_.toNat, by omega⟩
                  have hkn : k < c.l.length := by omega
                  have a1 := HA.out.cell 1 rfl
                  go_wp2_with fail
                  refine (to_any _ lo lc ho hc c (HC.out.old HLW.out) HLen.out.1 HLen.out.2).mono ?_
                  rintro e w6 ⟨lo6, lc6, ho6, hc6, rfl, hb6, o6, p6⟩
                  obtain ⟨gl, rfl⟩ := ownsRow_some o6 (by omega)
                  obtain ⟨lgl, bgl, fgl, cgl⟩ := own_cells o6
                  have hne : ∀ g, ho6 = some ⟨g, 0, none⟩ → ¬ (g = gl) := by
                    rintro g rfl h; subst h
                    rcases o6.2 with ⟨h0, _⟩ | ⟨_, _, _, hv, _, hh, _⟩
                    · cases h0
                    · cases hv
                      exact blk_not_own (show Blk w6 g _ 53 from hh) p6 (by decide) rfl
                  have q2' := cgl (k * 4 + 2) _ (flat_get c.l k hkn 2 (by omega))
                  have f2 := fgl (k * 4 + 2)
                  obtain ⟨y, hy⟩ : ∃ y, y = (c.l.getD k default).b := ⟨_, rfl⟩
                  have q2 : w6.cell? ⟨gl, k * 4 + 2, none⟩ = some (.int .i64 y) := by rw [hy]; exact q2'
                  have HY := Lib.hid hy
                  have HX6 := Lib.hid (HX.out.old hb6)
                  have HD6 := Lib.hid (HD.out.old hb6)
                  have HL6 := Lib.hid (bthen HLW.out hb6)
                  have lD5 := HX.out.lt
                  have hDgl : ¬ (D = gl) := by omega
                  have d0 : w6.cell? ⟨D, 0, none⟩ = some (.slice lo2 c.l.length lc2) := HX6.out.cell 0 rfl
                  have d1 : w6.cell? ⟨D, 1, none⟩ = some (.slice ho2 c.h.length hc2) := HX6.out.cell 1 rfl
                  have lD := HX6.out.lt
                  have HO6 := Lib.hid o6
                  have HP6 := Lib.hid p6
                  have HB6 := Lib.hid hb6
                  have HNe := Lib.hid hne
                  clear o6 p6 hb6 fgl cgl a0 a1 hy hne q2'
                  obtain ⟨X, hX⟩ : ∃ X, X = w6.heap.size := ⟨_, rfl⟩
                  go_wp2_with fail
                  have hxn := xor_ne y by_ HBy.out.1 HBy.out.2 g3
                  obtain ⟨v, hv⟩ : ∃ v, v = bits .xor .i64 y by_ := ⟨_, rfl⟩
                  rw [← hv] at hxn
                  obtain ⟨w8, hw8⟩ : ∃ w8, w8 = (w6.setCell ⟨gl, k * 4 + 2, none⟩ (.int .i64 v)) := ⟨_, rfl⟩
                  have hb8 : Below wr.heap.size wr w8 := by subst hw8; exact HB6.out.setCell (p := ⟨gl, k * 4 + 2, none⟩) bgl _
                  have o8 : w8.ownsRow wr.heap.size 53 4 (.slice (some ⟨gl, 0, none⟩) c.l.length lc6) c.l.length (flat (c.l.set k { c.l.getD k default with b := v })) := by
                    subst hw8; rw [← flat_setB _ _ _ hkn]
                    exact own_set HO6.out _ _
                  have p8 : w8.ownsRow wr.heap.size 3 1 (.slice ho6 c.h.length hc6) c.h.length (c.h.map (Value.int .i64)) := by
                    subst hw8
                    refine ownsRow_setCell_other HP6.out ?_ _
                    intro h
                    rcases HP6.out.2 with ⟨h0, _⟩ | ⟨g, _, _, h0, _⟩
                    · rw [h0] at h; simp [Value.ownBlock] at h
                    · cases h0
                      simp [Value.ownBlock] at h
                      exact HNe.out g rfl h
                  have hs8 : w8.heap.size = w6.heap.size := by subst hw8; simp
                  rw [← hv, ← hw8]
                  have hX9 : Blk (w8.alloc (.cells #[.slice (some ⟨gl, 0, none⟩) c.l.length lc6, .slice ho6 c.h.length hc6] 30)) X #[.slice (some ⟨gl, 0, none⟩) c.l.length lc6, .slice ho6 c.h.length hc6] 30 := Blk.new' _ _ (by rw [hX, hs8])
                  have hb9 := hb8.alloc hb8.size (.cells #[.slice (some ⟨gl, 0, none⟩) c.l.length lc6, .slice ho6 c.h.length hc6] 30)
                  have hcd9 : CdAt (w8.alloc (.cells #[.slice (some ⟨gl, 0, none⟩) c.l.length lc6, .slice ho6 c.h.length hc6] 30)) (some ⟨gl, 0, none⟩) lc6 ho6 hc6 (flipC c k v) :=
                    ⟨by show SlA _ 4 _ (c.l.set k _).length _ _; rw [List.length_set]; exact (ownsRow_slA o8).2.alloc _, (ownsRow_slA p8).2.alloc _⟩
                  rw [← hX]
                  generalize (w8.alloc (.cells #[.slice (some ⟨gl, 0, none⟩) c.l.length lc6, .slice ho6 c.h.length hc6] 30)) = w9 at hX9 hb9 hcd9 ⊢
                  have HL9 := Lib.hid (bthen HLW.out hb9)
                  have HD9 := Lib.hid (HD.out.old hb9)
                  have HXd9 := Lib.hid (HX.out.old hb9)
                  have HX9 := Lib.hid hX9
                  have HC9 := Lib.hid hcd9
                  have HFl := Lib.hid (flip_ne hkn (by rw [← HY.out]; exact hxn))
                  clear hw8 hb8 o8 p8 hs8 hX9 hb9 hcd9 q2 f2 d0 d1 lD hDgl hX HO6 HP6 HB6 HX6 HD6 HL6 lgl bgl lD5 w8 hv hxn HNe
                  have he1 := Equal_any w9 lo2 lc2 ho2 hc2 (some ⟨gl, 0, none⟩) lc6 ho6 hc6 c (flipC c k v) HD9.out HC9.out (by have := HLen.out.1; omega) (by have := HLen.out.2; omega)
                  rw [show (flipC c k v).l.length = c.l.length by simp [flipC], show (flipC c k v).h.length = c.h.length from rfl, show (decide (c.l = (flipC c k v).l) && decide (c.h = (flipC c k v).h)) = false by rw [decide_eq_false HFl.out]; rfl] at he1
                  refine he1.mono ?_
                  clear he1
                  rintro e w10 ⟨rfl, hb10⟩
                  have HL10 := Lib.hid (bthen HL9.out hb10)
                  have x0 : w10.cell? ⟨X, 0, none⟩ = some (.slice (some ⟨gl, 0, none⟩) c.l.length lc6) := (HX9.out.old hb10).cell 0 rfl
                  have x1 : w10.cell? ⟨X, 1, none⟩ = some (.slice ho6 c.h.length hc6) := (HX9.out.old hb10).cell 1 rfl
                  have d0 : w10.cell? ⟨D, 0, none⟩ = some (.slice lo2 c.l.length lc2) := (HXd9.out.old hb10).cell 0 rfl
                  have d1 : w10.cell? ⟨D, 1, none⟩ = some (.slice ho2 c.h.length hc2) := (HXd9.out.old hb10).cell 1 rfl
                  have he2 := Equal_any w10 (some ⟨gl, 0, none⟩) lc6 ho6 hc6 lo2 lc2 ho2 hc2 (flipC c k v) c (HC9.out.old hb10) (HD9.out.old hb10) (by have := HLen.out.1; simp [flipC]; omega) (by have := HLen.out.2; show c.h.length ≤ _; omega)
                  rw [show (flipC c k v).l.length = c.l.length by simp [flipC], show (flipC c k v).h.length = c.h.length from rfl, show (decide ((flipC c k v).l = c.l) && decide ((flipC c k v).h = c.h)) = false by rw [decide_eq_false (fun h => HFl.out h.symm)]; rfl] at he2
                  have HE2 := Lib.hid he2
                  clear he2 hb10 HL9 HD9 HXd9 HX9 HC9 HFl
                  go_wp2_with fail
                  refine HE2.out.mono ?_
                  rintro e w11 ⟨rfl, hb11⟩
                  have HL11 := Lib.hid (bthen HL10.out hb11)
                  clear hb11 HE2
                  go_wp2_with (first | (go_at_call 9; refine (sane_any _).mono ?_; rintro e w12 ⟨rfl, hb12⟩))
                  go_ret
                  exact ⟨rfl, bthen HL11.out hb12⟩
              · go_wp2_with (first | (go_at_call 9; refine (sane_any _).mono ?_; rintro e w3 ⟨rfl, hb3⟩))
                go_ret
                exact ⟨rfl, bthen HLW.out hb3⟩
            · go_wp2_with (first | (go_at_call 9; refine (sane_any _).mono ?_; rintro e w3 ⟨rfl, hb3⟩))
              go_ret
              exact ⟨rfl, bthen HLW.out hb3⟩
  · go_wp2_with (first | (go_at_call 9; refine (sane_any _).mono ?_; rintro e w2 ⟨rfl, hb2⟩))
    go_ret
    exact ⟨rfl, bthen HL1.out hb2⟩

end Go.Proofs.Ytignlfcjlbijaaa
