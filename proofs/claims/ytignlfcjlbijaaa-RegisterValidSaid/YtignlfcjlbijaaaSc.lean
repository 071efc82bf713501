/- What can be reached (the reference's Reached). -/
import Derived.Test.YtignlfcjlbijaaaSb
namespace Go.Proofs.Ytignlfcjlbijaaa
open Go.RowKit

theorem rfol_mem {c : Cd} (hv : codeV c = true) {i : Nat} (hi : i < c.l.length) {j : Nat} (hj : j < c.l.length) : (j : Int) ∈ rfolV c i ↔ j ∈ folV c i := by
  obtain ⟨v1, v2, v3, v4, v5⟩ := codeV_ins hv
  have hx := v4 _ hi
  have hz := v5 _ hi
  simp only [inB, Bool.and_eq_true, decide_eq_true_eq] at hz
  have hn : (j : Int) = (i : Int) + 1 ↔ j ∈ nxV c i := by
    unfold nxV; split
    · simp only [List.mem_singleton]; omega
    · simp only [List.not_mem_nil, iff_false]; omega
  have hh : (j : Int) = c.h.getD i 0 ↔ j ∈ hdV c i := by
    unfold hdV; split
    · simp only [List.mem_singleton]; omega
    · simp only [List.not_mem_nil, iff_false]; omega
  have ha : (c.l.getD i default).d = 4 ∨ (c.l.getD i default).d = 5 ∨ (c.l.getD i default).d = 8 → 0 ≤ (c.l.getD i default).a := by
    intro h
    unfold insV at hx
    rcases h with h | h | h <;> simp only [h] at hx <;> simp [inB] at hx <;> simp only [List.getD_eq_getElem?_getD] <;> omega
  unfold rfolV folV
  dsimp only
  generalize c.h.getD i 0 = z at hh
  generalize c.l.getD i default = x at ha
  split
  · simp
  split
  · rename_i h; have := ha (.inl h); simp only [List.mem_singleton]; omega
  split
  · rename_i h
    have := ha (.inr h)
    simp only [List.mem_cons, List.not_mem_nil, or_false]
    rw [hn]
    constructor
    · rintro (h1 | h1)
      · exact .inl (by omega)
      · exact .inr h1
    · rintro (h1 | h1)
      · exact .inl (by omega)
      · exact .inr h1
  split
  · simp only [List.mem_singleton]; exact hh
  split
  · simp only [List.mem_cons, List.not_mem_nil, or_false, List.mem_append]; rw [hh, hn]
  · simp only [List.mem_singleton]; exact hn

theorem count_le_set {bs : List Bool} {j : Nat} (hj : j < bs.length) (hb : bs.getD j false = false) : (bs.set j true).count false < bs.count false := by have := count_set hj hb; omega

/-- what the marks keep to -/
structure Mks (c : Cd) (bs : List Bool) : Prop where
  len : bs.length = c.l.length
  mark : ∀ i, bs.getD i false = true → Reach c i
  zero : bs.getD 0 false = true
def Clo (c : Cd) (bs : List Bool) (n : Nat) : Prop := ∀ i, i < n → bs.getD i false = true → ∀ j ∈ folV c i, bs.getD j false = true
theorem Mks.done {c : Cd} (hv : codeV c = true) {bs : List Bool} (h : Mks c bs) (hc : Clo c bs c.l.length) (i : Nat) : bs.getD i false = true ↔ Reach c i := by
  refine ⟨h.mark i, fun hr => ?_⟩
  have : i < c.l.length ∧ bs.getD i false = true := by
    induction hr with
    | zero => exact ⟨(codeV_ins hv).1, h.zero⟩
    | step _ hj ih => exact ⟨folV_lt hv ih.1 hj, hc _ ih.1 ih.2 _ hj⟩
  exact this.2
theorem Mks.set {c : Cd} {bs : List Bool} (h : Mks c bs) {j : Nat} (hj : j < c.l.length) (hr : Reach c j) : Mks c (bs.set j true) := by
  have hjb : j < bs.length := by rw [h.len]; exact hj
  refine ⟨by simp [h.len], fun i hi => ?_, ?_⟩
  · rw [getD_setB _ _ _ hjb] at hi
    split at hi
    · subst_vars; exact hr
    · exact h.mark i hi
  · rw [getD_setB _ _ _ hjb]
    split
    · rfl
    · exact h.zero
theorem Clo.next {c : Cd} {bs : List Bool} {i : Nat} (h : Clo c bs i) (hi : bs.getD i false = true → ∀ j ∈ folV c i, bs.getD j false = true) : Clo c bs (i + 1) := by
  intro i' hi'
  by_cases he : i' < i
  · exact h i' he
  · obtain rfl : i' = i := by omega
    exact hi

set_option maxHeartbeats 8000000 in
theorem rReached_any (W : World) (lo : Option Addr) (lc : Nat) (ho : Option Addr) (hc : Nat) (c : Cd) (hcd : CdAt W lo lc ho hc c) (hv : codeV c = true) :
    Calls Try.prog 20 #[.agg #[.slice lo c.l.length lc, .slice ho c.h.length hc]] W fun e w' => ∃ (O : Nat) (bs : List Bool), e = .returned (.tuple #[.slice (some ⟨O, 0, none⟩) c.l.length c.l.length, .int .i64 0]) ∧ Below W.heap.size W w' ∧ W.heap.size ≤ O ∧ Blk w' O (bs.map Value.bool).toArray 4 ∧ bs.length = c.l.length ∧ ∀ i, bs.getD i false = true ↔ Reach c i := by
  obtain ⟨B, hB⟩ : ∃ B, B = W.heap.size := ⟨_, rfl⟩
  obtain ⟨v1, v2, v3, v4, v5⟩ := codeV_ins hv
  have HC := Lib.hid hcd
  have HV := Lib.hid hv
  have HV1 := Lib.hid v1
  have HV2 := Lib.hid v2
  have v1i : (0 : Int) < c.l.length := by omega
  clear hcd hv v3 v4 v5 v1 v2
  go_enter Try.func20, Try.ntmps20
  go_wp2_with fail
  have hb0 := (Below.refl W.heap.size W).alloc (Nat.le_refl _) (.cells #[.slice lo c.l.length lc, .slice ho c.h.length hc] 25)
  have hA0 := Blk.new' (w := W) #[.slice lo c.l.length lc, .slice ho c.h.length hc] 25 hB
  refine (rValid_any _ lo lc ho hc c (HC.out.old hb0)).mono ?_
  rw [HV.out]
  rintro e w1 ⟨rfl, hb1⟩
  have hA1 := hA0.old hb1
  have a0 : w1.cell? ⟨B, 0, none⟩ = some (.slice lo c.l.length lc) := hA1.cell 0 rfl
  have lB := hA1.lt
  have HA1 := Lib.hid hA1
  have HL1 := Lib.hid (bthen hb0 hb1)
  rw [← hB]
  have HB := Lib.hid hB
  clear hb0 hA0 hb1 hA1 hB
  obtain ⟨O, hO⟩ : ∃ O, O = w1.heap.size := ⟨_, rfl⟩
  have hmk := run_make_row' (P := Try.prog) 49 4 (.bool false) 1 Try.underlying49 (by kernel_rfl) rfl .i64 .i64 c.l.length (by have := HV2.out; omega) (by have := HV2.out; omega)
  rw [made_rep] at hmk
  go_upto_region 4 with fail
  clear hmk a0 lB
  have hblk : Blk (w1.alloc (.cells (Array.replicate c.l.length (Value.bool false)) 4)) O ((List.replicate c.l.length false).map Value.bool).toArray 4 := by
    rw [List.map_replicate, List.toArray_replicate]; exact Blk.new' _ _ hO
  have hbl := HL1.out.alloc HL1.out.size (.cells (Array.replicate c.l.length (Value.bool false)) 4)
  have hA2 := HA1.out.alloc (.cells (Array.replicate c.l.length (Value.bool false)) 4)
  have hBO : B < O := by rw [hO]; exact HA1.out.lt
  have hWO : W.heap.size ≤ O := by rw [hO]; exact HL1.out.size
  rw [← hO]
  generalize (w1.alloc (.cells (Array.replicate c.l.length (Value.bool false)) 4)) = w2 at hblk hbl hA2 ⊢
  have o0 : w2.cell? ⟨O, 0, none⟩ = some (.bool false) := hblk.cell 0 (by rw [List.map_replicate]; simp only [List.getElem?_toArray, List.getElem?_replicate, if_pos (show 0 < c.l.length from HV1.out)])
  have f0 := hblk.frozen 0
  have lO := hblk.lt
  have hblk2 := hblk.set 0 (.bool true)
  rw [List.setIfInBounds_toArray, ← List.map_set] at hblk2
  have hA3 := hA2.other (a := ⟨O, 0, none⟩) (by show B ≠ O; omega) (.bool true)
  have hL3 := hbl.setCell (p := ⟨O, 0, none⟩) hWO (.bool true)
  have hM0 : Mks c ((List.replicate c.l.length false).set 0 true) := by
    refine ⟨by simp, fun i hi => ?_, ?_⟩
    · rw [getD_setB _ _ _ (by simp; exact HV1.out)] at hi
      split at hi
      · subst_vars; exact .zero
      · simp [List.getD_eq_getElem?_getD, List.getElem?_replicate] at hi; split at hi <;> simp at hi
    · rw [getD_setB _ _ _ (by simp; exact HV1.out)]; simp
  have H3 := Lib.hid (And.intro hM0 (And.intro hblk2 (And.intro hA3 hL3)))
  clear hblk hbl hA2 hblk2 hA3 hL3 hM0 HL1 HA1 hO
  go_wp2_with fail
  go_loopw [5] (fun p wr => ∃ (q : Bool) (bs : List Bool), p = .bool q ∧ Mks c bs ∧ (q = false → Clo c bs c.l.length) ∧ Blk wr O (bs.map Value.bool).toArray 4 ∧ Blk wr B #[.slice lo c.l.length lc, .slice ho c.h.length hc] 25 ∧ Below W.heap.size W wr)
    (fun p w => (match p with | .bool true => 1 | _ => 0) + 2 * cf w.heap[O]?)
  case atStart => exact ⟨true, _, rfl, H3.out.1, (fun h => by cases h), H3.out.2.1, H3.out.2.2.1, H3.out.2.2.2⟩
  case round =>
    clear H3 o0 f0 lO w2 w1
    obtain ⟨q, bs, rfl, hm, hq, hO1, hA1, hL1⟩ := hrel
    have HM := Lib.hid hm
    have HQ := Lib.hid hq
    have HO := Lib.hid hO1
    have HA := Lib.hid hA1
    have HL := Lib.hid hL1
    clear hm hq hO1 hA1 hL1
    rcases q with _ | _
    · go_wp2_with fail
      exact bodyPost_ret (v := .tuple #[.slice (some ⟨O, 0, none⟩) c.l.length c.l.length, .int .i64 0]) (by simp [results, Try.results20, go_sem]) rfl ⟨O, rfl, HL.out, hWO, bs, HO.out, HM.out.len, fun i => HM.out.done HV.out (HQ.out (by simp)) i⟩
    · clear HQ
      go_wp2_with fail
      go_loopw [5, 6] (fun p i w2 => ∃ (q : Bool) (bs2 : List Bool) (k : Nat), p = .bool q ∧ i = .int .i64 k ∧ k ≤ c.l.length ∧ Mks c bs2 ∧ (q = false → bs2 = bs ∧ Clo c bs k) ∧ (q = true → bs2.count false < bs.count false) ∧ Blk w2 O (bs2.map Value.bool).toArray 4 ∧ Blk w2 B #[.slice lo c.l.length lc, .slice ho c.h.length hc] 25 ∧ Below W.heap.size W w2)
        (fun _ i _ => c.l.length - (intOf i).toNat)
      case atStart => exact ⟨false, bs, 0, rfl, rfl, by omega, HM.out, fun _ => ⟨rfl, fun i hi => by omega⟩, (fun h => by cases h), HO.out, HA.out, HL.out⟩
      case round =>
        obtain ⟨q, bs2, k, rfl, rfl, hk, hm2, hq1, hq2, hO2, hA2, hL2⟩ := hrel
        have HM2 := Lib.hid hm2
        have HQ1 := Lib.hid hq1
        have HQ2 := Lib.hid hq2
        have HO2 := Lib.hid hO2
        have HA2 := Lib.hid hA2
        have HL2 := Lib.hid hL2
        clear hm2 hq1 hq2 hO2 hA2 hL2
        by_cases hkl : k < c.l.length
        · have hkb : k < bs2.length := by rw [HM2.out.len]; exact hkl
          have hkw : IntKind.i64.wrap ((k : Int) + 1) = k + 1 := IntWalk.i64_in _ (by have := HV2.out; omega)
          have hkl2 : (k : Int) < c.l.length := by omega
          have ok := HO2.out.cell k (v := .bool (bs2.getD k false)) (by simp [List.getD_eq_getElem?_getD, hkb])
          rcases hbk : bs2.getD k false with _ | _
          · rw [hbk] at ok
            have HBK := Lib.hid hbk
            clear hbk
            go_wp2_with fail
            refine ⟨⟨q, bs2, k + 1, rfl, by go_num, by omega, HM2.out, fun h => ?_, HQ2.out, HO2.out, HA2.out, HL2.out⟩, by show c.l.length - ((k : Int) + 1).toNat < c.l.length - (k : Int).toNat; omega⟩
            obtain ⟨e1, e2⟩ := HQ1.out h
            exact ⟨e1, e2.next (fun h2 => by rw [← e1, HBK.out] at h2; cases h2)⟩
          · rw [hbk] at ok
            have HBK := Lib.hid hbk
            clear hbk
            have b0 := HA2.out.cell 0 rfl
            have b1 := HA2.out.cell 1 rfl
            go_wp2_with fail
            refine (rfollows_any _ lo lc ho hc c (HC.out.old HL2.out) HV.out k hkl).mono ?_
            rintro e w3 ⟨fo, fc, rfl, hb3, ho3⟩
            have HF := Lib.hid (own_mono ho3 (show O + 1 ≤ _ from HO2.out.lt))
            have HO3 := Lib.hid (HO2.out.old hb3)
            have HA3 := Lib.hid (HA2.out.old hb3)
            have HL3 := Lib.hid (bthen HL2.out hb3)
            have hflen : (rfolV c k).length ≤ 2 := by unfold rfolV; dsimp only; repeat' split
                                                      all_goals simp
            clear ho3 hb3 ok b0 b1
            have hrk : Reach c k := HM2.out.mark k HBK.out
            have HRk := Lib.hid hrk
            clear hrk
            go_wp2_with fail
            go_loopw [5, 8] (fun p i w4 => ∃ (q2 : Bool) (bs3 : List Bool) (m : Nat), p = .bool q2 ∧ i = .int .i64 m ∧ m ≤ (rfolV c k).length ∧ Mks c bs3 ∧ (q2 = false → q = false ∧ bs3 = bs2 ∧ ∀ m', m' < m → ∀ j : Nat, j < c.l.length → (rfolV c k).getD m' 0 = j → bs3.getD j false = true) ∧ (q2 = true → bs3.count false < bs.count false) ∧ Blk w4 O (bs3.map Value.bool).toArray 4 ∧ Blk w4 B #[.slice lo c.l.length lc, .slice ho c.h.length hc] 25 ∧ Below W.heap.size W w4 ∧ w4.ownsRow (O+1) 3 1 (.slice fo (rfolV c k).length fc) (rfolV c k).length ((rfolV c k).map (Value.int .i64)))
              (fun _ i _ => (rfolV c k).length - (intOf i).toNat)
            case atStart => exact ⟨q, bs2, 0, rfl, rfl, by omega, HM2.out, fun h => ⟨h, rfl, fun _ hm => by omega⟩, HQ2.out, HO3.out, HA3.out, HL3.out, HF.out⟩
            case round =>
              obtain ⟨q2, bs3, m, rfl, rfl, hm, hm3, hq3, hq4, hO3, hA3, hL3, hF3⟩ := hrel
              have HM3 := Lib.hid hm3
              have HQ3 := Lib.hid hq3
              have HQ4 := Lib.hid hq4
              have HO4 := Lib.hid hO3
              have HA4 := Lib.hid hA3
              have HL4 := Lib.hid hL3
              have HF4 := Lib.hid hF3
              clear hm3 hq3 hq4 hO3 hA3 hL3 hF3 HF HO3 HA3 HL3
              by_cases hml : m < (rfolV c k).length
              · obtain ⟨ad, had, e0⟩ := (ownsRow_slA HF4.out).2.ints.2 m hml
                obtain ⟨z, hz⟩ : ∃ z, z = (rfolV c k).getD m 0 := ⟨_, rfl⟩
                rw [← hz] at e0
                have hzm : z ∈ rfolV c k := by rw [hz, List.getD_eq_getElem?_getD, List.getElem?_eq_getElem hml]; exact List.getElem_mem hml
                have HZM := Lib.hid hzm
                have HZ := Lib.hid hz
                have HAd := Lib.hid had
                subst had
                clear hz hzm
                have hml2 : (m : Int) < (rfolV c k).length := by omega
                have hmw : IntKind.i64.wrap ((m : Int) + 1) = m + 1 := IntWalk.i64_in _ (by omega)
                by_cases hzr : 0 ≤ z ∧ z < c.l.length
                · obtain ⟨hz1, hz2⟩ := hzr
                  obtain ⟨zn, rfl⟩ : ∃ zn : Nat, z = zn := ⟨z.toNat, by omega⟩
                  have hznl : zn < c.l.length := by omega
                  have hznb : zn < bs3.length := by rw [HM3.out.len]; exact hznl
                  have oz := HO4.out.cell zn (v := .bool (bs3.getD zn false)) (by simp [List.getD_eq_getElem?_getD, hznb])
                  have fz := HO4.out.frozen zn
                  have lO := HO4.out.lt
                  rcases hbz : bs3.getD zn false with _ | _
                  · rw [hbz] at oz
                    have HBZ := Lib.hid hbz
                    clear hbz
                    go_wp2_with fail
                    have hO5 := HO4.out.set zn (.bool true)
                    rw [List.setIfInBounds_toArray, ← List.map_set] at hO5
                    have hcn := count_le_set hznb HBZ.out
                    have hrz : Reach c zn := .step HRk.out ((rfol_mem HV.out hkl hznl).1 HZM.out)
                    refine ⟨⟨true, bs3.set zn true, m + 1, rfl, by go_num, by omega, HM3.out.set hznl hrz, (fun h => by cases h), fun _ => ?_, hO5, HA4.out.other (by show B ≠ O; omega) _, HL4.out.setCell (p := ⟨O, zn, none⟩) hWO _, ?_⟩, by show (rfolV c k).length - ((m : Int) + 1).toNat < (rfolV c k).length - (m : Int).toNat; omega⟩
                    · rcases hq2 : q2 with _ | _
                      · obtain ⟨h1, h2, h3⟩ := HQ3.out hq2
                        have e : bs3.count false = bs.count false := by rw [h2, (HQ1.out h1).1]
                        omega
                      · have := HQ4.out hq2
                        omega
                    · exact ownsRow_setCell_below HF4.out (a := ⟨O, zn, none⟩) (by show O < O + 1; omega) _
                  · rw [hbz] at oz
                    have HBZ := Lib.hid hbz
                    clear hbz
                    go_wp2_with fail
                    refine ⟨⟨q2, bs3, m + 1, rfl, by go_num, by omega, HM3.out, fun h => ?_, HQ4.out, HO4.out, HA4.out, HL4.out, HF4.out⟩, by show (rfolV c k).length - ((m : Int) + 1).toNat < (rfolV c k).length - (m : Int).toNat; omega⟩
                    obtain ⟨h1, h2, h3⟩ := HQ3.out h
                    refine ⟨h1, h2, fun m' hm' j hj he => ?_⟩
                    by_cases hmm : m' < m
                    · exact h3 m' hmm j hj he
                    · obtain rfl : m' = m := by omega
                      rw [← HZ.out] at he
                      obtain rfl : zn = j := by omega
                      exact HBZ.out
                · by_cases hz1 : 0 ≤ z
                  · have hz2 : ¬ (z < c.l.length) := fun h => hzr ⟨hz1, h⟩
                    clear hzr
                    go_wp2_with fail
                    refine ⟨⟨q2, bs3, m + 1, rfl, by go_num, by omega, HM3.out, fun h => ?_, HQ4.out, HO4.out, HA4.out, HL4.out, HF4.out⟩, by show (rfolV c k).length - ((m : Int) + 1).toNat < (rfolV c k).length - (m : Int).toNat; omega⟩
                    obtain ⟨h1, h2, h3⟩ := HQ3.out h
                    refine ⟨h1, h2, fun m' hm' j hj he => ?_⟩
                    by_cases hmm : m' < m
                    · exact h3 m' hmm j hj he
                    · obtain rfl : m' = m := by omega
                      rw [← HZ.out] at he
                      omega
                  · clear hzr
                    go_wp2_with fail
                    refine ⟨⟨q2, bs3, m + 1, rfl, by go_num, by omega, HM3.out, fun h => ?_, HQ4.out, HO4.out, HA4.out, HL4.out, HF4.out⟩, by show (rfolV c k).length - ((m : Int) + 1).toNat < (rfolV c k).length - (m : Int).toNat; omega⟩
                    obtain ⟨h1, h2, h3⟩ := HQ3.out h
                    refine ⟨h1, h2, fun m' hm' j hj he => ?_⟩
                    by_cases hmm : m' < m
                    · exact h3 m' hmm j hj he
                    · obtain rfl : m' = m := by omega
                      rw [← HZ.out] at he
                      omega
              · go_wp2_with fail
                refine ⟨⟨q2, bs3, k + 1, rfl, by go_num, by omega, HM3.out, fun h => ?_, HQ4.out, HO4.out, HA4.out, HL4.out⟩, by show c.l.length - ((k : Int) + 1).toNat < c.l.length - (k : Int).toNat; omega⟩
                obtain ⟨h1, h2, h3⟩ := HQ3.out h
                have e : bs3 = bs := h2.trans (HQ1.out h1).1
                refine ⟨e, (HQ1.out h1).2.next fun _ j hj => ?_⟩
                have hjl := folV_lt HV.out hkl hj
                obtain ⟨m', hm', he⟩ := List.mem_iff_getElem.1 ((rfol_mem HV.out hkl hjl).2 hj)
                have := h3 m' (by omega) j hjl (by simp [List.getD_eq_getElem?_getD, hm', he])
                rw [e] at this
                exact this
        · have hkn : k = c.l.length := by omega
          go_wp2_with fail
          have c1 := cf_blk HO2.out
          have c2 := cf_blk HO.out
          refine ⟨⟨q, bs2, rfl, HM2.out, fun h => ?_, HO2.out, HA2.out, HL2.out⟩, ?_⟩
          · obtain ⟨h1, h2⟩ := HQ1.out h
            rw [h1, ← hkn]; exact h2
          · rw [c1, c2]
            rcases q with _ | _
            · obtain ⟨h1, h2⟩ := HQ1.out rfl
              rw [h1]
              show 0 + 2 * _ < 1 + 2 * _
              omega
            · have := HQ2.out rfl
              show 1 + 2 * _ < 1 + 2 * _
              omega

end Go.Proofs.Ytignlfcjlbijaaa
