/- Joined texts. The first: The reference's Check of a module. -/
import Derived.Test.YtkdamjpbnmbeoaaGreatG12
import Derived.BigRegion
import Derived.Test.YtkdamjpbnmbeoaaGreatG11
set_option linter.all false
set_option linter.unusedVariables false
set_option linter.unusedSimpArgs false
section
namespace Go.Proofs.YtkdamjpbnmbeoaaGreat
open Go.RowKit
attribute [local go_sem] World.cell?_alloc_some

theorem mthV_own {m : Md} {k : Nat} (h : mthV m k = true) : -1 ≤ m.own k ∧ m.own k < m.cl.length := by
  simp only [mthV, Bool.and_eq_true, decide_eq_true_eq] at h
  unfold Md.own
  rw [Int.toNat_natCast]
  exact ⟨h.1.1.1.1.1.1.1.1, h.1.1.1.1.1.1.1.2⟩
def alikeP (m : Md) (l : List Int) (t : Int) : Bool := decide ((m.me.getD t.toNat default).r = (m.me.getD (l.getD 0 0).toNat default).r) && decide ((m.me.getD t.toNat default).p = (m.me.getD (l.getD 0 0).toNat default).p)
theorem alikeV_eq (m : Md) (s : Nat) : alikeV m s = (tgtV m s).all (alikeP m (tgtV m s)) := rfl
theorem alike_no {m : Md} {l : List Int} {j : Nat} (hj : j < l.length) (h : alikeP m l (l.getD j 0) = false) : l.all (alikeP m l) = false :=
  List.all_eq_false.2 ⟨l.getD j 0, by rw [List.getD_eq_getElem?_getD, List.getElem?_eq_getElem hj]; exact List.getElem_mem hj, by rw [h]; decide⟩
theorem alike_ok {m : Md} {l : List Int} (h : ∀ j, 0 < j → j < l.length → alikeP m l (l.getD j 0) = true) : l.all (alikeP m l) = true := by
  rw [List.all_eq_true]
  intro t ht
  obtain ⟨j, hj, rfl⟩ := List.getElem_of_mem ht
  have e : l.getD j 0 = l[j] := by rw [List.getD_eq_getElem?_getD, List.getElem?_eq_getElem hj]; rfl
  by_cases h0 : 0 < j
  · rw [← e]; exact h j h0 hj
  · obtain rfl : j = 0 := by omega
    rw [← e]; simp [alikeP]

set_option maxRecDepth 100000 in
set_option maxHeartbeats 20000000 in
theorem rCheck_any (m : Md) (h : Hd) (w : World) (H : ModAt w h m) : Calls Tryz.prog 15 #[.agg #[.slice h.co m.cl.length h.cc, .slice h.so m.st.length h.sc, .slice h.eo m.me.length h.ec, .int .i64 m.sel]] w (Ret w (.int .i64 (if modV m then 0 else 1))) := by
  have hX := Blk.new w #[.slice h.co m.cl.length h.cc, .slice h.so m.st.length h.sc, .slice h.eo m.me.length h.ec, .int .i64 m.sel] 26
  have hb0 : Below w.heap.size w (w.alloc (.cells #[.slice h.co m.cl.length h.cc, .slice h.so m.st.length h.sc, .slice h.eo m.me.length h.ec, .int .i64 m.sel] 26)) := by (repeat (first | exact Below.refl _ _ | assumption | refine bal ?_ _ | refine Below.drew ?_ | refine bdrewN ?_ _ | refine bthen ?_ (by assumption)))
  have HX := Lib.hid hX
  have HM := Lib.hid (H.old hb0)
  have HB0 := Lib.hid hb0
  have hbz := H.bz
  have hq : modV m = (sizesV m && ownsV m && (List.range m.cl.length).all (clsV m) && (List.range m.me.length).all (mthV m) && (List.range m.sel.toNat).all (alikeV m)) := rfl
  have hsz : sizesV m = (decide (m.cl.length ≤ 10) && decide (m.me.length ≤ 16) && decide (0 ≤ m.sel) && decide (m.sel ≤ 16) && decide (m.st.length ≤ 10) && tysV m.cl.length m.st) := rfl
  obtain ⟨qa, hqa⟩ : ∃ q, q = (if modV m then (0 : Int) else 1) := ⟨_, rfl⟩
  rw [← hqa]
  have HF : ∀ w' : World, modV m = false → Below w.heap.size w w' → Ret w (.int .i64 qa) (.returned (.int .i64 1)) w' := fun w' hf hb => ret_ok (int_eq (by rw [hqa, hf]; rfl)) hb
  have HT : ∀ w' : World, modV m = true → Below w.heap.size w w' → Ret w (.int .i64 qa) (.returned (.int .i64 0)) w' := fun w' hf hb => ret_ok (int_eq (by rw [hqa, hf]; rfl)) hb
  have HFa := Lib.hid HF
  have HTr := Lib.hid HT
  have HQ := Lib.hid hq
  have HSz := Lib.hid hsz
  clear hX H hb0 hqa hq hsz HF HT
  by_cases hsm : m.cl.length ≤ 10 ∧ m.st.length ≤ 10 ∧ m.me.length ≤ 16 ∧ 0 ≤ m.sel ∧ m.sel ≤ 16
  · obtain ⟨h1, h5, h2, h3, h4⟩ := hsm
    have i1 : ¬ (m.cl.length : Int) > 10 := by omega
    have i5 : ¬ (m.st.length : Int) > 10 := by omega
    have i2 : ¬ (m.me.length : Int) > 16 := by omega
    have i3 : ¬ m.sel < 0 := by omega
    have i4 : ¬ m.sel > 16 := by omega
    have hcl := fun w' hb => rClasses_any m h w' (ModAt.old HM.out hb) ⟨h1, h2, h3, h4⟩
    have hst := fun w' hb => rTypes_any m h m.st h.so h.sc w' ((HM.out.st).old hb) (by omega)
    generalize hqc : (List.range m.cl.length).all (clsV m) = qc at hcl
    generalize hqs : tysV m.cl.length m.st = qs at hst
    have HCl := Lib.hid hcl
    have HSt := Lib.hid hst
    have HQc := Lib.hid hqc
    have HQs := Lib.hid hqs
    clear hcl hst hqc hqs
    have hzz : (w.alloc (.cells #[.slice h.co m.cl.length h.cc, .slice h.so m.st.length h.sc, .slice h.eo m.me.length h.ec, .int .i64 m.sel] 26)).heap.size = w.heap.size + 1 := by simp
    go_enter Tryz.func15, Tryz.ntmps15
    go_upto_region 1 with fail
    generalize w.alloc _ = w0 at HX HM HB0 HCl HSt hzz ⊢
    have rc : ∀ w', Below w0.heap.size w0 w' → (w'.cell? ⟨w.heap.size, 0, none⟩ = some (.slice h.co m.cl.length h.cc) ∧ w'.cell? ⟨w.heap.size, 1, none⟩ = some (.slice h.so m.st.length h.sc) ∧ w'.cell? ⟨w.heap.size, 2, none⟩ = some (.slice h.eo m.me.length h.ec) ∧ w'.cell? ⟨w.heap.size, 3, none⟩ = some (.int .i64 m.sel)) ∧ w.heap.size < w'.heap.size := fun w' hb =>
      ⟨⟨(HX.out.old hb).cell 0 rfl, (HX.out.old hb).cell 1 rfl, (HX.out.old hb).cell 2 rfl, (HX.out.old hb).cell 3 rfl⟩, (HX.out.old hb).lt⟩
    have RC := Lib.hid rc
    obtain ⟨⟨r0, r1, r2, r3⟩, rl⟩ := rc w0 (Below.refl _ _)
    clear rc
    go_wp2_with fail
    refine (HCl.out _ (Below.refl _ _)).mono ?_
    rintro e1 w1 ⟨rfl, hb1⟩
    have HB1 := Lib.hid hb1
    clear r0 r1 r2 r3 rl hb1
    obtain ⟨⟨r0, r1, r2, r3⟩, rl⟩ := RC.out w1 HB1.out
    rcases qc with _ | _
    · go_wp2
      go_ret
      exact HFa.out _ (by rw [HQ.out, HQc.out]; simp) (bthen HB0.out HB1.out)
    have hclv : ∀ j, j < m.cl.length → clsV m j = true := all_range_iff.1 HQc.out
    have HCv := Lib.hid hclv
    clear hclv
    go_wp2_with fail
    refine (HSt.out _ HB1.out).mono ?_
    rintro e2 w2 ⟨rfl, hb2⟩
    have HB2 := Lib.hid (bthen HB1.out hb2)
    clear r0 r1 r2 r3 rl hb2
    rcases qs with _ | _
    · go_wp2
      go_ret
      exact HFa.out _ (by rw [HQ.out, HSz.out, HQs.out]; simp) (bthen HB0.out HB2.out)
    have hsok : sizesV m = true := by rw [HSz.out, HQs.out]; simp [h1, h2, h3, h4, h5]
    have HSok := Lib.hid hsok
    clear hsok
    go_wp2_with fail
    go_loopw [3] (fun i wr => ∃ k : Nat, k ≤ m.me.length ∧ i = .int .i64 k ∧ Below w0.heap.size w0 wr ∧ Hid (∀ i, i < k → mthV m i = true)) (fun i _ => m.me.length - (intOf i).toNat)
    case atStart => exact ⟨0, by omega, rfl, HB2.out, Lib.hid (by omega)⟩
    case round =>
      obtain ⟨k, hk, rfl, hbl, q1⟩ := hrel
      have HBl := Lib.hid hbl
      clear hbl
      obtain ⟨⟨r0, r1, r2, r3⟩, rl⟩ := RC.out wr HBl.out
      by_cases hkl : k < m.me.length
      · have hkl2 : (k : Int) < m.me.length := by omega
        have hwr : IntKind.i64.wrap ((k : Int) + 1) = k + 1 := IntWalk.i64_in _ (by omega)
        have hcall := rMethod_any m h k wr (HM.out.old HBl.out) hkl h1 (fun j hj => clsV_len (HCv.out j hj)) (fun j hj => (mthV_own (q1.out j hj)).1)
        generalize hqm : mthV m k = q at hcall
        have HC := Lib.hid hcall
        have HQm := Lib.hid hqm
        clear hcall hqm
        go_wp2_with fail
        refine HC.out.mono ?_
        rintro e3 w3 ⟨rfl, hb3⟩
        have HB3 := Lib.hid (bthen HBl.out hb3)
        clear hb3
        rcases q with _ | _
        · go_wp2
          go_ret
          exact HFa.out _ (by rw [HQ.out, all_range_no hkl HQm.out]; simp) (bthen HB0.out HB3.out)
        · go_wp2
          go_roundw
          case rel =>
            refine ⟨k + 1, by omega, by go_num, HB3.out, Lib.hid fun i hi => ?_⟩
            by_cases hik : i < k
            · exact q1.out i hik
            · obtain rfl : i = k := by omega
              exact HQm.out
          case measure => simp [intOf]; omega
      · obtain rfl : k = m.me.length := by omega
        have HMv := Lib.hid q1.out
        clear q1
        obtain ⟨wo, rfl⟩ : ∃ wo : World, wo = wr := ⟨_, rfl⟩
        go_wp2_with fail
        go_loopw [4] (fun i wr => ∃ s : Nat, (s : Int) ≤ m.sel ∧ i = .int .i64 s ∧ Below w0.heap.size w0 wr ∧ Hid (∀ i, i < s → alikeV m i = true)) (fun i _ => m.sel.toNat - (intOf i).toNat)
        case atStart => exact ⟨0, by omega, rfl, HBl.out, Lib.hid (by omega)⟩
        case round =>
          obtain ⟨s, hs, rfl, hbl, q2⟩ := hrel
          have HBs := Lib.hid hbl
          clear hbl r0 r1 r2 r3 rl HBl
          obtain ⟨⟨r0, r1, r2, r3⟩, rl⟩ := RC.out wr HBs.out
          by_cases hss : (s : Int) < m.sel
          · have hwr : IntKind.i64.wrap ((s : Int) + 1) = s + 1 := IntWalk.i64_in _ (by omega)
            have hcall := rTargets_any m h s wr (HM.out.old HBs.out) ⟨by omega, hss⟩ h1 (fun j hj => clsV_len (HCv.out j hj))
            have htin := tgt_in HCv.out hss
            have hal := alikeV_eq m s
            have htl := tgtV_len m s
            generalize tgtV m s = l at hcall htin hal htl
            have HC := Lib.hid hcall
            have HTi := Lib.hid htin
            have HAl := Lib.hid hal
            clear hcall htin hal
            have hno : ∀ w', l.all (alikeP m l) = false → Below w0.heap.size w0 w' → Ret w (.int .i64 qa) (.returned (.int .i64 1)) w' := fun w' hf hb => HFa.out _ (by rw [HQ.out, all_range_no (show s < m.sel.toNat by omega) (by rw [HAl.out]; exact hf)]; simp) (bthen HB0.out hb)
            have HNo := Lib.hid hno
            clear hno
            go_wp2_with fail
            refine HC.out.mono ?_
            rintro e3 w3 ⟨⟨ao, cap, rfl, hr⟩, hb3⟩
            have HR := Lib.hid hr
            have HB3 := Lib.hid (bthen HBs.out hb3)
            clear hr hb3 r0 r1 r2 r3 rl
            obtain ⟨wo, rfl⟩ : ∃ wo : World, wo = wr := ⟨_, rfl⟩
            go_wp2_with fail
            go_loopw [6] (fun i wr => ∃ j : Nat, 1 ≤ j ∧ j ≤ l.length + 1 ∧ i = .int .i64 j ∧ Hid (Below w3.heap.size w3 wr) ∧ Hid (∀ i, 0 < i → i < j → i < l.length → alikeP m l (l.getD i 0) = true)) (fun i _ => l.length + 1 - (intOf i).toNat)
            case atStart => exact ⟨1, by omega, by omega, rfl, Lib.hid (Below.refl _ _), Lib.hid (by omega)⟩
            case round =>
              obtain ⟨j, hj1, hj2, rfl, HBj, q3⟩ := hrel
              have HBi := Lib.hid (bthen HB3.out HBj.out)
              by_cases hjl : j < l.length
              · as_aux_lemma =>
                have hwj : IntKind.i64.wrap ((j : Int) + 1) = j + 1 := IntWalk.i64_in _ (by omega)
                have hjl2 : (j : Int) < l.length := by omega
                have hl0 : (0 : Int) < l.length := by omega
                have hl1 : 0 < l.length := by omega
                obtain ⟨⟨r0, r1, r2, r3⟩, rl⟩ := RC.out wr HBi.out
                obtain ⟨al, rfl, t0⟩ := row_int (HR.out.old HBj.out) (i := 0) hl1
                obtain ⟨al', hal', t1⟩ := row_int (HR.out.old HBj.out) hjl
                obtain rfl := Option.some.inj hal'
                rw [show al.add 0 = al from by unfold Addr.add; simp] at t0
                have hu := HTi.out (l.getD 0 0) (by rw [List.getD_eq_getElem?_getD, List.getElem?_eq_getElem hl1]; exact List.getElem_mem hl1)
                have ht := HTi.out (l.getD j 0) (by rw [List.getD_eq_getElem?_getD, List.getElem?_eq_getElem hjl]; exact List.getElem_mem hjl)
                have hap : alikeP m l (l.getD j 0) = (decide ((m.me.getD (l.getD j 0).toNat default).r = (m.me.getD (l.getD 0 0).toNat default).r) && decide ((m.me.getD (l.getD j 0).toNat default).p = (m.me.getD (l.getD 0 0).toNat default).p)) := rfl
                have hno : alikeP m l (l.getD j 0) = false → ∀ w', Below w0.heap.size w0 w' → Ret w (.int .i64 qa) (.returned (.int .i64 1)) w' := fun hf w' hb => HNo.out w' (alike_no hjl hf) hb
                have hrl : alikeP m l (l.getD j 0) = true → ∀ i, 0 < i → i < j + 1 → i < l.length → alikeP m l (l.getD i 0) = true := fun hp i h0 hi hil => by
                  by_cases hij : i < j
                  · exact q3.out i h0 hij hil
                  · obtain rfl : i = j := by omega
                    exact hp
                generalize hua : l.getD 0 0 = u at t0 hu hap
                generalize hta : l.getD j 0 = t at t1 ht hap hno hrl
                obtain ⟨u, rfl⟩ : ∃ x : Nat, u = x := ⟨u.toNat, by omega⟩
                obtain ⟨t, rfl⟩ : ∃ x : Nat, t = x := ⟨t.toNat, by omega⟩
                have hu1 : u < m.me.length := by omega
                have ht1 : t < m.me.length := by omega
                have hu2 : (u : Int) < m.me.length := by omega
                have ht2 : (t : Int) < m.me.length := by omega
                have hplu := mthV_p (HMv.out u hu1)
                have hmm := HM.out.old HBi.out
                obtain ⟨am, heo, c0, c1, c2, c3, c4, c5, c6⟩ := hmm.mth ht1
                obtain ⟨am', heo', d0, d1, d2, d3, d4, d5, d6⟩ := hmm.mth hu1
                have hpt := hmm.p t ht1
                have hpu := hmm.p u hu1
                rw [Int.toNat_natCast, Int.toNat_natCast] at hap
                generalize hxt : m.me.getD t default = x at *
                generalize hxu : m.me.getD u default = y at *
                obtain ⟨nx, cx, px, lx, ⟨kx, rx⟩, kx'⟩ := x
                obtain ⟨ny, cy, py, ly, ⟨ky, ry⟩, ky'⟩ := y
                generalize h.e t = et at *
                generalize h.e u = eu at *
                obtain ⟨po, pc, lo, lc, ko, kc⟩ := et
                obtain ⟨po', pc', lo', lc', ko', kc'⟩ := eu
                rw [heo'] at heo
                obtain rfl := Option.some.inj heo
                rw [heo'] at r2
                dsimp only at *
                have HEo := Lib.hid heo'
                have HPT := Lib.hid hpt
                have HPU := Lib.hid hpu
                have HAp := Lib.hid hap
                have HNj := Lib.hid hno
                have HRl := Lib.hid hrl
                clear hpt hpu hxt hxu heo heo' hap hno hrl hua hta hmm hal' hu ht
                go_upto_region 17 with fail
                go_cut [7, 8] from 71 to 85 (fun x y wc => ∃ (X Y : Nat), x = .pointer (some ⟨X, 0, none⟩) ∧ y = .pointer (some ⟨Y, 0, none⟩) ∧ Blk wc X #[.string ny, .int .i64 cy, .slice po' py.length pc', .slice lo' ly.length lc', .int .i64 ky, .int .i64 ry, .slice ko' ky'.length kc'] 40 ∧ Blk wc Y #[.string nx, .int .i64 cx, .slice po px.length pc, .slice lo lx.length lc, .int .i64 kx, .int .i64 rx, .slice ko kx'.length kc] 40 ∧ Below wr.heap.size wr wc)
                case first =>
                  have hS : ∀ w', Below wr.heap.size wr w' → (fun w' : World => w'.cell? ⟨w.heap.size, 2, none⟩ = some (.slice (some am') m.me.length h.ec) ∧ w'.cell? al = some (.int .i64 u) ∧ w'.cell? (al.add j) = some (.int .i64 t) ∧ w'.cell? (am'.add (t * 7)) = some (.string nx) ∧ w'.cell? ⟨(am'.add (t * 7)).block, (am'.add (t * 7)).off + 1, none⟩ = some (.int .i64 cx) ∧ w'.cell? ⟨(am'.add (t * 7)).block, (am'.add (t * 7)).off + 2, none⟩ = some (.slice po px.length pc) ∧ w'.cell? ⟨(am'.add (t * 7)).block, (am'.add (t * 7)).off + 3, none⟩ = some (.slice lo lx.length lc) ∧ w'.cell? ⟨(am'.add (t * 7)).block, (am'.add (t * 7)).off + 4, none⟩ = some (.int .i64 kx) ∧ w'.cell? ⟨(am'.add (t * 7)).block, (am'.add (t * 7)).off + 5, none⟩ = some (.int .i64 rx) ∧ w'.cell? ⟨(am'.add (t * 7)).block, (am'.add (t * 7)).off + 6, none⟩ = some (.slice ko kx'.length kc) ∧ w'.cell? (am'.add (u * 7)) = some (.string ny) ∧ w'.cell? ⟨(am'.add (u * 7)).block, (am'.add (u * 7)).off + 1, none⟩ = some (.int .i64 cy) ∧ w'.cell? ⟨(am'.add (u * 7)).block, (am'.add (u * 7)).off + 2, none⟩ = some (.slice po' py.length pc') ∧ w'.cell? ⟨(am'.add (u * 7)).block, (am'.add (u * 7)).off + 3, none⟩ = some (.slice lo' ly.length lc') ∧ w'.cell? ⟨(am'.add (u * 7)).block, (am'.add (u * 7)).off + 4, none⟩ = some (.int .i64 ky) ∧ w'.cell? ⟨(am'.add (u * 7)).block, (am'.add (u * 7)).off + 5, none⟩ = some (.int .i64 ry) ∧ w'.cell? ⟨(am'.add (u * 7)).block, (am'.add (u * 7)).off + 6, none⟩ = some (.slice ko' ky'.length kc')) w' := fun w' hb => ⟨bcellV hb r2, bcellV hb t0, bcellV hb t1, bcellV hb c0, bcellV hb c1, bcellV hb c2, bcellV hb c3, bcellV hb c4, bcellV hb c5, bcellV hb c6, bcellV hb d0, bcellV hb d1, bcellV hb d2, bcellV hb d3, bcellV hb d4, bcellV hb d5, bcellV hb d6⟩
                  have HS := Lib.hid hS
                  clear hS
                  refine wp_mixO (fun w' : World => w'.cell? ⟨w.heap.size, 2, none⟩ = some (.slice (some am') m.me.length h.ec) ∧ w'.cell? al = some (.int .i64 u) ∧ w'.cell? (al.add j) = some (.int .i64 t) ∧ w'.cell? (am'.add (t * 7)) = some (.string nx) ∧ w'.cell? ⟨(am'.add (t * 7)).block, (am'.add (t * 7)).off + 1, none⟩ = some (.int .i64 cx) ∧ w'.cell? ⟨(am'.add (t * 7)).block, (am'.add (t * 7)).off + 2, none⟩ = some (.slice po px.length pc) ∧ w'.cell? ⟨(am'.add (t * 7)).block, (am'.add (t * 7)).off + 3, none⟩ = some (.slice lo lx.length lc) ∧ w'.cell? ⟨(am'.add (t * 7)).block, (am'.add (t * 7)).off + 4, none⟩ = some (.int .i64 kx) ∧ w'.cell? ⟨(am'.add (t * 7)).block, (am'.add (t * 7)).off + 5, none⟩ = some (.int .i64 rx) ∧ w'.cell? ⟨(am'.add (t * 7)).block, (am'.add (t * 7)).off + 6, none⟩ = some (.slice ko kx'.length kc) ∧ w'.cell? (am'.add (u * 7)) = some (.string ny) ∧ w'.cell? ⟨(am'.add (u * 7)).block, (am'.add (u * 7)).off + 1, none⟩ = some (.int .i64 cy) ∧ w'.cell? ⟨(am'.add (u * 7)).block, (am'.add (u * 7)).off + 2, none⟩ = some (.slice po' py.length pc') ∧ w'.cell? ⟨(am'.add (u * 7)).block, (am'.add (u * 7)).off + 3, none⟩ = some (.slice lo' ly.length lc') ∧ w'.cell? ⟨(am'.add (u * 7)).block, (am'.add (u * 7)).off + 4, none⟩ = some (.int .i64 ky) ∧ w'.cell? ⟨(am'.add (u * 7)).block, (am'.add (u * 7)).off + 5, none⟩ = some (.int .i64 ry) ∧ w'.cell? ⟨(am'.add (u * 7)).block, (am'.add (u * 7)).off + 6, none⟩ = some (.slice ko' ky'.length kc')) (.plain 0 (.plain 1 (.plain 2 (.plain 3 (.plain 4 (.plain 5 (.plain 6 (.plain 7 (.plain 8 (.plain 9 (.plain 10 (.plain 11 (.plain 12 (.plain 13 (.plain 14 (.two 15 16 (.one 16 (.one 17 (.one 18 .done))) (.one 15 (.one 17 (.one 18 .done))))))))))))))))))) (by kernel_rfl) (by kernel_rfl) (by intro c a d v w h; cases d <;> exact h) (HS.out wr.drew (Below.refl _ _).drew) ?_
                  clear r2 t0 t1 c0 c1 c2 c3 c4 c5 c6 d0 d1 d2 d3 d4 d5 d6
                  repeat (refine wpMixO_plain ?_; simp only [opAt, List.getD_cons_zero, List.getD_cons_succ]; (first | (apply Exists.intro; refine ⟨Or.inl ⟨by rfl, ?_⟩, ?_⟩; focus (intro w hSw; (try dsimp only at hSw); go_simp; (try with_reducible rfl); done)) | (refine ⟨_, Or.inr ⟨by rfl, rfl⟩, ?_⟩)); (try simp only [Act.put, List.setIfInBounds_toArray, List.set_cons_zero, List.set_cons_succ]))

                  refine wpMixO_two ?_ ?_
                  all_goals
                    refine wpOp_one _ (by rfl) (by rfl) fun K hK => ?_
                    go_simp
                    refine hK _ _ ⟨HS.out _ (by (repeat (first | exact Below.refl _ _ | assumption | refine bal ?_ _ | refine Below.drew ?_ | refine bdrewN ?_ _ | refine bthen ?_ (by assumption)))), ?_⟩
                    clear hK K
                    refine wpMixO_one ?_
                    refine wpOp_one _ (by rfl) (by rfl) fun K hK => ?_
                    go_simp
                    refine hK _ _ ⟨HS.out _ (by (repeat (first | exact Below.refl _ _ | assumption | refine bal ?_ _ | refine Below.drew ?_ | refine bdrewN ?_ _ | refine bthen ?_ (by assumption)))), ?_⟩
                    clear hK K
                    refine wpMixO_one ?_
                    refine wpOp_one _ (by rfl) (by rfl) fun K hK => ?_
                    go_simp
                    refine hK _ _ ⟨HS.out _ (by (repeat (first | exact Below.refl _ _ | assumption | refine bal ?_ _ | refine Below.drew ?_ | refine bdrewN ?_ _ | refine bthen ?_ (by assumption)))), ?_⟩
                    clear hK K
                    refine wpMixO_one ?_
                    refine wpOp_one _ (by rfl) (by rfl) fun K hK => ?_
                    go_simp
                    refine hK _ _ ⟨HS.out _ (by (repeat (first | exact Below.refl _ _ | assumption | refine bal ?_ _ | refine Below.drew ?_ | refine bdrewN ?_ _ | refine bthen ?_ (by assumption)))), ?_⟩
                    clear hK K
                    refine wpMixO_done ?_
                    go_wp2_with fail
                    go_meet
                    refine ⟨_, _, rfl, rfl, ?_, ?_, ?_⟩
                    · repeat (first | (refine Blk.new' _ _ ?_; simp; done) | refine Blk.drew ?_ | refine Blk.alloc ?_ _)
                    · repeat (first | (refine Blk.new' _ _ ?_; simp; done) | refine Blk.drew ?_ | refine Blk.alloc ?_ _)
                    · (repeat (first | exact Below.refl _ _ | assumption | refine bal ?_ _ | refine Below.drew ?_ | refine bdrewN ?_ _ | refine bthen ?_ (by assumption)))
                case rest =>
                  obtain ⟨X, Y, rfl, rfl, hX, hY, hb⟩ := hcut
                  have hXc := hX
                  have HE := Lib.hid (rSameTypes_any py px po' po pc' pc wc (HPU.out.old hb) (HPT.out.old hb) (by omega))
                  have x2 : wc.cell? ⟨X, 2, none⟩ = some (.slice po' py.length pc') := hX.cell 2 rfl
                  have y2 : wc.cell? ⟨Y, 2, none⟩ = some (.slice po px.length pc) := hY.cell 2 rfl
                  have xl := hX.lt
                  have yl := hY.lt
                  have HX5 := Lib.hid hX
                  have HY5 := Lib.hid hY
                  have HBc := Lib.hid (bthen HBi.out hb)
                  have HBcj := Lib.hid (bthen HBj.out hb)
                  clear hX hY hb c0 c1 c2 c3 c4 c5 c6 d0 d1 d2 d3 d4 d5 d6 t0 t1 r0 r1 r2 r3 rl hXc
                  go_wp2_with fail
                  refine HE.out.mono ?_
                  rintro e5 w5 ⟨rfl, hb5⟩
                  have x4 : w5.cell? ⟨X, 4, none⟩ = some (.int .i64 ky) := (HX5.out.old hb5).cell 4 rfl
                  have x5 : w5.cell? ⟨X, 5, none⟩ = some (.int .i64 ry) := (HX5.out.old hb5).cell 5 rfl
                  have y4 : w5.cell? ⟨Y, 4, none⟩ = some (.int .i64 kx) := (HY5.out.old hb5).cell 4 rfl
                  have y5 : w5.cell? ⟨Y, 5, none⟩ = some (.int .i64 rx) := (HY5.out.old hb5).cell 5 rfl
                  have xl := (HX5.out.old hb5).lt
                  have yl := (HY5.out.old hb5).lt
                  have HB5 := Lib.hid (bthen HBc.out hb5)
                  have HB5j := Lib.hid (bthen HBcj.out hb5)
                  clear hb5 x2 y2
                  have hne := neqTy
                  have hgu := guardTy
                  by_cases hpp : py = px
                  · have hpd : decide (py = px) = true := decide_eq_true hpp
                    have HPp := Lib.hid hpp
                    clear hpp
                    go_wp2
                    all_goals first
                      | (go_ret
                         refine HNj.out ?_ _ HB5.out
                         rw [HAp.out]
                         simp only [Ty.mk.injEq]
                         grind)
                      | (go_roundw
                         case rel =>
                           refine ⟨j + 1, by omega, by omega, by go_num, Lib.hid HB5j.out, Lib.hid (HRl.out ?_)⟩
                           rw [HAp.out, HPp.out]
                           simp only [Ty.mk.injEq]
                           grind
                         case measure => simp [intOf]; omega)
                  · have hpd : decide (py = px) = false := decide_eq_false hpp
                    have HPp := Lib.hid hpp
                    clear hpp
                    go_wp2
                    go_ret
                    refine HNj.out ?_ _ HB5.out
                    have h9 : ¬ px = py := fun h => HPp.out h.symm
                    rw [HAp.out]
                    simp [h9]
              · have hjl2 : ¬ (j : Int) < l.length := by omega
                have hok : alikeV m s = true := by rw [HAl.out]; exact alike_ok fun i h0 hi => q3.out i h0 (by omega) hi
                have hrel2 : ∀ i, i < s + 1 → alikeV m i = true := fun i hi => by
                  by_cases his : i < s
                  · exact q2.out i his
                  · obtain rfl : i = s := by omega
                    exact hok
                have HRl := Lib.hid hrel2
                clear hok hrel2
                go_wp2
                go_roundw
                case rel => exact ⟨s + 1, by omega, by go_num, HBi.out, Lib.hid HRl.out⟩
                case measure => simp [intOf]; omega
          · have hsel : m.sel.toNat = s := by omega
            have hown : ownsV m = true := all_range_ok fun i hi => by
              have := mthV_own (HMv.out i hi)
              simp only [Bool.and_eq_true, decide_eq_true_eq]
              exact this
            have hall : modV m = true := by rw [HQ.out, HSok.out, hown, HQc.out, all_range_ok HMv.out, hsel, all_range_ok q2.out]; rfl
            have HAll := Lib.hid hall
            clear hall hown hsel
            go_wp2
            go_ret
            exact HTr.out _ HAll.out (bthen HB0.out HBs.out)
  · have hno : modV m = false := by rw [HQ.out, HSz.out]; grind
    have HNo := Lib.hid hno
    clear hno
    by_cases i1 : (m.cl.length : Int) > 10
    · go_enter Tryz.func15, Tryz.ntmps15
      go_wp2
      go_ret
      exact HFa.out _ HNo.out HB0.out
    by_cases i5 : (m.st.length : Int) > 10
    · go_enter Tryz.func15, Tryz.ntmps15
      go_wp2
      go_ret
      exact HFa.out _ HNo.out HB0.out
    by_cases i2 : (m.me.length : Int) > 16
    · go_enter Tryz.func15, Tryz.ntmps15
      go_wp2
      go_ret
      exact HFa.out _ HNo.out HB0.out
    by_cases i3 : m.sel < 0
    · go_enter Tryz.func15, Tryz.ntmps15
      go_wp2
      go_ret
      exact HFa.out _ HNo.out HB0.out
    have i4 : m.sel > 16 := by omega
    go_enter Tryz.func15, Tryz.ntmps15
    go_wp2
    go_ret
    exact HFa.out _ HNo.out HB0.out

end Go.Proofs.YtkdamjpbnmbeoaaGreat
end

section
namespace Go.Proofs.YtkdamjpbnmbeoaaGreat
open Go.RowKit

theorem cls_all {m : Md} (hm : modV m = true) : Desc m m.cl.length := desc_of (modV_clsN hm)
/-- P6.2's Fits -/
def fitsE (m : Md) (t u : Ty) : Bool × Int := if (modV m && isTy m.cl.length t 1 && isTy m.cl.length u 1) = true then (fitsV m t u, 0) else (false, 1)
theorem fitsE_yes {m : Md} {t u : Ty} (h : (fitsE m t u).2 = 0) : modV m = true ∧ tyOk m t ∧ tyOk m u ∧ fitsE m t u = (fitsV m t u, 0) := by
  unfold fitsE at h ⊢
  split at h
  · rename_i q
    simp only [Bool.and_eq_true] at q
    exact ⟨q.1.1, q.1.2, q.2, if_pos (by simp only [Bool.and_eq_true]; exact q)⟩
  · cases h
theorem fitsE_of {m : Md} {t u : Ty} (hm : modV m = true) (ht : tyOk m t) (hu : tyOk m u) : fitsE m t u = (fitsV m t u, 0) := by
  unfold fitsE
  rw [if_pos (by simp only [Bool.and_eq_true]; exact ⟨⟨hm, ht⟩, hu⟩)]
theorem above_refl (m : Md) (f : Nat) (a : Int) : aboveV m f a a = true := by
  cases f with
  | zero => simp [aboveV]
  | succ f => unfold aboveV; rw [if_neg (by omega)]; simp
theorem above_le {m : Md} {a b : Int} {f : Nat} (h : aboveV m f a b = true) : b ≤ a := by
  by_cases hl : a < b
  · rw [aboveV_lt hl] at h; cases h
  · omega
theorem above_trans {m : Md} {n : Nat} (hd : Desc m n) {b c : Int} (hb : 0 ≤ b) (hc : 0 ≤ c) (h2 : aboveV m (b.toNat + 1) b c = true) : ∀ (k : Nat) (a : Int), a < k → k ≤ n → 0 ≤ a → aboveV m (a.toNat + 1) a b = true → aboveV m (a.toNat + 1) a c = true := by
  intro k
  induction k with
  | zero => intro a ha _ h0; omega
  | succ k ih =>
    intro a ha hk h0 h1
    by_cases hab : a = b
    · subst hab; exact h2
    · have hle := above_le h1
      have hcb := above_le h2
      obtain ⟨h3, h4⟩ := hd a h0 (by omega)
      unfold aboveV at h1 ⊢
      rw [if_pos (by omega)] at h1 ⊢
      by_cases hs : 0 ≤ m.sup a
      · rw [aboveV_fuel hd hb (a := m.sup a) (f := a.toNat) (g := (m.sup a).toNat + 1) (by omega) (fun _ => by omega) (fun _ => by omega)] at h1
        rw [aboveV_fuel hd hc (a := m.sup a) (f := a.toNat) (g := (m.sup a).toNat + 1) (by omega) (fun _ => by omega) (fun _ => by omega)]
        exact ih (m.sup a) (by omega) (by omega) hs h1
      · rw [aboveV_lt (by omega)] at h1; cases h1
theorem fits_refl (m : Md) (t : Ty) : fitsV m t t = true := by
  unfold fitsV
  split
  · exact above_refl m _ _
  · simp
theorem fits_trans {m : Md} (hm : modV m = true) {t u v : Ty} (ht : tyOk m t) (hu : tyOk m u) (hv : tyOk m v) (h1 : fitsV m t u = true) (h2 : fitsV m u v = true) : fitsV m t v = true := by
  unfold fitsV at h1 h2 ⊢
  by_cases hq : t.k = 2 ∧ u.k = 2
  · rw [if_pos hq] at h1
    by_cases hr : u.k = 2 ∧ v.k = 2
    · rw [if_pos hr] at h2
      rw [if_pos ⟨hq.1, hr.2⟩]
      obtain ⟨a1, a2⟩ := ty_cls ht (.inl hq.1)
      obtain ⟨b1, b2⟩ := ty_cls hu (.inl hq.2)
      obtain ⟨c1, c2⟩ := ty_cls hv (.inl hr.2)
      exact above_trans (cls_all hm) b1 c1 h2 m.cl.length t.c a2 (Nat.le_refl _) a1 h1
    · rw [if_neg hr] at h2
      have h3 : u = v := of_decide_eq_true h2
      subst h3
      exact absurd ⟨hq.2, hq.2⟩ hr
  · rw [if_neg hq] at h1
    have h3 : t = u := of_decide_eq_true h1
    subst h3
    exact h2

set_option maxRecDepth 100000 in
set_option maxHeartbeats 1000000 in
theorem r6is_any (m : Md) (h : Hd) (t : Ty) (w : World) : Calls Tryz.prog 46 #[.agg #[.slice h.co m.cl.length h.cc, .slice h.so m.st.length h.sc, .slice h.eo m.me.length h.ec, .int .i64 m.sel], .agg #[.int .i64 t.k, .int .i64 t.c]] w (Ret w (.bool (isTy m.cl.length t 1))) := by
  go_enter Tryz.func46, Tryz.ntmps46
  go_wp2
  all_goals
    go_ret
    exact ret_ok (bool_eq (by grind [isTy])) (by (repeat (first | exact Below.refl _ _ | assumption | refine bal ?_ _ | refine Below.drew ?_ | refine bdrewN ?_ _ | refine bthen ?_ (by assumption))))
set_option maxRecDepth 100000 in
set_option maxHeartbeats 8000000 in
theorem vFits_any (m : Md) (h : Hd) (t u : Ty) (w : World) (H : ModAt w h m) : Calls Tryz.prog 21 #[.agg #[.slice h.co m.cl.length h.cc, .slice h.so m.st.length h.sc, .slice h.eo m.me.length h.ec, .int .i64 m.sel], .agg #[.int .i64 t.k, .int .i64 t.c], .agg #[.int .i64 u.k, .int .i64 u.c]] w (Ret2 w (.bool (fitsE m t u).1) (.int .i64 (fitsE m t u).2)) := by
  obtain ⟨W0, hW0⟩ : ∃ W0, W0 = ((w.alloc (.cells #[.slice h.co m.cl.length h.cc, .slice h.so m.st.length h.sc, .slice h.eo m.me.length h.ec, .int .i64 m.sel] 26)).alloc (.cells #[.int .i64 t.k, .int .i64 t.c] 38)).alloc (.cells #[.int .i64 u.k, .int .i64 u.c] 38) := ⟨_, rfl⟩
  have hb0 : Below w.heap.size w W0 := by rw [hW0]; (repeat (first | exact Below.refl _ _ | assumption | refine bal ?_ _ | refine Below.drew ?_ | refine bdrewN ?_ _ | refine bthen ?_ (by assumption)))
  have x0 : Blk W0 w.heap.size #[.slice h.co m.cl.length h.cc, .slice h.so m.st.length h.sc, .slice h.eo m.me.length h.ec, .int .i64 m.sel] 26 := by rw [hW0]; exact ((Blk.new w _ _).alloc _).alloc _
  have x1 : Blk W0 (w.heap.size + 1) #[.int .i64 t.k, .int .i64 t.c] 38 := by rw [hW0]; exact (Blk.new' (w := w.alloc _) _ _ (by simp)).alloc _
  have x2 : Blk W0 (w.heap.size + 2) #[.int .i64 u.k, .int .i64 u.c] 38 := by rw [hW0]; exact Blk.new' (w := (w.alloc _).alloc _) _ _ (by simp)
  have HX := Lib.hid (show ∀ w', Below W0.heap.size W0 w' → _ from fun w' hb => And.intro (blk4 (x0.old hb)) (And.intro (blk2 (x1.old hb)) (blk2 (x2.old hb))))
  have hC : ∀ w', Below W0.heap.size W0 w' → _ := fun w' hb' => lCheck_any m h w' (H.old (bthen hb0 hb'))
  have hT : ∀ w', Below W0.heap.size W0 w' → _ := fun w' _ => vIsType_any m h t w'
  have hU : ∀ w', Below W0.heap.size W0 w' → _ := fun w' _ => vIsType_any m h u w'
  obtain ⟨r, hr⟩ : ∃ r, r = fitsE m t u := ⟨_, rfl⟩
  rw [← hr]
  have hF : ∀ w', Below W0.heap.size W0 w' → _ := fun w' hb' => fits_any m h t u w' (H.old (bthen hb0 hb'))
  have hr2 : r = if (modV m && isTy m.cl.length t 1 && isTy m.cl.length u 1) = true then (fitG m t u, 0) else (false, 1) := by
    rw [hr]; unfold fitsE
    by_cases hq : (modV m && isTy m.cl.length t 1 && isTy m.cl.length u 1) = true
    · rw [if_pos hq, if_pos hq]
      simp only [Bool.and_eq_true] at hq
      rw [fitG_eq hq.1.1 hq.1.2 hq.2]
    · rw [if_neg hq, if_neg hq]
  clear hr
  generalize hx : modV m = x at hC hr2 
  generalize hy : isTy m.cl.length t 1 = y at hT hr2 
  generalize hz : isTy m.cl.length u 1 = z at hU hr2 
  generalize fitG m t u = g at hF hr2
  subst hr2
  have HC := Lib.hid hC
  have HT := Lib.hid hT
  have HU := Lib.hid hU
  have HF := Lib.hid hF
  have HW := Lib.hid hW0
  have HB0 := Lib.hid hb0
  clear hC hT hU hF H x0 x1 x2 hW0 hb0 hx hy hz
  have hcs : (x = false) ∨ (x = true ∧ y = false) ∨ (x = true ∧ y = true ∧ z = false) ∨ (x = true ∧ y = true ∧ z = true) := by cases x <;> cases y <;> cases z <;> simp
  rcases hcs with rfl | ⟨rfl, rfl⟩ | ⟨rfl, rfl, rfl⟩ | ⟨rfl, rfl, rfl⟩
  all_goals
    go_enter Tryz.func21, Tryz.ntmps21
    go_upto_region 1 with fail
    rw [← HW.out]
    obtain ⟨⟨c0, c1, c2, c3⟩, ⟨d0, d1⟩, e0, e1⟩ := HX.out _ (Below.refl _ _)
    go_wp2_with (first
      | (go_at_call 43; refine (HC.out _ (Below.refl _ _)).mono ?_; rintro e w1 ⟨rfl, hb1⟩; have HB1 := Lib.hid hb1; clear hb1 c0 c1 c2 c3 d0 d1 e0 e1; obtain ⟨⟨c0, c1, c2, c3⟩, ⟨d0, d1⟩, e0, e1⟩ := HX.out _ HB1.out)
      | (go_at_call 44; refine (HU.out _ HB2.out).mono ?_; rintro e w3 ⟨rfl, hb3⟩; have HB3 := Lib.hid (bthen HB2.out hb3); clear hb3 c0 c1 c2 c3 d0 d1 e0 e1; obtain ⟨⟨c0, c1, c2, c3⟩, ⟨d0, d1⟩, e0, e1⟩ := HX.out _ HB3.out)
      | (go_at_call 44; refine (HT.out _ HB1.out).mono ?_; rintro e w2 ⟨rfl, hb2⟩; have HB2 := Lib.hid (bthen HB1.out hb2); clear hb2 c0 c1 c2 c3 d0 d1 e0 e1; obtain ⟨⟨c0, c1, c2, c3⟩, ⟨d0, d1⟩, e0, e1⟩ := HX.out _ HB2.out)
      | (go_at_call 45; refine (HF.out _ HB3.out).mono ?_; rintro e w4 ⟨rfl, hb4⟩))
    go_ret2
    refine ret2_ok (by simp) (by simp) (bthen HB0.out ?_)
    first | exact bthen HB3.out hb4 | exact HB3.out | exact HB2.out | exact HB1.out
set_option maxRecDepth 100000 in
set_option maxHeartbeats 8000000 in
theorem rFits6_any (m : Md) (h : Hd) (t u : Ty) (w : World) (H : ModAt w h m) : Calls Tryz.prog 22 #[.agg #[.slice h.co m.cl.length h.cc, .slice h.so m.st.length h.sc, .slice h.eo m.me.length h.ec, .int .i64 m.sel], .agg #[.int .i64 t.k, .int .i64 t.c], .agg #[.int .i64 u.k, .int .i64 u.c]] w (Ret2 w (.bool (fitsE m t u).1) (.int .i64 (fitsE m t u).2)) := by
  obtain ⟨W0, hW0⟩ : ∃ W0, W0 = ((w.alloc (.cells #[.slice h.co m.cl.length h.cc, .slice h.so m.st.length h.sc, .slice h.eo m.me.length h.ec, .int .i64 m.sel] 26)).alloc (.cells #[.int .i64 t.k, .int .i64 t.c] 38)).alloc (.cells #[.int .i64 u.k, .int .i64 u.c] 38) := ⟨_, rfl⟩
  have hb0 : Below w.heap.size w W0 := by rw [hW0]; (repeat (first | exact Below.refl _ _ | assumption | refine bal ?_ _ | refine Below.drew ?_ | refine bdrewN ?_ _ | refine bthen ?_ (by assumption)))
  have x0 : Blk W0 w.heap.size #[.slice h.co m.cl.length h.cc, .slice h.so m.st.length h.sc, .slice h.eo m.me.length h.ec, .int .i64 m.sel] 26 := by rw [hW0]; exact ((Blk.new w _ _).alloc _).alloc _
  have x1 : Blk W0 (w.heap.size + 1) #[.int .i64 t.k, .int .i64 t.c] 38 := by rw [hW0]; exact (Blk.new' (w := w.alloc _) _ _ (by simp)).alloc _
  have x2 : Blk W0 (w.heap.size + 2) #[.int .i64 u.k, .int .i64 u.c] 38 := by rw [hW0]; exact Blk.new' (w := (w.alloc _).alloc _) _ _ (by simp)
  have HX := Lib.hid (show ∀ w', Below W0.heap.size W0 w' → _ from fun w' hb => And.intro (blk4 (x0.old hb)) (And.intro (blk2 (x1.old hb)) (blk2 (x2.old hb))))
  have hC : ∀ w', Below W0.heap.size W0 w' → _ := fun w' hb' => rCheck_any m h w' (H.old (bthen hb0 hb'))
  have hT : ∀ w', Below W0.heap.size W0 w' → _ := fun w' _ => r6is_any m h t w'
  have hU : ∀ w', Below W0.heap.size W0 w' → _ := fun w' _ => r6is_any m h u w'
  obtain ⟨r, hr⟩ : ∃ r, r = fitsE m t u := ⟨_, rfl⟩
  rw [← hr]
  have hF : ∀ w', Below W0.heap.size W0 w' → modV m = true → isTy m.cl.length t 1 = true → isTy m.cl.length u 1 = true → _ := fun w' hb' q0 q1 q2 => r6Fits_any m h t u w' (H.old (bthen hb0 hb')) (fun q => ty_cls q1 (.inl q)) (fun q => (ty_cls q2 (.inl q)).1) (cls_all q0)
  have hr2 : r = if (modV m && isTy m.cl.length t 1 && isTy m.cl.length u 1) = true then (fitsV m t u, 0) else (false, 1) := hr
  clear hr
  generalize hx : modV m = x at hC hr2 hF
  generalize hy : isTy m.cl.length t 1 = y at hT hr2 hF
  generalize hz : isTy m.cl.length u 1 = z at hU hr2 hF
  generalize fitsV m t u = g at hF hr2
  subst hr2
  have HC := Lib.hid hC
  have HT := Lib.hid hT
  have HU := Lib.hid hU
  have HF := Lib.hid hF
  have HW := Lib.hid hW0
  have HB0 := Lib.hid hb0
  clear hC hT hU hF H x0 x1 x2 hW0 hb0 hx hy hz
  have hcs : (x = false) ∨ (x = true ∧ y = false) ∨ (x = true ∧ y = true ∧ z = false) ∨ (x = true ∧ y = true ∧ z = true) := by cases x <;> cases y <;> cases z <;> simp
  rcases hcs with rfl | ⟨rfl, rfl⟩ | ⟨rfl, rfl, rfl⟩ | ⟨rfl, rfl, rfl⟩
  all_goals
    go_enter Tryz.func22, Tryz.ntmps22
    go_upto_region 1 with fail
    rw [← HW.out]
    obtain ⟨⟨c0, c1, c2, c3⟩, ⟨d0, d1⟩, e0, e1⟩ := HX.out _ (Below.refl _ _)
    go_wp2_with (first
      | (go_at_call 15; refine (HC.out _ (Below.refl _ _)).mono ?_; rintro e w1 ⟨rfl, hb1⟩; have HB1 := Lib.hid hb1; clear hb1 c0 c1 c2 c3 d0 d1 e0 e1; obtain ⟨⟨c0, c1, c2, c3⟩, ⟨d0, d1⟩, e0, e1⟩ := HX.out _ HB1.out)
      | (go_at_call 46; refine (HU.out _ HB2.out).mono ?_; rintro e w3 ⟨rfl, hb3⟩; have HB3 := Lib.hid (bthen HB2.out hb3); clear hb3 c0 c1 c2 c3 d0 d1 e0 e1; obtain ⟨⟨c0, c1, c2, c3⟩, ⟨d0, d1⟩, e0, e1⟩ := HX.out _ HB3.out)
      | (go_at_call 46; refine (HT.out _ HB1.out).mono ?_; rintro e w2 ⟨rfl, hb2⟩; have HB2 := Lib.hid (bthen HB1.out hb2); clear hb2 c0 c1 c2 c3 d0 d1 e0 e1; obtain ⟨⟨c0, c1, c2, c3⟩, ⟨d0, d1⟩, e0, e1⟩ := HX.out _ HB2.out)
      | (go_at_call 47; (first | refine (HF.out _ HB3.out).mono ?_ | refine (HF.out _ HB3.out trivial trivial trivial).mono ?_ | refine (HF.out _ HB3.out rfl rfl rfl).mono ?_); rintro e w4 ⟨rfl, hb4⟩))
    go_ret2
    refine ret2_ok (by simp) (by simp) (bthen HB0.out ?_)
    first | exact bthen HB3.out hb4 | exact HB3.out | exact HB2.out | exact HB1.out

end Go.Proofs.YtkdamjpbnmbeoaaGreat
end

section
namespace Go.Proofs.YtkdamjpbnmbeoaaGreat
open Go.RowKit

set_option maxRecDepth 100000 in
set_option maxHeartbeats 2000000 in
theorem vMeth_any (h : Hd) (m : Md) (at' : Int) (w : World) (HM : ModAt w h m) : Calls Tryz.prog 11 #[.agg #[.slice h.co m.cl.length h.cc, .slice h.so m.st.length h.sc, .slice h.eo m.me.length h.ec, .int .i64 m.sel], .int .i64 at'] w (RetM w (methodV m at')) := by
  have hI : ∀ w', Below w.heap.size w w' → _ := fun w' hb' => is_any m h at' w' (HM.old hb')
  have hP : (modV m && inV m.me.length at') = true → ∀ w', Below w.heap.size w w' → Calls Tryz.prog 34 #[.agg #[.slice h.co m.cl.length h.cc, .slice h.so m.st.length h.sc, .slice h.eo m.me.length h.ec, .int .i64 m.sel], .int .i64 at'] w' (RetM w' (methodV m at')) := fun q w' hb' => by
    simp only [Bool.and_eq_true, inV, decide_eq_true_eq] at q
    obtain ⟨k, rfl⟩ : ∃ k : Nat, at' = k := ⟨at'.toNat, by omega⟩
    have hk : k < m.me.length := by omega
    unfold methodV
    rw [if_pos ⟨q.1, by omega, by omega⟩, Int.toNat_natCast]
    exact vMethod_any h m k w' (HM.old hb') q.1 hk
  have hN : (modV m && inV m.me.length at') = false → methodV m at' = ([], 0, 1) := fun q => by
    unfold methodV
    rw [if_neg]
    rintro ⟨q1, q2, q3⟩
    simp [q1, inV, q2] at q
    omega
  generalize (modV m && inV m.me.length at') = x at hI hP hN
  generalize methodV m at' = r at hP hN ⊢
  have HI := Lib.hid hI
  have HP := Lib.hid hP
  have HN := Lib.hid hN
  have HX := Lib.hid (show ∀ w', Below (w.alloc (.cells #[.slice h.co m.cl.length h.cc, .slice h.so m.st.length h.sc, .slice h.eo m.me.length h.ec, .int .i64 m.sel] 26)).heap.size (w.alloc (.cells #[.slice h.co m.cl.length h.cc, .slice h.so m.st.length h.sc, .slice h.eo m.me.length h.ec, .int .i64 m.sel] 26)) w' → _ from fun w' hb => blk4 ((Blk.new w #[.slice h.co m.cl.length h.cc, .slice h.so m.st.length h.sc, .slice h.eo m.me.length h.ec, .int .i64 m.sel] 26).old hb))
  clear hI hP hN HM
  rcases x with _ | _
  · have h1 := HN.out rfl
    clear HP HN HX
    subst h1
    go_enter Tryz.func11, Tryz.ntmps11
    go_wp2_with (go_at_call 33; refine (HI.out _ (by (repeat (first | exact Below.refl _ _ | assumption | refine bal ?_ _ | refine Below.drew ?_ | refine bdrewN ?_ _ | refine bthen ?_ (by assumption))))).mono ?_; rintro e w1 ⟨rfl, hb1⟩)
    refine bodyPost_ret (v := .tuple #[.slice none 0 0, .int .i64 0, .int .i64 1]) (by simp [results, Tryz.results11, go_sem]) rfl ?_
    exact RetM.no w (by (repeat (first | exact Below.refl _ _ | assumption | refine bal ?_ _ | refine Below.drew ?_ | refine bdrewN ?_ _ | refine bthen ?_ (by assumption)))) 0 1
  · go_enter Tryz.func11, Tryz.ntmps11
    go_wp2_with (first
      | (go_at_call 33; refine (HI.out _ (by (repeat (first | exact Below.refl _ _ | assumption | refine bal ?_ _ | refine Below.drew ?_ | refine bdrewN ?_ _ | refine bthen ?_ (by assumption))))).mono ?_; rintro e w1 ⟨rfl, hb1⟩; obtain ⟨c0, c1, c2, c3⟩ := HX.out _ hb1)
      | (go_at_call 34; refine (HP.out trivial _ (by (repeat (first | exact Below.refl _ _ | assumption | refine bal ?_ _ | refine Below.drew ?_ | refine bdrewN ?_ _ | refine bthen ?_ (by assumption))))).mono ?_; rintro e w2 ⟨⟨so, sc, rows, rfl, hs⟩, hb2⟩))
    refine bodyPost_ret (v := .tuple #[.slice so rows.length sc, .int .i64 r.2.1, .int .i64 r.2.2]) (by simp [results, Tryz.results11, go_sem]) rfl ?_
    have hb0 : Below w.heap.size w w1 := bthen (by (repeat (first | exact Below.refl _ _ | assumption | refine bal ?_ _ | refine Below.drew ?_ | refine bdrewN ?_ _ | refine bthen ?_ (by assumption)))) hb1
    exact ⟨⟨so, sc, rows, rfl, ⟨own_baseV hs.own hb0.size, hs.len, hs.at_⟩⟩, bthen hb0 hb2⟩
theorem RowAt.alloc {α : Type} [Cells α] {w : World} {ao : Option Addr} {cap : Nat} {l : List α} (h : RowAt w ao cap l) (o : Obj) : RowAt (w.alloc o) ao cap l := h.old ((Below.refl _ _).alloc (Nat.le_refl _) o)
theorem row_built {α : Type} [Cells α] (W : World) (l : List α) (xs : Array Value) (e : TypeId) (hx : xs = (flatR l).toArray) : RowAt (W.alloc (.cells xs e)) (some ⟨W.heap.size, 0, none⟩) l.length l := by
  have h := sla_builtV W xs e (n := l.length) (size := Cells.n α) (by rw [hx]; simp [flatR_length])
  rw [hx] at h ⊢
  simpa [RowAt] using h
def saneM : Md := ⟨[], [], [⟨⟨#[]⟩, -1, [], [], ⟨1, 0⟩, [⟨1, 1, 0⟩, ⟨1, 2, 0⟩, ⟨6, 0, 0⟩]⟩, ⟨⟨#[]⟩, -1, [], [⟨1, 0⟩], ⟨0, 0⟩, [⟨2, 0, 0⟩, ⟨6, 0, 0⟩]⟩], 0⟩
def saneH (b : Nat) : Hd := ⟨none, 0, none, 0, some ⟨b + 1 + 1 + 1 + 1, 0, none⟩, 2, fun _ => default, fun i => if i = 0 then ⟨none, 0, none, 0, some ⟨b + 1, 0, none⟩, 3⟩ else ⟨none, 0, some ⟨b + 1 + 1, 0, none⟩, 1, some ⟨b + 1 + 1 + 1, 0, none⟩, 2⟩⟩
theorem sane_0 : methodV saneM 0 = ([[], [tInt], [tInt, tInt], [tInt]], 0, 0) := by kernel_rfl
theorem sane_1 : methodV saneM 1 = ([], 1, 12) := by kernel_rfl
theorem bls (w : World) (o : Obj) : (w.alloc o).heap.size = w.heap.size + 1 := by simp
theorem row_sh {w : World} {ao : Option Addr} {cap : Nat} {l : List SH} (h : RowAt w ao cap l) {i : Nat} (hi : i < l.length) : ∃ ad, ao = some ad ∧ w.cell? (ad.add i) = some (.slice (l.getD i default).ao (l.getD i default).n (l.getD i default).c) := by
  obtain ⟨ad, rfl⟩ := h.some (by omega)
  have hx : l.getD i default = l[i] := by simp [hi]
  rw [hx]
  have := h.cell hi 0 (v := .slice l[i].ao l[i].n l[i].c) rfl
  rw [show i * Cells.n SH = i from Nat.mul_one i] at this
  exact ⟨ad, rfl, this⟩
theorem lt_two {i : Nat} (h : i < 2) : i = 0 ∨ i = 1 := by omega
theorem sane_at (W : World) (e0 e1 e2 e3 e4 e5 : TypeId) (x5 : Array Value) : ModAt ((((((W.alloc (.cells #[.int .i64 1, .int .i64 0] e0)).alloc (.cells #[.int .i64 1, .int .i64 1, .int .i64 0, .int .i64 1, .int .i64 2, .int .i64 0, .int .i64 6, .int .i64 0, .int .i64 0] e1)).alloc (.cells #[.int .i64 1, .int .i64 0] e2)).alloc
    (.cells #[.int .i64 2, .int .i64 0, .int .i64 0, .int .i64 6, .int .i64 0, .int .i64 0] e3)).alloc (.cells #[.string ⟨#[]⟩, .int .i64 (-1), .slice none 0 0, .slice none 0 0, .int .i64 1, .int .i64 0, .slice (some ⟨W.heap.size + 1, 0, none⟩) 3 3, .string ⟨#[]⟩, .int .i64 (-1), .slice none 0 0, .slice (some ⟨W.heap.size + 1 + 1, 0, none⟩) 1 1, .int .i64 0, .int .i64 0, .slice (some ⟨W.heap.size + 1 + 1 + 1, 0, none⟩) 2 2] e4)).alloc (.cells x5 e5)) (saneH W.heap.size) saneM := by
  have r1 := row_built (W.alloc (.cells #[.int .i64 1, .int .i64 0] e0)) ([⟨1, 1, 0⟩, ⟨1, 2, 0⟩, ⟨6, 0, 0⟩] : List In3) _ e1 rfl
  have r2 := row_built ((W.alloc (.cells #[.int .i64 1, .int .i64 0] e0)).alloc (.cells #[.int .i64 1, .int .i64 1, .int .i64 0, .int .i64 1, .int .i64 2, .int .i64 0, .int .i64 6, .int .i64 0, .int .i64 0] e1)) ([⟨1, 0⟩] : List Ty) _ e2 rfl
  have r3 := row_built (((W.alloc (.cells #[.int .i64 1, .int .i64 0] e0)).alloc (.cells #[.int .i64 1, .int .i64 1, .int .i64 0, .int .i64 1, .int .i64 2, .int .i64 0, .int .i64 6, .int .i64 0, .int .i64 0] e1)).alloc (.cells #[.int .i64 1, .int .i64 0] e2)) ([⟨2, 0, 0⟩, ⟨6, 0, 0⟩] : List In3) _ e3 rfl
  have r4 := row_built ((((W.alloc (.cells #[.int .i64 1, .int .i64 0] e0)).alloc (.cells #[.int .i64 1, .int .i64 1, .int .i64 0, .int .i64 1, .int .i64 2, .int .i64 0, .int .i64 6, .int .i64 0, .int .i64 0] e1)).alloc (.cells #[.int .i64 1, .int .i64 0] e2)).alloc (.cells #[.int .i64 2, .int .i64 0, .int .i64 0, .int .i64 6, .int .i64 0, .int .i64 0] e3)) (rowsM (saneH W.heap.size) saneM) _ e4 rfl
  rw [bls] at r1
  rw [bls, bls] at r2
  rw [bls, bls, bls] at r3
  rw [bls, bls, bls, bls] at r4
  refine ⟨RowAt.nil _, RowAt.nil _, r4.alloc _, fun i hi => absurd hi (Nat.not_lt_zero i), fun i hi => absurd hi (Nat.not_lt_zero i), fun i hi => ?_, fun i hi => ?_, fun i hi => ?_, fun i hi => absurd hi (Nat.not_lt_zero i), fun i hi => ?_, ⟨by decide, by decide, by decide⟩⟩
  · rcases lt_two hi with rfl | rfl <;> exact RowAt.nil _
  · rcases lt_two hi with rfl | rfl
    · exact RowAt.nil _
    · exact ((r2.alloc _).alloc _).alloc _
  · rcases lt_two hi with rfl | rfl
    · exact (((r1.alloc _).alloc _).alloc _).alloc _
    · exact (r3.alloc _).alloc _
  · rcases lt_two hi with rfl | rfl <;> exact ⟨by decide, by decide, by decide⟩
set_option maxRecDepth 100000 in
set_option maxHeartbeats 8000000 in
theorem sane6_any (W : World) : Calls Tryz.prog 14 #[] W (Ret W (.bool true)) := by
  go_enter Tryz.func14, Tryz.ntmps14
  go_wp2_with fail
  have hM := sane_at W 38 42 38 42 40 26 #[.slice none 0 0, .slice none 0 0, .slice (some ⟨W.heap.size + 1 + 1 + 1 + 1, 0, none⟩) 2 2, .int .i64 0]
  obtain ⟨W5, hW5⟩ : ∃ W5, W5 = ((((((W.alloc (.cells #[.int .i64 1, .int .i64 0] 38)).alloc (.cells #[.int .i64 1, .int .i64 1, .int .i64 0, .int .i64 1, .int .i64 2, .int .i64 0, .int .i64 6, .int .i64 0, .int .i64 0] 42)).alloc (.cells #[.int .i64 1, .int .i64 0] 38)).alloc (.cells #[.int .i64 2, .int .i64 0, .int .i64 0, .int .i64 6, .int .i64 0, .int .i64 0] 42)).alloc (.cells #[.string ⟨#[]⟩, .int .i64 (-1), .slice none 0 0, .slice none 0 0, .int .i64 1, .int .i64 0, .slice (some ⟨W.heap.size + 1, 0, none⟩) 3 3, .string ⟨#[]⟩, .int .i64 (-1), .slice none 0 0, .slice (some ⟨W.heap.size + 1 + 1, 0, none⟩) 1 1, .int .i64 0, .int .i64 0, .slice (some ⟨W.heap.size + 1 + 1 + 1, 0, none⟩) 2 2] 40)).alloc (.cells #[.slice none 0 0, .slice none 0 0, .slice (some ⟨W.heap.size + 1 + 1 + 1 + 1, 0, none⟩) 2 2, .int .i64 0] 26)) := ⟨_, rfl⟩
  have hb0 : Below W.heap.size W W5 := by rw [hW5]; (repeat (first | exact Below.refl _ _ | assumption | refine bal ?_ _ | refine Below.drew ?_ | refine bdrewN ?_ _ | refine bthen ?_ (by assumption)))
  have hbt : Blk W5 W.heap.size #[.int .i64 1, .int .i64 0] 38 := by rw [hW5]; exact (((((Blk.new W _ _).alloc _).alloc _).alloc _).alloc _).alloc _
  have hbm : Blk W5 (W.heap.size + 1 + 1 + 1 + 1 + 1) #[.slice none 0 0, .slice none 0 0, .slice (some ⟨W.heap.size + 1 + 1 + 1 + 1, 0, none⟩) 2 2, .int .i64 0] 26 := by rw [hW5]; exact Blk.new' _ _ (by simp)
  rw [← hW5] at hM ⊢
  clear hW5
  have h1 := vMeth_any _ _ 0 _ hM
  rw [sane_0] at h1
  refine h1.mono ?_
  rintro r w1 ⟨⟨so, sc, rows, rfl, hs⟩, hb1⟩
  have hl : rows.length = 4 := hs.len
  obtain ⟨ad, rfl, q2⟩ := row_sh (RowAt.of_own hs.own) (i := 2) (by omega)
  obtain ⟨_, e3, q3⟩ := row_sh (RowAt.of_own hs.own) (i := 3) (by omega)
  cases e3
  have t2 := (hs.at_ 2 (by omega)).1
  have t3 := hs.at_ 3 (by omega)
  rw [hl]
  generalize rows.getD 2 default = x2 at q2 t2
  generalize rows.getD 3 default = x3 at q3 t3
  obtain ⟨a2, n2, c2⟩ := x2
  obtain ⟨a3, n3, c3⟩ := x3
  have e2 : n2 = 2 := t2
  have e3 : n3 = 1 := t3.1
  have t3' : TyAt w1 a3 c3 [tInt] := t3.2
  subst e2 e3
  obtain ⟨ad3, rfl, z0, z1⟩ := row_ty t3'.1 (i := 0) (by simp)
  have z0' : w1.cell? ad3 = some (.int .i64 1) := z0
  have z1' : w1.cell? ⟨ad3.block, ad3.off + 1, none⟩ = some (.int .i64 0) := z1
  dsimp only at q2 q3
  have h2 := vMeth_any _ _ 1 _ (hM.old hb1)
  rw [sane_1] at h2
  have H2 := Lib.hid h2
  obtain ⟨m0, m1, m2, m3⟩ := (show w1.cell? ⟨W.heap.size + 1 + 1 + 1 + 1 + 1, 0, none⟩ = some (.slice none 0 0) ∧ w1.cell? ⟨W.heap.size + 1 + 1 + 1 + 1 + 1, 1, none⟩ = some (.slice none 0 0) ∧ w1.cell? ⟨W.heap.size + 1 + 1 + 1 + 1 + 1, 2, none⟩ = some (.slice (some ⟨W.heap.size + 1 + 1 + 1 + 1, 0, none⟩) 2 2) ∧ w1.cell? ⟨W.heap.size + 1 + 1 + 1 + 1 + 1, 3, none⟩ = some (.int .i64 0) from ⟨(hbm.old hb1).cell 0 rfl, (hbm.old hb1).cell 1 rfl, (hbm.old hb1).cell 2 rfl, (hbm.old hb1).cell 3 rfl⟩)
  have HX := Lib.hid (show ∀ w', Below w1.heap.size w1 w' → w'.cell? ⟨ad.block, ad.off + 2, none⟩ = some (.slice a2 2 c2) ∧ w'.cell? ⟨ad.block, ad.off + 3, none⟩ = some (.slice (some ad3) 1 c3) ∧ w'.cell? ad3 = some (.int .i64 1) ∧ w'.cell? ⟨ad3.block, ad3.off + 1, none⟩ = some (.int .i64 0) ∧ w'.cell? ⟨W.heap.size, 0, none⟩ = some (.int .i64 1) ∧ w'.cell? ⟨W.heap.size, 1, none⟩ = some (.int .i64 0) from
    fun w' hb => ⟨cell_bel hb q2, cell_bel hb q3, cell_bel hb z0', cell_bel hb z1', cell_bel hb ((hbt.old hb1).cell 0 rfl), cell_bel hb ((hbt.old hb1).cell 1 rfl)⟩)
  have HB1 := Lib.hid (bthen hb0 hb1)
  clear hb0 hb1 hbt hbm hM h1 h2 hs q2 q3 t2 t3 t3' z0 z1 z0' z1' hl
  go_wp2_with (go_at_call 11; refine H2.out.mono ?_; rintro r w3 ⟨⟨so, sc, rows, rfl, hs⟩, hb3⟩; have HB3 := Lib.hid hb3; clear hs hb3)
  refine wp_mixO (fun w' : World => w'.cell? ⟨ad.block, ad.off + 2, none⟩ = some (.slice a2 2 c2) ∧ w'.cell? ⟨ad.block, ad.off + 3, none⟩ = some (.slice (some ad3) 1 c3) ∧ w'.cell? ad3 = some (.int .i64 1) ∧ w'.cell? ⟨ad3.block, ad3.off + 1, none⟩ = some (.int .i64 0) ∧ w'.cell? ⟨W.heap.size, 0, none⟩ = some (.int .i64 1) ∧ w'.cell? ⟨W.heap.size, 1, none⟩ = some (.int .i64 0)) (.plain 0 (.plain 1 (.plain 2 (.plain 3 (.plain 4 (.plain 5 (.plain 6 (.plain 7 (.plain 8 (.plain 9 (.plain 10 (.plain 11 (.plain 12 (.plain 13 (.plain 14 (.plain 15 (.plain 16 (.plain 17 (.plain 18 (.plain 19 (.plain 20 (.plain 21 (.plain 22 (.plain 23 (.plain 24 (.plain 25 (.plain 26 (.plain 27 (.plain 28 (.plain 29 (.plain 30 (.plain 31 (.plain 32 (.plain 33 (.plain 34 (.plain 35 (.plain 36 (.plain 37 (.plain 38 .done))))))))))))))))))))))))))))))))))))))) (by kernel_rfl) (by kernel_rfl) (by intro c a d v w h; cases d <;> exact h) (HX.out _ (Below.drew HB3.out)) ?_
  repeat (refine wpMixO_plain ?_; simp only [opAt, List.getD_cons_zero, List.getD_cons_succ]; (first | (apply Exists.intro; refine ⟨Or.inl ⟨by rfl, ?_⟩, ?_⟩; focus (intro w hSw; (try dsimp only at hSw); go_simp; (try with_reducible rfl); done)) | (refine ⟨_, Or.inr ⟨by rfl, rfl⟩, ?_⟩)); (try simp only [Act.put, List.setIfInBounds_toArray, List.set_cons_zero, List.set_cons_succ]))
  refine wpMixO_done ?_
  go_wp2
  go_ret
  exact ret_ok rfl (Below.drew (bthen HB1.out HB3.out))

end Go.Proofs.YtkdamjpbnmbeoaaGreat
end

section
namespace Go.Proofs.YtkdamjpbnmbeoaaGreat
open Go.RowKit

set_option maxRecDepth 100000 in
set_option maxHeartbeats 4000000 in
theorem lawFits_any (W : World) (h : Hd) (m : Md) (H : ModAt W h m) (t u v : Ty) : Calls Tryz.prog 7 #[.agg #[.slice h.co m.cl.length h.cc, .slice h.so m.st.length h.sc, .slice h.eo m.me.length h.ec, .int .i64 m.sel], .agg #[.int .i64 t.k, .int .i64 t.c], .agg #[.int .i64 u.k, .int .i64 u.c], .agg #[.int .i64 v.k, .int .i64 v.c]] W (Ret W (.bool true)) := by
  obtain ⟨W0, hW0⟩ : ∃ W0, W0 = (((W.alloc (.cells #[.slice h.co m.cl.length h.cc, .slice h.so m.st.length h.sc, .slice h.eo m.me.length h.ec, .int .i64 m.sel] 26)).alloc (.cells #[.int .i64 t.k, .int .i64 t.c] 38)).alloc (.cells #[.int .i64 u.k, .int .i64 u.c] 38)).alloc (.cells #[.int .i64 v.k, .int .i64 v.c] 38) := ⟨_, rfl⟩
  have hb0 : Below W.heap.size W W0 := by rw [hW0]; (repeat (first | exact Below.refl _ _ | assumption | refine bal ?_ _ | refine Below.drew ?_ | refine bdrewN ?_ _ | refine bthen ?_ (by assumption)))
  have x0 : Blk W0 W.heap.size #[.slice h.co m.cl.length h.cc, .slice h.so m.st.length h.sc, .slice h.eo m.me.length h.ec, .int .i64 m.sel] 26 := by rw [hW0]; exact (((Blk.new W _ _).alloc _).alloc _).alloc _
  have x1 : Blk W0 (W.heap.size + 1) #[.int .i64 t.k, .int .i64 t.c] 38 := by rw [hW0]; exact ((Blk.new' (w := W.alloc _) _ _ (by simp)).alloc _).alloc _
  have x2 : Blk W0 (W.heap.size + 2) #[.int .i64 u.k, .int .i64 u.c] 38 := by rw [hW0]; exact (Blk.new' (w := (W.alloc _).alloc _) _ _ (by simp)).alloc _
  have x3 : Blk W0 (W.heap.size + 3) #[.int .i64 v.k, .int .i64 v.c] 38 := by rw [hW0]; exact Blk.new' (w := ((W.alloc _).alloc _).alloc _) _ _ (by simp)
  have HX := Lib.hid (show ∀ w', Below W0.heap.size W0 w' → _ from fun w' hb => And.intro (blk4 (x0.old hb)) (And.intro (blk2 (x1.old hb)) (And.intro (blk2 (x2.old hb)) (blk2 (x3.old hb)))))
  have h1 : ∀ w', Below W0.heap.size W0 w' → _ := fun w' hb' => vFits_any m h t u w' (H.old (bthen hb0 hb'))
  have h2 : ∀ w', Below W0.heap.size W0 w' → _ := fun w' hb' => rFits6_any m h t u w' (H.old (bthen hb0 hb'))
  have h3 : ∀ w', Below W0.heap.size W0 w' → _ := fun w' hb' => vFits_any m h u v w' (H.old (bthen hb0 hb'))
  have h4 : ∀ w', Below W0.heap.size W0 w' → _ := fun w' hb' => vFits_any m h t v w' (H.old (bthen hb0 hb'))
  have h5 : ∀ w', Below W0.heap.size W0 w' → _ := fun w' hb' => vFits_any m h t t w' (H.old (bthen hb0 hb'))
  have l1 : (fitsE m t u).2 = 0 → (fitsE m t t).1 = true ∧ (fitsE m t t).2 = 0 := fun q => by
    obtain ⟨q1, q2, _, _⟩ := fitsE_yes q
    rw [fitsE_of q1 q2 q2]
    exact ⟨fits_refl m t, rfl⟩
  have l2 : (fitsE m t u).2 = 0 → (fitsE m u v).2 = 0 → (fitsE m t u).1 = true → (fitsE m u v).1 = true → (fitsE m t v).1 = true ∧ (fitsE m t v).2 = 0 := fun q q' r r' => by
    obtain ⟨q1, q2, q3, q4⟩ := fitsE_yes q
    obtain ⟨_, _, q5, q6⟩ := fitsE_yes q'
    rw [q4] at r
    rw [q6] at r'
    rw [fitsE_of q1 q2 q5]
    exact ⟨fits_trans q1 q2 q3 q5 r r', rfl⟩
  generalize (fitsE m t u).1 = a at h1 h2 l1 l2
  generalize (fitsE m t u).2 = e at h1 h2 l1 l2
  generalize (fitsE m u v).1 = c at h3 l2
  generalize (fitsE m u v).2 = g at h3 l2
  generalize (fitsE m t v).1 = d at h4 l2
  generalize (fitsE m t v).2 = k at h4 l2
  generalize (fitsE m t t).1 = s at h5 l1
  generalize (fitsE m t t).2 = i at h5 l1
  have H1 := Lib.hid h1
  have H2 := Lib.hid h2
  have H3 := Lib.hid h3
  have H4 := Lib.hid h4
  have H5 := Lib.hid h5
  have L1 := Lib.hid l1
  have L2 := Lib.hid l2
  have HW := Lib.hid hW0
  have HB0 := Lib.hid hb0
  clear h1 h2 h3 h4 h5 l1 l2 x0 x1 x2 x3 hW0 hb0 H
  go_enter Tryz.func7, Tryz.ntmps7
  go_upto_region 1 with fail
  rw [← HW.out]
  obtain ⟨⟨c0, c1, c2, c3⟩, ⟨d0, d1⟩, ⟨e0, e1⟩, f0, f1⟩ := HX.out _ (Below.refl _ _)
  go_upto_region 3 with (first
    | (go_at_call 21; refine (H1.out _ (Below.refl _ _)).mono ?_; rintro r w1 ⟨rfl, hb1⟩; have HB1 := Lib.hid hb1; clear hb1 c0 c1 c2 c3 d0 d1 e0 e1 f0 f1; obtain ⟨⟨c0, c1, c2, c3⟩, ⟨d0, d1⟩, ⟨e0, e1⟩, f0, f1⟩ := HX.out _ HB1.out)
    | (go_at_call 22; refine (H2.out _ HB1.out).mono ?_; rintro r w2 ⟨rfl, hb2⟩; have HB2 := Lib.hid (bthen HB1.out hb2); clear hb2 c0 c1 c2 c3 d0 d1 e0 e1 f0 f1; obtain ⟨⟨c0, c1, c2, c3⟩, ⟨d0, d1⟩, ⟨e0, e1⟩, f0, f1⟩ := HX.out _ HB2.out))
  have hs : ∃ sv iv, (s = sv ∧ i = iv) ∧ (((e == 0) = false) ∨ (e = 0 ∧ sv = true ∧ iv = 0 ∧ ((g == 0) = false ∨ (g = 0 ∧ (a = false ∨ (a = true ∧ (c = false ∨ (c = true ∧ d = true ∧ k = 0)))))))) := by
    refine ⟨s, i, ⟨rfl, rfl⟩, ?_⟩
    by_cases he : e = 0
    · obtain ⟨q1, q2⟩ := L1.out he
      refine .inr ⟨he, q1, q2, ?_⟩
      by_cases hg : g = 0
      · refine .inr ⟨hg, ?_⟩
        cases a
        · exact .inl rfl
        · refine .inr ⟨rfl, ?_⟩
          cases c
          · exact .inl rfl
          · exact .inr ⟨rfl, L2.out he hg rfl rfl⟩
      · exact .inl (by simpa using hg)
    · exact .inl (by simpa using he)
  obtain ⟨sv, iv, ⟨rfl, rfl⟩, hs⟩ := hs
  clear L1 L2
  rcases hs with he | ⟨rfl, rfl, rfl, hg | ⟨rfl, rfl | ⟨rfl, rfl | ⟨rfl, rfl, rfl⟩⟩⟩⟩
  all_goals
    go_wp2_with (first
      | (go_at_call 21; refine (H5.out _ HB4.out).mono ?_; rintro r w5 ⟨rfl, hb5⟩; have HB5 := Lib.hid (bthen HB4.out hb5); clear hb5 c0 c1 c2 c3 d0 d1 e0 e1 f0 f1; obtain ⟨⟨c0, c1, c2, c3⟩, ⟨d0, d1⟩, ⟨e0, e1⟩, f0, f1⟩ := HX.out _ HB5.out)
      | (go_at_call 21; refine (H4.out _ HB3.out).mono ?_; rintro r w4 ⟨rfl, hb4⟩; have HB4 := Lib.hid (bthen HB3.out hb4); clear hb4 c0 c1 c2 c3 d0 d1 e0 e1 f0 f1; obtain ⟨⟨c0, c1, c2, c3⟩, ⟨d0, d1⟩, ⟨e0, e1⟩, f0, f1⟩ := HX.out _ HB4.out)
      | (go_at_call 21; refine (H3.out _ HB2.out).mono ?_; rintro r w3 ⟨rfl, hb3⟩; have HB3 := Lib.hid (bthen HB2.out hb3); clear hb3 c0 c1 c2 c3 d0 d1 e0 e1 f0 f1; obtain ⟨⟨c0, c1, c2, c3⟩, ⟨d0, d1⟩, ⟨e0, e1⟩, f0, f1⟩ := HX.out _ HB3.out)
      | (go_at_call 14; refine (sane6_any _).mono ?_; rintro r w6 ⟨rfl, hb6⟩))
    go_ret
    exact ret_ok rfl (bthen HB0.out (bthen HB5.out hb6))

end Go.Proofs.YtkdamjpbnmbeoaaGreat
end
