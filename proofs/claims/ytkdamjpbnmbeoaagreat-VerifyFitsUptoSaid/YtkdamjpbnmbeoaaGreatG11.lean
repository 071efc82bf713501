/- Joined texts. The first: verify: method. -/
import Derived.Test.YtkdamjpbnmbeoaaGreatG10
import Derived.Test.YtkdamjpbnmbeoaaGreatG5
import Derived.Test.YtkdamjpbnmbeoaaGreatG4
set_option linter.all false
set_option linter.unusedVariables false
set_option linter.unusedSimpArgs false
section
namespace Go.Proofs.YtkdamjpbnmbeoaaGreat
open Go.RowKit

theorem passF_nil (m : Md) (lo : List Ty) (r : Ty) (n : Nat) (s : Ps) : passF m lo r n [] s = if endedV m r s.stk = 0 then ([s.stk], 0, 0) else ([], n, endedV m r s.stk) := rfl
theorem getD_opd {m : Md} {k : Nat} (H : MthOk m k) {n : Nat} (hn : n < (m.me.getD k default).k.length) : OpdOk m k ((m.me.getD k default).k.getD n default) ∧ 0 ≤ ((m.me.getD k default).k.getD n default).op ∧ ((m.me.getD k default).k.getD n default).op < 36 := by
  have h1 := H.i _ (getD_mem default hn)
  exact ⟨opd_ok h1.1 h1.2, insn_op h1.1⟩
theorem drop_getD {l : List In3} {n : Nat} (hn : n < l.length) : l.drop n = l.getD n default :: l.drop (n + 1) := by
  rw [List.drop_eq_getElem_cons hn]; simp [hn]
/-- what is so at a round's head -/
structure Rd (w wr : World) (K : Nat) (h : Hd) (m : Md) (kk : Nat) (lo : Option Addr) (lc : Nat) (ls : List Ty) (k : Nat) (so : Option Addr) (sc nr : Nat) : Prop where
  ex : ∃ (s : Ps) (acc : List (List Ty)) (rows : List SH) (sso : Option Addr) (ssc : Nat) (oo : Option Addr) (oc : Nat) (bs : List VB),
    St w wr K h m lo lc ls s sso ssc oo oc bs ∧ Wf m s ((m.me.getD kk default).k.drop k) ∧ rows.length = nr ∧ StOwn wr w.heap.size so sc rows acc ∧
    passV m kk = compP acc (passF m ls (m.me.getD kk default).r k ((m.me.getD kk default).k.drop k) s)
theorem St.grow {w0 w : World} {K : Nat} {h : Hd} {m : Md} {lo : Option Addr} {lc : Nat} {ls : List Ty} {s : Ps} {so : Option Addr} {sc : Nat} {oo : Option Addr} {oc : Nat} {bs : List VB} (H : St w0 w K h m lo lc ls s so sc oo oc bs) {w' : World} {row : Option Nat} (hg : w.grownBy w' row)
    (hr : ∀ b, row = some b → NoTy w b ∧ b ≠ K ∧ (∀ a, oo = some a → a.block ≠ b) ∧ w0.heap.size ≤ b) : St w0 w' K h m lo lc ls s so sc oo oc bs := by
  cases row with
  | none => exact H.old ((Below.refl _ _).grown hg (Nat.le_refl _) (fun j hj => by cases hj))
  | some b =>
    obtain ⟨h1, h2, h3, h4⟩ := hr b rfl
    have hu : Upd b b w w' := (Upd.refl b b w).grown hg (fun k hk => .inl (Option.some.inj hk).symm)
    refine ⟨?_, H.ts.upd hu h1 h1, ⟨own_eqV H.op.own fun k hk => hu.block k (H.op.own.lt k hk).2 ?_ ?_, H.op.len, fun i hi => (H.op.at_ i hi).upd hu h1 h1⟩, H.tl.upd hu h1 h1, hu.below H.hb (Nat.le_refl _) h4 h4, H.hK⟩
    · exact Blk.upd H.ck hu h2.symm h2.symm
    · intro e
      cases oo with
      | none => cases hk
      | some a => cases hk; exact h3 a rfl e
    · intro e
      cases oo with
      | none => cases hk
      | some a => cases hk; exact h3 a rfl e
theorem St.grow_st {w0 w : World} {K : Nat} {h : Hd} {m : Md} {lo : Option Addr} {lc : Nat} {ls : List Ty} {s : Ps} {sso : Option Addr} {ssc : Nat} {oo : Option Addr} {oc : Nat} {bs : List VB} (H : St w0 w K h m lo lc ls s sso ssc oo oc bs) {so : Option Addr} {sc : Nat} {rows : List SH} {sts : List (List Ty)} (HS : StOwn w w0.heap.size so sc rows sts) {w' : World} (hg : w.grownBy w' (Value.slice so rows.length sc).ownBlock) : St w0 w' K h m lo lc ls s sso ssc oo oc bs := by
  refine H.grow hg fun b hb => ⟨HS.noTy hb, fun e => ?_, fun a ha e => ?_, (HS.own.lt b hb).1⟩
  · exact HS.ne (b := K) (show w.heap[K]? = some (.cells _ 83 (0, 0)) from H.ck) (by decide) (e ▸ hb)
  · obtain ⟨g, cur, rfl, -, hgg⟩ := H.op.blk ha
    exact HS.ne hgg (by decide) (by rw [hb]; exact congrArg some e.symm)
theorem StOwn.step {w w' : World} {w0 : World} {K : Nat} {h : Hd} {m : Md} {lo : Option Addr} {lc : Nat} {ls : List Ty} {s : Ps} {sso : Option Addr} {ssc : Nat} {oo : Option Addr} {oc : Nat} {bs : List VB} (H : St w0 w K h m lo lc ls s sso ssc oo oc bs) {N : Nat} {so : Option Addr} {sc : Nat} {rows : List SH} {sts : List (List Ty)} (HS : StOwn w N so sc rows sts) (hu : Upd K (oblk K oo) w w') : StOwn w' N so sc rows sts := by
  have h1 := HS.ne (b := K) (show w.heap[K]? = some (.cells _ 83 (0, 0)) from H.ck) (by decide)
  refine HS.upd hu H.ck.noTy (H.op.noTy H.ck.noTy) h1 ?_
  cases oo with
  | none => exact h1
  | some a =>
    obtain ⟨g, cur, rfl, -, hgg⟩ := H.op.blk rfl
    exact HS.ne hgg (by decide)
theorem Blk.step {w w' : World} {w0 : World} {K : Nat} {h : Hd} {m : Md} {lo : Option Addr} {lc : Nat} {ls : List Ty} {s : Ps} {sso : Option Addr} {ssc : Nat} {oo : Option Addr} {oc : Nat} {bs : List VB} (H : St w0 w K h m lo lc ls s sso ssc oo oc bs) {b : Nat} {xs : Array Value} {t : TypeId} (HB : Blk w b xs t) (ht : t ≠ 83) (ht2 : t ≠ 106) (hu : Upd K (oblk K oo) w w') : Blk w' b xs t := by
  have h1 : b ≠ K := blk_ne HB H.ck ht
  refine HB.upd hu h1 ?_
  cases oo with
  | none => exact h1
  | some a =>
    obtain ⟨g, cur, rfl, -, hgg⟩ := H.op.blk rfl
    exact blk_ne HB hgg ht2
theorem Blk.grown_st {w w' : World} {N : Nat} {so : Option Addr} {sc : Nat} {rows : List SH} {sts : List (List Ty)} (HS : StOwn w N so sc rows sts) {b : Nat} {xs : Array Value} {t : TypeId} (HB : Blk w b xs t) (ht : t ≠ 23) (hg : w.grownBy w' (Value.slice so rows.length sc).ownBlock) : Blk w' b xs t := by
  unfold Blk
  rw [hg.block b HB.lt (fun e => HS.ne (show w.heap[b]? = some (.cells xs t (0, 0)) from HB) ht e.symm)]
  exact HB
theorem St.upper {w0 w : World} {K : Nat} {h : Hd} {m : Md} {lo : Option Addr} {lc : Nat} {ls : List Ty} {s : Ps} {sso : Option Addr} {ssc : Nat} {oo : Option Addr} {oc : Nat} {bs : List VB} (H : St w0 w K h m lo lc ls s sso ssc oo oc bs) {w' : World} (hu : Upd K (oblk K oo) w w') : Below w0.heap.size w0 w' := by
  refine hu.below H.hb (Nat.le_refl _) H.hK ?_
  cases oo with
  | none => exact H.hK
  | some a => obtain ⟨g, cur, rfl, hb, _⟩ := H.op.blk rfl; exact hb
theorem TyAt.alloc' {w : World} {ao : Option Addr} {cap : Nat} {l : List Ty} (H : TyAt w ao cap l) (o : Obj) : TyAt (w.alloc o) ao cap l := by
  have hb : Below w.heap.size w (w.alloc o) := by (repeat (first | exact Below.refl _ _ | assumption | refine bal ?_ _ | refine Below.drew ?_ | refine bdrewN ?_ _ | refine bthen ?_ (by assumption)))
  obtain ⟨h1, h2, h3⟩ := H
  refine ⟨h1.old hb, h2, fun a hx => ?_⟩
  obtain ⟨xs, z, hz⟩ := h3 a hx
  exact ⟨xs, z, (hb.block _ (Array.getElem?_eq_some_iff.1 hz).1).trans hz⟩
theorem compP_no {acc : List (List Ty)} {n : Nat} {e : Int} (he : e ≠ 0) : compP acc ([], n, e) = ([], n, e) := if_neg he
set_option maxRecDepth 100000 in
set_option maxHeartbeats 10000000 in
theorem vMethod_any (h : Hd) (m : Md) (kk : Nat) (w : World) (HM : ModAt w h m) (hm : modV m = true) (hk : kk < m.me.length) : Calls Tryz.prog 34 #[.agg #[.slice h.co m.cl.length h.cc, .slice h.so m.st.length h.sc, .slice h.eo m.me.length h.ec, .int .i64 m.sel], .int .i64 kk] w (RetM w (passV m kk)) := by
  have hmt := mth_ok hm hk
  obtain ⟨ls, hls⟩ : ∃ l, l = localsV (m.me.getD kk default) := ⟨_, rfl⟩
  obtain ⟨ea, heo, -⟩ := HM.mth hk
  obtain ⟨ma, hma⟩ : ∃ a, a = ea.add (kk * 7) := ⟨_, rfl⟩
  obtain ⟨nc, hnc⟩ : ∃ n, n = (m.me.getD kk default).k.length := ⟨_, rfl⟩
  have hnc2 : nc ≤ 120 := by rw [hnc]; exact hmt.z.2.2
  have hmc : ∀ w', Below w.heap.size w w' → w'.cell? ⟨ma.block, ma.off + 6, none⟩ = some (.slice (h.e kk).ko nc (h.e kk).kc) ∧ w'.cell? ⟨ma.block, ma.off + 4, none⟩ = some (.int .i64 (m.me.getD kk default).r.k) ∧ w'.cell? ⟨ma.block, ma.off + 5, none⟩ = some (.int .i64 (m.me.getD kk default).r.c) := fun w' hb' => by
    obtain ⟨ad, h1, -, -, -, -, h4, h5, h6⟩ := (HM.old hb').mth hk
    rw [heo] at h1
    cases h1
    rw [← hma] at h4 h5 h6
    rw [← hnc] at h6
    exact ⟨h6, h4, h5⟩
  have hlo := own_neg hm hk
  have hll := locals_len hm hk
  rw [← hls] at hlo hll
  have hb1 : Below w.heap.size w (w.alloc (.cells #[.slice h.co m.cl.length h.cc, .slice h.so m.st.length h.sc, .slice h.eo m.me.length h.ec, .int .i64 m.sel] 26)) := by (repeat (first | exact Below.refl _ _ | assumption | refine bal ?_ _ | refine Below.drew ?_ | refine bdrewN ?_ _ | refine bthen ?_ (by assumption)))
  have hx1 := Blk.new w #[.slice h.co m.cl.length h.cc, .slice h.so m.st.length h.sc, .slice h.eo m.me.length h.ec, .int .i64 m.sel] 26
  have HLo := Lib.hid (show ∀ w', Below w.heap.size w w' → Calls Tryz.prog 48 #[.agg #[.slice h.co m.cl.length h.cc, .slice h.so m.st.length h.sc, .slice h.eo m.me.length h.ec, .int .i64 m.sel], .int .i64 kk] w' (RetOwn2 38 w' ls 0) from fun w' hb' => by rw [hls]; exact lLocals_yes m h kk w' (HM.old hb') hm hk)
  have hS : ∀ w', Below (w.alloc (.cells #[.slice h.co m.cl.length h.cc, .slice h.so m.st.length h.sc, .slice h.eo m.me.length h.ec, .int .i64 m.sel] 26)).heap.size (w.alloc (.cells #[.slice h.co m.cl.length h.cc, .slice h.so m.st.length h.sc, .slice h.eo m.me.length h.ec, .int .i64 m.sel] 26)) w' → (fun w' : World => w'.cell? ⟨w.heap.size, 0, none⟩ = some (.slice h.co m.cl.length h.cc) ∧ w'.cell? ⟨w.heap.size, 1, none⟩ = some (.slice h.so m.st.length h.sc) ∧ w'.cell? ⟨w.heap.size, 2, none⟩ = some (.slice h.eo m.me.length h.ec) ∧ w'.cell? ⟨w.heap.size, 3, none⟩ = some (.int .i64 m.sel)) w' := fun w' hb' => by
    have hx := hx1.old hb'
    exact ⟨hx.cell 0 rfl, hx.cell 1 rfl, hx.cell 2 rfl, hx.cell 3 rfl⟩
  have HS := Lib.hid hS
  have HHM := Lib.hid HM
  have HHm := Lib.hid hm
  have HMt := Lib.hid hmt
  have HLs := Lib.hid hls
  have HMc := Lib.hid hmc
  have HLt := Lib.hid hlo
  have HNc := Lib.hid hnc
  have HEo := Lib.hid heo
  have HMa := Lib.hid hma
  obtain ⟨W1, hW1⟩ : ∃ W1, W1 = w.alloc (.cells #[.slice h.co m.cl.length h.cc, .slice h.so m.st.length h.sc, .slice h.eo m.me.length h.ec, .int .i64 m.sel] 26) := ⟨_, rfl⟩
  rw [← hW1] at HS hb1 hx1
  have HW1 := Lib.hid hW1
  have HB1 := Lib.hid hb1
  have HX1 := Lib.hid hx1
  have hz1 : w.heap.size < W1.heap.size := hx1.lt
  clear hS hx1 HM hm hmt hls hmc hlo hnc heo hma hW1 hb1
  go_enter Tryz.func34, Tryz.ntmps34
  go_wp2_with fail
  rw [← HW1.out]
  refine (HLo.out _ HB1.out).mono ?_
  rintro r w2 ⟨⟨lo, lc, rfl, hown2⟩, hb2⟩
  have HB2 := Lib.hid hb2
  have HL2 := Lib.hid (TyAt.own hown2)
  clear hown2 hb2
  have HB0 := Lib.hid (bthen HB1.out HB2.out)
  have HSt := Lib.hid (St.start (h := h) (m := m) HB0.out HL2.out)
  obtain ⟨W3, hW3⟩ : ∃ W3, W3 = w2.alloc (.cells (ckC h m (.slice lo ls.length lc) (.slice none 0 0) (.slice none 0 0) 0) 83) := ⟨_, rfl⟩
  rw [← hW3] at HSt
  have hb3 : Below w2.heap.size w2 W3 := by rw [hW3]; (repeat (first | exact Below.refl _ _ | assumption | refine bal ?_ _ | refine Below.drew ?_ | refine bdrewN ?_ _ | refine bthen ?_ (by assumption)))
  have HB3 := Lib.hid (bthen HB0.out hb3)
  have hx3 := HX1.out.old (bthen HB2.out hb3)
  have q0 := hx3.cell 0 (v := .slice h.co m.cl.length h.cc) rfl
  have q1 := hx3.cell 1 (v := .slice h.so m.st.length h.sc) rfl
  have q2 : W3.cell? ⟨w.heap.size, 2, none⟩ = some (.slice (some ea) m.me.length h.ec) := by rw [← HEo.out]; exact hx3.cell 2 rfl
  have q3 := hx3.cell 3 (v := .int .i64 m.sel) rfl
  have hx2 := HX1.out.old HB2.out
  have p0 := hx2.cell 0 (v := .slice h.co m.cl.length h.cc) rfl
  have p1 := hx2.cell 1 (v := .slice h.so m.st.length h.sc) rfl
  have p2 : w2.cell? ⟨w.heap.size, 2, none⟩ = some (.slice h.eo m.me.length h.ec) := hx2.cell 2 rfl
  have p3 := hx2.cell 3 (v := .int .i64 m.sel) rfl
  have m6 := (HMc.out W3 HB3.out).1
  have HX3 := Lib.hid hx3
  have HW3 := Lib.hid (show W3 = w2.alloc (.cells #[.slice h.co m.cl.length h.cc, .slice h.so m.st.length h.sc, .slice h.eo m.me.length h.ec, .int .i64 m.sel, .slice lo ls.length lc, .slice none 0 0, .slice none 0 0, .int .i64 0] 83) from hW3)
  have hkk2 : (kk : Int) < m.me.length := by omega
  clear hx3 hx2 hb3 hW3
  go_upto_region 3 with fail
  rw [← HW3.out]
  clear p0 p1 p2 p3
  go_upto_region 4 with fail
  rw [← HMa.out]
  go_wp2_with fail
  obtain ⟨K, hK⟩ : ∃ K, K = w2.heap.size := ⟨_, rfl⟩
  rw [← hK] at HSt ⊢
  clear hK
  have hwf : Wf m ⟨[], []⟩ (m.me.getD kk default).k := wf_start HMt.out.n
  have hpv : passV m kk = compP [] (passF m ls (m.me.getD kk default).r 0 (m.me.getD kk default).k ⟨[], []⟩) := by
    rw [← passF_start, HLs.out]; rfl
  have HRd := Lib.hid (show Rd w W3 K h m kk lo lc ls 0 none 0 0 from ⟨⟨_, [], [], _, _, _, _, _, HSt.out, by rw [List.drop_zero]; exact hwf, rfl, StOwn.nil _ _, by rw [List.drop_zero]; exact hpv⟩⟩)
  clear hwf hpv q0 q1 q2 q3 m6 HSt
  go_loopw [4, 33] (fun a i wr => ∃ (k : Nat) (so : Option Addr) (sc nr : Nat), k ≤ nc ∧ i = .int .i64 k ∧ a = .slice so nr sc ∧ nr = k ∧ Hid (Rd w wr K h m kk lo lc ls k so sc nr) ∧ Hid (Below W3.heap.size W3 W3) ∧ Hid (Blk wr w.heap.size #[.slice h.co m.cl.length h.cc, .slice h.so m.st.length h.sc, .slice h.eo m.me.length h.ec, .int .i64 m.sel] 26)) (fun _ i _ => nc - (intOf i).toNat)
  case atStart => exact ⟨0, none, 0, 0, by omega, rfl, rfl, rfl, HRd, Lib.hid (Below.refl _ _), HX3⟩
  case round =>
    obtain ⟨k, so, sc, nr, hkn, rfl, rfl, hnr, HR, -, HXr⟩ := hrel
    have HNr := Lib.hid hnr
    clear hnr
    obtain ⟨s, acc, rows, sso, ssc, oo, oc, bs, hst, hwf, hrl, hso, hpv⟩ := HR.out.ex
    subst hrl
    have HSt := Lib.hid hst
    have HWf := Lib.hid hwf
    have HSo := Lib.hid hso
    have HPv := Lib.hid hpv
    have k5 := hst.ck.cells.2.2.2.2.2.2.1
    have k7 := hst.ck.cells.2.2.2.2.2.2.2.2
    have hbr := hst.hb
    have kl := Blk.lt hst.ck
    have HBr := Lib.hid hbr
    have m6 := (HMc.out wr hbr).1
    have hs12 := hwf.stk.1
    have hs6 := hwf.depth
    clear hst hwf hso hpv hbr HRd HR
    by_cases hkl : k < nc
    · have hkl2 : (k : Int) < nc := by omega
      have hkd : k < (m.me.getD kk default).k.length := by have := HNc.out; omega
      obtain ⟨hopd, hop0, hop36⟩ := getD_opd HMt.out hkd
      obtain ⟨ka, hka, i0, i1, i2⟩ := row_in ((HHM.out.old HBr.out).k kk hk) hkd
      obtain ⟨i, hi⟩ : ∃ i, i = (m.me.getD kk default).k.getD k default := ⟨_, rfl⟩
      have hdr : (m.me.getD kk default).k.drop k = i :: (m.me.getD kk default).k.drop (k + 1) := by rw [hi]; exact drop_getD hkd
      rw [← hi] at hopd hop0 hop36 i0 i1 i2
      have hwr : IntKind.i64.wrap ((k : Int) + 1) = k + 1 := IntWalk.i64_in _ (by omega)
      obtain ⟨op, ia, ib⟩ := i
      dsimp only at i0 i1 i2 hop0 hop36
      have HOpd := Lib.hid hopd
      have HDr := Lib.hid hdr
      have HClo := Lib.hid (show ∀ w', Below wr.heap.size wr w' → Calls Tryz.prog 53 #[.slice sso s.stk.length ssc] w' (RetOwn 38 w' s.stk) from fun w' hb' => clT_any w' sso ssc s.stk (HSt.out.ts.1.old hb') (by omega))
      rw [hka]
      clear hopd hdr hi hka m6 hkd
      by_cases hcase : opensV op = true
      · have hq1 : opensV op = true := hcase
        have HOp := Lib.hid hcase
        have hq1 := hcase
        clear hcase
        as_aux_lemma =>
        go_upto_region 15 with (first
          | (go_at_call 53; refine (HClo.out _ (by (repeat (first | exact Below.refl _ _ | assumption | refine bal ?_ _ | refine Below.drew ?_ | refine bdrewN ?_ _ | refine bthen ?_ (by assumption))))).mono ?_; rintro r w2 ⟨⟨to', tc, rfl, hown2⟩, hb2⟩; have HO2 := Lib.hid hown2; have HB2 := Lib.hid (bthen (show Below wr.heap.size wr (wr.alloc (.cells #[.int .i64 op, .int .i64 ia, .int .i64 ib] 42)) by (repeat (first | exact Below.refl _ _ | assumption | refine bal ?_ _ | refine Below.drew ?_ | refine bdrewN ?_ _ | refine bthen ?_ (by assumption)))) hb2); have HB3' := Lib.hid (show Below wr.heap.size wr (w2.alloc (.cells #[.slice to' s.stk.length tc] 23)) from bal HB2.out _); have HSo3 := Lib.hid (HSo.out.old HB3'.out); have HT3 := Lib.hid (TyAt.alloc' (TyAt.own HO2.out) (.cells #[.slice to' s.stk.length tc] 23)); have HX3' := Lib.hid (sla_blkV (n := 1) (size := 1) (Blk.new w2 #[.slice to' s.stk.length tc] 23) rfl); have HDb := Lib.hid (Blk.old (w := wr.alloc (.cells #[.int .i64 op, .int .i64 ia, .int .i64 ib] 42)) (Blk.new wr #[.int .i64 op, .int .i64 ia, .int .i64 ib] 42) (bthen hb2 (show Below w2.heap.size w2 (w2.alloc (.cells #[.slice to' s.stk.length tc] 23)) by (repeat (first | exact Below.refl _ _ | assumption | refine bal ?_ _ | refine Below.drew ?_ | refine bdrewN ?_ _ | refine bthen ?_ (by assumption)))))); have hzz := HB3'.out.size; have hzw := HBr.out.size; clear hown2 hb2)
          | (at_builtin; refine wpList_wp rfl ?_; refine wp_append_slx (.tmp 38) (.tmp 44) 27 rfl w.heap.size 23 1 24 elVs _ rows.length _ rfl HSo3.out.own _ 1 1 [.slice to' s.stk.length tc] rfl HX3'.out (by intro u hu; rw [List.mem_singleton.1 hu]; rfl) (by have := HNr.out; omega) (by have := HNr.out; unfold maxLen; omega) (by omega) ?_; intro ao2 cap2 w4 hown4 hg4; have HS4 := Lib.hid (HSo3.out.snoc HT3.out hown4 hg4); have HSt4 := Lib.hid (St.grow_st (HSt.out.old HB3'.out) HSo3.out hg4); have hdb4 := Blk.grown_st HSo3.out HDb.out (by decide) hg4; have HXr4 := Lib.hid (Blk.grown_st HSo3.out (HXr.out.old HB3'.out) (by decide) hg4); have e0 := hdb4.cell 0 (v := .int .i64 op) rfl; have e1 := hdb4.cell 1 (v := .int .i64 ia) rfl; have e2 := hdb4.cell 2 (v := .int .i64 ib) rfl; have HStep := Lib.hid (opening_any (i := ⟨op, ia, ib⟩) HHm.out HLt.out HWf.out.stk HSt4.out HHM.out hs6 HOpd.out HWf.out.base (by have := HOp.out; simp only [opensV, inI, Bool.and_eq_true, decide_eq_true_eq] at this; exact this)); clear hown4 hg4 hdb4)
          | (go_at_call 54; refine (opens_any _ _).mono ?_; rintro e w' ⟨rfl, rfl⟩)
          | (go_at_call 55; refine HStep.out.mono ?_; rintro r w5 ⟨⟨v, rfl⟩, hu5, hse⟩; have HU5 := Lib.hid hu5; have HSe := Lib.hid hse; clear hu5 hse))
        have hwf2 := HWf.out
        rw [HDr.out] at hwf2
        have hpv2 := HPv.out
        rw [HDr.out] at hpv2
        rcases HSe.out with ⟨h0, sso2, ssc2, oo2, oc2, bs2, hst5⟩ | ⟨h0, S5, O5, hc5⟩
        · have y7 := hst5.ck.cells.2.2.2.2.2.2.2.2
          have hrd : Rd w w5 K h m kk lo lc ls (k + 1) ao2 cap2 (rows.length + 1) := ⟨⟨_, acc ++ [s.stk], _, sso2, ssc2, oo2, oc2, bs2, hst5, wf_step HHm.out HLt.out hk ⟨hop0, hop36⟩ HOpd.out hwf2 h0, by simp, StOwn.step HSt4.out HS4.out HU5.out, by rw [hpv2, passF_cons_ok h0, compP_comp]⟩⟩
          have HRd5 := Lib.hid hrd
          have HX5 := Lib.hid (Blk.step HSt4.out HXr4.out (by decide) (by decide) HU5.out)
          clear hst5 hwf2 hpv2 hrd h0
          go_wp2_with fail
          go_roundw
          case rel => exact ⟨k + 1, ao2, cap2, rows.length + 1, by omega, by go_num, rfl, by rw [HNr.out], HRd5, Lib.hid (Below.refl _ _), HX5⟩
          case measure => simp [intOf]; omega
        · have y7 := hc5.cells.2.2.2.2.2.2.2.2
          obtain ⟨er, her⟩ : ∃ e, e = (stepV m ls ⟨op, ia, ib⟩ s).1 := ⟨_, rfl⟩
          have hpe : passV m kk = ([], k, er) := by rw [hpv2, passF_cons_no h0, ← her]; exact compP_no (by rw [her]; exact h0)
          rw [← her] at y7 h0
          have hn0 : (er == 0) = false := by simpa using h0
          have HBe := Lib.hid (St.upper HSt4.out HU5.out)
          have HPe := Lib.hid hpe
          clear hc5 hwf2 hpv2 hpe her h0
          go_wp2_with fail
          refine wp_mixO (fun w' : World => w'.cell? ⟨K, 7, none⟩ = some (.int .i64 er)) (.plain 0 (.plain 1 (.plain 2 (.plain 3 (.plain 4 (.plain 5 (.plain 6 (.plain 7 .done)))))))) (by kernel_rfl) (by kernel_rfl) (by intro c a d v w h; cases d <;> exact h) y7 ?_
          repeat (refine wpMixO_plain ?_; simp only [opAt, List.getD_cons_zero, List.getD_cons_succ]; (first | (apply Exists.intro; refine ⟨Or.inl ⟨by rfl, ?_⟩, ?_⟩; focus (intro w hSw; (try dsimp only at hSw); go_simp; (try with_reducible rfl); done)) | (refine ⟨_, Or.inr ⟨by rfl, rfl⟩, ?_⟩)); (try simp only [Act.put, List.setIfInBounds_toArray, List.set_cons_zero, List.set_cons_succ]))
          refine wpMixO_done ?_
          go_wp2
          go_ret3
          rw [HPe.out]
          exact RetM.no w HBe.out.drew k er
      · have hq1 : opensV op = false := by simpa using hcase
        have HOq := Lib.hid hq1
        clear hcase
        by_cases hcase : op = 34
        · have hq2 : (op == 34) = true := by simpa using hcase
          have HEl := Lib.hid (show ∃ q : List Opn × Opn, True ∧ s.opn = q.1 ++ [q.2] ∧ q.2.beg.length ≤ 12 from by
            have h1 := HWf.out
            rw [HDr.out] at h1
            obtain ⟨r, o, h2, _⟩ := h1.else_ hcase
            refine ⟨(r, o), trivial, h2, ?_⟩
            have h3 := h1.opn
            rw [h2, List.reverse_append, List.reverse_singleton, List.singleton_append] at h3
            exact h3.1.1)
          obtain ⟨⟨r0, o0⟩, hel⟩ := HEl.out
          clear HEl
          have HEl := Lib.hid hel
          clear hel
          have HOp := Lib.hid hcase
          have hq2 : (op == 34) = true := by simpa using hcase
          clear hcase
          as_aux_lemma =>
          go_upto_region 15 with (first
            | (go_at_call 53; refine (HClo.out _ (by (repeat (first | exact Below.refl _ _ | assumption | refine bal ?_ _ | refine Below.drew ?_ | refine bdrewN ?_ _ | refine bthen ?_ (by assumption))))).mono ?_; rintro r w2 ⟨⟨to', tc, rfl, hown2⟩, hb2⟩; have HO2 := Lib.hid hown2; have HB2 := Lib.hid (bthen (show Below wr.heap.size wr (wr.alloc (.cells #[.int .i64 op, .int .i64 ia, .int .i64 ib] 42)) by (repeat (first | exact Below.refl _ _ | assumption | refine bal ?_ _ | refine Below.drew ?_ | refine bdrewN ?_ _ | refine bthen ?_ (by assumption)))) hb2); have HB3' := Lib.hid (show Below wr.heap.size wr (w2.alloc (.cells #[.slice to' s.stk.length tc] 23)) from bal HB2.out _); have HSo3 := Lib.hid (HSo.out.old HB3'.out); have HT3 := Lib.hid (TyAt.alloc' (TyAt.own HO2.out) (.cells #[.slice to' s.stk.length tc] 23)); have HX3' := Lib.hid (sla_blkV (n := 1) (size := 1) (Blk.new w2 #[.slice to' s.stk.length tc] 23) rfl); have HDb := Lib.hid (Blk.old (w := wr.alloc (.cells #[.int .i64 op, .int .i64 ia, .int .i64 ib] 42)) (Blk.new wr #[.int .i64 op, .int .i64 ia, .int .i64 ib] 42) (bthen hb2 (show Below w2.heap.size w2 (w2.alloc (.cells #[.slice to' s.stk.length tc] 23)) by (repeat (first | exact Below.refl _ _ | assumption | refine bal ?_ _ | refine Below.drew ?_ | refine bdrewN ?_ _ | refine bthen ?_ (by assumption)))))); have hzz := HB3'.out.size; have hzw := HBr.out.size; clear hown2 hb2)
            | (at_builtin; refine wpList_wp rfl ?_; refine wp_append_slx (.tmp 38) (.tmp 44) 27 rfl w.heap.size 23 1 24 elVs _ rows.length _ rfl HSo3.out.own _ 1 1 [.slice to' s.stk.length tc] rfl HX3'.out (by intro u hu; rw [List.mem_singleton.1 hu]; rfl) (by have := HNr.out; omega) (by have := HNr.out; unfold maxLen; omega) (by omega) ?_; intro ao2 cap2 w4 hown4 hg4; have HS4 := Lib.hid (HSo3.out.snoc HT3.out hown4 hg4); have HSt4 := Lib.hid (St.grow_st (HSt.out.old HB3'.out) HSo3.out hg4); have hdb4 := Blk.grown_st HSo3.out HDb.out (by decide) hg4; have HXr4 := Lib.hid (Blk.grown_st HSo3.out (HXr.out.old HB3'.out) (by decide) hg4); have e0 := hdb4.cell 0 (v := .int .i64 op) rfl; have e1 := hdb4.cell 1 (v := .int .i64 ia) rfl; have e2 := hdb4.cell 2 (v := .int .i64 ib) rfl; have HStep := Lib.hid ((fun _ => middle_any (i := ⟨op, ia, ib⟩) HSt4.out HOp.out HEl.out.2.1 hs6 HEl.out.2.2) ()); clear hown4 hg4 hdb4)
            | (go_at_call 54; refine (opens_any _ _).mono ?_; rintro e w' ⟨rfl, rfl⟩)
            | (go_at_call 56; refine HStep.out.mono ?_; rintro r w5 ⟨⟨v, rfl⟩, hu5, hse⟩; have HU5 := Lib.hid hu5; have HSe := Lib.hid hse; clear hu5 hse))
          have hwf2 := HWf.out
          rw [HDr.out] at hwf2
          have hpv2 := HPv.out
          rw [HDr.out] at hpv2
          rcases HSe.out with ⟨h0, sso2, ssc2, oo2, oc2, bs2, hst5⟩ | ⟨h0, S5, O5, hc5⟩
          · have y7 := hst5.ck.cells.2.2.2.2.2.2.2.2
            have hrd : Rd w w5 K h m kk lo lc ls (k + 1) ao2 cap2 (rows.length + 1) := ⟨⟨_, acc ++ [s.stk], _, sso2, ssc2, oo2, oc2, bs2, hst5, wf_step HHm.out HLt.out hk ⟨hop0, hop36⟩ HOpd.out hwf2 h0, by simp, StOwn.step HSt4.out HS4.out HU5.out, by rw [hpv2, passF_cons_ok h0, compP_comp]⟩⟩
            have HRd5 := Lib.hid hrd
            have HX5 := Lib.hid (Blk.step HSt4.out HXr4.out (by decide) (by decide) HU5.out)
            clear hst5 hwf2 hpv2 hrd h0
            go_wp2_with fail
            go_roundw
            case rel => exact ⟨k + 1, ao2, cap2, rows.length + 1, by omega, by go_num, rfl, by rw [HNr.out], HRd5, Lib.hid (Below.refl _ _), HX5⟩
            case measure => simp [intOf]; omega
          · have y7 := hc5.cells.2.2.2.2.2.2.2.2
            obtain ⟨er, her⟩ : ∃ e, e = (stepV m ls ⟨op, ia, ib⟩ s).1 := ⟨_, rfl⟩
            have hpe : passV m kk = ([], k, er) := by rw [hpv2, passF_cons_no h0, ← her]; exact compP_no (by rw [her]; exact h0)
            rw [← her] at y7 h0
            have hn0 : (er == 0) = false := by simpa using h0
            have HBe := Lib.hid (St.upper HSt4.out HU5.out)
            have HPe := Lib.hid hpe
            clear hc5 hwf2 hpv2 hpe her h0
            go_wp2_with fail
            refine wp_mixO (fun w' : World => w'.cell? ⟨K, 7, none⟩ = some (.int .i64 er)) (.plain 0 (.plain 1 (.plain 2 (.plain 3 (.plain 4 (.plain 5 (.plain 6 (.plain 7 .done)))))))) (by kernel_rfl) (by kernel_rfl) (by intro c a d v w h; cases d <;> exact h) y7 ?_
            repeat (refine wpMixO_plain ?_; simp only [opAt, List.getD_cons_zero, List.getD_cons_succ]; (first | (apply Exists.intro; refine ⟨Or.inl ⟨by rfl, ?_⟩, ?_⟩; focus (intro w hSw; (try dsimp only at hSw); go_simp; (try with_reducible rfl); done)) | (refine ⟨_, Or.inr ⟨by rfl, rfl⟩, ?_⟩)); (try simp only [Act.put, List.setIfInBounds_toArray, List.set_cons_zero, List.set_cons_succ]))
            refine wpMixO_done ?_
            go_wp2
            go_ret3
            rw [HPe.out]
            exact RetM.no w HBe.out.drew k er
        · have hq2 : (op == 34) = false := by simpa using hcase
          have h34 := hcase
          clear hcase
          by_cases hcase : op = 35
          · have hq3 : (op == 35) = true := by simpa using hcase
            clear h34
            have HEl := Lib.hid (show ∃ q : List Opn × Opn, True ∧ s.opn = q.1 ++ [q.2] from by
              have h1 := HWf.out
              rw [HDr.out] at h1
              obtain ⟨r, o, h2, _⟩ := h1.end_ hcase
              exact ⟨(r, o), trivial, h2⟩)
            obtain ⟨⟨r0, o0⟩, hel⟩ := HEl.out
            clear HEl
            have HEl := Lib.hid hel
            clear hel
            have HOp := Lib.hid hcase
            have hq3 : (op == 35) = true := by simpa using hcase
            clear hcase
            as_aux_lemma =>
            go_upto_region 15 with (first
              | (go_at_call 53; refine (HClo.out _ (by (repeat (first | exact Below.refl _ _ | assumption | refine bal ?_ _ | refine Below.drew ?_ | refine bdrewN ?_ _ | refine bthen ?_ (by assumption))))).mono ?_; rintro r w2 ⟨⟨to', tc, rfl, hown2⟩, hb2⟩; have HO2 := Lib.hid hown2; have HB2 := Lib.hid (bthen (show Below wr.heap.size wr (wr.alloc (.cells #[.int .i64 op, .int .i64 ia, .int .i64 ib] 42)) by (repeat (first | exact Below.refl _ _ | assumption | refine bal ?_ _ | refine Below.drew ?_ | refine bdrewN ?_ _ | refine bthen ?_ (by assumption)))) hb2); have HB3' := Lib.hid (show Below wr.heap.size wr (w2.alloc (.cells #[.slice to' s.stk.length tc] 23)) from bal HB2.out _); have HSo3 := Lib.hid (HSo.out.old HB3'.out); have HT3 := Lib.hid (TyAt.alloc' (TyAt.own HO2.out) (.cells #[.slice to' s.stk.length tc] 23)); have HX3' := Lib.hid (sla_blkV (n := 1) (size := 1) (Blk.new w2 #[.slice to' s.stk.length tc] 23) rfl); have HDb := Lib.hid (Blk.old (w := wr.alloc (.cells #[.int .i64 op, .int .i64 ia, .int .i64 ib] 42)) (Blk.new wr #[.int .i64 op, .int .i64 ia, .int .i64 ib] 42) (bthen hb2 (show Below w2.heap.size w2 (w2.alloc (.cells #[.slice to' s.stk.length tc] 23)) by (repeat (first | exact Below.refl _ _ | assumption | refine bal ?_ _ | refine Below.drew ?_ | refine bdrewN ?_ _ | refine bthen ?_ (by assumption)))))); have hzz := HB3'.out.size; have hzw := HBr.out.size; clear hown2 hb2)
              | (at_builtin; refine wpList_wp rfl ?_; refine wp_append_slx (.tmp 38) (.tmp 44) 27 rfl w.heap.size 23 1 24 elVs _ rows.length _ rfl HSo3.out.own _ 1 1 [.slice to' s.stk.length tc] rfl HX3'.out (by intro u hu; rw [List.mem_singleton.1 hu]; rfl) (by have := HNr.out; omega) (by have := HNr.out; unfold maxLen; omega) (by omega) ?_; intro ao2 cap2 w4 hown4 hg4; have HS4 := Lib.hid (HSo3.out.snoc HT3.out hown4 hg4); have HSt4 := Lib.hid (St.grow_st (HSt.out.old HB3'.out) HSo3.out hg4); have hdb4 := Blk.grown_st HSo3.out HDb.out (by decide) hg4; have HXr4 := Lib.hid (Blk.grown_st HSo3.out (HXr.out.old HB3'.out) (by decide) hg4); have e0 := hdb4.cell 0 (v := .int .i64 op) rfl; have e1 := hdb4.cell 1 (v := .int .i64 ia) rfl; have e2 := hdb4.cell 2 (v := .int .i64 ib) rfl; have HStep := Lib.hid (end_any (i := ⟨op, ia, ib⟩) HSt4.out HOp.out HEl.out.2 hs6 hs12); clear hown4 hg4 hdb4)
              | (go_at_call 54; refine (opens_any _ _).mono ?_; rintro e w' ⟨rfl, rfl⟩)
              | (go_at_call 57; refine HStep.out.mono ?_; rintro r w5 ⟨⟨v, rfl⟩, hu5, hse⟩; have HU5 := Lib.hid hu5; have HSe := Lib.hid hse; clear hu5 hse))
            have hwf2 := HWf.out
            rw [HDr.out] at hwf2
            have hpv2 := HPv.out
            rw [HDr.out] at hpv2
            rcases HSe.out with ⟨h0, sso2, ssc2, oo2, oc2, bs2, hst5⟩ | ⟨h0, S5, O5, hc5⟩
            · have y7 := hst5.ck.cells.2.2.2.2.2.2.2.2
              have hrd : Rd w w5 K h m kk lo lc ls (k + 1) ao2 cap2 (rows.length + 1) := ⟨⟨_, acc ++ [s.stk], _, sso2, ssc2, oo2, oc2, bs2, hst5, wf_step HHm.out HLt.out hk ⟨hop0, hop36⟩ HOpd.out hwf2 h0, by simp, StOwn.step HSt4.out HS4.out HU5.out, by rw [hpv2, passF_cons_ok h0, compP_comp]⟩⟩
              have HRd5 := Lib.hid hrd
              have HX5 := Lib.hid (Blk.step HSt4.out HXr4.out (by decide) (by decide) HU5.out)
              clear hst5 hwf2 hpv2 hrd h0
              go_wp2_with fail
              go_roundw
              case rel => exact ⟨k + 1, ao2, cap2, rows.length + 1, by omega, by go_num, rfl, by rw [HNr.out], HRd5, Lib.hid (Below.refl _ _), HX5⟩
              case measure => simp [intOf]; omega
            · have y7 := hc5.cells.2.2.2.2.2.2.2.2
              obtain ⟨er, her⟩ : ∃ e, e = (stepV m ls ⟨op, ia, ib⟩ s).1 := ⟨_, rfl⟩
              have hpe : passV m kk = ([], k, er) := by rw [hpv2, passF_cons_no h0, ← her]; exact compP_no (by rw [her]; exact h0)
              rw [← her] at y7 h0
              have hn0 : (er == 0) = false := by simpa using h0
              have HBe := Lib.hid (St.upper HSt4.out HU5.out)
              have HPe := Lib.hid hpe
              clear hc5 hwf2 hpv2 hpe her h0
              go_wp2_with fail
              refine wp_mixO (fun w' : World => w'.cell? ⟨K, 7, none⟩ = some (.int .i64 er)) (.plain 0 (.plain 1 (.plain 2 (.plain 3 (.plain 4 (.plain 5 (.plain 6 (.plain 7 .done)))))))) (by kernel_rfl) (by kernel_rfl) (by intro c a d v w h; cases d <;> exact h) y7 ?_
              repeat (refine wpMixO_plain ?_; simp only [opAt, List.getD_cons_zero, List.getD_cons_succ]; (first | (apply Exists.intro; refine ⟨Or.inl ⟨by rfl, ?_⟩, ?_⟩; focus (intro w hSw; (try dsimp only at hSw); go_simp; (try with_reducible rfl); done)) | (refine ⟨_, Or.inr ⟨by rfl, rfl⟩, ?_⟩)); (try simp only [Act.put, List.setIfInBounds_toArray, List.set_cons_zero, List.set_cons_succ]))
              refine wpMixO_done ?_
              go_wp2
              go_ret3
              rw [HPe.out]
              exact RetM.no w HBe.out.drew k er
          · have hq3 : (op == 35) = false := by simpa using hcase
            have h35 := hcase
            clear hcase
            have hcase : op < 29 := by
              have h1 := HOq.out
              simp only [opensV, inI, Bool.and_eq_false_iff, decide_eq_false_iff_not] at h1
              omega
            clear h34 h35
            have HOp := Lib.hid hcase
            clear hcase
            as_aux_lemma =>
            go_upto_region 15 with (first
              | (go_at_call 53; refine (HClo.out _ (by (repeat (first | exact Below.refl _ _ | assumption | refine bal ?_ _ | refine Below.drew ?_ | refine bdrewN ?_ _ | refine bthen ?_ (by assumption))))).mono ?_; rintro r w2 ⟨⟨to', tc, rfl, hown2⟩, hb2⟩; have HO2 := Lib.hid hown2; have HB2 := Lib.hid (bthen (show Below wr.heap.size wr (wr.alloc (.cells #[.int .i64 op, .int .i64 ia, .int .i64 ib] 42)) by (repeat (first | exact Below.refl _ _ | assumption | refine bal ?_ _ | refine Below.drew ?_ | refine bdrewN ?_ _ | refine bthen ?_ (by assumption)))) hb2); have HB3' := Lib.hid (show Below wr.heap.size wr (w2.alloc (.cells #[.slice to' s.stk.length tc] 23)) from bal HB2.out _); have HSo3 := Lib.hid (HSo.out.old HB3'.out); have HT3 := Lib.hid (TyAt.alloc' (TyAt.own HO2.out) (.cells #[.slice to' s.stk.length tc] 23)); have HX3' := Lib.hid (sla_blkV (n := 1) (size := 1) (Blk.new w2 #[.slice to' s.stk.length tc] 23) rfl); have HDb := Lib.hid (Blk.old (w := wr.alloc (.cells #[.int .i64 op, .int .i64 ia, .int .i64 ib] 42)) (Blk.new wr #[.int .i64 op, .int .i64 ia, .int .i64 ib] 42) (bthen hb2 (show Below w2.heap.size w2 (w2.alloc (.cells #[.slice to' s.stk.length tc] 23)) by (repeat (first | exact Below.refl _ _ | assumption | refine bal ?_ _ | refine Below.drew ?_ | refine bdrewN ?_ _ | refine bthen ?_ (by assumption)))))); have hzz := HB3'.out.size; have hzw := HBr.out.size; clear hown2 hb2)
              | (at_builtin; refine wpList_wp rfl ?_; refine wp_append_slx (.tmp 38) (.tmp 44) 27 rfl w.heap.size 23 1 24 elVs _ rows.length _ rfl HSo3.out.own _ 1 1 [.slice to' s.stk.length tc] rfl HX3'.out (by intro u hu; rw [List.mem_singleton.1 hu]; rfl) (by have := HNr.out; omega) (by have := HNr.out; unfold maxLen; omega) (by omega) ?_; intro ao2 cap2 w4 hown4 hg4; have HS4 := Lib.hid (HSo3.out.snoc HT3.out hown4 hg4); have HSt4 := Lib.hid (St.grow_st (HSt.out.old HB3'.out) HSo3.out hg4); have hdb4 := Blk.grown_st HSo3.out HDb.out (by decide) hg4; have HXr4 := Lib.hid (Blk.grown_st HSo3.out (HXr.out.old HB3'.out) (by decide) hg4); have e0 := hdb4.cell 0 (v := .int .i64 op) rfl; have e1 := hdb4.cell 1 (v := .int .i64 ia) rfl; have e2 := hdb4.cell 2 (v := .int .i64 ib) rfl; have HStep := Lib.hid ((simple_any (i := ⟨op, ia, ib⟩) HHm.out HLt.out HWf.out.stk HSt4.out HHM.out hs6 HOpd.out HWf.out.base hk ⟨hop0, HOp.out⟩).mono fun r w5 hp => step_of_do HSt4.out (by dsimp only; have := HOp.out; omega) (by dsimp only; have := HOp.out; omega) HOq.out hp); clear hown4 hg4 hdb4)
              | (go_at_call 54; refine (opens_any _ _).mono ?_; rintro e w' ⟨rfl, rfl⟩)
              | (go_at_call 58; refine HStep.out.mono ?_; rintro r w5 ⟨⟨v, rfl⟩, hu5, hse⟩; have HU5 := Lib.hid hu5; have HSe := Lib.hid hse; clear hu5 hse))
            have hwf2 := HWf.out
            rw [HDr.out] at hwf2
            have hpv2 := HPv.out
            rw [HDr.out] at hpv2
            rcases HSe.out with ⟨h0, sso2, ssc2, oo2, oc2, bs2, hst5⟩ | ⟨h0, S5, O5, hc5⟩
            · have y7 := hst5.ck.cells.2.2.2.2.2.2.2.2
              have hrd : Rd w w5 K h m kk lo lc ls (k + 1) ao2 cap2 (rows.length + 1) := ⟨⟨_, acc ++ [s.stk], _, sso2, ssc2, oo2, oc2, bs2, hst5, wf_step HHm.out HLt.out hk ⟨hop0, hop36⟩ HOpd.out hwf2 h0, by simp, StOwn.step HSt4.out HS4.out HU5.out, by rw [hpv2, passF_cons_ok h0, compP_comp]⟩⟩
              have HRd5 := Lib.hid hrd
              have HX5 := Lib.hid (Blk.step HSt4.out HXr4.out (by decide) (by decide) HU5.out)
              clear hst5 hwf2 hpv2 hrd h0
              go_wp2_with fail
              go_roundw
              case rel => exact ⟨k + 1, ao2, cap2, rows.length + 1, by omega, by go_num, rfl, by rw [HNr.out], HRd5, Lib.hid (Below.refl _ _), HX5⟩
              case measure => simp [intOf]; omega
            · have y7 := hc5.cells.2.2.2.2.2.2.2.2
              obtain ⟨er, her⟩ : ∃ e, e = (stepV m ls ⟨op, ia, ib⟩ s).1 := ⟨_, rfl⟩
              have hpe : passV m kk = ([], k, er) := by rw [hpv2, passF_cons_no h0, ← her]; exact compP_no (by rw [her]; exact h0)
              rw [← her] at y7 h0
              have hn0 : (er == 0) = false := by simpa using h0
              have HBe := Lib.hid (St.upper HSt4.out HU5.out)
              have HPe := Lib.hid hpe
              clear hc5 hwf2 hpv2 hpe her h0
              go_wp2_with fail
              refine wp_mixO (fun w' : World => w'.cell? ⟨K, 7, none⟩ = some (.int .i64 er)) (.plain 0 (.plain 1 (.plain 2 (.plain 3 (.plain 4 (.plain 5 (.plain 6 (.plain 7 .done)))))))) (by kernel_rfl) (by kernel_rfl) (by intro c a d v w h; cases d <;> exact h) y7 ?_
              repeat (refine wpMixO_plain ?_; simp only [opAt, List.getD_cons_zero, List.getD_cons_succ]; (first | (apply Exists.intro; refine ⟨Or.inl ⟨by rfl, ?_⟩, ?_⟩; focus (intro w hSw; (try dsimp only at hSw); go_simp; (try with_reducible rfl); done)) | (refine ⟨_, Or.inr ⟨by rfl, rfl⟩, ?_⟩)); (try simp only [Act.put, List.setIfInBounds_toArray, List.set_cons_zero, List.set_cons_succ]))
              refine wpMixO_done ?_
              go_wp2
              go_ret3
              rw [HPe.out]
              exact RetM.no w HBe.out.drew k er
    · have hke : nc = k := by omega
      subst hke
      have hdn : (m.me.getD kk default).k.drop nc = [] := by rw [List.drop_eq_nil_iff]; have := HNc.out; omega
      have hpv2 := HPv.out
      rw [hdn] at hpv2
      obtain ⟨⟨rk, rq⟩, hr⟩ : ∃ r : Ty, r = (m.me.getD kk default).r := ⟨_, rfl⟩
      rw [← hr, passF_nil] at hpv2
      have hrt := HMt.out.r
      rw [← hr] at hrt
      rw [← hr] at HMc
      have HPv2 := Lib.hid hpv2
      have HRt := Lib.hid hrt
      have HClo := Lib.hid (show ∀ w', Below wr.heap.size wr w' → Calls Tryz.prog 53 #[.slice sso s.stk.length ssc] w' (RetOwn 38 w' s.stk) from fun w' hb' => clT_any w' sso ssc s.stk (HSt.out.ts.1.old hb') (by omega))
      clear hdn hpv2 hr hrt m6 k7 hkl
      by_cases hrk : rk = 0
      · by_cases hsn : s.stk = []
        · have HRl := Lib.hid (show (resL ⟨rk, rq⟩).length = 0 from by unfold resL; rw [if_pos hrk]; rfl)
          have hcmp : ((s.stk.length : Int) == 0) = true := by simp [hsn]
          have HPe := Lib.hid (show passV m kk = (acc ++ [s.stk], 0, 0) from by rw [HPv2.out, hsn, endedV_nil hrk]; rfl)
          clear hsn hrk
          as_aux_lemma =>
          go_upto_region 22 with (first
            | (go_at_call 53; refine (HClo.out _ (Below.refl _ _)).mono ?_; rintro r w2 ⟨⟨to', tc, rfl, hown2⟩, hb2⟩; have HO2 := Lib.hid hown2; have HB3' := Lib.hid (show Below wr.heap.size wr (w2.alloc (.cells #[.slice to' s.stk.length tc] 23)) from bal hb2 _); have HSo3 := Lib.hid (HSo.out.old HB3'.out); have HT3 := Lib.hid (TyAt.alloc' (TyAt.own HO2.out) (.cells #[.slice to' s.stk.length tc] 23)); have HX3' := Lib.hid (sla_blkV (n := 1) (size := 1) (Blk.new w2 #[.slice to' s.stk.length tc] 23) rfl); have hzz := HB3'.out.size; have hzw := HBr.out.size; clear hown2 hb2)
            | (at_builtin; refine wpList_wp rfl ?_; refine wp_append_slx (.tmp 79) (.tmp 85) 27 rfl w.heap.size 23 1 24 elVs _ rows.length _ rfl HSo3.out.own _ 1 1 [.slice to' s.stk.length tc] rfl HX3'.out (by intro u hu; rw [List.mem_singleton.1 hu]; rfl) (by have := HNr.out; omega) (by have := HNr.out; unfold maxLen; omega) (by omega) ?_; intro ao2 cap2 w4 hown4 hg4; have HS4 := Lib.hid (HSo3.out.snoc HT3.out hown4 hg4); have HSt4 := Lib.hid (St.grow_st (HSt.out.old HB3'.out) HSo3.out hg4); have HXr4 := Lib.hid (Blk.grown_st HSo3.out (HXr.out.old HB3'.out) (by decide) hg4); obtain ⟨-, m4, m5⟩ := HMc.out w4 HSt4.out.hb; clear hown4 hg4)
            | (go_at_call 59; refine (results_any ⟨rk, rq⟩ _).mono ?_; rintro r w5 ⟨ro, rc, rfl, hto5, -, hb5⟩; rw [HRl.out]; have HTo5 := Lib.hid hto5; have HSt5 := Lib.hid (HSt4.out.old hb5); have HS5 := Lib.hid (HS4.out.old hb5); have HX5 := Lib.hid (HXr4.out.old hb5); have k5' := HSt5.out.ck.cells.2.2.2.2.2.2.1; have m6' := (HMc.out w5 HSt5.out.hb).1; clear hto5 hb5))
          refine wp_mixO (fun _ : World => True) (.plain 0 (.plain 1 (.plain 2 (.plain 3 (.plain 4 (.plain 5 (.plain 6 (.plain 7 (.plain 8 (.plain 9 (.plain 10 (.plain 11 (.plain 12 (.plain 13 (.one 14 (.plain 15 (.plain 16 .done))))))))))))))))) (by kernel_rfl) (by kernel_rfl) (by intro c a d v w h; cases d <;> exact h) trivial ?_
          repeat (refine wpMixO_plain ?_; simp only [opAt, List.getD_cons_zero, List.getD_cons_succ]; (first | (apply Exists.intro; refine ⟨Or.inl ⟨by rfl, ?_⟩, ?_⟩; focus (intro w hSw; (try dsimp only at hSw); go_simp; (try with_reducible rfl); done)) | (refine ⟨_, Or.inr ⟨by rfl, rfl⟩, ?_⟩)); (try simp only [Act.put, List.setIfInBounds_toArray, List.set_cons_zero, List.set_cons_succ]))
          refine wpMixO_one ?_
          refine wpOp_skipD 119 (by rfl) ?_
          refine ⟨trivial, ?_⟩
          simp only [List.setIfInBounds_toArray, List.set_cons_zero, List.set_cons_succ]
          repeat (refine wpMixO_plain ?_; simp only [opAt, List.getD_cons_zero, List.getD_cons_succ]; (first | (apply Exists.intro; refine ⟨Or.inl ⟨by rfl, ?_⟩, ?_⟩; focus (intro w hSw; (try dsimp only at hSw); go_simp; (try with_reducible rfl); done)) | (refine ⟨_, Or.inr ⟨by rfl, rfl⟩, ?_⟩)); (try simp only [Act.put, List.setIfInBounds_toArray, List.set_cons_zero, List.set_cons_succ]))
          refine wpMixO_done ?_
          go_wp2
          go_ret3
          rw [HPe.out]
          exact ⟨⟨ao2, cap2, rows ++ [⟨to', s.stk.length, tc⟩], by simp, HS5.out.old (by (repeat (first | exact Below.refl _ _ | assumption | refine bal ?_ _ | refine Below.drew ?_ | refine bdrewN ?_ _ | refine bthen ?_ (by assumption))))⟩, HSt5.out.hb.drew⟩

        · have HRl := Lib.hid (show (resL ⟨rk, rq⟩).length = 0 from by unfold resL; rw [if_pos hrk]; rfl)
          have hcmp : ((s.stk.length : Int) == 0) = false := by simp [hsn]
          have HPe := Lib.hid (show passV m kk = ([], nc, 12) from by rw [HPv2.out, endedV_cons hrk hsn]; rfl)
          clear hsn hrk
          as_aux_lemma =>
          go_upto_region 21 with (first
            | (go_at_call 53; refine (HClo.out _ (Below.refl _ _)).mono ?_; rintro r w2 ⟨⟨to', tc, rfl, hown2⟩, hb2⟩; have HO2 := Lib.hid hown2; have HB3' := Lib.hid (show Below wr.heap.size wr (w2.alloc (.cells #[.slice to' s.stk.length tc] 23)) from bal hb2 _); have HSo3 := Lib.hid (HSo.out.old HB3'.out); have HT3 := Lib.hid (TyAt.alloc' (TyAt.own HO2.out) (.cells #[.slice to' s.stk.length tc] 23)); have HX3' := Lib.hid (sla_blkV (n := 1) (size := 1) (Blk.new w2 #[.slice to' s.stk.length tc] 23) rfl); have hzz := HB3'.out.size; have hzw := HBr.out.size; clear hown2 hb2)
            | (at_builtin; refine wpList_wp rfl ?_; refine wp_append_slx (.tmp 79) (.tmp 85) 27 rfl w.heap.size 23 1 24 elVs _ rows.length _ rfl HSo3.out.own _ 1 1 [.slice to' s.stk.length tc] rfl HX3'.out (by intro u hu; rw [List.mem_singleton.1 hu]; rfl) (by have := HNr.out; omega) (by have := HNr.out; unfold maxLen; omega) (by omega) ?_; intro ao2 cap2 w4 hown4 hg4; have HS4 := Lib.hid (HSo3.out.snoc HT3.out hown4 hg4); have HSt4 := Lib.hid (St.grow_st (HSt.out.old HB3'.out) HSo3.out hg4); have HXr4 := Lib.hid (Blk.grown_st HSo3.out (HXr.out.old HB3'.out) (by decide) hg4); obtain ⟨-, m4, m5⟩ := HMc.out w4 HSt4.out.hb; clear hown4 hg4)
            | (go_at_call 59; refine (results_any ⟨rk, rq⟩ _).mono ?_; rintro r w5 ⟨ro, rc, rfl, hto5, -, hb5⟩; rw [HRl.out]; have HTo5 := Lib.hid hto5; have HSt5 := Lib.hid (HSt4.out.old hb5); have HS5 := Lib.hid (HS4.out.old hb5); have HX5 := Lib.hid (HXr4.out.old hb5); have k5' := HSt5.out.ck.cells.2.2.2.2.2.2.1; have m6' := (HMc.out w5 HSt5.out.hb).1; clear hto5 hb5))
          refine wp_mixO (fun w' : World => w'.cell? ⟨ma.block, ma.off + 6, none⟩ = some (.slice (h.e kk).ko nc (h.e kk).kc)) (.plain 0 (.plain 1 (.plain 2 (.plain 3 (.plain 4 (.plain 5 (.plain 6 (.plain 7 .done)))))))) (by kernel_rfl) (by kernel_rfl) (by intro c a d v w h; cases d <;> exact h) m6' ?_
          repeat (refine wpMixO_plain ?_; simp only [opAt, List.getD_cons_zero, List.getD_cons_succ]; (first | (apply Exists.intro; refine ⟨Or.inl ⟨by rfl, ?_⟩, ?_⟩; focus (intro w hSw; (try dsimp only at hSw); go_simp; (try with_reducible rfl); done)) | (refine ⟨_, Or.inr ⟨by rfl, rfl⟩, ?_⟩)); (try simp only [Act.put, List.setIfInBounds_toArray, List.set_cons_zero, List.set_cons_succ]))
          refine wpMixO_done ?_
          go_wp2
          go_ret3
          rw [HPe.out]
          exact RetM.no w HSt5.out.hb.drew nc 12

      · by_cases hsn : s.stk.length = 1
        · obtain ⟨⟨tk, tq⟩, ht1⟩ := one_of hsn
          cases hft : fitsV m ⟨tk, tq⟩ ⟨rk, rq⟩
          · have HRl := Lib.hid (show (resL ⟨rk, rq⟩).length = 1 from by unfold resL; rw [if_neg hrk]; rfl)
            have hcmp : ((s.stk.length : Int) == 1) = true := by simp [hsn]
            have HPe := Lib.hid (show passV m kk = ([], nc, 11) from by rw [HPv2.out, ht1, endedV_one hrk, hft]; rfl)
            have hl1 : 0 < s.stk.length := by omega
            have HFt := Lib.hid (show fitG m ⟨tk, tq⟩ ⟨rk, rq⟩ = false from by rw [fitG_eq HHm.out (HWf.out.stk.2 _ (by rw [ht1]; simp)) (ty_none HRt.out hrk), hft])
            have HT1 := Lib.hid ht1
            have HR0 := Lib.hid (show (resL ⟨rk, rq⟩).getD 0 default = ⟨rk, rq⟩ from by unfold resL; rw [if_neg hrk]; rfl)
            clear ht1 hft
            clear hsn hrk
            as_aux_lemma =>
            go_upto_region 22 with (first
              | (go_at_call 53; refine (HClo.out _ (Below.refl _ _)).mono ?_; rintro r w2 ⟨⟨to', tc, rfl, hown2⟩, hb2⟩; have HO2 := Lib.hid hown2; have HB3' := Lib.hid (show Below wr.heap.size wr (w2.alloc (.cells #[.slice to' s.stk.length tc] 23)) from bal hb2 _); have HSo3 := Lib.hid (HSo.out.old HB3'.out); have HT3 := Lib.hid (TyAt.alloc' (TyAt.own HO2.out) (.cells #[.slice to' s.stk.length tc] 23)); have HX3' := Lib.hid (sla_blkV (n := 1) (size := 1) (Blk.new w2 #[.slice to' s.stk.length tc] 23) rfl); have hzz := HB3'.out.size; have hzw := HBr.out.size; clear hown2 hb2)
              | (at_builtin; refine wpList_wp rfl ?_; refine wp_append_slx (.tmp 79) (.tmp 85) 27 rfl w.heap.size 23 1 24 elVs _ rows.length _ rfl HSo3.out.own _ 1 1 [.slice to' s.stk.length tc] rfl HX3'.out (by intro u hu; rw [List.mem_singleton.1 hu]; rfl) (by have := HNr.out; omega) (by have := HNr.out; unfold maxLen; omega) (by omega) ?_; intro ao2 cap2 w4 hown4 hg4; have HS4 := Lib.hid (HSo3.out.snoc HT3.out hown4 hg4); have HSt4 := Lib.hid (St.grow_st (HSt.out.old HB3'.out) HSo3.out hg4); have HXr4 := Lib.hid (Blk.grown_st HSo3.out (HXr.out.old HB3'.out) (by decide) hg4); obtain ⟨-, m4, m5⟩ := HMc.out w4 HSt4.out.hb; clear hown4 hg4)
              | (go_at_call 59; refine (results_any ⟨rk, rq⟩ _).mono ?_; rintro r w5 ⟨ro, rc, rfl, hto5, -, hb5⟩; rw [HRl.out]; have HTo5 := Lib.hid hto5; have HSt5 := Lib.hid (HSt4.out.old hb5); have HS5 := Lib.hid (HS4.out.old hb5); have HX5 := Lib.hid (HXr4.out.old hb5); have k5' := HSt5.out.ck.cells.2.2.2.2.2.2.1; have m6' := (HMc.out w5 HSt5.out.hb).1; clear hto5 hb5))
            obtain ⟨sa, hsa, t0, t1⟩ := row_ty HSt5.out.ts.1 (i := 0) (by omega)
            obtain ⟨wa, hwa, u0, u1⟩ := row_ty HTo5.out.1 (i := 0) (by rw [HRl.out]; decide)
            rw [Nat.zero_mul, show sa.add 0 = sa from by simp [Addr.add], HT1.out] at t0 t1
            rw [Nat.zero_mul, show wa.add 0 = wa from by simp [Addr.add], HR0.out] at u0 u1
            dsimp only [List.getD_cons_zero] at t0 t1 u0 u1
            rw [hsa] at k5'
            rw [hwa]
            have g0 := HX5.out.cell 0 (v := .slice h.co m.cl.length h.cc) rfl
            have g1 := HX5.out.cell 1 (v := .slice h.so m.st.length h.sc) rfl
            have g2 : w5.cell? ⟨w.heap.size, 2, none⟩ = some (.slice h.eo m.me.length h.ec) := HX5.out.cell 2 rfl
            have g3 := HX5.out.cell 3 (v := .int .i64 m.sel) rfl
            have hS : ∀ w', Below w5.heap.size w5 w' → (fun w' : World => w'.cell? ⟨w.heap.size, 0, none⟩ = some (.slice h.co m.cl.length h.cc) ∧ w'.cell? ⟨w.heap.size, 1, none⟩ = some (.slice h.so m.st.length h.sc) ∧ w'.cell? ⟨w.heap.size, 2, none⟩ = some (.slice h.eo m.me.length h.ec) ∧ w'.cell? ⟨w.heap.size, 3, none⟩ = some (.int .i64 m.sel) ∧ w'.cell? ⟨K, 5, none⟩ = some (.slice (some sa) s.stk.length ssc) ∧ w'.cell? sa = some (.int .i64 tk) ∧ w'.cell? ⟨sa.block, sa.off + 1, none⟩ = some (.int .i64 tq) ∧ w'.cell? wa = some (.int .i64 rk) ∧ w'.cell? ⟨wa.block, wa.off + 1, none⟩ = some (.int .i64 rq)) w' := fun w' hb' => ⟨(hb'.cell (cell_lt g0)).trans g0, (hb'.cell (cell_lt g1)).trans g1, (hb'.cell (cell_lt g2)).trans g2, (hb'.cell (cell_lt g3)).trans g3, (hb'.cell (cell_lt k5')).trans k5', (hb'.cell (cell_lt t0)).trans t0, (hb'.cell (p := ⟨sa.block, sa.off + 1, none⟩) (cell_lt t1)).trans t1, (hb'.cell (cell_lt u0)).trans u0, (hb'.cell (p := ⟨wa.block, wa.off + 1, none⟩) (cell_lt u1)).trans u1⟩
            have HS := Lib.hid hS
            have HFi := Lib.hid (show ∀ w', Below w5.heap.size w5 w' → Calls Tryz.prog 45 #[.agg #[.slice h.co m.cl.length h.cc, .slice h.so m.st.length h.sc, .slice h.eo m.me.length h.ec, .int .i64 m.sel], .agg #[.int .i64 tk, .int .i64 tq], .agg #[.int .i64 rk, .int .i64 rq]] w' (Ret w' (.bool false)) from fun w' hb' => by have := fits_any m h ⟨tk, tq⟩ ⟨rk, rq⟩ w' (HHM.out.old (bthen HSt5.out.hb hb')); rw [HFt.out] at this; exact this)
            clear hS hsa hwa t0 t1 u0 u1 g0 g1 g2 g3 k5'
            refine wp_mixO (fun w' : World => w'.cell? ⟨w.heap.size, 0, none⟩ = some (.slice h.co m.cl.length h.cc) ∧ w'.cell? ⟨w.heap.size, 1, none⟩ = some (.slice h.so m.st.length h.sc) ∧ w'.cell? ⟨w.heap.size, 2, none⟩ = some (.slice h.eo m.me.length h.ec) ∧ w'.cell? ⟨w.heap.size, 3, none⟩ = some (.int .i64 m.sel) ∧ w'.cell? ⟨K, 5, none⟩ = some (.slice (some sa) s.stk.length ssc) ∧ w'.cell? sa = some (.int .i64 tk) ∧ w'.cell? ⟨sa.block, sa.off + 1, none⟩ = some (.int .i64 tq) ∧ w'.cell? wa = some (.int .i64 rk) ∧ w'.cell? ⟨wa.block, wa.off + 1, none⟩ = some (.int .i64 rq)) (.plain 0 (.plain 1 (.plain 2 (.plain 3 (.plain 4 (.plain 5 (.plain 6 (.plain 7 (.plain 8 (.plain 9 (.plain 10 (.plain 11 (.plain 12 (.plain 13 (.one 14 (.plain 15 (.plain 16 .done))))))))))))))))) (by kernel_rfl) (by kernel_rfl) (by intro c a d v w h; cases d <;> exact h) (HS.out _ (by (repeat (first | exact Below.refl _ _ | assumption | refine bal ?_ _ | refine Below.drew ?_ | refine bdrewN ?_ _ | refine bthen ?_ (by assumption))))) ?_
            repeat (refine wpMixO_plain ?_; simp only [opAt, List.getD_cons_zero, List.getD_cons_succ]; (first | (apply Exists.intro; refine ⟨Or.inl ⟨by rfl, ?_⟩, ?_⟩; focus (intro w hSw; (try dsimp only at hSw); go_simp; (try with_reducible rfl); done)) | (refine ⟨_, Or.inr ⟨by rfl, rfl⟩, ?_⟩)); (try simp only [Act.put, List.setIfInBounds_toArray, List.set_cons_zero, List.set_cons_succ]))
            refine wpMixO_one ?_
            refine wpOp_one _ (by rfl) (by rfl) fun Kv hK => ?_
            go_simp
            refine (HFi.out _ (by (repeat (first | exact Below.refl _ _ | assumption | refine bal ?_ _ | refine Below.drew ?_ | refine bdrewN ?_ _ | refine bthen ?_ (by assumption))))).mono ?_
            rintro r w6 ⟨rfl, hb6⟩
            have HB6 := Lib.hid (show Below w5.heap.size w5 w6 from bthen (show Below w5.heap.size w5 w5.drew by (repeat (first | exact Below.refl _ _ | assumption | refine bal ?_ _ | refine Below.drew ?_ | refine bdrewN ?_ _ | refine bthen ?_ (by assumption)))) hb6)
            refine hK _ _ ⟨HS.out _ HB6.out, ?_⟩
            clear hK Kv hb6
            repeat (refine wpMixO_plain ?_; simp only [opAt, List.getD_cons_zero, List.getD_cons_succ]; (first | (apply Exists.intro; refine ⟨Or.inl ⟨by rfl, ?_⟩, ?_⟩; focus (intro w hSw; (try dsimp only at hSw); go_simp; (try with_reducible rfl); done)) | (refine ⟨_, Or.inr ⟨by rfl, rfl⟩, ?_⟩)); (try simp only [Act.put, List.setIfInBounds_toArray, List.set_cons_zero, List.set_cons_succ]))
            refine wpMixO_done ?_
            have m7 := (HMc.out w6 (bthen HSt5.out.hb HB6.out)).1
            go_wp2_with fail
            refine wp_mixO (fun w' : World => w'.cell? ⟨ma.block, ma.off + 6, none⟩ = some (.slice (h.e kk).ko nc (h.e kk).kc)) (.plain 0 (.plain 1 (.plain 2 (.plain 3 (.plain 4 (.plain 5 (.plain 6 (.plain 7 .done)))))))) (by kernel_rfl) (by kernel_rfl) (by intro c a d v w h; cases d <;> exact h) m7 ?_
            repeat (refine wpMixO_plain ?_; simp only [opAt, List.getD_cons_zero, List.getD_cons_succ]; (first | (apply Exists.intro; refine ⟨Or.inl ⟨by rfl, ?_⟩, ?_⟩; focus (intro w hSw; (try dsimp only at hSw); go_simp; (try with_reducible rfl); done)) | (refine ⟨_, Or.inr ⟨by rfl, rfl⟩, ?_⟩)); (try simp only [Act.put, List.setIfInBounds_toArray, List.set_cons_zero, List.set_cons_succ]))
            refine wpMixO_done ?_
            go_wp2
            go_ret3
            rw [HPe.out]
            exact RetM.no w (bthen HSt5.out.hb HB6.out).drew nc 11

          · have HRl := Lib.hid (show (resL ⟨rk, rq⟩).length = 1 from by unfold resL; rw [if_neg hrk]; rfl)
            have hcmp : ((s.stk.length : Int) == 1) = true := by simp [hsn]
            have HPe := Lib.hid (show passV m kk = (acc ++ [s.stk], 0, 0) from by rw [HPv2.out, ht1, endedV_one hrk, hft]; rfl)
            have hl1 : 0 < s.stk.length := by omega
            have HFt := Lib.hid (show fitG m ⟨tk, tq⟩ ⟨rk, rq⟩ = true from by rw [fitG_eq HHm.out (HWf.out.stk.2 _ (by rw [ht1]; simp)) (ty_none HRt.out hrk), hft])
            have HT1 := Lib.hid ht1
            have HR0 := Lib.hid (show (resL ⟨rk, rq⟩).getD 0 default = ⟨rk, rq⟩ from by unfold resL; rw [if_neg hrk]; rfl)
            clear ht1 hft
            clear hsn hrk
            as_aux_lemma =>
            go_upto_region 22 with (first
              | (go_at_call 53; refine (HClo.out _ (Below.refl _ _)).mono ?_; rintro r w2 ⟨⟨to', tc, rfl, hown2⟩, hb2⟩; have HO2 := Lib.hid hown2; have HB3' := Lib.hid (show Below wr.heap.size wr (w2.alloc (.cells #[.slice to' s.stk.length tc] 23)) from bal hb2 _); have HSo3 := Lib.hid (HSo.out.old HB3'.out); have HT3 := Lib.hid (TyAt.alloc' (TyAt.own HO2.out) (.cells #[.slice to' s.stk.length tc] 23)); have HX3' := Lib.hid (sla_blkV (n := 1) (size := 1) (Blk.new w2 #[.slice to' s.stk.length tc] 23) rfl); have hzz := HB3'.out.size; have hzw := HBr.out.size; clear hown2 hb2)
              | (at_builtin; refine wpList_wp rfl ?_; refine wp_append_slx (.tmp 79) (.tmp 85) 27 rfl w.heap.size 23 1 24 elVs _ rows.length _ rfl HSo3.out.own _ 1 1 [.slice to' s.stk.length tc] rfl HX3'.out (by intro u hu; rw [List.mem_singleton.1 hu]; rfl) (by have := HNr.out; omega) (by have := HNr.out; unfold maxLen; omega) (by omega) ?_; intro ao2 cap2 w4 hown4 hg4; have HS4 := Lib.hid (HSo3.out.snoc HT3.out hown4 hg4); have HSt4 := Lib.hid (St.grow_st (HSt.out.old HB3'.out) HSo3.out hg4); have HXr4 := Lib.hid (Blk.grown_st HSo3.out (HXr.out.old HB3'.out) (by decide) hg4); obtain ⟨-, m4, m5⟩ := HMc.out w4 HSt4.out.hb; clear hown4 hg4)
              | (go_at_call 59; refine (results_any ⟨rk, rq⟩ _).mono ?_; rintro r w5 ⟨ro, rc, rfl, hto5, -, hb5⟩; rw [HRl.out]; have HTo5 := Lib.hid hto5; have HSt5 := Lib.hid (HSt4.out.old hb5); have HS5 := Lib.hid (HS4.out.old hb5); have HX5 := Lib.hid (HXr4.out.old hb5); have k5' := HSt5.out.ck.cells.2.2.2.2.2.2.1; have m6' := (HMc.out w5 HSt5.out.hb).1; clear hto5 hb5))
            obtain ⟨sa, hsa, t0, t1⟩ := row_ty HSt5.out.ts.1 (i := 0) (by omega)
            obtain ⟨wa, hwa, u0, u1⟩ := row_ty HTo5.out.1 (i := 0) (by rw [HRl.out]; decide)
            rw [Nat.zero_mul, show sa.add 0 = sa from by simp [Addr.add], HT1.out] at t0 t1
            rw [Nat.zero_mul, show wa.add 0 = wa from by simp [Addr.add], HR0.out] at u0 u1
            dsimp only [List.getD_cons_zero] at t0 t1 u0 u1
            rw [hsa] at k5'
            rw [hwa]
            have g0 := HX5.out.cell 0 (v := .slice h.co m.cl.length h.cc) rfl
            have g1 := HX5.out.cell 1 (v := .slice h.so m.st.length h.sc) rfl
            have g2 : w5.cell? ⟨w.heap.size, 2, none⟩ = some (.slice h.eo m.me.length h.ec) := HX5.out.cell 2 rfl
            have g3 := HX5.out.cell 3 (v := .int .i64 m.sel) rfl
            have hS : ∀ w', Below w5.heap.size w5 w' → (fun w' : World => w'.cell? ⟨w.heap.size, 0, none⟩ = some (.slice h.co m.cl.length h.cc) ∧ w'.cell? ⟨w.heap.size, 1, none⟩ = some (.slice h.so m.st.length h.sc) ∧ w'.cell? ⟨w.heap.size, 2, none⟩ = some (.slice h.eo m.me.length h.ec) ∧ w'.cell? ⟨w.heap.size, 3, none⟩ = some (.int .i64 m.sel) ∧ w'.cell? ⟨K, 5, none⟩ = some (.slice (some sa) s.stk.length ssc) ∧ w'.cell? sa = some (.int .i64 tk) ∧ w'.cell? ⟨sa.block, sa.off + 1, none⟩ = some (.int .i64 tq) ∧ w'.cell? wa = some (.int .i64 rk) ∧ w'.cell? ⟨wa.block, wa.off + 1, none⟩ = some (.int .i64 rq)) w' := fun w' hb' => ⟨(hb'.cell (cell_lt g0)).trans g0, (hb'.cell (cell_lt g1)).trans g1, (hb'.cell (cell_lt g2)).trans g2, (hb'.cell (cell_lt g3)).trans g3, (hb'.cell (cell_lt k5')).trans k5', (hb'.cell (cell_lt t0)).trans t0, (hb'.cell (p := ⟨sa.block, sa.off + 1, none⟩) (cell_lt t1)).trans t1, (hb'.cell (cell_lt u0)).trans u0, (hb'.cell (p := ⟨wa.block, wa.off + 1, none⟩) (cell_lt u1)).trans u1⟩
            have HS := Lib.hid hS
            have HFi := Lib.hid (show ∀ w', Below w5.heap.size w5 w' → Calls Tryz.prog 45 #[.agg #[.slice h.co m.cl.length h.cc, .slice h.so m.st.length h.sc, .slice h.eo m.me.length h.ec, .int .i64 m.sel], .agg #[.int .i64 tk, .int .i64 tq], .agg #[.int .i64 rk, .int .i64 rq]] w' (Ret w' (.bool true)) from fun w' hb' => by have := fits_any m h ⟨tk, tq⟩ ⟨rk, rq⟩ w' (HHM.out.old (bthen HSt5.out.hb hb')); rw [HFt.out] at this; exact this)
            clear hS hsa hwa t0 t1 u0 u1 g0 g1 g2 g3 k5'
            refine wp_mixO (fun w' : World => w'.cell? ⟨w.heap.size, 0, none⟩ = some (.slice h.co m.cl.length h.cc) ∧ w'.cell? ⟨w.heap.size, 1, none⟩ = some (.slice h.so m.st.length h.sc) ∧ w'.cell? ⟨w.heap.size, 2, none⟩ = some (.slice h.eo m.me.length h.ec) ∧ w'.cell? ⟨w.heap.size, 3, none⟩ = some (.int .i64 m.sel) ∧ w'.cell? ⟨K, 5, none⟩ = some (.slice (some sa) s.stk.length ssc) ∧ w'.cell? sa = some (.int .i64 tk) ∧ w'.cell? ⟨sa.block, sa.off + 1, none⟩ = some (.int .i64 tq) ∧ w'.cell? wa = some (.int .i64 rk) ∧ w'.cell? ⟨wa.block, wa.off + 1, none⟩ = some (.int .i64 rq)) (.plain 0 (.plain 1 (.plain 2 (.plain 3 (.plain 4 (.plain 5 (.plain 6 (.plain 7 (.plain 8 (.plain 9 (.plain 10 (.plain 11 (.plain 12 (.plain 13 (.one 14 (.plain 15 (.plain 16 .done))))))))))))))))) (by kernel_rfl) (by kernel_rfl) (by intro c a d v w h; cases d <;> exact h) (HS.out _ (by (repeat (first | exact Below.refl _ _ | assumption | refine bal ?_ _ | refine Below.drew ?_ | refine bdrewN ?_ _ | refine bthen ?_ (by assumption))))) ?_
            repeat (refine wpMixO_plain ?_; simp only [opAt, List.getD_cons_zero, List.getD_cons_succ]; (first | (apply Exists.intro; refine ⟨Or.inl ⟨by rfl, ?_⟩, ?_⟩; focus (intro w hSw; (try dsimp only at hSw); go_simp; (try with_reducible rfl); done)) | (refine ⟨_, Or.inr ⟨by rfl, rfl⟩, ?_⟩)); (try simp only [Act.put, List.setIfInBounds_toArray, List.set_cons_zero, List.set_cons_succ]))
            refine wpMixO_one ?_
            refine wpOp_one _ (by rfl) (by rfl) fun Kv hK => ?_
            go_simp
            refine (HFi.out _ (by (repeat (first | exact Below.refl _ _ | assumption | refine bal ?_ _ | refine Below.drew ?_ | refine bdrewN ?_ _ | refine bthen ?_ (by assumption))))).mono ?_
            rintro r w6 ⟨rfl, hb6⟩
            have HB6 := Lib.hid (show Below w5.heap.size w5 w6 from bthen (show Below w5.heap.size w5 w5.drew by (repeat (first | exact Below.refl _ _ | assumption | refine bal ?_ _ | refine Below.drew ?_ | refine bdrewN ?_ _ | refine bthen ?_ (by assumption)))) hb6)
            refine hK _ _ ⟨HS.out _ HB6.out, ?_⟩
            clear hK Kv hb6
            repeat (refine wpMixO_plain ?_; simp only [opAt, List.getD_cons_zero, List.getD_cons_succ]; (first | (apply Exists.intro; refine ⟨Or.inl ⟨by rfl, ?_⟩, ?_⟩; focus (intro w hSw; (try dsimp only at hSw); go_simp; (try with_reducible rfl); done)) | (refine ⟨_, Or.inr ⟨by rfl, rfl⟩, ?_⟩)); (try simp only [Act.put, List.setIfInBounds_toArray, List.set_cons_zero, List.set_cons_succ]))
            refine wpMixO_done ?_
            go_wp2
            go_ret3
            rw [HPe.out]
            exact ⟨⟨ao2, cap2, rows ++ [⟨to', s.stk.length, tc⟩], by simp, HS5.out.old HB6.out⟩, bthen HSt5.out.hb HB6.out⟩

        · have HRl := Lib.hid (show (resL ⟨rk, rq⟩).length = 1 from by unfold resL; rw [if_neg hrk]; rfl)
          have hcmp : ((s.stk.length : Int) == 1) = false := by simp; omega
          have HPe := Lib.hid (show passV m kk = ([], nc, 12) from by rw [HPv2.out, endedV_len hrk hsn]; rfl)
          clear hsn hrk
          as_aux_lemma =>
          go_upto_region 21 with (first
            | (go_at_call 53; refine (HClo.out _ (Below.refl _ _)).mono ?_; rintro r w2 ⟨⟨to', tc, rfl, hown2⟩, hb2⟩; have HO2 := Lib.hid hown2; have HB3' := Lib.hid (show Below wr.heap.size wr (w2.alloc (.cells #[.slice to' s.stk.length tc] 23)) from bal hb2 _); have HSo3 := Lib.hid (HSo.out.old HB3'.out); have HT3 := Lib.hid (TyAt.alloc' (TyAt.own HO2.out) (.cells #[.slice to' s.stk.length tc] 23)); have HX3' := Lib.hid (sla_blkV (n := 1) (size := 1) (Blk.new w2 #[.slice to' s.stk.length tc] 23) rfl); have hzz := HB3'.out.size; have hzw := HBr.out.size; clear hown2 hb2)
            | (at_builtin; refine wpList_wp rfl ?_; refine wp_append_slx (.tmp 79) (.tmp 85) 27 rfl w.heap.size 23 1 24 elVs _ rows.length _ rfl HSo3.out.own _ 1 1 [.slice to' s.stk.length tc] rfl HX3'.out (by intro u hu; rw [List.mem_singleton.1 hu]; rfl) (by have := HNr.out; omega) (by have := HNr.out; unfold maxLen; omega) (by omega) ?_; intro ao2 cap2 w4 hown4 hg4; have HS4 := Lib.hid (HSo3.out.snoc HT3.out hown4 hg4); have HSt4 := Lib.hid (St.grow_st (HSt.out.old HB3'.out) HSo3.out hg4); have HXr4 := Lib.hid (Blk.grown_st HSo3.out (HXr.out.old HB3'.out) (by decide) hg4); obtain ⟨-, m4, m5⟩ := HMc.out w4 HSt4.out.hb; clear hown4 hg4)
            | (go_at_call 59; refine (results_any ⟨rk, rq⟩ _).mono ?_; rintro r w5 ⟨ro, rc, rfl, hto5, -, hb5⟩; rw [HRl.out]; have HTo5 := Lib.hid hto5; have HSt5 := Lib.hid (HSt4.out.old hb5); have HS5 := Lib.hid (HS4.out.old hb5); have HX5 := Lib.hid (HXr4.out.old hb5); have k5' := HSt5.out.ck.cells.2.2.2.2.2.2.1; have m6' := (HMc.out w5 HSt5.out.hb).1; clear hto5 hb5))
          refine wp_mixO (fun w' : World => w'.cell? ⟨ma.block, ma.off + 6, none⟩ = some (.slice (h.e kk).ko nc (h.e kk).kc)) (.plain 0 (.plain 1 (.plain 2 (.plain 3 (.plain 4 (.plain 5 (.plain 6 (.plain 7 .done)))))))) (by kernel_rfl) (by kernel_rfl) (by intro c a d v w h; cases d <;> exact h) m6' ?_
          repeat (refine wpMixO_plain ?_; simp only [opAt, List.getD_cons_zero, List.getD_cons_succ]; (first | (apply Exists.intro; refine ⟨Or.inl ⟨by rfl, ?_⟩, ?_⟩; focus (intro w hSw; (try dsimp only at hSw); go_simp; (try with_reducible rfl); done)) | (refine ⟨_, Or.inr ⟨by rfl, rfl⟩, ?_⟩)); (try simp only [Act.put, List.setIfInBounds_toArray, List.set_cons_zero, List.set_cons_succ]))
          refine wpMixO_done ?_
          go_wp2
          go_ret3
          rw [HPe.out]
          exact RetM.no w HSt5.out.hb.drew nc 12


end Go.Proofs.YtkdamjpbnmbeoaaGreat
end

section
namespace Go.Proofs.YtkdamjpbnmbeoaaGreat
open Go.RowKit

set_option maxRecDepth 100000 in
set_option maxHeartbeats 1000000 in
theorem r6SameTypes_any (a b : List Ty) (ao bo : Option Addr) (ac bc : Nat) (w : World) (ha : RowAt w ao ac a) (hb : RowAt w bo bc b) (hm : a.length ≤ 1000000) : Calls Tryz.prog 30 #[.slice ao a.length ac, .slice bo b.length bc] w (Ret w (.bool (decide (a = b)))) := by
  by_cases hlen : a.length = b.length
  · have HA := Lib.hid ha
    have HB := Lib.hid hb
    have HLn := Lib.hid hlen
    have hb3 : ((a.length : Int) != b.length) = false := by simp [hlen]
    clear ha hb hlen
    go_enter Tryz.func30, Tryz.ntmps30
    go_wp2
    go_loopw [5] (fun i wr => ∃ k : Nat, k ≤ a.length ∧ i = .int .i64 k ∧ Below w.heap.size w wr ∧ Hid (∀ i, i < k → a.getD i default = b.getD i default)) (fun i _ => a.length - (intOf i).toNat)
    case atStart => exact ⟨0, by omega, rfl, Below.refl _ _, Lib.hid (by omega)⟩
    case round =>
      obtain ⟨k, hk, rfl, hbel, q1⟩ := hrel
      have HL := Lib.hid hbel
      clear hbel
      by_cases hkl : k < a.length
      · obtain ⟨ad, rfl, x0, x1⟩ := row_ty (HA.out.old HL.out) hkl
        obtain ⟨bd, rfl, y0, y1⟩ := row_ty (HB.out.old HL.out) (i := k) (by have := HLn.out; omega)
        have hkb : (k : Int) < b.length := by have := HLn.out; omega
        have hka : (k : Int) < a.length := by omega
        have hwr : IntKind.i64.wrap ((k : Int) + 1) = k + 1 := IntWalk.i64_in _ (by omega)
        generalize hx : a.getD k default = x at x0 x1
        generalize hy : b.getD k default = y at y0 y1
        have HX := Lib.hid hx
        have HY := Lib.hid hy
        clear hx hy
        have hne := neqTy
        have hgu := guardTy
        obtain ⟨xk, xc⟩ := x
        obtain ⟨yk, yc⟩ := y
        dsimp only at x0 x1 y0 y1
        go_wp2
        go_quiet (fail)
        go_wp2
        all_goals first
          | (go_ret
             have hh : ¬ ((⟨xk, xc⟩ : Ty) = ⟨yk, yc⟩) := by simp only [Ty.mk.injEq]; grind
             exact ret_ok (bool_eq (decide_eq_false (eqTyR_no (k := k) (by rw [HX.out, HY.out]; exact hh))).symm) (bdrewN HL.out _))
          | (go_roundw
             case rel =>
               refine ⟨k + 1, by omega, by go_num, bdrewN HL.out _, Lib.hid fun i hi => ?_⟩
               by_cases hik : i < k
               · exact q1.out i hik
               · obtain rfl : i = k := by omega
                 rw [HX.out, HY.out, Ty.mk.injEq]
                 grind
             case measure => simp [intOf]; omega)
      · go_wp2
        go_ret
        exact ret_ok (bool_eq (decide_eq_true (eqTyR_ok HLn.out fun i hi => q1.out i (by omega))).symm) HL.out
  · have hb3 : ((a.length : Int) != b.length) = true := by simp; omega
    go_enter Tryz.func30, Tryz.ntmps30
    go_wp2
    go_ret
    exact ret_ok (bool_eq (decide_eq_false fun e => hlen (by rw [e])).symm) (by (repeat (first | exact Below.refl _ _ | assumption | refine bal ?_ _ | refine Below.drew ?_ | refine bdrewN ?_ _ | refine bthen ?_ (by assumption))))

set_option maxRecDepth 100000 in
set_option maxHeartbeats 4000000 in
theorem r6Above_any (m : Md) (h : Hd) (a b : Int) (w : World) (H : ModAt w h m) (ha : a < m.cl.length) (hb : 0 ≤ b) (hd : Desc m m.cl.length) : Calls Tryz.prog 71 #[.agg #[.slice h.co m.cl.length h.cc, .slice h.so m.st.length h.sc, .slice h.eo m.me.length h.ec, .int .i64 m.sel], .int .i64 a, .int .i64 b] w (Ret w (.bool (aboveV m (a.toNat + 1) a b))) := by
  obtain ⟨q, hq⟩ : ∃ q, q = aboveV m (a.toNat + 1) a b := ⟨_, rfl⟩
  rw [← hq]
  have HQ := Lib.hid hq
  clear hq
  have hbel := (Below.refl w.heap.size w).alloc (Nat.le_refl _) (.cells #[.slice h.co m.cl.length h.cc, .slice h.so m.st.length h.sc, .slice h.eo m.me.length h.ec, .int .i64 m.sel] 26)
  have HM1 := Lib.hid (H.old hbel)
  have HD := Lib.hid hd
  clear H hd
  obtain ⟨co, cc, so, sc, eo, ec, hc, he⟩ := h; dsimp only
  dsimp only at HM1 hbel
  go_enter Tryz.func71, Tryz.ntmps71
  go_upto_region 1 with fail
  go_loop [1] (fun x => ∃ (k : Int), x = .int .i64 k ∧ k ≤ a ∧ aboveV m (k.toNat + 1) k b = q) (fun x => ((intOf x) + 1).toNat)
  case atStart => exact ⟨a, rfl, by omega, HQ.out.symm⟩
  case round =>
    obtain ⟨k, rfl, hka, hkq⟩ := hrel
    have HK := Lib.hid hkq
    clear hkq
    by_cases hk0 : 0 ≤ k
    · have hk1 : k ≥ 0 := hk0
      obtain ⟨c, rfl⟩ : ∃ c : Nat, k = c := ⟨k.toNat, by omega⟩
      have hcl : (c : Int) < m.cl.length := by omega
      obtain ⟨ad, hco, e0, e1, e2, e3⟩ := HM1.out.cls (i := c) (by omega)
      dsimp only at hco
      subst hco
      clear e0 e2 e3
      have hs := HD.out c (by omega) (by omega)
      have hs' : m.sup c = (m.cl.getD c default).sup := rfl
      generalize (m.cl.getD c default).sup = s at e1 hs'
      have HS := Lib.hid hs'
      clear hs'
      rw [HS.out] at hs
      by_cases hcb : (c : Int) = b
      · subst hcb
        go_wp2
        go_ret
        refine ret_ok (bool_eq ?_) (by (repeat (first | exact Below.refl _ _ | assumption | refine bal ?_ _ | refine Below.drew ?_ | refine bdrewN ?_ _ | refine bthen ?_ (by assumption))))
        have h1 := HK.out
        rw [aboveV, if_neg (by omega)] at h1
        rw [← h1]; simp
      · have hcb2 : ((c : Int) == b) = false := by simp; omega
        go_wp2
        go_round
        case rel =>
          refine ⟨s, rfl, by omega, ?_⟩
          have h1 := HK.out
          rw [aboveV] at h1
          rw [← h1]
          by_cases hlt : b < (c : Int)
          · rw [if_pos hlt, HS.out]
            exact aboveV_fuel HD.out hb (by omega) (fun _ => by omega) (fun _ => by omega)
          · rw [if_neg hlt, aboveV_lt (by omega)]
            simp; omega
        case measure => simp [intOf]; omega
    · have hk1 : ¬ k ≥ 0 := hk0
      go_wp2
      go_ret
      refine ret_ok (bool_eq ?_) (by (repeat (first | exact Below.refl _ _ | assumption | refine bal ?_ _ | refine Below.drew ?_ | refine bdrewN ?_ _ | refine bthen ?_ (by assumption))))
      rw [← HK.out, aboveV_lt (by omega)]
theorem r6Fits_any (m : Md) (h : Hd) (t u : Ty) (w : World) (H : ModAt w h m) (ht : t.k = 2 → 0 ≤ t.c ∧ t.c < m.cl.length) (hu : u.k = 2 → 0 ≤ u.c) (hd : Desc m m.cl.length) : Calls Tryz.prog 47 #[.agg #[.slice h.co m.cl.length h.cc, .slice h.so m.st.length h.sc, .slice h.eo m.me.length h.ec, .int .i64 m.sel], .agg #[.int .i64 t.k, .int .i64 t.c], .agg #[.int .i64 u.k, .int .i64 u.c]] w (Ret w (.bool (fitsV m t u))) := by
  obtain ⟨tk, tc⟩ := t
  obtain ⟨uk, uc⟩ := u
  dsimp only at ht hu ⊢
  by_cases hb : tk = 2 ∧ uk = 2
  · obtain ⟨rfl, rfl⟩ := hb
    have hf : fitsV m ⟨2, tc⟩ ⟨2, uc⟩ = aboveV m (tc.toNat + 1) tc uc := by simp [fitsV]
    rw [hf]
    clear hf
    have hA := fun w' (hb' : Below w.heap.size w w') => r6Above_any m h tc uc w' (H.old hb') (ht rfl).2 (hu rfl) hd
    generalize aboveV m (tc.toNat + 1) tc uc = q at hA ⊢
    have HA := Lib.hid hA
    clear hA H ht hu hd
    go_enter Tryz.func47, Tryz.ntmps47
    go_wp2_with (go_at_call 71; refine (HA.out _ (by (repeat (first | exact Below.refl _ _ | assumption | refine bal ?_ _ | refine Below.drew ?_ | refine bdrewN ?_ _ | refine bthen ?_ (by assumption))))).mono ?_; rintro e w1 ⟨rfl, hb1⟩)
    go_ret
    exact ret_ok rfl (by (repeat (first | exact Below.refl _ _ | assumption | refine bal ?_ _ | refine Below.drew ?_ | refine bdrewN ?_ _ | refine bthen ?_ (by assumption))))
  · have hf : fitsV m ⟨tk, tc⟩ ⟨uk, uc⟩ = (decide (tk = uk) && decide (tc = uc)) := by unfold fitsV; rw [if_neg hb, ty_eq]
    rw [hf]
    have heq := eqlTy
    have hgu := guardTy
    clear hf H ht hu hd
    by_cases h1 : tk = 2
    · have h2 : (uk == 2) = false := by simp; omega
      have h3 : (tk == 2) = true := by simp [h1]
      have H1 := Lib.hid h1
      clear h1 hb
      go_enter Tryz.func47, Tryz.ntmps47
      go_wp2
      go_ret
      exact ret_ok rfl (by (repeat (first | exact Below.refl _ _ | assumption | refine bal ?_ _ | refine Below.drew ?_ | refine bdrewN ?_ _ | refine bthen ?_ (by assumption))))
    · have h3 : (tk == 2) = false := by simp; omega
      clear h1 hb
      go_enter Tryz.func47, Tryz.ntmps47
      go_wp2
      go_ret
      exact ret_ok rfl (by (repeat (first | exact Below.refl _ _ | assumption | refine bal ?_ _ | refine Below.drew ?_ | refine bdrewN ?_ _ | refine bthen ?_ (by assumption))))
set_option maxRecDepth 100000 in
set_option maxHeartbeats 2000000 in
theorem copied_any (W : World) (ao : Option Addr) (cap : Nat) (l : List Ty) (h : RowAt W ao cap l) (hl : l.length ≤ 1000000) :
    Calls Tryz.prog 35 #[.slice ao l.length cap] W (RetOwn 38 W l) := by
  have HH := Lib.hid h
  have HO := Lib.hid (World.ownsRow_made (e := 38) (size := 2) W #[] 0 (Nat.le_refl _) (by decide) rfl)
  clear h
  go_enter Tryz.func35, Tryz.ntmps35
  go_wp2_with (first
    | (at_builtin; refine wpList_append_sl rfl (.tmp 3) (.tmp 4) 23 rfl W.heap.size 38 2 16 elTyV (.slice (some ⟨W.heap.size, 0, none⟩) 0 0) 0 [] rfl HO.out ao l.length cap (flatR l) rfl (SlA.alloc (w := W) HH.out _) (flatR_oneC l) (by omega) (by unfold maxLen; omega) (by simp) ?_
       intro ao1 cap1 w1 hown hg
       simp only [Nat.zero_add, List.nil_append] at hown ⊢
       have hb := ((Below.refl W.heap.size W).alloc (Nat.le_refl _) (.cells #[] 38)).grown hg (by simp) (by intro k hk; simp [Value.ownBlock] at hk; omega)
       have HR := Lib.hid (And.intro hown hb)
       clear hown hg hb))
  go_ret
  exact ⟨⟨ao1, cap1, rfl, HR.out.1⟩, HR.out.2⟩

end Go.Proofs.YtkdamjpbnmbeoaaGreat
end

section
namespace Go.Proofs.YtkdamjpbnmbeoaaGreat
open Go.RowKit

/-- the pass's block -/
def Pk (w : World) (K : Nat) (h : Hd) (m : Md) (L S O : Value) : Prop := Blk w K #[.slice h.co m.cl.length h.cc, .slice h.so m.st.length h.sc, .slice h.eo m.me.length h.ec, .int .i64 m.sel, L, S, O] 66
theorem Pk.cells {w : World} {K : Nat} {h : Hd} {m : Md} {L S O : Value} (H : Pk w K h m L S O) : K < w.heap.size ∧ w.cell? ⟨K, 0, none⟩ = some (.slice h.co m.cl.length h.cc) ∧ w.cell? ⟨K, 1, none⟩ = some (.slice h.so m.st.length h.sc) ∧ w.cell? ⟨K, 2, none⟩ = some (.slice h.eo m.me.length h.ec) ∧ w.cell? ⟨K, 3, none⟩ = some (.int .i64 m.sel) ∧ w.cell? ⟨K, 4, none⟩ = some L :=
  ⟨Blk.lt H, Blk.cell H 0 rfl, Blk.cell H 1 rfl, Blk.cell H 2 rfl, Blk.cell H 3 rfl, Blk.cell H 4 rfl⟩
theorem cell_bel {w w' : World} (hb : Below w.heap.size w w') {p : Addr} {v : Value} (hc : w.cell? p = some v) : w'.cell? p = some v := (hb.cell (cell_lt hc)).trans hc
theorem blk4 {w : World} {K : Nat} {h : Hd} {m : Md} {t : TypeId} (H : Blk w K #[.slice h.co m.cl.length h.cc, .slice h.so m.st.length h.sc, .slice h.eo m.me.length h.ec, .int .i64 m.sel] t) : w.cell? ⟨K, 0, none⟩ = some (.slice h.co m.cl.length h.cc) ∧ w.cell? ⟨K, 1, none⟩ = some (.slice h.so m.st.length h.sc) ∧ w.cell? ⟨K, 2, none⟩ = some (.slice h.eo m.me.length h.ec) ∧ w.cell? ⟨K, 3, none⟩ = some (.int .i64 m.sel) :=
  ⟨H.cell 0 rfl, H.cell 1 rfl, H.cell 2 rfl, H.cell 3 rfl⟩
theorem blk2 {w : World} {K : Nat} {a b : Int} {t : TypeId} (H : Blk w K #[.int .i64 a, .int .i64 b] t) : w.cell? ⟨K, 0, none⟩ = some (.int .i64 a) ∧ w.cell? ⟨K, 1, none⟩ = some (.int .i64 b) := ⟨H.cell 0 rfl, H.cell 1 rfl⟩
/-- a type and whether all is fine -/
def RetP (W : World) (q : Option Ty) : Ending → World → Prop := fun e w' => ∃ t : Ty, e = .returned (.tuple #[.agg #[.int .i64 t.k, .int .i64 t.c], .bool q.isSome]) ∧ (∀ u, q = some u → t = u) ∧ Below W.heap.size W w'
theorem retP {W w' : World} {q : Option Ty} {x y : Int} {b : Bool} (hb : b = q.isSome) (ht : ∀ u, q = some u → (⟨x, y⟩ : Ty) = u) (h : Below W.heap.size W w') : RetP W q (.returned (.tuple #[.agg #[.int .i64 x, .int .i64 y], .bool b])) w' := ⟨⟨x, y⟩, by rw [hb], ht, h⟩
theorem cell_keep {w W1 w' : World} {rb : Nat} (hb : Below w.heap.size w W1) (hrb : w.heap.size ≤ rb) (hu : Upd rb rb W1 w') {p : Addr} {v : Value} (hc : w.cell? p = some v) : w'.cell? p = some v :=
  hu.cell ((hb.cell (cell_lt hc)).trans hc) (by have := cell_lt hc; omega) (by have := cell_lt hc; omega)
theorem integer_any (w : World) : Calls Tryz.prog 93 #[] w (Ret w (.agg #[.int .i64 1, .int .i64 0])) := by
  go_enter Tryz.func93, Tryz.ntmps93
  go_wp2
  exact bodyPost_ret (v := .agg #[.int .i64 1, .int .i64 0]) (by simp [results, Tryz.results93, go_sem]) rfl ⟨rfl, by (repeat (first | exact Below.refl _ _ | assumption | refine bal ?_ _ | refine Below.drew ?_ | refine bdrewN ?_ _ | refine bthen ?_ (by assumption)))⟩
theorem isSome_ite {c : Bool} {t : Ty} : c = (if c = true then some t else none).isSome := by cases c <;> rfl
theorem ite_eq_some {c : Bool} {t u : Ty} (h : (if c = true then some t else none) = some u) : t = u := by cases c <;> simp_all

end Go.Proofs.YtkdamjpbnmbeoaaGreat
end

section
namespace Go.Proofs.YtkdamjpbnmbeoaaGreat
open Go.RowKit
attribute [local go_sem] World.cell?_alloc_some

set_option maxRecDepth 100000 in
set_option maxHeartbeats 4000000 in
theorem rTargets_any (m : Md) (h : Hd) (s : Int) (w : World) (H : ModAt w h m) (hs : 0 ≤ s ∧ s < m.sel) (hn : m.cl.length ≤ 10) (hl : ∀ j, j < m.cl.length → ((m.cl.getD j default).m.length : Int) = m.sel) :
    Calls Tryz.prog 41 #[.agg #[.slice h.co m.cl.length h.cc, .slice h.so m.st.length h.sc, .slice h.eo m.me.length h.ec, .int .i64 m.sel], .int .i64 s] w (RetRow w (tgtV m s)) := by
  obtain ⟨hs0, hs1⟩ := hs
  obtain ⟨s, rfl⟩ : ∃ t : Nat, s = t := ⟨s.toNat, by omega⟩
  have hX := Blk.new w #[.slice h.co m.cl.length h.cc, .slice h.so m.st.length h.sc, .slice h.eo m.me.length h.ec, .int .i64 m.sel] 26
  have hb0 : Below w.heap.size w (w.alloc (.cells #[.slice h.co m.cl.length h.cc, .slice h.so m.st.length h.sc, .slice h.eo m.me.length h.ec, .int .i64 m.sel] 26)) := by (repeat (first | exact Below.refl _ _ | assumption | refine bal ?_ _ | refine Below.drew ?_ | refine bdrewN ?_ _ | refine bthen ?_ (by assumption)))
  have HX := Lib.hid hX
  have HM := Lib.hid (H.old hb0)
  have HL := Lib.hid hl
  have HB0 := Lib.hid hb0
  clear hX H hl hb0
  obtain ⟨co, cc, so, sc, eo, ec, hc, he⟩ := h
  dsimp only at HX HM HB0 ⊢
  go_enter Tryz.func41, Tryz.ntmps41
  go_upto_region 1 with fail
  generalize w.alloc _ = w0 at HX HM HB0 ⊢
  go_wp2_with fail
  go_loopw [5, 6] (fun o i wr => ∃ (k : Nat) (ao : Option Addr) (cap : Nat), k ≤ m.cl.length ∧ i = .int .i64 k ∧ o = .slice ao (tgtL m s k).length cap ∧ wr.ownsRow w0.heap.size 3 1 (.slice ao (tgtL m s k).length cap) (tgtL m s k).length ((tgtL m s k).map (Value.int .i64)) ∧ Below w0.heap.size w0 wr) (fun _ i _ => m.cl.length - (intOf i).toNat)
  case atStart => exact ⟨0, none, 0, by omega, rfl, rfl, World.ownsRow_nil _ _ _ _, Below.refl _ _⟩
  case round =>
    obtain ⟨k, ao, cap, hk, rfl, rfl, hown, hbl⟩ := hrel
    have r0 : wr.cell? ⟨w.heap.size, 0, none⟩ = some (.slice co m.cl.length cc) := (HX.out.old hbl).cell 0 rfl
    have rl := (HX.out.old hbl).lt
    have hlen := tgtL_len m s k
    by_cases hkl : k < m.cl.length
    · obtain ⟨ad, hco, c0, c1, c2, c3⟩ := (HM.out.old hbl).cls hkl
      obtain ⟨ad3, hmo, t0⟩ := row_int ((HM.out.old hbl).t k hkl) (i := s) (by have := HL.out k hkl; omega)
      have hst : s < (m.cl.getD k default).m.length := by have := HL.out k hkl; omega
      have hyes := tgtL_yes (m := m) (s := s) hkl
      have hno := tgtL_no (m := m) (s := s) hkl
      dsimp only at hco c2 c3 hmo
      subst hco
      rw [hmo] at c3
      have HMo := Lib.hid hmo
      clear hmo c0 c1 c2
      generalize (m.cl.getD k default).m.getD s 0 = n at t0 hyes hno
      generalize (m.cl.getD k default).m.length = tn at c3 hst
      generalize hzs : tgtL m s k = zs at hown hlen hyes hno ⊢
      have HZs := Lib.hid hzs
      clear hzs
      have hkl2 : (k : Int) < m.cl.length := by omega
      have hst2 : (s : Int) < tn := by omega
      have hwr : IntKind.i64.wrap ((k : Int) + 1) = k + 1 := IntWalk.i64_in _ (by omega)
      by_cases hn0 : 0 ≤ n
      · have hy := hyes hn0
        have hn1 : n ≥ 0 := hn0
        have HY := Lib.hid hy
        clear hyes hno hy
        go_wp2_with (at_builtin; refine wpList_append_sl rfl (.tmp 24) (.tmp 34) 51 rfl w0.heap.size 3 1 8 elIntV (.slice ao zs.length cap) zs.length (zs.map (Value.int .i64)) rfl (hown.alloc _) _ 1 1 [.int .i64 n] rfl (sla_blkV (Blk.new' #[.int .i64 n] 3 (by simp)) rfl) (by intro u hu; rw [List.mem_singleton.1 hu]; rfl) (by omega) (by unfold maxLen; omega) (by have := hbl.size; simp; omega) ?_; intro ao1 cap1 w10 hown9 hg9; have HO9 := Lib.hid hown9; have HB9 := Lib.hid (bgrown (bal hbl _) hg9 (fun j hj => (hown.lt j hj).1)); clear hown9 hg9)
        go_roundw
        case rel =>
          have h9 := HO9.out
          refine ⟨k + 1, ao1, cap1, by omega, by go_num, by rw [HY.out, List.length_append]; rfl, ?_, HB9.out⟩
          rw [HY.out, List.length_append, List.map_append]
          exact h9
        case measure => simp [intOf]; omega
      · have hy := hno hn0
        have hn1 : ¬ n ≥ 0 := hn0
        have HY := Lib.hid hy
        have HO := Lib.hid hown
        have HB := Lib.hid hbl
        clear hyes hno hy hown hbl
        go_wp2
        go_roundw
        case rel => exact ⟨k + 1, ao, cap, by omega, by go_num, by rw [HY.out], by rw [HY.out]; exact HO.out, HB.out⟩
        case measure => simp [intOf]; omega
    · obtain rfl : k = m.cl.length := by omega
      have hall := tgtL_all m s
      generalize tgtL m s m.cl.length = zs at hown hlen hall ⊢
      have HAll := Lib.hid hall
      have hr : RowAt wr ao cap zs := RowAt.of_own (by rw [flatR_int]; exact hown)
      have HR := Lib.hid hr
      have HB := Lib.hid hbl
      clear hall hown hbl hr
      go_wp2_with fail
      refine (rSort_any zs ao cap _ HR.out (by omega)).mono ?_
      rintro e1 w1 ⟨⟨ao1, cap1, rfl, hown1⟩, hb1⟩
      have HO1 := Lib.hid hown1
      have HB1 := Lib.hid hb1
      clear hown1 hb1
      go_wp2
      go_ret
      refine ⟨⟨ao1, cap1, by rw [HAll.out]; rfl, ?_⟩, ?_⟩
      · rw [HAll.out]
        exact RowAt.of_own (by rw [flatR_int]; exact HO1.out)
      · exact bthen HB0.out (bthen HB.out HB1.out)

end Go.Proofs.YtkdamjpbnmbeoaaGreat
end

section
namespace Go.Proofs.YtkdamjpbnmbeoaaGreat
open Go.RowKit
attribute [local go_sem] World.cell?_alloc_some

theorem insnV_nn {i : In3} (h : insnV false i = true) : (i.op = 14 ∨ i.op = 24 ∨ i.op = 25 ∨ i.op = 26 → 0 ≤ i.a) ∧ (i.op = 16 ∨ i.op = 12 → 0 ≤ i.b) := by
  obtain ⟨op, a, b⟩ := i
  simp only [insnV, Bool.and_eq_true] at h
  have h1 := h.1.1.2
  have h2 := h.1.2
  dsimp only at h1 h2 ⊢
  constructor
  · intro ho
    rcases ho with rfl | rfl | rfl | rfl
    all_goals (simp [opA, inR, inI] at h1; exact h1.1)
  · intro ho
    rcases ho with rfl | rfl
    all_goals (simp [opB, inR, inI] at h2; exact h2.1)
theorem all_lastV {l : List Int} (h : Asc l) (k : Int) : (l.all fun t => decide (t < k)) = (decide (l.length = 0) || decide (l.getD (l.length - 1) 0 < k)) := by
  rcases List.eq_nil_or_concat l with rfl | ⟨r, x, rfl⟩
  · rfl
  · rw [List.concat_eq_append] at h ⊢
    have h1 := (List.pairwise_append.1 h).2.2
    have e : (r ++ [x]).getD ((r ++ [x]).length - 1) 0 = x := by simp
    rw [e, List.all_append]
    simp only [List.all_cons, List.all_nil, Bool.and_true, List.length_append, List.length_cons, List.length_nil]
    by_cases hx : x < k
    · have : (r.all fun t => decide (t < k)) = true := by
        rw [List.all_eq_true]
        intro t ht
        have := h1 t ht x (by simp)
        simp; omega
      rw [this]; simp [hx]
    · simp [hx]

set_option maxRecDepth 100000 in
set_option maxHeartbeats 4000000 in
theorem rOperand_any (m : Md) (h : Hd) (k : Nat) (i : In3) (w : World) (H : ModAt w h m) (hk : k < m.me.length) (hn : m.cl.length ≤ 10) (hl : ∀ j, j < m.cl.length → ((m.cl.getD j default).m.length : Int) = m.sel) (hv : insnV false i = true) (ho : ∀ j : Nat, j < k → -1 ≤ m.own j) :
    Calls Tryz.prog 67 #[.agg #[.slice h.co m.cl.length h.cc, .slice h.so m.st.length h.sc, .slice h.eo m.me.length h.ec, .int .i64 m.sel], .int .i64 k, .agg #[.int .i64 i.op, .int .i64 i.a, .int .i64 i.b]] w (Ret w (.bool (opdV m k i))) := by
  obtain ⟨ha, hb⟩ := insnV_nn hv
  obtain ⟨op, a, b⟩ := i
  dsimp only at ha hb ⊢
  have HM := Lib.hid H
  have HL := Lib.hid hl
  have HO := Lib.hid ho
  have hbz := H.bz
  clear H hl hv ho
  by_cases h26 : op = 26
  · subst h26
    have ha := ha (.inr (.inr (.inr rfl)))
    have hq : opdV m k ⟨26, a, b⟩ = (decide (a < m.sel) && (tgtV m a).all fun t => decide (t < k)) := rfl
    rw [hq, all_lastV (show Asc (tgtV m a) from sortV_asc _)]
    by_cases hs : a < m.sel
    · have hs2 : ¬ a ≥ m.sel := by omega
      have htg := fun w1 (hb : Below w.heap.size w w1) => rTargets_any m h a w1 (HM.out.old hb) ⟨ha, hs⟩ hn HL.out
      have hlen := tgtV_len m a
      generalize tgtV m a = l at htg hlen ⊢
      have HT := Lib.hid htg
      clear htg hq hb
      go_enter Tryz.func67, Tryz.ntmps67
      go_wp2_with fail
      refine (HT.out _ (by (repeat (first | exact Below.refl _ _ | assumption | refine bal ?_ _ | refine Below.drew ?_ | refine bdrewN ?_ _ | refine bthen ?_ (by assumption))))).mono ?_
      rintro e1 w1 ⟨⟨ao, cap, rfl, hr⟩, hb1⟩
      have hbw := bthen (show Below w.heap.size w _ by (repeat (first | exact Below.refl _ _ | assumption | refine bal ?_ _ | refine Below.drew ?_ | refine bdrewN ?_ _ | refine bthen ?_ (by assumption)))) hb1
      by_cases hl0 : l.length = 0
      · have hl1 : ((l.length : Int) == 0) = true := by simp [hl0]
        go_wp2
        go_ret
        exact ret_ok (bool_eq (by simp [hl0, hs])) hbw
      · obtain ⟨ad, rfl, t0⟩ := row_int hr (i := l.length - 1) (by omega)
        have hl1 : ((l.length : Int) == 0) = false := by simp [hl0]
        have hw1 : IntKind.i64.wrap ((l.length : Int) - 1) = ((l.length - 1 : Nat) : Int) := by rw [show ((l.length : Int) - 1) = ((l.length - 1 : Nat) : Int) by omega]; exact IntWalk.i64_in _ (by omega)
        have hlt : ((l.length - 1 : Nat) : Int) < l.length := by omega
        generalize htq : l.getD (l.length - 1) 0 = t at t0
        have HTq := Lib.hid htq
        clear htq
        generalize hnn : l.length - 1 = n1 at t0 hw1 hlt
        have HN := Lib.hid hnn
        have HL0 := Lib.hid hl0
        clear hnn hl0 hr
        go_wp2
        go_ret
        exact ret_ok (bool_eq (by rw [HTq.out, decide_eq_true hs, decide_eq_false HL0.out]; rfl)) hbw
    · have hs2 : a ≥ m.sel := by omega
      go_enter Tryz.func67, Tryz.ntmps67
      go_wp2_with fail
      go_ret
      exact ret_ok (bool_eq (by rw [decide_eq_false (show ¬ a < m.sel by omega)]; rfl)) (by (repeat (first | exact Below.refl _ _ | assumption | refine bal ?_ _ | refine Below.drew ?_ | refine bdrewN ?_ _ | refine bthen ?_ (by assumption))))
  · by_cases h25 : op = 25
    · subst h25
      have ha := ha (.inr (.inr (.inl rfl)))
      have hq : opdV m k ⟨25, a, b⟩ = (decide (a < k) && decide (m.own a < 0)) := rfl
      rw [hq]
      clear hq hb
      by_cases hs : a < k
      · obtain ⟨c, rfl⟩ : ∃ c : Nat, a = c := ⟨a.toNat, by omega⟩
        obtain ⟨ad, heo, -, m1, -, -, -, -, -⟩ := HM.out.mth (i := c) (by omega)
        have hown : m.own c = (m.me.getD c default).c := rfl
        have how := HO.out c (by omega)
        generalize (m.me.getD c default).c = own at m1 hown
        rw [hown] at how
        have HOw := Lib.hid hown
        clear hown
        obtain ⟨co, cc, so, sc, eo, ec, hc, he⟩ := h
        dsimp only at *
        subst heo
        have hcm : (c : Int) < m.me.length := by omega
        by_cases hm1 : own = -1
        · have hm2 : (own == -1) = true := by simp [hm1]
          have hm3 : decide (m.own c < 0) = true := by rw [HOw.out]; simp; omega
          have HM3 := Lib.hid hm3
          clear hm1 hm3
          go_enter Tryz.func67, Tryz.ntmps67
          go_wp2
          go_ret
          exact ret_ok (bool_eq (by rw [HM3.out]; try simp [hs])) (by (repeat (first | exact Below.refl _ _ | assumption | refine bal ?_ _ | refine Below.drew ?_ | refine bdrewN ?_ _ | refine bthen ?_ (by assumption))))
        · have hm2 : (own == -1) = false := by simp [hm1]
          have hm3 : decide (m.own c < 0) = false := by rw [HOw.out]; simp; omega
          have HM3 := Lib.hid hm3
          clear hm1 hm3
          go_enter Tryz.func67, Tryz.ntmps67
          go_wp2
          go_ret
          exact ret_ok (bool_eq (by rw [HM3.out]; try simp)) (by (repeat (first | exact Below.refl _ _ | assumption | refine bal ?_ _ | refine Below.drew ?_ | refine bdrewN ?_ _ | refine bthen ?_ (by assumption))))
      · go_enter Tryz.func67, Tryz.ntmps67
        go_wp2
        go_ret
        exact ret_ok (bool_eq (by rw [decide_eq_false (show ¬ a < (k : Int) by omega)]; rfl)) (by (repeat (first | exact Below.refl _ _ | assumption | refine bal ?_ _ | refine Below.drew ?_ | refine bdrewN ?_ _ | refine bthen ?_ (by assumption))))
    · have n26 : (op == 26) = false := by simp [h26]
      have n25 : (op == 25) = false := by simp [h25]
      have HA := Lib.hid ha
      have HB := Lib.hid hb
      clear ha hb
      go_enter Tryz.func67, Tryz.ntmps67
      go_wp2
      all_goals
        go_ret
        exact ret_ok (bool_eq (by have := HA.out; have := HB.out; grind [opdV])) (by (repeat (first | exact Below.refl _ _ | assumption | refine bal ?_ _ | refine Below.drew ?_ | refine bdrewN ?_ _ | refine bthen ?_ (by assumption))))

end Go.Proofs.YtkdamjpbnmbeoaaGreat
end

section
namespace Go.Proofs.YtkdamjpbnmbeoaaGreat
open Go.RowKit
attribute [local go_sem] World.cell?_alloc_some

set_option maxRecDepth 100000 in
set_option maxHeartbeats 8000000 in
theorem rMethod_any (m : Md) (h : Hd) (k : Nat) (w : World) (H : ModAt w h m) (hk : k < m.me.length) (hn : m.cl.length ≤ 10) (hl : ∀ j, j < m.cl.length → ((m.cl.getD j default).m.length : Int) = m.sel) (ho : ∀ j : Nat, j < k → -1 ≤ m.own j) :
    Calls Tryz.prog 40 #[.agg #[.slice h.co m.cl.length h.cc, .slice h.so m.st.length h.sc, .slice h.eo m.me.length h.ec, .int .i64 m.sel], .int .i64 k] w (Ret w (.bool (mthV m k))) := by
  have hX0 : Blk _ w.heap.size #[.slice h.co m.cl.length h.cc, .slice h.so m.st.length h.sc, .slice h.eo m.me.length h.ec, .int .i64 m.sel] 26 := Blk.new w #[.slice h.co m.cl.length h.cc, .slice h.so m.st.length h.sc, .slice h.eo m.me.length h.ec, .int .i64 m.sel] 26
  have hb0 : Below w.heap.size w (w.alloc (.cells #[.slice h.co m.cl.length h.cc, .slice h.so m.st.length h.sc, .slice h.eo m.me.length h.ec, .int .i64 m.sel] 26)) := by (repeat (first | exact Below.refl _ _ | assumption | refine bal ?_ _ | refine Below.drew ?_ | refine bdrewN ?_ _ | refine bthen ?_ (by assumption)))
  obtain ⟨ad, heo, c0, c1, c2, c3, c4, c5, c6⟩ := (H.old hb0).mth hk
  have hmb := H.bm k hk
  have hpp := H.p k hk
  have hpl := H.l k hk
  have hpk := H.k k hk
  generalize hx : m.me.getD k default = x at c0 c1 c2 c3 c4 c5 c6 hmb hpp hpl hpk
  obtain ⟨nm, c, pl, ll, ⟨rk, rc⟩, kl⟩ := x
  generalize hey : h.e k = y at c0 c1 c2 c3 c4 c5 c6 hmb hpp hpl hpk
  obtain ⟨po, pc, lo, lc, ko, kc⟩ := y
  dsimp only at c0 c1 c2 c3 c4 c5 c6 hmb hpp hpl hpk
  have hq : mthV m k = (decide (-1 ≤ c) && decide (c < m.cl.length) && decide (pl.length ≤ 4) && tysV m.cl.length pl && decide ((ll.length : Int) ≤ 10 - pl.length - (if 0 ≤ c then 1 else 0)) && tysV m.cl.length ll && isTy m.cl.length ⟨rk, rc⟩ 0 && decide (codeE false kl = 0) && kl.all (opdV m k)) := by simp only [mthV, hx]
  have hY0 : Blk ((w.alloc (.cells #[.slice h.co m.cl.length h.cc, .slice h.so m.st.length h.sc, .slice h.eo m.me.length h.ec, .int .i64 m.sel] 26)).alloc (.cells #[.string nm, .int .i64 c, .slice po pl.length pc, .slice lo ll.length lc, .int .i64 rk, .int .i64 rc, .slice ko kl.length kc] 40)) (w.heap.size + 1) #[.string nm, .int .i64 c, .slice po pl.length pc, .slice lo ll.length lc, .int .i64 rk, .int .i64 rc, .slice ko kl.length kc] 40 := Blk.new' (w := w.alloc (.cells #[.slice h.co m.cl.length h.cc, .slice h.so m.st.length h.sc, .slice h.eo m.me.length h.ec, .int .i64 m.sel] 26)) _ _ (by simp)
  have hX := hX0.alloc (.cells #[.string nm, .int .i64 c, .slice po pl.length pc, .slice lo ll.length lc, .int .i64 rk, .int .i64 rc, .slice ko kl.length kc] 40)
  have hb3 : Below w.heap.size w ((w.alloc (.cells #[.slice h.co m.cl.length h.cc, .slice h.so m.st.length h.sc, .slice h.eo m.me.length h.ec, .int .i64 m.sel] 26)).alloc (.cells #[.string nm, .int .i64 c, .slice po pl.length pc, .slice lo ll.length lc, .int .i64 rk, .int .i64 rc, .slice ko kl.length kc] 40)) := by (repeat (first | exact Below.refl _ _ | assumption | refine bal ?_ _ | refine Below.drew ?_ | refine bdrewN ?_ _ | refine bthen ?_ (by assumption)))
  have HQ := Lib.hid hq
  have HX := Lib.hid hX
  have HY := Lib.hid hY0
  have HM := Lib.hid H
  have HL := Lib.hid hl
  have HO := Lib.hid ho
  have HPP := Lib.hid hpp
  have HPL := Lib.hid hpl
  have HPK := Lib.hid hpk
  have HB3 := Lib.hid hb3
  clear hX hY0 H hl ho hpl hpk hpp hb3 hq hx hey hX0 hb0
  obtain ⟨co, cc, so, sc, eo, ec, hc, he⟩ := h
  dsimp only at *
  subst heo
  have hk2 : (k : Int) < m.me.length := by omega
  by_cases h1 : -1 ≤ c ∧ c < m.cl.length ∧ pl.length ≤ 4 ∧ ((ll.length : Int) ≤ 10 - pl.length - (if 0 ≤ c then 1 else 0))
  · obtain ⟨h1, h2, h3, h4⟩ := h1
    have g1 : ¬ c < -1 := by omega
    have g2 : ¬ c ≥ m.cl.length := by omega
    have g3 : ¬ (pl.length : Int) > 4 := by omega
    have hpt := fun w' (hb : Below w.heap.size w w') => rTypes_any m ⟨co, cc, so, sc, some ad, ec, hc, he⟩ pl po pc w' (HPP.out.old hb) (by omega)
    have hlt := fun w' (hb : Below w.heap.size w w') => rTypes_any m ⟨co, cc, so, sc, some ad, ec, hc, he⟩ ll lo lc w' (HPL.out.old hb) (by split at h4 <;> omega)
    have hrt := fun w' => rIsType_any m ⟨co, cc, so, sc, some ad, ec, hc, he⟩ ⟨rk, rc⟩ 0 w' (by omega)
    generalize hq1 : tysV m.cl.length pl = q1 at hpt
    generalize hq2 : tysV m.cl.length ll = q2 at hlt
    generalize hq3 : isTy m.cl.length ⟨rk, rc⟩ 0 = q3 at hrt
    have HQ1 := Lib.hid hq1
    have HQ2 := Lib.hid hq2
    have HQ3 := Lib.hid hq3
    have HPT := Lib.hid hpt
    have HLT := Lib.hid hlt
    have HRT := Lib.hid hrt
    have H4 := Lib.hid h4
    have HR : ∀ w' : World, q1 = false ∨ q2 = false ∨ q3 = false → Below w.heap.size w w' → Ret w (.bool (mthV m k)) (.returned (.bool false)) w' := fun w' hf hb => ret_ok (bool_eq (by rw [HQ.out, HQ1.out, HQ2.out, HQ3.out]; rcases hf with rfl | rfl | rfl <;> simp)) hb
    have HRf := Lib.hid HR
    clear hq1 hq2 hq3 hpt hlt hrt HR
    by_cases hc0 : 0 ≤ c
    all_goals
      have hc1 : (pl.length : Int) + ll.length + 1 ≤ 11 := by have := H4.out; split at this <;> omega
      have hc2 : ¬ (pl.length : Int) + ll.length > 10 := by have := H4.out; split at this <;> omega
      first
        | have hc3 : ¬ (pl.length : Int) + ll.length + 1 > 10 := by (have := H4.out; rw [if_pos hc0] at this; omega)
        | have hc3 : ¬ c ≥ 0 := by omega
      clear h4
      go_enter Tryz.func40, Tryz.ntmps40
      go_wp2_with fail
      refine (HPT.out _ HB3.out).mono ?_
      rintro e1 w1 ⟨rfl, hb1⟩
      clear c0 c1 c2 c3 c4 c5 c6
      have HB1 := Lib.hid (bthen HB3.out hb1)
      have Hb1 := Lib.hid hb1
      have r0 : w1.cell? ⟨w.heap.size, 0, none⟩ = some (.slice co m.cl.length cc) := (HX.out.old hb1).cell 0 rfl
      have r1 : w1.cell? ⟨w.heap.size, 1, none⟩ = some (.slice so m.st.length sc) := (HX.out.old hb1).cell 1 rfl
      have r2 : w1.cell? ⟨w.heap.size, 2, none⟩ = some (.slice (some ad) m.me.length ec) := (HX.out.old hb1).cell 2 rfl
      have r3 : w1.cell? ⟨w.heap.size, 3, none⟩ = some (.int .i64 m.sel) := (HX.out.old hb1).cell 3 rfl
      have rl := (HX.out.old hb1).lt
      have x3 : w1.cell? ⟨w.heap.size + 1, 3, none⟩ = some (.slice lo ll.length lc) := (HY.out.old hb1).cell 3 rfl
      clear hb1
      rcases q1 with _ | _
      · go_wp2
        go_ret
        exact HRf.out _ (by simp) HB1.out
      go_wp2_with fail
      refine (HLT.out _ HB1.out).mono ?_
      rintro e2 w2 ⟨rfl, hb2⟩
      have HB2 := Lib.hid (bthen HB1.out hb2)
      have Hb2 := Lib.hid (bthen Hb1.out hb2)
      have r0 := bcellV hb2 r0
      have r1 := bcellV hb2 r1
      have r2 := bcellV hb2 r2
      have r3 := bcellV hb2 r3
      have x4 : w2.cell? ⟨w.heap.size + 1, 4, none⟩ = some (.int .i64 rk) := (HY.out.old Hb2.out).cell 4 rfl
      have x5 : w2.cell? ⟨w.heap.size + 1, 5, none⟩ = some (.int .i64 rc) := (HY.out.old Hb2.out).cell 5 rfl
      clear hb2 x3
      rcases q2 with _ | _
      · go_wp2
        go_ret
        exact HRf.out _ (by simp) HB2.out
      go_wp2_with fail
      refine (HRT.out _).mono ?_
      rintro e3 w3 ⟨rfl, hb3⟩
      have HB3' := Lib.hid (bthen HB2.out hb3)
      have Hb3 := Lib.hid (bthen Hb2.out hb3)
      have x6 : w3.cell? ⟨w.heap.size + 1, 6, none⟩ = some (.slice ko kl.length kc) := (HY.out.old Hb3.out).cell 6 rfl
      clear hb3 x4 x5 r0 r1 r2 r3 rl
      rcases q3 with _ | _
      · go_wp2
        go_ret
        exact HRf.out _ (by simp) HB3'.out
      go_wp2_with fail
      refine (rCheck3_any kl ko kc false _ (HPK.out.old HB3'.out)).mono ?_
      rintro e4 w4 ⟨rfl, hb4⟩
      have HB4 := Lib.hid (bthen HB3'.out hb4)
      have Hb4 := Lib.hid (bthen Hb3.out hb4)
      clear hb4 x6
      by_cases hc4 : codeE false kl = 0
      · obtain ⟨hk120, hins, -⟩ := codeE_all hc4
        have hc40 : (codeE false kl != 0) = false := by simp [hc4]
        have HE4 := Lib.hid hc4
        have HI := Lib.hid hins
        clear hins hc4
        have hmq : mthV m k = kl.all (opdV m k) := by
          rw [HQ.out, HQ1.out, HQ2.out, HQ3.out, HE4.out, decide_eq_true H4.out, decide_eq_true h1, decide_eq_true h2, decide_eq_true h3]
          simp
        have HMq := Lib.hid hmq
        clear hmq
        go_wp2_with fail
        go_loopw [7] (fun i wr => ∃ j : Nat, j ≤ kl.length ∧ i = .int .i64 j ∧ Below w4.heap.size w4 wr ∧ Hid (∀ i, i < j → opdV m k (kl.getD i default) = true)) (fun i _ => kl.length - (intOf i).toNat)
        case atStart => exact ⟨0, by omega, rfl, Below.refl _ _, Lib.hid (by omega)⟩
        case round =>
          obtain ⟨j, hj, rfl, hbl, q1⟩ := hrel
          have HBl := Lib.hid hbl
          have HBr := Lib.hid (bthen HB4.out hbl)
          have Hbr := Lib.hid (bthen Hb4.out hbl)
          clear hbl
          have x6 : wr.cell? ⟨w.heap.size + 1, 6, none⟩ = some (.slice ko kl.length kc) := (HY.out.old Hbr.out).cell 6 rfl
          by_cases hjl : j < kl.length
          · obtain ⟨ak, rfl, e0, e1, e2⟩ := row_in (HPK.out.old HBr.out) hjl
            have r0 : wr.cell? ⟨w.heap.size, 0, none⟩ = some (.slice co m.cl.length cc) := (HX.out.old Hbr.out).cell 0 rfl
            have r1 : wr.cell? ⟨w.heap.size, 1, none⟩ = some (.slice so m.st.length sc) := (HX.out.old Hbr.out).cell 1 rfl
            have r2 : wr.cell? ⟨w.heap.size, 2, none⟩ = some (.slice (some ad) m.me.length ec) := (HX.out.old Hbr.out).cell 2 rfl
            have r3 : wr.cell? ⟨w.heap.size, 3, none⟩ = some (.int .i64 m.sel) := (HX.out.old Hbr.out).cell 3 rfl
            have hjl2 : (j : Int) < kl.length := by omega
            have hwr : IntKind.i64.wrap ((j : Int) + 1) = j + 1 := IntWalk.i64_in _ (by omega)
            have hop := fun w' hb => rOperand_any m ⟨co, cc, so, sc, some ad, ec, hc, he⟩ k (kl.getD j default) w' (HM.out.old hb) hk hn HL.out (HI.out j hjl) HO.out
            generalize hins : kl.getD j default = ins at e0 e1 e2 hop
            generalize hqo : opdV m k ins = qo at hop
            have HIns := Lib.hid hins
            have HQo := Lib.hid hqo
            have HOp := Lib.hid hop
            clear hins hqo hop
            go_upto_region 12 with fail
            refine wp_mixO (fun w' => w'.cell? ⟨w.heap.size, 0, none⟩ = some (.slice co m.cl.length cc) ∧ w'.cell? ⟨w.heap.size, 1, none⟩ = some (.slice so m.st.length sc) ∧ w'.cell? ⟨w.heap.size, 2, none⟩ = some (.slice (some ad) m.me.length ec) ∧ w'.cell? ⟨w.heap.size, 3, none⟩ = some (.int .i64 m.sel) ∧ w'.cell? ⟨w.heap.size + 1, 6, none⟩ = some (.slice (some ak) kl.length kc) ∧ w'.cell? (ak.add (j * 3)) = some (.int .i64 ins.op) ∧ w'.cell? ⟨(ak.add (j * 3)).block, (ak.add (j * 3)).off + 1, none⟩ = some (.int .i64 ins.a) ∧ w'.cell? ⟨(ak.add (j * 3)).block, (ak.add (j * 3)).off + 2, none⟩ = some (.int .i64 ins.b)) (.plain 0 (.plain 1 (.plain 2 (.plain 3 (.plain 4 (.plain 5 (.plain 6 (.one 7 (.plain 8 .done))))))))) (by kernel_rfl) (by kernel_rfl) (by intro c a d v w h; cases d <;> exact h) ⟨r0, r1, r2, r3, x6, e0, e1, e2⟩ ?_
            repeat (refine wpMixO_plain ?_; simp only [opAt, List.getD_cons_zero, List.getD_cons_succ]; (first | (apply Exists.intro; refine ⟨Or.inl ⟨by rfl, ?_⟩, ?_⟩; focus (intro w hSw; (try dsimp only at hSw); go_simp; (try with_reducible rfl); done)) | (refine ⟨_, Or.inr ⟨by rfl, rfl⟩, ?_⟩)); (try simp only [Act.put, List.setIfInBounds_toArray, List.set_cons_zero, List.set_cons_succ]))
            refine wpMixO_one ?_
            refine wpOp_one _ (by rfl) (by rfl) fun K hK => ?_
            go_simp
            refine (HOp.out _ HBr.out.drew).mono ?_
            rintro e5 w5 ⟨rfl, hb5'⟩
            have hb5 : Below wr.heap.size wr w5 := bthen (Below.refl _ _).drew hb5'
            go_simp
            refine hK _ _ ⟨⟨bcellV hb5 r0, bcellV hb5 r1, bcellV hb5 r2, bcellV hb5 r3, bcellV hb5 x6, bcellV hb5 e0, bcellV hb5 e1, bcellV hb5 e2⟩, ?_⟩
            clear hK K
            repeat (refine wpMixO_plain ?_; simp only [opAt, List.getD_cons_zero, List.getD_cons_succ]; (first | (apply Exists.intro; refine ⟨Or.inl ⟨by rfl, ?_⟩, ?_⟩; focus (intro w hSw; (try dsimp only at hSw); go_simp; (try with_reducible rfl); done)) | (refine ⟨_, Or.inr ⟨by rfl, rfl⟩, ?_⟩)); (try simp only [Act.put, List.setIfInBounds_toArray, List.set_cons_zero, List.set_cons_succ]))
            refine wpMixO_done ?_
            have HB5 := Lib.hid (bthen HBr.out hb5)
            have HB5l := Lib.hid (bthen HBl.out hb5)
            clear hb5 hb5' r0 r1 r2 r3 x6 e0 e1 e2
            rcases qo with _ | _
            · go_wp2
              go_ret
              refine ret_ok (bool_eq ?_) HB5.out
              rw [HMq.out]
              exact (List.all_eq_false.2 ⟨ins, by rw [← HIns.out, List.getD_eq_getElem?_getD, List.getElem?_eq_getElem hjl]; exact List.getElem_mem hjl, by rw [HQo.out]; decide⟩).symm
            · go_wp2
              go_roundw
              case rel =>
                refine ⟨j + 1, by omega, by go_num, HB5l.out, Lib.hid fun i hi => ?_⟩
                by_cases hij : i < j
                · exact q1.out i hij
                · obtain rfl : i = j := by omega
                  rw [HIns.out]; exact HQo.out
              case measure => simp [intOf]; omega
          · go_wp2
            go_ret
            refine ret_ok (bool_eq ?_) HBr.out
            rw [HMq.out]
            refine (List.all_eq_true.2 fun x hx => ?_).symm
            obtain ⟨i, hi, rfl⟩ := List.getElem_of_mem hx
            have := q1.out i (by omega)
            rwa [List.getD_eq_getElem?_getD, List.getElem?_eq_getElem hi] at this
      · have hc40 : (codeE false kl != 0) = true := by simp [hc4]
        have HE4 := Lib.hid hc4
        clear hc4
        go_wp2
        go_ret
        exact ret_ok (bool_eq (by rw [HQ.out, decide_eq_false HE4.out]; simp)) HB4.out
  · have hno : mthV m k = false := by rw [HQ.out]; grind
    have HNo := Lib.hid hno
    clear hno
    by_cases g1 : c < -1
    · by_cases hc0 : 0 ≤ c
      · omega
      · have hc3 : ¬ c ≥ 0 := by omega
        go_enter Tryz.func40, Tryz.ntmps40
        go_wp2
        go_ret
        exact ret_ok (bool_eq HNo.out.symm) HB3.out
    by_cases g2 : c ≥ m.cl.length
    · have hc3 : c ≥ 0 := by omega
      go_enter Tryz.func40, Tryz.ntmps40
      go_wp2
      go_ret
      exact ret_ok (bool_eq HNo.out.symm) HB3.out
    by_cases g3 : (pl.length : Int) > 4
    · by_cases hc3 : c ≥ 0
      all_goals
        go_enter Tryz.func40, Tryz.ntmps40
        go_wp2
        go_ret
        exact ret_ok (bool_eq HNo.out.symm) HB3.out
    by_cases hc3 : c ≥ 0
    · rw [if_pos hc3] at h1
      have g4 : (pl.length : Int) + ll.length + 1 > 10 := by omega
      go_enter Tryz.func40, Tryz.ntmps40
      go_wp2
      go_ret
      exact ret_ok (bool_eq HNo.out.symm) HB3.out
    · rw [if_neg hc3] at h1
      have g4 : (pl.length : Int) + ll.length > 10 := by omega
      go_enter Tryz.func40, Tryz.ntmps40
      go_wp2
      go_ret
      exact ret_ok (bool_eq HNo.out.symm) HB3.out

end Go.Proofs.YtkdamjpbnmbeoaaGreat
end
