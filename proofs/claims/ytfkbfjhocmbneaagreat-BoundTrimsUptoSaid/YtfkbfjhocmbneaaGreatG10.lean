/- Joined texts. The first: verify: method. -/
import Derived.Test.YtfkbfjhocmbneaaGreatG9
import Derived.Test.YtfkbfjhocmbneaaGreatG5
set_option linter.all false
set_option linter.unusedVariables false
set_option linter.unusedSimpArgs false
set_option maxRecDepth 100000
set_option maxHeartbeats 10000000
namespace Go.Proofs.YtfkbfjhocmbneaaGreat
theorem k2{p:Prop}(h:p:=by
 have hwf2:=HWf.out
 rw [HDr.out] at hwf2
 have hpv2:=HPv.out
 rw [HDr.out] at hpv2
 rcases HSe.out with ⟨h0,sso2,ssc2,oo2,oc2,bs2,hst5⟩|⟨h0,S5,O5,hc5⟩
 ·have y7:=hst5.ck.cells.2.2.2.2.2.2.2.2
  have hrd:Rd w w5 K h m kk lo lc ls (k+1) ao2 cap2 (rows.length+1):=⟨⟨_,acc++[s.stk],_,sso2,ssc2,oo2,oc2,bs2,hst5,wf_step HHm.out HLt.out hk ⟨hop0,hop36⟩ HOpd.out hwf2 h0,by simp,StOwn.step HSt4.out HS4.out HU5.out,by rw [hpv2,passF_cons_ok h0,compP_comp]⟩⟩
  have HRd5:=Lib.hid hrd
  have HX5:=Lib.hid (Blk.step HSt4.out HXr4.out (by decide) (by decide) HU5.out)
  clear hst5 hwf2 hpv2 hrd h0
  go_wp2_with fail
  go_roundw
  case rel=>exact ⟨k+1,ao2,cap2,rows.length+1,by omega,by go_num,rfl,by rw [HNr.out],HRd5,Lib.hid (Below.refl _ _),HX5⟩
  case measure=>simp [intOf];omega
 ·have y7:=hc5.cells.2.2.2.2.2.2.2.2
  obtain ⟨er,her⟩:∃ e,e=(stepV m ls ⟨op,ia,ib⟩ s).1:=⟨_,rfl⟩
  have hpe:passV m kk=([],k,er):=by rw [hpv2,passF_cons_no h0,←her];exact compP_no (by rw [her];exact h0)
  rw [←her] at y7 h0
  have hn0:(er == 0)=false:=by simpa using h0
  have HBe:=Lib.hid (St.upper HSt4.out HU5.out)
  have HPe:=Lib.hid hpe
  clear hc5 hwf2 hpv2 hpe her h0
  go_wp2_with fail
  refine rO (fun w':World=>w'.cell? ⟨K,7,none⟩=some (.int .i64 er)) (oL [0,1,2,3,4,5,6,7]) y7 ?_
  repeat refine pO ?_
  refine wpMixO_done ?_
  go_wp2
  go_ret3
  rw [HPe.out]
  exact RetM.no w HBe.out.drew k er):p:=h
theorem k7{p:Prop}(h:p:=by
 clear hsn hrk
 as_aux_lemma=>
 go_upto_region 21 with (first
  | (go_at_call 127;refine (HClo.out _ (Below.refl _ _)).mono ?_;rintro r w2 ⟨⟨to',tc,rfl,hown2⟩,hb2⟩;have HO2:=Lib.hid hown2;have HB3':=Lib.hid (show Below wr.heap.size wr (w2.alloc (.cells #[.slice to' s.stk.length tc] 23)) from bal hb2 _);have HSo3:=Lib.hid (HSo.out.old HB3'.out);have HT3:=Lib.hid (TyAt.alloc' (TyAt.own HO2.out) (.cells #[.slice to' s.stk.length tc] 23));have HX3':=Lib.hid (sla_blkV (n:=1) (size:=1) (Blk.new w2 #[.slice to' s.stk.length tc] 23) rfl);have hzz:=HB3'.out.size;have hzw:=HBr.out.size;clear hown2 hb2)
  | (at_builtin;refine wpList_wp rfl ?_;refine wp_append_slx (.tmp 79) (.tmp 85) 122 rfl w.heap.size 23 1 24 elVs _ rows.length _ rfl HSo3.out.own _ 1 1 [.slice to' s.stk.length tc] rfl HX3'.out (by intro u hu;rw [List.mem_singleton.1 hu];rfl) (by have:=HNr.out;omega) (by have:=HNr.out;unfold maxLen;omega) (by omega) ?_;intro ao2 cap2 w4 hown4 hg4;have HS4:=Lib.hid (HSo3.out.snoc HT3.out hown4 hg4);have HSt4:=Lib.hid (St.grow_st (HSt.out.old HB3'.out) HSo3.out hg4);have HXr4:=Lib.hid (Blk.grown_st HSo3.out (HXr.out.old HB3'.out) (by decide) hg4);obtain ⟨-,m4,m5⟩:=HMc.out w4 HSt4.out.hb;clear hown4 hg4)
  | (go_at_call 132;refine (results_any ⟨rk,rq⟩ _).mono ?_;rintro r w5 ⟨ro,rc,rfl,hto5,-,hb5⟩;rw [HRl.out];have HTo5:=Lib.hid hto5;have HSt5:=Lib.hid (HSt4.out.old hb5);have HS5:=Lib.hid (HS4.out.old hb5);have HX5:=Lib.hid (HXr4.out.old hb5);have k5':=HSt5.out.ck.cells.2.2.2.2.2.2.1;have m6':=(HMc.out w5 HSt5.out.hb).1;clear hto5 hb5))
 refine rO (fun w':World=>w'.cell? ⟨ma.block,ma.off+6,none⟩=some (.slice (h.e kk).ko nc (h.e kk).kc)) (oL [0,1,2,3,4,5,6,7]) m6' ?_
 repeat refine pO ?_
 refine wpMixO_done ?_
 go_wp2
 go_ret3
 rw [HPe.out]
 exact RetM.no w HSt5.out.hb.drew nc 12):p:=h
theorem k77{p:Prop}(h:p:=by
 refine HB.upd hu h1 ?_
 cases oo with
 | none=>exact h1
 | some a=>
  obtain ⟨g,cur,rfl,-,hgg⟩:=H.op.blk rfl
  exact blk_ne HB hgg ht2):p:=h
theorem k84{p:Prop}(h:p:=by
 go_enter Tryz.func194,Tryz.ntmps194
 go_upto_region 1 with fail
 rw [←HW.out]
 go_wp2
 go_ret
 exact ret_ok rfl HB1.out):p:=h
theorem k85{p:Prop}(h:p:=by
 cases oo with
 | none=>exact h1
 | some a=>
  obtain ⟨g,cur,rfl,-,hgg⟩:=H.op.blk rfl
  exact HS.ne hgg (by decide)):p:=h
theorem k86{p:Prop}(h:p:=by
 obtain ⟨g,cur,rfl,-,hgg⟩:=H.op.blk ha
 exact HS.ne hgg (by decide) (by rw [hb];exact congrArg some e.symm)):p:=h
section
open Go.RowKit
theorem passF_nil (m:Md) (lo:List Ty) (r:Ty) (n:Nat) (s:Ps):passF m lo r n [] s=if endedV m r s.stk=0 then ([s.stk],0,0) else ([],n,endedV m r s.stk):=rfl
theorem getD_opd {m:Md}{k:Nat} (H:MthOk m k) {n:Nat} (hn:n<(m.me.getD k default).k.length):OpdOk m k ((m.me.getD k default).k.getD n default)∧0≤((m.me.getD k default).k.getD n default).op∧((m.me.getD k default).k.getD n default).op<36:=by
 have h1:=H.i _ (getD_mem default hn)
 exact ⟨opd_ok h1.1 h1.2,insn_op h1.1⟩
theorem drop_getD {l:List In3}{n:Nat} (hn:n<l.length):l.drop n=l.getD n default :: l.drop (n+1):=by
 rw [List.drop_eq_getElem_cons hn];simp [hn]
structure Rd (w wr:World) (K:Nat) (h:Hd) (m:Md) (kk:Nat) (lo:Option Addr) (lc:Nat) (ls:List Ty) (k:Nat) (so:Option Addr) (sc nr:Nat):Prop where
 ex:∃ (s:Ps) (acc:List (List Ty)) (rows:List SH) (sso:Option Addr) (ssc:Nat) (oo:Option Addr) (oc:Nat) (bs:List VB),
  St w wr K h m lo lc ls s sso ssc oo oc bs∧Wf m s ((m.me.getD kk default).k.drop k)∧rows.length=nr∧StOwn wr w.heap.size so sc rows acc ∧
  passV m kk=compP acc (passF m ls (m.me.getD kk default).r k ((m.me.getD kk default).k.drop k) s)
theorem St.grow {w0 w:World}{K:Nat}{h:Hd}{m:Md}{lo:Option Addr}{lc:Nat}{ls:List Ty}{s:Ps}{so:Option Addr}{sc:Nat}{oo:Option Addr}{oc:Nat}{bs:List VB} (H:St w0 w K h m lo lc ls s so sc oo oc bs) {w':World}{row:Option Nat} (hg:w.grownBy w' row)
  (hr:∀ b,row=some b→NoTy w b∧b≠K∧(∀ a,oo=some a→a.block≠b)∧w0.heap.size≤b):St w0 w' K h m lo lc ls s so sc oo oc bs:=by
 cases row with
 | none=>exact H.old ((Below.refl _ _).grown hg (Nat.le_refl _) (fun j hj=>by cases hj))
 | some b=>
  obtain ⟨h1,h2,h3,h4⟩:=hr b rfl
  have hu:Upd b b w w':=(Upd.refl b b w).grown hg (fun k hk=>.inl (Option.some.inj hk).symm)
  refine ⟨?_,H.ts.upd hu h1 h1,⟨own_eqV H.op.own fun k hk=>hu.block k (H.op.own.lt k hk).2 ?_ ?_,H.op.len,fun i hi=>(H.op.at_ i hi).upd hu h1 h1⟩,H.tl.upd hu h1 h1,hu.below H.hb (Nat.le_refl _) h4 h4,H.hK⟩
  ·exact Blk.upd H.ck hu h2.symm h2.symm
  ·intro e
   cases oo with
   | none=>cases hk
   | some a=>cases hk;exact h3 a rfl e
  ·intro e
   cases oo with
   | none=>cases hk
   | some a=>cases hk;exact h3 a rfl e
theorem St.grow_st {w0 w:World}{K:Nat}{h:Hd}{m:Md}{lo:Option Addr}{lc:Nat}{ls:List Ty}{s:Ps}{sso:Option Addr}{ssc:Nat}{oo:Option Addr}{oc:Nat}{bs:List VB} (H:St w0 w K h m lo lc ls s sso ssc oo oc bs) {so:Option Addr}{sc:Nat}{rows:List SH}{sts:List (List Ty)} (HS:StOwn w w0.heap.size so sc rows sts) {w':World} (hg:w.grownBy w' (Value.slice so rows.length sc).ownBlock):St w0 w' K h m lo lc ls s sso ssc oo oc bs:=by
 refine H.grow hg fun b hb=>⟨HS.noTy hb,fun e=>?_,fun a ha e=>?_,(HS.own.lt b hb).1⟩
 ·exact HS.ne (b:=K) (show w.heap[K]?=some (.cells _ 151 (0,0)) from H.ck) (by decide) (e▸hb)
 ·exact k86
section
variable {w w':World}{w0:World}{K:Nat}{h:Hd}{m:Md}{lo:Option Addr}{lc:Nat}{ls:List Ty}{s:Ps}{sso:Option Addr}{ssc:Nat}{oo:Option Addr}{oc:Nat}{bs:List VB}(H:St w0 w K h m lo lc ls s sso ssc oo oc bs)
include w w' w0 K h m lo lc ls s sso ssc oo oc bs H
theorem StOwn.step {N:Nat} {so:Option Addr} {sc:Nat} {rows:List SH} {sts:List (List Ty)} (HS:StOwn w N so sc rows sts) (hu:Upd K (oblk K oo) w w'):StOwn w' N so sc rows sts:=by
 have h1:=HS.ne (b:=K) (show w.heap[K]?=some (.cells _ 151 (0,0)) from H.ck) (by decide)
 refine HS.upd hu H.ck.noTy (H.op.noTy H.ck.noTy) h1 ?_
 exact k85
theorem Blk.step {b:Nat} {xs:Array Value} {t:TypeId} (HB:Blk w b xs t) (ht:t≠151) (ht2:t≠190) (hu:Upd K (oblk K oo) w w'):Blk w' b xs t:=by
 have h1:b≠K:=blk_ne HB H.ck ht
 exact k77
end
theorem Blk.grown_st {w w':World}{N:Nat}{so:Option Addr}{sc:Nat}{rows:List SH}{sts:List (List Ty)} (HS:StOwn w N so sc rows sts) {b:Nat}{xs:Array Value}{t:TypeId} (HB:Blk w b xs t) (ht:t≠23) (hg:w.grownBy w' (Value.slice so rows.length sc).ownBlock):Blk w' b xs t:=by
 unfold Blk
 rw [hg.block b HB.lt (fun e=>HS.ne (show w.heap[b]?=some (.cells xs t (0,0)) from HB) ht e.symm)]
 exact HB
theorem St.upper {w0 w:World}{K:Nat}{h:Hd}{m:Md}{lo:Option Addr}{lc:Nat}{ls:List Ty}{s:Ps}{sso:Option Addr}{ssc:Nat}{oo:Option Addr}{oc:Nat}{bs:List VB} (H:St w0 w K h m lo lc ls s sso ssc oo oc bs) {w':World} (hu:Upd K (oblk K oo) w w'):Below w0.heap.size w0 w':=by
 refine hu.below H.hb (Nat.le_refl _) H.hK ?_
 exact k49
theorem TyAt.alloc' {w:World}{ao:Option Addr}{cap:Nat}{l:List Ty} (H:TyAt w ao cap l) (o:Obj):TyAt (w.alloc o) ao cap l:=by
 have hb:Below w.heap.size w (w.alloc o):=by exact bE
 obtain ⟨h1,h2,h3⟩:=H
 exact k73
theorem compP_no {acc:List (List Ty)}{n:Nat}{e:Int} (he:e≠0):compP acc ([],n,e)=([],n,e):=if_neg he
theorem vMethod_any (h:Hd) (m:Md) (kk:Nat) (w:World) (HM:ModAt w h m) (hm:modV m=true) (hk:kk<m.me.length):Calls Tryz.prog 93 #[.agg #[.slice h.co m.cl.length h.cc,.slice h.so m.st.length h.sc,.slice h.eo m.me.length h.ec,.int .i64 m.sel],.int .i64 kk] w (RetM w (passV m kk)):=by
 have hmt:=mth_ok hm hk
 obtain ⟨ls,hls⟩:∃ l,l=localsV (m.me.getD kk default):=⟨_,rfl⟩
 obtain ⟨ea,heo,-⟩:=HM.mth hk
 obtain ⟨ma,hma⟩:∃ a,a=ea.add (kk*7):=⟨_,rfl⟩
 obtain ⟨nc,hnc⟩:∃ n,n=(m.me.getD kk default).k.length:=⟨_,rfl⟩
 have hnc2:nc≤120:=by rw [hnc];exact hmt.z.2.2
 have hmc:∀ w',Below w.heap.size w w'→w'.cell? ⟨ma.block,ma.off+6,none⟩=some (.slice (h.e kk).ko nc (h.e kk).kc)∧w'.cell? ⟨ma.block,ma.off+4,none⟩=some (.int .i64 (m.me.getD kk default).r.k)∧w'.cell? ⟨ma.block,ma.off+5,none⟩=some (.int .i64 (m.me.getD kk default).r.c):=fun w' hb'=>by
  obtain ⟨ad,h1,-,-,-,-,h4,h5,h6⟩:=(HM.old hb').mth hk
  rw [heo] at h1
  cases h1
  rw [←hma] at h4 h5 h6
  rw [←hnc] at h6
  exact ⟨h6,h4,h5⟩
 have hlo:=own_neg hm hk
 have hll:=locals_len hm hk
 rw [←hls] at hlo hll
 have hb1:Below w.heap.size w (w.alloc (.cells #[.slice h.co m.cl.length h.cc,.slice h.so m.st.length h.sc,.slice h.eo m.me.length h.ec,.int .i64 m.sel] 26)):=by exact bE
 have hx1:=Blk.new w #[.slice h.co m.cl.length h.cc,.slice h.so m.st.length h.sc,.slice h.eo m.me.length h.ec,.int .i64 m.sel] 26
 have HLo:=Lib.hid (show ∀ w',Below w.heap.size w w'→Calls Tryz.prog 126 #[.agg #[.slice h.co m.cl.length h.cc,.slice h.so m.st.length h.sc,.slice h.eo m.me.length h.ec,.int .i64 m.sel],.int .i64 kk] w' (RetOwn2 35 w' ls 0) from fun w' hb'=>by rw [hls];exact lLocals_yes m h kk w' (HM.old hb') hm hk)
 have hS:∀ w',Below (w.alloc (.cells #[.slice h.co m.cl.length h.cc,.slice h.so m.st.length h.sc,.slice h.eo m.me.length h.ec,.int .i64 m.sel] 26)).heap.size (w.alloc (.cells #[.slice h.co m.cl.length h.cc,.slice h.so m.st.length h.sc,.slice h.eo m.me.length h.ec,.int .i64 m.sel] 26)) w'→(fun w':World=>w'.cell? ⟨w.heap.size,0,none⟩=some (.slice h.co m.cl.length h.cc)∧w'.cell? ⟨w.heap.size,1,none⟩=some (.slice h.so m.st.length h.sc)∧w'.cell? ⟨w.heap.size,2,none⟩=some (.slice h.eo m.me.length h.ec)∧w'.cell? ⟨w.heap.size,3,none⟩=some (.int .i64 m.sel)) w':=fun w' hb'=>by
  have hx:=hx1.old hb'
  exact ⟨hx.cell 0 rfl,hx.cell 1 rfl,hx.cell 2 rfl,hx.cell 3 rfl⟩
 have HS:=Lib.hid hS
 have HHM:=Lib.hid HM
 have HHm:=Lib.hid hm
 have HMt:=Lib.hid hmt
 have HLs:=Lib.hid hls
 have HMc:=Lib.hid hmc
 have HLt:=Lib.hid hlo
 have HNc:=Lib.hid hnc
 have HEo:=Lib.hid heo
 have HMa:=Lib.hid hma
 obtain ⟨W1,hW1⟩:∃ W1,W1=w.alloc (.cells #[.slice h.co m.cl.length h.cc,.slice h.so m.st.length h.sc,.slice h.eo m.me.length h.ec,.int .i64 m.sel] 26):=⟨_,rfl⟩
 rw [←hW1] at HS hb1 hx1
 have HW1:=Lib.hid hW1
 have HB1:=Lib.hid hb1
 have HX1:=Lib.hid hx1
 have hz1:w.heap.size<W1.heap.size:=hx1.lt
 clear hS hx1 HM hm hmt hls hmc hlo hnc heo hma hW1 hb1
 go_enter Tryz.func93,Tryz.ntmps93
 go_wp2_with fail
 rw [←HW1.out]
 refine (HLo.out _ HB1.out).mono ?_
 rintro r w2 ⟨⟨lo,lc,rfl,hown2⟩,hb2⟩
 have HB2:=Lib.hid hb2
 have HL2:=Lib.hid (TyAt.own hown2)
 clear hown2 hb2
 have HB0:=Lib.hid (bthen HB1.out HB2.out)
 have HSt:=Lib.hid (St.start (h:=h) (m:=m) HB0.out HL2.out)
 obtain ⟨W3,hW3⟩:∃ W3,W3=w2.alloc (.cells (ckC h m (.slice lo ls.length lc) (.slice none 0 0) (.slice none 0 0) 0) 151):=⟨_,rfl⟩
 rw [←hW3] at HSt
 have hb3:Below w2.heap.size w2 W3:=by rw [hW3];exact bE
 have HB3:=Lib.hid (bthen HB0.out hb3)
 have hx3:=HX1.out.old (bthen HB2.out hb3)
 have q0:=hx3.cell 0 (v:=.slice h.co m.cl.length h.cc) rfl
 have q1:=hx3.cell 1 (v:=.slice h.so m.st.length h.sc) rfl
 have q2:W3.cell? ⟨w.heap.size,2,none⟩=some (.slice (some ea) m.me.length h.ec):=by rw [←HEo.out];exact hx3.cell 2 rfl
 have q3:=hx3.cell 3 (v:=.int .i64 m.sel) rfl
 have hx2:=HX1.out.old HB2.out
 have p0:=hx2.cell 0 (v:=.slice h.co m.cl.length h.cc) rfl
 have p1:=hx2.cell 1 (v:=.slice h.so m.st.length h.sc) rfl
 have p2:w2.cell? ⟨w.heap.size,2,none⟩=some (.slice h.eo m.me.length h.ec):=hx2.cell 2 rfl
 have p3:=hx2.cell 3 (v:=.int .i64 m.sel) rfl
 have m6:=(HMc.out W3 HB3.out).1
 have HX3:=Lib.hid hx3
 have HW3:=Lib.hid (show W3=w2.alloc (.cells #[.slice h.co m.cl.length h.cc,.slice h.so m.st.length h.sc,.slice h.eo m.me.length h.ec,.int .i64 m.sel,.slice lo ls.length lc,.slice none 0 0,.slice none 0 0,.int .i64 0] 151) from hW3)
 have hkk2:(kk:Int) < m.me.length:=by omega
 clear hx3 hx2 hb3 hW3
 go_upto_region 3 with fail
 rw [←HW3.out]
 clear p0 p1 p2 p3
 go_upto_region 4 with fail
 rw [←HMa.out]
 go_wp2_with fail
 obtain ⟨K,hK⟩:∃ K,K=w2.heap.size:=⟨_,rfl⟩
 rw [←hK] at HSt ⊢
 clear hK
 have hwf:Wf m ⟨[],[]⟩ (m.me.getD kk default).k:=wf_start HMt.out.n
 have hpv:passV m kk=compP [] (passF m ls (m.me.getD kk default).r 0 (m.me.getD kk default).k ⟨[],[]⟩):=by
  rw [←passF_start,HLs.out];rfl
 have HRd:=Lib.hid (show Rd w W3 K h m kk lo lc ls 0 none 0 0 from ⟨⟨_,[],[],_,_,_,_,_,HSt.out,by rw [List.drop_zero];exact hwf,rfl,StOwn.nil _ _,by rw [List.drop_zero];exact hpv⟩⟩)
 clear hwf hpv q0 q1 q2 q3 m6 HSt
 go_loopw [4,33] (fun a i wr=>∃ (k:Nat) (so:Option Addr) (sc nr:Nat),k≤nc∧i=.int .i64 k∧a=.slice so nr sc∧nr=k∧Hid (Rd w wr K h m kk lo lc ls k so sc nr)∧Hid (Below W3.heap.size W3 W3)∧Hid (Blk wr w.heap.size #[.slice h.co m.cl.length h.cc,.slice h.so m.st.length h.sc,.slice h.eo m.me.length h.ec,.int .i64 m.sel] 26)) (fun _ i _=>nc-(intOf i).toNat)
 case atStart=>exact ⟨0,none,0,0,by omega,rfl,rfl,rfl,HRd,Lib.hid (Below.refl _ _),HX3⟩
 case round=>
  obtain ⟨k,so,sc,nr,hkn,rfl,rfl,hnr,HR,-,HXr⟩:=hrel
  have HNr:=Lib.hid hnr
  clear hnr
  obtain ⟨s,acc,rows,sso,ssc,oo,oc,bs,hst,hwf,hrl,hso,hpv⟩:=HR.out.ex
  subst hrl
  have HSt:=Lib.hid hst
  have HWf:=Lib.hid hwf
  have HSo:=Lib.hid hso
  have HPv:=Lib.hid hpv
  have k5:=hst.ck.cells.2.2.2.2.2.2.1
  have k7:=hst.ck.cells.2.2.2.2.2.2.2.2
  have hbr:=hst.hb
  have kl:=Blk.lt hst.ck
  have HBr:=Lib.hid hbr
  have m6:=(HMc.out wr hbr).1
  have hs12:=hwf.stk.1
  have hs6:=hwf.depth
  clear hst hwf hso hpv hbr HRd HR
  by_cases hkl:k<nc
  ·have hkl2:(k:Int) < nc:=by omega
   have hkd:k<(m.me.getD kk default).k.length:=by have:=HNc.out;omega
   obtain ⟨hopd,hop0,hop36⟩:=getD_opd HMt.out hkd
   obtain ⟨ka,hka,i0,i1,i2⟩:=row_in ((HHM.out.old HBr.out).k kk hk) hkd
   obtain ⟨i,hi⟩:∃ i,i=(m.me.getD kk default).k.getD k default:=⟨_,rfl⟩
   have hdr:(m.me.getD kk default).k.drop k=i :: (m.me.getD kk default).k.drop (k+1):=by rw [hi];exact drop_getD hkd
   rw [←hi] at hopd hop0 hop36 i0 i1 i2
   have hwr:IntKind.i64.wrap ((k:Int)+1)=k+1:=IntWalk.i64_in _ (by omega)
   obtain ⟨op,ia,ib⟩:=i
   dsimp only at i0 i1 i2 hop0 hop36
   have HOpd:=Lib.hid hopd
   have HDr:=Lib.hid hdr
   have HClo:=Lib.hid (show ∀ w',Below wr.heap.size wr w'→Calls Tryz.prog 127 #[.slice sso s.stk.length ssc] w' (RetOwn 35 w' s.stk) from fun w' hb'=>clT_any w' sso ssc s.stk (HSt.out.ts.1.old hb') (by omega))
   rw [hka]
   clear hopd hdr hi hka m6 hkd
   by_cases hcase:opensV op=true
   ·have hq1:opensV op=true:=hcase
    have HOp:=Lib.hid hcase
    have hq1:=hcase
    clear hcase
    as_aux_lemma=>
    go_upto_region 15 with (first
     | (go_at_call 127;refine (HClo.out _ bE).mono ?_;rintro r w2 ⟨⟨to',tc,rfl,hown2⟩,hb2⟩;have HO2:=Lib.hid hown2;have HB2:=Lib.hid (bthen (show Below wr.heap.size wr (wr.alloc (.cells #[.int .i64 op,.int .i64 ia,.int .i64 ib] 42)) by exact bE) hb2);have HB3':=Lib.hid (show Below wr.heap.size wr (w2.alloc (.cells #[.slice to' s.stk.length tc] 23)) from bal HB2.out _);have HSo3:=Lib.hid (HSo.out.old HB3'.out);have HT3:=Lib.hid (TyAt.alloc' (TyAt.own HO2.out) (.cells #[.slice to' s.stk.length tc] 23));have HX3':=Lib.hid (sla_blkV (n:=1) (size:=1) (Blk.new w2 #[.slice to' s.stk.length tc] 23) rfl);have HDb:=Lib.hid (Blk.old (w:=wr.alloc (.cells #[.int .i64 op,.int .i64 ia,.int .i64 ib] 42)) (Blk.new wr #[.int .i64 op,.int .i64 ia,.int .i64 ib] 42) (bthen hb2 (show Below w2.heap.size w2 (w2.alloc (.cells #[.slice to' s.stk.length tc] 23)) by exact bE)));have hzz:=HB3'.out.size;have hzw:=HBr.out.size;clear hown2 hb2)
     | (at_builtin;refine wpList_wp rfl ?_;refine wp_append_slx (.tmp 38) (.tmp 44) 122 rfl w.heap.size 23 1 24 elVs _ rows.length _ rfl HSo3.out.own _ 1 1 [.slice to' s.stk.length tc] rfl HX3'.out (by intro u hu;rw [List.mem_singleton.1 hu];rfl) (by have:=HNr.out;omega) (by have:=HNr.out;unfold maxLen;omega) (by omega) ?_;intro ao2 cap2 w4 hown4 hg4;have HS4:=Lib.hid (HSo3.out.snoc HT3.out hown4 hg4);have HSt4:=Lib.hid (St.grow_st (HSt.out.old HB3'.out) HSo3.out hg4);have hdb4:=Blk.grown_st HSo3.out HDb.out (by decide) hg4;have HXr4:=Lib.hid (Blk.grown_st HSo3.out (HXr.out.old HB3'.out) (by decide) hg4);have e0:=hdb4.cell 0 (v:=.int .i64 op) rfl;have e1:=hdb4.cell 1 (v:=.int .i64 ia) rfl;have e2:=hdb4.cell 2 (v:=.int .i64 ib) rfl;have HStep:=Lib.hid (opening_any (i:=⟨op,ia,ib⟩) HHm.out HLt.out HWf.out.stk HSt4.out HHM.out hs6 HOpd.out HWf.out.base (by have:=HOp.out;simp only [opensV,inI,Bool.and_eq_true,decide_eq_true_eq] at this;exact this));clear hown4 hg4 hdb4)
     | (go_at_call 78;refine (opens_any _ _).mono ?_;rintro e w' ⟨rfl,rfl⟩)
     | (go_at_call 128;refine HStep.out.mono ?_;rintro r w5 ⟨⟨v,rfl⟩,hu5,hse⟩;have HU5:=Lib.hid hu5;have HSe:=Lib.hid hse;clear hu5 hse))
    exact k2
   ·have hq1:opensV op=false:=by simpa using hcase
    have HOq:=Lib.hid hq1
    clear hcase
    by_cases hcase:op=34
    ·have hq2:(op == 34)=true:=by simpa using hcase
     have HEl:=Lib.hid (show ∃ q:List Opn × Opn,True∧s.opn=q.1++[q.2]∧q.2.beg.length≤12 from by
      have h1:=HWf.out
      rw [HDr.out] at h1
      obtain ⟨r,o,h2,_⟩:=h1.else_ hcase
      refine ⟨(r,o),trivial,h2,?_⟩
      have h3:=h1.opn
      rw [h2,List.reverse_append,List.reverse_singleton,List.singleton_append] at h3
      exact h3.1.1)
     obtain ⟨⟨r0,o0⟩,hel⟩:=HEl.out
     clear HEl
     have HEl:=Lib.hid hel
     clear hel
     have HOp:=Lib.hid hcase
     have hq2:(op == 34)=true:=by simpa using hcase
     clear hcase
     as_aux_lemma=>
     go_upto_region 15 with (first
      | (go_at_call 127;refine (HClo.out _ bE).mono ?_;rintro r w2 ⟨⟨to',tc,rfl,hown2⟩,hb2⟩;have HO2:=Lib.hid hown2;have HB2:=Lib.hid (bthen (show Below wr.heap.size wr (wr.alloc (.cells #[.int .i64 op,.int .i64 ia,.int .i64 ib] 42)) by exact bE) hb2);have HB3':=Lib.hid (show Below wr.heap.size wr (w2.alloc (.cells #[.slice to' s.stk.length tc] 23)) from bal HB2.out _);have HSo3:=Lib.hid (HSo.out.old HB3'.out);have HT3:=Lib.hid (TyAt.alloc' (TyAt.own HO2.out) (.cells #[.slice to' s.stk.length tc] 23));have HX3':=Lib.hid (sla_blkV (n:=1) (size:=1) (Blk.new w2 #[.slice to' s.stk.length tc] 23) rfl);have HDb:=Lib.hid (Blk.old (w:=wr.alloc (.cells #[.int .i64 op,.int .i64 ia,.int .i64 ib] 42)) (Blk.new wr #[.int .i64 op,.int .i64 ia,.int .i64 ib] 42) (bthen hb2 (show Below w2.heap.size w2 (w2.alloc (.cells #[.slice to' s.stk.length tc] 23)) by exact bE)));have hzz:=HB3'.out.size;have hzw:=HBr.out.size;clear hown2 hb2)
      | (at_builtin;refine wpList_wp rfl ?_;refine wp_append_slx (.tmp 38) (.tmp 44) 122 rfl w.heap.size 23 1 24 elVs _ rows.length _ rfl HSo3.out.own _ 1 1 [.slice to' s.stk.length tc] rfl HX3'.out (by intro u hu;rw [List.mem_singleton.1 hu];rfl) (by have:=HNr.out;omega) (by have:=HNr.out;unfold maxLen;omega) (by omega) ?_;intro ao2 cap2 w4 hown4 hg4;have HS4:=Lib.hid (HSo3.out.snoc HT3.out hown4 hg4);have HSt4:=Lib.hid (St.grow_st (HSt.out.old HB3'.out) HSo3.out hg4);have hdb4:=Blk.grown_st HSo3.out HDb.out (by decide) hg4;have HXr4:=Lib.hid (Blk.grown_st HSo3.out (HXr.out.old HB3'.out) (by decide) hg4);have e0:=hdb4.cell 0 (v:=.int .i64 op) rfl;have e1:=hdb4.cell 1 (v:=.int .i64 ia) rfl;have e2:=hdb4.cell 2 (v:=.int .i64 ib) rfl;have HStep:=Lib.hid ((fun _=>middle_any (i:=⟨op,ia,ib⟩) HSt4.out HOp.out HEl.out.2.1 hs6 HEl.out.2.2) ());clear hown4 hg4 hdb4)
      | (go_at_call 78;refine (opens_any _ _).mono ?_;rintro e w' ⟨rfl,rfl⟩)
      | (go_at_call 129;refine HStep.out.mono ?_;rintro r w5 ⟨⟨v,rfl⟩,hu5,hse⟩;have HU5:=Lib.hid hu5;have HSe:=Lib.hid hse;clear hu5 hse))
     exact k2
    ·have hq2:(op == 34)=false:=by simpa using hcase
     have h34:=hcase
     clear hcase
     by_cases hcase:op=35
     ·have hq3:(op == 35)=true:=by simpa using hcase
      clear h34
      have HEl:=Lib.hid (show ∃ q:List Opn × Opn,True∧s.opn=q.1++[q.2] from by
       have h1:=HWf.out
       rw [HDr.out] at h1
       obtain ⟨r,o,h2,_⟩:=h1.end_ hcase
       exact ⟨(r,o),trivial,h2⟩)
      obtain ⟨⟨r0,o0⟩,hel⟩:=HEl.out
      clear HEl
      have HEl:=Lib.hid hel
      clear hel
      have HOp:=Lib.hid hcase
      have hq3:(op == 35)=true:=by simpa using hcase
      clear hcase
      as_aux_lemma=>
      go_upto_region 15 with (first
       | (go_at_call 127;refine (HClo.out _ bE).mono ?_;rintro r w2 ⟨⟨to',tc,rfl,hown2⟩,hb2⟩;have HO2:=Lib.hid hown2;have HB2:=Lib.hid (bthen (show Below wr.heap.size wr (wr.alloc (.cells #[.int .i64 op,.int .i64 ia,.int .i64 ib] 42)) by exact bE) hb2);have HB3':=Lib.hid (show Below wr.heap.size wr (w2.alloc (.cells #[.slice to' s.stk.length tc] 23)) from bal HB2.out _);have HSo3:=Lib.hid (HSo.out.old HB3'.out);have HT3:=Lib.hid (TyAt.alloc' (TyAt.own HO2.out) (.cells #[.slice to' s.stk.length tc] 23));have HX3':=Lib.hid (sla_blkV (n:=1) (size:=1) (Blk.new w2 #[.slice to' s.stk.length tc] 23) rfl);have HDb:=Lib.hid (Blk.old (w:=wr.alloc (.cells #[.int .i64 op,.int .i64 ia,.int .i64 ib] 42)) (Blk.new wr #[.int .i64 op,.int .i64 ia,.int .i64 ib] 42) (bthen hb2 (show Below w2.heap.size w2 (w2.alloc (.cells #[.slice to' s.stk.length tc] 23)) by exact bE)));have hzz:=HB3'.out.size;have hzw:=HBr.out.size;clear hown2 hb2)
       | (at_builtin;refine wpList_wp rfl ?_;refine wp_append_slx (.tmp 38) (.tmp 44) 122 rfl w.heap.size 23 1 24 elVs _ rows.length _ rfl HSo3.out.own _ 1 1 [.slice to' s.stk.length tc] rfl HX3'.out (by intro u hu;rw [List.mem_singleton.1 hu];rfl) (by have:=HNr.out;omega) (by have:=HNr.out;unfold maxLen;omega) (by omega) ?_;intro ao2 cap2 w4 hown4 hg4;have HS4:=Lib.hid (HSo3.out.snoc HT3.out hown4 hg4);have HSt4:=Lib.hid (St.grow_st (HSt.out.old HB3'.out) HSo3.out hg4);have hdb4:=Blk.grown_st HSo3.out HDb.out (by decide) hg4;have HXr4:=Lib.hid (Blk.grown_st HSo3.out (HXr.out.old HB3'.out) (by decide) hg4);have e0:=hdb4.cell 0 (v:=.int .i64 op) rfl;have e1:=hdb4.cell 1 (v:=.int .i64 ia) rfl;have e2:=hdb4.cell 2 (v:=.int .i64 ib) rfl;have HStep:=Lib.hid (end_any (i:=⟨op,ia,ib⟩) HSt4.out HOp.out HEl.out.2 hs6 hs12);clear hown4 hg4 hdb4)
       | (go_at_call 78;refine (opens_any _ _).mono ?_;rintro e w' ⟨rfl,rfl⟩)
       | (go_at_call 130;refine HStep.out.mono ?_;rintro r w5 ⟨⟨v,rfl⟩,hu5,hse⟩;have HU5:=Lib.hid hu5;have HSe:=Lib.hid hse;clear hu5 hse))
      exact k2
     ·have hq3:(op == 35)=false:=by simpa using hcase
      have h35:=hcase
      clear hcase
      have hcase:op<29:=by
       have h1:=HOq.out
       simp only [opensV,inI,Bool.and_eq_false_iff,decide_eq_false_iff_not] at h1
       omega
      clear h34 h35
      have HOp:=Lib.hid hcase
      clear hcase
      as_aux_lemma=>
      go_upto_region 15 with (first
       | (go_at_call 127;refine (HClo.out _ bE).mono ?_;rintro r w2 ⟨⟨to',tc,rfl,hown2⟩,hb2⟩;have HO2:=Lib.hid hown2;have HB2:=Lib.hid (bthen (show Below wr.heap.size wr (wr.alloc (.cells #[.int .i64 op,.int .i64 ia,.int .i64 ib] 42)) by exact bE) hb2);have HB3':=Lib.hid (show Below wr.heap.size wr (w2.alloc (.cells #[.slice to' s.stk.length tc] 23)) from bal HB2.out _);have HSo3:=Lib.hid (HSo.out.old HB3'.out);have HT3:=Lib.hid (TyAt.alloc' (TyAt.own HO2.out) (.cells #[.slice to' s.stk.length tc] 23));have HX3':=Lib.hid (sla_blkV (n:=1) (size:=1) (Blk.new w2 #[.slice to' s.stk.length tc] 23) rfl);have HDb:=Lib.hid (Blk.old (w:=wr.alloc (.cells #[.int .i64 op,.int .i64 ia,.int .i64 ib] 42)) (Blk.new wr #[.int .i64 op,.int .i64 ia,.int .i64 ib] 42) (bthen hb2 (show Below w2.heap.size w2 (w2.alloc (.cells #[.slice to' s.stk.length tc] 23)) by exact bE)));have hzz:=HB3'.out.size;have hzw:=HBr.out.size;clear hown2 hb2)
       | (at_builtin;refine wpList_wp rfl ?_;refine wp_append_slx (.tmp 38) (.tmp 44) 122 rfl w.heap.size 23 1 24 elVs _ rows.length _ rfl HSo3.out.own _ 1 1 [.slice to' s.stk.length tc] rfl HX3'.out (by intro u hu;rw [List.mem_singleton.1 hu];rfl) (by have:=HNr.out;omega) (by have:=HNr.out;unfold maxLen;omega) (by omega) ?_;intro ao2 cap2 w4 hown4 hg4;have HS4:=Lib.hid (HSo3.out.snoc HT3.out hown4 hg4);have HSt4:=Lib.hid (St.grow_st (HSt.out.old HB3'.out) HSo3.out hg4);have hdb4:=Blk.grown_st HSo3.out HDb.out (by decide) hg4;have HXr4:=Lib.hid (Blk.grown_st HSo3.out (HXr.out.old HB3'.out) (by decide) hg4);have e0:=hdb4.cell 0 (v:=.int .i64 op) rfl;have e1:=hdb4.cell 1 (v:=.int .i64 ia) rfl;have e2:=hdb4.cell 2 (v:=.int .i64 ib) rfl;have HStep:=Lib.hid ((simple_any (i:=⟨op,ia,ib⟩) HHm.out HLt.out HWf.out.stk HSt4.out HHM.out hs6 HOpd.out HWf.out.base hk ⟨hop0,HOp.out⟩).mono fun r w5 hp=>step_of_do HSt4.out (by dsimp only;have:=HOp.out;omega) (by dsimp only;have:=HOp.out;omega) HOq.out hp);clear hown4 hg4 hdb4)
       | (go_at_call 78;refine (opens_any _ _).mono ?_;rintro e w' ⟨rfl,rfl⟩)
       | (go_at_call 131;refine HStep.out.mono ?_;rintro r w5 ⟨⟨v,rfl⟩,hu5,hse⟩;have HU5:=Lib.hid hu5;have HSe:=Lib.hid hse;clear hu5 hse))
      exact k2
  ·have hke:nc=k:=by omega
   subst hke
   have hdn:(m.me.getD kk default).k.drop nc=[]:=by rw [List.drop_eq_nil_iff];have:=HNc.out;omega
   have hpv2:=HPv.out
   rw [hdn] at hpv2
   obtain ⟨⟨rk,rq⟩,hr⟩:∃ r:Ty,r=(m.me.getD kk default).r:=⟨_,rfl⟩
   rw [←hr,passF_nil] at hpv2
   have hrt:=HMt.out.r
   rw [←hr] at hrt
   rw [←hr] at HMc
   have HPv2:=Lib.hid hpv2
   have HRt:=Lib.hid hrt
   have HClo:=Lib.hid (show ∀ w',Below wr.heap.size wr w'→Calls Tryz.prog 127 #[.slice sso s.stk.length ssc] w' (RetOwn 35 w' s.stk) from fun w' hb'=>clT_any w' sso ssc s.stk (HSt.out.ts.1.old hb') (by omega))
   clear hdn hpv2 hr hrt m6 k7 hkl
   by_cases hrk:rk=0
   ·by_cases hsn:s.stk=[]
    ·have HRl:=Lib.hid (show (resL ⟨rk,rq⟩).length=0 from by unfold resL;rw [if_pos hrk];rfl)
     have hcmp:((s.stk.length:Int) == 0)=true:=by simp [hsn]
     have HPe:=Lib.hid (show passV m kk=(acc++[s.stk],0,0) from by rw [HPv2.out,hsn,endedV_nil hrk];rfl)
     clear hsn hrk
     as_aux_lemma=>
     go_upto_region 22 with (first
      | (go_at_call 127;refine (HClo.out _ (Below.refl _ _)).mono ?_;rintro r w2 ⟨⟨to',tc,rfl,hown2⟩,hb2⟩;have HO2:=Lib.hid hown2;have HB3':=Lib.hid (show Below wr.heap.size wr (w2.alloc (.cells #[.slice to' s.stk.length tc] 23)) from bal hb2 _);have HSo3:=Lib.hid (HSo.out.old HB3'.out);have HT3:=Lib.hid (TyAt.alloc' (TyAt.own HO2.out) (.cells #[.slice to' s.stk.length tc] 23));have HX3':=Lib.hid (sla_blkV (n:=1) (size:=1) (Blk.new w2 #[.slice to' s.stk.length tc] 23) rfl);have hzz:=HB3'.out.size;have hzw:=HBr.out.size;clear hown2 hb2)
      | (at_builtin;refine wpList_wp rfl ?_;refine wp_append_slx (.tmp 79) (.tmp 85) 122 rfl w.heap.size 23 1 24 elVs _ rows.length _ rfl HSo3.out.own _ 1 1 [.slice to' s.stk.length tc] rfl HX3'.out (by intro u hu;rw [List.mem_singleton.1 hu];rfl) (by have:=HNr.out;omega) (by have:=HNr.out;unfold maxLen;omega) (by omega) ?_;intro ao2 cap2 w4 hown4 hg4;have HS4:=Lib.hid (HSo3.out.snoc HT3.out hown4 hg4);have HSt4:=Lib.hid (St.grow_st (HSt.out.old HB3'.out) HSo3.out hg4);have HXr4:=Lib.hid (Blk.grown_st HSo3.out (HXr.out.old HB3'.out) (by decide) hg4);obtain ⟨-,m4,m5⟩:=HMc.out w4 HSt4.out.hb;clear hown4 hg4)
      | (go_at_call 132;refine (results_any ⟨rk,rq⟩ _).mono ?_;rintro r w5 ⟨ro,rc,rfl,hto5,-,hb5⟩;rw [HRl.out];have HTo5:=Lib.hid hto5;have HSt5:=Lib.hid (HSt4.out.old hb5);have HS5:=Lib.hid (HS4.out.old hb5);have HX5:=Lib.hid (HXr4.out.old hb5);have k5':=HSt5.out.ck.cells.2.2.2.2.2.2.1;have m6':=(HMc.out w5 HSt5.out.hb).1;clear hto5 hb5))
     refine rO (fun _:World=>True) (oL [0,1,2,3,4,5,6,7,8,9,10,11,12,13,114,15,16]) trivial ?_
     repeat refine pO ?_
     refine wpMixO_one ?_
     refine wpOp_skipD 119 (by rfl) ?_
     refine ⟨trivial,?_⟩
     simp only [List.setIfInBounds_toArray,List.set_cons_zero,List.set_cons_succ]
     repeat refine pO ?_
     refine wpMixO_done ?_
     go_wp2
     go_ret3
     rw [HPe.out]
     exact ⟨⟨ao2,cap2,rows++[⟨to',s.stk.length,tc⟩],by simp,HS5.out.old bE⟩,HSt5.out.hb.drew⟩
    ·have HRl:=Lib.hid (show (resL ⟨rk,rq⟩).length=0 from by unfold resL;rw [if_pos hrk];rfl)
     have hcmp:((s.stk.length:Int) == 0)=false:=by simp [hsn]
     have HPe:=Lib.hid (show passV m kk=([],nc,12) from by rw [HPv2.out,endedV_cons hrk hsn];rfl)
     exact k7
   ·by_cases hsn:s.stk.length=1
    ·obtain ⟨⟨tk,tq⟩,ht1⟩:=one_of hsn
     cases hft:fitsV m ⟨tk,tq⟩ ⟨rk,rq⟩
     ·have HRl:=Lib.hid (show (resL ⟨rk,rq⟩).length=1 from by unfold resL;rw [if_neg hrk];rfl)
      have hcmp:((s.stk.length:Int) == 1)=true:=by simp [hsn]
      have HPe:=Lib.hid (show passV m kk=([],nc,11) from by rw [HPv2.out,ht1,endedV_one hrk,hft];rfl)
      have hl1:0<s.stk.length:=by omega
      have HFt:=Lib.hid (show fitG m ⟨tk,tq⟩ ⟨rk,rq⟩=false from by rw [fitG_eq HHm.out (HWf.out.stk.2 _ (by rw [ht1];simp)) (ty_none HRt.out hrk),hft])
      have HT1:=Lib.hid ht1
      have HR0:=Lib.hid (show (resL ⟨rk,rq⟩).getD 0 default=⟨rk,rq⟩ from by unfold resL;rw [if_neg hrk];rfl)
      clear ht1 hft
      clear hsn hrk
      as_aux_lemma=>
      go_upto_region 22 with (first
       | (go_at_call 127;refine (HClo.out _ (Below.refl _ _)).mono ?_;rintro r w2 ⟨⟨to',tc,rfl,hown2⟩,hb2⟩;have HO2:=Lib.hid hown2;have HB3':=Lib.hid (show Below wr.heap.size wr (w2.alloc (.cells #[.slice to' s.stk.length tc] 23)) from bal hb2 _);have HSo3:=Lib.hid (HSo.out.old HB3'.out);have HT3:=Lib.hid (TyAt.alloc' (TyAt.own HO2.out) (.cells #[.slice to' s.stk.length tc] 23));have HX3':=Lib.hid (sla_blkV (n:=1) (size:=1) (Blk.new w2 #[.slice to' s.stk.length tc] 23) rfl);have hzz:=HB3'.out.size;have hzw:=HBr.out.size;clear hown2 hb2)
       | (at_builtin;refine wpList_wp rfl ?_;refine wp_append_slx (.tmp 79) (.tmp 85) 122 rfl w.heap.size 23 1 24 elVs _ rows.length _ rfl HSo3.out.own _ 1 1 [.slice to' s.stk.length tc] rfl HX3'.out (by intro u hu;rw [List.mem_singleton.1 hu];rfl) (by have:=HNr.out;omega) (by have:=HNr.out;unfold maxLen;omega) (by omega) ?_;intro ao2 cap2 w4 hown4 hg4;have HS4:=Lib.hid (HSo3.out.snoc HT3.out hown4 hg4);have HSt4:=Lib.hid (St.grow_st (HSt.out.old HB3'.out) HSo3.out hg4);have HXr4:=Lib.hid (Blk.grown_st HSo3.out (HXr.out.old HB3'.out) (by decide) hg4);obtain ⟨-,m4,m5⟩:=HMc.out w4 HSt4.out.hb;clear hown4 hg4)
       | (go_at_call 132;refine (results_any ⟨rk,rq⟩ _).mono ?_;rintro r w5 ⟨ro,rc,rfl,hto5,-,hb5⟩;rw [HRl.out];have HTo5:=Lib.hid hto5;have HSt5:=Lib.hid (HSt4.out.old hb5);have HS5:=Lib.hid (HS4.out.old hb5);have HX5:=Lib.hid (HXr4.out.old hb5);have k5':=HSt5.out.ck.cells.2.2.2.2.2.2.1;have m6':=(HMc.out w5 HSt5.out.hb).1;clear hto5 hb5))
      obtain ⟨sa,hsa,t0,t1⟩:=row_ty HSt5.out.ts.1 (i:=0) (by omega)
      obtain ⟨wa,hwa,u0,u1⟩:=row_ty HTo5.out.1 (i:=0) (by rw [HRl.out];decide)
      rw [Nat.zero_mul,show sa.add 0=sa from by simp [Addr.add],HT1.out] at t0 t1
      rw [Nat.zero_mul,show wa.add 0=wa from by simp [Addr.add],HR0.out] at u0 u1
      dsimp only [List.getD_cons_zero] at t0 t1 u0 u1
      rw [hsa] at k5'
      rw [hwa]
      have g0:=HX5.out.cell 0 (v:=.slice h.co m.cl.length h.cc) rfl
      have g1:=HX5.out.cell 1 (v:=.slice h.so m.st.length h.sc) rfl
      have g2:w5.cell? ⟨w.heap.size,2,none⟩=some (.slice h.eo m.me.length h.ec):=HX5.out.cell 2 rfl
      have g3:=HX5.out.cell 3 (v:=.int .i64 m.sel) rfl
      have hS:∀ w',Below w5.heap.size w5 w'→(fun w':World=>w'.cell? ⟨w.heap.size,0,none⟩=some (.slice h.co m.cl.length h.cc)∧w'.cell? ⟨w.heap.size,1,none⟩=some (.slice h.so m.st.length h.sc)∧w'.cell? ⟨w.heap.size,2,none⟩=some (.slice h.eo m.me.length h.ec)∧w'.cell? ⟨w.heap.size,3,none⟩=some (.int .i64 m.sel)∧w'.cell? ⟨K,5,none⟩=some (.slice (some sa) s.stk.length ssc)∧w'.cell? sa=some (.int .i64 tk)∧w'.cell? ⟨sa.block,sa.off+1,none⟩=some (.int .i64 tq)∧w'.cell? wa=some (.int .i64 rk)∧w'.cell? ⟨wa.block,wa.off+1,none⟩=some (.int .i64 rq)) w':=fun w' hb'=>⟨(hb'.cell (cell_lt g0)).trans g0,(hb'.cell (cell_lt g1)).trans g1,(hb'.cell (cell_lt g2)).trans g2,(hb'.cell (cell_lt g3)).trans g3,(hb'.cell (cell_lt k5')).trans k5',(hb'.cell (cell_lt t0)).trans t0,(hb'.cell (p:=⟨sa.block,sa.off+1,none⟩) (cell_lt t1)).trans t1,(hb'.cell (cell_lt u0)).trans u0,(hb'.cell (p:=⟨wa.block,wa.off+1,none⟩) (cell_lt u1)).trans u1⟩
      have HS:=Lib.hid hS
      have HFi:=Lib.hid (show ∀ w',Below w5.heap.size w5 w'→Calls Tryz.prog 133 #[.agg #[.slice h.co m.cl.length h.cc,.slice h.so m.st.length h.sc,.slice h.eo m.me.length h.ec,.int .i64 m.sel],.agg #[.int .i64 tk,.int .i64 tq],.agg #[.int .i64 rk,.int .i64 rq]] w' (Ret w' (.bool false)) from fun w' hb'=>by have:=fits_any m h ⟨tk,tq⟩ ⟨rk,rq⟩ w' (HHM.out.old (bthen HSt5.out.hb hb'));rw [HFt.out] at this;exact this)
      clear hS hsa hwa t0 t1 u0 u1 g0 g1 g2 g3 k5'
      refine rO (fun w':World=>w'.cell? ⟨w.heap.size,0,none⟩=some (.slice h.co m.cl.length h.cc)∧w'.cell? ⟨w.heap.size,1,none⟩=some (.slice h.so m.st.length h.sc)∧w'.cell? ⟨w.heap.size,2,none⟩=some (.slice h.eo m.me.length h.ec)∧w'.cell? ⟨w.heap.size,3,none⟩=some (.int .i64 m.sel)∧w'.cell? ⟨K,5,none⟩=some (.slice (some sa) s.stk.length ssc)∧w'.cell? sa=some (.int .i64 tk)∧w'.cell? ⟨sa.block,sa.off+1,none⟩=some (.int .i64 tq)∧w'.cell? wa=some (.int .i64 rk)∧w'.cell? ⟨wa.block,wa.off+1,none⟩=some (.int .i64 rq)) (oL [0,1,2,3,4,5,6,7,8,9,10,11,12,13,114,15,16]) (HS.out _ bE) ?_
      repeat refine pO ?_
      refine oO fun Kv hK=>?_
      go_simp
      refine (HFi.out _ bE).mono ?_
      rintro r w6 ⟨rfl,hb6⟩
      have HB6:=Lib.hid (show Below w5.heap.size w5 w6 from bthen (show Below w5.heap.size w5 w5.drew by exact bE) hb6)
      refine hK _ _ ⟨HS.out _ HB6.out,?_⟩
      clear hK Kv hb6
      repeat refine pO ?_
      refine wpMixO_done ?_
      have m7:=(HMc.out w6 (bthen HSt5.out.hb HB6.out)).1
      go_wp2_with fail
      refine rO (fun w':World=>w'.cell? ⟨ma.block,ma.off+6,none⟩=some (.slice (h.e kk).ko nc (h.e kk).kc)) (oL [0,1,2,3,4,5,6,7]) m7 ?_
      repeat refine pO ?_
      refine wpMixO_done ?_
      go_wp2
      go_ret3
      rw [HPe.out]
      exact RetM.no w (bthen HSt5.out.hb HB6.out).drew nc 11
     ·have HRl:=Lib.hid (show (resL ⟨rk,rq⟩).length=1 from by unfold resL;rw [if_neg hrk];rfl)
      have hcmp:((s.stk.length:Int) == 1)=true:=by simp [hsn]
      have HPe:=Lib.hid (show passV m kk=(acc++[s.stk],0,0) from by rw [HPv2.out,ht1,endedV_one hrk,hft];rfl)
      have hl1:0<s.stk.length:=by omega
      have HFt:=Lib.hid (show fitG m ⟨tk,tq⟩ ⟨rk,rq⟩=true from by rw [fitG_eq HHm.out (HWf.out.stk.2 _ (by rw [ht1];simp)) (ty_none HRt.out hrk),hft])
      have HT1:=Lib.hid ht1
      have HR0:=Lib.hid (show (resL ⟨rk,rq⟩).getD 0 default=⟨rk,rq⟩ from by unfold resL;rw [if_neg hrk];rfl)
      clear ht1 hft
      clear hsn hrk
      as_aux_lemma=>
      go_upto_region 22 with (first
       | (go_at_call 127;refine (HClo.out _ (Below.refl _ _)).mono ?_;rintro r w2 ⟨⟨to',tc,rfl,hown2⟩,hb2⟩;have HO2:=Lib.hid hown2;have HB3':=Lib.hid (show Below wr.heap.size wr (w2.alloc (.cells #[.slice to' s.stk.length tc] 23)) from bal hb2 _);have HSo3:=Lib.hid (HSo.out.old HB3'.out);have HT3:=Lib.hid (TyAt.alloc' (TyAt.own HO2.out) (.cells #[.slice to' s.stk.length tc] 23));have HX3':=Lib.hid (sla_blkV (n:=1) (size:=1) (Blk.new w2 #[.slice to' s.stk.length tc] 23) rfl);have hzz:=HB3'.out.size;have hzw:=HBr.out.size;clear hown2 hb2)
       | (at_builtin;refine wpList_wp rfl ?_;refine wp_append_slx (.tmp 79) (.tmp 85) 122 rfl w.heap.size 23 1 24 elVs _ rows.length _ rfl HSo3.out.own _ 1 1 [.slice to' s.stk.length tc] rfl HX3'.out (by intro u hu;rw [List.mem_singleton.1 hu];rfl) (by have:=HNr.out;omega) (by have:=HNr.out;unfold maxLen;omega) (by omega) ?_;intro ao2 cap2 w4 hown4 hg4;have HS4:=Lib.hid (HSo3.out.snoc HT3.out hown4 hg4);have HSt4:=Lib.hid (St.grow_st (HSt.out.old HB3'.out) HSo3.out hg4);have HXr4:=Lib.hid (Blk.grown_st HSo3.out (HXr.out.old HB3'.out) (by decide) hg4);obtain ⟨-,m4,m5⟩:=HMc.out w4 HSt4.out.hb;clear hown4 hg4)
       | (go_at_call 132;refine (results_any ⟨rk,rq⟩ _).mono ?_;rintro r w5 ⟨ro,rc,rfl,hto5,-,hb5⟩;rw [HRl.out];have HTo5:=Lib.hid hto5;have HSt5:=Lib.hid (HSt4.out.old hb5);have HS5:=Lib.hid (HS4.out.old hb5);have HX5:=Lib.hid (HXr4.out.old hb5);have k5':=HSt5.out.ck.cells.2.2.2.2.2.2.1;have m6':=(HMc.out w5 HSt5.out.hb).1;clear hto5 hb5))
      obtain ⟨sa,hsa,t0,t1⟩:=row_ty HSt5.out.ts.1 (i:=0) (by omega)
      obtain ⟨wa,hwa,u0,u1⟩:=row_ty HTo5.out.1 (i:=0) (by rw [HRl.out];decide)
      rw [Nat.zero_mul,show sa.add 0=sa from by simp [Addr.add],HT1.out] at t0 t1
      rw [Nat.zero_mul,show wa.add 0=wa from by simp [Addr.add],HR0.out] at u0 u1
      dsimp only [List.getD_cons_zero] at t0 t1 u0 u1
      rw [hsa] at k5'
      rw [hwa]
      have g0:=HX5.out.cell 0 (v:=.slice h.co m.cl.length h.cc) rfl
      have g1:=HX5.out.cell 1 (v:=.slice h.so m.st.length h.sc) rfl
      have g2:w5.cell? ⟨w.heap.size,2,none⟩=some (.slice h.eo m.me.length h.ec):=HX5.out.cell 2 rfl
      have g3:=HX5.out.cell 3 (v:=.int .i64 m.sel) rfl
      have hS:∀ w',Below w5.heap.size w5 w'→(fun w':World=>w'.cell? ⟨w.heap.size,0,none⟩=some (.slice h.co m.cl.length h.cc)∧w'.cell? ⟨w.heap.size,1,none⟩=some (.slice h.so m.st.length h.sc)∧w'.cell? ⟨w.heap.size,2,none⟩=some (.slice h.eo m.me.length h.ec)∧w'.cell? ⟨w.heap.size,3,none⟩=some (.int .i64 m.sel)∧w'.cell? ⟨K,5,none⟩=some (.slice (some sa) s.stk.length ssc)∧w'.cell? sa=some (.int .i64 tk)∧w'.cell? ⟨sa.block,sa.off+1,none⟩=some (.int .i64 tq)∧w'.cell? wa=some (.int .i64 rk)∧w'.cell? ⟨wa.block,wa.off+1,none⟩=some (.int .i64 rq)) w':=fun w' hb'=>⟨(hb'.cell (cell_lt g0)).trans g0,(hb'.cell (cell_lt g1)).trans g1,(hb'.cell (cell_lt g2)).trans g2,(hb'.cell (cell_lt g3)).trans g3,(hb'.cell (cell_lt k5')).trans k5',(hb'.cell (cell_lt t0)).trans t0,(hb'.cell (p:=⟨sa.block,sa.off+1,none⟩) (cell_lt t1)).trans t1,(hb'.cell (cell_lt u0)).trans u0,(hb'.cell (p:=⟨wa.block,wa.off+1,none⟩) (cell_lt u1)).trans u1⟩
      have HS:=Lib.hid hS
      have HFi:=Lib.hid (show ∀ w',Below w5.heap.size w5 w'→Calls Tryz.prog 133 #[.agg #[.slice h.co m.cl.length h.cc,.slice h.so m.st.length h.sc,.slice h.eo m.me.length h.ec,.int .i64 m.sel],.agg #[.int .i64 tk,.int .i64 tq],.agg #[.int .i64 rk,.int .i64 rq]] w' (Ret w' (.bool true)) from fun w' hb'=>by have:=fits_any m h ⟨tk,tq⟩ ⟨rk,rq⟩ w' (HHM.out.old (bthen HSt5.out.hb hb'));rw [HFt.out] at this;exact this)
      clear hS hsa hwa t0 t1 u0 u1 g0 g1 g2 g3 k5'
      refine rO (fun w':World=>w'.cell? ⟨w.heap.size,0,none⟩=some (.slice h.co m.cl.length h.cc)∧w'.cell? ⟨w.heap.size,1,none⟩=some (.slice h.so m.st.length h.sc)∧w'.cell? ⟨w.heap.size,2,none⟩=some (.slice h.eo m.me.length h.ec)∧w'.cell? ⟨w.heap.size,3,none⟩=some (.int .i64 m.sel)∧w'.cell? ⟨K,5,none⟩=some (.slice (some sa) s.stk.length ssc)∧w'.cell? sa=some (.int .i64 tk)∧w'.cell? ⟨sa.block,sa.off+1,none⟩=some (.int .i64 tq)∧w'.cell? wa=some (.int .i64 rk)∧w'.cell? ⟨wa.block,wa.off+1,none⟩=some (.int .i64 rq)) (oL [0,1,2,3,4,5,6,7,8,9,10,11,12,13,114,15,16]) (HS.out _ bE) ?_
      repeat refine pO ?_
      refine oO fun Kv hK=>?_
      go_simp
      refine (HFi.out _ bE).mono ?_
      rintro r w6 ⟨rfl,hb6⟩
      have HB6:=Lib.hid (show Below w5.heap.size w5 w6 from bthen (show Below w5.heap.size w5 w5.drew by exact bE) hb6)
      refine hK _ _ ⟨HS.out _ HB6.out,?_⟩
      clear hK Kv hb6
      repeat refine pO ?_
      refine wpMixO_done ?_
      go_wp2
      go_ret3
      rw [HPe.out]
      exact ⟨⟨ao2,cap2,rows++[⟨to',s.stk.length,tc⟩],by simp,HS5.out.old HB6.out⟩,bthen HSt5.out.hb HB6.out⟩
    ·have HRl:=Lib.hid (show (resL ⟨rk,rq⟩).length=1 from by unfold resL;rw [if_neg hrk];rfl)
     have hcmp:((s.stk.length:Int) == 1)=false:=by simp;omega
     have HPe:=Lib.hid (show passV m kk=([],nc,12) from by rw [HPv2.out,endedV_len hrk hsn];rfl)
     exact k7
end
section
open Go.RowKit
theorem r6SameTypes_any (a b:List Ty) (ao bo:Option Addr) (ac bc:Nat) (w:World) (ha:RowAt w ao ac a) (hb:RowAt w bo bc b) (hm:a.length≤1000000):Calls Tryz.prog 250 #[.slice ao a.length ac,.slice bo b.length bc] w (Ret w (.bool (decide (a=b)))):=by
 by_cases hlen:a.length=b.length
 · have HA:=Lib.hid ha
   have HB:=Lib.hid hb
   have HLn:=Lib.hid hlen
   have hb3:((a.length:Int) != b.length)=false:=by simp [hlen]
   clear ha hb hlen
   go_enter Tryz.func250,Tryz.ntmps250
   go_wp2
   go_loopw [5] (fun i wr=>∃ k:Nat,k≤a.length∧i=.int .i64 k∧Below w.heap.size w wr∧Hid (∀ i,i<k→a.getD i default=b.getD i default)) (fun i _=>a.length-(intOf i).toNat)
   case atStart=>exact ⟨0,by omega,rfl,Below.refl _ _,Lib.hid (by omega)⟩
   case round=>
     obtain ⟨k,hk,rfl,hbel,q1⟩:=hrel
     have HL:=Lib.hid hbel
     clear hbel
     by_cases hkl:k<a.length
     · obtain ⟨ad,rfl,x0,x1⟩:=row_ty (HA.out.old HL.out) hkl
       obtain ⟨bd,rfl,y0,y1⟩:=row_ty (HB.out.old HL.out) (i:=k) (by have:=HLn.out;omega)
       have hkb:(k:Int) < b.length:=by have:=HLn.out;omega
       have hka:(k:Int) < a.length:=by omega
       have hwr:IntKind.i64.wrap ((k:Int)+1)=k+1:=IntWalk.i64_in _ (by omega)
       generalize hx:a.getD k default=x at x0 x1
       generalize hy:b.getD k default=y at y0 y1
       have HX:=Lib.hid hx
       have HY:=Lib.hid hy
       clear hx hy
       have hne:=neqTy
       have hgu:=guardTy
       obtain ⟨xk,xc⟩:=x
       obtain ⟨yk,yc⟩:=y
       dsimp only at x0 x1 y0 y1
       go_wp2
       go_quiet (fail)
       go_wp2
       all_goals first
         | (go_ret
            have hh:¬ ((⟨xk,xc⟩:Ty)=⟨yk,yc⟩):=by simp only [Ty.mk.injEq];grind
            exact ret_ok (bool_eq (decide_eq_false (eqTyR_no (k:=k) (by rw [HX.out,HY.out];exact hh))).symm) (bdrewN HL.out _))
         | (go_roundw
            case rel=>
              refine ⟨k+1,by omega,by go_num,bdrewN HL.out _,Lib.hid fun i hi=>?_⟩
              by_cases hik:i<k
              · exact q1.out i hik
              · obtain rfl:i=k:=by omega
                rw [HX.out,HY.out,Ty.mk.injEq]
                grind
            case measure=>simp [intOf];omega)
     · go_wp2
       go_ret
       exact ret_ok (bool_eq (decide_eq_true (eqTyR_ok HLn.out fun i hi=>q1.out i (by omega))).symm) HL.out
 · have hb3:((a.length:Int) != b.length)=true:=by simp;omega
   go_enter Tryz.func250,Tryz.ntmps250
   go_wp2
   go_ret
   exact ret_ok (bool_eq (decide_eq_false fun e=>hlen (by rw [e])).symm) bE
theorem r6Above_any (m:Md) (h:Hd) (a b:Int) (w:World) (H:ModAt w h m) (ha:a<m.cl.length) (hb:0≤b) (hd:Desc m m.cl.length):Calls Tryz.prog 256 #[.agg #[.slice h.co m.cl.length h.cc,.slice h.so m.st.length h.sc,.slice h.eo m.me.length h.ec,.int .i64 m.sel],.int .i64 a,.int .i64 b] w (Ret w (.bool (aboveV m (a.toNat+1) a b))):=by
 obtain ⟨q,hq⟩:∃ q,q=aboveV m (a.toNat+1) a b:=⟨_,rfl⟩
 rw [←hq]
 have HQ:=Lib.hid hq
 clear hq
 have hbel:=(Below.refl w.heap.size w).alloc (Nat.le_refl _) (.cells #[.slice h.co m.cl.length h.cc,.slice h.so m.st.length h.sc,.slice h.eo m.me.length h.ec,.int .i64 m.sel] 26)
 have HM1:=Lib.hid (H.old hbel)
 have HD:=Lib.hid hd
 clear H hd
 obtain ⟨co,cc,so,sc,eo,ec,hc,he⟩:=h;dsimp only
 dsimp only at HM1 hbel
 go_enter Tryz.func256,Tryz.ntmps256
 go_upto_region 1 with fail
 go_loop [1] (fun x=>∃ (k:Int),x=.int .i64 k∧k≤a∧aboveV m (k.toNat+1) k b=q) (fun x=>((intOf x)+1).toNat)
 case atStart=>exact ⟨a,rfl,by omega,HQ.out.symm⟩
 case round=>
  obtain ⟨k,rfl,hka,hkq⟩:=hrel
  have HK:=Lib.hid hkq
  clear hkq
  by_cases hk0:0≤k
  ·have hk1:k ≥ 0:=hk0
   obtain ⟨c,rfl⟩:∃ c:Nat,k=c:=⟨k.toNat,by omega⟩
   have hcl:(c:Int) < m.cl.length:=by omega
   obtain ⟨ad,hco,e0,e1,e2,e3⟩:=HM1.out.cls (i:=c) (by omega)
   dsimp only at hco
   subst hco
   clear e0 e2 e3
   have hs:=HD.out c (by omega) (by omega)
   have hs':m.sup c=(m.cl.getD c default).sup:=rfl
   generalize (m.cl.getD c default).sup=s at e1 hs'
   have HS:=Lib.hid hs'
   clear hs'
   rw [HS.out] at hs
   by_cases hcb:(c:Int)=b
   ·subst hcb
    go_wp2
    go_ret
    refine ret_ok (bool_eq ?_) bE
    have h1:=HK.out
    rw [aboveV,if_neg (by omega)] at h1
    rw [←h1];simp
   ·have hcb2:((c:Int) == b)=false:=by simp;omega
    go_wp2
    go_round
    case rel=>
     refine ⟨s,rfl,by omega,?_⟩
     have h1:=HK.out
     rw [aboveV] at h1
     rw [←h1]
     by_cases hlt:b<(c:Int)
     ·rw [if_pos hlt,HS.out]
      exact aboveV_fuel HD.out hb (by omega) (fun _=>by omega) (fun _=>by omega)
     ·rw [if_neg hlt,aboveV_lt (by omega)]
      simp;omega
    case measure=>simp [intOf];omega
  ·have hk1:¬ k ≥ 0:=hk0
   go_wp2
   go_ret
   refine ret_ok (bool_eq ?_) bE
   rw [←HK.out,aboveV_lt (by omega)]
theorem r6Fits_any (m:Md) (h:Hd) (t u:Ty) (w:World) (H:ModAt w h m) (ht:t.k=2→0≤t.c∧t.c<m.cl.length) (hu:u.k=2→0≤u.c) (hd:Desc m m.cl.length):Calls Tryz.prog 239 #[.agg #[.slice h.co m.cl.length h.cc,.slice h.so m.st.length h.sc,.slice h.eo m.me.length h.ec,.int .i64 m.sel],.agg #[.int .i64 t.k,.int .i64 t.c],.agg #[.int .i64 u.k,.int .i64 u.c]] w (Ret w (.bool (fitsV m t u))):=by
 obtain ⟨tk,tc⟩:=t
 obtain ⟨uk,uc⟩:=u
 dsimp only at ht hu ⊢
 by_cases hb:tk=2∧uk=2
 ·obtain ⟨rfl,rfl⟩:=hb
  have hf:fitsV m ⟨2,tc⟩ ⟨2,uc⟩=aboveV m (tc.toNat+1) tc uc:=by simp [fitsV]
  rw [hf]
  clear hf
  have hA:=fun w' (hb':Below w.heap.size w w')=>r6Above_any m h tc uc w' (H.old hb') (ht rfl).2 (hu rfl) hd
  generalize aboveV m (tc.toNat+1) tc uc=q at hA ⊢
  have HA:=Lib.hid hA
  clear hA H ht hu hd
  go_enter Tryz.func239,Tryz.ntmps239
  go_wp2_with (go_at_call 256;refine (HA.out _ bE).mono ?_;rintro e w1 ⟨rfl,hb1⟩)
  go_ret
  exact ret_ok rfl bE
 ·have hf:fitsV m ⟨tk,tc⟩ ⟨uk,uc⟩=(decide (tk=uk)&&decide (tc=uc)):=by unfold fitsV;rw [if_neg hb,ty_eq]
  rw [hf]
  have heq:=eqlTy
  have hgu:=guardTy
  clear hf H ht hu hd
  by_cases h1:tk=2
  ·have h2:(uk == 2)=false:=by simp;omega
   have h3:(tk == 2)=true:=by simp [h1]
   have H1:=Lib.hid h1
   clear h1 hb
   go_enter Tryz.func239,Tryz.ntmps239
   go_wp2
   go_ret
   exact ret_ok rfl bE
  ·have h3:(tk == 2)=false:=by simp;omega
   clear h1 hb
   go_enter Tryz.func239,Tryz.ntmps239
   go_wp2
   go_ret
   exact ret_ok rfl bE
theorem copied_any (W:World) (ao:Option Addr) (cap:Nat) (l:List Ty) (h:RowAt W ao cap l) (hl:l.length≤1000000) :
    Calls Tryz.prog 192 #[.slice ao l.length cap] W (RetOwn 35 W l):=by
 have HH:=Lib.hid h
 have HO:=Lib.hid (World.ownsRow_made (e:=35) (size:=2) W #[] 0 (Nat.le_refl _) (by decide) rfl)
 clear h
 go_enter Tryz.func192,Tryz.ntmps192
 go_wp2_with (first
   | (at_builtin;refine wpList_append_sl rfl (.tmp 3) (.tmp 4) 23 rfl W.heap.size 35 2 16 elTyV (.slice (some ⟨W.heap.size,0,none⟩) 0 0) 0 [] rfl HO.out ao l.length cap (flatR l) rfl (SlA.alloc (w:=W) HH.out _) (flatR_oneC l) (by omega) (by unfold maxLen;omega) (by simp) ?_
      intro ao1 cap1 w1 hown hg
      simp only [Nat.zero_add,List.nil_append] at hown ⊢
      have hb:=((Below.refl W.heap.size W).alloc (Nat.le_refl _) (.cells #[] 35)).grown hg (by simp) (by intro k hk;simp [Value.ownBlock] at hk;omega)
      have HR:=Lib.hid (And.intro hown hb)
      clear hown hg hb))
 go_ret
 exact ⟨⟨ao1,cap1,rfl,HR.out.1⟩,HR.out.2⟩
end
section
open Go.RowKit
def Pk (w:World) (K:Nat) (h:Hd) (m:Md) (L S O:Value):Prop:=Blk w K #[.slice h.co m.cl.length h.cc,.slice h.so m.st.length h.sc,.slice h.eo m.me.length h.ec,.int .i64 m.sel,L,S,O] 201
theorem Pk.cells {w:World}{K:Nat}{h:Hd}{m:Md}{L S O:Value} (H:Pk w K h m L S O):K<w.heap.size∧w.cell? ⟨K,0,none⟩=some (.slice h.co m.cl.length h.cc)∧w.cell? ⟨K,1,none⟩=some (.slice h.so m.st.length h.sc)∧w.cell? ⟨K,2,none⟩=some (.slice h.eo m.me.length h.ec)∧w.cell? ⟨K,3,none⟩=some (.int .i64 m.sel)∧w.cell? ⟨K,4,none⟩=some L:=
 ⟨Blk.lt H,Blk.cell H 0 rfl,Blk.cell H 1 rfl,Blk.cell H 2 rfl,Blk.cell H 3 rfl,Blk.cell H 4 rfl⟩
theorem cell_bel {w w':World} (hb:Below w.heap.size w w') {p:Addr}{v:Value} (hc:w.cell? p=some v):w'.cell? p=some v:=(hb.cell (cell_lt hc)).trans hc
theorem blk4 {w:World}{K:Nat}{h:Hd}{m:Md}{t:TypeId} (H:Blk w K #[.slice h.co m.cl.length h.cc,.slice h.so m.st.length h.sc,.slice h.eo m.me.length h.ec,.int .i64 m.sel] t):w.cell? ⟨K,0,none⟩=some (.slice h.co m.cl.length h.cc)∧w.cell? ⟨K,1,none⟩=some (.slice h.so m.st.length h.sc)∧w.cell? ⟨K,2,none⟩=some (.slice h.eo m.me.length h.ec)∧w.cell? ⟨K,3,none⟩=some (.int .i64 m.sel):=
 ⟨H.cell 0 rfl,H.cell 1 rfl,H.cell 2 rfl,H.cell 3 rfl⟩
theorem blk2 {w:World}{K:Nat}{a b:Int}{t:TypeId} (H:Blk w K #[.int .i64 a,.int .i64 b] t):w.cell? ⟨K,0,none⟩=some (.int .i64 a)∧w.cell? ⟨K,1,none⟩=some (.int .i64 b):=⟨H.cell 0 rfl,H.cell 1 rfl⟩
def RetP (W:World) (q:Option Ty):Ending→World→Prop:=fun e w'=>∃ t:Ty,e=.returned (.tuple #[.agg #[.int .i64 t.k,.int .i64 t.c],.bool q.isSome])∧(∀ u,q=some u→t=u)∧Below W.heap.size W w'
theorem retP {W w':World}{q:Option Ty}{x y:Int}{b:Bool} (hb:b=q.isSome) (ht:∀ u,q=some u→(⟨x,y⟩:Ty)=u) (h:Below W.heap.size W w'):RetP W q (.returned (.tuple #[.agg #[.int .i64 x,.int .i64 y],.bool b])) w':=⟨⟨x,y⟩,by rw [hb],ht,h⟩
theorem cell_keep {w W1 w':World}{rb:Nat} (hb:Below w.heap.size w W1) (hrb:w.heap.size≤rb) (hu:Upd rb rb W1 w') {p:Addr}{v:Value} (hc:w.cell? p=some v):w'.cell? p=some v:=
 hu.cell ((hb.cell (cell_lt hc)).trans hc) (by have:=cell_lt hc;omega) (by have:=cell_lt hc;omega)
theorem integer_any (w:World):Calls Tryz.prog 253 #[] w (Ret w (.agg #[.int .i64 1,.int .i64 0])):=by
 go_enter Tryz.func253,Tryz.ntmps253
 go_wp2
 exact bodyPost_ret (v:=.agg #[.int .i64 1,.int .i64 0]) (by simp [results,Tryz.results253,go_sem]) rfl ⟨rfl,by exact bE⟩
theorem row1 {w:World}{la:Option Addr}{lcap:Nat}{a:Ty} (hr:RowAt w la lcap ([a]:List Ty)):∃ ad,la=some ad∧w.cell? ad=some (.int .i64 a.k)∧w.cell? ⟨ad.block,ad.off+1,none⟩=some (.int .i64 a.c):=by
 obtain ⟨ad,hla,a0,a1⟩:=row_ty hr (i:=0) (by simp)
 simp only [Nat.zero_mul,List.getD_cons_zero,show ad.add 0=ad from by simp [Addr.add]] at a0 a1
 exact ⟨ad,hla,a0,a1⟩
theorem row2 {w:World}{la:Option Addr}{lcap:Nat}{a b:Ty} (hr:RowAt w la lcap ([a,b]:List Ty)):∃ ad,la=some ad∧w.cell? ad=some (.int .i64 a.k)∧w.cell? ⟨ad.block,ad.off+1,none⟩=some (.int .i64 a.c)∧w.cell? ⟨ad.block,ad.off+2,none⟩=some (.int .i64 b.k)∧w.cell? ⟨ad.block,ad.off+3,none⟩=some (.int .i64 b.c):=by
 obtain ⟨ad,hla,a0,a1⟩:=row_ty hr (i:=0) (by simp)
 obtain ⟨ad1,hla1,b0,b1⟩:=row_ty hr (i:=1) (by simp)
 rw [hla] at hla1
 cases hla1
 simp only [Nat.zero_mul,List.getD_cons_zero,show ad.add 0=ad from by simp [Addr.add]] at a0 a1
 exact ⟨ad,hla,a0,a1,b0,b1⟩
theorem row3 {w:World}{la:Option Addr}{lcap:Nat}{a b d:Ty} (hr:RowAt w la lcap ([a,b,d]:List Ty)):∃ ad,la=some ad∧w.cell? ad=some (.int .i64 a.k)∧w.cell? ⟨ad.block,ad.off+1,none⟩=some (.int .i64 a.c)∧w.cell? ⟨ad.block,ad.off+2,none⟩=some (.int .i64 b.k)∧w.cell? ⟨ad.block,ad.off+3,none⟩=some (.int .i64 b.c)∧w.cell? ⟨ad.block,ad.off+4,none⟩=some (.int .i64 d.k)∧w.cell? ⟨ad.block,ad.off+5,none⟩=some (.int .i64 d.c):=by
 obtain ⟨ad,hla,a0,a1⟩:=row_ty hr (i:=0) (by simp)
 obtain ⟨ad1,hla1,b0,b1⟩:=row_ty hr (i:=1) (by simp)
 obtain ⟨ad2,hla2,d0,d1⟩:=row_ty hr (i:=2) (by simp)
 rw [hla] at hla1 hla2
 cases hla1
 cases hla2
 simp only [Nat.zero_mul,List.getD_cons_zero,show ad.add 0=ad from by simp [Addr.add]] at a0 a1
 exact ⟨ad,hla,a0,a1,b0,b1,d0,d1⟩
def Keep (S:World→Prop) (r:Nat) (W1:World):Prop:=∀ w',Upd r r W1 w'→S w'
theorem cs_keep {w W1 w':World}{rb:Nat} (hb:Below w.heap.size w W1) (hrb:w.heap.size≤rb) (hu:Upd rb rb W1 w'):∀ {l:List (Addr × Value)},Cs l w→Cs l w'
 | [],_=>trivial
 | (_,_) :: _,h=>⟨cell_keep hb hrb hu h.1,cs_keep hb hrb hu h.2⟩
theorem boxP (w:World) (op ia ib:Int) {l:List (Addr × Value)} (h:Cs l w):∃ W1,RowKit.Hid (W1=((w.alloc (.cells #[.int .i64 op,.int .i64 ia,.int .i64 ib] 42)).alloc (.cells #[.int .i64 0,.int .i64 0] 35)))∧RowKit.Hid (Below w.heap.size w W1)∧RowKit.Hid (Blk W1 (w.heap.size+1) #[.int .i64 0,.int .i64 0] 35) ∧
  RowKit.Hid (Keep (fun w'=>Cs l w'∧Cs [(⟨w.heap.size,0,none⟩,.int .i64 op),(⟨w.heap.size,1,none⟩,.int .i64 ia),(⟨w.heap.size,2,none⟩,.int .i64 ib)] w') (w.heap.size+1) W1)∧w.heap.size+1<W1.heap.size:=by
 obtain ⟨W1,hW1⟩:∃ W1,W1=((w.alloc (.cells #[.int .i64 op,.int .i64 ia,.int .i64 ib] 42)).alloc (.cells #[.int .i64 0,.int .i64 0] 35)):=⟨_,rfl⟩
 have hb1:Below w.heap.size w W1:=by rw [hW1];exact bE
 have hbi:Blk W1 w.heap.size #[.int .i64 op,.int .i64 ia,.int .i64 ib] 42:=by rw [hW1];exact ((Blk.new w _ _).alloc _)
 have hbr:Blk W1 (w.heap.size+1) #[.int .i64 0,.int .i64 0] 35:=by rw [hW1];exact (Blk.new' (w:=w.alloc (.cells #[.int .i64 op,.int .i64 ia,.int .i64 ib] 42)) _ _ (by simp))
 exact ⟨W1,hW1,hb1,hbr,fun w' hu=>⟨cs_keep hb1 (Nat.le_succ _) hu h,hu.cell (hbi.cell 0 rfl) (by show w.heap.size≠_;omega) (by show w.heap.size≠_;omega),hu.cell (hbi.cell 1 rfl) (by show w.heap.size≠_;omega) (by show w.heap.size≠_;omega),hu.cell (hbi.cell 2 rfl) (by show w.heap.size≠_;omega) (by show w.heap.size≠_;omega),trivial⟩,hbr.lt⟩
theorem boxR (w:World) (op ia ib tk tc:Int) {l:List (Addr × Value)} (h:Cs l w):∃ W1,RowKit.Hid (W1=((w.alloc (.cells #[.int .i64 op,.int .i64 ia,.int .i64 ib] 42)).alloc (.cells #[.int .i64 0,.int .i64 0] 35)).alloc (.cells #[.int .i64 tk,.int .i64 tc] 35))∧RowKit.Hid (Below w.heap.size w W1)∧RowKit.Hid (Blk W1 (w.heap.size+1) #[.int .i64 0,.int .i64 0] 35)∧RowKit.Hid (Blk W1 (w.heap.size+2) #[.int .i64 tk,.int .i64 tc] 35)∧RowKit.Hid (Blk W1 w.heap.size #[.int .i64 op,.int .i64 ia,.int .i64 ib] 42) ∧
  RowKit.Hid (Keep (fun w'=>Cs l w'∧Cs [(⟨w.heap.size+2,0,none⟩,.int .i64 tk),(⟨w.heap.size+2,1,none⟩,.int .i64 tc),(⟨w.heap.size,0,none⟩,.int .i64 op),(⟨w.heap.size,1,none⟩,.int .i64 ia),(⟨w.heap.size,2,none⟩,.int .i64 ib)] w') (w.heap.size+1) W1)∧w.heap.size+1<W1.heap.size:=by
 obtain ⟨W1,hW1⟩:∃ W1,W1=((w.alloc (.cells #[.int .i64 op,.int .i64 ia,.int .i64 ib] 42)).alloc (.cells #[.int .i64 0,.int .i64 0] 35)).alloc (.cells #[.int .i64 tk,.int .i64 tc] 35):=⟨_,rfl⟩
 have hb1:Below w.heap.size w W1:=by rw [hW1];exact bE
 have hbi:Blk W1 w.heap.size #[.int .i64 op,.int .i64 ia,.int .i64 ib] 42:=by rw [hW1];exact ((Blk.new w _ _).alloc _).alloc _
 have hbr:Blk W1 (w.heap.size+1) #[.int .i64 0,.int .i64 0] 35:=by rw [hW1];exact (Blk.new' (w:=w.alloc (.cells #[.int .i64 op,.int .i64 ia,.int .i64 ib] 42)) _ _ (by simp)).alloc _
 have hbt:Blk W1 (w.heap.size+2) #[.int .i64 tk,.int .i64 tc] 35:=by rw [hW1];exact Blk.new' (w:=(w.alloc (.cells #[.int .i64 op,.int .i64 ia,.int .i64 ib] 42)).alloc (.cells #[.int .i64 0,.int .i64 0] 35)) _ _ (by simp)
 exact ⟨W1,hW1,hb1,hbr,hbt,hbi,fun w' hu=>⟨cs_keep hb1 (Nat.le_succ _) hu h,hu.cell (hbt.cell 0 rfl) (by show w.heap.size+2≠_;omega) (by show w.heap.size+2≠_;omega),hu.cell (hbt.cell 1 rfl) (by show w.heap.size+2≠_;omega) (by show w.heap.size+2≠_;omega),hu.cell (hbi.cell 0 rfl) (by show w.heap.size≠_;omega) (by show w.heap.size≠_;omega),hu.cell (hbi.cell 1 rfl) (by show w.heap.size≠_;omega) (by show w.heap.size≠_;omega),hu.cell (hbi.cell 2 rfl) (by show w.heap.size≠_;omega) (by show w.heap.size≠_;omega),trivial⟩,hbr.lt⟩
theorem keep2 {S:World→Prop}{r b:Nat}{W1 w2:World} (HS:Keep S r W1) (hu:Upd r r W1 w2) {tk tc:Int}{t:TypeId} (hx:Blk w2 b #[.int .i64 tk,.int .i64 tc] t) (hb:b≠r):Keep (fun w'=>S w'∧Cs [(⟨b,0,none⟩,.int .i64 tk),(⟨b,1,none⟩,.int .i64 tc)] w') r w2:=
 fun w' hu'=>⟨HS w' (hu.trans hu'),hu'.cell (hx.cell 0 rfl) hb hb,hu'.cell (hx.cell 1 rfl) hb hb,trivial⟩
theorem kO {P:Program}{S:World→Prop}{Q:Exit→Act→World→Prop}{id r:Nat}{a:Act}{W1 w:World}{l:List Oper} (HS:Keep S r W1) (t:Ord) (hu:Upd r r W1 w.drew) (h:wpMixO P l Q S t a w.drew) (hm:P.follows .mixedOrders=true:=by kernel_rfl)
  (hB:(Region.noSelect l.toArray&&decide (t.len=l.length)&&t.inB l.length&&lexO .any l.toArray t (Array.replicate l.length false))=true:=by kernel_rfl) (hQ:∀ c a d v w,Q (.panic c) (Act.put a d v) w→Q (.panic c) a w:=by intro c a d v w h;cases d<;>exact h):(Code.region id l.toArray true).wp P Q a w:=wp_mixO S t hm hB hQ (HS _ hu) h
theorem sO {P:Program}{S:World→Prop}{Q:Exit→Act→World→Prop}{l:List Oper}{k:Nat}{t:Ord}{a a':Act}{w:World} (d:Tmp) (hS:S w) (h:wpMixO P l Q S t a' w) (hs:(l.toArray[k]?.map fun o=>(o.dst,Region.wanted o (yielded l.toArray a.tmps)))=some (some d,false):=by rfl)
  (ha:({ a with tmps:=a.tmps.setIfInBounds d undef }:Act)=a':=by ((try simp only [List.setIfInBounds_toArray,List.set_cons_zero,List.set_cons_succ]);rfl)):wpMixO P l Q S (.one k t) a w:=by
 subst ha
 exact wpMixO_one (wpOp_skipD d hs ⟨hS,h⟩)
theorem blk00 {w:World}{b:Nat}{t:TypeId} (H:Blk w b #[.int .i64 0,.int .i64 0] t):w.cell? ⟨b,0,none⟩=some (.int .i64 0)∧w.cell? ⟨b,1,none⟩=some (.int .i64 0)∧w.frozen? ⟨b,0,none⟩=false∧w.frozen? ⟨b,1,none⟩=false:=⟨H.cell 0 rfl,H.cell 1 rfl,H.frozen 0,H.frozen 1⟩
theorem bset2 {w W1 w':World} (hb:Below w.heap.size w W1) (hb':Below W1.heap.size W1 w') {v u:Value}:Below w.heap.size w ((w'.setCell ⟨w.heap.size+1,0,none⟩ v).setCell ⟨w.heap.size+1,1,none⟩ u):=bsetV (bsetV (bthen hb hb') (Nat.le_succ _) _) (Nat.le_succ _) _
theorem retS {W w':World}{q:Option Ty}{x y:Int} (h:q=some ⟨x,y⟩) (hb:Below W.heap.size W w'):RetP W q (.returned (.tuple #[.agg #[.int .i64 x,.int .i64 y],.bool true])) w':=retP (by rw [h];rfl) (fun u hu=>Option.some.inj (h.symm.trans hu)) hb
theorem retN {W w':World}{q:Option Ty}{x y:Int} (h:q=none) (hb:Below W.heap.size W w'):RetP W q (.returned (.tuple #[.agg #[.int .i64 x,.int .i64 y],.bool false])) w':=retP (by rw [h];rfl) (fun u hu=>by rw [h] at hu;cases hu) hb
theorem isSome_ite {c:Bool}{t:Ty}:c=(if c=true then some t else none).isSome:=by cases c<;>rfl
theorem ite_eq_some {c:Bool}{t u:Ty} (h:(if c=true then some t else none)=some u):t=u:=by cases c<;>simp_all
theorem retI {W w':World}{q:Option Ty}{x y:Int}{b c:Bool} (h:q=if c=true then some ⟨x,y⟩ else none) (hc:b=c) (hb:Below W.heap.size W w'):RetP W q (.returned (.tuple #[.agg #[.int .i64 x,.int .i64 y],.bool b])) w':=retP (by rw [h,hc];exact isSome_ite) (fun u hu=>ite_eq_some (h.symm.trans hu)) hb
end
section
open Go.RowKit
theorem RowAt.alloc {α:Type} [Cells α] {w:World}{ao:Option Addr}{cap:Nat}{l:List α} (h:RowAt w ao cap l) (o:Obj):RowAt (w.alloc o) ao cap l:=h.old ((Below.refl _ _).alloc (Nat.le_refl _) o)
theorem row_built {α:Type} [Cells α] (W:World) (l:List α) (xs:Array Value) (e:TypeId) (hx:xs=(flatR l).toArray):RowAt (W.alloc (.cells xs e)) (some ⟨W.heap.size,0,none⟩) l.length l:=by
 have h:=sla_builtV W xs e (n:=l.length) (size:=Cells.n α) (by rw [hx];simp [flatR_length])
 rw [hx] at h ⊢
 simpa [RowAt] using h
def saneM:Md:=⟨[],[],[⟨⟨#[]⟩,-1,[],[],⟨1,0⟩,[⟨1,1,0⟩,⟨1,2,0⟩,⟨6,0,0⟩]⟩,⟨⟨#[]⟩,-1,[],[⟨1,0⟩],⟨0,0⟩,[⟨2,0,0⟩,⟨6,0,0⟩]⟩],0⟩
def saneH (b:Nat):Hd:=⟨none,0,none,0,some ⟨b+1+1+1+1,0,none⟩,2,fun _=>default,fun i=>if i=0 then ⟨none,0,none,0,some ⟨b+1,0,none⟩,3⟩ else ⟨none,0,some ⟨b+1+1,0,none⟩,1,some ⟨b+1+1+1,0,none⟩,2⟩⟩
theorem sane_0:methodV saneM 0=([[],[tInt],[tInt,tInt],[tInt]],0,0):=by kernel_rfl
theorem sane_1:methodV saneM 1=([],1,12):=by kernel_rfl
theorem bls (w:World) (o:Obj):(w.alloc o).heap.size=w.heap.size+1:=by simp
theorem row_sh {w:World}{ao:Option Addr}{cap:Nat}{l:List SH} (h:RowAt w ao cap l) {i:Nat} (hi:i<l.length):∃ ad,ao=some ad∧w.cell? (ad.add i)=some (.slice (l.getD i default).ao (l.getD i default).n (l.getD i default).c):=by
 obtain ⟨ad,rfl⟩:=h.some (by omega)
 have hx:l.getD i default=l[i]:=by simp [hi]
 rw [hx]
 have:=h.cell hi 0 (v:=.slice l[i].ao l[i].n l[i].c) rfl
 rw [show i*Cells.n SH=i from Nat.mul_one i] at this
 exact ⟨ad,rfl,this⟩
theorem lt_two {i:Nat} (h:i<2):i=0∨i=1:=by omega
theorem sane_at (W:World) (e0 e1 e2 e3 e4 e5:TypeId) (x5:Array Value):ModAt ((((((W.alloc (.cells #[.int .i64 1,.int .i64 0] e0)).alloc (.cells #[.int .i64 1,.int .i64 1,.int .i64 0,.int .i64 1,.int .i64 2,.int .i64 0,.int .i64 6,.int .i64 0,.int .i64 0] e1)).alloc (.cells #[.int .i64 1,.int .i64 0] e2)).alloc
  (.cells #[.int .i64 2,.int .i64 0,.int .i64 0,.int .i64 6,.int .i64 0,.int .i64 0] e3)).alloc (.cells #[.string ⟨#[]⟩,.int .i64 (-1),.slice none 0 0,.slice none 0 0,.int .i64 1,.int .i64 0,.slice (some ⟨W.heap.size+1,0,none⟩) 3 3,.string ⟨#[]⟩,.int .i64 (-1),.slice none 0 0,.slice (some ⟨W.heap.size+1+1,0,none⟩) 1 1,.int .i64 0,.int .i64 0,.slice (some ⟨W.heap.size+1+1+1,0,none⟩) 2 2] e4)).alloc (.cells x5 e5)) (saneH W.heap.size) saneM:=by
 have r1:=row_built (W.alloc (.cells #[.int .i64 1,.int .i64 0] e0)) ([⟨1,1,0⟩,⟨1,2,0⟩,⟨6,0,0⟩]:List In3) _ e1 rfl
 have r2:=row_built ((W.alloc (.cells #[.int .i64 1,.int .i64 0] e0)).alloc (.cells #[.int .i64 1,.int .i64 1,.int .i64 0,.int .i64 1,.int .i64 2,.int .i64 0,.int .i64 6,.int .i64 0,.int .i64 0] e1)) ([⟨1,0⟩]:List Ty) _ e2 rfl
 have r3:=row_built (((W.alloc (.cells #[.int .i64 1,.int .i64 0] e0)).alloc (.cells #[.int .i64 1,.int .i64 1,.int .i64 0,.int .i64 1,.int .i64 2,.int .i64 0,.int .i64 6,.int .i64 0,.int .i64 0] e1)).alloc (.cells #[.int .i64 1,.int .i64 0] e2)) ([⟨2,0,0⟩,⟨6,0,0⟩]:List In3) _ e3 rfl
 have r4:=row_built ((((W.alloc (.cells #[.int .i64 1,.int .i64 0] e0)).alloc (.cells #[.int .i64 1,.int .i64 1,.int .i64 0,.int .i64 1,.int .i64 2,.int .i64 0,.int .i64 6,.int .i64 0,.int .i64 0] e1)).alloc (.cells #[.int .i64 1,.int .i64 0] e2)).alloc (.cells #[.int .i64 2,.int .i64 0,.int .i64 0,.int .i64 6,.int .i64 0,.int .i64 0] e3)) (rowsM (saneH W.heap.size) saneM) _ e4 rfl
 rw [bls] at r1
 rw [bls,bls] at r2
 rw [bls,bls,bls] at r3
 rw [bls,bls,bls,bls] at r4
 refine ⟨RowAt.nil _,RowAt.nil _,r4.alloc _,fun i hi=>absurd hi (Nat.not_lt_zero i),fun i hi=>absurd hi (Nat.not_lt_zero i),fun i hi=>?_,fun i hi=>?_,fun i hi=>?_,fun i hi=>absurd hi (Nat.not_lt_zero i),fun i hi=>?_,⟨by decide,by decide,by decide⟩⟩
 ·rcases lt_two hi with rfl|rfl<;>exact RowAt.nil _
 ·rcases lt_two hi with rfl|rfl
  ·exact RowAt.nil _
  ·exact ((r2.alloc _).alloc _).alloc _
 ·rcases lt_two hi with rfl|rfl
  ·exact (((r1.alloc _).alloc _).alloc _).alloc _
  ·exact (r3.alloc _).alloc _
 ·rcases lt_two hi with rfl|rfl<;>exact ⟨by decide,by decide,by decide⟩
end
section
open Go.RowKit
theorem baseB_take {l:List VB}{k:Nat} (hk:k<l.length):baseB (l.take (k+1))=if (l.getD k default).op=33∧(l.getD k default).mid=false then (l.getD k default).bn else baseB (l.take k):=by
 unfold baseB
 rw [take_snocR l k hk,List.reverse_append,List.reverse_singleton,List.singleton_append,List.find?_cons]
 generalize l.getD k default=b
 by_cases h:b.op=33
 ·cases hm:b.mid<;>simp [h]
 ·simp [h]
theorem base6_any (K:Nat) (ao:Option Addr) (cap:Nat) (bs:List VB) (w:World) (hK:w.cell? ⟨K,6,none⟩=some (.slice ao bs.length cap)) (hrow:RowAt w ao cap bs) (hl:bs.length≤1000000) :
  Calls Tryz.prog 237 #[.pointer (some ⟨K,0,none⟩)] w (Ret w (.int .i64 (baseB bs))):=by
 have hkl:=cell_lt hK
 obtain ⟨q,hq⟩:∃ q:Nat,q=baseB bs:=⟨_,rfl⟩
 rw [←hq]
 have HQ:=Lib.hid hq
 have HR:=Lib.hid hrow
 have HL:=Lib.hid hl
 have hw1:IntKind.i64.wrap ((bs.length:Int)-1)=bs.length-1:=IntWalk.i64_in _ (by omega)
 obtain ⟨n,hn⟩:∃ n,n=bs.length:=⟨_,rfl⟩
 rw [←hn] at hK hw1 hl
 have HN:=Lib.hid hn
 clear hq hrow hn
 go_enter Tryz.func237,Tryz.ntmps237
 go_wp2
 go_loop [3] (fun x=>∃ k:Nat,k≤n∧x=.int .i64 ((k:Int)-1)∧baseB (bs.take k)=q) (fun x=>((intOf x)+1).toNat)
 case atStart=>exact ⟨n,Nat.le_refl _,rfl,by rw [HN.out,List.take_length,HQ.out]⟩
 case round=>
  obtain ⟨k,hk,rfl,hkq⟩:=hrel
  have HKQ:=Lib.hid hkq
  clear hkq
  cases k with
  | zero=>
   have h0:=HKQ.out
   rw [List.take_zero] at h0
   have h0':q=0:=h0.symm
   subst h0'
   go_wp2
   go_ret
   exact ret_ok rfl bE
  | succ k=>
   have hkn:(k:Int) < n:=by omega
   obtain ⟨ad,rfl,e0,e1,-,e3⟩:=row_vb HR.out (i:=k) (by have:=HN.out;omega)
   have hb:=baseB_take (l:=bs) (k:=k) (by have:=HN.out;omega)
   rw [HKQ.out] at hb
   generalize bs.getD k default=b at e0 e1 e3 hb
   obtain ⟨op,bo,bn,bc,fo,fn,fc,mid⟩:=b
   dsimp only at e0 e1 e3 hb
   have hkk:(((k+1:Nat):Int)-1)=k:=by omega
   rw [hkk]
   have hw2:IntKind.i64.wrap ((k:Int)-1)=k-1:=IntWalk.i64_in _ (by omega)
   have HB:=Lib.hid hb
   clear hb hkk
   by_cases h33:op=33
   ·subst h33
    cases mid
    ·have hqb:q=bn:=by have:=HB.out;simpa using this
     subst hqb
     go_wp2
     go_ret
     exact ret_ok rfl bE
    ·have hqb:baseB (bs.take k)=q:=by have:=HB.out;simp at this;exact this.symm
     have HQB:=Lib.hid hqb
     clear hqb
     go_wp2
     go_round
     case rel=>exact ⟨k,by omega,rfl,HQB.out⟩
     case measure=>simp [intOf]
   ·have hqb:baseB (bs.take k)=q:=by have:=HB.out;rw [if_neg (by omega)] at this;exact this.symm
    have HQB:=Lib.hid hqb
    have hne:(op == 33)=false:=by simpa using h33
    clear hqb h33
    go_wp2
    go_round
    case rel=>exact ⟨k,by omega,rfl,HQB.out⟩
    case measure=>simp [intOf]
theorem ended6_any {w:World}{K:Nat}{h:Hd}{m:Md}{L O:Value}{so:Option Addr}{sc:Nat}{st:List Ty}{r:Ty} (H:Pk w K h m L (.slice so st.length sc) O) (HM:ModAt w h m) (hs:RowAt w so sc st) (hm:modV m=true) (hst:∀ t∈st,tyOk m t) (hr:r.k≠0→tyOk m r) :
  Calls Tryz.prog 194 #[.pointer (some ⟨K,0,none⟩),.agg #[.int .i64 r.k,.int .i64 r.c]] w (Ret w (.int .i64 (endedV m r st))):=by
 obtain ⟨kl,k0,k1,k2,k3,-⟩:=H.cells
 have k5:w.cell? ⟨K,5,none⟩=some (.slice so st.length sc):=Blk.cell H 5 rfl
 obtain ⟨W1,hW1⟩:∃ W1,W1=w.alloc (.cells #[.int .i64 r.k,.int .i64 r.c] 35):=⟨_,rfl⟩
 have hb1:Below w.heap.size w W1:=by rw [hW1];exact bE
 have hbi:Blk W1 w.heap.size #[.int .i64 r.k,.int .i64 r.c] 35:=by rw [hW1];exact Blk.new w _ _
 have i0:=hbi.cell 0 (v:=.int .i64 r.k) rfl
 have i1:=hbi.cell 1 (v:=.int .i64 r.c) rfl
 obtain ⟨q,hq⟩:∃ q,q=endedV m r st:=⟨_,rfl⟩
 rw [←hq]
 obtain ⟨n,hn⟩:∃ n,n=st.length:=⟨_,rfl⟩
 have HB1:=Lib.hid hb1
 have HW:=Lib.hid hW1
 have HMM:=Lib.hid HM
 by_cases hk:r.k=0
 ·have hwk:(r.k != 0)=false:=by simp [hk]
  by_cases h0:st=[]
  ·obtain rfl:q=0:=by rw [hq];unfold endedV;rw [if_pos hk,if_pos h0]
   rw [h0] at k5
   have hS:∀ w',Below W1.heap.size W1 w'→(fun w':World=>w'.cell? ⟨K,5,none⟩=some (.slice so 0 sc)) w':=fun w' hb=>cell_bel hb (cell_bel hb1 k5)
   have HS:=Lib.hid hS
   have k5':=hS _ (Below.refl _ _)
   clear hS k0 k1 k2 k3 k5 H HM hs hst hr hm hq hbi hb1 hW1 h0 hk hn
   go_enter Tryz.func194,Tryz.ntmps194
   go_upto_region 1 with fail
   rw [←HW.out]
   go_upto_region 6 with fail
   refine rO (fun w':World=>w'.cell? ⟨K,5,none⟩=some (.slice so 0 sc)) (oL [0,1,2,3,4,5,6,7,8,9,10,11,12,13,114,15,16]) (HS.out _ (Below.refl _ _).drew) ?_
   repeat refine pO ?_
   refine wpMixO_one ?_
   refine wpOp_skipD 30 (by rfl) ?_
   refine ⟨HS.out _ (Below.refl _ _).drew,?_⟩
   simp only [List.setIfInBounds_toArray,List.set_cons_zero,List.set_cons_succ]
   repeat refine pO ?_
   refine wpMixO_done ?_
   go_wp2
   go_ret
   exact ret_ok rfl (Below.drew HB1.out)
  ·obtain rfl:q=12:=by rw [hq];unfold endedV;rw [if_pos hk,if_neg h0]
   have hn0:((n:Int) != 0)=true:=by
    cases st with
    | nil=>exact absurd rfl h0
    | cons x y=>rw [hn];simp;omega
   rw [←hn] at k5
   have k5':=cell_bel hb1 k5
   clear k0 k1 k2 k3 k5 H HM hs hst hr hm hq hbi hb1 hW1 h0 hk hn
   exact k84
 ·have hwk:(r.k != 0)=true:=by simpa using hk
  by_cases h1:n=1
  ·obtain ⟨t,rfl⟩:∃ t,st=[t]:=by
    rw [hn] at h1
    exact List.length_eq_one_iff.1 h1
   have hq2:q=if fitsV m t r then 0 else 11:=by rw [hq];unfold endedV;rw [if_neg hk]
   obtain ⟨ad,hla,a0,a1⟩:=row_ty hs (i:=0) (by simp)
   subst hla
   simp only [Nat.zero_mul,List.getD_cons_zero,show ad.add 0=ad from by simp [Addr.add]] at a0 a1
   have hal:=cell_lt a0
   have HF:=Lib.hid (show ∀ w',Below w.heap.size w w'→Calls Tryz.prog 239 #[.agg #[.slice h.co m.cl.length h.cc,.slice h.so m.st.length h.sc,.slice h.eo m.me.length h.ec,.int .i64 m.sel],.agg #[.int .i64 t.k,.int .i64 t.c],.agg #[.int .i64 r.k,.int .i64 r.c]] w' (Ret w' (.bool (fitsV m t r))) from fun w' hb=>r6Fits_any m h t r w' (HM.old hb) (fun q=>ty_cls (hst t (by simp)) (.inl q)) (fun q=>(ty_cls (hr hk) (.inl q)).1) (desc_of (modV_clsN hm)))
   generalize fitsV m t r=f at HF hq2
   obtain ⟨tk,tc⟩:=t
   dsimp only at a0 a1 HF
   have hS:∀ w',Below W1.heap.size W1 w'→(fun w':World=>w'.cell? ⟨K,0,none⟩=some (.slice h.co m.cl.length h.cc)∧w'.cell? ⟨K,1,none⟩=some (.slice h.so m.st.length h.sc)∧w'.cell? ⟨K,2,none⟩=some (.slice h.eo m.me.length h.ec)∧w'.cell? ⟨K,3,none⟩=some (.int .i64 m.sel)∧w'.cell? ⟨K,5,none⟩=some (.slice (some ad) 1 sc)∧w'.cell? ad=some (.int .i64 tk)∧w'.cell? ⟨ad.block,ad.off+1,none⟩=some (.int .i64 tc)∧w'.cell? ⟨w.heap.size,0,none⟩=some (.int .i64 r.k)∧w'.cell? ⟨w.heap.size,1,none⟩=some (.int .i64 r.c)) w':=fun w' hb=>
    ⟨cell_bel hb (cell_bel hb1 k0),cell_bel hb (cell_bel hb1 k1),cell_bel hb (cell_bel hb1 k2),cell_bel hb (cell_bel hb1 k3),cell_bel hb (cell_bel hb1 k5),cell_bel hb (cell_bel hb1 a0),cell_bel hb (cell_bel hb1 a1),cell_bel hb i0,cell_bel hb i1⟩
   have HS:=Lib.hid hS
   have k5':=(hS _ (Below.refl _ _)).2.2.2.2.1
   clear hS k0 k1 k2 k3 k5 a0 a1 H HM hs hst hr hm hq hbi hb1 hW1 hk hn h1
   go_enter Tryz.func194,Tryz.ntmps194
   go_upto_region 1 with fail
   rw [←HW.out]
   go_upto_region 6 with fail
   clear k5' i0 i1
   refine rO (fun w':World=>w'.cell? ⟨K,0,none⟩=some (.slice h.co m.cl.length h.cc)∧w'.cell? ⟨K,1,none⟩=some (.slice h.so m.st.length h.sc)∧w'.cell? ⟨K,2,none⟩=some (.slice h.eo m.me.length h.ec)∧w'.cell? ⟨K,3,none⟩=some (.int .i64 m.sel)∧w'.cell? ⟨K,5,none⟩=some (.slice (some ad) 1 sc)∧w'.cell? ad=some (.int .i64 tk)∧w'.cell? ⟨ad.block,ad.off+1,none⟩=some (.int .i64 tc)∧w'.cell? ⟨w.heap.size,0,none⟩=some (.int .i64 r.k)∧w'.cell? ⟨w.heap.size,1,none⟩=some (.int .i64 r.c)) (oL [0,1,2,3,4,5,6,7,8,9,10,11,12,13,114,15,16]) (HS.out _ (Below.refl _ _).drew) ?_
   repeat refine pO ?_
   refine oO fun Kv hK=>?_
   go_simp
   refine (HF.out _ (Below.drew HB1.out)).mono ?_
   rintro e w2 ⟨rfl,hb2⟩
   have HB2:=Lib.hid (show Below W1.heap.size W1 w2 from bthen (Below.drew (Below.refl _ _)) hb2)
   refine hK _ _ ⟨HS.out _ HB2.out,?_⟩
   clear hK Kv hb2
   repeat refine pO ?_
   refine wpMixO_done ?_
   subst hq2
   cases f
   all_goals
    go_wp2
    go_ret
    exact ret_ok rfl (bthen HB1.out HB2.out)
  ·obtain rfl:q=12:=by
    rw [hq];unfold endedV;rw [if_neg hk]
    split
    ·rw [hn] at h1;exact absurd rfl h1
    ·rfl
   have hn0:((n:Int) != 1)=true:=by simp;omega
   rw [←hn] at k5
   have k5':=cell_bel hb1 k5
   clear k0 k1 k2 k3 k5 H HM hs hst hr hm hq hbi hb1 hW1 hk hn
   exact k84
end
end Go.Proofs.YtfkbfjhocmbneaaGreat
