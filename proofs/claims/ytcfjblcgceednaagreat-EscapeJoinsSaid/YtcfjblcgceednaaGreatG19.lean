/- Joined texts. The first: verify: method. -/
import Derived.Test.YtcfjblcgceednaaGreatG18
set_option linter.all false
set_option linter.unusedVariables false
set_option linter.unusedSimpArgs false
set_option maxRecDepth 100000
set_option maxHeartbeats 10000000
namespace Go.Proofs.YtcfjblcgceednaaGreat
theorem k2{p:Prop}(h:p:=by
 have hwf2:=HWf.out
 rw [HDr.out] at hwf2
 have hpv2:=HPv.out
 rw [HDr.out] at hpv2
 rcases HSe.out with ⟨h0,sso2,ssc2,oo2,oc2,bs2,hst5⟩|⟨h0,S5,O5,hc5⟩
 ·have y7:=hst5.ck.cells.2.2.2.2.2.2.2.2
  have hrd:Rd w w5 K h m kk lo lc ls (k+1) ao2 cap2 (rows.length+1):=⟨⟨_,acc++[s.stk],_,sso2,ssc2,oo2,oc2,bs2,hst5,Zgo HHm.out HLt.out hk ⟨hop0,hop36⟩ HOpd.out hwf2 h0,by simp,ZjJ.step HSt4.out HS4.out HU5.out,by rw [hpv2,Zfx h0,Zfz]⟩⟩
  have HRd5:=Zh hrd
  have HX5:=Zh (Blk.step HSt4.out HXr4.out (by decide) (by decide) HU5.out)
  clear hst5 hwf2 hpv2 hrd h0
  go_wp2_with fail
  go_roundw
  case rel=>exact ⟨k+1,ao2,cap2,rows.length+1,by omega,by go_num,rfl,by rw [HNr.out],HRd5,Zh (Below.refl _ _),HX5⟩
  case measure=>simp [intOf];omega
 ·have y7:=hc5.cells.2.2.2.2.2.2.2.2
  obtain ⟨er,her⟩:∃ e,e=(ZeC m ls ⟨op,ia,ib⟩ s).1:=⟨_,rfl⟩
  have hpe:ZeG m kk=([],k,er):=by rw [hpv2,Zfy h0,←her];exact ZkV (by rw [her];exact h0)
  rw [←her] at y7 h0
  have hn0:(er == 0)=false:=by simpa using h0
  have HBe:=Zh (St.upper HSt4.out HU5.out)
  have HPe:=Zh hpe
  clear hc5 hwf2 hpv2 hpe her h0
  go_wp2_with fail
  refine rO (fun w':World=>w'.cell? ⟨K,7,none⟩=some (.int .i64 er)) (oL [0,1,2,3,4,5,6,7]) y7 ?_
  repeat refine pO ?_
  refine Zd5 ?_
  go_wp2
  go_ret3
  rw [HPe.out]
  exact ZjL.no w HBe.out.drew k er):p:=h
theorem k7{p:Prop}(h:p:=by
 clear hsn hrk
 as_aux_lemma=>
 go_upto_region 21 with (first
  | (go_at_call 183;refine (HClo.out _ (Below.refl _ _)).mono ?_;rintro r w2 ⟨⟨to',tc,rfl,hown2⟩,hb2⟩;have HO2:=Zh hown2;have HB3':=Zh (show Below wr.heap.size wr (w2.alloc (.cells #[.slice to' s.stk.length tc] 23)) from bal hb2 _);have HSo3:=Zh (HSo.out.old HB3'.out);have HT3:=Zh (ZeP.alloc' (ZeP.own HO2.out) (.cells #[.slice to' s.stk.length tc] 23));have HX3':=Zh (ZdL (n:=1) (size:=1) (Blk.new w2 #[.slice to' s.stk.length tc] 23) rfl);have hzz:=HB3'.out.size;have hzw:=HBr.out.size;clear hown2 hb2)
  | (at_builtin;refine ZhC rfl ?_;refine Zej (.tmp 79) (.tmp 85) 82 rfl w.heap.size 23 1 24 ZjK _ rows.length _ rfl HSo3.out.own _ 1 1 [.slice to' s.stk.length tc] rfl HX3'.out (by intro u hu;rw [List.mem_singleton.1 hu];rfl) (by have:=HNr.out;omega) (by have:=HNr.out;unfold maxLen;omega) (by omega) ?_;intro ao2 cap2 w4 hown4 hg4;have HS4:=Zh (HSo3.out.snoc HT3.out hown4 hg4);have HSt4:=Zh (St.grow_st (HSt.out.old HB3'.out) HSo3.out hg4);have HXr4:=Zh (Blk.grown_st HSo3.out (HXr.out.old HB3'.out) (by decide) hg4);obtain ⟨-,m4,m5⟩:=HMc.out w4 HSt4.out.hb;clear hown4 hg4)
  | (go_at_call 188;refine (Zhy ⟨rk,rq⟩ _).mono ?_;rintro r w5 ⟨ro,rc,rfl,hto5,-,hb5⟩;rw [HRl.out];have HTo5:=Zh hto5;have HSt5:=Zh (HSt4.out.old hb5);have HS5:=Zh (HS4.out.old hb5);have HX5:=Zh (HXr4.out.old hb5);have k5':=HSt5.out.ck.cells.2.2.2.2.2.2.1;have m6':=(HMc.out w5 HSt5.out.hb).1;clear hto5 hb5))
 refine rO (fun w':World=>w'.cell? ⟨ma.block,ma.off+6,none⟩=some (.slice (h.e kk).ko nc (h.e kk).kc)) (oL [0,1,2,3,4,5,6,7]) m6' ?_
 repeat refine pO ?_
 refine Zd5 ?_
 go_wp2
 go_ret3
 rw [HPe.out]
 exact ZjL.no w HSt5.out.hb.drew nc 12):p:=h
theorem k45{p:Prop}(h:p:=by
 have HFf:=Zh hfk
 clear hfk
 go_wp2
 go_roundw
 case rel=>
  refine ⟨k+1,by omega,by omega,by go_num,HB4.out,?_,Zh fun j h1 h2=>?_⟩
  ·exact Zaf HLw.out HB6.out
  ·by_cases hjk:j<k
   ·exact hall.out j h1 hjk
   ·obtain rfl:j=k:=by omega
    exact HFf.out
 case measure=>simp [intOf];omega):p:=h
theorem k76{p:Prop}(h:p:=by
 refine HB.upd hu h1 ?_
 cases oo with
 | none=>exact h1
 | some a=>
  obtain ⟨g,cur,rfl,-,hgg⟩:=H.op.blk rfl
  exact ZhZ HB hgg ht2):p:=h
theorem k83{p:Prop}(h:p:=by
 go_enter Tryz.func202,Tryz.ntmps202
 go_upto_region 1 with fail
 rw [←HW.out]
 go_wp2
 go_ret
 exact ZcT rfl HB1.out):p:=h
theorem k84{p:Prop}(h:p:=by
 cases oo with
 | none=>exact h1
 | some a=>
  obtain ⟨g,cur,rfl,-,hgg⟩:=H.op.blk rfl
  exact HS.ne hgg (by decide)):p:=h
theorem k85{p:Prop}(h:p:=by
 obtain ⟨g,cur,rfl,-,hgg⟩:=H.op.blk ha
 exact HS.ne hgg (by decide) (by rw [hb];exact congrArg some e.symm)):p:=h
section
open Go.RowKit
theorem ZkS (m:Md) (lo:List Ty) (r:Ty) (n:Nat) (s:Ps):ZeE m lo r n [] s=if ZeD m r s.stk=0 then ([s.stk],0,0) else ([],n,ZeD m r s.stk):=rfl
theorem ZkT {m:Md}{k:Nat} (H:ZfM m k) {n:Nat} (hn:n<(m.me.getD k default).k.length):ZfR m k ((m.me.getD k default).k.getD n default)∧0≤((m.me.getD k default).k.getD n default).op∧((m.me.getD k default).k.getD n default).op<36:=by
 have h1:=H.i _ (ZfU default hn)
 exact ⟨ZfS h1.1 h1.2,ZfQ h1.1⟩
theorem ZkU {l:List In3}{n:Nat} (hn:n<l.length):l.drop n=l.getD n default :: l.drop (n+1):=by
 rw [List.drop_eq_getElem_cons hn];simp [hn]
structure Rd (w wr:World) (K:Nat) (h:Hd) (m:Md) (kk:Nat) (lo:Option Addr) (lc:Nat) (ls:List Ty) (k:Nat) (so:Option Addr) (sc nr:Nat):Prop where
 ex:∃ (s:Ps) (acc:List (List Ty)) (rows:List SH) (sso:Option Addr) (ssc:Nat) (oo:Option Addr) (oc:Nat) (bs:List VB),
  St w wr K h m lo lc ls s sso ssc oo oc bs∧Wf m s ((m.me.getD kk default).k.drop k)∧rows.length=nr∧ZjJ wr w.heap.size so sc rows acc ∧
  ZeG m kk=Zfv acc (ZeE m ls (m.me.getD kk default).r k ((m.me.getD kk default).k.drop k) s)
theorem St.grow {w0 w:World}{K:Nat}{h:Hd}{m:Md}{lo:Option Addr}{lc:Nat}{ls:List Ty}{s:Ps}{so:Option Addr}{sc:Nat}{oo:Option Addr}{oc:Nat}{bs:List VB} (H:St w0 w K h m lo lc ls s so sc oo oc bs) {w':World}{row:Option Nat} (hg:w.grownBy w' row)
  (hr:∀ b,row=some b→ZeQ w b∧b≠K∧(∀ a,oo=some a→a.block≠b)∧w0.heap.size≤b):St w0 w' K h m lo lc ls s so sc oo oc bs:=by
 cases row with
 | none=>exact H.old ((Below.refl _ _).grown hg (Nat.le_refl _) (fun j hj=>by cases hj))
 | some b=>
  obtain ⟨h1,h2,h3,h4⟩:=hr b rfl
  have hu:Upd b b w w':=(Upd.refl b b w).grown hg (fun k hk=>.inl (Option.some.inj hk).symm)
  refine ⟨?_,H.ts.upd hu h1 h1,⟨ZhI H.op.own fun k hk=>hu.block k (H.op.own.lt k hk).2 ?_ ?_,H.op.len,fun i hi=>(H.op.at_ i hi).upd hu h1 h1⟩,H.tl.upd hu h1 h1,hu.below H.hb (Nat.le_refl _) h4 h4,H.hK⟩
  ·exact Blk.upd H.ck hu h2.symm h2.symm
  ·intro e
   cases oo with
   | none=>cases hk
   | some a=>cases hk;exact h3 a rfl e
  ·intro e
   cases oo with
   | none=>cases hk
   | some a=>cases hk;exact h3 a rfl e
theorem St.grow_st {w0 w:World}{K:Nat}{h:Hd}{m:Md}{lo:Option Addr}{lc:Nat}{ls:List Ty}{s:Ps}{sso:Option Addr}{ssc:Nat}{oo:Option Addr}{oc:Nat}{bs:List VB} (H:St w0 w K h m lo lc ls s sso ssc oo oc bs) {so:Option Addr}{sc:Nat}{rows:List SH}{sts:List (List Ty)} (HS:ZjJ w w0.heap.size so sc rows sts) {w':World} (hg:w.grownBy w' (Value.slice so rows.length sc).ownBlock):St w0 w' K h m lo lc ls s sso ssc oo oc bs:=by
 refine H.grow hg fun b hb=>⟨HS.noTy hb,fun e=>?_,fun a ha e=>?_,(HS.own.lt b hb).1⟩
 ·exact HS.ne (b:=K) (show w.heap[K]?=some (.cells _ 214 (0,0)) from H.ck) (by decide) (e▸hb)
 ·exact k85
section
variable {w w':World}{w0:World}{K:Nat}{h:Hd}{m:Md}{lo:Option Addr}{lc:Nat}{ls:List Ty}{s:Ps}{sso:Option Addr}{ssc:Nat}{oo:Option Addr}{oc:Nat}{bs:List VB}(H:St w0 w K h m lo lc ls s sso ssc oo oc bs)
include w w' w0 K h m lo lc ls s sso ssc oo oc bs H
theorem ZjJ.step {N:Nat} {so:Option Addr} {sc:Nat} {rows:List SH} {sts:List (List Ty)} (HS:ZjJ w N so sc rows sts) (hu:Upd K (ZhH K oo) w w'):ZjJ w' N so sc rows sts:=by
 have h1:=HS.ne (b:=K) (show w.heap[K]?=some (.cells _ 214 (0,0)) from H.ck) (by decide)
 refine HS.upd hu H.ck.noTy (H.op.noTy H.ck.noTy) h1 ?_
 exact k84
theorem Blk.step {b:Nat} {xs:Array Value} {t:TypeId} (HB:Blk w b xs t) (ht:t≠214) (ht2:t≠269) (hu:Upd K (ZhH K oo) w w'):Blk w' b xs t:=by
 have h1:b≠K:=ZhZ HB H.ck ht
 exact k76
end
theorem Blk.grown_st {w w':World}{N:Nat}{so:Option Addr}{sc:Nat}{rows:List SH}{sts:List (List Ty)} (HS:ZjJ w N so sc rows sts) {b:Nat}{xs:Array Value}{t:TypeId} (HB:Blk w b xs t) (ht:t≠23) (hg:w.grownBy w' (Value.slice so rows.length sc).ownBlock):Blk w' b xs t:=by
 unfold Blk
 rw [hg.block b HB.lt (fun e=>HS.ne (show w.heap[b]?=some (.cells xs t (0,0)) from HB) ht e.symm)]
 exact HB
theorem St.upper {w0 w:World}{K:Nat}{h:Hd}{m:Md}{lo:Option Addr}{lc:Nat}{ls:List Ty}{s:Ps}{sso:Option Addr}{ssc:Nat}{oo:Option Addr}{oc:Nat}{bs:List VB} (H:St w0 w K h m lo lc ls s sso ssc oo oc bs) {w':World} (hu:Upd K (ZhH K oo) w w'):Below w0.heap.size w0 w':=by
 refine hu.below H.hb (Nat.le_refl _) H.hK ?_
 exact k50
theorem ZeP.alloc' {w:World}{ao:Option Addr}{cap:Nat}{l:List Ty} (H:ZeP w ao cap l) (o:Obj):ZeP (w.alloc o) ao cap l:=by
 have hb:Below w.heap.size w (w.alloc o):=by exact bE
 obtain ⟨h1,h2,h3⟩:=H
 exact k73
theorem ZkV {acc:List (List Ty)}{n:Nat}{e:Int} (he:e≠0):Zfv acc ([],n,e)=([],n,e):=if_neg he
theorem ZkW (h:Hd) (m:Md) (kk:Nat) (w:World) (HM:Zay w h m) (hm:Za1 m=true) (hk:kk<m.me.length):Calls Tryz.prog 125 #[.agg #[.slice h.co m.cl.length h.cc,.slice h.so m.st.length h.sc,.slice h.eo m.me.length h.ec,.int .i64 m.sel],.int .i64 kk] w (ZjL w (ZeG m kk)):=by
 have hmt:=ZfN hm hk
 obtain ⟨ls,hls⟩:∃ l,l=ZeF (m.me.getD kk default):=⟨_,rfl⟩
 obtain ⟨ea,heo,-⟩:=HM.mth hk
 obtain ⟨ma,hma⟩:∃ a,a=ea.add (kk*7):=⟨_,rfl⟩
 obtain ⟨nc,hnc⟩:∃ n,n=(m.me.getD kk default).k.length:=⟨_,rfl⟩
 have hnc2:nc≤120:=by rw [hnc];exact hmt.z.2.2
 have hmc:∀ w',Below w.heap.size w w'→w'.cell? ⟨ma.block,ma.off+6,none⟩=some (.slice (h.e kk).ko nc (h.e kk).kc)∧w'.cell? ⟨ma.block,ma.off+4,none⟩=some (.int .i64 (m.me.getD kk default).r.k)∧w'.cell? ⟨ma.block,ma.off+5,none⟩=some (.int .i64 (m.me.getD kk default).r.c):=fun w' hb'=>by
  obtain ⟨ad,h1,-,-,-,-,h4,h5,h6⟩:=(HM.old hb').mth hk
  rw [heo] at h1
  cases h1
  rw [←hma] at h4 h5 h6
  rw [←hnc] at h6
  exact ⟨h6,h4,h5⟩
 have hlo:=ZfO hm hk
 have hll:=ZfP hm hk
 rw [←hls] at hlo hll
 have hb1:Below w.heap.size w (w.alloc (.cells #[.slice h.co m.cl.length h.cc,.slice h.so m.st.length h.sc,.slice h.eo m.me.length h.ec,.int .i64 m.sel] 26)):=by exact bE
 have hx1:=Blk.new w #[.slice h.co m.cl.length h.cc,.slice h.so m.st.length h.sc,.slice h.eo m.me.length h.ec,.int .i64 m.sel] 26
 have HLo:=Zh (show ∀ w',Below w.heap.size w w'→Calls Tryz.prog 126 #[.agg #[.slice h.co m.cl.length h.cc,.slice h.so m.st.length h.sc,.slice h.eo m.me.length h.ec,.int .i64 m.sel],.int .i64 kk] w' (Zii 76 w' ls 0) from fun w' hb'=>by rw [hls];exact Zip m h kk w' (HM.old hb') hm hk)
 have hS:∀ w',Below (w.alloc (.cells #[.slice h.co m.cl.length h.cc,.slice h.so m.st.length h.sc,.slice h.eo m.me.length h.ec,.int .i64 m.sel] 26)).heap.size (w.alloc (.cells #[.slice h.co m.cl.length h.cc,.slice h.so m.st.length h.sc,.slice h.eo m.me.length h.ec,.int .i64 m.sel] 26)) w'→(fun w':World=>w'.cell? ⟨w.heap.size,0,none⟩=some (.slice h.co m.cl.length h.cc)∧w'.cell? ⟨w.heap.size,1,none⟩=some (.slice h.so m.st.length h.sc)∧w'.cell? ⟨w.heap.size,2,none⟩=some (.slice h.eo m.me.length h.ec)∧w'.cell? ⟨w.heap.size,3,none⟩=some (.int .i64 m.sel)) w':=fun w' hb'=>by
  have hx:=hx1.old hb'
  exact ⟨hx.cell 0 rfl,hx.cell 1 rfl,hx.cell 2 rfl,hx.cell 3 rfl⟩
 have HS:=Zh hS
 have HHM:=Zh HM
 have HHm:=Zh hm
 have HMt:=Zh hmt
 have HLs:=Zh hls
 have HMc:=Zh hmc
 have HLt:=Zh hlo
 have HNc:=Zh hnc
 have HEo:=Zh heo
 have HMa:=Zh hma
 obtain ⟨W1,hW1⟩:∃ W1,W1=w.alloc (.cells #[.slice h.co m.cl.length h.cc,.slice h.so m.st.length h.sc,.slice h.eo m.me.length h.ec,.int .i64 m.sel] 26):=⟨_,rfl⟩
 rw [←hW1] at HS hb1 hx1
 have HW1:=Zh hW1
 have HB1:=Zh hb1
 have HX1:=Zh hx1
 have hz1:w.heap.size<W1.heap.size:=hx1.lt
 clear hS hx1 HM hm hmt hls hmc hlo hnc heo hma hW1 hb1
 go_enter Tryz.func125,Tryz.ntmps125
 go_wp2_with fail
 rw [←HW1.out]
 refine (HLo.out _ HB1.out).mono ?_
 rintro r w2 ⟨⟨lo,lc,rfl,hown2⟩,hb2⟩
 have HB2:=Zh hb2
 have HL2:=Zh (ZeP.own hown2)
 clear hown2 hb2
 have HB0:=Zh (Zaf HB1.out HB2.out)
 have HSt:=Zh (St.start (h:=h) (m:=m) HB0.out HL2.out)
 obtain ⟨W3,hW3⟩:∃ W3,W3=w2.alloc (.cells (ckC h m (.slice lo ls.length lc) (.slice none 0 0) (.slice none 0 0) 0) 214):=⟨_,rfl⟩
 rw [←hW3] at HSt
 have hb3:Below w2.heap.size w2 W3:=by rw [hW3];exact bE
 have HB3:=Zh (Zaf HB0.out hb3)
 have hx3:=HX1.out.old (Zaf HB2.out hb3)
 have q0:=hx3.cell 0 (v:=.slice h.co m.cl.length h.cc) rfl
 have q1:=hx3.cell 1 (v:=.slice h.so m.st.length h.sc) rfl
 have q2:W3.cell? ⟨w.heap.size,2,none⟩=some (.slice (some ea) m.me.length h.ec):=by rw [←HEo.out];exact hx3.cell 2 rfl
 have q3:=hx3.cell 3 (v:=.int .i64 m.sel) rfl
 have hx2:=HX1.out.old HB2.out
 have p0:=hx2.cell 0 (v:=.slice h.co m.cl.length h.cc) rfl
 have p1:=hx2.cell 1 (v:=.slice h.so m.st.length h.sc) rfl
 have p2:w2.cell? ⟨w.heap.size,2,none⟩=some (.slice h.eo m.me.length h.ec):=hx2.cell 2 rfl
 have p3:=hx2.cell 3 (v:=.int .i64 m.sel) rfl
 have m6:=(HMc.out W3 HB3.out).1
 have HX3:=Zh hx3
 have HW3:=Zh (show W3=w2.alloc (.cells #[.slice h.co m.cl.length h.cc,.slice h.so m.st.length h.sc,.slice h.eo m.me.length h.ec,.int .i64 m.sel,.slice lo ls.length lc,.slice none 0 0,.slice none 0 0,.int .i64 0] 214) from hW3)
 have hkk2:(kk:Int) < m.me.length:=by omega
 clear hx3 hx2 hb3 hW3
 go_upto_region 3 with fail
 rw [←HW3.out]
 clear p0 p1 p2 p3
 go_upto_region 4 with fail
 rw [←HMa.out]
 go_wp2_with fail
 obtain ⟨K,hK⟩:∃ K,K=w2.heap.size:=⟨_,rfl⟩
 rw [←hK] at HSt ⊢
 clear hK
 have hwf:Wf m ⟨[],[]⟩ (m.me.getD kk default).k:=Zfo HMt.out.n
 have hpv:ZeG m kk=Zfv [] (ZeE m ls (m.me.getD kk default).r 0 (m.me.getD kk default).k ⟨[],[]⟩):=by
  rw [←ZfC,HLs.out];rfl
 have HRd:=Zh (show Rd w W3 K h m kk lo lc ls 0 none 0 0 from ⟨⟨_,[],[],_,_,_,_,_,HSt.out,by rw [List.drop_zero];exact hwf,rfl,ZjJ.nil _ _,by rw [List.drop_zero];exact hpv⟩⟩)
 clear hwf hpv q0 q1 q2 q3 m6 HSt
 go_loopw [4,33] (fun a i wr=>∃ (k:Nat) (so:Option Addr) (sc nr:Nat),k≤nc∧i=.int .i64 k∧a=.slice so nr sc∧nr=k∧Hid (Rd w wr K h m kk lo lc ls k so sc nr)∧Hid (Below W3.heap.size W3 W3)∧Hid (Blk wr w.heap.size #[.slice h.co m.cl.length h.cc,.slice h.so m.st.length h.sc,.slice h.eo m.me.length h.ec,.int .i64 m.sel] 26)) (fun _ i _=>nc-(intOf i).toNat)
 case atStart=>exact ⟨0,none,0,0,by omega,rfl,rfl,rfl,HRd,Zh (Below.refl _ _),HX3⟩
 case round=>
  obtain ⟨k,so,sc,nr,hkn,rfl,rfl,hnr,HR,-,HXr⟩:=hrel
  have HNr:=Zh hnr
  clear hnr
  obtain ⟨s,acc,rows,sso,ssc,oo,oc,bs,hst,hwf,hrl,hso,hpv⟩:=HR.out.ex
  subst hrl
  have HSt:=Zh hst
  have HWf:=Zh hwf
  have HSo:=Zh hso
  have HPv:=Zh hpv
  have k5:=hst.ck.cells.2.2.2.2.2.2.1
  have k7:=hst.ck.cells.2.2.2.2.2.2.2.2
  have hbr:=hst.hb
  have kl:=Blk.lt hst.ck
  have HBr:=Zh hbr
  have m6:=(HMc.out wr hbr).1
  have hs12:=hwf.stk.1
  have hs6:=hwf.depth
  clear hst hwf hso hpv hbr HRd HR
  by_cases hkl:k<nc
  ·have hkl2:(k:Int) < nc:=by omega
   have hkd:k<(m.me.getD kk default).k.length:=by have:=HNc.out;omega
   obtain ⟨hopd,hop0,hop36⟩:=ZkT HMt.out hkd
   obtain ⟨ka,hka,i0,i1,i2⟩:=ZaA ((HHM.out.old HBr.out).k kk hk) hkd
   obtain ⟨i,hi⟩:∃ i,i=(m.me.getD kk default).k.getD k default:=⟨_,rfl⟩
   have hdr:(m.me.getD kk default).k.drop k=i :: (m.me.getD kk default).k.drop (k+1):=by rw [hi];exact ZkU hkd
   rw [←hi] at hopd hop0 hop36 i0 i1 i2
   have hwr:IntKind.i64.wrap ((k:Int)+1)=k+1:=IntWalk.i64_in _ (by omega)
   obtain ⟨op,ia,ib⟩:=i
   dsimp only at i0 i1 i2 hop0 hop36
   have HOpd:=Zh hopd
   have HDr:=Zh hdr
   have HClo:=Zh (show ∀ w',Below wr.heap.size wr w'→Calls Tryz.prog 183 #[.slice sso s.stk.length ssc] w' (Zfg 76 w' s.stk) from fun w' hb'=>ZhA w' sso ssc s.stk (HSt.out.ts.1.old hb') (by omega))
   rw [hka]
   clear hopd hdr hi hka m6 hkd
   by_cases hcase:ZaR op=true
   ·have hq1:ZaR op=true:=hcase
    have HOp:=Zh hcase
    have hq1:=hcase
    clear hcase
    as_aux_lemma=>
    go_upto_region 15 with (first
     | (go_at_call 183;refine (HClo.out _ bE).mono ?_;rintro r w2 ⟨⟨to',tc,rfl,hown2⟩,hb2⟩;have HO2:=Zh hown2;have HB2:=Zh (Zaf (show Below wr.heap.size wr (wr.alloc (.cells #[.int .i64 op,.int .i64 ia,.int .i64 ib] 78)) by exact bE) hb2);have HB3':=Zh (show Below wr.heap.size wr (w2.alloc (.cells #[.slice to' s.stk.length tc] 23)) from bal HB2.out _);have HSo3:=Zh (HSo.out.old HB3'.out);have HT3:=Zh (ZeP.alloc' (ZeP.own HO2.out) (.cells #[.slice to' s.stk.length tc] 23));have HX3':=Zh (ZdL (n:=1) (size:=1) (Blk.new w2 #[.slice to' s.stk.length tc] 23) rfl);have HDb:=Zh (Blk.old (w:=wr.alloc (.cells #[.int .i64 op,.int .i64 ia,.int .i64 ib] 78)) (Blk.new wr #[.int .i64 op,.int .i64 ia,.int .i64 ib] 78) (Zaf hb2 (show Below w2.heap.size w2 (w2.alloc (.cells #[.slice to' s.stk.length tc] 23)) by exact bE)));have hzz:=HB3'.out.size;have hzw:=HBr.out.size;clear hown2 hb2)
     | (at_builtin;refine ZhC rfl ?_;refine Zej (.tmp 38) (.tmp 44) 82 rfl w.heap.size 23 1 24 ZjK _ rows.length _ rfl HSo3.out.own _ 1 1 [.slice to' s.stk.length tc] rfl HX3'.out (by intro u hu;rw [List.mem_singleton.1 hu];rfl) (by have:=HNr.out;omega) (by have:=HNr.out;unfold maxLen;omega) (by omega) ?_;intro ao2 cap2 w4 hown4 hg4;have HS4:=Zh (HSo3.out.snoc HT3.out hown4 hg4);have HSt4:=Zh (St.grow_st (HSt.out.old HB3'.out) HSo3.out hg4);have hdb4:=Blk.grown_st HSo3.out HDb.out (by decide) hg4;have HXr4:=Zh (Blk.grown_st HSo3.out (HXr.out.old HB3'.out) (by decide) hg4);have e0:=hdb4.cell 0 (v:=.int .i64 op) rfl;have e1:=hdb4.cell 1 (v:=.int .i64 ia) rfl;have e2:=hdb4.cell 2 (v:=.int .i64 ib) rfl;have HStep:=Zh (Zi8 (i:=⟨op,ia,ib⟩) HHm.out HLt.out HWf.out.stk HSt4.out HHM.out hs6 HOpd.out HWf.out.base (by have:=HOp.out;simp only [ZaR,inI,Bool.and_eq_true,decide_eq_true_eq] at this;exact this));clear hown4 hg4 hdb4)
     | (go_at_call 162;refine (ZcP _ _).mono ?_;rintro e w' ⟨rfl,rfl⟩)
     | (go_at_call 184;refine HStep.out.mono ?_;rintro r w5 ⟨⟨v,rfl⟩,hu5,hse⟩;have HU5:=Zh hu5;have HSe:=Zh hse;clear hu5 hse))
    exact k2
   ·have hq1:ZaR op=false:=by simpa using hcase
    have HOq:=Zh hq1
    clear hcase
    by_cases hcase:op=34
    ·have hq2:(op == 34)=true:=by simpa using hcase
     have HEl:=Zh (show ∃ q:List Opn × Opn,True∧s.opn=q.1++[q.2]∧q.2.beg.length≤12 from by
      have h1:=HWf.out
      rw [HDr.out] at h1
      obtain ⟨r,o,h2,_⟩:=h1.else_ hcase
      refine ⟨(r,o),trivial,h2,?_⟩
      have h3:=h1.opn
      rw [h2,List.reverse_append,List.reverse_singleton,List.singleton_append] at h3
      exact h3.1.1)
     obtain ⟨⟨r0,o0⟩,hel⟩:=HEl.out
     clear HEl
     have HEl:=Zh hel
     clear hel
     have HOp:=Zh hcase
     have hq2:(op == 34)=true:=by simpa using hcase
     clear hcase
     as_aux_lemma=>
     go_upto_region 15 with (first
      | (go_at_call 183;refine (HClo.out _ bE).mono ?_;rintro r w2 ⟨⟨to',tc,rfl,hown2⟩,hb2⟩;have HO2:=Zh hown2;have HB2:=Zh (Zaf (show Below wr.heap.size wr (wr.alloc (.cells #[.int .i64 op,.int .i64 ia,.int .i64 ib] 78)) by exact bE) hb2);have HB3':=Zh (show Below wr.heap.size wr (w2.alloc (.cells #[.slice to' s.stk.length tc] 23)) from bal HB2.out _);have HSo3:=Zh (HSo.out.old HB3'.out);have HT3:=Zh (ZeP.alloc' (ZeP.own HO2.out) (.cells #[.slice to' s.stk.length tc] 23));have HX3':=Zh (ZdL (n:=1) (size:=1) (Blk.new w2 #[.slice to' s.stk.length tc] 23) rfl);have HDb:=Zh (Blk.old (w:=wr.alloc (.cells #[.int .i64 op,.int .i64 ia,.int .i64 ib] 78)) (Blk.new wr #[.int .i64 op,.int .i64 ia,.int .i64 ib] 78) (Zaf hb2 (show Below w2.heap.size w2 (w2.alloc (.cells #[.slice to' s.stk.length tc] 23)) by exact bE)));have hzz:=HB3'.out.size;have hzw:=HBr.out.size;clear hown2 hb2)
      | (at_builtin;refine ZhC rfl ?_;refine Zej (.tmp 38) (.tmp 44) 82 rfl w.heap.size 23 1 24 ZjK _ rows.length _ rfl HSo3.out.own _ 1 1 [.slice to' s.stk.length tc] rfl HX3'.out (by intro u hu;rw [List.mem_singleton.1 hu];rfl) (by have:=HNr.out;omega) (by have:=HNr.out;unfold maxLen;omega) (by omega) ?_;intro ao2 cap2 w4 hown4 hg4;have HS4:=Zh (HSo3.out.snoc HT3.out hown4 hg4);have HSt4:=Zh (St.grow_st (HSt.out.old HB3'.out) HSo3.out hg4);have hdb4:=Blk.grown_st HSo3.out HDb.out (by decide) hg4;have HXr4:=Zh (Blk.grown_st HSo3.out (HXr.out.old HB3'.out) (by decide) hg4);have e0:=hdb4.cell 0 (v:=.int .i64 op) rfl;have e1:=hdb4.cell 1 (v:=.int .i64 ia) rfl;have e2:=hdb4.cell 2 (v:=.int .i64 ib) rfl;have HStep:=Zh ((fun _=>Zj2 (i:=⟨op,ia,ib⟩) HSt4.out HOp.out HEl.out.2.1 hs6 HEl.out.2.2) ());clear hown4 hg4 hdb4)
      | (go_at_call 162;refine (ZcP _ _).mono ?_;rintro e w' ⟨rfl,rfl⟩)
      | (go_at_call 185;refine HStep.out.mono ?_;rintro r w5 ⟨⟨v,rfl⟩,hu5,hse⟩;have HU5:=Zh hu5;have HSe:=Zh hse;clear hu5 hse))
     exact k2
    ·have hq2:(op == 34)=false:=by simpa using hcase
     have h34:=hcase
     clear hcase
     by_cases hcase:op=35
     ·have hq3:(op == 35)=true:=by simpa using hcase
      clear h34
      have HEl:=Zh (show ∃ q:List Opn × Opn,True∧s.opn=q.1++[q.2] from by
       have h1:=HWf.out
       rw [HDr.out] at h1
       obtain ⟨r,o,h2,_⟩:=h1.end_ hcase
       exact ⟨(r,o),trivial,h2⟩)
      obtain ⟨⟨r0,o0⟩,hel⟩:=HEl.out
      clear HEl
      have HEl:=Zh hel
      clear hel
      have HOp:=Zh hcase
      have hq3:(op == 35)=true:=by simpa using hcase
      clear hcase
      as_aux_lemma=>
      go_upto_region 15 with (first
       | (go_at_call 183;refine (HClo.out _ bE).mono ?_;rintro r w2 ⟨⟨to',tc,rfl,hown2⟩,hb2⟩;have HO2:=Zh hown2;have HB2:=Zh (Zaf (show Below wr.heap.size wr (wr.alloc (.cells #[.int .i64 op,.int .i64 ia,.int .i64 ib] 78)) by exact bE) hb2);have HB3':=Zh (show Below wr.heap.size wr (w2.alloc (.cells #[.slice to' s.stk.length tc] 23)) from bal HB2.out _);have HSo3:=Zh (HSo.out.old HB3'.out);have HT3:=Zh (ZeP.alloc' (ZeP.own HO2.out) (.cells #[.slice to' s.stk.length tc] 23));have HX3':=Zh (ZdL (n:=1) (size:=1) (Blk.new w2 #[.slice to' s.stk.length tc] 23) rfl);have HDb:=Zh (Blk.old (w:=wr.alloc (.cells #[.int .i64 op,.int .i64 ia,.int .i64 ib] 78)) (Blk.new wr #[.int .i64 op,.int .i64 ia,.int .i64 ib] 78) (Zaf hb2 (show Below w2.heap.size w2 (w2.alloc (.cells #[.slice to' s.stk.length tc] 23)) by exact bE)));have hzz:=HB3'.out.size;have hzw:=HBr.out.size;clear hown2 hb2)
       | (at_builtin;refine ZhC rfl ?_;refine Zej (.tmp 38) (.tmp 44) 82 rfl w.heap.size 23 1 24 ZjK _ rows.length _ rfl HSo3.out.own _ 1 1 [.slice to' s.stk.length tc] rfl HX3'.out (by intro u hu;rw [List.mem_singleton.1 hu];rfl) (by have:=HNr.out;omega) (by have:=HNr.out;unfold maxLen;omega) (by omega) ?_;intro ao2 cap2 w4 hown4 hg4;have HS4:=Zh (HSo3.out.snoc HT3.out hown4 hg4);have HSt4:=Zh (St.grow_st (HSt.out.old HB3'.out) HSo3.out hg4);have hdb4:=Blk.grown_st HSo3.out HDb.out (by decide) hg4;have HXr4:=Zh (Blk.grown_st HSo3.out (HXr.out.old HB3'.out) (by decide) hg4);have e0:=hdb4.cell 0 (v:=.int .i64 op) rfl;have e1:=hdb4.cell 1 (v:=.int .i64 ia) rfl;have e2:=hdb4.cell 2 (v:=.int .i64 ib) rfl;have HStep:=Zh (Zj3 (i:=⟨op,ia,ib⟩) HSt4.out HOp.out HEl.out.2 hs6 hs12);clear hown4 hg4 hdb4)
       | (go_at_call 162;refine (ZcP _ _).mono ?_;rintro e w' ⟨rfl,rfl⟩)
       | (go_at_call 186;refine HStep.out.mono ?_;rintro r w5 ⟨⟨v,rfl⟩,hu5,hse⟩;have HU5:=Zh hu5;have HSe:=Zh hse;clear hu5 hse))
      exact k2
     ·have hq3:(op == 35)=false:=by simpa using hcase
      have h35:=hcase
      clear hcase
      have hcase:op<29:=by
       have h1:=HOq.out
       simp only [ZaR,inI,Bool.and_eq_false_iff,decide_eq_false_iff_not] at h1
       omega
      clear h34 h35
      have HOp:=Zh hcase
      clear hcase
      as_aux_lemma=>
      go_upto_region 15 with (first
       | (go_at_call 183;refine (HClo.out _ bE).mono ?_;rintro r w2 ⟨⟨to',tc,rfl,hown2⟩,hb2⟩;have HO2:=Zh hown2;have HB2:=Zh (Zaf (show Below wr.heap.size wr (wr.alloc (.cells #[.int .i64 op,.int .i64 ia,.int .i64 ib] 78)) by exact bE) hb2);have HB3':=Zh (show Below wr.heap.size wr (w2.alloc (.cells #[.slice to' s.stk.length tc] 23)) from bal HB2.out _);have HSo3:=Zh (HSo.out.old HB3'.out);have HT3:=Zh (ZeP.alloc' (ZeP.own HO2.out) (.cells #[.slice to' s.stk.length tc] 23));have HX3':=Zh (ZdL (n:=1) (size:=1) (Blk.new w2 #[.slice to' s.stk.length tc] 23) rfl);have HDb:=Zh (Blk.old (w:=wr.alloc (.cells #[.int .i64 op,.int .i64 ia,.int .i64 ib] 78)) (Blk.new wr #[.int .i64 op,.int .i64 ia,.int .i64 ib] 78) (Zaf hb2 (show Below w2.heap.size w2 (w2.alloc (.cells #[.slice to' s.stk.length tc] 23)) by exact bE)));have hzz:=HB3'.out.size;have hzw:=HBr.out.size;clear hown2 hb2)
       | (at_builtin;refine ZhC rfl ?_;refine Zej (.tmp 38) (.tmp 44) 82 rfl w.heap.size 23 1 24 ZjK _ rows.length _ rfl HSo3.out.own _ 1 1 [.slice to' s.stk.length tc] rfl HX3'.out (by intro u hu;rw [List.mem_singleton.1 hu];rfl) (by have:=HNr.out;omega) (by have:=HNr.out;unfold maxLen;omega) (by omega) ?_;intro ao2 cap2 w4 hown4 hg4;have HS4:=Zh (HSo3.out.snoc HT3.out hown4 hg4);have HSt4:=Zh (St.grow_st (HSt.out.old HB3'.out) HSo3.out hg4);have hdb4:=Blk.grown_st HSo3.out HDb.out (by decide) hg4;have HXr4:=Zh (Blk.grown_st HSo3.out (HXr.out.old HB3'.out) (by decide) hg4);have e0:=hdb4.cell 0 (v:=.int .i64 op) rfl;have e1:=hdb4.cell 1 (v:=.int .i64 ia) rfl;have e2:=hdb4.cell 2 (v:=.int .i64 ib) rfl;have HStep:=Zh ((ZkC (i:=⟨op,ia,ib⟩) HHm.out HLt.out HWf.out.stk HSt4.out HHM.out hs6 HOpd.out HWf.out.base hk ⟨hop0,HOp.out⟩).mono fun r w5 hp=>ZhU HSt4.out (by dsimp only;have:=HOp.out;omega) (by dsimp only;have:=HOp.out;omega) HOq.out hp);clear hown4 hg4 hdb4)
       | (go_at_call 162;refine (ZcP _ _).mono ?_;rintro e w' ⟨rfl,rfl⟩)
       | (go_at_call 187;refine HStep.out.mono ?_;rintro r w5 ⟨⟨v,rfl⟩,hu5,hse⟩;have HU5:=Zh hu5;have HSe:=Zh hse;clear hu5 hse))
      exact k2
  ·have hke:nc=k:=by omega
   subst hke
   have hdn:(m.me.getD kk default).k.drop nc=[]:=by rw [List.drop_eq_nil_iff];have:=HNc.out;omega
   have hpv2:=HPv.out
   rw [hdn] at hpv2
   obtain ⟨⟨rk,rq⟩,hr⟩:∃ r:Ty,r=(m.me.getD kk default).r:=⟨_,rfl⟩
   rw [←hr,ZkS] at hpv2
   have hrt:=HMt.out.r
   rw [←hr] at hrt
   rw [←hr] at HMc
   have HPv2:=Zh hpv2
   have HRt:=Zh hrt
   have HClo:=Zh (show ∀ w',Below wr.heap.size wr w'→Calls Tryz.prog 183 #[.slice sso s.stk.length ssc] w' (Zfg 76 w' s.stk) from fun w' hb'=>ZhA w' sso ssc s.stk (HSt.out.ts.1.old hb') (by omega))
   clear hdn hpv2 hr hrt m6 k7 hkl
   by_cases hrk:rk=0
   ·by_cases hsn:s.stk=[]
    ·have HRl:=Zh (show (Zhx ⟨rk,rq⟩).length=0 from by unfold Zhx;rw [if_pos hrk];rfl)
     have hcmp:((s.stk.length:Int) == 0)=true:=by simp [hsn]
     have HPe:=Zh (show ZeG m kk=(acc++[s.stk],0,0) from by rw [HPv2.out,hsn,ZjM hrk];rfl)
     clear hsn hrk
     as_aux_lemma=>
     go_upto_region 22 with (first
      | (go_at_call 183;refine (HClo.out _ (Below.refl _ _)).mono ?_;rintro r w2 ⟨⟨to',tc,rfl,hown2⟩,hb2⟩;have HO2:=Zh hown2;have HB3':=Zh (show Below wr.heap.size wr (w2.alloc (.cells #[.slice to' s.stk.length tc] 23)) from bal hb2 _);have HSo3:=Zh (HSo.out.old HB3'.out);have HT3:=Zh (ZeP.alloc' (ZeP.own HO2.out) (.cells #[.slice to' s.stk.length tc] 23));have HX3':=Zh (ZdL (n:=1) (size:=1) (Blk.new w2 #[.slice to' s.stk.length tc] 23) rfl);have hzz:=HB3'.out.size;have hzw:=HBr.out.size;clear hown2 hb2)
      | (at_builtin;refine ZhC rfl ?_;refine Zej (.tmp 79) (.tmp 85) 82 rfl w.heap.size 23 1 24 ZjK _ rows.length _ rfl HSo3.out.own _ 1 1 [.slice to' s.stk.length tc] rfl HX3'.out (by intro u hu;rw [List.mem_singleton.1 hu];rfl) (by have:=HNr.out;omega) (by have:=HNr.out;unfold maxLen;omega) (by omega) ?_;intro ao2 cap2 w4 hown4 hg4;have HS4:=Zh (HSo3.out.snoc HT3.out hown4 hg4);have HSt4:=Zh (St.grow_st (HSt.out.old HB3'.out) HSo3.out hg4);have HXr4:=Zh (Blk.grown_st HSo3.out (HXr.out.old HB3'.out) (by decide) hg4);obtain ⟨-,m4,m5⟩:=HMc.out w4 HSt4.out.hb;clear hown4 hg4)
      | (go_at_call 188;refine (Zhy ⟨rk,rq⟩ _).mono ?_;rintro r w5 ⟨ro,rc,rfl,hto5,-,hb5⟩;rw [HRl.out];have HTo5:=Zh hto5;have HSt5:=Zh (HSt4.out.old hb5);have HS5:=Zh (HS4.out.old hb5);have HX5:=Zh (HXr4.out.old hb5);have k5':=HSt5.out.ck.cells.2.2.2.2.2.2.1;have m6':=(HMc.out w5 HSt5.out.hb).1;clear hto5 hb5))
     refine rO (fun _:World=>True) (oL [0,1,2,3,4,5,6,7,8,9,10,11,12,13,114,15,16]) trivial ?_
     repeat refine pO ?_
     refine Zd3 ?_
     refine Zh0 119 (by rfl) ?_
     refine ⟨trivial,?_⟩
     simp only [List.setIfInBounds_toArray,List.set_cons_zero,List.set_cons_succ]
     repeat refine pO ?_
     refine Zd5 ?_
     go_wp2
     go_ret3
     rw [HPe.out]
     exact ⟨⟨ao2,cap2,rows++[⟨to',s.stk.length,tc⟩],by simp,HS5.out.old bE⟩,HSt5.out.hb.drew⟩
    ·have HRl:=Zh (show (Zhx ⟨rk,rq⟩).length=0 from by unfold Zhx;rw [if_pos hrk];rfl)
     have hcmp:((s.stk.length:Int) == 0)=false:=by simp [hsn]
     have HPe:=Zh (show ZeG m kk=([],nc,12) from by rw [HPv2.out,ZjN hrk hsn];rfl)
     exact k7
   ·by_cases hsn:s.stk.length=1
    ·obtain ⟨⟨tk,tq⟩,ht1⟩:=one_of hsn
     cases hft:Zet m ⟨tk,tq⟩ ⟨rk,rq⟩
     ·have HRl:=Zh (show (Zhx ⟨rk,rq⟩).length=1 from by unfold Zhx;rw [if_neg hrk];rfl)
      have hcmp:((s.stk.length:Int) == 1)=true:=by simp [hsn]
      have HPe:=Zh (show ZeG m kk=([],nc,11) from by rw [HPv2.out,ht1,ZjO hrk,hft];rfl)
      have hl1:0<s.stk.length:=by omega
      have HFt:=Zh (show Zho m ⟨tk,tq⟩ ⟨rk,rq⟩=false from by rw [Zix HHm.out (HWf.out.stk.2 _ (by rw [ht1];simp)) (ZfG HRt.out hrk),hft])
      have HT1:=Zh ht1
      have HR0:=Zh (show (Zhx ⟨rk,rq⟩).getD 0 default=⟨rk,rq⟩ from by unfold Zhx;rw [if_neg hrk];rfl)
      clear ht1 hft
      clear hsn hrk
      as_aux_lemma=>
      go_upto_region 22 with (first
       | (go_at_call 183;refine (HClo.out _ (Below.refl _ _)).mono ?_;rintro r w2 ⟨⟨to',tc,rfl,hown2⟩,hb2⟩;have HO2:=Zh hown2;have HB3':=Zh (show Below wr.heap.size wr (w2.alloc (.cells #[.slice to' s.stk.length tc] 23)) from bal hb2 _);have HSo3:=Zh (HSo.out.old HB3'.out);have HT3:=Zh (ZeP.alloc' (ZeP.own HO2.out) (.cells #[.slice to' s.stk.length tc] 23));have HX3':=Zh (ZdL (n:=1) (size:=1) (Blk.new w2 #[.slice to' s.stk.length tc] 23) rfl);have hzz:=HB3'.out.size;have hzw:=HBr.out.size;clear hown2 hb2)
       | (at_builtin;refine ZhC rfl ?_;refine Zej (.tmp 79) (.tmp 85) 82 rfl w.heap.size 23 1 24 ZjK _ rows.length _ rfl HSo3.out.own _ 1 1 [.slice to' s.stk.length tc] rfl HX3'.out (by intro u hu;rw [List.mem_singleton.1 hu];rfl) (by have:=HNr.out;omega) (by have:=HNr.out;unfold maxLen;omega) (by omega) ?_;intro ao2 cap2 w4 hown4 hg4;have HS4:=Zh (HSo3.out.snoc HT3.out hown4 hg4);have HSt4:=Zh (St.grow_st (HSt.out.old HB3'.out) HSo3.out hg4);have HXr4:=Zh (Blk.grown_st HSo3.out (HXr.out.old HB3'.out) (by decide) hg4);obtain ⟨-,m4,m5⟩:=HMc.out w4 HSt4.out.hb;clear hown4 hg4)
       | (go_at_call 188;refine (Zhy ⟨rk,rq⟩ _).mono ?_;rintro r w5 ⟨ro,rc,rfl,hto5,-,hb5⟩;rw [HRl.out];have HTo5:=Zh hto5;have HSt5:=Zh (HSt4.out.old hb5);have HS5:=Zh (HS4.out.old hb5);have HX5:=Zh (HXr4.out.old hb5);have k5':=HSt5.out.ck.cells.2.2.2.2.2.2.1;have m6':=(HMc.out w5 HSt5.out.hb).1;clear hto5 hb5))
      obtain ⟨sa,hsa,t0,t1⟩:=Zaz HSt5.out.ts.1 (i:=0) (by omega)
      obtain ⟨wa,hwa,u0,u1⟩:=Zaz HTo5.out.1 (i:=0) (by rw [HRl.out];decide)
      rw [Nat.zero_mul,show sa.add 0=sa from by simp [Addr.add],HT1.out] at t0 t1
      rw [Nat.zero_mul,show wa.add 0=wa from by simp [Addr.add],HR0.out] at u0 u1
      dsimp only [List.getD_cons_zero] at t0 t1 u0 u1
      rw [hsa] at k5'
      rw [hwa]
      have g0:=HX5.out.cell 0 (v:=.slice h.co m.cl.length h.cc) rfl
      have g1:=HX5.out.cell 1 (v:=.slice h.so m.st.length h.sc) rfl
      have g2:w5.cell? ⟨w.heap.size,2,none⟩=some (.slice h.eo m.me.length h.ec):=HX5.out.cell 2 rfl
      have g3:=HX5.out.cell 3 (v:=.int .i64 m.sel) rfl
      have hS:∀ w',Below w5.heap.size w5 w'→(fun w':World=>w'.cell? ⟨w.heap.size,0,none⟩=some (.slice h.co m.cl.length h.cc)∧w'.cell? ⟨w.heap.size,1,none⟩=some (.slice h.so m.st.length h.sc)∧w'.cell? ⟨w.heap.size,2,none⟩=some (.slice h.eo m.me.length h.ec)∧w'.cell? ⟨w.heap.size,3,none⟩=some (.int .i64 m.sel)∧w'.cell? ⟨K,5,none⟩=some (.slice (some sa) s.stk.length ssc)∧w'.cell? sa=some (.int .i64 tk)∧w'.cell? ⟨sa.block,sa.off+1,none⟩=some (.int .i64 tq)∧w'.cell? wa=some (.int .i64 rk)∧w'.cell? ⟨wa.block,wa.off+1,none⟩=some (.int .i64 rq)) w':=fun w' hb'=>⟨(hb'.cell (Zac g0)).trans g0,(hb'.cell (Zac g1)).trans g1,(hb'.cell (Zac g2)).trans g2,(hb'.cell (Zac g3)).trans g3,(hb'.cell (Zac k5')).trans k5',(hb'.cell (Zac t0)).trans t0,(hb'.cell (p:=⟨sa.block,sa.off+1,none⟩) (Zac t1)).trans t1,(hb'.cell (Zac u0)).trans u0,(hb'.cell (p:=⟨wa.block,wa.off+1,none⟩) (Zac u1)).trans u1⟩
      have HS:=Zh hS
      have HFi:=Zh (show ∀ w',Below w5.heap.size w5 w'→Calls Tryz.prog 189 #[.agg #[.slice h.co m.cl.length h.cc,.slice h.so m.st.length h.sc,.slice h.eo m.me.length h.ec,.int .i64 m.sel],.agg #[.int .i64 tk,.int .i64 tq],.agg #[.int .i64 rk,.int .i64 rq]] w' (Ret w' (.bool false)) from fun w' hb'=>by have:=Zhq m h ⟨tk,tq⟩ ⟨rk,rq⟩ w' (HHM.out.old (Zaf HSt5.out.hb hb'));rw [HFt.out] at this;exact this)
      clear hS hsa hwa t0 t1 u0 u1 g0 g1 g2 g3 k5'
      refine rO (fun w':World=>w'.cell? ⟨w.heap.size,0,none⟩=some (.slice h.co m.cl.length h.cc)∧w'.cell? ⟨w.heap.size,1,none⟩=some (.slice h.so m.st.length h.sc)∧w'.cell? ⟨w.heap.size,2,none⟩=some (.slice h.eo m.me.length h.ec)∧w'.cell? ⟨w.heap.size,3,none⟩=some (.int .i64 m.sel)∧w'.cell? ⟨K,5,none⟩=some (.slice (some sa) s.stk.length ssc)∧w'.cell? sa=some (.int .i64 tk)∧w'.cell? ⟨sa.block,sa.off+1,none⟩=some (.int .i64 tq)∧w'.cell? wa=some (.int .i64 rk)∧w'.cell? ⟨wa.block,wa.off+1,none⟩=some (.int .i64 rq)) (oL [0,1,2,3,4,5,6,7,8,9,10,11,12,13,114,15,16]) (HS.out _ bE) ?_
      repeat refine pO ?_
      refine oO fun Kv hK=>?_
      go_simp
      refine (HFi.out _ bE).mono ?_
      rintro r w6 ⟨rfl,hb6⟩
      have HB6:=Zh (show Below w5.heap.size w5 w6 from Zaf (show Below w5.heap.size w5 w5.drew by exact bE) hb6)
      refine hK _ _ ⟨HS.out _ HB6.out,?_⟩
      clear hK Kv hb6
      repeat refine pO ?_
      refine Zd5 ?_
      have m7:=(HMc.out w6 (Zaf HSt5.out.hb HB6.out)).1
      go_wp2_with fail
      refine rO (fun w':World=>w'.cell? ⟨ma.block,ma.off+6,none⟩=some (.slice (h.e kk).ko nc (h.e kk).kc)) (oL [0,1,2,3,4,5,6,7]) m7 ?_
      repeat refine pO ?_
      refine Zd5 ?_
      go_wp2
      go_ret3
      rw [HPe.out]
      exact ZjL.no w (Zaf HSt5.out.hb HB6.out).drew nc 11
     ·have HRl:=Zh (show (Zhx ⟨rk,rq⟩).length=1 from by unfold Zhx;rw [if_neg hrk];rfl)
      have hcmp:((s.stk.length:Int) == 1)=true:=by simp [hsn]
      have HPe:=Zh (show ZeG m kk=(acc++[s.stk],0,0) from by rw [HPv2.out,ht1,ZjO hrk,hft];rfl)
      have hl1:0<s.stk.length:=by omega
      have HFt:=Zh (show Zho m ⟨tk,tq⟩ ⟨rk,rq⟩=true from by rw [Zix HHm.out (HWf.out.stk.2 _ (by rw [ht1];simp)) (ZfG HRt.out hrk),hft])
      have HT1:=Zh ht1
      have HR0:=Zh (show (Zhx ⟨rk,rq⟩).getD 0 default=⟨rk,rq⟩ from by unfold Zhx;rw [if_neg hrk];rfl)
      clear ht1 hft
      clear hsn hrk
      as_aux_lemma=>
      go_upto_region 22 with (first
       | (go_at_call 183;refine (HClo.out _ (Below.refl _ _)).mono ?_;rintro r w2 ⟨⟨to',tc,rfl,hown2⟩,hb2⟩;have HO2:=Zh hown2;have HB3':=Zh (show Below wr.heap.size wr (w2.alloc (.cells #[.slice to' s.stk.length tc] 23)) from bal hb2 _);have HSo3:=Zh (HSo.out.old HB3'.out);have HT3:=Zh (ZeP.alloc' (ZeP.own HO2.out) (.cells #[.slice to' s.stk.length tc] 23));have HX3':=Zh (ZdL (n:=1) (size:=1) (Blk.new w2 #[.slice to' s.stk.length tc] 23) rfl);have hzz:=HB3'.out.size;have hzw:=HBr.out.size;clear hown2 hb2)
       | (at_builtin;refine ZhC rfl ?_;refine Zej (.tmp 79) (.tmp 85) 82 rfl w.heap.size 23 1 24 ZjK _ rows.length _ rfl HSo3.out.own _ 1 1 [.slice to' s.stk.length tc] rfl HX3'.out (by intro u hu;rw [List.mem_singleton.1 hu];rfl) (by have:=HNr.out;omega) (by have:=HNr.out;unfold maxLen;omega) (by omega) ?_;intro ao2 cap2 w4 hown4 hg4;have HS4:=Zh (HSo3.out.snoc HT3.out hown4 hg4);have HSt4:=Zh (St.grow_st (HSt.out.old HB3'.out) HSo3.out hg4);have HXr4:=Zh (Blk.grown_st HSo3.out (HXr.out.old HB3'.out) (by decide) hg4);obtain ⟨-,m4,m5⟩:=HMc.out w4 HSt4.out.hb;clear hown4 hg4)
       | (go_at_call 188;refine (Zhy ⟨rk,rq⟩ _).mono ?_;rintro r w5 ⟨ro,rc,rfl,hto5,-,hb5⟩;rw [HRl.out];have HTo5:=Zh hto5;have HSt5:=Zh (HSt4.out.old hb5);have HS5:=Zh (HS4.out.old hb5);have HX5:=Zh (HXr4.out.old hb5);have k5':=HSt5.out.ck.cells.2.2.2.2.2.2.1;have m6':=(HMc.out w5 HSt5.out.hb).1;clear hto5 hb5))
      obtain ⟨sa,hsa,t0,t1⟩:=Zaz HSt5.out.ts.1 (i:=0) (by omega)
      obtain ⟨wa,hwa,u0,u1⟩:=Zaz HTo5.out.1 (i:=0) (by rw [HRl.out];decide)
      rw [Nat.zero_mul,show sa.add 0=sa from by simp [Addr.add],HT1.out] at t0 t1
      rw [Nat.zero_mul,show wa.add 0=wa from by simp [Addr.add],HR0.out] at u0 u1
      dsimp only [List.getD_cons_zero] at t0 t1 u0 u1
      rw [hsa] at k5'
      rw [hwa]
      have g0:=HX5.out.cell 0 (v:=.slice h.co m.cl.length h.cc) rfl
      have g1:=HX5.out.cell 1 (v:=.slice h.so m.st.length h.sc) rfl
      have g2:w5.cell? ⟨w.heap.size,2,none⟩=some (.slice h.eo m.me.length h.ec):=HX5.out.cell 2 rfl
      have g3:=HX5.out.cell 3 (v:=.int .i64 m.sel) rfl
      have hS:∀ w',Below w5.heap.size w5 w'→(fun w':World=>w'.cell? ⟨w.heap.size,0,none⟩=some (.slice h.co m.cl.length h.cc)∧w'.cell? ⟨w.heap.size,1,none⟩=some (.slice h.so m.st.length h.sc)∧w'.cell? ⟨w.heap.size,2,none⟩=some (.slice h.eo m.me.length h.ec)∧w'.cell? ⟨w.heap.size,3,none⟩=some (.int .i64 m.sel)∧w'.cell? ⟨K,5,none⟩=some (.slice (some sa) s.stk.length ssc)∧w'.cell? sa=some (.int .i64 tk)∧w'.cell? ⟨sa.block,sa.off+1,none⟩=some (.int .i64 tq)∧w'.cell? wa=some (.int .i64 rk)∧w'.cell? ⟨wa.block,wa.off+1,none⟩=some (.int .i64 rq)) w':=fun w' hb'=>⟨(hb'.cell (Zac g0)).trans g0,(hb'.cell (Zac g1)).trans g1,(hb'.cell (Zac g2)).trans g2,(hb'.cell (Zac g3)).trans g3,(hb'.cell (Zac k5')).trans k5',(hb'.cell (Zac t0)).trans t0,(hb'.cell (p:=⟨sa.block,sa.off+1,none⟩) (Zac t1)).trans t1,(hb'.cell (Zac u0)).trans u0,(hb'.cell (p:=⟨wa.block,wa.off+1,none⟩) (Zac u1)).trans u1⟩
      have HS:=Zh hS
      have HFi:=Zh (show ∀ w',Below w5.heap.size w5 w'→Calls Tryz.prog 189 #[.agg #[.slice h.co m.cl.length h.cc,.slice h.so m.st.length h.sc,.slice h.eo m.me.length h.ec,.int .i64 m.sel],.agg #[.int .i64 tk,.int .i64 tq],.agg #[.int .i64 rk,.int .i64 rq]] w' (Ret w' (.bool true)) from fun w' hb'=>by have:=Zhq m h ⟨tk,tq⟩ ⟨rk,rq⟩ w' (HHM.out.old (Zaf HSt5.out.hb hb'));rw [HFt.out] at this;exact this)
      clear hS hsa hwa t0 t1 u0 u1 g0 g1 g2 g3 k5'
      refine rO (fun w':World=>w'.cell? ⟨w.heap.size,0,none⟩=some (.slice h.co m.cl.length h.cc)∧w'.cell? ⟨w.heap.size,1,none⟩=some (.slice h.so m.st.length h.sc)∧w'.cell? ⟨w.heap.size,2,none⟩=some (.slice h.eo m.me.length h.ec)∧w'.cell? ⟨w.heap.size,3,none⟩=some (.int .i64 m.sel)∧w'.cell? ⟨K,5,none⟩=some (.slice (some sa) s.stk.length ssc)∧w'.cell? sa=some (.int .i64 tk)∧w'.cell? ⟨sa.block,sa.off+1,none⟩=some (.int .i64 tq)∧w'.cell? wa=some (.int .i64 rk)∧w'.cell? ⟨wa.block,wa.off+1,none⟩=some (.int .i64 rq)) (oL [0,1,2,3,4,5,6,7,8,9,10,11,12,13,114,15,16]) (HS.out _ bE) ?_
      repeat refine pO ?_
      refine oO fun Kv hK=>?_
      go_simp
      refine (HFi.out _ bE).mono ?_
      rintro r w6 ⟨rfl,hb6⟩
      have HB6:=Zh (show Below w5.heap.size w5 w6 from Zaf (show Below w5.heap.size w5 w5.drew by exact bE) hb6)
      refine hK _ _ ⟨HS.out _ HB6.out,?_⟩
      clear hK Kv hb6
      repeat refine pO ?_
      refine Zd5 ?_
      go_wp2
      go_ret3
      rw [HPe.out]
      exact ⟨⟨ao2,cap2,rows++[⟨to',s.stk.length,tc⟩],by simp,HS5.out.old HB6.out⟩,Zaf HSt5.out.hb HB6.out⟩
    ·have HRl:=Zh (show (Zhx ⟨rk,rq⟩).length=1 from by unfold Zhx;rw [if_neg hrk];rfl)
     have hcmp:((s.stk.length:Int) == 1)=false:=by simp;omega
     have HPe:=Zh (show ZeG m kk=([],nc,12) from by rw [HPv2.out,ZjP hrk hsn];rfl)
     exact k7
end
section
open Go.RowKit
section
variable {m:Md}(hm:Za1 m=true){k:Nat}(hk:k<m.me.length){i:In3}(hi:ZfR m k i)(hc:i.op=25∨i.op=26)
include m hm k hk i hi hc
theorem ZkX:(Zkp m i).length≤5:=by
 exact k44
theorem ZkY {j:Nat} (hj:j<(Zkp m i).length) (h26:i.op=26→0<j):Zfi m ((Zkp m i).getD j default):=by
 unfold Zkp at hj ⊢
 rcases hc with q|q
 ·rw [if_pos q] at hj ⊢
  exact (ZfN hm (k:=i.a.toNat) (by have:=(hi.o25 q).1;have:=hi.a0 (by omega);omega)).p _ (ZfU _ hj)
 ·rw [if_neg (by omega)] at hj ⊢
  cases hx:Zew m i with
  | none=>rw [hx] at hj;simp at hj
  | some x=>
   rw [hx] at hj
   obtain ⟨j2,h1,h2,-⟩:=ZfV hi (.inr q) hx
   have h0:=h26 q
   obtain ⟨j,rfl⟩:∃ n,j=n+1:=⟨j-1,by omega⟩
   simp only [List.length_cons] at hj
   simp only [List.getD_cons_succ]
   rw [h2] at hj ⊢
   exact (ZfN hm (k:=j2) (by omega)).p _ (ZfU _ (by omega))
end
section
variable {w:World}{K:Nat}{h:Hd}{m:Md}{L S O:Value}(H:Pk w K h m L S O)(HM:Zay w h m)(hm:Za1 m=true){k:Nat}(hk:k<m.me.length)
include w K h m L S O H HM hm k hk
theorem ZkZ {ia:Nat} {ib:Int} (hi:ZfR m k ⟨25,(ia:Int),ib⟩) {ls l:List Ty} {la:Option Addr} {lcap:Nat} (hr:Zar w la lcap l) (hl:l.length=(Zkp m ⟨25,(ia:Int),ib⟩).length) (hty:∀ t∈l,Zfi m t):
  Calls Tryz.prog 339 #[.pointer (some ⟨K,0,none⟩),.agg #[.int .i64 25,.int .i64 ia,.int .i64 ib],.slice la l.length lcap] w (Zj6 w (ZeB m ls ⟨25,(ia:Int),ib⟩ l)):=by
 have hop:(⟨25,(ia:Int),ib⟩:In3).op=25∨(⟨25,(ia:Int),ib⟩:In3).op=26:=by simp
 obtain ⟨W1,hW1⟩:∃ W1,W1=(w.alloc (.cells #[.int .i64 25,.int .i64 ia,.int .i64 ib] 78)).alloc (.cells #[.int .i64 0,.int .i64 0] 76):=⟨_,rfl⟩
 have hb1:Below w.heap.size w W1:=by rw [hW1];exact bE
 have hbi:Blk W1 w.heap.size #[.int .i64 25,.int .i64 ia,.int .i64 ib] 78:=by rw [hW1];exact (Blk.new w _ _).alloc _
 have hbr:Blk W1 (w.heap.size+1) #[.int .i64 0,.int .i64 0] 76:=by rw [hW1];exact Blk.new' (w:=w.alloc (.cells #[.int .i64 25,.int .i64 ia,.int .i64 ib] 78)) _ _ (by simp)
 have HBw:=Zh hb1
 have HBi:=Zh hbi
 have HBr:=Zh hbr
 have HW1:=Zh hW1
 have HA:=Zh (show ∀ w',Below w.heap.size w w'→_ from fun w' hb=>ZkD (H.old hb) (HM.old hb) hm hk hi hop)
 have HR:=Zh (show ∀ w',Below w.heap.size w w'→_ from fun w' hb=>ZkE (H.old hb) (HM.old hb) hm hk hi hop)
 have HF:=Zh (show ∀ j,0≤j→j<(Zkp m ⟨25,(ia:Int),ib⟩).length→∀ w',Below w.heap.size w w'→Calls Tryz.prog 274 #[.agg #[.slice h.co m.cl.length h.cc,.slice h.so m.st.length h.sc,.slice h.eo m.me.length h.ec,.int .i64 m.sel],.agg #[.int .i64 (l.getD j default).k,.int .i64 (l.getD j default).c],.agg #[.int .i64 ((Zkp m ⟨25,(ia:Int),ib⟩).getD j default).k,.int .i64 ((Zkp m ⟨25,(ia:Int),ib⟩).getD j default).c]] w' (Ret w' (.bool (Zet m (l.getD j default) ((Zkp m ⟨25,(ia:Int),ib⟩).getD j default)))) from fun j h1 h2 w' hb=>ZjS m h _ _ w' (HM.old hb) (fun q=>ZfF (hty _ (ZfU _ (by omega))) (.inl q)) (fun q=>(ZfF (ZkY hm hk hi hop h2 (fun q5=>by first|omega|exact absurd q5 (by simp))) (.inl q)).1) (Zc8 (ZfH hm)))
 obtain ⟨F,hF⟩:∃ F:Nat→Bool,F=fun j=>Zet m (l.getD j default) ((Zkp m ⟨25,(ia:Int),ib⟩).getD j default):=⟨_,rfl⟩
 have hFj:∀ j,Zet m (l.getD j default) ((Zkp m ⟨25,(ia:Int),ib⟩).getD j default)=F j:=fun j=>by rw [hF]
 simp only [hFj] at HF
 obtain ⟨n,hn⟩:∃ n,n=(Zkp m ⟨25,(ia:Int),ib⟩).length:=⟨_,rfl⟩
 have hn9:=ZkX hm hk hi hop
 have hpv:ZeB m ls ⟨25,(ia:Int),ib⟩ l=if (List.range n).all F=true then some (Zkq m ⟨25,(ia:Int),ib⟩) else none:=by
  have e1:Zkp m ⟨25,(ia:Int),ib⟩=(m.me.getD ia default).p:=by unfold Zkp;rw [if_pos rfl,Int.toNat_natCast]
  have e2:Zkq m ⟨25,(ia:Int),ib⟩=(m.me.getD ia default).r:=by unfold Zkq Zew;rw [if_pos rfl];dsimp only;rw [Int.toNat_natCast]
  rw [Zf9 rfl,e2,hF,hn,e1,Int.toNat_natCast]
 obtain ⟨pq,hpq⟩:∃ q,q=ZeB m ls ⟨25,(ia:Int),ib⟩ l:=⟨_,rfl⟩
 rw [←hpq]
 rw [←hpq] at hpv
 have HPv:=Zh hpv
 have HHM:=Zh HM
 have HPk:=Zh H
 generalize Zkq m ⟨25,(ia:Int),ib⟩=rs at HR HPv
 have HLl:=Zh hl
 have HRl:=Zh hr
 obtain ⟨n2,hn2⟩:∃ n,n=l.length:=⟨_,rfl⟩
 rw [←hn2]
 have HN:=Zh hn
 have HN2:=Zh hn2
 generalize Zkp m ⟨25,(ia:Int),ib⟩=ags at HA HF HN HLl hn9 hn hn2
 have hn5:n≤1000000:=by omega
 obtain ⟨rk,rc⟩:=rs
 have HCl:=Zh (show ∀ w',Below W1.heap.size W1 w'→_ from fun w' hb=>And.intro (hbi.old hb) (And.intro (hbr.old hb) (H.old (Zaf hb1 hb))))
 clear hpv hpq hF hFj hi hm hty hl hr hW1 H HM hn9 hop hbi hbr hn hn2 hb1 hk
 go_enter Tryz.func339,Tryz.ntmps339
 go_upto_region 1 with fail
 rw [←HW1.out]
 have i0:=HBi.out.cell 0 (v:=.int .i64 25) rfl
 have i1:=HBi.out.cell 1 (v:=.int .i64 ia) rfl
 have i2:=HBi.out.cell 2 (v:=.int .i64 ib) rfl
 go_upto_region 2 with (go_at_call 336;refine (HA.out _ HBw.out).mono ?_;rintro r w2 ⟨⟨ao,cap,rfl,hrow⟩,hb2⟩;rw [←HN.out];have HRo:=Zh hrow;have HB2:=Zh hb2;clear hrow hb2 i0 i1 i2;have i0:=(HBi.out.old HB2.out).cell 0 (v:=.int .i64 25) rfl)
 go_wp2
 go_loopw [12] (fun i wr=>∃ k:Nat,0≤k∧k≤n∧i=.int .i64 k∧Below W1.heap.size W1 wr∧Below w2.heap.size w2 wr∧Hid (∀ j,0≤j→j<k→F j=true)) (fun i _=>n-(intOf i).toNat)
 case atStart=>exact ⟨0,by omega,by omega,rfl,HB2.out,Below.refl _ _,Zh (fun j h1 h2=>absurd h1 (by omega))⟩
 case round=>
  obtain ⟨k,hk0,hkn,rfl,hbel,hbel2,hall⟩:=hrel
  have HL:=Zh hbel
  have HL2:=Zh (show Below w2.heap.size w2 wr from Zaf (Below.refl w2.heap.size w2) hbel2)
  have HLw:=Zh hbel2
  clear hbel hbel2
  have i0:=(HBi.out.old HL.out).cell 0 (v:=.int .i64 25) rfl
  have i1:=(HBi.out.old HL.out).cell 1 (v:=.int .i64 ia) rfl
  have i2:=(HBi.out.old HL.out).cell 2 (v:=.int .i64 ib) rfl
  by_cases hkl:k<n
  ·obtain ⟨xd,hxd,x0,x1⟩:=Zaz (HRl.out.old (Zaf HBw.out HL.out)) (i:=k) (by rw [HLl.out,←HN.out];exact hkl)
   obtain ⟨yd,hyd,y0,y1⟩:=Zaz (HRo.out.old HL2.out) (i:=k) (by rw [←HN.out];exact hkl)
   have HFk:=Zh (HF.out k hk0 (by rw [←HN.out];exact hkl))
   generalize l.getD k default=x at x0 x1 HFk
   generalize ags.getD k default=y at y0 y1 HFk
   obtain ⟨xk,xc⟩:=x
   obtain ⟨yk,yc⟩:=y
   dsimp only at x0 x1 y0 y1 HFk
   subst hxd
   subst hyd
   have hkn2:(k:Int) < n:=by omega
   have hkn3:(k:Int) < n2:=by have:=HN.out;have:=HN2.out;have:=HLl.out;omega
   have hwr:IntKind.i64.wrap ((k:Int)+1)=k+1:=IntWalk.i64_in _ (by omega)
   obtain ⟨xa,hxa⟩:∃ a,a=xd.add (k*2):=⟨_,rfl⟩
   obtain ⟨ya,hya⟩:∃ a,a=yd.add (k*2):=⟨_,rfl⟩
   rw [←hxa] at x0 x1
   rw [←hya] at y0 y1
   have hS2:∀ w',Below wr.heap.size wr w'→(fun w':World=>w'.cell? ⟨K,0,none⟩=some (.slice h.co m.cl.length h.cc)∧w'.cell? ⟨K,1,none⟩=some (.slice h.so m.st.length h.sc)∧w'.cell? ⟨K,2,none⟩=some (.slice h.eo m.me.length h.ec)∧w'.cell? ⟨K,3,none⟩=some (.int .i64 m.sel)∧w'.cell? xa=some (.int .i64 xk)∧w'.cell? ⟨xa.block,xa.off+1,none⟩=some (.int .i64 xc)∧w'.cell? ya=some (.int .i64 yk)∧w'.cell? ⟨ya.block,ya.off+1,none⟩=some (.int .i64 yc)) w':=fun w' hb=>⟨(HCl.out w' (Zaf HL.out hb)).2.2.cells.2.1,(HCl.out w' (Zaf HL.out hb)).2.2.cells.2.2.1,(HCl.out w' (Zaf HL.out hb)).2.2.cells.2.2.2.1,(HCl.out w' (Zaf HL.out hb)).2.2.cells.2.2.2.2.1,Zj4 hb x0,Zj4 hb x1,Zj4 hb y0,Zj4 hb y1⟩
   have HS2:=Zh hS2
   have HXa:=Zh hxa
   have HYa:=Zh hya
   clear hS2 x0 x1 y0 y1 hxa hya i0 i1 i2
   go_upto_region 13 with fail
   refine rO (fun w':World=>w'.cell? ⟨K,0,none⟩=some (.slice h.co m.cl.length h.cc)∧w'.cell? ⟨K,1,none⟩=some (.slice h.so m.st.length h.sc)∧w'.cell? ⟨K,2,none⟩=some (.slice h.eo m.me.length h.ec)∧w'.cell? ⟨K,3,none⟩=some (.int .i64 m.sel)∧w'.cell? xa=some (.int .i64 xk)∧w'.cell? ⟨xa.block,xa.off+1,none⟩=some (.int .i64 xc)∧w'.cell? ya=some (.int .i64 yk)∧w'.cell? ⟨ya.block,ya.off+1,none⟩=some (.int .i64 yc)) (oL [0,1,2,3,4,5,6,7,8,9,10,11,112,13]) (HS2.out _ (Below.drew (Below.refl _ _))) ?_
   iterate 7 (refine pO ?_)
   rw [←HXa.out]
   iterate 4 (refine pO ?_)
   rw [←HYa.out]
   repeat refine pO ?_
   refine oO fun Kv hK=>?_
   go_simp
   refine (HFk.out _ (Zaf HBw.out (Below.drew HL.out))).mono ?_
   rintro r w4 ⟨rfl,hb4⟩
   have HB4:=Zh (show Below W1.heap.size W1 w4 from Zaf HL.out (Zaf (Below.drew (Below.refl _ _)) hb4))
   have HB5:=Zh (show Below w2.heap.size w2 w4 from Zaf HL2.out (Zaf (Below.drew (Below.refl _ _)) hb4))
   have HB6:=Zh (show Below wr.heap.size wr w4 from Zaf (Below.drew (Below.refl _ _)) hb4)
   refine hK _ _ ⟨HS2.out _ HB6.out,?_⟩
   clear hK Kv hb4
   repeat refine pO ?_
   refine Zd5 ?_
   cases hfk:F k
   ·have HFf:=Zh hfk
    clear hfk
    have y0:=(HBr.out.old HB4.out).cell 0 (v:=.int .i64 0) rfl
    have y1:=(HBr.out.old HB4.out).cell 1 (v:=.int .i64 0) rfl
    have g0:=(HBr.out.old HB4.out).frozen 0
    have g1:=(HBr.out.old HB4.out).frozen 1
    have hrl:=(HBr.out.old HB4.out).lt
    go_wp2
    refine bodyPost_ret (v:=.tuple #[.agg #[.int .i64 0,.int .i64 0],.bool false]) (by simp [results,Tryz.results339,go_sem,y0,y1]) rfl ?_
    have hpn:pq=none:=by rw [HPv.out,ZaC (k:=k) hkl HFf.out];rfl
    exact Zj7 (by rw [hpn];rfl) (fun u hu=>by rw [hpn] at hu;cases hu) (ZcW (ZcW (Zaf HBw.out HB4.out) (Nat.le_succ _) _) (Nat.le_succ _) _)
   ·exact k45
  ·have hkn2:¬ (k:Int) < n:=by omega
   go_wp2_with (go_at_call 335;refine (HR.out _ (Zaf HBw.out HL.out)).mono ?_;rintro r w5 ⟨rfl,hb5⟩;have HB5:=Zh (Zaf HL.out hb5);have y0:=(HBr.out.old HB5.out).cell 0 (v:=.int .i64 0) rfl;have y1:=(HBr.out.old HB5.out).cell 1 (v:=.int .i64 0) rfl;have g0:=(HBr.out.old HB5.out).frozen 0;have g1:=(HBr.out.old HB5.out).frozen 1;have hrl:=(HBr.out.old HB5.out).lt)
   refine bodyPost_ret (v:=.tuple #[.agg #[.int .i64 rk,.int .i64 rc],.bool true]) (by simp [results,Tryz.results339,go_sem,y0,y1]) rfl ?_
   have hps:pq=some ⟨rk,rc⟩:=by rw [HPv.out,ZaD (fun j hj=>hall.out j (by omega) (by omega))];rfl
   exact Zj7 (by rw [hps];rfl) (fun u hu=>by rw [hps] at hu;exact Option.some.inj hu) (ZcW (ZcW (Zaf HBw.out HB5.out) (Nat.le_succ _) _) (Nat.le_succ _) _)
theorem Zk0 {ia:Nat} {ib:Int} (hi:ZfR m k ⟨26,(ia:Int),ib⟩) {ls l:List Ty} {la:Option Addr} {lcap:Nat} (hr:Zar w la lcap l) (hl:l.length=(Zkp m ⟨26,(ia:Int),ib⟩).length) (hty:∀ t∈l,Zfi m t) {a:Ty} {l':List Ty} (hl':l=a :: l') (has:Zkp m ⟨26,(ia:Int),ib⟩≠[]):
  Calls Tryz.prog 339 #[.pointer (some ⟨K,0,none⟩),.agg #[.int .i64 26,.int .i64 ia,.int .i64 ib],.slice la l.length lcap] w (Zj6 w (ZeB m ls ⟨26,(ia:Int),ib⟩ l)):=by
 have hop:(⟨26,(ia:Int),ib⟩:In3).op=25∨(⟨26,(ia:Int),ib⟩:In3).op=26:=by simp
 obtain ⟨W1,hW1⟩:∃ W1,W1=(w.alloc (.cells #[.int .i64 26,.int .i64 ia,.int .i64 ib] 78)).alloc (.cells #[.int .i64 0,.int .i64 0] 76):=⟨_,rfl⟩
 have hb1:Below w.heap.size w W1:=by rw [hW1];exact bE
 have hbi:Blk W1 w.heap.size #[.int .i64 26,.int .i64 ia,.int .i64 ib] 78:=by rw [hW1];exact (Blk.new w _ _).alloc _
 have hbr:Blk W1 (w.heap.size+1) #[.int .i64 0,.int .i64 0] 76:=by rw [hW1];exact Blk.new' (w:=w.alloc (.cells #[.int .i64 26,.int .i64 ia,.int .i64 ib] 78)) _ _ (by simp)
 have HBw:=Zh hb1
 have HBi:=Zh hbi
 have HBr:=Zh hbr
 have HW1:=Zh hW1
 have HA:=Zh (show ∀ w',Below w.heap.size w w'→_ from fun w' hb=>ZkD (H.old hb) (HM.old hb) hm hk hi hop)
 have HR:=Zh (show ∀ w',Below w.heap.size w w'→_ from fun w' hb=>ZkE (H.old hb) (HM.old hb) hm hk hi hop)
 have hac:=ZfF (hty a (by rw [hl'];simp))
 have h26:=hi.o26 rfl
 have HD:=Zh (show a.k=2→∀ w',Below w.heap.size w w'→Calls Tryz.prog 362 #[.agg #[.slice h.co m.cl.length h.cc,.slice h.so m.st.length h.sc,.slice h.eo m.me.length h.ec,.int .i64 m.sel],.int .i64 a.c,.int .i64 ia] w' (Zhf w' (.int .i64 (if m.ent a.c ia<0 then 0 else m.ent a.c ia)) (.int .i64 (if m.ent a.c ia<0 then 3 else 0))) from fun q w' hb=>by
  obtain ⟨c0,c1⟩:=hac (.inl q)
  have:=Zjo m h a.c.toNat ia w' (HM.old hb) hm (by omega) h26.1
  rwa [show ((a.c.toNat:Nat):Int)=a.c by omega] at this)
 have HF:=Zh (show ∀ j,1≤j→j<(Zkp m ⟨26,(ia:Int),ib⟩).length→∀ w',Below w.heap.size w w'→Calls Tryz.prog 274 #[.agg #[.slice h.co m.cl.length h.cc,.slice h.so m.st.length h.sc,.slice h.eo m.me.length h.ec,.int .i64 m.sel],.agg #[.int .i64 (l.getD j default).k,.int .i64 (l.getD j default).c],.agg #[.int .i64 ((Zkp m ⟨26,(ia:Int),ib⟩).getD j default).k,.int .i64 ((Zkp m ⟨26,(ia:Int),ib⟩).getD j default).c]] w' (Ret w' (.bool (Zet m (l.getD j default) ((Zkp m ⟨26,(ia:Int),ib⟩).getD j default)))) from fun j h1 h2 w' hb=>ZjS m h _ _ w' (HM.old hb) (fun q=>ZfF (hty _ (ZfU _ (by omega))) (.inl q)) (fun q=>(ZfF (ZkY hm hk hi hop h2 (fun q5=>by first|omega|exact absurd q5 (by simp))) (.inl q)).1) (Zc8 (ZfH hm)))
 obtain ⟨F,hF⟩:∃ F:Nat→Bool,F=fun j=>Zet m (l.getD j default) ((Zkp m ⟨26,(ia:Int),ib⟩).getD j default):=⟨_,rfl⟩
 have hFj:∀ j,Zet m (l.getD j default) ((Zkp m ⟨26,(ia:Int),ib⟩).getD j default)=F j:=fun j=>by rw [hF]
 simp only [hFj] at HF
 obtain ⟨n,hn⟩:∃ n,n=(Zkp m ⟨26,(ia:Int),ib⟩).length:=⟨_,rfl⟩
 have hn9:=ZkX hm hk hi hop
 have hpv:ZeB m ls ⟨26,(ia:Int),ib⟩ l=if (decide (a.k=2)&&decide (0≤m.ent a.c ia)&&(List.range (n-1)).all fun j=>F (j+1))=true then some (Zkq m ⟨26,(ia:Int),ib⟩) else none:=by
  have hx:∃ x,Zew m ⟨26,(ia:Int),ib⟩=some x∧Zkp m ⟨26,(ia:Int),ib⟩=⟨2,-1⟩ :: x.p∧Zkq m ⟨26,(ia:Int),ib⟩=x.r:=by
   cases hx:Zew m ⟨26,(ia:Int),ib⟩ with
   | none=>exact absurd (by unfold Zkp;rw [if_neg (by simp),hx]) has
   | some x=>exact ⟨x,rfl,by unfold Zkp;rw [if_neg (by simp),hx],by unfold Zkq;rw [hx]⟩
  obtain ⟨x,hx,hax,hrx⟩:=hx
  rw [Zga rfl,hx]
  dsimp only
  rw [hrx,show n-1=x.p.length by rw [hn,hax];simp,Int.toNat_natCast]
  have e1:l.getD 0 default=a:=by rw [hl'];rfl
  have e2:(fun j=>F (j+1))=fun j=>Zet m (l.getD (j+1) default) (x.p.getD j default):=by
   funext j
   rw [hF,hax]
   rfl
  rw [e1,e2]
 obtain ⟨pq,hpq⟩:∃ q,q=ZeB m ls ⟨26,(ia:Int),ib⟩ l:=⟨_,rfl⟩
 rw [←hpq]
 rw [←hpq] at hpv
 have HPv:=Zh hpv
 have HHM:=Zh HM
 have HPk:=Zh H
 generalize Zkq m ⟨26,(ia:Int),ib⟩=rs at HR HPv
 have HLl:=Zh hl
 have HRl:=Zh hr
 obtain ⟨n2,hn2⟩:∃ n,n=l.length:=⟨_,rfl⟩
 rw [←hn2]
 have HN:=Zh hn
 have HN2:=Zh hn2
 generalize Zkp m ⟨26,(ia:Int),ib⟩=ags at HA HF HN HLl hn9 hn hn2
 have hn5:n≤1000000:=by omega
 obtain ⟨rk,rc⟩:=rs
 obtain ⟨ad,hla,a0,a1⟩:=Zaz hr (i:=0) (by rw [hl'];simp)
 rw [show l.getD 0 default=a by rw [hl'];rfl,show ad.add (0*2)=ad by simp [Addr.add]] at a0 a1
 subst hla
 have hn1:1≤n:=by rw [hn,←HLl.out,hl'];simp
 have hn20:(n2:Int) > 0:=by have:=HLl.out;omega
 have hn21:0<n2:=by omega
 have hn22:(0:Int) < n2:=by omega
 have hz:((n:Int) == 0)=false:=by simp;omega
 obtain ⟨ak,ac⟩:=a
 dsimp only at a0 a1 HD HPv
 generalize m.ent ac ia=en at HD HPv
 have HCl:=Zh (show ∀ w',Below W1.heap.size W1 w'→_ from fun w' hb=>And.intro (hbi.old hb) (And.intro (hbr.old hb) (H.old (Zaf hb1 hb))))
 clear hpv hpq hF hFj hi hm hty hl hr hW1 H HM hn9 hop hbi hbr hn hn2 hb1 hk hac h26 has hl'
 go_enter Tryz.func339,Tryz.ntmps339
 go_upto_region 1 with fail
 rw [←HW1.out]
 have i0:=HBi.out.cell 0 (v:=.int .i64 26) rfl
 have i1:=HBi.out.cell 1 (v:=.int .i64 ia) rfl
 have i2:=HBi.out.cell 2 (v:=.int .i64 ib) rfl
 go_upto_region 2 with (go_at_call 336;refine (HA.out _ HBw.out).mono ?_;rintro r w2 ⟨⟨ao,cap,rfl,hrow⟩,hb2⟩;rw [←HN.out];have HRo:=Zh hrow;have HB2:=Zh hb2;clear hrow hb2 i0 i1 i2;have i0:=(HBi.out.old HB2.out).cell 0 (v:=.int .i64 26) rfl)
 by_cases h2:ak=2
 rotate_left
 ·have h3:(ak != 2)=true:=by simpa using h2
  have a0':=Zj4 (Zaf HBw.out HB2.out) a0
  have y0:=(HBr.out.old HB2.out).cell 0 (v:=.int .i64 0) rfl
  have y1:=(HBr.out.old HB2.out).cell 1 (v:=.int .i64 0) rfl
  have g0:=(HBr.out.old HB2.out).frozen 0
  have g1:=(HBr.out.old HB2.out).frozen 1
  have hrl:=(HBr.out.old HB2.out).lt
  go_wp2
  refine bodyPost_ret (v:=.tuple #[.agg #[.int .i64 0,.int .i64 0],.bool false]) (by simp [results,Tryz.results339,go_sem,y0,y1]) rfl ?_
  have hpn:pq=none:=by rw [HPv.out,decide_eq_false h2];rfl
  exact Zj7 (by rw [hpn];rfl) (fun u hu=>by rw [hpn] at hu;cases hu) (ZcW (ZcW (Zaf HBw.out HB2.out) (Nat.le_succ _) _) (Nat.le_succ _) _)
 ·subst h2
  have a0':=Zj4 (Zaf HBw.out HB2.out) a0
  go_upto_region 6 with fail
  clear a0'
  have hS:∀ w',Below W1.heap.size W1 w'→(fun w':World=>w'.cell? ⟨K,0,none⟩=some (.slice h.co m.cl.length h.cc)∧w'.cell? ⟨K,1,none⟩=some (.slice h.so m.st.length h.sc)∧w'.cell? ⟨K,2,none⟩=some (.slice h.eo m.me.length h.ec)∧w'.cell? ⟨K,3,none⟩=some (.int .i64 m.sel)∧w'.cell? ad=some (.int .i64 2)∧w'.cell? ⟨ad.block,ad.off+1,none⟩=some (.int .i64 ac)∧w'.cell? ⟨w.heap.size,0,none⟩=some (.int .i64 26)∧w'.cell? ⟨w.heap.size,1,none⟩=some (.int .i64 ia)) w':=fun w' hb=>⟨(HCl.out w' hb).2.2.cells.2.1,(HCl.out w' hb).2.2.cells.2.2.1,(HCl.out w' hb).2.2.cells.2.2.2.1,(HCl.out w' hb).2.2.cells.2.2.2.2.1,Zj4 (Zaf HBw.out hb) a0,Zj4 (Zaf HBw.out hb) a1,(HCl.out w' hb).1.cell 0 rfl,(HCl.out w' hb).1.cell 1 rfl⟩
  have HS:=Zh hS
  clear hS i0 a0 a1
  refine rO (fun w':World=>w'.cell? ⟨K,0,none⟩=some (.slice h.co m.cl.length h.cc)∧w'.cell? ⟨K,1,none⟩=some (.slice h.so m.st.length h.sc)∧w'.cell? ⟨K,2,none⟩=some (.slice h.eo m.me.length h.ec)∧w'.cell? ⟨K,3,none⟩=some (.int .i64 m.sel)∧w'.cell? ad=some (.int .i64 2)∧w'.cell? ⟨ad.block,ad.off+1,none⟩=some (.int .i64 ac)∧w'.cell? ⟨w.heap.size,0,none⟩=some (.int .i64 26)∧w'.cell? ⟨w.heap.size,1,none⟩=some (.int .i64 ia)) (oL [0,1,2,3,4,5,6,7,8,9,110,11,12,13,14,15]) (HS.out _ (Below.drew HB2.out)) ?_
  repeat refine pO ?_
  refine oO fun Kv hK=>?_
  go_simp
  refine (HD.out rfl _ (Zaf HBw.out (Below.drew HB2.out))).mono ?_
  rintro r w3 ⟨rfl,hb3⟩
  have HB3:=Zh (show Below W1.heap.size W1 w3 from Zaf HB2.out (Zaf (Below.drew (Below.refl _ _)) hb3))
  have HB23:=Zh (show Below w2.heap.size w2 w3 from Zaf (Below.drew (Below.refl _ _)) hb3)
  refine hK _ _ ⟨HS.out _ HB3.out,?_⟩
  clear hK Kv hb3
  repeat refine pO ?_
  refine Zd5 ?_
  by_cases h5:en<0
  ·have e3:(if en<0 then (3:Int) else 0)=3:=if_pos h5
   have e4:(if en<0 then (0:Int) else en)=0:=if_pos h5
   rw [e3,e4]
   clear e3 e4
   have y0:=(HBr.out.old HB3.out).cell 0 (v:=.int .i64 0) rfl
   have y1:=(HBr.out.old HB3.out).cell 1 (v:=.int .i64 0) rfl
   have g0:=(HBr.out.old HB3.out).frozen 0
   have g1:=(HBr.out.old HB3.out).frozen 1
   have hrl:=(HBr.out.old HB3.out).lt
   go_wp2
   refine bodyPost_ret (v:=.tuple #[.agg #[.int .i64 0,.int .i64 0],.bool false]) (by simp [results,Tryz.results339,go_sem,y0,y1]) rfl ?_
   have hpn:pq=none:=by rw [HPv.out,decide_eq_false (show ¬ 0≤en by omega)];rfl
   exact Zj7 (by rw [hpn];rfl) (fun u hu=>by rw [hpn] at hu;cases hu) (ZcW (ZcW (Zaf HBw.out HB3.out) (Nat.le_succ _) _) (Nat.le_succ _) _)
  have e3:(if en<0 then (3:Int) else 0)=0:=if_neg h5
  have e4:(if en<0 then (0:Int) else en)=en:=if_neg h5
  rw [e3,e4]
  clear e3 e4
  have H6:=Zh (show decide (0≤en)=true by simp;omega)
  clear h5
  go_wp2
  go_loopw [12] (fun i wr=>∃ k:Nat,1≤k∧k≤n∧i=.int .i64 k∧Below W1.heap.size W1 wr∧Below w3.heap.size w3 wr∧Hid (∀ j,1≤j→j<k→F j=true)) (fun i _=>n-(intOf i).toNat)
  case atStart=>exact ⟨1,by omega,by omega,rfl,HB3.out,Below.refl _ _,Zh (fun j h1 h2=>absurd h1 (by omega))⟩
  case round=>
   obtain ⟨k,hk0,hkn,rfl,hbel,hbel2,hall⟩:=hrel
   have HL:=Zh hbel
   have HL2:=Zh (show Below w2.heap.size w2 wr from Zaf HB23.out hbel2)
   have HLw:=Zh hbel2
   clear hbel hbel2
   have i0:=(HBi.out.old HL.out).cell 0 (v:=.int .i64 26) rfl
   have i1:=(HBi.out.old HL.out).cell 1 (v:=.int .i64 ia) rfl
   have i2:=(HBi.out.old HL.out).cell 2 (v:=.int .i64 ib) rfl
   by_cases hkl:k<n
   ·obtain ⟨xd,hxd,x0,x1⟩:=Zaz (HRl.out.old (Zaf HBw.out HL.out)) (i:=k) (by rw [HLl.out,←HN.out];exact hkl)
    obtain ⟨yd,hyd,y0,y1⟩:=Zaz (HRo.out.old HL2.out) (i:=k) (by rw [←HN.out];exact hkl)
    have HFk:=Zh (HF.out k hk0 (by rw [←HN.out];exact hkl))
    generalize l.getD k default=x at x0 x1 HFk
    generalize ags.getD k default=y at y0 y1 HFk
    obtain ⟨xk,xc⟩:=x
    obtain ⟨yk,yc⟩:=y
    dsimp only at x0 x1 y0 y1 HFk
    cases hxd
    subst hyd
    have hkn2:(k:Int) < n:=by omega
    have hkn3:(k:Int) < n2:=by have:=HN.out;have:=HN2.out;have:=HLl.out;omega
    have hwr:IntKind.i64.wrap ((k:Int)+1)=k+1:=IntWalk.i64_in _ (by omega)
    obtain ⟨xa,hxa⟩:∃ a,a=ad.add (k*2):=⟨_,rfl⟩
    obtain ⟨ya,hya⟩:∃ a,a=yd.add (k*2):=⟨_,rfl⟩
    rw [←hxa] at x0 x1
    rw [←hya] at y0 y1
    have hS2:∀ w',Below wr.heap.size wr w'→(fun w':World=>w'.cell? ⟨K,0,none⟩=some (.slice h.co m.cl.length h.cc)∧w'.cell? ⟨K,1,none⟩=some (.slice h.so m.st.length h.sc)∧w'.cell? ⟨K,2,none⟩=some (.slice h.eo m.me.length h.ec)∧w'.cell? ⟨K,3,none⟩=some (.int .i64 m.sel)∧w'.cell? xa=some (.int .i64 xk)∧w'.cell? ⟨xa.block,xa.off+1,none⟩=some (.int .i64 xc)∧w'.cell? ya=some (.int .i64 yk)∧w'.cell? ⟨ya.block,ya.off+1,none⟩=some (.int .i64 yc)) w':=fun w' hb=>⟨(HCl.out w' (Zaf HL.out hb)).2.2.cells.2.1,(HCl.out w' (Zaf HL.out hb)).2.2.cells.2.2.1,(HCl.out w' (Zaf HL.out hb)).2.2.cells.2.2.2.1,(HCl.out w' (Zaf HL.out hb)).2.2.cells.2.2.2.2.1,Zj4 hb x0,Zj4 hb x1,Zj4 hb y0,Zj4 hb y1⟩
    have HS2:=Zh hS2
    have HXa:=Zh hxa
    have HYa:=Zh hya
    clear hS2 x0 x1 y0 y1 hxa hya i0 i1 i2
    go_upto_region 13 with fail
    refine rO (fun w':World=>w'.cell? ⟨K,0,none⟩=some (.slice h.co m.cl.length h.cc)∧w'.cell? ⟨K,1,none⟩=some (.slice h.so m.st.length h.sc)∧w'.cell? ⟨K,2,none⟩=some (.slice h.eo m.me.length h.ec)∧w'.cell? ⟨K,3,none⟩=some (.int .i64 m.sel)∧w'.cell? xa=some (.int .i64 xk)∧w'.cell? ⟨xa.block,xa.off+1,none⟩=some (.int .i64 xc)∧w'.cell? ya=some (.int .i64 yk)∧w'.cell? ⟨ya.block,ya.off+1,none⟩=some (.int .i64 yc)) (oL [0,1,2,3,4,5,6,7,8,9,10,11,112,13]) (HS2.out _ (Below.drew (Below.refl _ _))) ?_
    iterate 7 (refine pO ?_)
    rw [←HXa.out]
    iterate 4 (refine pO ?_)
    rw [←HYa.out]
    repeat refine pO ?_
    refine oO fun Kv hK=>?_
    go_simp
    refine (HFk.out _ (Zaf HBw.out (Below.drew HL.out))).mono ?_
    rintro r w4 ⟨rfl,hb4⟩
    have HB4:=Zh (show Below W1.heap.size W1 w4 from Zaf HL.out (Zaf (Below.drew (Below.refl _ _)) hb4))
    have HB5:=Zh (show Below w2.heap.size w2 w4 from Zaf HL2.out (Zaf (Below.drew (Below.refl _ _)) hb4))
    have HB6:=Zh (show Below wr.heap.size wr w4 from Zaf (Below.drew (Below.refl _ _)) hb4)
    refine hK _ _ ⟨HS2.out _ HB6.out,?_⟩
    clear hK Kv hb4
    repeat refine pO ?_
    refine Zd5 ?_
    cases hfk:F k
    ·have HFf:=Zh hfk
     clear hfk
     have y0:=(HBr.out.old HB4.out).cell 0 (v:=.int .i64 0) rfl
     have y1:=(HBr.out.old HB4.out).cell 1 (v:=.int .i64 0) rfl
     have g0:=(HBr.out.old HB4.out).frozen 0
     have g1:=(HBr.out.old HB4.out).frozen 1
     have hrl:=(HBr.out.old HB4.out).lt
     go_wp2
     refine bodyPost_ret (v:=.tuple #[.agg #[.int .i64 0,.int .i64 0],.bool false]) (by simp [results,Tryz.results339,go_sem,y0,y1]) rfl ?_
     have hpn:pq=none:=by rw [HPv.out,H6.out,ZaC (k:=k-1) (by omega) (by rw [show k-1+1=k by omega];exact HFf.out)];rfl
     exact Zj7 (by rw [hpn];rfl) (fun u hu=>by rw [hpn] at hu;cases hu) (ZcW (ZcW (Zaf HBw.out HB4.out) (Nat.le_succ _) _) (Nat.le_succ _) _)
    ·exact k45
   ·have hkn2:¬ (k:Int) < n:=by omega
    go_wp2_with (go_at_call 335;refine (HR.out _ (Zaf HBw.out HL.out)).mono ?_;rintro r w5 ⟨rfl,hb5⟩;have HB5:=Zh (Zaf HL.out hb5);have y0:=(HBr.out.old HB5.out).cell 0 (v:=.int .i64 0) rfl;have y1:=(HBr.out.old HB5.out).cell 1 (v:=.int .i64 0) rfl;have g0:=(HBr.out.old HB5.out).frozen 0;have g1:=(HBr.out.old HB5.out).frozen 1;have hrl:=(HBr.out.old HB5.out).lt)
    refine bodyPost_ret (v:=.tuple #[.agg #[.int .i64 rk,.int .i64 rc],.bool true]) (by simp [results,Tryz.results339,go_sem,y0,y1]) rfl ?_
    have hps:pq=some ⟨rk,rc⟩:=by rw [HPv.out,H6.out,ZaD (fun j hj=>hall.out (j+1) (by omega) (by omega))];rfl
    exact Zj7 (by rw [hps];rfl) (fun u hu=>by rw [hps] at hu;exact Option.some.inj hu) (ZcW (ZcW (Zaf HBw.out HB5.out) (Nat.le_succ _) _) (Nat.le_succ _) _)
theorem Zk1 {ia:Nat} {ib:Int} (hi:ZfR m k ⟨26,(ia:Int),ib⟩) {ls l:List Ty} {la:Option Addr} {lcap:Nat} (hr:Zar w la lcap l) (hl:l.length=(Zkp m ⟨26,(ia:Int),ib⟩).length) (has:Zkp m ⟨26,(ia:Int),ib⟩=[]):
  Calls Tryz.prog 339 #[.pointer (some ⟨K,0,none⟩),.agg #[.int .i64 26,.int .i64 ia,.int .i64 ib],.slice la l.length lcap] w (Zj6 w (ZeB m ls ⟨26,(ia:Int),ib⟩ l)):=by
 have HA:=Zh (show ∀ w',Below w.heap.size w w'→_ from fun w' hb=>ZkD (H.old hb) (HM.old hb) hm hk hi (by simp))
 rw [has] at HA hl
 have hpn:ZeB m ls ⟨26,(ia:Int),ib⟩ l=none:=by
  rw [Zga rfl]
  cases hx:Zew m ⟨26,(ia:Int),ib⟩ with
  | none=>rfl
  | some x=>unfold Zkp at has;rw [if_neg (by simp),hx] at has;cases has
 obtain ⟨pq,hpq⟩:∃ q,q=ZeB m ls ⟨26,(ia:Int),ib⟩ l:=⟨_,rfl⟩
 rw [←hpq] at hpn ⊢
 have HP:=Zh hpn
 have hbr:Blk ((w.alloc (.cells #[.int .i64 26,.int .i64 ia,.int .i64 ib] 78)).alloc (.cells #[.int .i64 0,.int .i64 0] 76)) (w.heap.size+1) #[.int .i64 0,.int .i64 0] 76:=Blk.new' (w:=w.alloc (.cells #[.int .i64 26,.int .i64 ia,.int .i64 ib] 78)) _ _ (by simp)
 have hbi:Blk ((w.alloc (.cells #[.int .i64 26,.int .i64 ia,.int .i64 ib] 78)).alloc (.cells #[.int .i64 0,.int .i64 0] 76)) w.heap.size #[.int .i64 26,.int .i64 ia,.int .i64 ib] 78:=(Blk.new w _ _).alloc _
 have HBr:=Zh hbr
 have HBi:=Zh hbi
 have HB0:=Zh (show Below w.heap.size w ((w.alloc (.cells #[.int .i64 26,.int .i64 ia,.int .i64 ib] 78)).alloc (.cells #[.int .i64 0,.int .i64 0] 76)) by exact bE)
 clear hpn hpq H HM hm hk hi hr has hbr hbi
 go_enter Tryz.func339,Tryz.ntmps339
 go_wp2_with (go_at_call 336;refine (HA.out _ HB0.out).mono ?_;rintro r w2 ⟨⟨ao,cap,rfl,hrow⟩,hb2⟩;have HB2:=Zh hb2;clear hrow hb2;have i0:=(HBi.out.old HB2.out).cell 0 (v:=.int .i64 26) rfl;have y0:=(HBr.out.old HB2.out).cell 0 (v:=.int .i64 0) rfl;have y1:=(HBr.out.old HB2.out).cell 1 (v:=.int .i64 0) rfl;have g0:=(HBr.out.old HB2.out).frozen 0;have g1:=(HBr.out.old HB2.out).frozen 1;have hrl:=(HBr.out.old HB2.out).lt)
 refine bodyPost_ret (v:=.tuple #[.agg #[.int .i64 0,.int .i64 0],.bool false]) (by simp [results,Tryz.results339,go_sem,y0,y1]) rfl ?_
 exact Zj7 (by rw [HP.out];rfl) (fun u hu=>by rw [HP.out] at hu;cases hu) (ZcW (ZcW (Zaf HB0.out HB2.out) (Nat.le_succ _) _) (Nat.le_succ _) _)
theorem Zk2 {i:In3} (hi:ZfR m k i) (hop:i.op=25∨i.op=26) {ls l:List Ty} {la:Option Addr} {lcap:Nat} (hr:Zar w la lcap l) (hl:l.length=(Zex m i).1) (hty:∀ t∈l,Zfi m t):
  Calls Tryz.prog 339 #[.pointer (some ⟨K,0,none⟩),.agg #[.int .i64 i.op,.int .i64 i.a,.int .i64 i.b],.slice la l.length lcap] w (Zj6 w (ZeB m ls i l)):=by
 rw [ZkG hop] at hl
 dsimp only at hl
 have h0:=hi.a0 (by omega)
 obtain ⟨op,ia,ib⟩:=i
 dsimp only at h0 hop ⊢
 obtain ⟨ia,rfl⟩:∃ d:Nat,ia=d:=⟨ia.toNat,by omega⟩
 rcases hop with rfl|rfl
 ·exact ZkZ H HM hm hk hi hr hl hty
 ·by_cases has:Zkp m ⟨26,ia,ib⟩=[]
  ·exact Zk1 H HM hm hk hi hr hl has
  ·cases l with
   | nil=>exact absurd (List.eq_nil_of_length_eq_zero hl.symm) has
   | cons a l'=>exact Zk0 H HM hm hk hi hr hl hty rfl has
end
end
section
open Go.RowKit
theorem Zk3 {l:List VB}{k:Nat} (hk:k<l.length):Ze4 (l.take (k+1))=if (l.getD k default).op=33∧(l.getD k default).mid=false then (l.getD k default).bn else Ze4 (l.take k):=by
 unfold Ze4
 rw [Zal l k hk,List.reverse_append,List.reverse_singleton,List.singleton_append,List.find?_cons]
 generalize l.getD k default=b
 by_cases h:b.op=33
 ·cases hm:b.mid<;>simp [h]
 ·simp [h]
theorem Zk4 (K:Nat) (ao:Option Addr) (cap:Nat) (bs:List VB) (w:World) (hK:w.cell? ⟨K,6,none⟩=some (.slice ao bs.length cap)) (hrow:Zar w ao cap bs) (hl:bs.length≤1000000) :
  Calls Tryz.prog 272 #[.pointer (some ⟨K,0,none⟩)] w (Ret w (.int .i64 (Ze4 bs))):=by
 have hkl:=Zac hK
 obtain ⟨q,hq⟩:∃ q:Nat,q=Ze4 bs:=⟨_,rfl⟩
 rw [←hq]
 have HQ:=Zh hq
 have HR:=Zh hrow
 have HL:=Zh hl
 have hw1:IntKind.i64.wrap ((bs.length:Int)-1)=bs.length-1:=IntWalk.i64_in _ (by omega)
 obtain ⟨n,hn⟩:∃ n,n=bs.length:=⟨_,rfl⟩
 rw [←hn] at hK hw1 hl
 have HN:=Zh hn
 clear hq hrow hn
 go_enter Tryz.func272,Tryz.ntmps272
 go_wp2
 go_loop [3] (fun x=>∃ k:Nat,k≤n∧x=.int .i64 ((k:Int)-1)∧Ze4 (bs.take k)=q) (fun x=>((intOf x)+1).toNat)
 case atStart=>exact ⟨n,Nat.le_refl _,rfl,by rw [HN.out,List.take_length,HQ.out]⟩
 case round=>
  obtain ⟨k,hk,rfl,hkq⟩:=hrel
  have HKQ:=Zh hkq
  clear hkq
  cases k with
  | zero=>
   have h0:=HKQ.out
   rw [List.take_zero] at h0
   have h0':q=0:=h0.symm
   subst h0'
   go_wp2
   go_ret
   exact ZcT rfl bE
  | succ k=>
   have hkn:(k:Int) < n:=by omega
   obtain ⟨ad,rfl,e0,e1,-,e3⟩:=Zel HR.out (i:=k) (by have:=HN.out;omega)
   have hb:=Zk3 (l:=bs) (k:=k) (by have:=HN.out;omega)
   rw [HKQ.out] at hb
   generalize bs.getD k default=b at e0 e1 e3 hb
   obtain ⟨op,bo,bn,bc,fo,fn,fc,mid⟩:=b
   dsimp only at e0 e1 e3 hb
   have hkk:(((k+1:Nat):Int)-1)=k:=by omega
   rw [hkk]
   have hw2:IntKind.i64.wrap ((k:Int)-1)=k-1:=IntWalk.i64_in _ (by omega)
   have HB:=Zh hb
   clear hb hkk
   by_cases h33:op=33
   ·subst h33
    cases mid
    ·have hqb:q=bn:=by have:=HB.out;simpa using this
     subst hqb
     go_wp2
     go_ret
     exact ZcT rfl bE
    ·have hqb:Ze4 (bs.take k)=q:=by have:=HB.out;simp at this;exact this.symm
     have HQB:=Zh hqb
     clear hqb
     go_wp2
     go_round
     case rel=>exact ⟨k,by omega,rfl,HQB.out⟩
     case measure=>simp [intOf]
   ·have hqb:Ze4 (bs.take k)=q:=by have:=HB.out;rw [if_neg (by omega)] at this;exact this.symm
    have HQB:=Zh hqb
    have hne:(op == 33)=false:=by simpa using h33
    clear hqb h33
    go_wp2
    go_round
    case rel=>exact ⟨k,by omega,rfl,HQB.out⟩
    case measure=>simp [intOf]
theorem Zk5 {w:World}{K:Nat}{h:Hd}{m:Md}{L O:Value}{so:Option Addr}{sc:Nat}{st:List Ty}{r:Ty} (H:Pk w K h m L (.slice so st.length sc) O) (HM:Zay w h m) (hs:Zar w so sc st) (hm:Za1 m=true) (hst:∀ t∈st,Zfi m t) (hr:r.k≠0→Zfi m r) :
  Calls Tryz.prog 202 #[.pointer (some ⟨K,0,none⟩),.agg #[.int .i64 r.k,.int .i64 r.c]] w (Ret w (.int .i64 (ZeD m r st))):=by
 obtain ⟨kl,k0,k1,k2,k3,-⟩:=H.cells
 have k5:w.cell? ⟨K,5,none⟩=some (.slice so st.length sc):=Blk.cell H 5 rfl
 obtain ⟨W1,hW1⟩:∃ W1,W1=w.alloc (.cells #[.int .i64 r.k,.int .i64 r.c] 76):=⟨_,rfl⟩
 have hb1:Below w.heap.size w W1:=by rw [hW1];exact bE
 have hbi:Blk W1 w.heap.size #[.int .i64 r.k,.int .i64 r.c] 76:=by rw [hW1];exact Blk.new w _ _
 have i0:=hbi.cell 0 (v:=.int .i64 r.k) rfl
 have i1:=hbi.cell 1 (v:=.int .i64 r.c) rfl
 obtain ⟨q,hq⟩:∃ q,q=ZeD m r st:=⟨_,rfl⟩
 rw [←hq]
 obtain ⟨n,hn⟩:∃ n,n=st.length:=⟨_,rfl⟩
 have HB1:=Zh hb1
 have HW:=Zh hW1
 have HMM:=Zh HM
 by_cases hk:r.k=0
 ·have hwk:(r.k != 0)=false:=by simp [hk]
  by_cases h0:st=[]
  ·obtain rfl:q=0:=by rw [hq];unfold ZeD;rw [if_pos hk,if_pos h0]
   rw [h0] at k5
   have hS:∀ w',Below W1.heap.size W1 w'→(fun w':World=>w'.cell? ⟨K,5,none⟩=some (.slice so 0 sc)) w':=fun w' hb=>Zj4 hb (Zj4 hb1 k5)
   have HS:=Zh hS
   have k5':=hS _ (Below.refl _ _)
   clear hS k0 k1 k2 k3 k5 H HM hs hst hr hm hq hbi hb1 hW1 h0 hk hn
   go_enter Tryz.func202,Tryz.ntmps202
   go_upto_region 1 with fail
   rw [←HW.out]
   go_upto_region 6 with fail
   refine rO (fun w':World=>w'.cell? ⟨K,5,none⟩=some (.slice so 0 sc)) (oL [0,1,2,3,4,5,6,7,8,9,10,11,12,13,114,15,16]) (HS.out _ (Below.refl _ _).drew) ?_
   repeat refine pO ?_
   refine Zd3 ?_
   refine Zh0 30 (by rfl) ?_
   refine ⟨HS.out _ (Below.refl _ _).drew,?_⟩
   simp only [List.setIfInBounds_toArray,List.set_cons_zero,List.set_cons_succ]
   repeat refine pO ?_
   refine Zd5 ?_
   go_wp2
   go_ret
   exact ZcT rfl (Below.drew HB1.out)
  ·obtain rfl:q=12:=by rw [hq];unfold ZeD;rw [if_pos hk,if_neg h0]
   have hn0:((n:Int) != 0)=true:=by
    cases st with
    | nil=>exact absurd rfl h0
    | cons x y=>rw [hn];simp;omega
   rw [←hn] at k5
   have k5':=Zj4 hb1 k5
   clear k0 k1 k2 k3 k5 H HM hs hst hr hm hq hbi hb1 hW1 h0 hk hn
   exact k83
 ·have hwk:(r.k != 0)=true:=by simpa using hk
  by_cases h1:n=1
  ·obtain ⟨t,rfl⟩:∃ t,st=[t]:=by
    rw [hn] at h1
    exact List.length_eq_one_iff.1 h1
   have hq2:q=if Zet m t r then 0 else 11:=by rw [hq];unfold ZeD;rw [if_neg hk]
   obtain ⟨ad,hla,a0,a1⟩:=Zaz hs (i:=0) (by simp)
   subst hla
   simp only [Nat.zero_mul,List.getD_cons_zero,show ad.add 0=ad from by simp [Addr.add]] at a0 a1
   have hal:=Zac a0
   have HF:=Zh (show ∀ w',Below w.heap.size w w'→Calls Tryz.prog 274 #[.agg #[.slice h.co m.cl.length h.cc,.slice h.so m.st.length h.sc,.slice h.eo m.me.length h.ec,.int .i64 m.sel],.agg #[.int .i64 t.k,.int .i64 t.c],.agg #[.int .i64 r.k,.int .i64 r.c]] w' (Ret w' (.bool (Zet m t r))) from fun w' hb=>ZjS m h t r w' (HM.old hb) (fun q=>ZfF (hst t (by simp)) (.inl q)) (fun q=>(ZfF (hr hk) (.inl q)).1) (Zc8 (ZfH hm)))
   generalize Zet m t r=f at HF hq2
   obtain ⟨tk,tc⟩:=t
   dsimp only at a0 a1 HF
   have hS:∀ w',Below W1.heap.size W1 w'→(fun w':World=>w'.cell? ⟨K,0,none⟩=some (.slice h.co m.cl.length h.cc)∧w'.cell? ⟨K,1,none⟩=some (.slice h.so m.st.length h.sc)∧w'.cell? ⟨K,2,none⟩=some (.slice h.eo m.me.length h.ec)∧w'.cell? ⟨K,3,none⟩=some (.int .i64 m.sel)∧w'.cell? ⟨K,5,none⟩=some (.slice (some ad) 1 sc)∧w'.cell? ad=some (.int .i64 tk)∧w'.cell? ⟨ad.block,ad.off+1,none⟩=some (.int .i64 tc)∧w'.cell? ⟨w.heap.size,0,none⟩=some (.int .i64 r.k)∧w'.cell? ⟨w.heap.size,1,none⟩=some (.int .i64 r.c)) w':=fun w' hb=>
    ⟨Zj4 hb (Zj4 hb1 k0),Zj4 hb (Zj4 hb1 k1),Zj4 hb (Zj4 hb1 k2),Zj4 hb (Zj4 hb1 k3),Zj4 hb (Zj4 hb1 k5),Zj4 hb (Zj4 hb1 a0),Zj4 hb (Zj4 hb1 a1),Zj4 hb i0,Zj4 hb i1⟩
   have HS:=Zh hS
   have k5':=(hS _ (Below.refl _ _)).2.2.2.2.1
   clear hS k0 k1 k2 k3 k5 a0 a1 H HM hs hst hr hm hq hbi hb1 hW1 hk hn h1
   go_enter Tryz.func202,Tryz.ntmps202
   go_upto_region 1 with fail
   rw [←HW.out]
   go_upto_region 6 with fail
   clear k5' i0 i1
   refine rO (fun w':World=>w'.cell? ⟨K,0,none⟩=some (.slice h.co m.cl.length h.cc)∧w'.cell? ⟨K,1,none⟩=some (.slice h.so m.st.length h.sc)∧w'.cell? ⟨K,2,none⟩=some (.slice h.eo m.me.length h.ec)∧w'.cell? ⟨K,3,none⟩=some (.int .i64 m.sel)∧w'.cell? ⟨K,5,none⟩=some (.slice (some ad) 1 sc)∧w'.cell? ad=some (.int .i64 tk)∧w'.cell? ⟨ad.block,ad.off+1,none⟩=some (.int .i64 tc)∧w'.cell? ⟨w.heap.size,0,none⟩=some (.int .i64 r.k)∧w'.cell? ⟨w.heap.size,1,none⟩=some (.int .i64 r.c)) (oL [0,1,2,3,4,5,6,7,8,9,10,11,12,13,114,15,16]) (HS.out _ (Below.refl _ _).drew) ?_
   repeat refine pO ?_
   refine oO fun Kv hK=>?_
   go_simp
   refine (HF.out _ (Below.drew HB1.out)).mono ?_
   rintro e w2 ⟨rfl,hb2⟩
   have HB2:=Zh (show Below W1.heap.size W1 w2 from Zaf (Below.drew (Below.refl _ _)) hb2)
   refine hK _ _ ⟨HS.out _ HB2.out,?_⟩
   clear hK Kv hb2
   repeat refine pO ?_
   refine Zd5 ?_
   subst hq2
   cases f
   all_goals
    go_wp2
    go_ret
    exact ZcT rfl (Zaf HB1.out HB2.out)
  ·obtain rfl:q=12:=by
    rw [hq];unfold ZeD;rw [if_neg hk]
    split
    ·rw [hn] at h1;exact absurd rfl h1
    ·rfl
   have hn0:((n:Int) != 1)=true:=by simp;omega
   rw [←hn] at k5
   have k5':=Zj4 hb1 k5
   clear k0 k1 k2 k3 k5 H HM hs hst hr hm hq hbi hb1 hW1 hk hn
   exact k83
end
end Go.Proofs.YtcfjblcgceednaaGreat
