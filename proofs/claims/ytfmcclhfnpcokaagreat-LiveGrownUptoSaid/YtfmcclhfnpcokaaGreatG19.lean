import Derived.Test.YtfmcclhfnpcokaaGreatG18
set_option linter.all false
set_option maxRecDepth 100000
set_option maxHeartbeats 10000000
namespace Go.Proofs.YtfmcclhfnpcokaaGreat
theorem k2{p:Prop}(h:p:=by
 have hwf2:=HWf.out;rw [HDr.out] at hwf2;have hpv2:=HPv.out;rw [HDr.out] at hpv2;rcases HSe.out with ⟨h0,sso2,ssc2,oo2,oc2,bs2,hst5⟩|⟨h0,S5,O5,hc5⟩
 ·have y7:=hst5.ck.cells.2.2.2.2.2.2.2.2;have hrd:Rd w w5 K h m kk lo lc ls (k+1) ao2 cap2 (rows.length+1):=⟨⟨_,acc++[s.stk],_,sso2,ssc2,oo2,oc2,bs2,hst5,Zgr HHm.out HLt.out hk ⟨hop0,hop36⟩ HOpd.out hwf2 h0,by simp,ZjM.step HSt4.out HS4.out HU5.out,by rw [hpv2,Zfz h0,ZfB]⟩⟩;have HRd5:=Zh hrd;have HX5:=Zh (Blk.step HSt4.out HXr4.out (by decide) (by decide) HU5.out);clear hst5 hwf2 hpv2 hrd h0
  go_wp2_with fail
  go_roundw
  case rel=>exact ⟨k+1,ao2,cap2,rows.length+1,by omega,by go_num,rfl,by rw [HNr.out],HRd5,Zh (Below.refl _ _),HX5⟩
  case measure=>simp [intOf];omega
 ·have y7:=hc5.cells.2.2.2.2.2.2.2.2;obtain ⟨er,her⟩:∃ e,e=(ZeE m ls ⟨op,ia,ib⟩ s).1:=⟨_,rfl⟩;have hpe:ZeI m kk=([],k,er):=by rw [hpv2,ZfA h0,←her];exact ZkZ (by rw [her];exact h0)
  rw [←her] at y7 h0;have hn0:(er == 0)=false:=by simpa using h0
  have HBe:=Zh (St.upper HSt4.out HU5.out);have HPe:=Zh hpe;clear hc5 hwf2 hpv2 hpe her h0
  go_wp2_with fail
  refine rO (fun w':World=>w'.cell? ⟨K,7,none⟩=some (.int .i64 er)) (oL [0,1,2,3,4,5,6,7]) y7 ?_
  repeat refine pO ?_
  refine Zd7 ?_;go_wp2;go_ret3;rw [HPe.out];exact ZjO.no w HBe.out.drew k er):p:=h
theorem k7{p:Prop}(h:p:=by
 clear hsn hrk
 as_aux_lemma=>
 go_upto_region 21 with (first
  | (go_at_call 126;refine (HClo.out _ (Below.refl _ _)).mono ?_;rintro r w2 ⟨⟨to',tc,rfl,hown2⟩,hb2⟩;have HO2:=Zh hown2;have HB3':=Zh (show Below wr.heap.size wr (w2.alloc (.cells #[.slice to' s.stk.length tc] 23)) from bal hb2 _);have HSo3:=Zh (HSo.out.old HB3'.out);have HT3:=Zh (ZeR.alloc' (ZeR.own HO2.out) (.cells #[.slice to' s.stk.length tc] 23));have HX3':=Zh (ZdN (n:=1) (size:=1) (Blk.new w2 #[.slice to' s.stk.length tc] 23) rfl);have hzz:=HB3'.out.size;have hzw:=HBr.out.size;clear hown2 hb2)
  | (at_builtin;refine ZhG rfl ?_;refine Zel (.tmp 79) (.tmp 85) 34 rfl w.heap.size 23 1 24 ZjN _ rows.length _ rfl HSo3.out.own _ 1 1 [.slice to' s.stk.length tc] rfl HX3'.out (by intro u hu;rw [List.mem_singleton.1 hu];rfl) (by have:=HNr.out;omega) (by have:=HNr.out;unfold maxLen;omega) (by omega) ?_;intro ao2 cap2 w4 hown4 hg4;have HS4:=Zh (HSo3.out.snoc HT3.out hown4 hg4);have HSt4:=Zh (St.grow_st (HSt.out.old HB3'.out) HSo3.out hg4);have HXr4:=Zh (Blk.grown_st HSo3.out (HXr.out.old HB3'.out) (by decide) hg4);obtain ⟨-,m4,m5⟩:=HMc.out w4 HSt4.out.hb;clear hown4 hg4)
  | (go_at_call 132;refine (ZhC ⟨rk,rq⟩ _).mono ?_;rintro r w5 ⟨ro,rc,rfl,hto5,-,hb5⟩;rw [HRl.out];have HTo5:=Zh hto5;have HSt5:=Zh (HSt4.out.old hb5);have HS5:=Zh (HS4.out.old hb5);have HX5:=Zh (HXr4.out.old hb5);have k5':=HSt5.out.ck.cells.2.2.2.2.2.2.1;have m6':=(HMc.out w5 HSt5.out.hb).1;clear hto5 hb5))
 refine rO (fun w':World=>w'.cell? ⟨ma.block,ma.off+6,none⟩=some (.slice (h.e kk).ko nc (h.e kk).kc)) (oL [0,1,2,3,4,5,6,7]) m6' ?_
 repeat refine pO ?_
 refine Zd7 ?_;go_wp2;go_ret3;rw [HPe.out];exact ZjO.no w HSt5.out.hb.drew nc 12):p:=h
theorem k45{p:Prop}(h:p:=by
 have HFf:=Zh hfk;clear hfk;go_wp2;go_roundw
 case rel=>
  refine ⟨k+1,by omega,by omega,by go_num,HB4.out,?_,Zh fun j h1 h2=>?_⟩
  ·exact Zag HLw.out HB6.out
  ·by_cases hjk:j<k
   ·exact hall.out j h1 hjk
   ·obtain rfl:j=k:=by omega
    exact HFf.out
 case measure=>simp [intOf];omega):p:=h
theorem k76{p:Prop}(h:p:=by
 refine HB.upd hu h1 ?_;cases oo with
 | none=>exact h1
 | some a=>
  obtain ⟨g,cur,rfl,-,hgg⟩:=H.op.blk rfl;exact Zh3 HB hgg ht2):p:=h
theorem k83{p:Prop}(h:p:=by
 go_enter Tryz.func105,Tryz.ntmps105
 go_upto_region 1 with fail
 rw [←HW.out];go_wp2;go_ret;exact ZcP rfl HB1.out):p:=h
theorem k84{p:Prop}(h:p:=by
 cases oo with
 | none=>exact h1
 | some a=>
  obtain ⟨g,cur,rfl,-,hgg⟩:=H.op.blk rfl;exact HS.ne hgg (by decide)):p:=h
theorem k85{p:Prop}(h:p:=by
 obtain ⟨g,cur,rfl,-,hgg⟩:=H.op.blk ha;exact HS.ne hgg (by decide) (by rw [hb];exact congrArg some e.symm)):p:=h
section
open Go.RowKit
theorem ZkW (m:Md) (lo:List Ty) (r:Ty) (n:Nat) (s:Ps):ZeG m lo r n [] s=if ZeF m r s.stk=0 then ([s.stk],0,0) else ([],n,ZeF m r s.stk):=rfl
theorem ZkX {m:Md}{k:Nat} (H:ZfP m k) {n:Nat} (b:n<(m.me.getD k default).k.length):ZfU m k ((m.me.getD k default).k.getD n default)∧0≤((m.me.getD k default).k.getD n default).op∧((m.me.getD k default).k.getD n default).op<36:=by have a:=H.i _ (ZfX default b);exact ⟨ZfV a.1 a.2,ZfT a.1⟩
theorem ZkY {l:List In3}{n:Nat} (a:n<l.length):l.drop n=l.getD n default :: l.drop (n+1):=by rw [List.drop_eq_getElem_cons a];simp [a]
structure Rd (w wr:World) (K:Nat) (h:Hd) (m:Md) (kk:Nat) (lo:Option Addr) (lc:Nat) (ls:List Ty) (k:Nat) (so:Option Addr) (sc nr:Nat):Prop where
 ex:∃ (s:Ps) (acc:List (List Ty)) (rows:List SH) (sso:Option Addr) (ssc:Nat) (oo:Option Addr) (oc:Nat) (bs:List VB),
  St w wr K h m lo lc ls s sso ssc oo oc bs∧Wf m s ((m.me.getD kk default).k.drop k)∧rows.length=nr∧ZjM wr w.heap.size so sc rows acc ∧
  ZeI m kk=Zfx acc (ZeG m ls (m.me.getD kk default).r k ((m.me.getD kk default).k.drop k) s)
theorem St.grow {w0 w:World}{K:Nat}{h:Hd}{m:Md}{lo:Option Addr}{lc:Nat}{ls:List Ty}{s:Ps}{so:Option Addr}{sc:Nat}{oo:Option Addr}{oc:Nat}{bs:List VB} (H:St w0 w K h m lo lc ls s so sc oo oc bs) {w':World}{row:Option Nat} (hg:w.grownBy w' row)
  (hr:∀ b,row=some b→ZeS w b∧b≠K∧(∀ a,oo=some a→a.block≠b)∧w0.heap.size≤b):St w0 w' K h m lo lc ls s so sc oo oc bs:=by
 cases row with
 | none=>exact H.old ((Below.refl _ _).grown hg (Nat.le_refl _) (fun j n=>by cases n))
 | some b=>
  obtain ⟨c,f,g,l⟩:=hr b rfl;have d:Upd b b w w':=(Upd.refl b b w).grown hg (fun k hk=>.inl (Option.some.inj hk).symm);refine ⟨?_,H.ts.upd d c c,⟨ZhM H.op.own fun k hk=>d.block k (H.op.own.lt k hk).2 ?_ ?_,H.op.len,fun i hi=>(H.op.at_ i hi).upd d c c⟩,H.tl.upd d c c,d.below H.hb (Nat.le_refl _) l l,H.hK⟩
  ·exact Blk.upd H.ck d f.symm f.symm
  ·intro e;cases oo with
   | none=>cases hk
   | some a=>cases hk;exact g a rfl e
  ·intro e;cases oo with
   | none=>cases hk
   | some a=>cases hk;exact g a rfl e
theorem St.grow_st {w0 w:World}{K:Nat}{h:Hd}{m:Md}{lo:Option Addr}{lc:Nat}{ls:List Ty}{s:Ps}{sso:Option Addr}{ssc:Nat}{oo:Option Addr}{oc:Nat}{bs:List VB} (H:St w0 w K h m lo lc ls s sso ssc oo oc bs) {so:Option Addr}{sc:Nat}{rows:List SH}{sts:List (List Ty)} (HS:ZjM w w0.heap.size so sc rows sts) {w':World} (hg:w.grownBy w' (Value.slice so rows.length sc).ownBlock):St w0 w' K h m lo lc ls s sso ssc oo oc bs:=by
 refine H.grow hg fun b hb=>⟨HS.noTy hb,fun e=>?_,fun a ha e=>?_,(HS.own.lt b hb).1⟩
 ·exact HS.ne (b:=K) (show w.heap[K]?=some (.cells _ 166 (0,0)) from H.ck) (by decide) (e▸hb)
 ·exact k85
section
variable {w w':World}{w0:World}{K:Nat}{h:Hd}{m:Md}{lo:Option Addr}{lc:Nat}{ls:List Ty}{s:Ps}{sso:Option Addr}{ssc:Nat}{oo:Option Addr}{oc:Nat}{bs:List VB}(H:St w0 w K h m lo lc ls s sso ssc oo oc bs)
include w w' w0 K h m lo lc ls s sso ssc oo oc bs H
theorem ZjM.step {N:Nat} {so:Option Addr} {sc:Nat} {rows:List SH} {sts:List (List Ty)} (HS:ZjM w N so sc rows sts) (hu:Upd K (ZhL K oo) w w'):ZjM w' N so sc rows sts:=by have h1:=HS.ne (b:=K) (show w.heap[K]?=some (.cells _ 166 (0,0)) from H.ck) (by decide);refine HS.upd hu H.ck.noTy (H.op.noTy H.ck.noTy) h1 ?_;exact k84
theorem Blk.step {b:Nat} {xs:Array Value} {t:TypeId} (HB:Blk w b xs t) (ht:t≠166) (ht2:t≠232) (hu:Upd K (ZhL K oo) w w'):Blk w' b xs t:=by have h1:b≠K:=Zh3 HB H.ck ht;exact k76
end
theorem Blk.grown_st {w w':World}{N:Nat}{so:Option Addr}{sc:Nat}{rows:List SH}{sts:List (List Ty)} (HS:ZjM w N so sc rows sts) {b:Nat}{xs:Array Value}{t:TypeId} (HB:Blk w b xs t) (ht:t≠23) (hg:w.grownBy w' (Value.slice so rows.length sc).ownBlock):Blk w' b xs t:=by unfold Blk;rw [hg.block b HB.lt (fun e=>HS.ne (show w.heap[b]?=some (.cells xs t (0,0)) from HB) ht e.symm)];exact HB
theorem St.upper {w0 w:World}{K:Nat}{h:Hd}{m:Md}{lo:Option Addr}{lc:Nat}{ls:List Ty}{s:Ps}{sso:Option Addr}{ssc:Nat}{oo:Option Addr}{oc:Nat}{bs:List VB} (H:St w0 w K h m lo lc ls s sso ssc oo oc bs) {w':World} (hu:Upd K (ZhL K oo) w w'):Below w0.heap.size w0 w':=by refine hu.below H.hb (Nat.le_refl _) H.hK ?_;exact k50
theorem ZeR.alloc' {w:World}{ao:Option Addr}{cap:Nat}{l:List Ty} (H:ZeR w ao cap l) (o:Obj):ZeR (w.alloc o) ao cap l:=by
 have hb:Below w.heap.size w (w.alloc o):=by exact bE
 obtain ⟨h1,h2,h3⟩:=H;exact k73
theorem ZkZ {a:List (List Ty)}{n:Nat}{e:Int} (b:e≠0):Zfx a ([],n,e)=([],n,e):=if_neg b
theorem Zk0 (h:Hd) (m:Md) (kk:Nat) (w:World) (Hj:Zaz w h m) (hm:Za2 m=true) (hk:kk<m.me.length):Calls Tryz.prog 71 #[.agg (HM.mk h m),.int .i64 kk] w (ZjO w (ZeI m kk)):=by
 have aF:=ZfQ hm hk;obtain ⟨ls,ak⟩:∃ l,l=ZeH (m.me.getD kk default):=⟨_,rfl⟩;obtain ⟨ea,aC,-⟩:=Hj.mth hk;obtain ⟨ma,aE⟩:∃ a,a=ea.add (kk*7):=⟨_,rfl⟩;obtain ⟨nc,al⟩:∃ n,n=(m.me.getD kk default).k.length:=⟨_,rfl⟩;have bz:nc≤120:=by rw [al];exact aF.z.2.2
 have aT:∀ w',Below w.heap.size w w'→w'.cell? ⟨ma.block,ma.off+6,none⟩=some (.slice (h.e kk).ko nc (h.e kk).kc)∧w'.cell? ⟨ma.block,ma.off+4,none⟩=some (.int .i64 (m.me.getD kk default).r.k)∧w'.cell? ⟨ma.block,ma.off+5,none⟩=some (.int .i64 (m.me.getD kk default).r.c):=fun w' g=>by obtain ⟨ad,V,-,-,-,-,h4,h5,h6⟩:=(Hj.old g).mth hk;rw [aC] at V;cases V;rw [←aE] at h4 h5 h6;rw [←al] at h6;exact ⟨h6,h4,h5⟩
 have aD:=ZfR hm hk;have bm:=ZfS hm hk;rw [←ak] at aD bm;have az:Below w.heap.size w (w.alloc (.cells (HM.mk h m) 26)):=by exact bE
 have ab:=Blk.new w (HM.mk h m) 26;have a7:=Zh (show ∀ w',Below w.heap.size w w'→Calls Tryz.prog 125 #[.agg (HM.mk h m),.int .i64 kk] w' (Zim 38 w' ls 0) from fun w' g=>by rw [ak];exact Zit m h kk w' (Hj.old g) hm hk);have hS:∀ w',Below (w.alloc (.cells (HM.mk h m) 26)).heap.size (w.alloc (.cells (HM.mk h m) 26)) w'→(fun w':World=>w'.cell? ⟨w.heap.size,0,none⟩=some (.slice h.co m.cl.length h.cc)∧w'.cell? ⟨w.heap.size,1,none⟩=some (.slice h.so m.st.length h.sc)∧w'.cell? ⟨w.heap.size,2,none⟩=some (.slice h.eo m.me.length h.ec)∧w'.cell? ⟨w.heap.size,3,none⟩=some (.int .i64 m.sel)) w':=fun w' g=>by have hx:=ab.old g;exact ⟨hx.cell 0 rfl,hx.cell 1 rfl,hx.cell 2 rfl,hx.cell 3 rfl⟩
 have HS:=Zh hS;have U:=Zh Hj;have HHm:=Zh hm;have ap:=Zh aF;have a8:=Zh ak;have HMc:=Zh aT;have HLt:=Zh aD;have aK:=Zh al;have a5:=Zh aC;have a9:=Zh aE;obtain ⟨W1,ay⟩:∃ W1,W1=w.alloc (.cells (HM.mk h m) 26):=⟨_,rfl⟩;rw [←ay] at HS az ab;have ba:=Zh ay;have aJ:=Zh az;have aO:=Zh ab;have bH:w.heap.size<W1.heap.size:=ab.lt;clear hS ab Hj hm aF ak aT aD al aC aE ay az;go_enter Tryz.func71,Tryz.ntmps71
 go_wp2_with fail
 rw [←ba.out];refine (a7.out _ aJ.out).mono ?_;rintro r w2 ⟨⟨lo,lc,rfl,hown2⟩,hb2⟩;have HB2:=Zh hb2;have a6:=Zh (ZeR.own hown2);clear hown2 hb2;have aI:=Zh (Zag aJ.out HB2.out);have HSt:=Zh (St.start (h:=h) (m:=m) aI.out a6.out);obtain ⟨W3,ai⟩:∃ W3,W3=w2.alloc (.cells (ckC h m (.slice lo ls.length lc) (.slice none 0 0) (.slice none 0 0) 0) 166):=⟨_,rfl⟩;rw [←ai] at HSt;have aA:Below w2.heap.size w2 W3:=by rw [ai];exact bE
 have a4:=Zh (Zag aI.out aA);have T:=aO.out.old (Zag HB2.out aA);have q0:=T.cell 0 (v:=.slice h.co m.cl.length h.cc) rfl;have q1:=T.cell 1 (v:=.slice h.so m.st.length h.sc) rfl;have q2:W3.cell? ⟨w.heap.size,2,none⟩=some (.slice (some ea) m.me.length h.ec):=by rw [←a5.out];exact T.cell 2 rfl
 have q3:=T.cell 3 (v:=.int .i64 m.sel) rfl;have ac:=aO.out.old HB2.out;have p0:=ac.cell 0 (v:=.slice h.co m.cl.length h.cc) rfl;have p1:=ac.cell 1 (v:=.slice h.so m.st.length h.sc) rfl;have p2:w2.cell? ⟨w.heap.size,2,none⟩=some (.slice h.eo m.me.length h.ec):=ac.cell 2 rfl;have p3:=ac.cell 3 (v:=.int .i64 m.sel) rfl;have m6:=(HMc.out W3 a4.out).1;have bc:=Zh T;have bb:=Zh (show W3=w2.alloc (.cells #[.slice h.co m.cl.length h.cc,.slice h.so m.st.length h.sc,.slice h.eo m.me.length h.ec,.int .i64 m.sel,.slice lo ls.length lc,.slice none 0 0,.slice none 0 0,.int .i64 0] 166) from ai);have bw:(kk:Int) < m.me.length:=by omega
 clear T ac aA ai
 go_upto_region 3 with fail
 rw [←bb.out];clear p0 p1 p2 p3
 go_upto_region 4 with fail
 rw [←a9.out]
 go_wp2_with fail
 obtain ⟨K,hK⟩:∃ K,K=w2.heap.size:=⟨_,rfl⟩;rw [←hK] at HSt ⊢;clear hK;have M:Wf m ⟨[],[]⟩ (m.me.getD kk default).k:=Zfq ap.out.n;have Y:ZeI m kk=Zfx [] (ZeG m ls (m.me.getD kk default).r 0 (m.me.getD kk default).k ⟨[],[]⟩):=by rw [←ZfE,a8.out];rfl
 have aM:=Zh (show Rd w W3 K h m kk lo lc ls 0 none 0 0 from ⟨⟨_,[],[],_,_,_,_,_,HSt.out,by rw [List.drop_zero];exact M,rfl,ZjM.nil _ _,by rw [List.drop_zero];exact Y⟩⟩);clear M Y q0 q1 q2 q3 m6 HSt
 go_loopw [4,33] (fun a i wr=>∃ (k:Nat) (so:Option Addr) (sc nr:Nat),k≤nc∧i=.int .i64 k∧a=.slice so nr sc∧nr=k∧Hid (Rd w wr K h m kk lo lc ls k so sc nr)∧Hid (Below W3.heap.size W3 W3)∧Hid (Blk wr w.heap.size (HM.mk h m) 26)) (fun _ i _=>nc-(intOf i).toNat)
 case atStart=>exact ⟨0,none,0,0,by omega,rfl,rfl,rfl,aM,Zh (Below.refl _ _),bc⟩
 case round=>
  obtain ⟨k,so,sc,nr,bD,rfl,rfl,aU,HR,-,HXr⟩:=hrel;have HNr:=Zh aU;clear aU;obtain ⟨s,acc,rows,sso,ssc,oo,oc,bs,R,M,bn,aY,Y⟩:=HR.out.ex;subst bn;have HSt:=Zh R;have HWf:=Zh M;have HSo:=Zh aY;have HPv:=Zh Y;have k5:=R.ck.cells.2.2.2.2.2.2.1;have k7:=R.ck.cells.2.2.2.2.2.2.2.2;have aB:=R.hb;have kl:=Blk.lt R.ck;have HBr:=Zh aB;have m6:=(HMc.out wr aB).1;have aX:=M.stk.1;have am:=M.depth;clear R M aY Y aB aM HR;by_cases hkl:k<nc
  ·have bx:(k:Int) < nc:=by omega
   have aj:k<(m.me.getD kk default).k.length:=by have:=aK.out;omega
   obtain ⟨X,hop0,hop36⟩:=ZkX ap.out aj;obtain ⟨ka,aS,i0,i1,i2⟩:=ZaB ((U.out.old HBr.out).k kk hk) aj;obtain ⟨i,hi⟩:∃ i,i=(m.me.getD kk default).k.getD k default:=⟨_,rfl⟩;have aR:(m.me.getD kk default).k.drop k=i :: (m.me.getD kk default).k.drop (k+1):=by rw [hi];exact ZkY aj
   rw [←hi] at X hop0 hop36 i0 i1 i2;have bG:IntKind.i64.wrap ((k:Int)+1)=k+1:=IntWalk.i64_in _ (by omega);obtain ⟨op,ia,ib⟩:=i;dsimp only at i0 i1 i2 hop0 hop36;have HOpd:=Zh X;have HDr:=Zh aR;have HClo:=Zh (show ∀ w',Below wr.heap.size wr w'→Calls Tryz.prog 126 #[.slice sso s.stk.length ssc] w' (Zfi 38 w' s.stk) from fun w' g=>ZhE w' sso ssc s.stk (HSt.out.ts.1.old g) (by omega));rw [aS];clear X aR hi aS m6 aj;by_cases f:ZaS op=true
   ·have aG:ZaS op=true:=f;have F:=Zh f;have aG:=f;clear f
    as_aux_lemma=>
    go_upto_region 15 with (first
     | (go_at_call 126;refine (HClo.out _ bE).mono ?_;rintro r w2 ⟨⟨to',tc,rfl,hown2⟩,hb2⟩;have HO2:=Zh hown2;have HB2:=Zh (Zag (show Below wr.heap.size wr (wr.alloc (.cells #[.int .i64 op,.int .i64 ia,.int .i64 ib] 72)) by exact bE) hb2);have HB3':=Zh (show Below wr.heap.size wr (w2.alloc (.cells #[.slice to' s.stk.length tc] 23)) from bal HB2.out _);have HSo3:=Zh (HSo.out.old HB3'.out);have HT3:=Zh (ZeR.alloc' (ZeR.own HO2.out) (.cells #[.slice to' s.stk.length tc] 23));have HX3':=Zh (ZdN (n:=1) (size:=1) (Blk.new w2 #[.slice to' s.stk.length tc] 23) rfl);have J:=Zh (Blk.old (w:=wr.alloc (.cells #[.int .i64 op,.int .i64 ia,.int .i64 ib] 72)) (Blk.new wr #[.int .i64 op,.int .i64 ia,.int .i64 ib] 72) (Zag hb2 (show Below w2.heap.size w2 (w2.alloc (.cells #[.slice to' s.stk.length tc] 23)) by exact bE)));have hzz:=HB3'.out.size;have hzw:=HBr.out.size;clear hown2 hb2)
     | (at_builtin;refine ZhG rfl ?_;refine Zel (.tmp 38) (.tmp 44) 34 rfl w.heap.size 23 1 24 ZjN _ rows.length _ rfl HSo3.out.own _ 1 1 [.slice to' s.stk.length tc] rfl HX3'.out (by intro u hu;rw [List.mem_singleton.1 hu];rfl) (by have:=HNr.out;omega) (by have:=HNr.out;unfold maxLen;omega) (by omega) ?_;intro ao2 cap2 w4 hown4 hg4;have HS4:=Zh (HSo3.out.snoc HT3.out hown4 hg4);have HSt4:=Zh (St.grow_st (HSt.out.old HB3'.out) HSo3.out hg4);have y:=Blk.grown_st HSo3.out J.out (by decide) hg4;have HXr4:=Zh (Blk.grown_st HSo3.out (HXr.out.old HB3'.out) (by decide) hg4);have e0:=y.cell 0 (v:=.int .i64 op) rfl;have e1:=y.cell 1 (v:=.int .i64 ia) rfl;have e2:=y.cell 2 (v:=.int .i64 ib) rfl;have z:=Zh (Zjb (i:=⟨op,ia,ib⟩) HHm.out HLt.out HWf.out.stk HSt4.out U.out am HOpd.out HWf.out.base (by have:=F.out;simp only [ZaS,inI,Bool.and_eq_true,decide_eq_true_eq] at this;exact this));clear hown4 hg4 y)
     | (go_at_call 127;refine (ZcL _ _).mono ?_;rintro e w' ⟨rfl,rfl⟩)
     | (go_at_call 128;refine z.out.mono ?_;rintro r w5 ⟨⟨v,rfl⟩,C,B⟩;have HU5:=Zh C;have HSe:=Zh B;clear C B))
    exact k2
   ·have aG:ZaS op=false:=by simpa using f
    have aL:=Zh aG;clear f;by_cases f:op=34
    ·have aV:(op == 34)=true:=by simpa using f
     have D:=Zh (show ∃ q:List Opn × Opn,True∧s.opn=q.1++[q.2]∧q.2.beg.length≤12 from by
      have V:=HWf.out;rw [HDr.out] at V;obtain ⟨r,o,h2,_⟩:=V.else_ f;refine ⟨(r,o),trivial,h2,?_⟩;have h3:=V.opn;rw [h2,List.reverse_append,List.reverse_singleton,List.singleton_append] at h3;exact h3.1.1)
     obtain ⟨⟨r0,o0⟩,W⟩:=D.out;clear D;have D:=Zh W;clear W;have F:=Zh f;have aV:(op == 34)=true:=by simpa using f
     clear f
     as_aux_lemma=>
     go_upto_region 15 with (first
      | (go_at_call 126;refine (HClo.out _ bE).mono ?_;rintro r w2 ⟨⟨to',tc,rfl,hown2⟩,hb2⟩;have HO2:=Zh hown2;have HB2:=Zh (Zag (show Below wr.heap.size wr (wr.alloc (.cells #[.int .i64 op,.int .i64 ia,.int .i64 ib] 72)) by exact bE) hb2);have HB3':=Zh (show Below wr.heap.size wr (w2.alloc (.cells #[.slice to' s.stk.length tc] 23)) from bal HB2.out _);have HSo3:=Zh (HSo.out.old HB3'.out);have HT3:=Zh (ZeR.alloc' (ZeR.own HO2.out) (.cells #[.slice to' s.stk.length tc] 23));have HX3':=Zh (ZdN (n:=1) (size:=1) (Blk.new w2 #[.slice to' s.stk.length tc] 23) rfl);have J:=Zh (Blk.old (w:=wr.alloc (.cells #[.int .i64 op,.int .i64 ia,.int .i64 ib] 72)) (Blk.new wr #[.int .i64 op,.int .i64 ia,.int .i64 ib] 72) (Zag hb2 (show Below w2.heap.size w2 (w2.alloc (.cells #[.slice to' s.stk.length tc] 23)) by exact bE)));have hzz:=HB3'.out.size;have hzw:=HBr.out.size;clear hown2 hb2)
      | (at_builtin;refine ZhG rfl ?_;refine Zel (.tmp 38) (.tmp 44) 34 rfl w.heap.size 23 1 24 ZjN _ rows.length _ rfl HSo3.out.own _ 1 1 [.slice to' s.stk.length tc] rfl HX3'.out (by intro u hu;rw [List.mem_singleton.1 hu];rfl) (by have:=HNr.out;omega) (by have:=HNr.out;unfold maxLen;omega) (by omega) ?_;intro ao2 cap2 w4 hown4 hg4;have HS4:=Zh (HSo3.out.snoc HT3.out hown4 hg4);have HSt4:=Zh (St.grow_st (HSt.out.old HB3'.out) HSo3.out hg4);have y:=Blk.grown_st HSo3.out J.out (by decide) hg4;have HXr4:=Zh (Blk.grown_st HSo3.out (HXr.out.old HB3'.out) (by decide) hg4);have e0:=y.cell 0 (v:=.int .i64 op) rfl;have e1:=y.cell 1 (v:=.int .i64 ia) rfl;have e2:=y.cell 2 (v:=.int .i64 ib) rfl;have z:=Zh ((fun _=>Zj5 (i:=⟨op,ia,ib⟩) HSt4.out F.out D.out.2.1 am D.out.2.2) ());clear hown4 hg4 y)
      | (go_at_call 127;refine (ZcL _ _).mono ?_;rintro e w' ⟨rfl,rfl⟩)
      | (go_at_call 129;refine z.out.mono ?_;rintro r w5 ⟨⟨v,rfl⟩,C,B⟩;have HU5:=Zh C;have HSe:=Zh B;clear C B))
     exact k2
    ·have aV:(op == 34)=false:=by simpa using f
     have aP:=f;clear f;by_cases f:op=35
     ·have aW:(op == 35)=true:=by simpa using f
      clear aP;have D:=Zh (show ∃ q:List Opn × Opn,True∧s.opn=q.1++[q.2] from by
       have V:=HWf.out;rw [HDr.out] at V;obtain ⟨r,o,h2,_⟩:=V.end_ f;exact ⟨(r,o),trivial,h2⟩)
      obtain ⟨⟨r0,o0⟩,W⟩:=D.out;clear D;have D:=Zh W;clear W;have F:=Zh f;have aW:(op == 35)=true:=by simpa using f
      clear f
      as_aux_lemma=>
      go_upto_region 15 with (first
       | (go_at_call 126;refine (HClo.out _ bE).mono ?_;rintro r w2 ⟨⟨to',tc,rfl,hown2⟩,hb2⟩;have HO2:=Zh hown2;have HB2:=Zh (Zag (show Below wr.heap.size wr (wr.alloc (.cells #[.int .i64 op,.int .i64 ia,.int .i64 ib] 72)) by exact bE) hb2);have HB3':=Zh (show Below wr.heap.size wr (w2.alloc (.cells #[.slice to' s.stk.length tc] 23)) from bal HB2.out _);have HSo3:=Zh (HSo.out.old HB3'.out);have HT3:=Zh (ZeR.alloc' (ZeR.own HO2.out) (.cells #[.slice to' s.stk.length tc] 23));have HX3':=Zh (ZdN (n:=1) (size:=1) (Blk.new w2 #[.slice to' s.stk.length tc] 23) rfl);have J:=Zh (Blk.old (w:=wr.alloc (.cells #[.int .i64 op,.int .i64 ia,.int .i64 ib] 72)) (Blk.new wr #[.int .i64 op,.int .i64 ia,.int .i64 ib] 72) (Zag hb2 (show Below w2.heap.size w2 (w2.alloc (.cells #[.slice to' s.stk.length tc] 23)) by exact bE)));have hzz:=HB3'.out.size;have hzw:=HBr.out.size;clear hown2 hb2)
       | (at_builtin;refine ZhG rfl ?_;refine Zel (.tmp 38) (.tmp 44) 34 rfl w.heap.size 23 1 24 ZjN _ rows.length _ rfl HSo3.out.own _ 1 1 [.slice to' s.stk.length tc] rfl HX3'.out (by intro u hu;rw [List.mem_singleton.1 hu];rfl) (by have:=HNr.out;omega) (by have:=HNr.out;unfold maxLen;omega) (by omega) ?_;intro ao2 cap2 w4 hown4 hg4;have HS4:=Zh (HSo3.out.snoc HT3.out hown4 hg4);have HSt4:=Zh (St.grow_st (HSt.out.old HB3'.out) HSo3.out hg4);have y:=Blk.grown_st HSo3.out J.out (by decide) hg4;have HXr4:=Zh (Blk.grown_st HSo3.out (HXr.out.old HB3'.out) (by decide) hg4);have e0:=y.cell 0 (v:=.int .i64 op) rfl;have e1:=y.cell 1 (v:=.int .i64 ia) rfl;have e2:=y.cell 2 (v:=.int .i64 ib) rfl;have z:=Zh (Zj6 (i:=⟨op,ia,ib⟩) HSt4.out F.out D.out.2 am aX);clear hown4 hg4 y)
       | (go_at_call 127;refine (ZcL _ _).mono ?_;rintro e w' ⟨rfl,rfl⟩)
       | (go_at_call 130;refine z.out.mono ?_;rintro r w5 ⟨⟨v,rfl⟩,C,B⟩;have HU5:=Zh C;have HSe:=Zh B;clear C B))
      exact k2
     ·have aW:(op == 35)=false:=by simpa using f
      have bi:=f;clear f;have f:op<29:=by have V:=aL.out;simp only [ZaS,inI,Bool.and_eq_false_iff,decide_eq_false_iff_not] at V;omega
      clear aP bi;have F:=Zh f;clear f
      as_aux_lemma=>
      go_upto_region 15 with (first
       | (go_at_call 126;refine (HClo.out _ bE).mono ?_;rintro r w2 ⟨⟨to',tc,rfl,hown2⟩,hb2⟩;have HO2:=Zh hown2;have HB2:=Zh (Zag (show Below wr.heap.size wr (wr.alloc (.cells #[.int .i64 op,.int .i64 ia,.int .i64 ib] 72)) by exact bE) hb2);have HB3':=Zh (show Below wr.heap.size wr (w2.alloc (.cells #[.slice to' s.stk.length tc] 23)) from bal HB2.out _);have HSo3:=Zh (HSo.out.old HB3'.out);have HT3:=Zh (ZeR.alloc' (ZeR.own HO2.out) (.cells #[.slice to' s.stk.length tc] 23));have HX3':=Zh (ZdN (n:=1) (size:=1) (Blk.new w2 #[.slice to' s.stk.length tc] 23) rfl);have J:=Zh (Blk.old (w:=wr.alloc (.cells #[.int .i64 op,.int .i64 ia,.int .i64 ib] 72)) (Blk.new wr #[.int .i64 op,.int .i64 ia,.int .i64 ib] 72) (Zag hb2 (show Below w2.heap.size w2 (w2.alloc (.cells #[.slice to' s.stk.length tc] 23)) by exact bE)));have hzz:=HB3'.out.size;have hzw:=HBr.out.size;clear hown2 hb2)
       | (at_builtin;refine ZhG rfl ?_;refine Zel (.tmp 38) (.tmp 44) 34 rfl w.heap.size 23 1 24 ZjN _ rows.length _ rfl HSo3.out.own _ 1 1 [.slice to' s.stk.length tc] rfl HX3'.out (by intro u hu;rw [List.mem_singleton.1 hu];rfl) (by have:=HNr.out;omega) (by have:=HNr.out;unfold maxLen;omega) (by omega) ?_;intro ao2 cap2 w4 hown4 hg4;have HS4:=Zh (HSo3.out.snoc HT3.out hown4 hg4);have HSt4:=Zh (St.grow_st (HSt.out.old HB3'.out) HSo3.out hg4);have y:=Blk.grown_st HSo3.out J.out (by decide) hg4;have HXr4:=Zh (Blk.grown_st HSo3.out (HXr.out.old HB3'.out) (by decide) hg4);have e0:=y.cell 0 (v:=.int .i64 op) rfl;have e1:=y.cell 1 (v:=.int .i64 ia) rfl;have e2:=y.cell 2 (v:=.int .i64 ib) rfl;have z:=Zh ((ZkG (i:=⟨op,ia,ib⟩) HHm.out HLt.out HWf.out.stk HSt4.out U.out am HOpd.out HWf.out.base hk ⟨hop0,F.out⟩).mono fun r w5 hp=>ZhY HSt4.out (by dsimp only;have:=F.out;omega) (by dsimp only;have:=F.out;omega) aL.out hp);clear hown4 hg4 y)
       | (go_at_call 127;refine (ZcL _ _).mono ?_;rintro e w' ⟨rfl,rfl⟩)
       | (go_at_call 131;refine z.out.mono ?_;rintro r w5 ⟨⟨v,rfl⟩,C,B⟩;have HU5:=Zh C;have HSe:=Zh B;clear C B))
      exact k2
  ·have bk:nc=k:=by omega
   subst bk;have aQ:(m.me.getD kk default).k.drop nc=[]:=by rw [List.drop_eq_nil_iff];have:=aK.out;omega
   have hpv2:=HPv.out;rw [aQ] at hpv2;obtain ⟨⟨rk,rq⟩,hr⟩:∃ r:Ty,r=(m.me.getD kk default).r:=⟨_,rfl⟩;rw [←hr,ZkW] at hpv2;have aH:=ap.out.r;rw [←hr] at aH;rw [←hr] at HMc;have G:=Zh hpv2;have aN:=Zh aH;have HClo:=Zh (show ∀ w',Below wr.heap.size wr w'→Calls Tryz.prog 126 #[.slice sso s.stk.length ssc] w' (Zfi 38 w' s.stk) from fun w' g=>ZhE w' sso ssc s.stk (HSt.out.ts.1.old g) (by omega));clear aQ hpv2 hr aH m6 k7 hkl;by_cases hrk:rk=0
   ·by_cases hsn:s.stk=[]
    ·have HRl:=Zh (show (ZhB ⟨rk,rq⟩).length=0 from by unfold ZhB;rw [if_pos hrk];rfl);have N:((s.stk.length:Int) == 0)=true:=by simp [hsn]
     have HPe:=Zh (show ZeI m kk=(acc++[s.stk],0,0) from by rw [G.out,hsn,ZjP hrk];rfl);clear hsn hrk
     as_aux_lemma=>
     go_upto_region 22 with (first
      | (go_at_call 126;refine (HClo.out _ (Below.refl _ _)).mono ?_;rintro r w2 ⟨⟨to',tc,rfl,hown2⟩,hb2⟩;have HO2:=Zh hown2;have HB3':=Zh (show Below wr.heap.size wr (w2.alloc (.cells #[.slice to' s.stk.length tc] 23)) from bal hb2 _);have HSo3:=Zh (HSo.out.old HB3'.out);have HT3:=Zh (ZeR.alloc' (ZeR.own HO2.out) (.cells #[.slice to' s.stk.length tc] 23));have HX3':=Zh (ZdN (n:=1) (size:=1) (Blk.new w2 #[.slice to' s.stk.length tc] 23) rfl);have hzz:=HB3'.out.size;have hzw:=HBr.out.size;clear hown2 hb2)
      | (at_builtin;refine ZhG rfl ?_;refine Zel (.tmp 79) (.tmp 85) 34 rfl w.heap.size 23 1 24 ZjN _ rows.length _ rfl HSo3.out.own _ 1 1 [.slice to' s.stk.length tc] rfl HX3'.out (by intro u hu;rw [List.mem_singleton.1 hu];rfl) (by have:=HNr.out;omega) (by have:=HNr.out;unfold maxLen;omega) (by omega) ?_;intro ao2 cap2 w4 hown4 hg4;have HS4:=Zh (HSo3.out.snoc HT3.out hown4 hg4);have HSt4:=Zh (St.grow_st (HSt.out.old HB3'.out) HSo3.out hg4);have HXr4:=Zh (Blk.grown_st HSo3.out (HXr.out.old HB3'.out) (by decide) hg4);obtain ⟨-,m4,m5⟩:=HMc.out w4 HSt4.out.hb;clear hown4 hg4)
      | (go_at_call 132;refine (ZhC ⟨rk,rq⟩ _).mono ?_;rintro r w5 ⟨ro,rc,rfl,hto5,-,hb5⟩;rw [HRl.out];have HTo5:=Zh hto5;have HSt5:=Zh (HSt4.out.old hb5);have HS5:=Zh (HS4.out.old hb5);have HX5:=Zh (HXr4.out.old hb5);have k5':=HSt5.out.ck.cells.2.2.2.2.2.2.1;have m6':=(HMc.out w5 HSt5.out.hb).1;clear hto5 hb5))
     refine rO (fun _:World=>True) (oL [0,1,2,3,4,5,6,7,8,9,10,11,12,13,114,15,16]) trivial ?_
     repeat refine pO ?_
     refine Zd5 ?_;refine Zh4 119 (by rfl) ?_;refine ⟨trivial,?_⟩;simp only [List.setIfInBounds_toArray,List.set_cons_zero,List.set_cons_succ]
     repeat refine pO ?_
     refine Zd7 ?_;go_wp2;go_ret3;rw [HPe.out];exact ⟨⟨ao2,cap2,rows++[⟨to',s.stk.length,tc⟩],by simp,HS5.out.old bE⟩,HSt5.out.hb.drew⟩
    ·have HRl:=Zh (show (ZhB ⟨rk,rq⟩).length=0 from by unfold ZhB;rw [if_pos hrk];rfl);have N:((s.stk.length:Int) == 0)=false:=by simp [hsn]
     have HPe:=Zh (show ZeI m kk=([],nc,12) from by rw [G.out,ZjQ hrk hsn];rfl);exact k7
   ·by_cases hsn:s.stk.length=1
    ·obtain ⟨⟨tk,tq⟩,I⟩:=one_of hsn;cases hft:Zev m ⟨tk,tq⟩ ⟨rk,rq⟩
     ·have HRl:=Zh (show (ZhB ⟨rk,rq⟩).length=1 from by unfold ZhB;rw [if_neg hrk];rfl);have N:((s.stk.length:Int) == 1)=true:=by simp [hsn]
      have HPe:=Zh (show ZeI m kk=([],nc,11) from by rw [G.out,I,ZjR hrk,hft];rfl);have bl:0<s.stk.length:=by omega
      have ao:=Zh (show Zhr m ⟨tk,tq⟩ ⟨rk,rq⟩=false from by rw [ZiA HHm.out (HWf.out.stk.2 _ (by rw [I];simp)) (ZfI aN.out hrk),hft]);have ar:=Zh I;have aq:=Zh (show (ZhB ⟨rk,rq⟩).getD 0 default=⟨rk,rq⟩ from by unfold ZhB;rw [if_neg hrk];rfl);clear I hft;clear hsn hrk
      as_aux_lemma=>
      go_upto_region 22 with (first
       | (go_at_call 126;refine (HClo.out _ (Below.refl _ _)).mono ?_;rintro r w2 ⟨⟨to',tc,rfl,hown2⟩,hb2⟩;have HO2:=Zh hown2;have HB3':=Zh (show Below wr.heap.size wr (w2.alloc (.cells #[.slice to' s.stk.length tc] 23)) from bal hb2 _);have HSo3:=Zh (HSo.out.old HB3'.out);have HT3:=Zh (ZeR.alloc' (ZeR.own HO2.out) (.cells #[.slice to' s.stk.length tc] 23));have HX3':=Zh (ZdN (n:=1) (size:=1) (Blk.new w2 #[.slice to' s.stk.length tc] 23) rfl);have hzz:=HB3'.out.size;have hzw:=HBr.out.size;clear hown2 hb2)
       | (at_builtin;refine ZhG rfl ?_;refine Zel (.tmp 79) (.tmp 85) 34 rfl w.heap.size 23 1 24 ZjN _ rows.length _ rfl HSo3.out.own _ 1 1 [.slice to' s.stk.length tc] rfl HX3'.out (by intro u hu;rw [List.mem_singleton.1 hu];rfl) (by have:=HNr.out;omega) (by have:=HNr.out;unfold maxLen;omega) (by omega) ?_;intro ao2 cap2 w4 hown4 hg4;have HS4:=Zh (HSo3.out.snoc HT3.out hown4 hg4);have HSt4:=Zh (St.grow_st (HSt.out.old HB3'.out) HSo3.out hg4);have HXr4:=Zh (Blk.grown_st HSo3.out (HXr.out.old HB3'.out) (by decide) hg4);obtain ⟨-,m4,m5⟩:=HMc.out w4 HSt4.out.hb;clear hown4 hg4)
       | (go_at_call 132;refine (ZhC ⟨rk,rq⟩ _).mono ?_;rintro r w5 ⟨ro,rc,rfl,hto5,-,hb5⟩;rw [HRl.out];have HTo5:=Zh hto5;have HSt5:=Zh (HSt4.out.old hb5);have HS5:=Zh (HS4.out.old hb5);have HX5:=Zh (HXr4.out.old hb5);have k5':=HSt5.out.ck.cells.2.2.2.2.2.2.1;have m6':=(HMc.out w5 HSt5.out.hb).1;clear hto5 hb5))
      obtain ⟨A,Z,t0,t1⟩:=ZaA HSt5.out.ts.1 (i:=0) (by omega);obtain ⟨E,aa,u0,u1⟩:=ZaA HTo5.out.1 (i:=0) (by rw [HRl.out];decide);rw [Nat.zero_mul,show A.add 0=A from by simp [Addr.add],ar.out] at t0 t1;rw [Nat.zero_mul,show E.add 0=E from by simp [Addr.add],aq.out] at u0 u1;dsimp only [List.getD_cons_zero] at t0 t1 u0 u1;rw [Z] at k5';rw [aa];have g0:=HX5.out.cell 0 (v:=.slice h.co m.cl.length h.cc) rfl;have g1:=HX5.out.cell 1 (v:=.slice h.so m.st.length h.sc) rfl;have g2:w5.cell? ⟨w.heap.size,2,none⟩=some (.slice h.eo m.me.length h.ec):=HX5.out.cell 2 rfl;have g3:=HX5.out.cell 3 (v:=.int .i64 m.sel) rfl;have hS:∀ w',Below w5.heap.size w5 w'→(fun w':World=>w'.cell? ⟨w.heap.size,0,none⟩=some (.slice h.co m.cl.length h.cc)∧w'.cell? ⟨w.heap.size,1,none⟩=some (.slice h.so m.st.length h.sc)∧w'.cell? ⟨w.heap.size,2,none⟩=some (.slice h.eo m.me.length h.ec)∧w'.cell? ⟨w.heap.size,3,none⟩=some (.int .i64 m.sel)∧w'.cell? ⟨K,5,none⟩=some (.slice (some A) s.stk.length ssc)∧w'.cell? A=some (.int .i64 tk)∧w'.cell? ⟨A.block,A.off+1,none⟩=some (.int .i64 tq)∧w'.cell? E=some (.int .i64 rk)∧w'.cell? ⟨E.block,E.off+1,none⟩=some (.int .i64 rq)) w':=fun w' g=>⟨(g.cell (Zad g0)).trans g0,(g.cell (Zad g1)).trans g1,(g.cell (Zad g2)).trans g2,(g.cell (Zad g3)).trans g3,(g.cell (Zad k5')).trans k5',(g.cell (Zad t0)).trans t0,(g.cell (p:=⟨A.block,A.off+1,none⟩) (Zad t1)).trans t1,(g.cell (Zad u0)).trans u0,(g.cell (p:=⟨E.block,E.off+1,none⟩) (Zad u1)).trans u1⟩;have HS:=Zh hS
      have an:=Zh (show ∀ w',Below w5.heap.size w5 w'→Calls Tryz.prog 133 #[.agg (HM.mk h m),.agg #[.int .i64 tk,.int .i64 tq],.agg #[.int .i64 rk,.int .i64 rq]] w' (Ret w' (.bool false)) from fun w' g=>by have:=Zht m h ⟨tk,tq⟩ ⟨rk,rq⟩ w' (U.out.old (Zag HSt5.out.hb g));rw [ao.out] at this;exact this);clear hS Z aa t0 t1 u0 u1 g0 g1 g2 g3 k5';refine rO (fun w':World=>w'.cell? ⟨w.heap.size,0,none⟩=some (.slice h.co m.cl.length h.cc)∧w'.cell? ⟨w.heap.size,1,none⟩=some (.slice h.so m.st.length h.sc)∧w'.cell? ⟨w.heap.size,2,none⟩=some (.slice h.eo m.me.length h.ec)∧w'.cell? ⟨w.heap.size,3,none⟩=some (.int .i64 m.sel)∧w'.cell? ⟨K,5,none⟩=some (.slice (some A) s.stk.length ssc)∧w'.cell? A=some (.int .i64 tk)∧w'.cell? ⟨A.block,A.off+1,none⟩=some (.int .i64 tq)∧w'.cell? E=some (.int .i64 rk)∧w'.cell? ⟨E.block,E.off+1,none⟩=some (.int .i64 rq)) (oL [0,1,2,3,4,5,6,7,8,9,10,11,12,13,114,15,16]) (HS.out _ bE) ?_
      repeat refine pO ?_
      refine oO fun Kv hK=>?_;go_simp;refine (an.out _ bE).mono ?_;rintro r w6 ⟨rfl,hb6⟩;have HB6:=Zh (show Below w5.heap.size w5 w6 from Zag (show Below w5.heap.size w5 w5.drew by exact bE) hb6);refine hK _ _ ⟨HS.out _ HB6.out,?_⟩;clear hK Kv hb6
      repeat refine pO ?_
      refine Zd7 ?_;have m7:=(HMc.out w6 (Zag HSt5.out.hb HB6.out)).1
      go_wp2_with fail
      refine rO (fun w':World=>w'.cell? ⟨ma.block,ma.off+6,none⟩=some (.slice (h.e kk).ko nc (h.e kk).kc)) (oL [0,1,2,3,4,5,6,7]) m7 ?_
      repeat refine pO ?_
      refine Zd7 ?_;go_wp2;go_ret3;rw [HPe.out];exact ZjO.no w (Zag HSt5.out.hb HB6.out).drew nc 11
     ·have HRl:=Zh (show (ZhB ⟨rk,rq⟩).length=1 from by unfold ZhB;rw [if_neg hrk];rfl);have N:((s.stk.length:Int) == 1)=true:=by simp [hsn]
      have HPe:=Zh (show ZeI m kk=(acc++[s.stk],0,0) from by rw [G.out,I,ZjR hrk,hft];rfl);have bl:0<s.stk.length:=by omega
      have ao:=Zh (show Zhr m ⟨tk,tq⟩ ⟨rk,rq⟩=true from by rw [ZiA HHm.out (HWf.out.stk.2 _ (by rw [I];simp)) (ZfI aN.out hrk),hft]);have ar:=Zh I;have aq:=Zh (show (ZhB ⟨rk,rq⟩).getD 0 default=⟨rk,rq⟩ from by unfold ZhB;rw [if_neg hrk];rfl);clear I hft;clear hsn hrk
      as_aux_lemma=>
      go_upto_region 22 with (first
       | (go_at_call 126;refine (HClo.out _ (Below.refl _ _)).mono ?_;rintro r w2 ⟨⟨to',tc,rfl,hown2⟩,hb2⟩;have HO2:=Zh hown2;have HB3':=Zh (show Below wr.heap.size wr (w2.alloc (.cells #[.slice to' s.stk.length tc] 23)) from bal hb2 _);have HSo3:=Zh (HSo.out.old HB3'.out);have HT3:=Zh (ZeR.alloc' (ZeR.own HO2.out) (.cells #[.slice to' s.stk.length tc] 23));have HX3':=Zh (ZdN (n:=1) (size:=1) (Blk.new w2 #[.slice to' s.stk.length tc] 23) rfl);have hzz:=HB3'.out.size;have hzw:=HBr.out.size;clear hown2 hb2)
       | (at_builtin;refine ZhG rfl ?_;refine Zel (.tmp 79) (.tmp 85) 34 rfl w.heap.size 23 1 24 ZjN _ rows.length _ rfl HSo3.out.own _ 1 1 [.slice to' s.stk.length tc] rfl HX3'.out (by intro u hu;rw [List.mem_singleton.1 hu];rfl) (by have:=HNr.out;omega) (by have:=HNr.out;unfold maxLen;omega) (by omega) ?_;intro ao2 cap2 w4 hown4 hg4;have HS4:=Zh (HSo3.out.snoc HT3.out hown4 hg4);have HSt4:=Zh (St.grow_st (HSt.out.old HB3'.out) HSo3.out hg4);have HXr4:=Zh (Blk.grown_st HSo3.out (HXr.out.old HB3'.out) (by decide) hg4);obtain ⟨-,m4,m5⟩:=HMc.out w4 HSt4.out.hb;clear hown4 hg4)
       | (go_at_call 132;refine (ZhC ⟨rk,rq⟩ _).mono ?_;rintro r w5 ⟨ro,rc,rfl,hto5,-,hb5⟩;rw [HRl.out];have HTo5:=Zh hto5;have HSt5:=Zh (HSt4.out.old hb5);have HS5:=Zh (HS4.out.old hb5);have HX5:=Zh (HXr4.out.old hb5);have k5':=HSt5.out.ck.cells.2.2.2.2.2.2.1;have m6':=(HMc.out w5 HSt5.out.hb).1;clear hto5 hb5))
      obtain ⟨A,Z,t0,t1⟩:=ZaA HSt5.out.ts.1 (i:=0) (by omega);obtain ⟨E,aa,u0,u1⟩:=ZaA HTo5.out.1 (i:=0) (by rw [HRl.out];decide);rw [Nat.zero_mul,show A.add 0=A from by simp [Addr.add],ar.out] at t0 t1;rw [Nat.zero_mul,show E.add 0=E from by simp [Addr.add],aq.out] at u0 u1;dsimp only [List.getD_cons_zero] at t0 t1 u0 u1;rw [Z] at k5';rw [aa];have g0:=HX5.out.cell 0 (v:=.slice h.co m.cl.length h.cc) rfl;have g1:=HX5.out.cell 1 (v:=.slice h.so m.st.length h.sc) rfl;have g2:w5.cell? ⟨w.heap.size,2,none⟩=some (.slice h.eo m.me.length h.ec):=HX5.out.cell 2 rfl;have g3:=HX5.out.cell 3 (v:=.int .i64 m.sel) rfl;have hS:∀ w',Below w5.heap.size w5 w'→(fun w':World=>w'.cell? ⟨w.heap.size,0,none⟩=some (.slice h.co m.cl.length h.cc)∧w'.cell? ⟨w.heap.size,1,none⟩=some (.slice h.so m.st.length h.sc)∧w'.cell? ⟨w.heap.size,2,none⟩=some (.slice h.eo m.me.length h.ec)∧w'.cell? ⟨w.heap.size,3,none⟩=some (.int .i64 m.sel)∧w'.cell? ⟨K,5,none⟩=some (.slice (some A) s.stk.length ssc)∧w'.cell? A=some (.int .i64 tk)∧w'.cell? ⟨A.block,A.off+1,none⟩=some (.int .i64 tq)∧w'.cell? E=some (.int .i64 rk)∧w'.cell? ⟨E.block,E.off+1,none⟩=some (.int .i64 rq)) w':=fun w' g=>⟨(g.cell (Zad g0)).trans g0,(g.cell (Zad g1)).trans g1,(g.cell (Zad g2)).trans g2,(g.cell (Zad g3)).trans g3,(g.cell (Zad k5')).trans k5',(g.cell (Zad t0)).trans t0,(g.cell (p:=⟨A.block,A.off+1,none⟩) (Zad t1)).trans t1,(g.cell (Zad u0)).trans u0,(g.cell (p:=⟨E.block,E.off+1,none⟩) (Zad u1)).trans u1⟩;have HS:=Zh hS
      have an:=Zh (show ∀ w',Below w5.heap.size w5 w'→Calls Tryz.prog 133 #[.agg (HM.mk h m),.agg #[.int .i64 tk,.int .i64 tq],.agg #[.int .i64 rk,.int .i64 rq]] w' (Ret w' (.bool true)) from fun w' g=>by have:=Zht m h ⟨tk,tq⟩ ⟨rk,rq⟩ w' (U.out.old (Zag HSt5.out.hb g));rw [ao.out] at this;exact this);clear hS Z aa t0 t1 u0 u1 g0 g1 g2 g3 k5';refine rO (fun w':World=>w'.cell? ⟨w.heap.size,0,none⟩=some (.slice h.co m.cl.length h.cc)∧w'.cell? ⟨w.heap.size,1,none⟩=some (.slice h.so m.st.length h.sc)∧w'.cell? ⟨w.heap.size,2,none⟩=some (.slice h.eo m.me.length h.ec)∧w'.cell? ⟨w.heap.size,3,none⟩=some (.int .i64 m.sel)∧w'.cell? ⟨K,5,none⟩=some (.slice (some A) s.stk.length ssc)∧w'.cell? A=some (.int .i64 tk)∧w'.cell? ⟨A.block,A.off+1,none⟩=some (.int .i64 tq)∧w'.cell? E=some (.int .i64 rk)∧w'.cell? ⟨E.block,E.off+1,none⟩=some (.int .i64 rq)) (oL [0,1,2,3,4,5,6,7,8,9,10,11,12,13,114,15,16]) (HS.out _ bE) ?_
      repeat refine pO ?_
      refine oO fun Kv hK=>?_;go_simp;refine (an.out _ bE).mono ?_;rintro r w6 ⟨rfl,hb6⟩;have HB6:=Zh (show Below w5.heap.size w5 w6 from Zag (show Below w5.heap.size w5 w5.drew by exact bE) hb6);refine hK _ _ ⟨HS.out _ HB6.out,?_⟩;clear hK Kv hb6
      repeat refine pO ?_
      refine Zd7 ?_;go_wp2;go_ret3;rw [HPe.out];exact ⟨⟨ao2,cap2,rows++[⟨to',s.stk.length,tc⟩],by simp,HS5.out.old HB6.out⟩,Zag HSt5.out.hb HB6.out⟩
    ·have HRl:=Zh (show (ZhB ⟨rk,rq⟩).length=1 from by unfold ZhB;rw [if_neg hrk];rfl);have N:((s.stk.length:Int) == 1)=false:=by simp;omega
     have HPe:=Zh (show ZeI m kk=([],nc,12) from by rw [G.out,ZjS hrk hsn];rfl);exact k7
end
section
open Go.RowKit
section
variable {m:Md}(hm:Za2 m=true){k:Nat}(hk:k<m.me.length){i:In3}(hi:ZfU m k i)(hc:i.op=25∨i.op=26)
include m hm k hk i hi hc
theorem Zk1:(Zkt m i).length≤5:=by exact k44
theorem Zk2 {j:Nat} (d:j<(Zkt m i).length) (f:i.op=26→0<j):Zfk m ((Zkt m i).getD j default):=by
 unfold Zkt at d ⊢;rcases hc with q|q
 ·rw [if_pos q] at d ⊢;exact (ZfQ hm (k:=i.a.toNat) (by have:=(hi.o25 q).1;have:=hi.a0 (by omega);omega)).p _ (ZfX _ d)
 ·rw [if_neg (by omega)] at d ⊢;cases hx:Zey m i with
  | none=>rw [hx] at d;simp at d
  | some x=>
   rw [hx] at d;obtain ⟨j2,o,g,-⟩:=ZfY hi (.inr q) hx;have l:=f q;obtain ⟨j,rfl⟩:∃ n,j=n+1:=⟨j-1,by omega⟩;simp only [List.length_cons] at d;simp only [List.getD_cons_succ];rw [g] at d ⊢;exact (ZfQ hm (k:=j2) (by omega)).p _ (ZfX _ (by omega))
end
section
variable {w:World}{K:Nat}{h:Hd}{m:Md}{L S O:Value}(H:Pk w K h m L S O)(Hj:Zaz w h m)(hm:Za2 m=true){k:Nat}(hk:k<m.me.length)
include w K h m L S O H Hj hm k hk
theorem Zk3 {ia:Nat} {ib:Int} (hi:ZfU m k ⟨25,(ia:Int),ib⟩) {ls l:List Ty} {la:Option Addr} {V:Nat} (hr:Zas w la V l) (hl:l.length=(Zkt m ⟨25,(ia:Int),ib⟩).length) (aw:∀ t∈l,Zfk m t):
  Calls Tryz.prog 230 #[ZQ.p K,.agg #[.int .i64 25,.int .i64 ia,.int .i64 ib],.slice la l.length V] w (Zka w (ZeD m ls ⟨25,(ia:Int),ib⟩ l)):=by
 have E:(⟨25,(ia:Int),ib⟩:In3).op=25∨(⟨25,(ia:Int),ib⟩:In3).op=26:=by simp
 obtain ⟨C,D⟩:∃ C,C=(w.alloc (.cells #[.int .i64 25,.int .i64 ia,.int .i64 ib] 72)).alloc (.cells #[.int .i64 0,.int .i64 0] 38):=⟨_,rfl⟩;have Z:Below w.heap.size w C:=by rw [D];exact bE
 have aa:Blk C w.heap.size #[.int .i64 25,.int .i64 ia,.int .i64 ib] 72:=by rw [D];exact (Blk.new w _ _).alloc _
 have ab:Blk C (w.heap.size+1) #[.int .i64 0,.int .i64 0] 38:=by rw [D];exact Blk.new' (w:=w.alloc (.cells #[.int .i64 25,.int .i64 ia,.int .i64 ib] 72)) _ _ (by simp)
 have A:=Zh Z;have g:=Zh aa;have b:=Zh ab;have aG:=Zh D;have HA:=Zh (show ∀ w',Below w.heap.size w w'→_ from fun w' e=>ZkH (H.old e) (Hj.old e) hm hk hi E);have HR:=Zh (show ∀ w',Below w.heap.size w w'→_ from fun w' e=>ZkI (H.old e) (Hj.old e) hm hk hi E);have HF:=Zh (show ∀ j,0≤j→j<(Zkt m ⟨25,(ia:Int),ib⟩).length→∀ w',Below w.heap.size w w'→Calls Tryz.prog 168 #[.agg (HM.mk h m),.agg #[.int .i64 (l.getD j default).k,.int .i64 (l.getD j default).c],.agg #[.int .i64 ((Zkt m ⟨25,(ia:Int),ib⟩).getD j default).k,.int .i64 ((Zkt m ⟨25,(ia:Int),ib⟩).getD j default).c]] w' (Ret w' (.bool (Zev m (l.getD j default) ((Zkt m ⟨25,(ia:Int),ib⟩).getD j default)))) from fun j h1 h2 w' e=>ZjV m h _ _ w' (Hj.old e) (fun q=>ZfH (aw _ (ZfX _ (by omega))) (.inl q)) (fun q=>(ZfH (Zk2 hm hk hi E h2 (fun q5=>by first|omega|exact absurd q5 (by simp))) (.inl q)).1) (Zc4 (ZfK hm)));obtain ⟨F,hF⟩:∃ F:Nat→Bool,F=fun j=>Zev m (l.getD j default) ((Zkt m ⟨25,(ia:Int),ib⟩).getD j default):=⟨_,rfl⟩;have am:∀ j,Zev m (l.getD j default) ((Zkt m ⟨25,(ia:Int),ib⟩).getD j default)=F j:=fun j=>by rw [hF]
 simp only [am] at HF;obtain ⟨n,hn⟩:∃ n,n=(Zkt m ⟨25,(ia:Int),ib⟩).length:=⟨_,rfl⟩;have ar:=Zk1 hm hk hi E;have ad:ZeD m ls ⟨25,(ia:Int),ib⟩ l=if (List.range n).all F=true then some (Zku m ⟨25,(ia:Int),ib⟩) else none:=by
  have e1:Zkt m ⟨25,(ia:Int),ib⟩=(m.me.getD ia default).p:=by unfold Zkt;rw [if_pos rfl,Int.toNat_natCast]
  have e2:Zku m ⟨25,(ia:Int),ib⟩=(m.me.getD ia default).r:=by unfold Zku Zey;rw [if_pos rfl];dsimp only;rw [Int.toNat_natCast]
  rw [Zgc rfl,e2,hF,hn,e1,Int.toNat_natCast]
 obtain ⟨pq,ac⟩:∃ q,q=ZeD m ls ⟨25,(ia:Int),ib⟩ l:=⟨_,rfl⟩;rw [←ac];rw [←ac] at ad;have Y:=Zh ad;have a5:=Zh Hj;have a6:=Zh H;generalize Zku m ⟨25,(ia:Int),ib⟩=rs at HR Y;have X:=Zh hl;have aE:=Zh hr;obtain ⟨n2,M⟩:∃ n,n=l.length:=⟨_,rfl⟩;rw [←M];have HN:=Zh hn;have aD:=Zh M;generalize Zkt m ⟨25,(ia:Int),ib⟩=ags at HA HF HN X ar hn M;have be:n≤1000000:=by omega
 obtain ⟨rk,rc⟩:=rs;have G:=Zh (show ∀ w',Below C.heap.size C w'→_ from fun w' e=>And.intro (aa.old e) (And.intro (ab.old e) (H.old (Zag Z e))));clear ad ac hF am hi hm aw hl hr D H Hj ar E aa ab hn M Z hk;go_enter Tryz.func230,Tryz.ntmps230
 go_upto_region 1 with fail
 rw [←aG.out];have i0:=g.out.cell 0 (v:=.int .i64 25) rfl;have i1:=g.out.cell 1 (v:=.int .i64 ia) rfl;have i2:=g.out.cell 2 (v:=.int .i64 ib) rfl
 go_upto_region 2 with (go_at_call 227;refine (HA.out _ A.out).mono ?_;rintro r W ⟨⟨ao,a8,rfl,U⟩,ap⟩;rw [←HN.out];have aF:=Zh U;have aj:=Zh ap;clear U ap i0 i1 i2;have i0:=(g.out.old aj.out).cell 0 (v:=.int .i64 25) rfl)
 go_wp2
 go_loopw [12] (fun i wr=>∃ k:Nat,0≤k∧k≤n∧i=.int .i64 k∧Below C.heap.size C wr∧Below W.heap.size W wr∧Hid (∀ j,0≤j→j<k→F j=true)) (fun i _=>n-(intOf i).toNat)
 case atStart=>exact ⟨0,by omega,by omega,rfl,aj.out,Below.refl _ _,Zh (fun j h1 h2=>absurd h1 (by omega))⟩
 case round=>
  obtain ⟨k,aK,bd,rfl,T,z,hall⟩:=hrel;have B:=Zh T;have ak:=Zh (show Below W.heap.size W wr from Zag (Below.refl W.heap.size W) z);have HLw:=Zh z;clear T z;have i0:=(g.out.old B.out).cell 0 (v:=.int .i64 25) rfl;have i1:=(g.out.old B.out).cell 1 (v:=.int .i64 ia) rfl;have i2:=(g.out.old B.out).cell 2 (v:=.int .i64 ib) rfl;by_cases hkl:k<n
  ·obtain ⟨xd,aM,x0,x1⟩:=ZaA (aE.out.old (Zag A.out B.out)) (i:=k) (by rw [X.out,←HN.out];exact hkl);obtain ⟨yd,aN,N,R⟩:=ZaA (aF.out.old ak.out) (i:=k) (by rw [←HN.out];exact hkl);have I:=Zh (HF.out k aK (by rw [←HN.out];exact hkl));generalize l.getD k default=x at x0 x1 I;generalize ags.getD k default=y at N R I;obtain ⟨xk,xc⟩:=x;obtain ⟨yk,yc⟩:=y;dsimp only at x0 x1 N R I;subst aM;subst aN;have aq:(k:Int) < n:=by omega
   have aU:(k:Int) < n2:=by have:=HN.out;have:=aD.out;have:=X.out;omega
   have bf:IntKind.i64.wrap ((k:Int)+1)=k+1:=IntWalk.i64_in _ (by omega);obtain ⟨xa,ae⟩:∃ a,a=xd.add (k*2):=⟨_,rfl⟩;obtain ⟨ya,af⟩:∃ a,a=yd.add (k*2):=⟨_,rfl⟩;rw [←ae] at x0 x1;rw [←af] at N R;have an:∀ w',Below wr.heap.size wr w'→(fun w':World=>w'.cell? ⟨K,0,none⟩=some (.slice h.co m.cl.length h.cc)∧w'.cell? ⟨K,1,none⟩=some (.slice h.so m.st.length h.sc)∧w'.cell? ⟨K,2,none⟩=some (.slice h.eo m.me.length h.ec)∧w'.cell? ⟨K,3,none⟩=some (.int .i64 m.sel)∧w'.cell? xa=some (.int .i64 xk)∧w'.cell? ⟨xa.block,xa.off+1,none⟩=some (.int .i64 xc)∧w'.cell? ya=some (.int .i64 yk)∧w'.cell? ⟨ya.block,ya.off+1,none⟩=some (.int .i64 yc)) w':=fun w' e=>⟨(G.out w' (Zag B.out e)).2.2.cells.2.1,(G.out w' (Zag B.out e)).2.2.cells.2.2.1,(G.out w' (Zag B.out e)).2.2.cells.2.2.2.1,(G.out w' (Zag B.out e)).2.2.cells.2.2.2.2.1,Zj7 e x0,Zj7 e x1,Zj7 e N,Zj7 e R⟩;have al:=Zh an;have aH:=Zh ae;have aI:=Zh af;clear an x0 x1 N R ae af i0 i1 i2
   go_upto_region 13 with fail
   refine rO (fun w':World=>w'.cell? ⟨K,0,none⟩=some (.slice h.co m.cl.length h.cc)∧w'.cell? ⟨K,1,none⟩=some (.slice h.so m.st.length h.sc)∧w'.cell? ⟨K,2,none⟩=some (.slice h.eo m.me.length h.ec)∧w'.cell? ⟨K,3,none⟩=some (.int .i64 m.sel)∧w'.cell? xa=some (.int .i64 xk)∧w'.cell? ⟨xa.block,xa.off+1,none⟩=some (.int .i64 xc)∧w'.cell? ya=some (.int .i64 yk)∧w'.cell? ⟨ya.block,ya.off+1,none⟩=some (.int .i64 yc)) (oL [0,1,2,3,4,5,6,7,8,9,10,11,112,13]) (al.out _ (Below.drew (Below.refl _ _))) ?_
   iterate 7 (refine pO ?_)
   rw [←aH.out]
   iterate 4 (refine pO ?_)
   rw [←aI.out]
   repeat refine pO ?_
   refine oO fun Kv hK=>?_;go_simp;refine (I.out _ (Zag A.out (Below.drew B.out))).mono ?_;rintro r w4 ⟨rfl,J⟩;have HB4:=Zh (show Below C.heap.size C w4 from Zag B.out (Zag (Below.drew (Below.refl _ _)) J));have f:=Zh (show Below W.heap.size W w4 from Zag ak.out (Zag (Below.drew (Below.refl _ _)) J));have HB6:=Zh (show Below wr.heap.size wr w4 from Zag (Below.drew (Below.refl _ _)) J);refine hK _ _ ⟨al.out _ HB6.out,?_⟩;clear hK Kv J
   repeat refine pO ?_
   refine Zd7 ?_;cases hfk:F k
   ·have HFf:=Zh hfk;clear hfk;have N:=(b.out.old HB4.out).cell 0 (v:=.int .i64 0) rfl;have R:=(b.out.old HB4.out).cell 1 (v:=.int .i64 0) rfl;have g0:=(b.out.old HB4.out).frozen 0;have g1:=(b.out.old HB4.out).frozen 1;have aL:=(b.out.old HB4.out).lt;go_wp2;refine bodyPost_ret (v:=.tuple #[.agg #[.int .i64 0,.int .i64 0],.bool false]) (by simp [results,Tryz.results230,go_sem,N,R]) rfl ?_;have au:pq=none:=by rw [Y.out,ZaD (k:=k) hkl HFf.out];rfl
    exact Zkb (by rw [au];rfl) (fun u hu=>by rw [au] at hu;cases hu) (ZcS (ZcS (Zag A.out HB4.out) (Nat.le_succ _) _) (Nat.le_succ _) _)
   ·exact k45
  ·have aq:¬ (k:Int) < n:=by omega
   go_wp2_with (go_at_call 226;refine (HR.out _ (Zag A.out B.out)).mono ?_;rintro r w5 ⟨rfl,aJ⟩;have f:=Zh (Zag B.out aJ);have N:=(b.out.old f.out).cell 0 (v:=.int .i64 0) rfl;have R:=(b.out.old f.out).cell 1 (v:=.int .i64 0) rfl;have g0:=(b.out.old f.out).frozen 0;have g1:=(b.out.old f.out).frozen 1;have aL:=(b.out.old f.out).lt)
   refine bodyPost_ret (v:=.tuple #[.agg #[.int .i64 rk,.int .i64 rc],.bool true]) (by simp [results,Tryz.results230,go_sem,N,R]) rfl ?_;have av:pq=some ⟨rk,rc⟩:=by rw [Y.out,ZaE (fun j hj=>hall.out j (by omega) (by omega))];rfl
   exact Zkb (by rw [av];rfl) (fun u hu=>by rw [av] at hu;exact Option.some.inj hu) (ZcS (ZcS (Zag A.out f.out) (Nat.le_succ _) _) (Nat.le_succ _) _)
theorem Zk4 {ia:Nat} {ib:Int} (hi:ZfU m k ⟨26,(ia:Int),ib⟩) {ls l:List Ty} {la:Option Addr} {af:Nat} (hr:Zas w la af l) (hl:l.length=(Zkt m ⟨26,(ia:Int),ib⟩).length) (ap:∀ t∈l,Zfk m t) {a:Ty} {l':List Ty} (J:l=a :: l') (aL:Zkt m ⟨26,(ia:Int),ib⟩≠[]):
  Calls Tryz.prog 230 #[ZQ.p K,.agg #[.int .i64 26,.int .i64 ia,.int .i64 ib],.slice la l.length af] w (Zka w (ZeD m ls ⟨26,(ia:Int),ib⟩ l)):=by
 have V:(⟨26,(ia:Int),ib⟩:In3).op=25∨(⟨26,(ia:Int),ib⟩:In3).op=26:=by simp
 obtain ⟨G,U⟩:∃ G,G=(w.alloc (.cells #[.int .i64 26,.int .i64 ia,.int .i64 ib] 72)).alloc (.cells #[.int .i64 0,.int .i64 0] 38):=⟨_,rfl⟩;have ag:Below w.heap.size w G:=by rw [U];exact bE
 have ai:Blk G w.heap.size #[.int .i64 26,.int .i64 ia,.int .i64 ib] 72:=by rw [U];exact (Blk.new w _ _).alloc _
 have aj:Blk G (w.heap.size+1) #[.int .i64 0,.int .i64 0] 38:=by rw [U];exact Blk.new' (w:=w.alloc (.cells #[.int .i64 26,.int .i64 ia,.int .i64 ib] 72)) _ _ (by simp)
 have f:=Zh ag;have D:=Zh ai;have b:=Zh aj;have a6:=Zh U;have HA:=Zh (show ∀ w',Below w.heap.size w w'→_ from fun w' e=>ZkH (H.old e) (Hj.old e) hm hk hi V);have HR:=Zh (show ∀ w',Below w.heap.size w w'→_ from fun w' e=>ZkI (H.old e) (Hj.old e) hm hk hi V);have aK:=ZfH (ap a (by rw [J];simp));have aG:=hi.o26 rfl;have HD:=Zh (show a.k=2→∀ w',Below w.heap.size w w'→Calls Tryz.prog 286 #[.agg (HM.mk h m),.int .i64 a.c,.int .i64 ia] w' (Zhi w' (.int .i64 (if m.ent a.c ia<0 then 0 else m.ent a.c ia)) (.int .i64 (if m.ent a.c ia<0 then 3 else 0))) from fun q w' e=>by
  obtain ⟨c0,c1⟩:=aK (.inl q);have:=Zjr m h a.c.toNat ia w' (Hj.old e) hm (by omega) aG.1;rwa [show ((a.c.toNat:Nat):Int)=a.c by omega] at this)
 have HF:=Zh (show ∀ j,1≤j→j<(Zkt m ⟨26,(ia:Int),ib⟩).length→∀ w',Below w.heap.size w w'→Calls Tryz.prog 168 #[.agg (HM.mk h m),.agg #[.int .i64 (l.getD j default).k,.int .i64 (l.getD j default).c],.agg #[.int .i64 ((Zkt m ⟨26,(ia:Int),ib⟩).getD j default).k,.int .i64 ((Zkt m ⟨26,(ia:Int),ib⟩).getD j default).c]] w' (Ret w' (.bool (Zev m (l.getD j default) ((Zkt m ⟨26,(ia:Int),ib⟩).getD j default)))) from fun j h1 h2 w' e=>ZjV m h _ _ w' (Hj.old e) (fun q=>ZfH (ap _ (ZfX _ (by omega))) (.inl q)) (fun q=>(ZfH (Zk2 hm hk hi V h2 (fun q5=>by first|omega|exact absurd q5 (by simp))) (.inl q)).1) (Zc4 (ZfK hm)));obtain ⟨F,hF⟩:∃ F:Nat→Bool,F=fun j=>Zev m (l.getD j default) ((Zkt m ⟨26,(ia:Int),ib⟩).getD j default):=⟨_,rfl⟩;have aH:∀ j,Zev m (l.getD j default) ((Zkt m ⟨26,(ia:Int),ib⟩).getD j default)=F j:=fun j=>by rw [hF]
 simp only [aH] at HF;obtain ⟨n,hn⟩:∃ n,n=(Zkt m ⟨26,(ia:Int),ib⟩).length:=⟨_,rfl⟩;have aQ:=Zk1 hm hk hi V;have am:ZeD m ls ⟨26,(ia:Int),ib⟩ l=if (decide (a.k=2)&&decide (0≤m.ent a.c ia)&&(List.range (n-1)).all fun j=>F (j+1))=true then some (Zku m ⟨26,(ia:Int),ib⟩) else none:=by
  have hx:∃ x,Zey m ⟨26,(ia:Int),ib⟩=some x∧Zkt m ⟨26,(ia:Int),ib⟩=⟨2,-1⟩ :: x.p∧Zku m ⟨26,(ia:Int),ib⟩=x.r:=by
   cases hx:Zey m ⟨26,(ia:Int),ib⟩ with
   | none=>exact absurd (by unfold Zkt;rw [if_neg (by simp),hx]) aL
   | some x=>exact ⟨x,rfl,by unfold Zkt;rw [if_neg (by simp),hx],by unfold Zku;rw [hx]⟩
  obtain ⟨x,hx,aM,bh⟩:=hx;rw [Zgd rfl,hx];dsimp only;rw [bh,show n-1=x.p.length by rw [hn,aM];simp,Int.toNat_natCast];have e1:l.getD 0 default=a:=by rw [J];rfl
  have e2:(fun j=>F (j+1))=fun j=>Zev m (l.getD (j+1) default) (x.p.getD j default):=by
   funext j
   rw [hF,aM];rfl
  rw [e1,e2]
 obtain ⟨pq,al⟩:∃ q,q=ZeD m ls ⟨26,(ia:Int),ib⟩ l:=⟨_,rfl⟩;rw [←al];rw [←al] at am;have E:=Zh am;have bI:=Zh Hj;have bJ:=Zh H;generalize Zku m ⟨26,(ia:Int),ib⟩=rs at HR E;have T:=Zh hl;have a4:=Zh hr;obtain ⟨n2,aa⟩:∃ n,n=l.length:=⟨_,rfl⟩;rw [←aa];have HN:=Zh hn;have a3:=Zh aa;generalize Zkt m ⟨26,(ia:Int),ib⟩=ags at HA HF HN T aQ hn aa;have bP:n≤1000000:=by omega
 obtain ⟨rk,rc⟩:=rs;obtain ⟨Y,bf,a0,a1⟩:=ZaA hr (i:=0) (by rw [J];simp);rw [show l.getD 0 default=a by rw [J];rfl,show Y.add (0*2)=Y by simp [Addr.add]] at a0 a1;subst bf;have bO:1≤n:=by rw [hn,←T.out,J];simp
 have bw:(n2:Int) > 0:=by have:=T.out;omega
 have bx:0<n2:=by omega
 have bz:(0:Int) < n2:=by omega
 have hz:((n:Int) == 0)=false:=by simp;omega
 obtain ⟨ak,ac⟩:=a;dsimp only at a0 a1 HD E;generalize m.ent ac ia=en at HD E;have z:=Zh (show ∀ w',Below G.heap.size G w'→_ from fun w' e=>And.intro (ai.old e) (And.intro (aj.old e) (H.old (Zag ag e))));clear am al hF aH hi hm ap hl hr U H Hj aQ V ai aj hn aa ag hk aK aG aL J;go_enter Tryz.func230,Tryz.ntmps230
 go_upto_region 1 with fail
 rw [←a6.out];have i0:=D.out.cell 0 (v:=.int .i64 26) rfl;have i1:=D.out.cell 1 (v:=.int .i64 ia) rfl;have i2:=D.out.cell 2 (v:=.int .i64 ib) rfl
 go_upto_region 2 with (go_at_call 227;refine (HA.out _ f.out).mono ?_;rintro r w2 ⟨⟨ao,bK,rfl,ae⟩,aN⟩;rw [←HN.out];have a5:=Zh ae;have g:=Zh aN;clear ae aN i0 i1 i2;have i0:=(D.out.old g.out).cell 0 (v:=.int .i64 26) rfl)
 by_cases h2:ak=2
 rotate_left
 ·have h3:(ak != 2)=true:=by simpa using h2
  have aD:=Zj7 (Zag f.out g.out) a0;have M:=(b.out.old g.out).cell 0 (v:=.int .i64 0) rfl;have N:=(b.out.old g.out).cell 1 (v:=.int .i64 0) rfl;have g0:=(b.out.old g.out).frozen 0;have g1:=(b.out.old g.out).frozen 1;have an:=(b.out.old g.out).lt;go_wp2;refine bodyPost_ret (v:=.tuple #[.agg #[.int .i64 0,.int .i64 0],.bool false]) (by simp [results,Tryz.results230,go_sem,M,N]) rfl ?_;have B:pq=none:=by rw [E.out,decide_eq_false h2];rfl
  exact Zkb (by rw [B];rfl) (fun u W=>by rw [B] at W;cases W) (ZcS (ZcS (Zag f.out g.out) (Nat.le_succ _) _) (Nat.le_succ _) _)
 ·subst h2;have aD:=Zj7 (Zag f.out g.out) a0
  go_upto_region 6 with fail
  clear aD;have hS:∀ w',Below G.heap.size G w'→(fun w':World=>w'.cell? ⟨K,0,none⟩=some (.slice h.co m.cl.length h.cc)∧w'.cell? ⟨K,1,none⟩=some (.slice h.so m.st.length h.sc)∧w'.cell? ⟨K,2,none⟩=some (.slice h.eo m.me.length h.ec)∧w'.cell? ⟨K,3,none⟩=some (.int .i64 m.sel)∧w'.cell? Y=some (.int .i64 2)∧w'.cell? ⟨Y.block,Y.off+1,none⟩=some (.int .i64 ac)∧w'.cell? ⟨w.heap.size,0,none⟩=some (.int .i64 26)∧w'.cell? ⟨w.heap.size,1,none⟩=some (.int .i64 ia)) w':=fun w' e=>⟨(z.out w' e).2.2.cells.2.1,(z.out w' e).2.2.cells.2.2.1,(z.out w' e).2.2.cells.2.2.2.1,(z.out w' e).2.2.cells.2.2.2.2.1,Zj7 (Zag f.out e) a0,Zj7 (Zag f.out e) a1,(z.out w' e).1.cell 0 rfl,(z.out w' e).1.cell 1 rfl⟩;have HS:=Zh hS;clear hS i0 a0 a1;refine rO (fun w':World=>w'.cell? ⟨K,0,none⟩=some (.slice h.co m.cl.length h.cc)∧w'.cell? ⟨K,1,none⟩=some (.slice h.so m.st.length h.sc)∧w'.cell? ⟨K,2,none⟩=some (.slice h.eo m.me.length h.ec)∧w'.cell? ⟨K,3,none⟩=some (.int .i64 m.sel)∧w'.cell? Y=some (.int .i64 2)∧w'.cell? ⟨Y.block,Y.off+1,none⟩=some (.int .i64 ac)∧w'.cell? ⟨w.heap.size,0,none⟩=some (.int .i64 26)∧w'.cell? ⟨w.heap.size,1,none⟩=some (.int .i64 ia)) (oL [0,1,2,3,4,5,6,7,8,9,110,11,12,13,14,15]) (HS.out _ (Below.drew g.out)) ?_
  repeat refine pO ?_
  refine oO fun Kv hK=>?_;go_simp;refine (HD.out rfl _ (Zag f.out (Below.drew g.out))).mono ?_;rintro r w3 ⟨rfl,ah⟩;have A:=Zh (show Below G.heap.size G w3 from Zag g.out (Zag (Below.drew (Below.refl _ _)) ah));have aA:=Zh (show Below w2.heap.size w2 w3 from Zag (Below.drew (Below.refl _ _)) ah);refine hK _ _ ⟨HS.out _ A.out,?_⟩;clear hK Kv ah
  repeat refine pO ?_
  refine Zd7 ?_;by_cases h5:en<0
  ·have e3:(if en<0 then (3:Int) else 0)=3:=if_pos h5;have e4:(if en<0 then (0:Int) else en)=0:=if_pos h5;rw [e3,e4];clear e3 e4;have M:=(b.out.old A.out).cell 0 (v:=.int .i64 0) rfl;have N:=(b.out.old A.out).cell 1 (v:=.int .i64 0) rfl;have g0:=(b.out.old A.out).frozen 0;have g1:=(b.out.old A.out).frozen 1;have an:=(b.out.old A.out).lt;go_wp2;refine bodyPost_ret (v:=.tuple #[.agg #[.int .i64 0,.int .i64 0],.bool false]) (by simp [results,Tryz.results230,go_sem,M,N]) rfl ?_;have B:pq=none:=by rw [E.out,decide_eq_false (show ¬ 0≤en by omega)];rfl
   exact Zkb (by rw [B];rfl) (fun u W=>by rw [B] at W;cases W) (ZcS (ZcS (Zag f.out A.out) (Nat.le_succ _) _) (Nat.le_succ _) _)
  have e3:(if en<0 then (3:Int) else 0)=0:=if_neg h5;have e4:(if en<0 then (0:Int) else en)=en:=if_neg h5;rw [e3,e4];clear e3 e4;have H6:=Zh (show decide (0≤en)=true by simp;omega);clear h5;go_wp2
  go_loopw [12] (fun i wr=>∃ k:Nat,1≤k∧k≤n∧i=.int .i64 k∧Below G.heap.size G wr∧Below w3.heap.size w3 wr∧Hid (∀ j,1≤j→j<k→F j=true)) (fun i _=>n-(intOf i).toNat)
  case atStart=>exact ⟨1,by omega,by omega,rfl,A.out,Below.refl _ _,Zh (fun j h1 h2=>absurd h1 (by omega))⟩
  case round=>
   obtain ⟨k,be,bN,rfl,ab,I,hall⟩:=hrel;have R:=Zh ab;have aB:=Zh (show Below w2.heap.size w2 wr from Zag aA.out I);have HLw:=Zh I;clear ab I;have i0:=(D.out.old R.out).cell 0 (v:=.int .i64 26) rfl;have i1:=(D.out.old R.out).cell 1 (v:=.int .i64 ia) rfl;have i2:=(D.out.old R.out).cell 2 (v:=.int .i64 ib) rfl;by_cases hkl:k<n
   ·obtain ⟨xd,bi,x0,x1⟩:=ZaA (a4.out.old (Zag f.out R.out)) (i:=k) (by rw [T.out,←HN.out];exact hkl);obtain ⟨yd,bj,M,N⟩:=ZaA (a5.out.old aB.out) (i:=k) (by rw [←HN.out];exact hkl);have X:=Zh (HF.out k be (by rw [←HN.out];exact hkl));generalize l.getD k default=x at x0 x1 X;generalize ags.getD k default=y at M N X;obtain ⟨xk,xc⟩:=x;obtain ⟨yk,yc⟩:=y;dsimp only at x0 x1 M N X;cases bi;subst bj;have aO:(k:Int) < n:=by omega
    have bu:(k:Int) < n2:=by have:=HN.out;have:=a3.out;have:=T.out;omega
    have bQ:IntKind.i64.wrap ((k:Int)+1)=k+1:=IntWalk.i64_in _ (by omega);obtain ⟨xa,ar⟩:∃ a,a=Y.add (k*2):=⟨_,rfl⟩;obtain ⟨ya,au⟩:∃ a,a=yd.add (k*2):=⟨_,rfl⟩;rw [←ar] at x0 x1;rw [←au] at M N;have aJ:∀ w',Below wr.heap.size wr w'→(fun w':World=>w'.cell? ⟨K,0,none⟩=some (.slice h.co m.cl.length h.cc)∧w'.cell? ⟨K,1,none⟩=some (.slice h.so m.st.length h.sc)∧w'.cell? ⟨K,2,none⟩=some (.slice h.eo m.me.length h.ec)∧w'.cell? ⟨K,3,none⟩=some (.int .i64 m.sel)∧w'.cell? xa=some (.int .i64 xk)∧w'.cell? ⟨xa.block,xa.off+1,none⟩=some (.int .i64 xc)∧w'.cell? ya=some (.int .i64 yk)∧w'.cell? ⟨ya.block,ya.off+1,none⟩=some (.int .i64 yc)) w':=fun w' e=>⟨(z.out w' (Zag R.out e)).2.2.cells.2.1,(z.out w' (Zag R.out e)).2.2.cells.2.2.1,(z.out w' (Zag R.out e)).2.2.cells.2.2.2.1,(z.out w' (Zag R.out e)).2.2.cells.2.2.2.2.1,Zj7 e x0,Zj7 e x1,Zj7 e M,Zj7 e N⟩;have aC:=Zh aJ;have a7:=Zh ar;have a8:=Zh au;clear aJ x0 x1 M N ar au i0 i1 i2
    go_upto_region 13 with fail
    refine rO (fun w':World=>w'.cell? ⟨K,0,none⟩=some (.slice h.co m.cl.length h.cc)∧w'.cell? ⟨K,1,none⟩=some (.slice h.so m.st.length h.sc)∧w'.cell? ⟨K,2,none⟩=some (.slice h.eo m.me.length h.ec)∧w'.cell? ⟨K,3,none⟩=some (.int .i64 m.sel)∧w'.cell? xa=some (.int .i64 xk)∧w'.cell? ⟨xa.block,xa.off+1,none⟩=some (.int .i64 xc)∧w'.cell? ya=some (.int .i64 yk)∧w'.cell? ⟨ya.block,ya.off+1,none⟩=some (.int .i64 yc)) (oL [0,1,2,3,4,5,6,7,8,9,10,11,112,13]) (aC.out _ (Below.drew (Below.refl _ _))) ?_
    iterate 7 (refine pO ?_)
    rw [←a7.out]
    iterate 4 (refine pO ?_)
    rw [←a8.out]
    repeat refine pO ?_
    refine oO fun Kv hK=>?_;go_simp;refine (X.out _ (Zag f.out (Below.drew R.out))).mono ?_;rintro r w4 ⟨rfl,Z⟩;have HB4:=Zh (show Below G.heap.size G w4 from Zag R.out (Zag (Below.drew (Below.refl _ _)) Z));have C:=Zh (show Below w2.heap.size w2 w4 from Zag aB.out (Zag (Below.drew (Below.refl _ _)) Z));have HB6:=Zh (show Below wr.heap.size wr w4 from Zag (Below.drew (Below.refl _ _)) Z);refine hK _ _ ⟨aC.out _ HB6.out,?_⟩;clear hK Kv Z
    repeat refine pO ?_
    refine Zd7 ?_;cases hfk:F k
    ·have HFf:=Zh hfk;clear hfk;have M:=(b.out.old HB4.out).cell 0 (v:=.int .i64 0) rfl;have N:=(b.out.old HB4.out).cell 1 (v:=.int .i64 0) rfl;have g0:=(b.out.old HB4.out).frozen 0;have g1:=(b.out.old HB4.out).frozen 1;have an:=(b.out.old HB4.out).lt;go_wp2;refine bodyPost_ret (v:=.tuple #[.agg #[.int .i64 0,.int .i64 0],.bool false]) (by simp [results,Tryz.results230,go_sem,M,N]) rfl ?_;have B:pq=none:=by rw [E.out,H6.out,ZaD (k:=k-1) (by omega) (by rw [show k-1+1=k by omega];exact HFf.out)];rfl
     exact Zkb (by rw [B];rfl) (fun u W=>by rw [B] at W;cases W) (ZcS (ZcS (Zag f.out HB4.out) (Nat.le_succ _) _) (Nat.le_succ _) _)
    ·exact k45
   ·have aO:¬ (k:Int) < n:=by omega
    go_wp2_with (go_at_call 226;refine (HR.out _ (Zag f.out R.out)).mono ?_;rintro r w5 ⟨rfl,bd⟩;have C:=Zh (Zag R.out bd);have M:=(b.out.old C.out).cell 0 (v:=.int .i64 0) rfl;have N:=(b.out.old C.out).cell 1 (v:=.int .i64 0) rfl;have g0:=(b.out.old C.out).frozen 0;have g1:=(b.out.old C.out).frozen 1;have an:=(b.out.old C.out).lt)
    refine bodyPost_ret (v:=.tuple #[.agg #[.int .i64 rk,.int .i64 rc],.bool true]) (by simp [results,Tryz.results230,go_sem,M,N]) rfl ?_;have aR:pq=some ⟨rk,rc⟩:=by rw [E.out,H6.out,ZaE (fun j hj=>hall.out (j+1) (by omega) (by omega))];rfl
    exact Zkb (by rw [aR];rfl) (fun u W=>by rw [aR] at W;exact Option.some.inj W) (ZcS (ZcS (Zag f.out C.out) (Nat.le_succ _) _) (Nat.le_succ _) _)
theorem Zk5 {ia:Nat} {ib:Int} (hi:ZfU m k ⟨26,(ia:Int),ib⟩) {ls l:List Ty} {D:Option Addr} {d:Nat} (G:Zas w D d l) (F:l.length=(Zkt m ⟨26,(ia:Int),ib⟩).length) (c:Zkt m ⟨26,(ia:Int),ib⟩=[]):
  Calls Tryz.prog 230 #[ZQ.p K,.agg #[.int .i64 26,.int .i64 ia,.int .i64 ib],.slice D l.length d] w (Zka w (ZeD m ls ⟨26,(ia:Int),ib⟩ l)):=by
 have z:=Zh (show ∀ w',Below w.heap.size w w'→_ from fun w' B=>ZkH (H.old B) (Hj.old B) hm hk hi (by simp));rw [c] at z F;have e:ZeD m ls ⟨26,(ia:Int),ib⟩ l=none:=by
  rw [Zgd rfl];cases hx:Zey m ⟨26,(ia:Int),ib⟩ with
  | none=>rfl
  | some x=>unfold Zkt at c;rw [if_neg (by simp),hx] at c;cases c
 obtain ⟨T,o⟩:∃ q,q=ZeD m ls ⟨26,(ia:Int),ib⟩ l:=⟨_,rfl⟩;rw [←o] at e ⊢;have A:=Zh e;have n:Blk ((w.alloc (.cells #[.int .i64 26,.int .i64 ia,.int .i64 ib] 72)).alloc (.cells #[.int .i64 0,.int .i64 0] 38)) (w.heap.size+1) #[.int .i64 0,.int .i64 0] 38:=Blk.new' (w:=w.alloc (.cells #[.int .i64 26,.int .i64 ia,.int .i64 ib] 72)) _ _ (by simp);have j:Blk ((w.alloc (.cells #[.int .i64 26,.int .i64 ia,.int .i64 ib] 72)).alloc (.cells #[.int .i64 0,.int .i64 0] 38)) w.heap.size #[.int .i64 26,.int .i64 ia,.int .i64 ib] 72:=(Blk.new w _ _).alloc _;have b:=Zh n;have y:=Zh j;have f:=Zh (show Below w.heap.size w ((w.alloc (.cells #[.int .i64 26,.int .i64 ia,.int .i64 ib] 72)).alloc (.cells #[.int .i64 0,.int .i64 0] 38)) by exact bE);clear e o H Hj hm hk hi G c n j;go_enter Tryz.func230,Tryz.ntmps230
 go_wp2_with (go_at_call 227;refine (z.out _ f.out).mono ?_;rintro r U ⟨⟨N,E,rfl,t⟩,g⟩;have a:=Zh g;clear t g;have R:=(y.out.old a.out).cell 0 (v:=.int .i64 26) rfl;have J:=(b.out.old a.out).cell 0 (v:=.int .i64 0) rfl;have M:=(b.out.old a.out).cell 1 (v:=.int .i64 0) rfl;have P:=(b.out.old a.out).frozen 0;have Q:=(b.out.old a.out).frozen 1;have I:=(b.out.old a.out).lt)
 refine bodyPost_ret (v:=.tuple #[.agg #[.int .i64 0,.int .i64 0],.bool false]) (by simp [results,Tryz.results230,go_sem,J,M]) rfl ?_;exact Zkb (by rw [A.out];rfl) (fun u C=>by rw [A.out] at C;cases C) (ZcS (ZcS (Zag f.out a.out) (Nat.le_succ _) _) (Nat.le_succ _) _)
theorem Zk6 {i:In3} (hi:ZfU m k i) (c:i.op=25∨i.op=26) {ls l:List Ty} {n:Option Addr} {b:Nat} (j:Zas w n b l) (e:l.length=(Zez m i).1) (f:∀ t∈l,Zfk m t):
  Calls Tryz.prog 230 #[ZQ.p K,ZI.i i,.slice n l.length b] w (Zka w (ZeD m ls i l)):=by
 rw [ZkK c] at e;dsimp only at e;have o:=hi.a0 (by omega);obtain ⟨q,g,p⟩:=i;dsimp only at o c ⊢;obtain ⟨g,rfl⟩:∃ d:Nat,g=d:=⟨g.toNat,by omega⟩;rcases c with rfl|rfl
 ·exact Zk3 H Hj hm hk hi j e f
 ·by_cases has:Zkt m ⟨26,g,p⟩=[]
  ·exact Zk5 H Hj hm hk hi j e has
  ·cases l with
   | nil=>exact absurd (List.eq_nil_of_length_eq_zero e.symm) has
   | cons a l'=>exact Zk4 H Hj hm hk hi j e f rfl has
end
end
section
open Go.RowKit
theorem Zk7 {l:List VB}{k:Nat} (hk:k<l.length):Ze6 (l.take (k+1))=if (l.getD k default).op=33∧(l.getD k default).mid=false then (l.getD k default).bn else Ze6 (l.take k):=by
 unfold Ze6;rw [Zam l k hk,List.reverse_append,List.reverse_singleton,List.singleton_append,List.find?_cons];generalize l.getD k default=b;by_cases h:b.op=33
 ·cases hm:b.mid<;>simp [h]
 ·simp [h]
theorem Zk8 (K:Nat) (ao:Option Addr) (cap:Nat) (bs:List VB) (w:World) (E:w.cell? ⟨K,6,none⟩=some (.slice ao bs.length cap)) (c:Zas w ao cap bs) (F:bs.length≤1000000) :
  Calls Tryz.prog 166 #[ZQ.p K] w (Ret w (.int .i64 (Ze6 bs))):=by
 have N:=Zad E;obtain ⟨q,v⟩:∃ q:Nat,q=Ze6 bs:=⟨_,rfl⟩;rw [←v];have I:=Zh v;have J:=Zh c;have T:=Zh F;have y:IntKind.i64.wrap ((bs.length:Int)-1)=bs.length-1:=IntWalk.i64_in _ (by omega);obtain ⟨n,u⟩:∃ n,n=bs.length:=⟨_,rfl⟩;rw [←u] at E y F;have r:=Zh u;clear v c u;go_enter Tryz.func166,Tryz.ntmps166;go_wp2
 go_loop [3] (fun x=>∃ k:Nat,k≤n∧x=.int .i64 ((k:Int)-1)∧Ze6 (bs.take k)=q) (fun x=>((intOf x)+1).toNat)
 case atStart=>exact ⟨n,Nat.le_refl _,rfl,by rw [r.out,List.take_length,I.out]⟩
 case round=>
  obtain ⟨k,hk,rfl,j⟩:=hrel;have e:=Zh j;clear j;cases k with
  | zero=>
   have D:=e.out;rw [List.take_zero] at D;have t:q=0:=D.symm;subst t;go_wp2;go_ret;exact ZcP rfl bE
  | succ k=>
   have P:(k:Int) < n:=by omega
   obtain ⟨U,rfl,A,B,-,C⟩:=Zen J.out (i:=k) (by have:=r.out;omega);have f:=Zk7 (l:=bs) (k:=k) (by have:=r.out;omega);rw [e.out] at f;generalize bs.getD k default=b at A B C f;obtain ⟨G,W,M,V,Z,Y,X,z⟩:=b;dsimp only at A B C f;have g:(((k+1:Nat):Int)-1)=k:=by omega
   rw [g];have R:IntKind.i64.wrap ((k:Int)-1)=k-1:=IntWalk.i64_in _ (by omega);have o:=Zh f;clear f g;by_cases h33:G=33
   ·subst h33;cases z
    ·have a:q=M:=by have:=o.out;simpa using this
     subst a;go_wp2;go_ret;exact ZcP rfl bE
    ·have a:Ze6 (bs.take k)=q:=by have:=o.out;simp at this;exact this.symm
     have d:=Zh a;clear a;go_wp2
     go_round
     case rel=>exact ⟨k,by omega,rfl,d.out⟩
     case measure=>simp [intOf]
   ·have a:Ze6 (bs.take k)=q:=by have:=o.out;rw [if_neg (by omega)] at this;exact this.symm
    have d:=Zh a;have Q:(G == 33)=false:=by simpa using h33
    clear a h33;go_wp2
    go_round
    case rel=>exact ⟨k,by omega,rfl,d.out⟩
    case measure=>simp [intOf]
theorem Zk9 {w:World}{K:Nat}{h:Hd}{m:Md}{L O:Value}{so:Option Addr}{sc:Nat}{F:List Ty}{r:Ty} (H:Pk w K h m L (.slice so F.length sc) O) (Hj:Zaz w h m) (T:Zas w so sc F) (hm:Za2 m=true) (D:∀ t∈F,Zfk m t) (R:r.k≠0→Zfk m r) :
  Calls Tryz.prog 105 #[ZQ.p K,.agg #[.int .i64 r.k,.int .i64 r.c]] w (Ret w (.int .i64 (ZeF m r F))):=by
 obtain ⟨kl,k0,k1,k2,k3,-⟩:=H.cells;have k5:w.cell? ⟨K,5,none⟩=some (.slice so F.length sc):=Blk.cell H 5 rfl;obtain ⟨E,A⟩:∃ E,E=w.alloc (.cells #[.int .i64 r.k,.int .i64 r.c] 38):=⟨_,rfl⟩;have z:Below w.heap.size w E:=by rw [A];exact bE
 have C:Blk E w.heap.size #[.int .i64 r.k,.int .i64 r.c] 38:=by rw [A];exact Blk.new w _ _
 have Z:=C.cell 0 (v:=.int .i64 r.k) rfl;have i1:=C.cell 1 (v:=.int .i64 r.c) rfl;obtain ⟨q,G⟩:∃ q,q=ZeF m r F:=⟨_,rfl⟩;rw [←G];obtain ⟨n,hn⟩:∃ n,n=F.length:=⟨_,rfl⟩;have HB1:=Zh z;have HW:=Zh A;have ac:=Zh Hj;by_cases hk:r.k=0
 ·have Y:(r.k != 0)=false:=by simp [hk]
  by_cases h0:F=[]
  ·obtain rfl:q=0:=by rw [G];unfold ZeF;rw [if_pos hk,if_pos h0]
   rw [h0] at k5;have hS:∀ w',Below E.heap.size E w'→(fun w':World=>w'.cell? ⟨K,5,none⟩=some (.slice so 0 sc)) w':=fun w' hb=>Zj7 hb (Zj7 z k5);have HS:=Zh hS;have I:=hS _ (Below.refl _ _);clear hS k0 k1 k2 k3 k5 H Hj T D R hm G C z A h0 hk hn;go_enter Tryz.func105,Tryz.ntmps105
   go_upto_region 1 with fail
   rw [←HW.out]
   go_upto_region 6 with fail
   refine rO (fun w':World=>w'.cell? ⟨K,5,none⟩=some (.slice so 0 sc)) (oL [0,1,2,3,4,5,6,7,8,9,10,11,12,13,114,15,16]) (HS.out _ (Below.refl _ _).drew) ?_
   repeat refine pO ?_
   refine Zd5 ?_;refine Zh4 30 (by rfl) ?_;refine ⟨HS.out _ (Below.refl _ _).drew,?_⟩;simp only [List.setIfInBounds_toArray,List.set_cons_zero,List.set_cons_succ]
   repeat refine pO ?_
   refine Zd7 ?_;go_wp2;go_ret;exact ZcP rfl (Below.drew HB1.out)
  ·obtain rfl:q=12:=by rw [G];unfold ZeF;rw [if_pos hk,if_neg h0]
   have hn0:((n:Int) != 0)=true:=by
    cases F with
    | nil=>exact absurd rfl h0
    | cons x y=>rw [hn];simp;omega
   rw [←hn] at k5;have I:=Zj7 z k5;clear k0 k1 k2 k3 k5 H Hj T D R hm G C z A h0 hk hn;exact k83
 ·have Y:(r.k != 0)=true:=by simpa using hk
  by_cases h1:n=1
  ·obtain ⟨t,rfl⟩:∃ t,F=[t]:=by rw [hn] at h1;exact List.length_eq_one_iff.1 h1
   have N:q=if Zev m t r then 0 else 11:=by rw [G];unfold ZeF;rw [if_neg hk]
   obtain ⟨ad,X,J,U⟩:=ZaA T (i:=0) (by simp);subst X;simp only [Nat.zero_mul,List.getD_cons_zero,show ad.add 0=ad from by simp [Addr.add]] at J U;have ae:=Zad J;have V:=Zh (show ∀ w',Below w.heap.size w w'→Calls Tryz.prog 168 #[.agg (HM.mk h m),.agg #[.int .i64 t.k,.int .i64 t.c],.agg #[.int .i64 r.k,.int .i64 r.c]] w' (Ret w' (.bool (Zev m t r))) from fun w' hb=>ZjV m h t r w' (Hj.old hb) (fun q=>ZfH (D t (by simp)) (.inl q)) (fun q=>(ZfH (R hk) (.inl q)).1) (Zc4 (ZfK hm)));generalize Zev m t r=f at V N;obtain ⟨tk,tc⟩:=t;dsimp only at J U V;have hS:∀ w',Below E.heap.size E w'→(fun w':World=>w'.cell? ⟨K,0,none⟩=some (.slice h.co m.cl.length h.cc)∧w'.cell? ⟨K,1,none⟩=some (.slice h.so m.st.length h.sc)∧w'.cell? ⟨K,2,none⟩=some (.slice h.eo m.me.length h.ec)∧w'.cell? ⟨K,3,none⟩=some (.int .i64 m.sel)∧w'.cell? ⟨K,5,none⟩=some (.slice (some ad) 1 sc)∧w'.cell? ad=some (.int .i64 tk)∧w'.cell? ⟨ad.block,ad.off+1,none⟩=some (.int .i64 tc)∧w'.cell? ⟨w.heap.size,0,none⟩=some (.int .i64 r.k)∧w'.cell? ⟨w.heap.size,1,none⟩=some (.int .i64 r.c)) w':=fun w' hb=>
    ⟨Zj7 hb (Zj7 z k0),Zj7 hb (Zj7 z k1),Zj7 hb (Zj7 z k2),Zj7 hb (Zj7 z k3),Zj7 hb (Zj7 z k5),Zj7 hb (Zj7 z J),Zj7 hb (Zj7 z U),Zj7 hb Z,Zj7 hb i1⟩
   have HS:=Zh hS;have I:=(hS _ (Below.refl _ _)).2.2.2.2.1;clear hS k0 k1 k2 k3 k5 J U H Hj T D R hm G C z A hk hn h1;go_enter Tryz.func105,Tryz.ntmps105
   go_upto_region 1 with fail
   rw [←HW.out]
   go_upto_region 6 with fail
   clear I Z i1;refine rO (fun w':World=>w'.cell? ⟨K,0,none⟩=some (.slice h.co m.cl.length h.cc)∧w'.cell? ⟨K,1,none⟩=some (.slice h.so m.st.length h.sc)∧w'.cell? ⟨K,2,none⟩=some (.slice h.eo m.me.length h.ec)∧w'.cell? ⟨K,3,none⟩=some (.int .i64 m.sel)∧w'.cell? ⟨K,5,none⟩=some (.slice (some ad) 1 sc)∧w'.cell? ad=some (.int .i64 tk)∧w'.cell? ⟨ad.block,ad.off+1,none⟩=some (.int .i64 tc)∧w'.cell? ⟨w.heap.size,0,none⟩=some (.int .i64 r.k)∧w'.cell? ⟨w.heap.size,1,none⟩=some (.int .i64 r.c)) (oL [0,1,2,3,4,5,6,7,8,9,10,11,12,13,114,15,16]) (HS.out _ (Below.refl _ _).drew) ?_
   repeat refine pO ?_
   refine oO fun Kv hK=>?_;go_simp;refine (V.out _ (Below.drew HB1.out)).mono ?_;rintro e w2 ⟨rfl,M⟩;have HB2:=Zh (show Below E.heap.size E w2 from Zag (Below.drew (Below.refl _ _)) M);refine hK _ _ ⟨HS.out _ HB2.out,?_⟩;clear hK Kv M
   repeat refine pO ?_
   refine Zd7 ?_;subst N;cases f
   all_goals
    go_wp2;go_ret;exact ZcP rfl (Zag HB1.out HB2.out)
  ·obtain rfl:q=12:=by
    rw [G];unfold ZeF;rw [if_neg hk];split
    ·rw [hn] at h1;exact absurd rfl h1
    ·rfl
   have hn0:((n:Int) != 1)=true:=by simp;omega
   rw [←hn] at k5;have I:=Zj7 z k5;clear k0 k1 k2 k3 k5 H Hj T D R hm G C z A hk hn;exact k83
end
