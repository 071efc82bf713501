import Derived.Test.YtcfjblcgceednaaGreatL30
import Derived.Test.YtcfjblcgceednaaGreatL31
set_option linter.all false
set_option maxRecDepth 100000
set_option maxHeartbeats 16000000
namespace Go.Proofs.YtcfjblcgceednaaGreat
section
open Go.RowKit
attribute [local go_sem] World.cell?_alloc_some
theorem Zq1 {n:Nat}{t:Ty}{a:Int} (h:ZaF n t a=true) (b:t.k=2∨t.k=4):0≤t.c∧t.c<n:=by unfold ZaF at h;rw [if_pos b] at h;simpa using h
theorem Zq2 {w:World}{b:Nat}{t:Ty} (a:b=w.heap.size):Zar (w.alloc (.cells #[.int .i64 t.k,.int .i64 t.c] 76)) (some ⟨b,0,none⟩) 1 [t]:=by have:=ZdL (w:=w.alloc (.cells #[.int .i64 t.k,.int .i64 t.c] 76)) (b:=b) (xs:=#[.int .i64 t.k,.int .i64 t.c]) (t:=76) (Blk.new' _ _ a) (n:=1) (size:=2) rfl;exact this
theorem Rch.head {m:Md}{n c j:Nat} (h:Rch m c j) (hc:(c:Int)∈Zn8 m n):Rch m n j:=by
 induction h with
 | refl=>exact .step n c .refl hc
 | step i j _ h2 ih=>exact .step i j ih h2
def RmL (m:Md) (K1:List Nat) (n q:Nat) (L:List Nat):Prop:=(∀ k∈K1,k∈L)∧n∈L∧(∀ p,p<q→∀ t:Nat,(t:Int)=(Zn8 m n).getD p 0→t∈L)∧∀ j∈L,j=n∨j∈K1∨(Rch m n j∧∀ t:Nat,(t:Int)∈Zn8 m j→t∈L)
theorem RmL.start (m:Md) (K1:List Nat) (n:Nat):RmL m K1 n 0 (n :: K1):=
 ⟨fun k b=>by simp [b],by simp,fun p c=>by omega,fun j a=>by rcases List.mem_cons.1 a with e|e<;>simp [e]⟩
theorem RmL.next {m:Md}{K1:List Nat}{n q c:Nat}{L L':List Nat} (H:RmL m K1 n q L) (hq:q<(Zn8 m n).length) (hc:(c:Int)=(Zn8 m n).getD q 0) (hs:∀ k∈L,k∈L') (hcm:c∈L') (hj:∀ j∈L',j∈L∨(Rch m c j∧∀ t:Nat,(t:Int)∈Zn8 m j→t∈L')):RmL m K1 n (q+1) L':=by
 obtain ⟨f,g,o,r⟩:=H;have a:(c:Int)∈Zn8 m n:=by rw [hc];exact ZfU _ hq
 refine ⟨fun k s=>hs k (f k s),hs n g,fun p u t d=>?_,fun j b=>?_⟩
 ·by_cases e:p=q
  ·subst e;have:t=c:=by omega
   rw [this];exact hcm
  ·exact hs t (o p (by omega) t d)
 ·rcases hj j b with e|⟨e1,e2⟩
  ·rcases r j e with e|e|⟨e1,e2⟩
   ·exact .inl e
   ·exact .inr (.inl e)
   ·exact .inr (.inr ⟨e1,fun t d=>hs t (e2 t d)⟩)
  ·exact .inr (.inr ⟨e1.head a,e2⟩)
theorem RmL.fin {m:Md}{K1:List Nat}{n:Nat}{L:List Nat} (H:RmL m K1 n (Zn8 m n).length L):(∀ k∈K1,k∈L)∧n∈L∧∀ j∈L,j∈K1∨(Rch m n j∧∀ t:Nat,(t:Int)∈Zn8 m j→t∈L):=by
 obtain ⟨b,c,d,f⟩:=H;refine ⟨b,c,fun j g=>?_⟩;rcases f j g with rfl|e|e
 ·refine .inr ⟨.refl,fun t o=>?_⟩;obtain ⟨p,a,e⟩:=List.getElem_of_mem o;exact d p a t (by simp [a,e])
 ·exact .inl e
 ·exact .inr e
theorem ZqG.drew {w:World}{B M1 M2 M3:Nat}{h:Hd}{m:Md}{K1 K2 K3:List Nat} (H:ZqG w B M1 M2 M3 h m K1 K2 K3):ZqG w.drew B M1 M2 M3 h m K1 K2 K3:=
 ⟨H.bk.drew,H.md.keeps (fun _ _ h=>h),H.s1.eq rfl,H.s2.eq rfl,H.s3.eq rfl,H.n12,H.n13,H.n23⟩
theorem Ups.drew {S:List Nat}{a b:World} (h:Ups S a b):Ups S a b.drew:=⟨h.os,h.tape,h.output,h.size,h.block⟩
def RmP (w:World) (B M1 M2 M3:Nat) (h:Hd) (m:Md) (K1:List Nat) (n:Nat):Ending→World→Prop:=fun e w'=>e=.returned (.tuple #[])∧∃ L1 L2 L3,ZqG w' B M1 M2 M3 h m L1 L2 L3∧(∀ k∈L2,k<m.cl.length)∧Ups [M1,M2,M3] w w'∧Znz w w'∧(∀ k∈K1,k∈L1)∧n∈L1∧∀ j∈L1,j∈K1∨(Rch m n j∧∀ t:Nat,(t:Int)∈Zn8 m j→t∈L1)
def Zq3 (B M1 M2 M3:Nat) (h:Hd) (m:Md) (n:Nat):Prop:=∀ w K1 K2 K3,ZqG w B M1 M2 M3 h m K1 K2 K3→(∀ k∈K2,k<m.cl.length) →
 Calls Tryz.prog 221 #[ZQ.p B,.int .i64 n] w (RmP w B M1 M2 M3 h m K1 n)
section
variable {B M1 M2 M3:Nat}{h:Hd}{m:Md}{n:Nat}
theorem Zq4 (hv:Za1 m=true) (hn:n<m.me.length) (ih:∀ c,c<n→Zq3 B M1 M2 M3 h m c):Zq3 B M1 M2 M3 h m n:=by
 intro w r V W H hK;have aV:=Zin hv;have ao:n<1000:=by omega
 have dA:(n:Int) < m.me.length:=by omega
 have c4:=H.bk.cell 4 (v:=.map (some M1)) rfl;have HH:=Zh H;have HS:=Zh H.s1;have HK:=Zh hK;by_cases hin:n∈r
 ·have aM:=Zh (show decide (n∈r)=true from decide_eq_true hin);clear H hK;go_enter Tryz.func221,Tryz.ntmps221
  go_wp2_with (at_lookup;refine Zpg rfl _ _ rfl (M:=M1) (K:=r) rfl HS.out n rfl ao ?_;rw [aM.out])
  exact bodyPost_ret (v:=.tuple #[]) (by simp [results,Tryz.results221,go_sem]) rfl ⟨rfl,r,V,W,HH.out,HK.out,Ups.refl _ _,Znz.refl _,fun _ h=>h,hin,fun j hj=>.inl hj⟩
 ·have aM:=Zh (show decide (n∈r)=false from decide_eq_false hin);have cy:=Zh (show Zpd n r=n :: r from if_neg hin);have bl:=Zh (ZqM (B:=B) (M1:=M1) (M2:=M2) (M3:=M3) (h:=h) hv m.cl.length).1;have aO:=Zh (ZqM (B:=B) (M1:=M1) (M2:=M2) (M3:=M3) (h:=h) hv m.cl.length).2;have aT:=ZfO hv hn;have aS:=Zio (Zim hv n hn);have ah:=ZfN hv hn;obtain ⟨ad,bN,e0,e1,e2,e3,e4,e5,e6⟩:=H.md.mth hn;have c2:=H.bk.cell 2 (v:=.slice h.eo m.me.length h.ec) rfl;rw [bN] at c2;have HP:=Zh (H.md.p n hn);have HL:=Zh (H.md.l n hn);have ax:=Zh (H.md.k n hn);have dh:=Zh ah;have hr:=ah.r;have bv:=Zh (show ∀ i∈cdM m n,ZfR m n i from fun i hi=>ZfS (ah.i i hi).1 (ah.i i hi).2);have cN:=Zh (show ∀ t∈m.st,t.k=2∨t.k=4→0≤t.c∧t.c<m.cl.length from fun t ht Y=>Zq1 (ZfL hv t ht) Y);have cO:=Zh aV;have bk:=Zh (fun E (H':Zay E h m)=>Zoc m h n E H' hv hn);have cx:=Zh (show ∀ q,q<(Zn8 m n).length→∃ c:Nat,(Zn8 m n).getD q 0=c∧Zq3 B M1 M2 M3 h m c from fun q hq=>by
   obtain ⟨h0,h1⟩:=Zp3 hv hn (ZfU (0:Int) hq);exact ⟨((Zn8 m n).getD q 0).toNat,by omega,ih _ (by omega)⟩)
  have cQ:=Zh (show (Zn8 m n).length≤1200 from by
   have h1:=ZdA (Zn7 m (cdM m n) (cdM m n).length);have h2:=Zob aV.1 (cdM m n) (cdM m n).length (Nat.le_refl _);have h3:(cdM m n).length≤120:=ah.z.2.2;unfold Zn8;omega)
  have aw:=Zh (show cdM m n=(m.me.getD n default).k from rfl);generalize h.e n=y at e2 e3 e6 HP HL ax;generalize m.me.getD n default=x at e0 e1 e2 e3 e4 e5 e6 HP HL ax aT aS aw hr;obtain ⟨nm,c,pl,ll,⟨rk,rc⟩,F⟩:=x;obtain ⟨po,pc,lo,lc,ko,kc⟩:=y;dsimp only at e0 e1 e2 e3 e4 e5 e6 HP HL ax aS aw;have bu:=Zh (show ∀ t∈ZeF ⟨nm,c,pl,ll,⟨rk,rc⟩,F⟩,t.k=2∨t.k=4→0≤t.c∧t.c<m.cl.length from fun t ht Y=>Zq1 (aT t ht) Y);have cM:=Zh (show ∀ t∈[(⟨rk,rc⟩:Ty)],t.k=2∨t.k=4→0≤t.c∧t.c<m.cl.length from fun t ht Y=>by rw [List.mem_singleton.1 ht] at Y ⊢;exact Zq1 hr Y);have bs:=Zh (show (ZeF ⟨nm,c,pl,ll,⟨rk,rc⟩,F⟩).length≤1000 by unfold ZeF;dsimp only;split<;>simp<;>omega);have bt:=Zh (show ∀ E,Znz w E→Calls Tryz.prog 190 #[.agg #[.string nm,.int .i64 c,.slice po pl.length pc,.slice lo ll.length lc,.int .i64 rk,.int .i64 rc,.slice ko F.length kc]] E _ from fun E Y=>Zfh ⟨nm,c,pl,ll,⟨rk,rc⟩,F⟩ ⟨po,pc,lo,lc,ko,kc⟩ E (ZnA HP.out Y) (ZnA HL.out Y) ⟨by show pl.length≤1000;omega,by show ll.length≤1000;omega⟩);generalize ZeF ⟨nm,c,pl,ll,⟨rk,rc⟩,F⟩=lv at bu bs bt;have bw:=Zh (show ∀ E r V W a (t:Ty),ZqG E B M1 M2 M3 h m r V W→(∀ k∈V,k<m.cl.length)→Zar E (some ⟨a,0,none⟩) 1 [t]→(t.k=2∨t.k=4→0≤t.c∧t.c<m.cl.length)→Calls Tryz.prog 297 #[ZQ.p B,.slice (some ⟨a,0,none⟩) 1 1] E (RcP E B M1 M2 M3 h m r V W) from fun E r V W a t h1 h2 h3 h4=>aO.out E r V W _ 1 [t] h1 h2 (by omega) h3 (by simp) fun t' ht Y=>by rw [List.mem_singleton.1 ht] at Y ⊢;exact h4 Y)
  have cP:=Zh (show ∀ E r V W a,ZqG E B M1 M2 M3 h m r V W→(∀ k∈V,k<m.cl.length)→Zar E (some ⟨a,0,none⟩) 1 [(⟨rk,rc⟩:Ty)]→Calls Tryz.prog 297 #[ZQ.p B,.slice (some ⟨a,0,none⟩) 1 1] E (RcP E B M1 M2 M3 h m r V W) from fun E r V W a h1 h2 h3=>aO.out E r V W _ 1 [⟨rk,rc⟩] h1 h2 (by omega) h3 (by simp) cM.out);clear H hK hin ah bN aV hr aT;go_enter Tryz.func221,Tryz.ntmps221
  go_upto_region 3 with (first
   | (at_lookup;refine Zpg rfl _ _ rfl (M:=M1) (K:=r) rfl HS.out n rfl ao ?_;rw [aM.out])
   | (at_mapUpdate;refine Zph rfl _ _ _ rfl (M:=M1) (K:=r) rfl HS.out n rfl rfl ao ?_;intro w1 aU aC;rw [cy.out] at aU;have bm:=Zh (HH.out.put1 aC aU);have f:=ZqF HS.out.map aC;have bz:=Zh (Ups.grown (S:=[M1,M2,M3]) aC (by simp));have c2:=f _ _ c2;have e0:=f _ _ e0;have e1:=f _ _ e1;have e2:=f _ _ e2;have e3:=f _ _ e3;have e4:=f _ _ e4;have e5:=f _ _ e5;have e6:=f _ _ e6;have bo:=Zh f;clear aU aC f))
  obtain ⟨X,hX⟩:∃ X,X=w1.heap.size:=⟨_,rfl⟩;obtain ⟨w2,aF⟩:∃ w2,w2=w1.alloc (.cells #[.string nm,.int .i64 c,.slice po pl.length pc,.slice lo ll.length lc,.int .i64 rk,.int .i64 rc,.slice ko F.length kc] 81):=⟨_,rfl⟩;have az:Below w1.heap.size w1 w2:=by rw [aF];exact bE
  have I:Blk w2 X #[.string nm,.int .i64 c,.slice po pl.length pc,.slice lo ll.length lc,.int .i64 rk,.int .i64 rc,.slice ko F.length kc] 81:=by rw [aF,hX];exact Blk.new _ _ _
  have cq:=Zh (bm.out.old az);have cR:=Zh (bz.out.trans (Ups.of az));have bp:=Zh (bo.out.trans (Znz.of az));rw [←hX,←aF];have z0:=I.cell 0 (v:=.string nm) rfl;have z1:=I.cell 1 (v:=.int .i64 c) rfl;have z2:=I.cell 2 (v:=.slice po pl.length pc) rfl;have z3:=I.cell 3 (v:=.slice lo ll.length lc) rfl;have z4:=I.cell 4 (v:=.int .i64 rk) rfl;have z5:=I.cell 5 (v:=.int .i64 rc) rfl;have z6:=I.cell 6 (v:=.slice ko F.length kc) rfl;clear hX aF az I c2 c4 e0 e1 e2 e3 e4 e5 e6 bm bz bo
  go_upto_region 4 with (first
   | (go_at_call 190;refine (bt.out _ bp.out).mono ?_;rintro e w3 ⟨⟨vo,vc,rfl,ap⟩,aA⟩;have f:=Znz.of aA;have z0:=f _ _ z0;have z1:=f _ _ z1;have z2:=f _ _ z2;have z3:=f _ _ z3;have z4:=f _ _ z4;have z5:=f _ _ z5;have z6:=f _ _ z6;have cr:=Zh (cq.out.old aA);have cS:=Zh (cR.out.trans (Ups.of aA));have cz:=Zh (bp.out.trans f);have cJ:=Zh (Zar.of_own ap);clear ap aA f)
   | (go_at_call 297;refine (aO.out _ (n :: r) V W vo vc lv cr.out HK.out (by omega) cJ.out bs.out bu.out).mono ?_;rintro e w4 ⟨rfl,L4,bO,-,al,b0,aR⟩;have f:=aR;have z0:=f _ _ z0;have z1:=f _ _ z1;have z2:=f _ _ z2;have z3:=f _ _ z3;have z4:=f _ _ z4;have z5:=f _ _ z5;have z6:=f _ _ z6;have cs:=Zh bO;have cn:=Zh al;have cT:=Zh (cS.out.trans b0);have cA:=Zh (cz.out.trans aR);clear bO al b0 aR f))
  go_upto_region 6 with (go_at_call 297;(refine (cP.out _ (n :: r) L4 W _ (cs.out.old bE) cn.out (Zq2 rfl)).mono ?_;rintro e w5 ⟨rfl,L5,bP,-,am,b1,bU⟩;have f:=(Znz.of (show Below w4.heap.size w4 (w4.alloc _) by exact bE)).trans bU;have z0:=f _ _ z0;have z1:=f _ _ z1;have z2:=f _ _ z2;have z3:=f _ _ z3;have z4:=f _ _ z4;have z5:=f _ _ z5;have z6:=f _ _ z6;have ct:=Zh bP;have co:=Zh am;have cU:=Zh (cT.out.trans ((Ups.of (show Below w4.heap.size w4 (w4.alloc _) by exact bE)).trans b1));have cB:=Zh (cA.out.trans f);clear bP am b1 bU f))
  clear z0 z1 z2 z3 z4 z5 z6;have cF:=aw.out;rw [aw.out] at bv;have dy:F.length≤120:=aS.2.2;clear cF
  go_loopw [40] (fun i wr=>∃ (j:Nat) (L LS:List Nat),j≤F.length∧i=.int .i64 j∧Hid (ZqG wr B M1 M2 M3 h m (n :: r) L LS)∧Hid (∀ k∈L,k<m.cl.length)∧Hid (Ups [M1,M2,M3] w wr)∧Hid (Znz w wr)) (fun i _=>F.length-(intOf i).toNat)
  case atStart=>exact ⟨0,L5,W,Nat.zero_le _,rfl,ct.out,co.out,cU.out,cB.out⟩
  case round=>
   obtain ⟨j,L,LS,hj,rfl,u,HA,HU,J⟩:=hrel;rename World=>wo;by_cases hjl:j<F.length
   ·have bT:(j:Int) < F.length:=by omega
    have dB:IntKind.i64.wrap ((j:Int)+1)=((j+1:Nat):Int):=IntWalk.i64_in _ (by omega);obtain ⟨ad,rfl,o0,o1,o2⟩:=ZaA (ZnA ax.out J.out) hjl;have G:=bv.out (F.getD j default) (ZfU _ hjl);obtain ⟨i,hi⟩:∃ i,i=F.getD j default:=⟨_,rfl⟩;rw [←hi] at o0 o1 o2 G;obtain ⟨A,Z,ib⟩:=i;dsimp only at o0 o1 o2;have ay:=G.o14;have O:=G.o16;have N:=G.o12;have R:=G.o22;have ae:=G.a0;have af:=G.b0;dsimp only at ay O N R ae af;have dz:=Zac o0;have HB:=Zh (show Below wo.heap.size wo (wo.alloc (.cells #[.int .i64 A,.int .i64 Z,.int .i64 ib] 78)) by exact bE);clear hi G;by_cases c14:A=14∨A=24
    ·obtain ⟨d,rfl⟩:∃ d:Nat,Z=d:=⟨Z.toNat,by omega⟩;have ag:d<m.cl.length:=by have:=ay c14;omega
     have bF:A=14∨(¬ A=14∧A=24):=by omega
     clear ay O N R ae af c14;rcases bF with rfl|⟨hx,rfl⟩
     all_goals
      go_wp2_with (go_at_call 298;refine (bl.out _ (n :: r) L LS d (u.out.old HB.out) HA.out (by omega) ag).mono ?_;rintro e w6 ⟨rfl,L6,C,-,g,D,z⟩;have s:=Zh (And.intro C (And.intro g (And.intro D z)));clear C g D z)
      exact ⟨⟨j+1,L6,LS,hjl,rfl,s.out.1,s.out.2.1,HU.out.trans ((Ups.of HB.out).trans s.out.2.2.1),J.out.trans ((Znz.of HB.out).trans s.out.2.2.2)⟩,by simp [intOf];omega⟩
    ·have aZ:¬ A=14:=fun q=>c14 (.inl q);have a0:¬ A=24:=fun q=>c14 (.inr q);clear ay c14;by_cases c16:A=16
     ·obtain ⟨d,rfl⟩:∃ d:Nat,ib=d:=⟨ib.toNat,by omega⟩;have ag:d<m.cl.length:=by have:=O c16;omega
      subst c16;clear O N R ae af aZ a0
      go_wp2_with (go_at_call 298;refine (bl.out _ (n :: r) L LS d (u.out.old HB.out) HA.out (by omega) ag).mono ?_;rintro e w6 ⟨rfl,L6,C,-,g,D,z⟩;have s:=Zh (And.intro C (And.intro g (And.intro D z)));clear C g D z)
      exact ⟨⟨j+1,L6,LS,hjl,rfl,s.out.1,s.out.2.1,HU.out.trans ((Ups.of HB.out).trans s.out.2.2.1),J.out.trans ((Znz.of HB.out).trans s.out.2.2.2)⟩,by simp [intOf];omega⟩
     ·by_cases c12:A=12
      ·have HT:=Zh (show (⟨Z,ib⟩:Ty).k=2∨(⟨Z,ib⟩:Ty).k=4→0≤(⟨Z,ib⟩:Ty).c∧(⟨Z,ib⟩:Ty).c<m.cl.length from fun Y=>by dsimp only at Y ⊢;have:=(N c12).2.2;omega);subst c12;clear O N R ae af aZ a0 c16;have aK:=Zh (show Below wo.heap.size wo ((wo.alloc (.cells #[.int .i64 12,.int .i64 Z,.int .i64 ib] 78)).alloc (.cells #[.int .i64 Z,.int .i64 ib] 76)) by exact bE);have cI:=Zh (Zq2 (w:=wo.alloc (.cells #[.int .i64 12,.int .i64 Z,.int .i64 ib] 78)) (b:=wo.heap.size+1) (t:=⟨Z,ib⟩) (by simp))
       go_wp2_with (go_at_call 297;refine (bw.out _ (n :: r) L LS (wo.heap.size+1) ⟨Z,ib⟩ (u.out.old aK.out) HA.out cI.out HT.out).mono ?_;rintro e w6 ⟨rfl,L6,C,-,g,D,z⟩;have s:=Zh (And.intro C (And.intro g (And.intro D z)));clear C g D z)
       exact ⟨⟨j+1,L6,LS,hjl,rfl,s.out.1,s.out.2.1,HU.out.trans ((Ups.of aK.out).trans s.out.2.2.1),J.out.trans ((Znz.of aK.out).trans s.out.2.2.2)⟩,by simp [intOf];omega⟩
      ·by_cases c22:A=22∨A=23
       ·obtain ⟨d,rfl⟩:∃ d:Nat,Z=d:=⟨Z.toNat,by omega⟩;have ag:d<m.st.length:=by have:=R c22;omega
        have bM:d<1000:=by have:=cO.out.2.2.2.2;omega
        have dc:(d:Int) < m.st.length:=by omega
        have bG:A=22∨(¬ A=22∧A=23):=by omega
        obtain ⟨sd,c5,t0,t1⟩:=Zaz u.out.md.st ag;have aX:=cN.out (m.st.getD d default) (ZfU _ ag);generalize m.st.getD d default=t at t0 t1 aX;obtain ⟨tk,tc⟩:=t;dsimp only at t0 t1;have bx:=Zh aX;have hB:=HB.out;have hI:=Blk.new (w:=wo) #[.int .i64 A,.int .i64 d,.int .i64 ib] 78;obtain ⟨wa,aY⟩:∃ wa,wa=wo.alloc (.cells #[.int .i64 A,.int .i64 d,.int .i64 ib] 78):=⟨_,rfl⟩;have ab:=Zh (u.out.old hB);rw [←aY] at hB ab hI;have cX:=Zh (HU.out.trans (Ups.of hB));have cE:=Zh (J.out.trans (Znz.of hB));have t0:=Znz.of hB _ _ t0;have t1:=Znz.of hB _ _ t1;have cw:=Zh hI;have HW:=Zh aY;clear O N R ae af c22 aX hB hI aY HB;rcases bG with rfl|⟨b7,rfl⟩
        all_goals
         go_upto_region 18 with fail
         rw [←HW.out];have x1:=ab.out.bk.cell 1 (v:=.slice h.so m.st.length h.sc) rfl;rw [c5] at x1;have x6:=ab.out.bk.cell 6 (v:=.map (some M3)) rfl;have i1:=cw.out.cell 1 (v:=.int .i64 d) rfl;have bi:=Zh (show Cs [(⟨B,6,none⟩,.map (some M3)),(⟨wo.heap.size,1,none⟩,.int .i64 d)] wa.drew from ⟨x6,i1,trivial⟩);have bj:=Zh (show Cs [(⟨B,1,none⟩,.slice (some sd) m.st.length h.sc),(⟨wo.heap.size,1,none⟩,.int .i64 d),(sd.add (d*2),.int .i64 tk),(⟨(sd.add (d*2)).block,(sd.add (d*2)).off+1,none⟩,.int .i64 tc)] wa.drew from ⟨x1,i1,t0,t1,trivial⟩);refine rO (Cs [(⟨B,6,none⟩,.map (some M3)),(⟨wo.heap.size,1,none⟩,.int .i64 d)]) (oL [0,1,2,3,4,5,106]) ⟨x6,i1,trivial⟩ ?_;clear x1 x6 i1 t0 t1
         repeat refine pO ?_
         refine oO fun Kv hK=>?_;refine Zpi _ _ _ rfl (M:=M3) (K:=LS) rfl ab.out.drew.s3 d rfl rfl bM ?_;intro w7 aq aD;have U:=ZqF ab.out.drew.s3.map aD;have cv:=Zh (ab.out.drew.put3 aD aq);have cW:=Zh (cX.out.drew.trans (Ups.grown (S:=[M1,M2,M3]) aD (by simp)));have cD:=Zh (cE.out.trans (show Znz wa w7 from U));have cp:=Zh (Cs.keeps U bj.out);refine hK _ _ ⟨Cs.keeps U bi.out,?_⟩;clear hK Kv U aq aD bi bj;refine Zd5 ?_
         go_upto_region 19 with fail
         have aL:=Zh (show Cs [(⟨B,1,none⟩,.slice (some sd) m.st.length h.sc),(⟨wo.heap.size,1,none⟩,.int .i64 d),(sd.add (d*2),.int .i64 tk),(⟨(sd.add (d*2)).block,(sd.add (d*2)).off+1,none⟩,.int .i64 tc)] w7.drew from cp.out);refine rO (Cs [(⟨B,1,none⟩,.slice (some sd) m.st.length h.sc),(⟨wo.heap.size,1,none⟩,.int .i64 d),(sd.add (d*2),.int .i64 tk),(⟨(sd.add (d*2)).block,(sd.add (d*2)).off+1,none⟩,.int .i64 tc)]) (oL [0,1,2,3,4,5,6,7,8,9,110,111]) aL.out ?_
         repeat refine pO ?_
         refine oO fun Kv hK=>?_;go_simp;have ak:=Zh (show Below w7.drew.heap.size w7.drew (w7.drew.alloc (.cells #[.int .i64 tk,.int .i64 tc] 76)) by exact bE);refine hK _ _ ⟨Cs.keeps (Znz.of ak.out) aL.out,?_⟩;clear hK Kv
         repeat refine pO ?_
         refine oO fun Kv hK=>?_;go_simp;refine (bw.out (w7.drew.alloc (.cells #[.int .i64 tk,.int .i64 tc] 76)) (n :: r) L (Zpd d LS) w7.heap.size ⟨tk,tc⟩ (cv.out.drew.old ak.out) HA.out (Zq2 (w:=w7.drew) (b:=w7.heap.size) (t:=⟨tk,tc⟩) rfl) bx.out).mono ?_;rintro e w6 ⟨rfl,L6,C,-,g,D,z⟩;have s:=Zh (And.intro C (And.intro g (And.intro D z)));refine hK _ _ ⟨Cs.keeps z (Cs.keeps (Znz.of ak.out) aL.out),?_⟩;clear hK Kv C g D z;refine Zd5 ?_
         go_wp2_with fail
         exact ⟨⟨j+1,L6,Zpd d LS,hjl,rfl,s.out.1,s.out.2.1,cW.out.drew.trans ((Ups.of ak.out).trans s.out.2.2.1),(show Znz w w7.drew from cD.out).trans ((Znz.of ak.out).trans s.out.2.2.2)⟩,by simp [intOf];omega⟩
       ·have b7:¬ A=22:=fun q=>c22 (.inl q);have c6:¬ A=23:=fun q=>c22 (.inr q);have ds:(A == 14)=false:=by simpa using aZ
        have dw:(A == 24)=false:=by simpa using a0
        have dt:(A == 16)=false:=by simpa using c16
        have dr:(A == 12)=false:=by simpa using c12
        have du:(A == 22)=false:=by simpa using b7
        have dv:(A == 23)=false:=by simpa using c6
        clear O N R ae af c22
        go_wp2_with fail
        all_goals exact ⟨⟨j+1,L,LS,hjl,rfl,u.out.old bE,HA.out,HU.out.trans (Ups.of bE),J.out.trans (Znz.of bE)⟩,by simp [intOf];omega⟩
   ·obtain rfl:j=F.length:=by omega
    have bT:¬ ((F.length:Nat):Int) < F.length:=by omega
    go_upto_region 21 with fail
    have x0:=u.out.bk.cell 0 (v:=.slice h.co m.cl.length h.cc) rfl;have x1:=u.out.bk.cell 1 (v:=.slice h.so m.st.length h.sc) rfl;have x2:=u.out.bk.cell 2 (v:=.slice h.eo m.me.length h.ec) rfl;have x3:=u.out.bk.cell 3 (v:=.int .i64 m.sel) rfl
    go_upto_region 22 with (go_at_call 177;refine (bk.out _ u.out.md).mono ?_;rintro e w6 ⟨⟨uo,uc,rfl,bY,-⟩,aB⟩;have cK:=Zh bY;have cu:=Zh (u.out.old aB);have cV:=Zh (HU.out.trans (Ups.of aB));have cC:=Zh (J.out.trans (Znz.of aB));clear bY aB)
    clear x0 x1 x2 x3
    go_loopw [98] (fun i wr=>∃ (q:Nat) (N1 N2 N3:List Nat),q≤(Zn8 m n).length∧i=.int .i64 q∧Hid (ZqG wr B M1 M2 M3 h m N1 N2 N3)∧Hid (∀ k∈N2,k<m.cl.length)∧Hid (Ups [M1,M2,M3] w wr)∧Hid (Znz w wr)∧Hid (Znz w6 wr)∧Hid (RmL m r n q N1)) (fun i _=>(Zn8 m n).length-(intOf i).toNat)
    case atStart=>exact ⟨0,n :: r,L,LS,Nat.zero_le _,rfl,cu.out,HA.out,cV.out,cC.out,Znz.refl _,RmL.start _ _ _⟩
    case round=>
     obtain ⟨q,N1,N2,N3,hq,rfl,bn,bh,bA,bq,br,aN⟩:=hrel;rename World=>wq;have bZ:=cQ.out;by_cases hql:q<(Zn8 m n).length
     ·have bX:(q:Int) < (Zn8 m n).length:=by omega
      have dC:IntKind.i64.wrap ((q:Int)+1)=((q+1:Nat):Int):=IntWalk.i64_in _ (by omega);obtain ⟨td,rfl,t0⟩:=ZaB (ZnA cK.out br.out) hql;obtain ⟨c1,aQ,bV⟩:=cx.out q hql;rw [aQ] at t0;have cG:=Zh bV;have cH:=Zh (fun L'=>aN.out.next (L':=L') hql aQ.symm);clear bV aQ aN bZ
      go_wp2_with (go_at_call 221;refine (cG.out _ N1 N2 N3 bn.out bh.out).mono ?_;rintro e w7 ⟨rfl,P1,P2,P3,bQ,an,b2,U,aq,bW,bS⟩;have s:=Zh (And.intro bQ (And.intro an (And.intro b2 U)));have cL:=Zh (cH.out P1 aq bW bS);clear bQ an b2 U aq bW bS)
      exact ⟨⟨q+1,P1,P2,P3,hql,rfl,s.out.1,s.out.2.1,bA.out.trans s.out.2.2.1,bq.out.trans s.out.2.2.2,br.out.trans s.out.2.2.2,cL.out⟩,by simp [intOf];omega⟩
     ·have bX:¬ (q:Int) < (Zn8 m n).length:=by omega
      obtain rfl:q=(Zn8 m n).length:=by omega
      clear bZ
      go_wp2_with fail
      have h9:=aN.out.fin;exact bodyPost_ret (v:=.tuple #[]) (by simp [results,Tryz.results221,go_sem]) rfl ⟨rfl,N1,N2,N3,bn.out,bh.out,bA.out,bq.out,h9.1,h9.2.1,h9.2.2⟩
theorem Zq5 (hv:Za1 m=true):∀ n,n<m.me.length→Zq3 B M1 M2 M3 h m n:=by
 intro n
 induction n using Nat.strongRecOn with
 | ind n ih=>exact fun b=>Zq4 hv b fun c a=>ih c a (by omega)
end
end
section
open Go.RowKit
attribute [local go_sem] World.cell?_alloc_some
theorem Zq6 {m:Md}{k:Nat}{L:List Nat} (b:k∈L) (h:∀ j∈L,j∈([]:List Nat)∨(Rch m k j∧∀ t:Nat,(t:Int)∈Zn8 m j→t∈L)) (j:Nat):j∈L↔Rch m k j:=by
 constructor
 ·intro a;rcases h j a with e|e
  ·simp at e
  ·exact e.1
 ·intro c
  induction c with
  | refl=>exact b
  |step i j _ h2 ih=>
   rcases h i ih with e|e
   ·simp at e
   ·exact e.2 j h2
def Zq7 (w:World) (m:Md) (k:Nat):Ending→World→Prop:=fun e w'=>(∃ (L L2 L3:List Nat) (o1 o2 o3:Option Addr) (c1 c2 c3:Nat),e=.returned (.tuple #[.slice o1 (ZqR L).length c1,.slice o2 (ZqR L2).length c2,.slice o3 (ZqR L3).length c3,.int .i64 0])∧L.Nodup∧(∀ j,j∈L↔Rch m k j)∧Zar w' o1 c1 (ZqR L))∧Below w.heap.size w w'
theorem Zq8 (m:Md) (h:Hd) (k:Nat) (w:World) (A:Nat) (y:Nat) (H:Zay w h m) (hv:Za1 m=true) (hk:k<m.me.length) (hr:Zar w (some ⟨A,0,none⟩) y [(k:Int)]):Calls Tryz.prog 159 #[.agg (HM.mk h m),.slice (some ⟨A,0,none⟩) 1 y] w (Zq7 w m k):=by
 obtain ⟨K,D⟩:∃ K,K=w.alloc (.cells (HM.mk h m) 26):=⟨_,rfl⟩;have hb:=(show Below w.heap.size w K by rw [D];exact bE);have HB:=Zh hb;have HX:=Zh (show Blk K w.heap.size (HM.mk h m) 26 by rw [D];exact Blk.new _ _ _);have Hj:=Zh (H.old HB.out);have HR:=Zh (show Zar K (some ⟨A,0,none⟩) y [(k:Int)] from ZnA hr (Znz.of hb));have HA:=Zh (Zhj m h m.me.length [(k:Int)] (some ⟨A,0,none⟩) y K Hj.out HR.out (by simp));have he:Zhh (Za1 m&&[(k:Int)].all (inV m.me.length))=0:=by
  have:inV m.me.length k=true:=by unfold inV;simp;omega
  rw [hv];simp [this,Zhh]
 rw [he] at HA;have aD:=@run_makeMap Tryz.prog;have HW:=Zh D;have a9:(k:Int) < m.me.length:=by omega
 have au:=Zh (fun B M1 M2 M3=>Zq5 (B:=B) (M1:=M1) (M2:=M2) (M3:=M3) (h:=h) hv k hk);clear D H hr hb he;go_enter Tryz.func159,Tryz.ntmps159
 go_upto_region 1 with fail
 rw [←HW.out];have x0:=HX.out.cell 0 (v:=.slice h.co m.cl.length h.cc) rfl;have x1:=HX.out.cell 1 (v:=.slice h.so m.st.length h.sc) rfl;have x2:=HX.out.cell 2 (v:=.slice h.eo m.me.length h.ec) rfl;have x3:=HX.out.cell 3 (v:=.int .i64 m.sel) rfl
 go_upto_region 5 with (go_at_call 176;refine HA.out.mono ?_;rintro e g ⟨rfl,b⟩;have a4:=Zh (HX.out.old b);have ar:=Zh (Hj.out.old b);have ay:=Zh (ZnA HR.out (Znz.of b));have N:=Zh (Zaf HB.out b);have bb:=b.size;have x0:=Znz.of b _ _ x0;have x1:=Znz.of b _ _ x1;have x2:=Znz.of b _ _ x2;have x3:=Znz.of b _ _ x3;clear b)
 obtain ⟨M,I⟩:∃ M,M=g.heap.size:=⟨_,rfl⟩;obtain ⟨L,f⟩:∃ L,L=(((g.alloc (.map #[] 0)).alloc (.map #[] 0)).alloc (.map #[] 0)).alloc (.cells #[.slice h.co m.cl.length h.cc,.slice h.so m.st.length h.sc,.slice h.eo m.me.length h.ec,.int .i64 m.sel,.map (some M),.map (some (M+1)),.map (some (M+1+1))] 241):=⟨_,rfl⟩;have C:Below g.heap.size g L:=by rw [f];exact bE
 have ah:ZqG L (M+1+1+1) M (M+1) (M+1+1) h m [] [] []:=by
  refine ⟨?_,ar.out.old C,?_,?_,?_,by omega,by omega,by omega⟩
  ·rw [f];exact Blk.new' _ _ (by simp [I])
  ·rw [f,I];exact (Zpc.made g).old bE
  ·rw [f,I];have:=Zpc.made (g.alloc (.map #[] 0));rw [show (g.alloc (.map #[] 0)).heap.size=g.heap.size+1 by simp] at this;exact this.old bE
  ·rw [f,I];have:=Zpc.made ((g.alloc (.map #[] 0)).alloc (.map #[] 0));rw [show ((g.alloc (.map #[] 0)).alloc (.map #[] 0)).heap.size=g.heap.size+1+1 by simp] at this;exact this.old bE
 have aA:=Zh ah;have aq:=Zh (Znz.of C);have ao:=Zh (show Below w.heap.size w L from Zaf N.out C);have bc:L.heap.size=M+1+1+1+1:=by rw [f];simp [I]
 have a8:w.heap.size≤M:=by have:=N.out.size;omega
 rw [←I];rw [←f];clear ah C f I x0 x1 x2 x3 aD HA
 go_upto_region 6 with fail
 go_loopw [29] (fun i wr=>∃ (q:Nat) (u G J:List Nat),q≤1∧i=.int .i64 q∧Hid (ZqG wr (M+1+1+1) M (M+1) (M+1+1) h m u G J)∧Hid (∀ k∈G,k<m.cl.length)∧Hid (Below w.heap.size w wr)∧Hid (Znz g wr)∧Hid (q=0→u=[])∧Hid (q=1→k∈u∧∀ j∈u,j∈([]:List Nat)∨(Rch m k j∧∀ t:Nat,(t:Int)∈Zn8 m j→t∈u))) (fun i _=>1-(intOf i).toNat)
 case atStart=>exact ⟨0,[],[],[],by omega,rfl,aA.out,fun k hk=>by simp at hk,ao.out,aq.out,fun _=>rfl,fun h=>by omega⟩
 case round=>
  obtain ⟨q,u,G,J,hq,rfl,F,HL,V,Z,H0,H1⟩:=hrel;have aE:q=0∨q=1:=by omega
  rcases aE with rfl|rfl
  ·obtain rfl:=H0.out rfl;obtain ⟨td,ai,t0⟩:=ZaB (ZnA ay.out Z.out) (i:=0) (by simp);obtain rfl:=Option.some.inj ai;clear ai;rename World=>wq;have t0:wq.cell? ⟨A,0,none⟩=some (Value.int .i64 (k:Int)):=t0;have ba:=Zac t0
   go_wp2_with (go_at_call 221;refine (au.out _ _ _ _ _ [] G J F.out HL.out).mono ?_;rintro e w7 ⟨rfl,P1,P2,P3,ac,r,aj,ae,aF,af,ad⟩;have HE:=Zh (And.intro ac (And.intro r (And.intro aj ae)));have az:=Zh (And.intro af ad);clear ac r aj ae aF af ad)
   exact ⟨⟨1,P1,P2,P3,Nat.le_refl _,rfl,HE.out.1,HE.out.2.1,HE.out.2.2.1.below V.out (Nat.le_refl _) (fun x hx=>by simp at hx;omega),Z.out.trans HE.out.2.2.2,fun h=>by omega,fun _=>az.out⟩,by simp [intOf]⟩
  ·rename World=>wq;have HF:=Zh (Zq6 (H1.out rfl).1 (H1.out rfl).2);clear H0 H1
   go_upto_region 10 with fail
   have x4:=F.out.bk.cell 4 (v:=.map (some M)) rfl;have x5:=F.out.bk.cell 5 (v:=.map (some (M+1))) rfl;have x6:=F.out.bk.cell 6 (v:=.map (some (M+1+1))) rfl;have HC:=Zh (show Cs [(⟨M+1+1+1,4,none⟩,.map (some M)),(⟨M+1+1+1,5,none⟩,.map (some (M+1))),(⟨M+1+1+1,6,none⟩,.map (some (M+1+1)))] wq.drew from ⟨x4,x5,x6,trivial⟩);refine rO (Cs [(⟨M+1+1+1,4,none⟩,.map (some M)),(⟨M+1+1+1,5,none⟩,.map (some (M+1))),(⟨M+1+1+1,6,none⟩,.map (some (M+1+1)))]) (oL [0,1,2,3,5,6,7,8,10,11,12,13,104,109,114,15,16,17,18]) ⟨x4,x5,x6,trivial⟩ ?_;clear x4 x5 x6
   repeat refine pO ?_
   refine oO fun Kv E=>?_;go_simp;refine (ZqU wq.drew M u F.out.drew.s1).mono ?_;rintro e1 v1 ⟨⟨o1,c1,rfl,ag,-⟩,b⟩;have av:=Zh ag;have Y:=Zh (F.out.drew.old b);have W:=Zh (Cs.keeps (Znz.of b) HC.out);have O:=Zh (Zaf V.out.drew b);refine E _ _ ⟨W.out,?_⟩;clear E Kv ag b
   repeat refine pO ?_
   refine oO fun Kv E=>?_;go_simp;refine (ZqU v1 (M+1) G Y.out.s2).mono ?_;rintro e2 v2 ⟨⟨o2,c2,rfl,-,-⟩,s⟩;have aw:=Zh (ZnA av.out (Znz.of s));have ap:=Zh (Y.out.old s);have X:=Zh (Cs.keeps (Znz.of s) W.out);have R:=Zh (Zaf O.out s);refine E _ _ ⟨X.out,?_⟩;clear E Kv s
   repeat refine pO ?_
   refine oO fun Kv E=>?_;go_simp;refine (ZqU v2 (M+1+1) J ap.out.s3).mono ?_;rintro e3 v3 ⟨⟨o3,c3,rfl,-,-⟩,z⟩;have ax:=Zh (ZnA aw.out (Znz.of z));have U:=Zh (Zaf R.out z);refine E _ _ ⟨Cs.keeps (Znz.of z) X.out,?_⟩;clear E Kv z
   repeat refine pO ?_
   refine Zd5 ?_;go_wp2;exact bodyPost_ret (v:=.tuple #[.slice o1 (ZqR u).length c1,.slice o2 (ZqR G).length c2,.slice o3 (ZqR J).length c3,.int .i64 0]) (by simp [results,Tryz.results159,go_sem]) rfl ⟨⟨u,G,J,o1,o2,o3,c1,c2,c3,rfl,F.out.s1.1,HF.out,ax.out⟩,U.out⟩
end
section
open Go.RowKit
def Zq9 (a b:Int):Int:=if a=-1∨b=-1 then -1 else ZmS a b
def Zra (a b:Int):Int:=if a=-1∨(b≠-1∧b<a) then b else a
def Zrb (l:Bool) (a n:Int):Int:=if n=-1 then a else if a=-1∨(l=true∧n<a)∨(l=false∧a<n) then n else a
def Zrc (l:Bool) (m:Md) (T:Int→Int) (i:In3):Int:=if i.op=25 then T i.a else if i.op≠26 then 0 else (ZaN m i.a).foldl (fun a t=>Zrb l a (T t)) (-1)
def Zrd (l sc:Bool) (i:In3) (f s o t:Int):Int:=
 if i.op=29 then (if l=true then Zq9 o (Zra (Zq9 f t) (Zq9 s t)) else Zq9 o (max (Zq9 f t) (Zq9 s t)))
 else if i.op=30 then (if l=true then o else ZmS o (ZmT i.a (ZmS f t)))
 else if i.op=32∧sc=true then 0
 else if i.op=33 then (if l=true then Zq9 o (Zra (Zq9 f t) (Zq9 s t)) else ZmS (ZmS o (ZmS f t)) s)
 else Zq9 o (Zq9 f t)
def gR (l:Bool) (x:Ms) (m:Md) (T:Int→Int):Wg where
 plus:=Zq9
 pl i:=if l=true∧i.op=28 then -1 else if Zrc l m T i=-1 then -1 else ZmS (x.wt i) (Zrc l m T i)
 brk i f s:=Zrd l x.sc i f s (x.wt i) x.tl
theorem Zre {g g':Wg}{l:List In3}{P:Int→Prop}{a b:Nat} (E:Seg l a b) (r:P 0) (v:∀ a b,P a→P b→g.plus a b=g'.plus a b∧P (g.plus a b)) (D:∀ i∈l,g.pl i=g'.pl i∧P (g.pl i))
  (z:∀ i∈l,∀ f s,P f→P s→g.brk i f s=g'.brk i f s∧P (g.brk i f s)):∀ acc,P acc→WA g l a b acc=WA g' l a b acc∧P (WA g l a b acc):=by
 have u:∀ k,k<l.length→l.getD k default∈l:=fun k C=>ZfU _ C
 induction E with
 | nil a h=>intro acc c;rw [Zmv,Zmv];exact ⟨rfl,c⟩
 |pl a b q1 q2 q3 q4 q5 ih=>
  intro acc c;rw [Zmw q2 q5,Zmw q2 q5];obtain ⟨d,o⟩:=D _ (u a q1);obtain ⟨e,p⟩:=v _ _ c o;obtain ⟨j,q⟩:=ih _ p;exact ⟨by rw [j,e,d],q⟩
 |one a en b q1 q2 q3 i1 i2=>
  intro acc c;rw [Zmx q1 q2 q3,Zmx q1 q2 q3];obtain ⟨t,y⟩:=i1 0 r;obtain ⟨d,o⟩:=z _ (u a q1.1) _ 0 y r;obtain ⟨e,p⟩:=v _ _ c o;obtain ⟨j,q⟩:=i2 _ p;exact ⟨by rw [j,e,d,t],q⟩
 |two a n en b q1 q2 q3 q4 i1 i2 i3=>
  intro acc c;rw [Zmy q1 q2 q3 q4,Zmy q1 q2 q3 q4];obtain ⟨t,y⟩:=i1 0 r;obtain ⟨A,F⟩:=i2 0 r;obtain ⟨d,o⟩:=z _ (u a q1.1) _ _ y F;obtain ⟨e,p⟩:=v _ _ c o;obtain ⟨j,q⟩:=i3 _ p;exact ⟨by rw [j,e,d,t,A],q⟩
theorem Zrf {a b:Int} (c:Bd a) (d:Bd b):Zq9 a b=ZmS a b:=by unfold Zq9;rw [if_neg (by unfold Bd at *;omega)]
theorem Zrg {a b:Int} (c:Bl a) (d:Bl b):Zq9 a b=ZmX a b:=by
 unfold Zq9 ZmX Bl at *;by_cases h:a=-1∨b=-1
 ·rw [if_pos h,if_pos (by omega)]
 ·rw [if_neg h,if_neg (by omega)]
theorem Zrh {a b:Int} (c:Bl a) (d:Bl b):Bl (Zq9 a b):=Zrg c d▸Zqn c d
theorem Zri {a b:Int} (c:Bl a) (d:Bl b):Zra a b=ZmY a b:=by
 unfold Zra ZmY Bl at *
 repeat' split
 all_goals omega
theorem Zrj {T:Int→Int}{l:List Int} (g:l≠[]) (h:∀ t∈l,Bd (T t)):l.foldl (fun a t=>Zrb false a (T t)) (-1)=ZmW T l:=by
 have f:∀ (l:List Int) (a:Int),Bd a→(∀ t∈l,Bd (T t))→l.foldl (fun a t=>Zrb false a (T t)) a=l.foldl (fun a t=>max a (T t)) a:=by
  intro l
  induction l with
  | nil=>intro a _ _;rfl
  |cons x r ih=>
   intro a d h;have b:=h x (by simp);have e:Zrb false a (T x)=max a (T x):=by
    unfold Zrb Bd at *;rw [if_neg (by omega)];split<;>simp_all<;>omega
   rw [List.foldl_cons,List.foldl_cons,e];exact ih _ (ZnH d b) fun t c=>h t (by simp [c])
 cases l with
 | nil=>exact absurd rfl g
 |cons x r=>
  have b:=h x (by simp);have e:Zrb false (-1) (T x)=T x:=by unfold Zrb Bd at *;rw [if_neg (by omega),if_pos (.inl rfl)]
  unfold ZmW;rw [List.foldl_cons,List.foldl_cons,e,show max 0 (T x)=T x by unfold Bd at b;omega];exact f r _ b fun t c=>h t (by simp [c])
def Zrk (m:Md) (l:List In3):Prop:=∀ i∈l,i.op=26→ZaN m i.a≠[]
section
variable {x:Ms}{m:Md}{T T':Int→Int}{l:List In3}{k:Nat} (hv:∀ i∈l,ZaQ false i=true∧ZaW m k i=true) (hsd:Zrk m l)
include hv hsd
theorem Zrl (z:∀ i∈l,0≤x.wt i∧x.wt i≤1000) (o:0≤x.tl∧x.tl≤1000) (A:x.sc=true→∀ i∈l,i.op=32→x.wt i=0) (F:∀ t:Int,0≤t→t<k→T t=T' t) (d:∀ t,Bd (T' t)) {a b:Nat} (v:Seg l a b) :
  ∀ acc,Bd acc→WA (gR false x m T) l a b acc=WA (gW x m T') l a b acc∧Bd (WA (gR false x m T) l a b acc):=by
 have E:Bd 0:=by unfold Bd;omega
 have p:∀ i∈l,i.op≠1→0≤i.a:=fun i c=>(ZfS (hv i c).1 (hv i c).2).a0;refine Zre v E (fun a b p q=>by rw [show (gR false x m T).plus a b=Zq9 a b from rfl,Zrf p q];exact ⟨rfl,ZnF p q⟩) (fun i c=>?_) (fun i c f s y v=>?_)
 ·have q:=ZnJ (m:=m) z o d p i c;have D:=z i c;have C:=ZfS (hv i c).1 (hv i c).2;have j:Bd (x.wt i):=by unfold Bd;omega
  have G:Zrc false m T i=if i.op=25 then T' i.a else if i.op=26 then ZmW T' (ZaN m i.a) else 0:=by
   unfold Zrc;by_cases h25:i.op=25
   ·rw [if_pos h25,if_pos h25];exact F _ (C.a0 (by omega)) (C.o25 h25).1
   ·rw [if_neg h25,if_neg h25];by_cases h26:i.op=26
    ·rw [if_neg (by omega),if_pos h26,←Zrj (hsd i c h26) fun t _=>d t];have:∀ (L:List Int),(∀ t∈L,T t=T' t)→∀ a,L.foldl (fun a t=>Zrb false a (T t)) a=L.foldl (fun a t=>Zrb false a (T' t)) a:=by
      intro L
      induction L with
      | nil=>intro _ a;rfl
      | cons x r ih=>intro h a;rw [List.foldl_cons,List.foldl_cons,h x (by simp)];exact ih (fun t o=>h t (by simp [o])) _
     exact this _ (fun t o=>F _ (ZfT o) ((C.o26 h26).2 t o)) _
    ·rw [if_pos h26,if_neg h26]
  have u:Bd (Zrc false m T i):=by
   rw [G];split
   ·exact d _
   ·split
    ·exact ZnI fun t _=>d t
    ·exact E
  have e:(gR false x m T).pl i=ZmS (x.wt i) (Zrc false m T i):=by show (if false=true∧i.op=28 then (-1:Int) else if Zrc false m T i=-1 then (-1:Int) else ZmS (x.wt i) (Zrc false m T i))=_;rw [if_neg (by simp),if_neg (by unfold Bd at u;omega)]
  refine ⟨?_,by rw [e];exact ZnF j u⟩;rw [e,G];show _=if i.op=25 then _ else if i.op=26 then _ else _;split
  ·rfl
  ·split
   ·rfl
   ·unfold ZmS ZmR;omega
 ·have D:=z i c;have j:Bd (x.wt i):=by unfold Bd;omega
  have g:Bd x.tl:=by unfold Bd;omega
  have q:=ZnK (m:=m) z o d p i c f s y v;have e:(gR false x m T).brk i f s=(gW x m T').brk i f s:=by
   show Zrd false x.sc i f s (x.wt i) x.tl=if i.op=29 then _ else if i.op=30 then _ else if i.op=32∧x.sc=true then _ else if i.op=33 then _ else _;unfold Zrd;simp only [Bool.false_eq_true,if_false];rw [Zrf y g,Zrf v g,Zrf j (ZnH (ZnF y g) (ZnF v g)),Zrf j (ZnF y g)];by_cases h29:i.op=29
   ·rw [if_pos h29,if_pos h29]
   ·rw [if_neg h29,if_neg h29];by_cases h30:i.op=30
    ·rw [if_pos h30,if_pos h30]
    ·rw [if_neg h30,if_neg h30];by_cases hsc:i.op=32∧x.sc=true
     ·rw [if_pos hsc,if_pos hsc,A hsc.2 i c hsc.1]
     ·rw [if_neg hsc,if_neg hsc];by_cases h33:i.op=33
      ·rw [if_pos h33,if_pos h33];unfold ZmS ZmR Bd at *;omega
      ·rw [if_neg h33,if_neg h33]
  exact ⟨e,e▸q⟩
end
theorem Zrm {l:Bool}{x:Ms}{m:Md}{T:Int→Int}{c:List In3}{a b:Nat} (e:Seg c a b):WA (gR l x m T) c a b (-1)=-1:=by
 have d:∀ n,(gR l x m T).plus (-1) n=-1:=fun n=>by show Zq9 (-1) n=-1;unfold Zq9;rw [if_pos (.inl rfl)]
 induction e with
 | nil a h=>rw [Zmv]
 | pl a b q1 q2 q3 q4 q5 ih=>rw [Zmw q2 q5,d];exact ih
 | one a en b q1 q2 q3 i1 i2=>rw [Zmx q1 q2 q3,d];exact i2
 | two a n en b q1 q2 q3 q4 i1 i2 i3=>rw [Zmy q1 q2 q3 q4,d];exact i3
end
section
open Go.RowKit
theorem Zrn {s t:List Br × Nat}{i:In3} (h:ZaS s i=some t) (a:s.1.length≤s.2):t.1.length≤t.2:=by
 obtain ⟨S,D⟩:=s;unfold ZaS at h;split at h
 ·cases h;simp;omega
 ·split at h
  ·cases S with
   | nil=>cases h
   |cons b r=>
    dsimp only at h;split at h
    ·cases h;simp at a ⊢;omega
    ·cases h
  ·split at h
   ·cases S with
    | nil=>cases h
    |cons b r=>
     dsimp only at h;split at h
     ·cases h
     ·cases h;simp at a ⊢;omega
   ·cases h;exact a
theorem Zro:∀ (l:List In3) (s t:List Br × Nat),ZaT s l=some t→s.1.length≤s.2→t.1.length≤t.2
 | [],s,t,h,hs=>by cases h;exact hs
 |i :: l,s,t,h,hs=>by
  unfold ZaT at h;split at h
  ·cases h
  ·rename_i u a;exact Zro l u t h (Zrn a hs)
theorem Zrp {l:List In3} (hv:ZaU l=true) {k:Nat} (h:Za8 l k):False:=by
 unfold ZaU at hv;split at hv
 ·cases hv
 ·rename_i b d a;simp only [Bool.and_eq_true,List.isEmpty_iff] at hv;obtain ⟨rfl,_⟩:=hv;rw [←List.take_append_drop k l,Za2] at a;cases h1:ZaT ([],0) (l.take k) with
  | none=>rw [h1] at a;cases a
  |some t=>
   rw [h1] at a;obtain ⟨S,D⟩:=t;exact h S D (Zro _ _ _ h1 (Nat.le_refl _)) _ a rfl
theorem Zrq (l:List In3) (p:Option Addr) (b:Nat) (w:World) (q:Zar w p b l) (hv:ZaV false l=0) {k en:Nat}{alt:Int} (t:Mat l k alt en) :
    Calls Tryz.prog 165 #[.slice p l.length b,.int .i64 k] w (Ret w (.tuple #[.int .i64 alt,.int .i64 en,.int .i64 0])):=by
 have I:=(ZmF hv).1;have C:=t.1;have J:(k:Int) < l.length:=by omega
 have z:=Zh (ZgK l p b false w q);rw [hv] at z;have c:ZaR (l.getD k default).op=true:=t.2.1;have E:=Zh (fun w' s=>ZgH l p b w' (Zar.old q (w':=w') s) (by omega) l.length (ZgI l p b w' (Zar.old q s) (by omega) l.length) k C (by omega) c);have A:=Zh (fun w' s=>ZaA (Zar.old q (w':=w') s) C);have F:=Zh t;have G:=Zh (ZmF hv).2.2;obtain ⟨N,D⟩:∃ o,o=(l.getD k default).op:=⟨_,rfl⟩;rw [←D] at c A;have u:=Zh c;clear D c q hv t;go_enter Tryz.func165,Tryz.ntmps165
 go_wp2_with (first
   | (go_at_call 181;refine z.out.mono ?_;rintro e O ⟨rfl,f⟩;have j:=Zh f;obtain ⟨L,rfl,M,-,-⟩:=A.out _ f;clear f)
   | (go_at_call 151;refine (ZeO _ _).mono ?_;rintro e P ⟨rfl,rfl⟩;rw [u.out])
   | (go_at_call 225;refine (E.out _ j.out).mono ?_;rintro e Q ⟨v,rfl⟩
      obtain ⟨a,d,r,rfl,g⟩:∃ (a:Int) (d r:Nat),e=.returned (.tuple #[.int .i64 a,.int .i64 d,.int .i64 r])∧Mat l k a d:=by
        rcases v with ⟨a,K,r,H,-,-,-,g⟩|⟨-,y⟩
        · exact ⟨a,K,r,H,g⟩
        · exact (Zrp G.out y).elim
      obtain ⟨rfl,rfl⟩:=Prod.mk.inj ((Zmn F.out).symm.trans (Zmn g))))
 go_ret3;exact ZcT rfl j.out
theorem Zrr (a b:Int) (w:World) (c:-2000≤a∧a≤1000000001) (d:-2000≤b∧b≤1000000001):Calls Tryz.prog 166 #[.int .i64 a,.int .i64 b] w (Ret w (.int .i64 (ZmS a b))):=by obtain ⟨e,f⟩:=c;obtain ⟨g,j⟩:=d;generalize hq:ZmS a b=q;have HQ:=Zh hq;clear hq;go_enter Tryz.func166,Tryz.ntmps166;exact j18
theorem Zrs (a b:Int) (w:World) (e:-1000≤a*b) (f:a*b≤1000000001000):Calls Tryz.prog 352 #[.int .i64 a,.int .i64 b] w (Ret w (.int .i64 (ZmT a b))):=by have c:IntKind.i64.wrap (a*b)=a*b:=IntWalk.i64_in _ (by omega);have d:=Zh c;generalize hq:ZmT a b=q;have HQ:=Zh hq;clear hq;go_enter Tryz.func352,Tryz.ntmps352;exact j20
theorem Zrt (a b:Int) (w:World) (g:Bl a) (j:Bl b):Calls Tryz.prog 350 #[.int .i64 a,.int .i64 b] w (Ret w (.int .i64 (Zq9 a b))):=by
 obtain ⟨r,d⟩:=g;obtain ⟨s,f⟩:=j;generalize hq:Zq9 a b=q;have c:=Zh hq;clear hq;go_enter Tryz.func350,Tryz.ntmps350
 go_wp2_with (go_at_call 166;refine (Zrr a b _ ⟨by omega,d⟩ ⟨by omega,f⟩).mono ?_;rintro e t ⟨rfl,o⟩)
 all_goals
  go_ret;refine ZcT (ZcY ?_) bE;rw [←c.out];unfold Zq9;grind
theorem Zru (a b:Int) (w:World):Calls Tryz.prog 351 #[.int .i64 a,.int .i64 b] w (Ret w (.int .i64 (Zra a b))):=by
 generalize hq:Zra a b=q;have c:=Zh hq;clear hq;go_enter Tryz.func351,Tryz.ntmps351;go_wp2
 all_goals
  go_ret;refine ZcT (ZcY ?_) bE;rw [←c.out];unfold Zra;grind
theorem Zrv (n:Int) (w:World):Calls Tryz.prog 96 #[.int .i64 n] w (Zhf w (.int .i64 (if 1000000000<n then 0 else n)) (.int .i64 (if 1000000000<n then 6 else 0))):=by
 by_cases h:1000000000<n
 all_goals
  first|rw [if_pos h,if_pos h]|rw [if_neg h,if_neg h]
  go_enter Tryz.func96,Tryz.ntmps96;go_wp2;go_ret2;exact Zhg rfl rfl bE
end
section
open Go.RowKit
attribute [local go_sem] World.cell?_alloc_some
def Zrw (w:World) (m:Md) (k:Nat):Ending→World→Prop:=fun e w'=>(∃ (L:List Nat) (o1:Option Addr) (c1:Nat),e=.returned (.slice o1 (ZqR L).length c1)∧L.Nodup∧(∀ j,j∈L↔Rch m k j)∧Zar w' o1 c1 (ZqR L))∧Below w.heap.size w w'
theorem Zrx (m:Md) (h:Hd) (k:Nat) (w:World) (H:Zay w h m) (hv:Za1 m=true) (D:k<m.me.length):Calls Tryz.prog 102 #[.agg (HM.mk h m),.int .i64 k] w (Zrw w m k):=by
 obtain ⟨a,b⟩:∃ a,a=w.alloc (.cells (HM.mk h m) 26):=⟨_,rfl⟩;have t:=(show Below w.heap.size w a by rw [b];exact bE);have u:=Zh t;have o:=Zh (show Blk a w.heap.size (HM.mk h m) 26 by rw [b];exact Blk.new _ _ _);have y:=Zh (H.old u.out);have A:=Zh b;have d:Below a.heap.size a (a.alloc (.cells #[.int .i64 k] 3)):=by exact bE
 have z:=Zh (Zq8 m h k (a.alloc (.cells #[.int .i64 k] 3)) a.heap.size 1 (y.out.old d) hv D (show Zar _ _ 1 [(k:Int)] from ZdL (Blk.new a #[.int .i64 k] 3) (n:=1) (size:=1) rfl));have q:=Zh (Zaf t d);clear b H t d;go_enter Tryz.func102,Tryz.ntmps102
 go_upto_region 1 with fail
 rw [←A.out];have O:=o.out.cell 0 (v:=.slice h.co m.cl.length h.cc) rfl;have P:=o.out.cell 1 (v:=.slice h.so m.st.length h.sc) rfl;have Q:=o.out.cell 2 (v:=.slice h.eo m.me.length h.ec) rfl;have R:=o.out.cell 3 (v:=.int .i64 m.sel) rfl
 go_upto_region 2 with (go_at_call 159;refine z.out.mono ?_;rintro e N ⟨⟨L,F,G,E,K,M,C,I,J,rfl,j,g,c⟩,f⟩;have s:=Zh (And.intro j (And.intro g c));have r:=Zh (Zaf q.out f);clear j g c f)
 go_wp2;go_ret;exact ⟨⟨L,E,C,rfl,s.out.1,s.out.2.1,s.out.2.2⟩,r.out⟩
end
