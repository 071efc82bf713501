/- Joined texts. The first: The reference's table in memory; own, tail, bracket. -/
import Derived.Test.YtcfjblcgceednaaGreatF31
import Derived.Test.YtcfjblcgceednaaGreatF32
set_option linter.all false
set_option linter.unusedVariables false
set_option linter.unusedSimpArgs false
set_option maxRecDepth 100000
set_option maxHeartbeats 16000000
namespace Go.Proofs.YtcfjblcgceednaaGreat
section
open Go.RowKit
def ZqM (W:World) (P:Prop):Ending→World→Prop:=fun e w'=>(∃ b,e=.returned (.bool b)∧(b=true↔P))∧Below W.heap.size W w'
def ZqN (m:Md) (k:Nat) (op:Int):Prop:=∃ j,Rch m k j∧∃ i∈cdM m j,i.op=op
theorem ZqO (m:Md) (h:Hd) (k:Nat) (op:Int) (w:World) (H:Zay w h m) (hv:Za1 m=true) (hk:k<m.me.length):Calls Tryz.prog 62 #[.agg #[.slice h.co m.cl.length h.cc,.slice h.so m.st.length h.sc,.slice h.eo m.me.length h.ec,.int .i64 m.sel],.int .i64 k,.int .i64 op] w (ZqM w (ZqN m k op)):=by
 have hm16:=(Zin hv).2.1
 obtain ⟨w0,hw0⟩:∃ w0,w0=w.alloc (.cells #[.slice h.co m.cl.length h.cc,.slice h.so m.st.length h.sc,.slice h.eo m.me.length h.ec,.int .i64 m.sel] 26):=⟨_,rfl⟩
 have HB:=Zh (show Below w.heap.size w w0 by rw [hw0];exact bE)
 have HX:=Zh (show Blk w0 w.heap.size #[.slice h.co m.cl.length h.cc,.slice h.so m.st.length h.sc,.slice h.eo m.me.length h.ec,.int .i64 m.sel] 26 by rw [hw0];exact Blk.new _ _ _)
 have HM:=Zh (H.old HB.out)
 have HW:=Zh hw0
 have HV:=Zh hv
 have HRe:=Zh (Zp1 m h k w0 HM.out hv hk)
 clear hw0 H hv
 go_enter Tryz.func62,Tryz.ntmps62
 go_upto_region 1 with fail
 rw [←HW.out]
 have x0:=HX.out.cell 0 (v:=.slice h.co m.cl.length h.cc) rfl;have x1:=HX.out.cell 1 (v:=.slice h.so m.st.length h.sc) rfl;have x2:=HX.out.cell 2 (v:=.slice h.eo m.me.length h.ec) rfl;have x3:=HX.out.cell 3 (v:=.int .i64 m.sel) rfl
 go_wp2_with (go_at_call 123;refine HRe.out.mono ?_;rintro e w1 ⟨g,L,rfl,hX1,hL,hLr,hg,hb1⟩;have HX1:=Zh hX1;have HL:=Zh (And.intro hL hLr);have HB1:=Zh hb1;clear hX1 hL hLr hg hb1 x0 x1 x2 x3)
 go_loopw [8] (fun i wr=>∃ q:Nat,q≤k+1∧i=.int .i64 q∧Hid (∀ j,j<q→Rch m k j→∀ i∈cdM m j,i.op≠op)∧Hid (Below w1.heap.size w1 wr)) (fun i _=>k+1-(intOf i).toNat)
 case atStart=>exact ⟨0,Nat.zero_le _,rfl,fun j hj=>by omega,Below.refl _ _⟩
 case round=>
  obtain ⟨q,hq,rfl,HN,HBr⟩:=hrel
  rename World=>wo
  by_cases hqk:q≤k
  ·have hqk2:(q:Int)≤k:=by omega
   have hqm:q<m.me.length:=by omega
   have hqm2:(q:Int) < m.me.length:=by omega
   have hwq:IntKind.i64.wrap ((q:Int)+1)=((q+1:Nat):Int):=IntWalk.i64_in _ (by omega)
   have c0:wo.cell? ⟨g,q,none⟩=some (.bool (L.getD q false)):=(HX1.out.old HBr.out).cell q (by unfold ZpZ;have:=HL.out.1;simp [List.getD_eq_getElem?_getD,show q<L.length by omega])
   have hr:=HL.out.2 q hqm
   obtain ⟨b,hb⟩:∃ b,b=L.getD q false:=⟨_,rfl⟩
   rw [←hb] at c0 hr
   have HR:=Zh hr
   clear hr hb
   rcases b with _|_
   ·go_wp2
    exact ⟨⟨q+1,by omega,rfl,fun j hj hrj=>by
     by_cases e:j=q
     ·subst e;exact absurd (HR.out.2 hrj) (by decide)
     ·exact HN.out j (by omega) hrj,HBr.out⟩,by simp [intOf];omega⟩
   ·go_upto_region 7 with fail
    clear c0
    have hc120:(cdM m q).length≤120:=(ZfN HV.out hqm).z.2.2
    go_loopw [9] (fun i wr=>∃ t:Nat,t≤(cdM m q).length∧i=.int .i64 t∧Hid (∀ x,x<t→((cdM m q).getD x default).op≠op)∧Hid (Below w1.heap.size w1 wr)) (fun i _=>(cdM m q).length-(intOf i).toNat)
    case atStart=>exact ⟨0,Nat.zero_le _,rfl,fun x hx=>by omega,HBr.out⟩
    case round=>
     obtain ⟨t,ht,rfl,HT,HBs⟩:=hrel
     rename World=>wi
     have HBt:=Zh (Zaf HB1.out HBs.out)
     obtain ⟨ea,he,-,-,-,-,-,-,e6⟩:=(HM.out.old HBt.out).mth hqm
     rw [show (m.me.getD q default).k.length=(cdM m q).length from rfl] at e6
     have x2:=(HX.out.old HBt.out).cell 2 (v:=.slice h.eo m.me.length h.ec) rfl
     have hrow:=(HM.out.old HBt.out).k q hqm
     rw [show (m.me.getD q default).k=cdM m q from rfl] at hrow
     by_cases htl:t<(cdM m q).length
     ·have htl2:(t:Int) < (cdM m q).length:=by omega
      have hwt:IntKind.i64.wrap ((t:Int)+1)=((t+1:Nat):Int):=IntWalk.i64_in _ (by omega)
      obtain ⟨ca,hca,o0,-,-⟩:=ZaA hrow htl
      rw [he] at x2
      rw [hca] at e6
      obtain ⟨o,ho⟩:∃ o,o=((cdM m q).getD t default).op:=⟨_,rfl⟩
      rw [←ho] at o0
      have HO:=Zh ho
      clear ho he hca hrow
      by_cases hop:o=op
      ·subst hop
       go_wp2
       go_ret
       exact ⟨⟨true,rfl,fun _=>⟨q,HR.out.1 trivial,_,ZfU default htl,HO.out.symm⟩,fun _=>rfl⟩,Zaf HB.out HBt.out⟩
      ·go_wp2
       exact ⟨⟨t+1,htl,rfl,fun x hx=>by
        by_cases e:x=t
        ·subst e;rw [←HO.out];exact hop
        ·exact HT.out x (by omega),HBs.out⟩,by simp [intOf];omega⟩
     ·have htl2:¬ (t:Int) < (cdM m q).length:=by omega
      rw [he] at x2
      clear he hrow
      go_wp2
      exact ⟨⟨q+1,by omega,rfl,fun j hj hrj i hi=>by
       by_cases e:j=q
       ·subst e
        obtain ⟨x,hx,rfl⟩:=List.mem_iff_getElem.1 hi
        have:=HT.out x (by omega)
        rwa [List.getD_eq_getElem?_getD,List.getElem?_eq_getElem hx] at this
       ·exact HN.out j (by omega) hrj i hi,HBs.out⟩,by simp [intOf];omega⟩
  ·have hqk2:¬ (q:Int)≤k:=by omega
   go_wp2
   go_ret
   exact ⟨⟨false,rfl,(fun h=>by cases h),fun ⟨j,hj,i,hi,ho⟩=>absurd ho (HN.out j (by have:=hj.le HV.out hk;omega) hj i hi)⟩,Zaf HB.out (Zaf HB1.out HBr.out)⟩
end
section
open Go.RowKit
attribute [local go_sem] World.cell?_alloc_some
theorem ZqP {n:Nat}{t:Ty}{least:Int} (h:ZaF n t least=true) (hk:t.k=2∨t.k=4):0≤t.c∧t.c<n:=by
 unfold ZaF at h
 rw [if_pos hk] at h
 simpa using h
theorem ZqQ {w:World}{b:Nat}{t:Ty} (hb:b=w.heap.size):Zar (w.alloc (.cells #[.int .i64 t.k,.int .i64 t.c] 76)) (some ⟨b,0,none⟩) 1 [t]:=by
 have:=ZdL (w:=w.alloc (.cells #[.int .i64 t.k,.int .i64 t.c] 76)) (b:=b) (xs:=#[.int .i64 t.k,.int .i64 t.c]) (t:=76) (Blk.new' _ _ hb) (n:=1) (size:=2) rfl
 exact this
theorem Rch.head {m:Md}{n c j:Nat} (h:Rch m c j) (hc:(c:Int)∈ZpQ m n):Rch m n j:=by
 induction h with
 | refl=>exact .step n c .refl hc
 | step i j _ h2 ih=>exact .step i j ih h2
def RmL (m:Md) (K1:List Nat) (n q:Nat) (L:List Nat):Prop:=(∀ k∈K1,k∈L)∧n∈L∧(∀ p,p<q→∀ t:Nat,(t:Int)=(ZpQ m n).getD p 0→t∈L)∧∀ j∈L,j=n∨j∈K1∨(Rch m n j∧∀ t:Nat,(t:Int)∈ZpQ m j→t∈L)
theorem RmL.start (m:Md) (K1:List Nat) (n:Nat):RmL m K1 n 0 (n :: K1):=
 ⟨fun k hk=>by simp [hk],by simp,fun p hp=>by omega,fun j hj=>by rcases List.mem_cons.1 hj with e|e<;>simp [e]⟩
theorem RmL.next {m:Md}{K1:List Nat}{n q c:Nat}{L L':List Nat} (H:RmL m K1 n q L) (hq:q<(ZpQ m n).length) (hc:(c:Int)=(ZpQ m n).getD q 0) (hs:∀ k∈L,k∈L') (hcm:c∈L') (hj:∀ j∈L',j∈L∨(Rch m c j∧∀ t:Nat,(t:Int)∈ZpQ m j→t∈L')):RmL m K1 n (q+1) L':=by
 obtain ⟨h1,h2,h3,h4⟩:=H
 have hcc:(c:Int)∈ZpQ m n:=by rw [hc];exact ZfU _ hq
 refine ⟨fun k hk=>hs k (h1 k hk),hs n h2,fun p hp t ht=>?_,fun j hj'=>?_⟩
 ·by_cases e:p=q
  ·subst e
   have:t=c:=by omega
   rw [this];exact hcm
  ·exact hs t (h3 p (by omega) t ht)
 ·rcases hj j hj' with e|⟨e1,e2⟩
  ·rcases h4 j e with e|e|⟨e1,e2⟩
   ·exact .inl e
   ·exact .inr (.inl e)
   ·exact .inr (.inr ⟨e1,fun t ht=>hs t (e2 t ht)⟩)
  ·exact .inr (.inr ⟨e1.head hcc,e2⟩)
theorem RmL.fin {m:Md}{K1:List Nat}{n:Nat}{L:List Nat} (H:RmL m K1 n (ZpQ m n).length L):(∀ k∈K1,k∈L)∧n∈L∧∀ j∈L,j∈K1∨(Rch m n j∧∀ t:Nat,(t:Int)∈ZpQ m j→t∈L):=by
 obtain ⟨h1,h2,h3,h4⟩:=H
 refine ⟨h1,h2,fun j hj=>?_⟩
 rcases h4 j hj with rfl|e|e
 ·refine .inr ⟨.refl,fun t ht=>?_⟩
  obtain ⟨p,hp,e⟩:=List.getElem_of_mem ht
  exact h3 p hp t (by simp [hp,e])
 ·exact .inl e
 ·exact .inr e
theorem Zqc.drew {w:World}{B M1 M2 M3:Nat}{h:Hd}{m:Md}{K1 K2 K3:List Nat} (H:Zqc w B M1 M2 M3 h m K1 K2 K3):Zqc w.drew B M1 M2 M3 h m K1 K2 K3:=
 ⟨H.bk.drew,H.md.keeps (fun _ _ h=>h),H.s1.eq rfl,H.s2.eq rfl,H.s3.eq rfl,H.n12,H.n13,H.n23⟩
theorem Ups.drew {S:List Nat}{a b:World} (h:Ups S a b):Ups S a b.drew:=⟨h.os,h.tape,h.output,h.size,h.block⟩
def RmP (w:World) (B M1 M2 M3:Nat) (h:Hd) (m:Md) (K1:List Nat) (n:Nat):Ending→World→Prop:=fun e w'=>e=.returned (.tuple #[])∧∃ L1 L2 L3,Zqc w' B M1 M2 M3 h m L1 L2 L3∧(∀ k∈L2,k<m.cl.length)∧Ups [M1,M2,M3] w w'∧ZnF w w'∧(∀ k∈K1,k∈L1)∧n∈L1∧∀ j∈L1,j∈K1∨(Rch m n j∧∀ t:Nat,(t:Int)∈ZpQ m j→t∈L1)
def ZqR (B M1 M2 M3:Nat) (h:Hd) (m:Md) (n:Nat):Prop:=∀ w K1 K2 K3,Zqc w B M1 M2 M3 h m K1 K2 K3→(∀ k∈K2,k<m.cl.length) →
 Calls Tryz.prog 221 #[.pointer (some ⟨B,0,none⟩),.int .i64 n] w (RmP w B M1 M2 M3 h m K1 n)
section
variable {B M1 M2 M3:Nat}{h:Hd}{m:Md}{n:Nat}
theorem ZqS (hv:Za1 m=true) (hn:n<m.me.length) (ih:∀ c,c<n→ZqR B M1 M2 M3 h m c):ZqR B M1 M2 M3 h m n:=by
 intro w K1 K2 K3 H hK
 have hsz:=Zin hv
 have hn10:n<1000:=by omega
 have hn2:(n:Int) < m.me.length:=by omega
 have c4:=H.bk.cell 4 (v:=.map (some M1)) rfl
 have HH:=Zh H
 have HS:=Zh H.s1
 have HK:=Zh hK
 by_cases hin:n∈K1
 ·have HIn:=Zh (show decide (n∈K1)=true from decide_eq_true hin)
  clear H hK
  go_enter Tryz.func221,Tryz.ntmps221
  go_wp2_with (at_lookup;refine Zp8 rfl _ _ rfl (M:=M1) (K:=K1) rfl HS.out n rfl hn10 ?_;rw [HIn.out])
  exact bodyPost_ret (v:=.tuple #[]) (by simp [results,Tryz.results221,go_sem]) rfl ⟨rfl,K1,K2,K3,HH.out,HK.out,Ups.refl _ _,ZnF.refl _,fun _ h=>h,hin,fun j hj=>.inl hj⟩
 ·have HIn:=Zh (show decide (n∈K1)=false from decide_eq_false hin)
  have HIs:=Zh (show Zp5 n K1=n :: K1 from if_neg hin)
  have HCl:=Zh (Zqi (B:=B) (M1:=M1) (M2:=M2) (M3:=M3) (h:=h) hv m.cl.length).1
  have HTy:=Zh (Zqi (B:=B) (M1:=M1) (M2:=M2) (M3:=M3) (h:=h) hv m.cl.length).2
  have hlo:=ZfO hv hn
  have hle:=Zio (Zim hv n hn)
  have hok:=ZfN hv hn
  obtain ⟨ad,heo,e0,e1,e2,e3,e4,e5,e6⟩:=H.md.mth hn
  have c2:=H.bk.cell 2 (v:=.slice h.eo m.me.length h.ec) rfl
  rw [heo] at c2
  have HP:=Zh (H.md.p n hn)
  have HL:=Zh (H.md.l n hn)
  have HKo:=Zh (H.md.k n hn)
  have HOk:=Zh hok
  have hr:=hok.r
  have HOp:=Zh (show ∀ i∈cdM m n,ZfR m n i from fun i hi=>ZfS (hok.i i hi).1 (hok.i i hi).2)
  have HSt:=Zh (show ∀ t∈m.st,t.k=2∨t.k=4→0≤t.c∧t.c<m.cl.length from fun t ht hk=>ZqP (ZfL hv t ht) hk)
  have HSz:=Zh hsz
  have HCal:=Zh (fun w' (H':Zay w' h m)=>ZpU m h n w' H' hv hn)
  have HIh:=Zh (show ∀ q,q<(ZpQ m n).length→∃ c:Nat,(ZpQ m n).getD q 0=c∧ZqR B M1 M2 M3 h m c from fun q hq=>by
   obtain ⟨h0,h1⟩:=ZpX hv hn (ZfU (0:Int) hq)
   exact ⟨((ZpQ m n).getD q 0).toNat,by omega,ih _ (by omega)⟩)
  have HTl:=Zh (show (ZpQ m n).length≤1200 from by
   have h1:=ZdA (ZpP m (cdM m n) (cdM m n).length)
   have h2:=ZpT hsz.1 (cdM m n) (cdM m n).length (Nat.le_refl _)
   have h3:(cdM m n).length≤120:=hok.z.2.2
   unfold ZpQ
   omega)
  have HCd:=Zh (show cdM m n=(m.me.getD n default).k from rfl)
  generalize h.e n=y at e2 e3 e6 HP HL HKo
  generalize m.me.getD n default=x at e0 e1 e2 e3 e4 e5 e6 HP HL HKo hlo hle HCd hr
  obtain ⟨nm,c,pl,ll,⟨rk,rc⟩,kl⟩:=x
  obtain ⟨po,pc,lo,lc,ko,kc⟩:=y
  dsimp only at e0 e1 e2 e3 e4 e5 e6 HP HL HKo hle HCd
  have HLt:=Zh (show ∀ t∈ZeF ⟨nm,c,pl,ll,⟨rk,rc⟩,kl⟩,t.k=2∨t.k=4→0≤t.c∧t.c<m.cl.length from fun t ht hk=>ZqP (hlo t ht) hk)
  have HRt:=Zh (show ∀ t∈[(⟨rk,rc⟩:Ty)],t.k=2∨t.k=4→0≤t.c∧t.c<m.cl.length from fun t ht hk=>by rw [List.mem_singleton.1 ht] at hk ⊢;exact ZqP hr hk)
  have HLl:=Zh (show (ZeF ⟨nm,c,pl,ll,⟨rk,rc⟩,kl⟩).length≤1000 by unfold ZeF;dsimp only;split<;>simp<;>omega)
  have HLo:=Zh (show ∀ w',ZnF w w'→Calls Tryz.prog 190 #[.agg #[.string nm,.int .i64 c,.slice po pl.length pc,.slice lo ll.length lc,.int .i64 rk,.int .i64 rc,.slice ko kl.length kc]] w' _ from fun w' hk=>Zfh ⟨nm,c,pl,ll,⟨rk,rc⟩,kl⟩ ⟨po,pc,lo,lc,ko,kc⟩ w' (ZnG HP.out hk) (ZnG HL.out hk) ⟨by show pl.length≤1000;omega,by show ll.length≤1000;omega⟩)
  generalize ZeF ⟨nm,c,pl,ll,⟨rk,rc⟩,kl⟩=lv at HLt HLl HLo
  have HT2:=Zh (show ∀ w' K1 K2 K3 a (t:Ty),Zqc w' B M1 M2 M3 h m K1 K2 K3→(∀ k∈K2,k<m.cl.length)→Zar w' (some ⟨a,0,none⟩) 1 [t]→(t.k=2∨t.k=4→0≤t.c∧t.c<m.cl.length)→Calls Tryz.prog 297 #[.pointer (some ⟨B,0,none⟩),.slice (some ⟨a,0,none⟩) 1 1] w' (RcP w' B M1 M2 M3 h m K1 K2 K3) from fun w' K1 K2 K3 a t h1 h2 h3 h4=>HTy.out w' K1 K2 K3 _ 1 [t] h1 h2 (by omega) h3 (by simp) fun t' ht hk=>by rw [List.mem_singleton.1 ht] at hk ⊢;exact h4 hk)
  have HT1:=Zh (show ∀ w' K1 K2 K3 a,Zqc w' B M1 M2 M3 h m K1 K2 K3→(∀ k∈K2,k<m.cl.length)→Zar w' (some ⟨a,0,none⟩) 1 [(⟨rk,rc⟩:Ty)]→Calls Tryz.prog 297 #[.pointer (some ⟨B,0,none⟩),.slice (some ⟨a,0,none⟩) 1 1] w' (RcP w' B M1 M2 M3 h m K1 K2 K3) from fun w' K1 K2 K3 a h1 h2 h3=>HTy.out w' K1 K2 K3 _ 1 [⟨rk,rc⟩] h1 h2 (by omega) h3 (by simp) HRt.out)
  clear H hK hin hok heo hsz hr hlo
  go_enter Tryz.func221,Tryz.ntmps221
  go_upto_region 3 with (first
   | (at_lookup;refine Zp8 rfl _ _ rfl (M:=M1) (K:=K1) rfl HS.out n rfl hn10 ?_;rw [HIn.out])
   | (at_mapUpdate;refine Zp9 rfl _ _ _ rfl (M:=M1) (K:=K1) rfl HS.out n rfl rfl hn10 ?_;intro w1 hs1 hg1;rw [HIs.out] at hs1;have HH1:=Zh (HH.out.put1 hg1 hs1);have hkk:=Zqb HS.out.map hg1;have HU1:=Zh (Ups.grown (S:=[M1,M2,M3]) hg1 (by simp));have c2:=hkk _ _ c2;have e0:=hkk _ _ e0;have e1:=hkk _ _ e1;have e2:=hkk _ _ e2;have e3:=hkk _ _ e3;have e4:=hkk _ _ e4;have e5:=hkk _ _ e5;have e6:=hkk _ _ e6;have HK1:=Zh hkk;clear hs1 hg1 hkk))
  obtain ⟨X,hX⟩:∃ X,X=w1.heap.size:=⟨_,rfl⟩
  obtain ⟨w2,hw2⟩:∃ w2,w2=w1.alloc (.cells #[.string nm,.int .i64 c,.slice po pl.length pc,.slice lo ll.length lc,.int .i64 rk,.int .i64 rc,.slice ko kl.length kc] 81):=⟨_,rfl⟩
  have hb2:Below w1.heap.size w1 w2:=by rw [hw2];exact bE
  have hx2:Blk w2 X #[.string nm,.int .i64 c,.slice po pl.length pc,.slice lo ll.length lc,.int .i64 rk,.int .i64 rc,.slice ko kl.length kc] 81:=by rw [hw2,hX];exact Blk.new _ _ _
  have HH2:=Zh (HH1.out.old hb2)
  have HU2:=Zh (HU1.out.trans (Ups.of hb2))
  have HK2:=Zh (HK1.out.trans (ZnF.of hb2))
  rw [←hX,←hw2]
  have z0:=hx2.cell 0 (v:=.string nm) rfl
  have z1:=hx2.cell 1 (v:=.int .i64 c) rfl
  have z2:=hx2.cell 2 (v:=.slice po pl.length pc) rfl
  have z3:=hx2.cell 3 (v:=.slice lo ll.length lc) rfl
  have z4:=hx2.cell 4 (v:=.int .i64 rk) rfl
  have z5:=hx2.cell 5 (v:=.int .i64 rc) rfl
  have z6:=hx2.cell 6 (v:=.slice ko kl.length kc) rfl
  clear hX hw2 hb2 hx2 c2 c4 e0 e1 e2 e3 e4 e5 e6 HH1 HU1 HK1
  go_upto_region 4 with (first
   | (go_at_call 190;refine (HLo.out _ HK2.out).mono ?_;rintro e w3 ⟨⟨vo,vc,rfl,hown3⟩,hb3⟩;have hkk:=ZnF.of hb3;have z0:=hkk _ _ z0;have z1:=hkk _ _ z1;have z2:=hkk _ _ z2;have z3:=hkk _ _ z3;have z4:=hkk _ _ z4;have z5:=hkk _ _ z5;have z6:=hkk _ _ z6;have HH3:=Zh (HH2.out.old hb3);have HU3:=Zh (HU2.out.trans (Ups.of hb3));have HK3:=Zh (HK2.out.trans hkk);have HR3:=Zh (Zar.of_own hown3);clear hown3 hb3 hkk)
   | (go_at_call 297;refine (HTy.out _ (n :: K1) K2 K3 vo vc lv HH3.out HK.out (by omega) HR3.out HLl.out HLt.out).mono ?_;rintro e w4 ⟨rfl,L4,hh4,-,hall4,hu4,hk4⟩;have hkk:=hk4;have z0:=hkk _ _ z0;have z1:=hkk _ _ z1;have z2:=hkk _ _ z2;have z3:=hkk _ _ z3;have z4:=hkk _ _ z4;have z5:=hkk _ _ z5;have z6:=hkk _ _ z6;have HH4:=Zh hh4;have HA4:=Zh hall4;have HU4:=Zh (HU3.out.trans hu4);have HK4:=Zh (HK3.out.trans hk4);clear hh4 hall4 hu4 hk4 hkk))
  go_upto_region 6 with (go_at_call 297;(refine (HT1.out _ (n :: K1) L4 K3 _ (HH4.out.old bE) HA4.out (ZqQ rfl)).mono ?_;rintro e w5 ⟨rfl,L5,hh5,-,hall5,hu5,hk5⟩;have hkk:=(ZnF.of (show Below w4.heap.size w4 (w4.alloc _) by exact bE)).trans hk5;have z0:=hkk _ _ z0;have z1:=hkk _ _ z1;have z2:=hkk _ _ z2;have z3:=hkk _ _ z3;have z4:=hkk _ _ z4;have z5:=hkk _ _ z5;have z6:=hkk _ _ z6;have HH5:=Zh hh5;have HA5:=Zh hall5;have HU5:=Zh (HU4.out.trans ((Ups.of (show Below w4.heap.size w4 (w4.alloc _) by exact bE)).trans hu5));have HK5:=Zh (HK4.out.trans hkk);clear hh5 hall5 hu5 hk5 hkk))
  clear z0 z1 z2 z3 z4 z5 z6
  have HKl:=HCd.out
  rw [HCd.out] at HOp
  have hkl:kl.length≤120:=hle.2.2
  clear HKl
  go_loopw [40] (fun i wr=>∃ (j:Nat) (L LS:List Nat),j≤kl.length∧i=.int .i64 j∧Hid (Zqc wr B M1 M2 M3 h m (n :: K1) L LS)∧Hid (∀ k∈L,k<m.cl.length)∧Hid (Ups [M1,M2,M3] w wr)∧Hid (ZnF w wr)) (fun i _=>kl.length-(intOf i).toNat)
  case atStart=>exact ⟨0,L5,K3,Nat.zero_le _,rfl,HH5.out,HA5.out,HU5.out,HK5.out⟩
  case round=>
   obtain ⟨j,L,LS,hj,rfl,HHr,HA,HU,HKe⟩:=hrel
   rename World=>wo
   by_cases hjl:j<kl.length
   ·have hjl2:(j:Int) < kl.length:=by omega
    have hwj:IntKind.i64.wrap ((j:Int)+1)=((j+1:Nat):Int):=IntWalk.i64_in _ (by omega)
    obtain ⟨ad,rfl,o0,o1,o2⟩:=ZaA (ZnG HKo.out HKe.out) hjl
    have hop:=HOp.out (kl.getD j default) (ZfU _ hjl)
    obtain ⟨i,hi⟩:∃ i,i=kl.getD j default:=⟨_,rfl⟩
    rw [←hi] at o0 o1 o2 hop
    obtain ⟨op,ia,ib⟩:=i
    dsimp only at o0 o1 o2
    have h14:=hop.o14
    have h16:=hop.o16
    have h12:=hop.o12
    have h22:=hop.o22
    have ha0:=hop.a0
    have hb0:=hop.b0
    dsimp only at h14 h16 h12 h22 ha0 hb0
    have hl0:=Zac o0
    have HB:=Zh (show Below wo.heap.size wo (wo.alloc (.cells #[.int .i64 op,.int .i64 ia,.int .i64 ib] 78)) by exact bE)
    clear hi hop
    by_cases c14:op=14∨op=24
    ·obtain ⟨d,rfl⟩:∃ d:Nat,ia=d:=⟨ia.toNat,by omega⟩
     have hdl:d<m.cl.length:=by have:=h14 c14;omega
     have c14':op=14∨(¬ op=14∧op=24):=by omega
     clear h14 h16 h12 h22 ha0 hb0 c14
     rcases c14' with rfl|⟨hx,rfl⟩
     all_goals
      go_wp2_with (go_at_call 298;refine (HCl.out _ (n :: K1) L LS d (HHr.out.old HB.out) HA.out (by omega) hdl).mono ?_;rintro e w6 ⟨rfl,L6,hh6,-,hall6,hu6,hk6⟩;have HE:=Zh (And.intro hh6 (And.intro hall6 (And.intro hu6 hk6)));clear hh6 hall6 hu6 hk6)
      exact ⟨⟨j+1,L6,LS,hjl,rfl,HE.out.1,HE.out.2.1,HU.out.trans ((Ups.of HB.out).trans HE.out.2.2.1),HKe.out.trans ((ZnF.of HB.out).trans HE.out.2.2.2)⟩,by simp [intOf];omega⟩
    ·have n14:¬ op=14:=fun q=>c14 (.inl q)
     have n24:¬ op=24:=fun q=>c14 (.inr q)
     clear h14 c14
     by_cases c16:op=16
     ·obtain ⟨d,rfl⟩:∃ d:Nat,ib=d:=⟨ib.toNat,by omega⟩
      have hdl:d<m.cl.length:=by have:=h16 c16;omega
      subst c16
      clear h16 h12 h22 ha0 hb0 n14 n24
      go_wp2_with (go_at_call 298;refine (HCl.out _ (n :: K1) L LS d (HHr.out.old HB.out) HA.out (by omega) hdl).mono ?_;rintro e w6 ⟨rfl,L6,hh6,-,hall6,hu6,hk6⟩;have HE:=Zh (And.intro hh6 (And.intro hall6 (And.intro hu6 hk6)));clear hh6 hall6 hu6 hk6)
      exact ⟨⟨j+1,L6,LS,hjl,rfl,HE.out.1,HE.out.2.1,HU.out.trans ((Ups.of HB.out).trans HE.out.2.2.1),HKe.out.trans ((ZnF.of HB.out).trans HE.out.2.2.2)⟩,by simp [intOf];omega⟩
     ·by_cases c12:op=12
      ·have HT:=Zh (show (⟨ia,ib⟩:Ty).k=2∨(⟨ia,ib⟩:Ty).k=4→0≤(⟨ia,ib⟩:Ty).c∧(⟨ia,ib⟩:Ty).c<m.cl.length from fun hk=>by dsimp only at hk ⊢;have:=(h12 c12).2.2;omega)
       subst c12
       clear h16 h12 h22 ha0 hb0 n14 n24 c16
       have HB2:=Zh (show Below wo.heap.size wo ((wo.alloc (.cells #[.int .i64 12,.int .i64 ia,.int .i64 ib] 78)).alloc (.cells #[.int .i64 ia,.int .i64 ib] 76)) by exact bE)
       have HR2:=Zh (ZqQ (w:=wo.alloc (.cells #[.int .i64 12,.int .i64 ia,.int .i64 ib] 78)) (b:=wo.heap.size+1) (t:=⟨ia,ib⟩) (by simp))
       go_wp2_with (go_at_call 297;refine (HT2.out _ (n :: K1) L LS (wo.heap.size+1) ⟨ia,ib⟩ (HHr.out.old HB2.out) HA.out HR2.out HT.out).mono ?_;rintro e w6 ⟨rfl,L6,hh6,-,hall6,hu6,hk6⟩;have HE:=Zh (And.intro hh6 (And.intro hall6 (And.intro hu6 hk6)));clear hh6 hall6 hu6 hk6)
       exact ⟨⟨j+1,L6,LS,hjl,rfl,HE.out.1,HE.out.2.1,HU.out.trans ((Ups.of HB2.out).trans HE.out.2.2.1),HKe.out.trans ((ZnF.of HB2.out).trans HE.out.2.2.2)⟩,by simp [intOf];omega⟩
      ·by_cases c22:op=22∨op=23
       ·obtain ⟨d,rfl⟩:∃ d:Nat,ia=d:=⟨ia.toNat,by omega⟩
        have hdl:d<m.st.length:=by have:=h22 c22;omega
        have hd10:d<1000:=by have:=HSz.out.2.2.2.2;omega
        have hdl2:(d:Int) < m.st.length:=by omega
        have c22':op=22∨(¬ op=22∧op=23):=by omega
        obtain ⟨sd,hso,t0,t1⟩:=Zaz HHr.out.md.st hdl
        have hty:=HSt.out (m.st.getD d default) (ZfU _ hdl)
        generalize m.st.getD d default=t at t0 t1 hty
        obtain ⟨tk,tc⟩:=t
        dsimp only at t0 t1
        have HTy2:=Zh hty
        have hB:=HB.out
        have hI:=Blk.new (w:=wo) #[.int .i64 op,.int .i64 d,.int .i64 ib] 78
        obtain ⟨wa,hwa⟩:∃ wa,wa=wo.alloc (.cells #[.int .i64 op,.int .i64 d,.int .i64 ib] 78):=⟨_,rfl⟩
        have HHa:=Zh (HHr.out.old hB)
        rw [←hwa] at hB HHa hI
        have HUa:=Zh (HU.out.trans (Ups.of hB))
        have HKa:=Zh (HKe.out.trans (ZnF.of hB))
        have t0:=ZnF.of hB _ _ t0
        have t1:=ZnF.of hB _ _ t1
        have HIa:=Zh hI
        have HW:=Zh hwa
        clear h16 h12 h22 ha0 hb0 c22 hty hB hI hwa HB
        rcases c22' with rfl|⟨n22,rfl⟩
        all_goals
         go_upto_region 18 with fail
         rw [←HW.out]
         have x1:=HHa.out.bk.cell 1 (v:=.slice h.so m.st.length h.sc) rfl
         rw [hso] at x1
         have x6:=HHa.out.bk.cell 6 (v:=.map (some M3)) rfl
         have i1:=HIa.out.cell 1 (v:=.int .i64 d) rfl
         have HC0:=Zh (show Cs [(⟨B,6,none⟩,.map (some M3)),(⟨wo.heap.size,1,none⟩,.int .i64 d)] wa.drew from ⟨x6,i1,trivial⟩)
         have HC1:=Zh (show Cs [(⟨B,1,none⟩,.slice (some sd) m.st.length h.sc),(⟨wo.heap.size,1,none⟩,.int .i64 d),(sd.add (d*2),.int .i64 tk),(⟨(sd.add (d*2)).block,(sd.add (d*2)).off+1,none⟩,.int .i64 tc)] wa.drew from ⟨x1,i1,t0,t1,trivial⟩)
         refine rO (Cs [(⟨B,6,none⟩,.map (some M3)),(⟨wo.heap.size,1,none⟩,.int .i64 d)]) (oL [0,1,2,3,4,5,106]) ⟨x6,i1,trivial⟩ ?_
         clear x1 x6 i1 t0 t1
         repeat refine pO ?_
         refine oO fun Kv hK=>?_
         refine Zqa _ _ _ rfl (M:=M3) (K:=LS) rfl HHa.out.drew.s3 d rfl rfl hd10 ?_
         intro w7 hs7 hg7
         have hk7:=Zqb HHa.out.drew.s3.map hg7
         have HH7:=Zh (HHa.out.drew.put3 hg7 hs7)
         have HU7:=Zh (HUa.out.drew.trans (Ups.grown (S:=[M1,M2,M3]) hg7 (by simp)))
         have HK7:=Zh (HKa.out.trans (show ZnF wa w7 from hk7))
         have HC7:=Zh (Cs.keeps hk7 HC1.out)
         refine hK _ _ ⟨Cs.keeps hk7 HC0.out,?_⟩
         clear hK Kv hk7 hs7 hg7 HC0 HC1
         refine Zd5 ?_
         go_upto_region 19 with fail
         have HC8:=Zh (show Cs [(⟨B,1,none⟩,.slice (some sd) m.st.length h.sc),(⟨wo.heap.size,1,none⟩,.int .i64 d),(sd.add (d*2),.int .i64 tk),(⟨(sd.add (d*2)).block,(sd.add (d*2)).off+1,none⟩,.int .i64 tc)] w7.drew from HC7.out)
         refine rO (Cs [(⟨B,1,none⟩,.slice (some sd) m.st.length h.sc),(⟨wo.heap.size,1,none⟩,.int .i64 d),(sd.add (d*2),.int .i64 tk),(⟨(sd.add (d*2)).block,(sd.add (d*2)).off+1,none⟩,.int .i64 tc)]) (oL [0,1,2,3,4,5,6,7,8,9,110,111]) HC8.out ?_
         repeat refine pO ?_
         refine oO fun Kv hK=>?_
         go_simp
         have HB8:=Zh (show Below w7.drew.heap.size w7.drew (w7.drew.alloc (.cells #[.int .i64 tk,.int .i64 tc] 76)) by exact bE)
         refine hK _ _ ⟨Cs.keeps (ZnF.of HB8.out) HC8.out,?_⟩
         clear hK Kv
         repeat refine pO ?_
         refine oO fun Kv hK=>?_
         go_simp
         refine (HT2.out (w7.drew.alloc (.cells #[.int .i64 tk,.int .i64 tc] 76)) (n :: K1) L (Zp5 d LS) w7.heap.size ⟨tk,tc⟩ (HH7.out.drew.old HB8.out) HA.out (ZqQ (w:=w7.drew) (b:=w7.heap.size) (t:=⟨tk,tc⟩) rfl) HTy2.out).mono ?_
         rintro e w6 ⟨rfl,L6,hh6,-,hall6,hu6,hk6⟩
         have HE:=Zh (And.intro hh6 (And.intro hall6 (And.intro hu6 hk6)))
         refine hK _ _ ⟨Cs.keeps hk6 (Cs.keeps (ZnF.of HB8.out) HC8.out),?_⟩
         clear hK Kv hh6 hall6 hu6 hk6
         refine Zd5 ?_
         go_wp2_with fail
         exact ⟨⟨j+1,L6,Zp5 d LS,hjl,rfl,HE.out.1,HE.out.2.1,HU7.out.drew.trans ((Ups.of HB8.out).trans HE.out.2.2.1),(show ZnF w w7.drew from HK7.out).trans ((ZnF.of HB8.out).trans HE.out.2.2.2)⟩,by simp [intOf];omega⟩
       ·have n22:¬ op=22:=fun q=>c22 (.inl q)
        have n23:¬ op=23:=fun q=>c22 (.inr q)
        have e14:(op == 14)=false:=by simpa using n14
        have e24:(op == 24)=false:=by simpa using n24
        have e16:(op == 16)=false:=by simpa using c16
        have e12:(op == 12)=false:=by simpa using c12
        have e22:(op == 22)=false:=by simpa using n22
        have e23:(op == 23)=false:=by simpa using n23
        clear h16 h12 h22 ha0 hb0 c22
        go_wp2_with fail
        all_goals exact ⟨⟨j+1,L,LS,hjl,rfl,HHr.out.old bE,HA.out,HU.out.trans (Ups.of bE),HKe.out.trans (ZnF.of bE)⟩,by simp [intOf];omega⟩
   ·obtain rfl:j=kl.length:=by omega
    have hjl2:¬ ((kl.length:Nat):Int) < kl.length:=by omega
    go_upto_region 21 with fail
    have x0:=HHr.out.bk.cell 0 (v:=.slice h.co m.cl.length h.cc) rfl
    have x1:=HHr.out.bk.cell 1 (v:=.slice h.so m.st.length h.sc) rfl
    have x2:=HHr.out.bk.cell 2 (v:=.slice h.eo m.me.length h.ec) rfl
    have x3:=HHr.out.bk.cell 3 (v:=.int .i64 m.sel) rfl
    go_upto_region 22 with (go_at_call 177;refine (HCal.out _ HHr.out.md).mono ?_;rintro e w6 ⟨⟨uo,uc,rfl,hr6,-⟩,hb6⟩;have HR6:=Zh hr6;have HH6:=Zh (HHr.out.old hb6);have HU6:=Zh (HU.out.trans (Ups.of hb6));have HK6:=Zh (HKe.out.trans (ZnF.of hb6));clear hr6 hb6)
    clear x0 x1 x2 x3
    go_loopw [98] (fun i wr=>∃ (q:Nat) (N1 N2 N3:List Nat),q≤(ZpQ m n).length∧i=.int .i64 q∧Hid (Zqc wr B M1 M2 M3 h m N1 N2 N3)∧Hid (∀ k∈N2,k<m.cl.length)∧Hid (Ups [M1,M2,M3] w wr)∧Hid (ZnF w wr)∧Hid (ZnF w6 wr)∧Hid (RmL m K1 n q N1)) (fun i _=>(ZpQ m n).length-(intOf i).toNat)
    case atStart=>exact ⟨0,n :: K1,L,LS,Nat.zero_le _,rfl,HH6.out,HA.out,HU6.out,HK6.out,ZnF.refl _,RmL.start _ _ _⟩
    case round=>
     obtain ⟨q,N1,N2,N3,hq,rfl,HHq,HAq,HUq,HKq,HKs,HRm⟩:=hrel
     rename World=>wq
     have htl:=HTl.out
     by_cases hql:q<(ZpQ m n).length
     ·have hql2:(q:Int) < (ZpQ m n).length:=by omega
      have hwq:IntKind.i64.wrap ((q:Int)+1)=((q+1:Nat):Int):=IntWalk.i64_in _ (by omega)
      obtain ⟨td,rfl,t0⟩:=ZaB (ZnG HR6.out HKs.out) hql
      obtain ⟨c1,hc1,hmc⟩:=HIh.out q hql
      rw [hc1] at t0
      have HMc:=Zh hmc
      have HNx:=Zh (fun L'=>HRm.out.next (L':=L') hql hc1.symm)
      clear hmc hc1 HRm htl
      go_wp2_with (go_at_call 221;refine (HMc.out _ N1 N2 N3 HHq.out HAq.out).mono ?_;rintro e w7 ⟨rfl,P1,P2,P3,hh7,hall7,hu7,hk7,hs7,hn7,hj7⟩;have HE:=Zh (And.intro hh7 (And.intro hall7 (And.intro hu7 hk7)));have HR7:=Zh (HNx.out P1 hs7 hn7 hj7);clear hh7 hall7 hu7 hk7 hs7 hn7 hj7)
      exact ⟨⟨q+1,P1,P2,P3,hql,rfl,HE.out.1,HE.out.2.1,HUq.out.trans HE.out.2.2.1,HKq.out.trans HE.out.2.2.2,HKs.out.trans HE.out.2.2.2,HR7.out⟩,by simp [intOf];omega⟩
     ·have hql2:¬ (q:Int) < (ZpQ m n).length:=by omega
      obtain rfl:q=(ZpQ m n).length:=by omega
      clear htl
      go_wp2_with fail
      have h9:=HRm.out.fin
      exact bodyPost_ret (v:=.tuple #[]) (by simp [results,Tryz.results221,go_sem]) rfl ⟨rfl,N1,N2,N3,HHq.out,HAq.out,HUq.out,HKq.out,h9.1,h9.2.1,h9.2.2⟩
theorem ZqT (hv:Za1 m=true):∀ n,n<m.me.length→ZqR B M1 M2 M3 h m n:=by
 intro n
 induction n using Nat.strongRecOn with
 | ind n ih=>exact fun hn=>ZqS hv hn fun c hc=>ih c hc (by omega)
end
end
end Go.Proofs.YtcfjblcgceednaaGreat
