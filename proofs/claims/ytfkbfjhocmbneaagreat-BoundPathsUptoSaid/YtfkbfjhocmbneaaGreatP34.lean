/- Joined texts. The first: A walk through a method: an instruction with its brackets. -/
import Derived.Test.YtfkbfjhocmbneaaGreatP32
import Derived.Test.YtfkbfjhocmbneaaGreatP33
set_option linter.all false
set_option linter.unusedVariables false
set_option linter.unusedSimpArgs false
set_option maxRecDepth 100000
set_option maxHeartbeats 16000000
namespace Go.Proofs.YtfkbfjhocmbneaaGreat
section
open Go.RowKit
theorem ZpW.paid {lf c0 c1 c2 hi lo x y:Int} (h:ZpW 0 lf c1 c2 hi lo) {z:Int} (hz:z=if lf=0 then 2 else 0) (hc:c0≤c1) (hx:c2+1-c0≤x) (hy:0≤lo→lo≤c2-c1→0≤y∧y≤c2+1-c0):ZpW z (lf-1) c0 (c2+1) x y:=by
 subst hz
 obtain ⟨-,h2,h3,-,h5⟩:=h
 have h2:=h2 (by decide)
 have h5:=h5 rfl
 have hy:=hy h5.1 h5.2
 refine ⟨?_,?_,by omega,hx,fun _=>hy⟩
 ·split
  ·exact .inr (.inr rfl)
  ·exact .inl rfl
 ·split
  ·exact fun q=>absurd rfl q
  ·intro _;omega
theorem ZpW.left {how lf c0 c1 c2 hi lo x y:Int} (h:ZpW how lf c1 c2 hi lo) (hw:how≠0) (hc:c0≤c1) (hx:c2-c0≤x):ZpW how lf c0 c2 x y:=
 ⟨h.1,h.2.1,by have:=h.2.2.1;omega,hx,fun q=>absurd q hw⟩
theorem Zqj {n v F S:Int} (h:n≤v+F+1+S) (hn:n≤3000000) (hv:0≤v) (hF:Bd F) (hS:Bd S):n≤Zmu v (Zmu (Zmu F 1) S):=by
 unfold Bd at *;unfold Zmu Zmt;omega
theorem Zqk {n v F S:Int} (h:n≤v+F+1∨n≤v+S+1) (hn:n≤3000000) (hv:0≤v) (hF:Bd F) (hS:Bd S):n≤Zmu v (max (Zmu F 1) (Zmu S 1)):=by
 unfold Bd at *;unfold Zmu Zmt;omega
theorem Zql {n v F S:Int} (h:(0≤F∧F+v+1≤n)∨(0≤S∧S+v+1≤n)) (hv:0≤v):0≤Zmz v (Zmz (ZmA F S) 1)∧Zmz v (Zmz (ZmA F S) 1)≤n:=by
 have h1:0≤ZmA F S∧ZmA F S+v+1≤n:=by unfold ZmA;split;omega;split<;>omega
 obtain ⟨h1,h2⟩:=h1
 generalize ZmA F S=x at h1 h2
 unfold Zmz
 rw [if_neg (by omega:¬ (x<0∨(1:Int) < 0)),if_neg (by unfold Zmu Zmt;omega)]
 unfold Zmu Zmt;omega
theorem Zqm {d v F a:Int}{j R:Nat} (h:d≤j*Zmu F 1) (hj:j≤R) (hR:(R:Int)≤a) (hn:v+d≤3000000) (hv:0≤v) (hF:Bd F):v+d≤Zmu v (Zmv a (Zmu F 1)):=by
 have h1:0≤Zmu F 1:=by unfold Bd at hF;unfold Zmu Zmt;omega
 have h2:(j:Int)*Zmu F 1≤a*Zmu F 1:=Int.mul_le_mul_of_nonneg_right (by omega) h1
 generalize Zmu F 1=x at *
 generalize (j:Int)*x=y at *
 unfold Zmv Zmu Zmt
 generalize a*x=z at *
 omega
theorem Zqn {c1 c2 c3 c4 F:Int}{j:Nat} (h:c2-c1≤j*Zmu F 1) (h2:c3-c2≤F) (h3:c4≤c3+1) (hn:c4≤3000000) (h0:0≤c2) (hF:Bd F):c4-c1≤((j+1:Nat):Int)*Zmu F 1:=by
 have h1:c4-c2≤Zmu F 1:=by unfold Bd at hF;unfold Zmu Zmt;omega
 have h5:((j+1:Nat):Int)*Zmu F 1=j*Zmu F 1+Zmu F 1:=by rw [Int.natCast_add,Int.natCast_one,Int.add_mul,Int.one_mul]
 rw [h5]
 generalize Zmu F 1=x at *
 generalize (j:Int)*x=y at *
 omega
theorem Zqo {i:In3} (h:ZaQ false i=true) (q:i.op=30):i.a≤10000:=by
 obtain ⟨op,a,b⟩:=i
 dsimp only at q
 subst q
 simp [ZaQ,inR,opA,ZaO,inI] at h
 show a≤10000
 omega
section
variable {W0:World}{B:Nat}{h:Hd}{m:Md}{co:Option Addr}{cc:Nat}{ch:List Int} (X:Wkx W0 B h m co cc ch)
include X
theorem Zqp {k p b:Nat} (hk:k<m.me.length) (hs:Seg (cdM m k) p b) (hpb:p<b) (hl:∀ a' b',p<a'→Seg (cdM m k) a' b'→Zp5 W0 B h m co cc ch k a' b') (hpl:∀ i∈cdM m k,Zp8 W0 B h m co cc ch i):Zp7 W0 B h m co cc ch k p:=by
 intro w nx lf cs H hlf
 have hm:=(ZpT X.mo).1
 have hok:=ZfN hm hk
 have hcl:(cdM m k).length≤120:=hok.z.2.2
 have hp:p<(cdM m k).length:=by have:=(Zme hs).2;omega
 have hp2:(p:Int) < (cdM m k).length:=by omega
 have hcv:ZaV false (cdM m k)=0:=(ZoS hm w).code hk
 have him:(cdM m k).getD p default∈cdM m k:=ZfU (l:=cdM m k) default hp
 have hv:=(hok.i _ him).1
 have ho:=ZfS hv (hok.i _ him).2
 have hcb:=ZoD hv
 have hwp:IntKind.i64.wrap ((p:Int)+1)=((p+1:Nat):Int):=IntWalk.i64_in _ (by omega)
 have hiv0:=H.iv
 have hko:=fun w' (hb:Below W0.heap.size W0 w')=>(X.md.old hb).k k hk
 obtain ⟨ca,hca,o0,o1,o2⟩:=ZaA (show Zar w (h.e k).ko (h.e k).kc (cdM m k) from hko w H.bl) hp
 have HPl:=Zh (hpl _ him)
 have hsg:=Zqf (Zno hs) hpb
 obtain ⟨⟨xh,xn⟩,hq⟩:∃ q,q=ZpU (gH m) (cdM m k) p:=⟨_,rfl⟩
 obtain ⟨⟨yo,yn⟩,hq2⟩:∃ q,q=ZpU (gO m) (cdM m k) p:=⟨_,rfl⟩
 rw [←hq,←hq2]
 unfold ZpU at hq hq2
 obtain ⟨i,hi⟩:∃ i,i=(cdM m k).getD p default:=⟨_,rfl⟩
 rw [←hi] at o0 o1 o2 hq hq2 hcb HPl hsg ho
 have HCo:=Zh (show ∀ w',_ from fun w'=>by have:=ZpN _ w' hv;rwa [←hi] at this)
 have HIi:=Zh hi
 have HX:=Zh X
 have HL:=Zh (show ∀ a' b',p<a'→Seg (cdM m k) a' b'→∀ w' nx' lf' cs',WkW W0 w' B h m co cc ch nx' lf' cs'→0≤lf'→Calls Tryz.prog 57 #[.pointer (some ⟨B,0,none⟩),.slice (some ca) (cdM m k).length (h.e k).kc,.int .i64 a',.int .i64 b'] w' (WkP W0 w' B h m co cc ch cs' (WA (gH m) (cdM m k) a' b' 0) (WA (gO m) (cdM m k) a' b' 0)) from fun a' b' h1 h2 w' nx' lf' cs' h3 h4=>by have:=hl a' b' h1 h2 w' nx' lf' cs' h3 h4;rwa [hca] at this)
 have HMt:=Zh (show ∀ w',Below W0.heap.size W0 w'→∀ {en:Nat}{alt:Int},Mat (cdM m k) p alt en→Calls Tryz.prog 47 #[.slice (some ca) (cdM m k).length (h.e k).kc,.int .i64 p] w' (Ret w' (.tuple #[.int .i64 alt,.int .i64 en,.int .i64 0])) from fun w' hb {en alt} hM=>by have:=ZpI (cdM m k) (h.e k).ko (h.e k).kc w' (hko w' hb) hcv hM;rwa [hca] at this)
 obtain ⟨w0,hw0⟩:∃ w0,w0=w.alloc (.cells #[.int .i64 i.op,.int .i64 i.a,.int .i64 i.b] 42):=⟨_,rfl⟩
 have hb0:Below w.heap.size w w0:=by rw [hw0];exact bE
 have HI:=Zh (show Blk w0 w.heap.size #[.int .i64 i.op,.int .i64 i.a,.int .i64 i.b] 42 by rw [hw0];exact Blk.new _ _ _)
 have H0:=Zh (H.old hb0)
 have HU0:=Zh (show Upd B B w w0 from Upd.of hb0)
 have HNe:=Zh (show w.heap.size≠B from by have:=H.cells.1;omega)
 have HW:=Zh hw0
 have HM:=Zh hm
 obtain ⟨v,hvv⟩:∃ v,v=Zmw i:=⟨_,rfl⟩
 rw [←hvv] at HCo hcb
 have HVv:=Zh hvv
 have HLa:=Zh (show i.op=30→i.a≤10000 from fun q=>by subst hi;exact Zqo hv q)
 have HCb:=Zh hcb
 have HO:=Zh ho
 have HSg:=Zh hsg
 have HHca:=Zh hca
 rw [hca]
 clear H hm hok hcv him hv ho hcb hko hpl hsg hi hl hw0 hb0 hvv hca X hs
 obtain ⟨op,ia,ib⟩:=i
 dsimp only at o0 o1 o2 hq hq2 HI HW HCo HLa
 go_enter Tryz.func90,Tryz.ntmps90
 go_upto_region 2 with fail
 rw [←HW.out]
 clear o0 o1 o2
 have x0:=HI.out.cell 0 (v:=.int .i64 op) rfl
 have x1:=HI.out.cell 1 (v:=.int .i64 ia) rfl
 have x2:=HI.out.cell 2 (v:=.int .i64 ib) rfl
 rcases hop:ZaR op with _|_
 ·rw [hop,if_neg (by decide)] at hq hq2
  obtain ⟨e1,rfl⟩:=Prod.mk.inj hq
  obtain ⟨e2,rfl⟩:=Prod.mk.inj hq2
  have HOp:=Zh hop
  have HE:=Zh (And.intro e1 e2)
  clear hq hq2 e1 e2 hop
  go_wp2_with (first
   | (go_at_call 81;refine (ZeO _ _).mono ?_;rintro e w2 ⟨rfl,rfl⟩;rw [HOp.out])
   | (go_at_call 119;refine (HPl.out _ nx lf cs H0.out hlf).mono ?_;rintro e w3 ⟨how,nx3,lf3,cs3,rfl,hw3,hu3,hp3⟩;have HW3:=Zh hw3;have HU3:=Zh (HU0.out.trans hu3);have HP3:=Zh hp3;clear hw3 hu3 hp3))
  go_ret2
  exact ⟨how,nx3,lf3,cs3,rfl,HW3.out,HU3.out,by rw [HE.out.1,HE.out.2];exact HP3.out⟩
 ·rw [hop,if_pos rfl] at hq hq2
  obtain ⟨alt,en,q,hM,hpq,hqe,hel,sg1,hcs⟩:=HSg.out (show ZaR op=true from hop)
  rw [Zmd hM] at hq hq2
  dsimp only at hq hq2
  have hop2:op=29∨op=30∨op=31∨op=32∨op=33:=by
   unfold ZaR inI at hop
   simp at hop
   omega
  have hMop:(alt=-1∧op≠33)∨(alt=q∧(op=29∨op=33)):=by
   have h3:=hM.2.2.2.2
   rw [←HIi.out] at h3
   rcases h3 with ⟨h1,h2,_⟩|⟨n,h1,_,_,h2,_⟩
   ·exact .inl ⟨h1,h2⟩
   ·rcases hcs with ⟨h4,_⟩|⟨h4,_⟩
    ·omega
    ·exact .inr ⟨h4,h2⟩
  have hwe:IntKind.i64.wrap ((en:Int)+1)=((en+1:Nat):Int):=IntWalk.i64_in _ (by omega)
  have hwq:IntKind.i64.wrap ((q:Int)+1)=((q+1:Nat):Int):=IntWalk.i64_in _ (by omega)
  have HL1:=Zh (HL.out (p+1) q (by omega) sg1)
  obtain ⟨F,hF⟩:∃ F,F=WA (gH m) (cdM m k) (p+1) q 0:=⟨_,rfl⟩
  obtain ⟨Fo,hFo⟩:∃ F,F=WA (gO m) (cdM m k) (p+1) q 0:=⟨_,rfl⟩
  have hFb:Bd F:=hF▸Zqb HM.out hk sg1 (by unfold Bd;omega)
  have HFb:=Zh hFb
  rw [←hF,←hFo] at HL1
  have HOp:=Zh hop
  have HMt1:=Zh (fun w' hb=>HMt.out w' hb hM)
  have HPay:=Zh (fun w' (H':WkW W0 w' B h m co cc ch nx lf cs)=>ZpZ HX.out H' v (by have:=HCb.out;omega) hlf)
  have HPay1:=Zh (show ∀ w' nx' lf' cs' z,WkW W0 w' B h m co cc ch nx' lf' cs'→0≤lf'→z=(if lf'=0 then (2:Int) else 0)→Calls Tryz.prog 120 #[.pointer (some ⟨B,0,none⟩),.int .i64 1] w' (fun e w''=>e=.returned (.int .i64 z)∧WkW W0 w'' B h m co cc ch nx' (lf'-1) (cs'+1)∧Upd B B w' w'') from fun w' nx' lf' cs' z H' hl' hz=>by subst hz;exact ZpZ HX.out H' 1 (by omega) hl')
  have hFeq:∀ z:Wg,(if alt<0 then WA z (cdM m k) (p+1) en 0 else WA z (cdM m k) (p+1) alt.toNat 0)=WA z (cdM m k) (p+1) q 0:=fun z=>by
   rcases hcs with ⟨h1,h2⟩|⟨h1,h2,_⟩
   ·rw [if_pos (by omega),h2]
   ·rw [if_neg (by omega),h1,Int.toNat_natCast]
  obtain ⟨S,hS⟩:∃ S,S=if alt<0 then 0 else WA (gH m) (cdM m k) (alt.toNat+1) en 0:=⟨_,rfl⟩
  obtain ⟨So,hSo⟩:∃ S,S=if alt<0 then 0 else WA (gO m) (cdM m k) (alt.toNat+1) en 0:=⟨_,rfl⟩
  have f1:=hFeq (gH m)
  have f2:=hFeq (gO m)
  have hsi:∀ z:Wg,WA z (cdM m k) (p+1) (if alt<0 then en else alt.toNat) 0=WA z (cdM m k) (p+1) q 0:=fun z=>by rw [←hFeq z];split<;>rfl
  rw [hsi,←hF,←hS] at hq
  rw [hsi,←hFo,←hSo] at hq2
  obtain ⟨e1,rfl⟩:=Prod.mk.inj hq
  obtain ⟨e2,rfl⟩:=Prod.mk.inj hq2
  have hSb:Bd S:=by
   rw [hS]
   rcases hcs with ⟨h1,h2⟩|⟨h1,h2,h3⟩
   ·rw [if_pos (by omega)];unfold Bd;omega
   ·rw [if_neg (by omega),h1,Int.toNat_natCast];exact Zqb HM.out hk h3 (by unfold Bd;omega)
  have hge:v≤xh:=by
   have:=HCb.out
   unfold Bd at hFb hSb
   rw [e1]
   rcases hop2 with q1|q1|q1|q1|q1
   ·rw [ZnZ (x:=Zmx) q1,show Zmx.wt ⟨op,ia,ib⟩=v from HVv.out.symm];show v≤Zmu v (max (Zmu F 1) (Zmu S 1));unfold Zmu Zmt;omega
   ·rw [Zn0 (x:=Zmx) q1,show Zmx.wt ⟨op,ia,ib⟩=v from HVv.out.symm]
    have h3:0≤Zmv ia (Zmu F 1):=by
     have:=Int.mul_nonneg (HO.out.a0 (show op≠1 by omega)) (show 0≤Zmu F 1 by unfold Zmu Zmt;omega)
     dsimp only at this
     unfold Zmv Zmt;omega
    show v≤Zmu v (Zmv ia (Zmu F 1));unfold Zmu Zmt at *;omega
   ·rw [Zn1 (x:=Zmx) (.inl q1),show Zmx.wt ⟨op,ia,ib⟩=v from HVv.out.symm];show v≤Zmu v (Zmu F 1);unfold Zmu Zmt;omega
   ·rw [Zn1 (x:=Zmx) (.inr ⟨q1,rfl⟩),show Zmx.wt ⟨op,ia,ib⟩=v from HVv.out.symm];show v≤Zmu v (Zmu F 1);unfold Zmu Zmt;omega
   ·rw [Zn3 (x:=Zmx) q1,show Zmx.wt ⟨op,ia,ib⟩=v from HVv.out.symm];show v≤Zmu v (Zmu (Zmu F 1) S);unfold Zmu Zmt;omega
  have HSb:=Zh hSb
  have HS0:=Zh (show alt<0→S=0∧So=0 from fun q1=>⟨by rw [hS,if_pos q1],by rw [hSo,if_pos q1]⟩)
  have HGe:=Zh hge
  have HE1:=Zh e1
  have HE2:=Zh e2
  have HL2:=Zh (show alt=q→q<en→∀ w' nx' lf' cs',WkW W0 w' B h m co cc ch nx' lf' cs'→0≤lf'→Calls Tryz.prog 57 #[.pointer (some ⟨B,0,none⟩),.slice (some ca) (cdM m k).length (h.e k).kc,.int .i64 (q+1:Nat),.int .i64 en] w' (WkP W0 w' B h m co cc ch cs' S So) from fun h1 h2=>by
   rcases hcs with ⟨h3,h4⟩|⟨h3,h4,h5⟩
   ·omega
   ·have:=HL.out (q+1) en (by omega) h5
    rw [hS,hSo,if_neg (by omega),if_neg (by omega),h1,Int.toNat_natCast]
    exact this)
  have HQe:=Zh (show (alt=-1∧q=en)∨(alt=q∧q<en) by rcases hcs with ⟨h1,h2⟩|⟨h1,h2,_⟩;exact .inl ⟨h1,h2⟩;exact .inr ⟨h1,h2⟩)
  clear hq hq2 hS hSo hF hFo f1 f2 hsi hFeq e1 e2 hge hSb hFb hcs hM sg1 hop HL HPl HSg HMt
  by_cases hl0:lf=0
  ·rw [if_pos hl0] at HPay
   clear hl0
   rcases HQe.out with ⟨rfl,rfl⟩|⟨rfl,hqe2⟩
   all_goals
    go_wp2_with (first
     | (go_at_call 81;refine (ZeO _ _).mono ?_;rintro e w2 ⟨rfl,rfl⟩;rw [HOp.out])
     | (go_at_call 47;refine (HMt1.out _ H0.out.bl).mono ?_;rintro e w3 ⟨rfl,hb3⟩;have H3:=Zh (H0.out.old hb3);have HU3:=Zh (HU0.out.bel hb3);have x0:=(hb3.cell (Zac x0)).trans x0;have x1:=(hb3.cell (Zac x1)).trans x1;have x2:=(hb3.cell (Zac x2)).trans x2;clear hb3)
     | (go_at_call 16;refine (HCo.out _).mono ?_;rintro e w4 ⟨rfl,hb4⟩;have H4:=Zh (H3.out.old hb4);have HU4:=Zh (HU3.out.bel hb4);clear hb4 x0 x1 x2)
     | (go_at_call 120;refine (HPay.out _ H4.out).mono ?_;rintro e w5 ⟨rfl,hw5,hu5⟩;have H5:=Zh hw5;have HU5:=Zh (HU4.out.trans hu5);clear hw5 hu5))
    go_ret2
    exact ⟨2,_,_,_,rfl,H5.out,HU5.out,.inr (.inr rfl),fun q=>absurd rfl q,by have:=HCb.out;omega,by have:=HGe.out;dsimp only;omega,fun q=>by cases q⟩
  rw [if_neg hl0] at HPay
  have HLf:=Zh (show 0≤lf-1 by omega)
  clear hl0
  by_cases h31:op=31∨op=32
  ·have hn29:¬ op=29:=by omega
   have hn30:¬ op=30:=by omega
   have hn33:¬ op=33:=by omega
   obtain ⟨rfl,rfl⟩:alt=-1∧q=en:=by rcases HQe.out with h1|h1;exact h1;rcases hMop with h2|h2<;>omega
   have HX1:=Zh (show xh=Zmu v (Zmu F 1) by
    rw [HE1.out]
    rcases h31 with q1|q1
    ·rw [Zn1 (x:=Zmx) (.inl q1),show Zmx.wt ⟨op,ia,ib⟩=v from HVv.out.symm];rfl
    ·rw [Zn1 (x:=Zmx) (.inr ⟨q1,rfl⟩),show Zmx.wt ⟨op,ia,ib⟩=v from HVv.out.symm];rfl)
   have HX2:=Zh (show yo=Zmz v (Zmz Fo 1) by rw [HE2.out,Zo4 h31,←HVv.out])
   go_upto_region 26 with (first
    | (go_at_call 81;refine (ZeO _ _).mono ?_;rintro e w2 ⟨rfl,rfl⟩;rw [HOp.out])
    | (go_at_call 47;refine (HMt1.out _ H0.out.bl).mono ?_;rintro e w3 ⟨rfl,hb3⟩;have H3:=Zh (H0.out.old hb3);have HU3:=Zh (HU0.out.bel hb3);have x0:=(hb3.cell (Zac x0)).trans x0;have x1:=(hb3.cell (Zac x1)).trans x1;have x2:=(hb3.cell (Zac x2)).trans x2;clear hb3)
    | (go_at_call 16;refine (HCo.out _).mono ?_;rintro e w4 ⟨rfl,hb4⟩;have H4:=Zh (H3.out.old hb4);have HU4:=Zh (HU3.out.bel hb4);have x0:=(hb4.cell (Zac x0)).trans x0;clear hb4 x1 x2)
    | (go_at_call 120;refine (HPay.out _ H4.out).mono ?_;rintro e w5 ⟨rfl,hw5,hu5⟩;have H5:=Zh hw5;have HU5:=Zh (HU4.out.trans hu5);have x0:=hu5.cell x0 HNe.out HNe.out;clear hw5 hu5)
    | (go_at_call 57;refine (HL1.out _ _ _ _ H5.out HLf.out).mono ?_;rintro e w6 ⟨how6,nx6,lf6,cs6,rfl,hw6,hu6,hp6⟩;have H6:=Zh hw6;have HU6:=Zh (HU5.out.trans hu6);have HP6:=Zh hp6;have x0:=hu6.cell x0 HNe.out HNe.out;clear hw6 hu6 hp6))
   all_goals
    have HC6:=Zh (And.intro HCb.out (And.intro H6.out.iv (And.intro hiv0 (And.intro HP6.out.2.2.1 HP6.out.2.2.2.1))))
    by_cases hw0:how6=0
    ·first
     | omega
     |skip
      subst hw0
      have hlf6:=HP6.out.2.1 (by decide)
      obtain ⟨z,hz⟩:∃ z,z=(if lf6=0 then (2:Int) else 0):=⟨_,rfl⟩
      have HZ:=Zh hz
      have HPz:=Zh (HPay1.out · nx6 lf6 cs6 z · hlf6 hz)
      clear hz
      go_wp2_with (go_at_call 120;refine (HPz.out _ H6.out).mono ?_;rintro e w9 ⟨rfl,hw9,hu9⟩;have H9:=Zh hw9;have HU9:=Zh (HU6.out.trans hu9);clear hw9 hu9)
      go_ret2
      exact ⟨z,_,_,_,rfl,H9.out,HU9.out,HP6.out.paid HZ.out (by have:=HC6.out;omega) (by have:=HC6.out;rw [HX1.out];unfold Zmu Zmt;omega) (fun g1 g2=>by have:=HC6.out;rw [HX2.out];unfold Zmz Zmu Zmt;split<;>split<;>omega)⟩
    ·by_cases hw1:how6=1
     ·first
      | omega
      |skip
       subst hw1
       go_wp2
       go_ret2
       exact ⟨_,_,_,_,rfl,H6.out,HU6.out,HP6.out.left hw0 (by have:=HC6.out;omega) (by have:=HC6.out;rw [HX1.out];unfold Zmu Zmt;omega)⟩
     ·first
      | omega
      |skip
       go_wp2
       go_ret2
       exact ⟨_,_,_,_,rfl,H6.out,HU6.out,HP6.out.left hw0 (by have:=HC6.out;omega) (by have:=HC6.out;rw [HX1.out];unfold Zmu Zmt;omega)⟩
  by_cases h33:op=33
  ·subst h33
   obtain ⟨rfl,hqe2⟩:alt=q∧q<en:=by rcases HQe.out with h1|h1;rcases hMop with h2|h2<;>omega;exact h1
   have HX1:=Zh (show xh=Zmu v (Zmu (Zmu F 1) S) by rw [HE1.out,Zn3 (x:=Zmx) rfl,show Zmx.wt ⟨33,ia,ib⟩=v from HVv.out.symm];rfl)
   have HX2:=Zh (show yo=Zmz v (Zmz (ZmA Fo So) 1) by rw [HE2.out,Zo2 (.inr rfl),←HVv.out])
   have HL3:=Zh (HL2.out rfl hqe2)
   go_upto_region 26 with (first
    | (go_at_call 81;refine (ZeO _ _).mono ?_;rintro e w2 ⟨rfl,rfl⟩;rw [HOp.out])
    | (go_at_call 47;refine (HMt1.out _ H0.out.bl).mono ?_;rintro e w3 ⟨rfl,hb3⟩;have H3:=Zh (H0.out.old hb3);have HU3:=Zh (HU0.out.bel hb3);have x0:=(hb3.cell (Zac x0)).trans x0;have x1:=(hb3.cell (Zac x1)).trans x1;have x2:=(hb3.cell (Zac x2)).trans x2;clear hb3)
    | (go_at_call 16;refine (HCo.out _).mono ?_;rintro e w4 ⟨rfl,hb4⟩;have H4:=Zh (H3.out.old hb4);have HU4:=Zh (HU3.out.bel hb4);have x0:=(hb4.cell (Zac x0)).trans x0;clear hb4 x1 x2)
    | (go_at_call 120;refine (HPay.out _ H4.out).mono ?_;rintro e w5 ⟨rfl,hw5,hu5⟩;have H5:=Zh hw5;have HU5:=Zh (HU4.out.trans hu5);have x0:=hu5.cell x0 HNe.out HNe.out;clear hw5 hu5)
    | (go_at_call 57;refine (HL3.out _ _ _ _ H6.out (HP6.out.2.1 (by omega))).mono ?_;rintro e w7 ⟨how7,nx7,lf7,cs7,rfl,hw7,hu7,hp7⟩;have H7:=Zh hw7;have HU7:=Zh (HU6.out.trans hu7);have HP7:=Zh hp7;have x0:=hu7.cell x0 HNe.out HNe.out;clear hw7 hu7 hp7)
    | (go_at_call 57;refine (HL1.out _ _ _ _ H5.out HLf.out).mono ?_;rintro e w6 ⟨how6,nx6,lf6,cs6,rfl,hw6,hu6,hp6⟩;have H6:=Zh hw6;have HU6:=Zh (HU5.out.trans hu6);have HP6:=Zh hp6;have x0:=hu6.cell x0 HNe.out HNe.out;clear hw6 hu6 hp6))
   ·have HC7:=Zh (And.intro HCb.out (And.intro H7.out.iv (And.intro hiv0 (And.intro HP6.out.2.2.1 (And.intro HP6.out.2.2.2.1 (And.intro HP7.out.2.2.1 HP7.out.2.2.2.1))))))
    by_cases hw0:how7=0
    ·first
     | omega
     |skip
      subst hw0
      have hlf6:=HP7.out.2.1 (by decide)
      obtain ⟨z,hz⟩:∃ z,z=(if lf7=0 then (2:Int) else 0):=⟨_,rfl⟩
      have HZ:=Zh hz
      have HPz:=Zh (HPay1.out · nx7 lf7 cs7 z · hlf6 hz)
      clear hz
      go_wp2_with (go_at_call 120;refine (HPz.out _ H7.out).mono ?_;rintro e w9 ⟨rfl,hw9,hu9⟩;have H9:=Zh hw9;have HU9:=Zh (HU7.out.trans hu9);clear hw9 hu9)
      go_ret2
      exact ⟨z,_,_,_,rfl,H9.out,HU9.out,HP7.out.paid HZ.out (by have:=HC7.out;omega) (by rw [HX1.out];exact Zqj (by have:=HC7.out;omega) (by have:=HC7.out;omega) HCb.out.1 HFb.out HSb.out) (fun g1 g2=>by rw [HX2.out];exact Zql (.inr ⟨g1,by have:=HC7.out;omega⟩) HCb.out.1)⟩
    ·by_cases hw1:how7=1
     ·first
      | omega
      |skip
       subst hw1
       go_wp2
       go_ret2
       exact ⟨_,_,_,_,rfl,H7.out,HU7.out,HP7.out.left hw0 (by have:=HC7.out;omega) (by rw [HX1.out];exact Zqj (by have:=HC7.out;omega) (by have:=HC7.out;omega) HCb.out.1 HFb.out HSb.out)⟩
     ·first
      | omega
      |skip
       go_wp2
       go_ret2
       exact ⟨_,_,_,_,rfl,H7.out,HU7.out,HP7.out.left hw0 (by have:=HC7.out;omega) (by rw [HX1.out];exact Zqj (by have:=HC7.out;omega) (by have:=HC7.out;omega) HCb.out.1 HFb.out HSb.out)⟩
   ·have HC6:=Zh (And.intro HCb.out (And.intro H6.out.iv (And.intro hiv0 (And.intro HP6.out.2.2.1 HP6.out.2.2.2.1))))
    by_cases hw0:how6=0
    ·first
     | omega
     |skip
      subst hw0
      have hlf6:=HP6.out.2.1 (by decide)
      obtain ⟨z,hz⟩:∃ z,z=(if lf6=0 then (2:Int) else 0):=⟨_,rfl⟩
      have HZ:=Zh hz
      have HPz:=Zh (HPay1.out · nx6 lf6 cs6 z · hlf6 hz)
      clear hz
      go_wp2_with (go_at_call 120;refine (HPz.out _ H6.out).mono ?_;rintro e w9 ⟨rfl,hw9,hu9⟩;have H9:=Zh hw9;have HU9:=Zh (HU6.out.trans hu9);clear hw9 hu9)
      go_ret2
      exact ⟨z,_,_,_,rfl,H9.out,HU9.out,HP6.out.paid HZ.out (by have:=HC6.out;omega) (by rw [HX1.out];exact Zqj (by have:=HC6.out;have:=HSb.out;unfold Bd at this;omega) (by have:=HC6.out;omega) HCb.out.1 HFb.out HSb.out) (fun g1 g2=>by rw [HX2.out];exact Zql (.inl ⟨g1,by have:=HC6.out;omega⟩) HCb.out.1)⟩
    ·by_cases hw1:how6=1
     ·first
      | omega
      |skip
       subst hw1
       go_wp2
       go_ret2
       exact ⟨_,_,_,_,rfl,H6.out,HU6.out,HP6.out.left hw0 (by have:=HC6.out;omega) (by rw [HX1.out];exact Zqj (by have:=HC6.out;have:=HSb.out;unfold Bd at this;omega) (by have:=HC6.out;omega) HCb.out.1 HFb.out HSb.out)⟩
     ·first
      | omega
      |skip
       go_wp2
       go_ret2
       exact ⟨_,_,_,_,rfl,H6.out,HU6.out,HP6.out.left hw0 (by have:=HC6.out;omega) (by rw [HX1.out];exact Zqj (by have:=HC6.out;have:=HSb.out;unfold Bd at this;omega) (by have:=HC6.out;omega) HCb.out.1 HFb.out HSb.out)⟩
  by_cases h29:op=29
  ·subst h29
   have HX1:=Zh (show xh=Zmu v (max (Zmu F 1) (Zmu S 1)) by rw [HE1.out,ZnZ (x:=Zmx) rfl,show Zmx.wt ⟨29,ia,ib⟩=v from HVv.out.symm];rfl)
   have HX2:=Zh (show yo=Zmz v (Zmz (ZmA Fo So) 1) by rw [HE2.out,Zo2 (.inl rfl),←HVv.out])
   have HPk:=Zh (fun w' (H':WkW W0 w' B h m co cc ch nx (lf-1) (cs+v))=>ZpY HX.out H' 2 (by decide))
   rcases HQe.out with ⟨rfl,rfl⟩|⟨rfl,hqe2⟩
   ·go_upto_region 26 with (first
    | (go_at_call 81;refine (ZeO _ _).mono ?_;rintro e w2 ⟨rfl,rfl⟩;rw [HOp.out])
    | (go_at_call 47;refine (HMt1.out _ H0.out.bl).mono ?_;rintro e w3 ⟨rfl,hb3⟩;have H3:=Zh (H0.out.old hb3);have HU3:=Zh (HU0.out.bel hb3);have x0:=(hb3.cell (Zac x0)).trans x0;have x1:=(hb3.cell (Zac x1)).trans x1;have x2:=(hb3.cell (Zac x2)).trans x2;clear hb3)
    | (go_at_call 16;refine (HCo.out _).mono ?_;rintro e w4 ⟨rfl,hb4⟩;have H4:=Zh (H3.out.old hb4);have HU4:=Zh (HU3.out.bel hb4);have x0:=(hb4.cell (Zac x0)).trans x0;clear hb4 x1 x2)
    | (go_at_call 120;refine (HPay.out _ H4.out).mono ?_;rintro e w5 ⟨rfl,hw5,hu5⟩;have H5:=Zh hw5;have HU5:=Zh (HU4.out.trans hu5);have x0:=hu5.cell x0 HNe.out HNe.out;clear hw5 hu5)
    | (go_at_call 121;refine (HPk.out _ H5.out).mono ?_;rintro e w6 ⟨k6,nx6,rfl,g0,g1,hw6,hu6⟩;have H6:=Zh hw6;have HU6:=Zh (HU5.out.trans hu6);have x0:=hu6.cell x0 HNe.out HNe.out;clear hw6 hu6)
    | (go_at_call 57;refine (HL1.out _ _ _ _ H6.out HLf.out).mono ?_;rintro e w7 ⟨how7,nx7,lf7,cs7,rfl,hw7,hu7,hp7⟩;have H7:=Zh hw7;have HU7:=Zh (HU6.out.trans hu7);have HP7:=Zh hp7;have x0:=hu7.cell x0 HNe.out HNe.out;clear hw7 hu7 hp7))
    ·obtain ⟨z,hz⟩:∃ z,z=(if lf-1=0 then (2:Int) else 0):=⟨_,rfl⟩
     have HZ:=Zh hz
     have HPz:=Zh (HPay1.out · nx6 (lf-1) (cs+v) z · HLf.out hz)
     clear hz
     have HP7:=Zh (show ZpW 0 (lf-1) (cs+v) (cs+v) 0 0 from ⟨.inl rfl,fun _=>HLf.out,Int.le_refl _,by omega,fun _=>⟨by omega,by omega⟩⟩)
     have HC7:=Zh (And.intro HCb.out (And.intro H6.out.iv hiv0))
     have HS1:=Zh (HS0.out (by decide)).2
     go_wp2_with (go_at_call 120;refine (HPz.out _ H6.out).mono ?_;rintro e w9 ⟨rfl,hw9,hu9⟩;have H9:=Zh hw9;have HU9:=Zh (HU6.out.trans hu9);clear hw9 hu9)
     go_ret2
     exact ⟨z,_,_,_,rfl,H9.out,HU9.out,HP7.out.paid HZ.out (by have:=HC7.out;omega) (by rw [HX1.out];exact Zqk ((.inr (by have:=HSb.out;unfold Bd at this;omega))) (by have:=HC7.out;omega) HCb.out.1 HFb.out HSb.out) (fun g1 g2=>by rw [HX2.out];exact Zql (.inr (by have:=HS1.out;have:=HC7.out;omega)) HCb.out.1)⟩
    all_goals
     have HC7:=Zh (And.intro HCb.out (And.intro H7.out.iv (And.intro hiv0 (And.intro HP7.out.2.2.1 HP7.out.2.2.2.1))))
     by_cases hw0:how7=0
     ·first
      | omega
      |skip
       subst hw0
       have hlf6:=HP7.out.2.1 (by decide)
       obtain ⟨z,hz⟩:∃ z,z=(if lf7=0 then (2:Int) else 0):=⟨_,rfl⟩
       have HZ:=Zh hz
       have HPz:=Zh (HPay1.out · nx7 lf7 cs7 z · hlf6 hz)
       clear hz
       go_wp2_with (go_at_call 120;refine (HPz.out _ H7.out).mono ?_;rintro e w9 ⟨rfl,hw9,hu9⟩;have H9:=Zh hw9;have HU9:=Zh (HU7.out.trans hu9);clear hw9 hu9)
       go_ret2
       exact ⟨z,_,_,_,rfl,H9.out,HU9.out,HP7.out.paid HZ.out (by have:=HC7.out;omega) (by rw [HX1.out];exact Zqk (.inl (by have:=HC7.out;omega)) (by have:=HC7.out;omega) HCb.out.1 HFb.out HSb.out) (fun g1 g2=>by rw [HX2.out];exact Zql (.inl ⟨g1,by have:=HC7.out;omega⟩) HCb.out.1)⟩
     ·by_cases hw1:how7=1
      ·first
       | omega
       |skip
        subst hw1
        go_wp2
        go_ret2
        exact ⟨_,_,_,_,rfl,H7.out,HU7.out,HP7.out.left hw0 (by have:=HC7.out;omega) (by rw [HX1.out];exact Zqk (.inl (by have:=HC7.out;omega)) (by have:=HC7.out;omega) HCb.out.1 HFb.out HSb.out)⟩
      ·first
       | omega
       |skip
        go_wp2
        go_ret2
        exact ⟨_,_,_,_,rfl,H7.out,HU7.out,HP7.out.left hw0 (by have:=HC7.out;omega) (by rw [HX1.out];exact Zqk (.inl (by have:=HC7.out;omega)) (by have:=HC7.out;omega) HCb.out.1 HFb.out HSb.out)⟩
   ·have HL3:=Zh (HL2.out rfl hqe2)
    go_upto_region 26 with (first
    | (go_at_call 81;refine (ZeO _ _).mono ?_;rintro e w2 ⟨rfl,rfl⟩;rw [HOp.out])
    | (go_at_call 47;refine (HMt1.out _ H0.out.bl).mono ?_;rintro e w3 ⟨rfl,hb3⟩;have H3:=Zh (H0.out.old hb3);have HU3:=Zh (HU0.out.bel hb3);have x0:=(hb3.cell (Zac x0)).trans x0;have x1:=(hb3.cell (Zac x1)).trans x1;have x2:=(hb3.cell (Zac x2)).trans x2;clear hb3)
    | (go_at_call 16;refine (HCo.out _).mono ?_;rintro e w4 ⟨rfl,hb4⟩;have H4:=Zh (H3.out.old hb4);have HU4:=Zh (HU3.out.bel hb4);have x0:=(hb4.cell (Zac x0)).trans x0;clear hb4 x1 x2)
    | (go_at_call 120;refine (HPay.out _ H4.out).mono ?_;rintro e w5 ⟨rfl,hw5,hu5⟩;have H5:=Zh hw5;have HU5:=Zh (HU4.out.trans hu5);have x0:=hu5.cell x0 HNe.out HNe.out;clear hw5 hu5)
    | (go_at_call 121;refine (HPk.out _ H5.out).mono ?_;rintro e w6 ⟨k6,nx6,rfl,g0,g1,hw6,hu6⟩;have H6:=Zh hw6;have HU6:=Zh (HU5.out.trans hu6);have x0:=hu6.cell x0 HNe.out HNe.out;clear hw6 hu6)
    | (go_at_call 57;have hk1:(k6 == 1)=true:=‹_›;refine (HL3.out _ _ _ _ H6.out HLf.out).mono ?_;rintro e w7 ⟨how7,nx7,lf7,cs7,rfl,hw7,hu7,hp7⟩;have H7:=Zh hw7;have HU7:=Zh (HU6.out.trans hu7);have HP7:=Zh hp7;have x0:=hu7.cell x0 HNe.out HNe.out;clear hw7 hu7 hp7)
    | (go_at_call 57;have hk1:(k6 == 1)=false:=‹_›;refine (HL1.out _ _ _ _ H6.out HLf.out).mono ?_;rintro e w7 ⟨how7,nx7,lf7,cs7,rfl,hw7,hu7,hp7⟩;have H7:=Zh hw7;have HU7:=Zh (HU6.out.trans hu7);have HP7:=Zh hp7;have x0:=hu7.cell x0 HNe.out HNe.out;clear hw7 hu7 hp7))
    ·have HC7:=Zh (And.intro HCb.out (And.intro H7.out.iv (And.intro hiv0 (And.intro HP7.out.2.2.1 HP7.out.2.2.2.1))))
     by_cases hw0:how7=0
     ·first
      | omega
      |skip
       subst hw0
       have hlf6:=HP7.out.2.1 (by decide)
       obtain ⟨z,hz⟩:∃ z,z=(if lf7=0 then (2:Int) else 0):=⟨_,rfl⟩
       have HZ:=Zh hz
       have HPz:=Zh (HPay1.out · nx7 lf7 cs7 z · hlf6 hz)
       clear hz
       go_wp2_with (go_at_call 120;refine (HPz.out _ H7.out).mono ?_;rintro e w9 ⟨rfl,hw9,hu9⟩;have H9:=Zh hw9;have HU9:=Zh (HU7.out.trans hu9);clear hw9 hu9)
       go_ret2
       exact ⟨z,_,_,_,rfl,H9.out,HU9.out,HP7.out.paid HZ.out (by have:=HC7.out;omega) (by rw [HX1.out];exact Zqk (.inr (by have:=HC7.out;omega)) (by have:=HC7.out;omega) HCb.out.1 HFb.out HSb.out) (fun g1 g2=>by rw [HX2.out];exact Zql (.inr ⟨g1,by have:=HC7.out;omega⟩) HCb.out.1)⟩
     ·by_cases hw1:how7=1
      ·first
       | omega
       |skip
        subst hw1
        go_wp2
        go_ret2
        exact ⟨_,_,_,_,rfl,H7.out,HU7.out,HP7.out.left hw0 (by have:=HC7.out;omega) (by rw [HX1.out];exact Zqk (.inr (by have:=HC7.out;omega)) (by have:=HC7.out;omega) HCb.out.1 HFb.out HSb.out)⟩
      ·first
       | omega
       |skip
        go_wp2
        go_ret2
        exact ⟨_,_,_,_,rfl,H7.out,HU7.out,HP7.out.left hw0 (by have:=HC7.out;omega) (by rw [HX1.out];exact Zqk (.inr (by have:=HC7.out;omega)) (by have:=HC7.out;omega) HCb.out.1 HFb.out HSb.out)⟩
    all_goals
     have HC7:=Zh (And.intro HCb.out (And.intro H7.out.iv (And.intro hiv0 (And.intro HP7.out.2.2.1 HP7.out.2.2.2.1))))
     by_cases hw0:how7=0
     ·first
      | omega
      |skip
       subst hw0
       have hlf6:=HP7.out.2.1 (by decide)
       obtain ⟨z,hz⟩:∃ z,z=(if lf7=0 then (2:Int) else 0):=⟨_,rfl⟩
       have HZ:=Zh hz
       have HPz:=Zh (HPay1.out · nx7 lf7 cs7 z · hlf6 hz)
       clear hz
       go_wp2_with (go_at_call 120;refine (HPz.out _ H7.out).mono ?_;rintro e w9 ⟨rfl,hw9,hu9⟩;have H9:=Zh hw9;have HU9:=Zh (HU7.out.trans hu9);clear hw9 hu9)
       go_ret2
       exact ⟨z,_,_,_,rfl,H9.out,HU9.out,HP7.out.paid HZ.out (by have:=HC7.out;omega) (by rw [HX1.out];exact Zqk (.inl (by have:=HC7.out;omega)) (by have:=HC7.out;omega) HCb.out.1 HFb.out HSb.out) (fun g1 g2=>by rw [HX2.out];exact Zql (.inl ⟨g1,by have:=HC7.out;omega⟩) HCb.out.1)⟩
     ·by_cases hw1:how7=1
      ·first
       | omega
       |skip
        subst hw1
        go_wp2
        go_ret2
        exact ⟨_,_,_,_,rfl,H7.out,HU7.out,HP7.out.left hw0 (by have:=HC7.out;omega) (by rw [HX1.out];exact Zqk (.inl (by have:=HC7.out;omega)) (by have:=HC7.out;omega) HCb.out.1 HFb.out HSb.out)⟩
      ·first
       | omega
       |skip
        go_wp2
        go_ret2
        exact ⟨_,_,_,_,rfl,H7.out,HU7.out,HP7.out.left hw0 (by have:=HC7.out;omega) (by rw [HX1.out];exact Zqk (.inl (by have:=HC7.out;omega)) (by have:=HC7.out;omega) HCb.out.1 HFb.out HSb.out)⟩
  obtain rfl:op=30:=by omega
  obtain ⟨rfl,rfl⟩:alt=-1∧q=en:=by rcases HQe.out with h1|h1;exact h1;rcases hMop with h2|h2<;>omega
  have ha1:=HLa.out rfl
  have ha0:0≤ia:=HO.out.a0 (show (30:Int)≠1 by decide)
  have hwa:IntKind.i64.wrap (ia+1)=ia+1:=IntWalk.i64_in _ (by omega)
  have HX1:=Zh (show xh=Zmu v (Zmv ia (Zmu F 1)) by rw [HE1.out,Zn0 (x:=Zmx) rfl,show Zmx.wt ⟨30,ia,ib⟩=v from HVv.out.symm];rfl)
  have HX2:=Zh (show yo=v by rw [HE2.out,Zo3 rfl,←HVv.out])
  have HPk:=Zh (fun w' (H':WkW W0 w' B h m co cc ch nx (lf-1) (cs+v))=>ZpY HX.out H' (ia+1) (by omega))
  go_wp2_with (first
    | (go_at_call 81;refine (ZeO _ _).mono ?_;rintro e w2 ⟨rfl,rfl⟩;rw [HOp.out])
    | (go_at_call 47;refine (HMt1.out _ H0.out.bl).mono ?_;rintro e w3 ⟨rfl,hb3⟩;have H3:=Zh (H0.out.old hb3);have HU3:=Zh (HU0.out.bel hb3);have x0:=(hb3.cell (Zac x0)).trans x0;have x1:=(hb3.cell (Zac x1)).trans x1;have x2:=(hb3.cell (Zac x2)).trans x2;clear hb3)
    | (go_at_call 16;refine (HCo.out _).mono ?_;rintro e w4 ⟨rfl,hb4⟩;have H4:=Zh (H3.out.old hb4);have HU4:=Zh (HU3.out.bel hb4);have x0:=(hb4.cell (Zac x0)).trans x0;have x1:=(hb4.cell (Zac x1)).trans x1;clear hb4 x2)
    | (go_at_call 120;refine (HPay.out _ H4.out).mono ?_;rintro e w5 ⟨rfl,hw5,hu5⟩;have H5:=Zh hw5;have HU5:=Zh (HU4.out.trans hu5);have x0:=hu5.cell x0 HNe.out HNe.out;have x1:=hu5.cell x1 HNe.out HNe.out;clear hw5 hu5)
    | (go_at_call 121;refine (HPk.out _ H5.out).mono ?_;rintro e w6 ⟨k6,nx6,rfl,g0,g1,hw6,hu6⟩;obtain ⟨R,rfl⟩:∃ d:Nat,k6=d:=⟨k6.toNat,(by omega)⟩;have H6:=Zh hw6;have HU6:=Zh (HU5.out.trans hu6);clear x0 x1 hw6 hu6))
  have hR:(R:Int)≤ia:=by omega
  have HR:=Zh hR
  clear hR g0 g1
  go_loopw [15,17] (fun hv jv wr=>∃ (how:Int) (j:Nat) (nx lf cs2:Int),hv=.int .i64 how∧jv=.int .i64 j∧Hid (j≤R)∧Hid (WkW W0 wr B h m co cc ch nx lf cs2)∧Hid (Upd B B w wr)∧Hid (ZpW how lf (cs+v) cs2 (j*Zmu F 1) 0)) (fun _ jv _=>R-(intOf jv).toNat)
  case atStart=>exact ⟨0,0,_,_,_,rfl,rfl,Nat.zero_le _,H6.out,HU6.out,.inl rfl,fun _=>HLf.out,Int.le_refl _,by rw [Int.natCast_zero,Int.zero_mul];omega,fun _=>by omega⟩
  case round=>
   obtain ⟨how,j,nx2,lf2,cs2,rfl,rfl,HJ,HW,HU,HP⟩:=hrel
   rename World=>wo
   have HC:=Zh (And.intro HCb.out (And.intro HW.out.iv (And.intro hiv0 (And.intro HP.out.2.2.1 HP.out.2.2.2.1))))
   by_cases hjr:j<R
   ·have hjr2:(j:Int) < R:=by omega
    have hwj:IntKind.i64.wrap ((j:Int)+1)=((j+1:Nat):Int):=IntWalk.i64_in _ (by have:=HR.out;omega)
    by_cases hh:how=0
    ·subst hh
     go_upto_region 23 with (go_at_call 57;refine (HL1.out _ _ _ _ HW.out (HP.out.2.1 (by decide))).mono ?_;rintro e w7 ⟨how7,nx7,lf7,cs7,rfl,hw7,hu7,hp7⟩;have H7:=Zh hw7;have HU7:=Zh (HU.out.trans hu7);have HP7:=Zh hp7;clear hw7 hu7 hp7)
     have HC7:=Zh (And.intro H7.out.iv (And.intro HP7.out.2.2.1 HP7.out.2.2.2.1))
     by_cases hw0:how7=0
     ·subst hw0
      have hlf7:=HP7.out.2.1 (by decide)
      obtain ⟨z,hz⟩:∃ z,z=(if lf7=0 then (2:Int) else 0):=⟨_,rfl⟩
      have HZ:=Zh hz
      have HPz:=Zh (HPay1.out · nx7 lf7 cs7 z · hlf7 hz)
      clear hz
      go_wp2_with (go_at_call 120;refine (HPz.out _ H7.out).mono ?_;rintro e w9 ⟨rfl,hw9,hu9⟩;have H9:=Zh hw9;have HU9:=Zh (HU7.out.trans hu9);clear hw9 hu9)
      refine ⟨⟨z,j+1,_,_,_,rfl,rfl,hjr,H9.out,HU9.out,HP7.out.paid HZ.out (by have:=HC.out;omega) (Zqn HC.out.2.2.2.2 HC7.out.2.2 (Int.le_refl _) (by have:=H9.out.iv;omega) (by have:=HC.out;omega) HFb.out) (fun _ _=>by have:=HC.out;have:=HC7.out;omega)⟩,by simp [intOf];omega⟩
     ·go_wp2
      refine ⟨⟨how7,j+1,_,_,_,rfl,rfl,hjr,H7.out,HU7.out,HP7.out.left hw0 (by have:=HC.out;omega) (Zqn HC.out.2.2.2.2 HC7.out.2.2 (by omega) (by have:=H7.out.iv;omega) (by have:=HC.out;omega) HFb.out)⟩,by simp [intOf];omega⟩
    ·go_wp2
     go_ret2
     exact ⟨how,_,_,_,rfl,HW.out,HU.out,HP.out.left hh (by have:=HC.out;omega) (by rw [HX1.out];have:=Zqm HC.out.2.2.2.2 HJ.out HR.out (by have:=HC.out;omega) HCb.out.1 HFb.out;omega)⟩
   ·have hjr2:¬ (j:Int) < R:=by omega
    go_wp2
    go_ret2
    exact ⟨how,_,_,_,rfl,HW.out,HU.out,HP.out.1,HP.out.2.1,by have:=HC.out;omega,by rw [HX1.out];have:=Zqm HC.out.2.2.2.2 HJ.out HR.out (by have:=HC.out;omega) HCb.out.1 HFb.out;omega,fun q=>by rw [HX2.out];have:=HC.out;omega⟩
end
end
section
open Go.RowKit
theorem Zqq {T:Int→Int}{l:List Int}{t:Int} (h:t∈l):T t≤Zmy T l:=by
 have key:∀ (l:List Int) (a:Int),a≤l.foldl (fun a t=>max a (T t)) a∧∀ t∈l,T t≤l.foldl (fun a t=>max a (T t)) a:=by
  intro l
  induction l with
  | nil=>intro a;exact ⟨Int.le_refl _,fun t ht=>by simp at ht⟩
  |cons x r ih=>
   intro a
   obtain ⟨h1,h2⟩:=ih (max a (T x))
   refine ⟨Int.le_trans (by omega) h1,fun t ht=>?_⟩
   rcases List.mem_cons.1 ht with rfl|ht
   ·exact Int.le_trans (by omega) h1
   ·exact h2 t ht
 exact (key l 0).2 t h
theorem Zqr {T:Int→Int}{l:List Int}{t:Int} (h:t∈l) (ht:0≤T t):0≤ZmB T l∧ZmB T l≤T t:=by
 have key:∀ (l:List Int) (a:Int),(0≤a→0≤l.foldl (fun a t=>ZmA a (T t)) a∧l.foldl (fun a t=>ZmA a (T t)) a≤a)∧∀ t∈l,0≤T t→0≤l.foldl (fun a t=>ZmA a (T t)) a∧l.foldl (fun a t=>ZmA a (T t)) a≤T t:=by
  intro l
  induction l with
  | nil=>intro a;exact ⟨fun h=>⟨h,Int.le_refl _⟩,fun t ht=>by simp at ht⟩
  |cons x r ih=>
   intro a
   obtain ⟨h1,h2⟩:=ih (ZmA a (T x))
   have hl:0≤a→0≤ZmA a (T x)∧ZmA a (T x)≤a:=fun h=>by unfold ZmA;split;omega;split<;>omega
   have hr:0≤T x→0≤ZmA a (T x)∧ZmA a (T x)≤T x:=fun h=>by unfold ZmA;split;omega;split<;>omega
   refine ⟨fun h=>⟨(h1 (hl h).1).1,Int.le_trans (h1 (hl h).1).2 (hl h).2⟩,fun t ht h=>?_⟩
   rcases List.mem_cons.1 ht with rfl|ht
   ·exact ⟨(h1 (hr h).1).1,Int.le_trans (h1 (hr h).1).2 (hr h).2⟩
   ·exact h2 t ht h
 exact (key l _).2 t h ht
theorem ZpW.add {how lf cs cs1 cs2 v hi lo hi2 lo2:Int} (h:ZpW how lf cs1 cs2 hi lo) (h1:cs1=cs+v) (hv:0≤v) (h2:cs2≤3000000) (h0:0≤cs) (hhi:Zmu v hi≤hi2) (hlo:0≤lo→0≤lo2∧lo2≤v+lo):ZpW how lf cs cs2 hi2 lo2:=by
 obtain ⟨e1,e2,e3,e4,e5⟩:=h
 refine ⟨e1,e2,by omega,?_,fun q=>?_⟩
 ·unfold Zmu Zmt at hhi;omega
 ·have:=e5 q
  have:=hlo this.1
  omega
section
variable {W0:World}{B:Nat}{h:Hd}{m:Md}{co:Option Addr}{cc:Nat}{ch:List Int} (X:Wkx W0 B h m co cc ch)
include X
theorem Zqs {k:Nat} (hk:k<m.me.length) (hl:∀ j,j<k→Zp5 W0 B h m co cc ch j 0 (cdM m j).length) {i:In3} (hi:i∈cdM m k):Zp8 W0 B h m co cc ch i:=by
 intro w nx lf cs H hlf
 have hm:=(ZpT X.mo).1
 have hok:=ZfN hm hk
 have hv:=(hok.i i hi).1
 have ho:=ZfS hv (hok.i i hi).2
 have hsd:=(ZpT X.mo).2 k hk i hi
 have hcb:=ZoD hv
 have hTb:=Zqa hm
 have hiv0:=H.iv
 obtain ⟨w0,hw0⟩:∃ w0,w0=w.alloc (.cells #[.int .i64 i.op,.int .i64 i.a,.int .i64 i.b] 42):=⟨_,rfl⟩
 have hb0:Below w.heap.size w w0:=by rw [hw0];exact bE
 have HI:=Zh (show Blk w0 w.heap.size #[.int .i64 i.op,.int .i64 i.a,.int .i64 i.b] 42 by rw [hw0];exact Blk.new _ _ _)
 have H0:=Zh (H.old hb0)
 have HU0:=Zh (show Upd B B w w0 from Upd.of hb0)
 have HNe:=Zh (show w.heap.size≠B from by have:=H.cells.1;omega)
 have HW:=Zh hw0
 have HCo:=Zh (fun w'=>ZpN i w' hv)
 have HX:=Zh X
 have HL:=Zh hl
 have HMd:=Zh hm
 obtain ⟨ph,hph⟩:∃ p,p=(gH m).pl i:=⟨_,rfl⟩
 obtain ⟨po,hpo⟩:∃ p,p=(gO m).pl i:=⟨_,rfl⟩
 rw [←hph,←hpo]
 -- what it weighs,by its operation
 have hw25:i.op=25→ph=Zmu (Zmw i) (ZmD (gW Zmx m) m i.a.toNat)∧po=Zmz (Zmw i) (ZmD (gL m) m i.a.toNat)∧i.a.toNat<k∧0≤i.a:=fun q=>⟨hph.trans (ZnW q),hpo.trans (ZoY q),by have:=(ho.o25 q).1;have:=ho.a0 (by omega);omega,ho.a0 (by omega)⟩
 have hw26:i.op=26→ph=Zmu (Zmw i) (Zmy (fun t=>ZmD (gW Zmx m) m t.toNat) (ZaN m i.a))∧po=Zmz (Zmw i) (ZmB (fun t=>ZmD (gL m) m t.toNat) (ZaN m i.a))∧ZaN m i.a≠[]∧0≤i.a∧i.a<m.sel∧∀ t∈ZaN m i.a,0≤t∧t.toNat<k:=fun q=>⟨hph.trans (ZnX q),hpo.trans (ZoZ q),hsd q,ho.a0 (by omega),(ho.o26 q).1,fun t ht=>by have:=(ho.o26 q).2 t ht;have:=ZfT ht;omega⟩
 have hwx:i.op≠25→i.op≠26→ph=Zmw i∧(i.op≠28→po=Zmw i):=fun q1 q2=>⟨hph.trans (ZnY q1 q2),fun q3=>hpo.trans (Zo1 q1 q2 q3)⟩
 have hge:Zmw i≤ph:=by
  by_cases q1:i.op=25
  ·have:=(hw25 q1).1;have:=hTb i.a.toNat;unfold Bd at this;unfold Zmu Zmt at *;omega
  ·by_cases q2:i.op=26
   ·have h1:=(hw26 q2).1
    have h2:Bd (Zmy (fun t=>ZmD (gW Zmx m) m t.toNat) (ZaN m i.a)):=ZnE fun t _=>hTb t.toNat
    unfold Bd at h2;unfold Zmu Zmt at *;omega
   ·have:=(hwx q1 q2).1;omega
 have H25:=Zh hw25
 have H26:=Zh hw26
 have Hx:=Zh hwx
 have HGe:=Zh (And.intro hge hcb)
 obtain ⟨v,hvv⟩:∃ v,v=Zmw i:=⟨_,rfl⟩
 rw [←hvv] at HCo HGe H25 H26 Hx
 have HTb:=Zh hTb
 clear H hl hi hm hok hv ho hsd hcb hTb hw0 hb0 hph hpo hw25 hw26 hwx hge hvv X
 obtain ⟨op,ia,ib⟩:=i
 dsimp only at HI HW HCo H25 H26 Hx ⊢
 have HPay:=Zh (fun w' (H':WkW W0 w' B h m co cc ch nx lf cs)=>ZpZ HX.out H' v (by have:=HGe.out;omega) hlf)
 by_cases hl0:lf=0
 ·rw [if_pos hl0] at HPay
  clear hl0
  go_enter Tryz.func119,Tryz.ntmps119
  go_upto_region 1 with fail
  rw [←HW.out]
  have o0:=HI.out.cell 0 (v:=.int .i64 op) rfl;have o1:=HI.out.cell 1 (v:=.int .i64 ia) rfl;have o2:=HI.out.cell 2 (v:=.int .i64 ib) rfl
  go_wp2_with (first
   | (go_at_call 16;refine (HCo.out _).mono ?_;rintro e w2 ⟨rfl,hb2⟩;have H2:=Zh (H0.out.old hb2);have HU2:=Zh (HU0.out.bel hb2);clear hb2 o0 o1 o2)
   | (go_at_call 120;refine (HPay.out _ H2.out).mono ?_;rintro e w3 ⟨rfl,hw3,hu3⟩;have H3:=Zh hw3;have HU3:=Zh (HU2.out.trans hu3);clear hw3 hu3))
  go_ret
  exact ⟨2,_,_,_,rfl,H3.out,HU3.out,.inr (.inr rfl),fun q=>absurd rfl q,by have:=HGe.out;omega,by have:=HGe.out;omega,fun q=>by cases q⟩
 rw [if_neg hl0] at HPay
 have HLf:=Zh (show 0≤lf-1 by omega)
 clear hl0
 have HTr:=Zh (Zp1 op)
 by_cases e28:op=28
 ·subst e28
  have hx:=(Hx.out (by decide) (by decide)).1
  go_enter Tryz.func119,Tryz.ntmps119
  go_upto_region 1 with fail
  rw [←HW.out]
  have o0:=HI.out.cell 0 (v:=.int .i64 28) rfl;have o1:=HI.out.cell 1 (v:=.int .i64 ia) rfl;have o2:=HI.out.cell 2 (v:=.int .i64 ib) rfl
  go_wp2_with (first
   | (go_at_call 16;refine (HCo.out _).mono ?_;rintro e w2 ⟨rfl,hb2⟩;have H2:=Zh (H0.out.old hb2);have HU2:=Zh (HU0.out.bel hb2);have o0:=(hb2.cell (Zac o0)).trans o0;clear hb2 o1 o2)
   | (go_at_call 120;refine (HPay.out _ H2.out).mono ?_;rintro e w3 ⟨rfl,hw3,hu3⟩;have H3:=Zh hw3;have HU3:=Zh (HU2.out.trans hu3);have o0:=hu3.cell o0 HNe.out HNe.out;clear hw3 hu3))
  go_ret
  exact ⟨1,_,_,_,rfl,H3.out,HU3.out,.inr (.inl rfl),fun _=>HLf.out,by have:=HGe.out;omega,by have:=HGe.out;omega,fun q=>by cases q⟩
 by_cases e26:op=26
 ·subst e26
  have htr:Zp0 26=true:=by decide
  rw [htr] at HTr
  have HPk:=Zh (fun w' n (H':WkW W0 w' B h m co cc ch nx (lf-1) (cs+v)) (hn:n≤100000)=>ZpY HX.out H' n hn)
  obtain ⟨h1,h2,h3,h4,h5,h6⟩:=H26.out rfl
  obtain ⟨s,rfl⟩:∃ d:Nat,ia=d:=⟨ia.toNat,by omega⟩
  have HTg:=Zh (fun w' (hb:Below W0.heap.size W0 w')=>Zjl m h s w' (HX.out.md.old hb) HMd.out h5)
  have htl:(ZaN m s).length≤1000:=by have:=ZdG m s;have:=(ZpP HMd.out);omega
  obtain ⟨ts,hts⟩:∃ ts,ts=ZaN m s:=⟨_,rfl⟩
  rw [←hts] at HTg h1 h2 h3 h6 htl
  have hl1:ts.length≠0:=fun e=>h3 (List.eq_nil_of_length_eq_zero e)
  have hl2:¬ (ts.length:Int)=0:=by omega
  have HPp:=Zh (And.intro h1 (And.intro h2 h6))
  clear h1 h2 h3 h4 h5 h6 hts
  go_enter Tryz.func119,Tryz.ntmps119
  go_upto_region 1 with fail
  rw [←HW.out]
  have o0:=HI.out.cell 0 (v:=.int .i64 26) rfl;have o1:=HI.out.cell 1 (v:=.int .i64 s) rfl;have o2:=HI.out.cell 2 (v:=.int .i64 ib) rfl
  go_upto_region 11 with (first
   | (go_at_call 16;refine (HCo.out _).mono ?_;rintro e w2 ⟨rfl,hb2⟩;have H2:=Zh (H0.out.old hb2);have HU2:=Zh (HU0.out.bel hb2);have o0:=(hb2.cell (Zac o0)).trans o0;have o1:=(hb2.cell (Zac o1)).trans o1;clear hb2 o2)
   | (go_at_call 120;refine (HPay.out _ H2.out).mono ?_;rintro e w3 ⟨rfl,hw3,hu3⟩;have H3:=Zh hw3;have HU3:=Zh (HU2.out.trans hu3);have o0:=hu3.cell o0 HNe.out HNe.out;have o1:=hu3.cell o1 HNe.out HNe.out;clear hw3 hu3)
   | (go_at_call 164;refine (HTr.out _).mono ?_;rintro e w4 ⟨rfl,hb4⟩;have H4:=Zh (H3.out.old hb4);have HU4:=Zh (HU3.out.bel hb4);have o0:=(hb4.cell (Zac o0)).trans o0;have o1:=(hb4.cell (Zac o1)).trans o1;clear hb4)
   | (go_at_call 121;refine (HPk.out _ 9 H4.out (by decide)).mono ?_;rintro e w5 ⟨k5,nx5,rfl,-,-,hw5,hu5⟩;have H5:=Zh hw5;have HU5:=Zh (HU4.out.trans hu5);have o0:=hu5.cell o0 HNe.out HNe.out;have o1:=hu5.cell o1 HNe.out HNe.out;clear hw5 hu5))
  all_goals try (go_ret;exact ⟨1,_,_,_,rfl,H5.out,HU5.out,.inr (.inl rfl),fun _=>HLf.out,by have:=HGe.out;omega,by have:=HGe.out;omega,fun q=>by cases q⟩)
  obtain ⟨-,b0,b1,b2,b3,-,-,-,-⟩:=H5.out.cells
  have HC5:=Zh (show Cs [(⟨B,0,none⟩,.slice h.co m.cl.length h.cc),(⟨B,1,none⟩,.slice h.so m.st.length h.sc),(⟨B,2,none⟩,.slice h.eo m.me.length h.ec),(⟨B,3,none⟩,.int .i64 m.sel),(⟨w.heap.size,1,none⟩,.int .i64 s)] w5 from ⟨b0,b1,b2,b3,o1,trivial⟩)
  refine rO (Cs [(⟨B,0,none⟩,.slice h.co m.cl.length h.cc),(⟨B,1,none⟩,.slice h.so m.st.length h.sc),(⟨B,2,none⟩,.slice h.eo m.me.length h.ec),(⟨B,3,none⟩,.int .i64 m.sel),(⟨w.heap.size,1,none⟩,.int .i64 s)]) (oL [0,1,2,3,4,5,106,7,8,9,10,11]) ⟨b0,b1,b2,b3,o1,trivial⟩ ?_
  clear b0 b1 b2 b3 o1 o0
  repeat refine pO ?_
  refine oO fun Kv hK=>?_
  go_simp
  refine (HTg.out _ (H5.out.old (Below.refl _ _).drew).bl).mono ?_
  rintro e w6 ⟨⟨tao,tc,rfl,htr6,hfr6⟩,hb6⟩
  have HB6:=Zh (Zaf (Below.refl w5.heap.size w5).drew hb6)
  have HTr6:=Zh htr6
  have HFr6:=Zh (show Lie (·≠B) tao from fun a ha=>by have h1:=hfr6 a ha;have h2:=H5.out.cells.1;have h3:w5.heap.size≤a.block:=h1;omega)
  refine hK _ _ ⟨Cs.keeps (Znv.of HB6.out) HC5.out,?_⟩
  have H6:=Zh (H5.out.old HB6.out)
  have HU6:=Zh (HU5.out.bel HB6.out)
  clear hK Kv hb6 htr6 hfr6
  repeat refine pO ?_
  refine Zd5 ?_
  have HPk2:=Zh (fun w' (H':WkW W0 w' B h m co cc ch nx5 (lf-1) (cs+v))=>ZpY HX.out H' (ts.length:Int) (by omega))
  go_upto_region 15 with (go_at_call 121;refine (HPk2.out _ H6.out).mono ?_;rintro e w7 ⟨k7,nx7,rfl,p0,p1,hw7,hu7⟩;obtain ⟨kk,rfl⟩:∃ d:Nat,k7=d:=⟨k7.toNat,(by omega)⟩;have hkk:kk<ts.length:=(by omega);have hkk2:(kk:Int) < ts.length:=(by omega);have HTr7:=Zh (Zoo HTr6.out hu7 HFr6.out);obtain ⟨td,rfl,t0⟩:=ZaB HTr7.out hkk;obtain ⟨tt,htt⟩:∃ x,x=ts.getD kk 0:=⟨_,rfl⟩;rw [←htt] at t0;have HTt:=Zh htt;have H7:=Zh hw7;have HU7:=Zh (HU6.out.trans hu7);have HKk:=Zh hkk;clear hw7 hu7 p0 p1 hkk htt)
  have htm:=ZpO HKk.out
  rw [←HTt.out] at htm
  obtain ⟨t0',t1'⟩:=HPp.out.2.2 _ htm
  obtain ⟨j,rfl⟩:∃ d:Nat,tt=d:=⟨tt.toNat,by omega⟩
  rw [Int.toNat_natCast] at t1'
  have hjm:j<m.me.length:=by omega
  have hjm2:(j:Int) < m.me.length:=by omega
  have hj0:¬ (j:Int) < 0:=by omega
  obtain ⟨ea,he,-,-,-,-,-,-,e6⟩:=HX.out.md.mth hjm
  rw [show (m.me.getD j default).k.length=(cdM m j).length from rfl] at e6
  have HE6:=Zh e6
  have HEa:=Zh he
  have HLj:=Zh (HL.out j t1')
  have hmw:ZmD (gW Zmx m) m j=WA (gH m) (cdM m j) 0 (cdM m j).length 0:=ZoJ HMd.out Zmx hjm
  have hml:ZmD (gL m) m j=WA (gO m) (cdM m j) 0 (cdM m j).length 0:=Zpj HMd.out hjm
  have HTm:=Zh (And.intro htm (And.intro hmw hml))
  clear htm t0' he e6 hmw hml t0 hkk2
  go_upto_region 17 with fail
  have hcs:∀ (w':World) (nx' lf' cs':Int),WkW W0 w' B h m co cc ch nx' lf' cs'→Cs [(⟨B,2,none⟩,.slice (some ea) m.me.length h.ec),(⟨(ea.add (j*7)).block,(ea.add (j*7)).off+6,none⟩,.slice (h.e j).ko (cdM m j).length (h.e j).kc)] w':=fun w' nx' lf' cs' Hw=>⟨by have:=Hw.bk.cell 2 (v:=.slice h.eo m.me.length h.ec) rfl;rwa [HEa.out] at this,(Hw.bl.cell (Zac HE6.out)).trans HE6.out,trivial⟩
  have HCs:=Zh hcs
  refine rO (Cs [(⟨B,2,none⟩,.slice (some ea) m.me.length h.ec),(⟨(ea.add (j*7)).block,(ea.add (j*7)).off+6,none⟩,.slice (h.e j).ko (cdM m j).length (h.e j).kc)]) (oL [0,1,2,3,4,5,6,7,8,9,10,11,12,13,14,15,16,17,18,19,120,21]) (hcs _ _ _ _ (H7.out.old (Below.refl _ _).drew)) ?_
  clear hcs
  repeat refine pO ?_
  refine oO fun Kv hK=>?_
  go_simp
  refine (HLj.out _ _ _ _ (H7.out.old (Below.refl _ _).drew) HLf.out).mono ?_
  rintro e w9 ⟨how,nx9,lf9,cs9,rfl,hw9,hu9,hp9⟩
  refine hK _ _ ⟨HCs.out _ _ _ _ hw9,?_⟩
  have H9:=Zh hw9
  have HU9:=Zh ((HU7.out.bel (Below.refl _ _).drew).trans hu9)
  have HP9:=Zh hp9
  clear hK Kv hw9 hu9 hp9
  repeat refine pO ?_
  refine Zd5 ?_
  go_wp2
  go_ret
  refine ⟨how,nx9,lf9,cs9,rfl,H9.out,HU9.out,HP9.out.add rfl (by have:=HGe.out;omega) (by have:=H9.out.iv;omega) hiv0.2.2.2.2.1 ?_ ?_⟩
  ·rw [HPp.out.1]
   have h1:ZmD (gW Zmx m) m (j:Int).toNat≤_:=Zqq (T:=fun t=>ZmD (gW Zmx m) m t.toNat) HTm.out.1
   rw [Int.toNat_natCast,HTm.out.2.1] at h1
   unfold Zmu;omega
  ·intro hlo
   rw [HPp.out.2.1]
   have h1:=Zqr (T:=fun t=>ZmD (gL m) m t.toNat) HTm.out.1 (by show 0≤ZmD (gL m) m (j:Int).toNat;rw [Int.toNat_natCast,HTm.out.2.2];exact hlo)
   rw [Int.toNat_natCast,HTm.out.2.2] at h1
   have:=HGe.out
   unfold Zmz Zmu Zmt
   split<;>omega
 by_cases e25:op=25
 ·subst e25
  have htr:Zp0 25=false:=by decide
  rw [htr] at HTr
  obtain ⟨h1,h2,h3,h4⟩:=H25.out rfl
  obtain ⟨j,rfl⟩:∃ d:Nat,ia=d:=⟨ia.toNat,by omega⟩
  rw [Int.toNat_natCast] at h1 h2 h3
  have hjm:j<m.me.length:=by omega
  have hjm2:(j:Int) < m.me.length:=by omega
  have hj0:¬ (j:Int) < 0:=by omega
  obtain ⟨ea,he,-,-,-,-,-,-,e6⟩:=HX.out.md.mth hjm
  rw [show (m.me.getD j default).k.length=(cdM m j).length from rfl] at e6
  have HE6:=Zh e6
  have HEa:=Zh he
  have HLj:=Zh (HL.out j h3)
  have hmw:ZmD (gW Zmx m) m j=WA (gH m) (cdM m j) 0 (cdM m j).length 0:=ZoJ HMd.out Zmx hjm
  have hml:ZmD (gL m) m j=WA (gO m) (cdM m j) 0 (cdM m j).length 0:=Zpj HMd.out hjm
  have HPp:=Zh (And.intro h1 (And.intro h2 (And.intro hmw hml)))
  clear h1 h2 h4 he e6 hmw hml
  go_enter Tryz.func119,Tryz.ntmps119
  go_upto_region 1 with fail
  rw [←HW.out]
  have o0:=HI.out.cell 0 (v:=.int .i64 25) rfl;have o1:=HI.out.cell 1 (v:=.int .i64 j) rfl;have o2:=HI.out.cell 2 (v:=.int .i64 ib) rfl
  go_upto_region 17 with (first
   | (go_at_call 16;refine (HCo.out _).mono ?_;rintro e w2 ⟨rfl,hb2⟩;have H2:=Zh (H0.out.old hb2);have HU2:=Zh (HU0.out.bel hb2);have o0:=(hb2.cell (Zac o0)).trans o0;have o1:=(hb2.cell (Zac o1)).trans o1;clear hb2 o2)
   | (go_at_call 120;refine (HPay.out _ H2.out).mono ?_;rintro e w3 ⟨rfl,hw3,hu3⟩;have H3:=Zh hw3;have HU3:=Zh (HU2.out.trans hu3);have o0:=hu3.cell o0 HNe.out HNe.out;have o1:=hu3.cell o1 HNe.out HNe.out;clear hw3 hu3)
   | (go_at_call 164;refine (HTr.out _).mono ?_;rintro e w4 ⟨rfl,hb4⟩;have H4:=Zh (H3.out.old hb4);have HU4:=Zh (HU3.out.bel hb4);have o0:=(hb4.cell (Zac o0)).trans o0;have o1:=(hb4.cell (Zac o1)).trans o1;clear hb4))
  have hcs:∀ (w':World) (nx' lf' cs':Int),WkW W0 w' B h m co cc ch nx' lf' cs'→Cs [(⟨B,2,none⟩,.slice (some ea) m.me.length h.ec),(⟨(ea.add (j*7)).block,(ea.add (j*7)).off+6,none⟩,.slice (h.e j).ko (cdM m j).length (h.e j).kc)] w':=fun w' nx' lf' cs' Hw=>⟨by have:=Hw.bk.cell 2 (v:=.slice h.eo m.me.length h.ec) rfl;rwa [HEa.out] at this,(Hw.bl.cell (Zac HE6.out)).trans HE6.out,trivial⟩
  have HCs:=Zh hcs
  refine rO (Cs [(⟨B,2,none⟩,.slice (some ea) m.me.length h.ec),(⟨(ea.add (j*7)).block,(ea.add (j*7)).off+6,none⟩,.slice (h.e j).ko (cdM m j).length (h.e j).kc)]) (oL [0,1,2,3,4,5,6,7,8,9,10,11,12,13,14,15,16,17,18,19,120,21]) (hcs _ _ _ _ (H4.out.old (Below.refl _ _).drew)) ?_
  clear hcs o0 o1
  repeat refine pO ?_
  refine oO fun Kv hK=>?_
  go_simp
  refine (HLj.out _ _ _ _ (H4.out.old (Below.refl _ _).drew) HLf.out).mono ?_
  rintro e w9 ⟨how,nx9,lf9,cs9,rfl,hw9,hu9,hp9⟩
  refine hK _ _ ⟨HCs.out _ _ _ _ hw9,?_⟩
  have H9:=Zh hw9
  have HU9:=Zh ((HU4.out.bel (Below.refl _ _).drew).trans hu9)
  have HP9:=Zh hp9
  clear hK Kv hw9 hu9 hp9
  repeat refine pO ?_
  refine Zd5 ?_
  go_wp2
  go_ret
  refine ⟨how,nx9,lf9,cs9,rfl,H9.out,HU9.out,HP9.out.add rfl (by have:=HGe.out;omega) (by have:=H9.out.iv;omega) hiv0.2.2.2.2.1 ?_ ?_⟩
  ·rw [HPp.out.1,HPp.out.2.2.1];exact Int.le_refl _
  ·intro hlo
   rw [HPp.out.2.1,HPp.out.2.2.2]
   have:=HGe.out
   unfold Zmz Zmu Zmt
   split<;>omega
 have hx:=Hx.out e25 e26
 have hxo:=hx.2 e28
 have hxh:=hx.1
 have HXx:=Zh (And.intro hxh hxo)
 have HPk:=Zh (fun w' n (H':WkW W0 w' B h m co cc ch nx (lf-1) (cs+v)) (hn:n≤100000)=>ZpY HX.out H' n hn)
 clear hx hxo hxh
 rcases htb:Zp0 op with _|_
 all_goals
  rw [htb] at HTr
  clear htb
  go_enter Tryz.func119,Tryz.ntmps119
  go_upto_region 1 with fail
  rw [←HW.out]
  have o0:=HI.out.cell 0 (v:=.int .i64 op) rfl;have o1:=HI.out.cell 1 (v:=.int .i64 ia) rfl;have o2:=HI.out.cell 2 (v:=.int .i64 ib) rfl
  go_wp2_with (first
   | (go_at_call 16;refine (HCo.out _).mono ?_;rintro e w2 ⟨rfl,hb2⟩;have H2:=Zh (H0.out.old hb2);have HU2:=Zh (HU0.out.bel hb2);have o0:=(hb2.cell (Zac o0)).trans o0;clear hb2 o1 o2)
   | (go_at_call 120;refine (HPay.out _ H2.out).mono ?_;rintro e w3 ⟨rfl,hw3,hu3⟩;have H3:=Zh hw3;have HU3:=Zh (HU2.out.trans hu3);have o0:=hu3.cell o0 HNe.out HNe.out;clear hw3 hu3)
   | (go_at_call 164;refine (HTr.out _).mono ?_;rintro e w4 ⟨rfl,hb4⟩;have H4:=Zh (H3.out.old hb4);have HU4:=Zh (HU3.out.bel hb4);have o0:=(hb4.cell (Zac o0)).trans o0;clear hb4)
   | (go_at_call 121;refine (HPk.out _ 9 H4.out (by decide)).mono ?_;rintro e w5 ⟨k5,nx5,rfl,-,-,hw5,hu5⟩;have H5:=Zh hw5;have HU5:=Zh (HU4.out.trans hu5);have o0:=hu5.cell o0 HNe.out HNe.out;clear hw5 hu5))
  all_goals
   go_ret
   first
   | exact ⟨1,_,_,_,rfl,H5.out,HU5.out,.inr (.inl rfl),fun _=>HLf.out,by have:=HGe.out;omega,by have:=HGe.out;omega,fun q=>by cases q⟩
   | exact ⟨0,_,_,_,rfl,H5.out,HU5.out,.inl rfl,fun _=>HLf.out,by have:=HGe.out;omega,by have:=HGe.out;omega,fun _=>by have:=HGe.out;have:=HXx.out;omega⟩
   | exact ⟨0,_,_,_,rfl,H4.out,HU4.out,.inl rfl,fun _=>HLf.out,by have:=HGe.out;omega,by have:=HGe.out;omega,fun _=>by have:=HGe.out;have:=HXx.out;omega⟩
end
end
section
open Go.RowKit
def Zqt (w:World) (hi lo:Int):Ending→World→Prop:=fun e w'=>∃ how cs,e=.returned (.tuple #[.int .i64 how,.int .i64 cs])∧(0≤cs∧cs≤hi∧(how=0→0≤lo∧lo≤cs))∧Below w.heap.size w w'
section
variable {m:Md}{h:Hd}{co:Option Addr}{cc:Nat}{ch:List Int}
theorem Zqu {W0:World}{B:Nat} (X:Wkx W0 B h m co cc ch) (k:Nat):k<m.me.length→∀ a b,Seg (cdM m k) a b→Zp5 W0 B h m co cc ch k a b:=by
 have hm:=(ZpT X.mo).1
 induction k using Nat.strongRecOn with
 |ind k ihk=>
  intro hk
  have hpl:∀ i∈cdM m k,Zp8 W0 B h m co cc ch i:=fun i hi=>Zqs X hk (fun j hj=>ihk j hj (by omega) 0 _ (Zmg (ZfN hm (show j<m.me.length by omega)).n)) hi
  have:∀ n a b,(cdM m k).length-a≤n→Seg (cdM m k) a b→Zp5 W0 B h m co cc ch k a b:=by
   intro n
   induction n with
   | zero=>intro a b hn hs;exact Zqe X hk hs (fun p h1 h2 _=>by have:=(Zme hs);omega)
   | succ n ih=>intro a b hn hs;exact Zqe X hk hs (fun p h1 h2 hsp=>Zqp X hk hsp h2 (fun a' b' h3 h4=>ih a' b' (by omega) h4) hpl)
  exact fun a b hs=>this _ a b (Nat.le_refl _) hs
theorem Zqv {w:World} (H:Zay w h m) (hr:Zar w co cc ch) (hl:ch.length≤1000) (hmo:(Zl6 m).2.2=0) {k:Nat} (hk:k<m.me.length):Calls Tryz.prog 23 #[.agg #[.slice h.co m.cl.length h.cc,.slice h.so m.st.length h.sc,.slice h.eo m.me.length h.ec,.int .i64 m.sel],.int .i64 k,.slice co ch.length cc,.int .i64 2000] w (Zqt w (ZmD (gW Zmx m) m k) (ZmD (gL m) m k)):=by
 have hm:=(ZpT hmo).1
 have hk2:(k:Int) < m.me.length:=by omega
 have hk0:¬ (k:Int) < 0:=by omega
 have hcl:(cdM m k).length≤120:=(ZfN hm hk).z.2.2
 obtain ⟨ea,he,-,-,-,-,-,-,e6⟩:=H.mth hk
 rw [show (m.me.getD k default).k.length=(cdM m k).length from rfl] at e6
 obtain ⟨w0,hw0⟩:∃ w0,w0=w.alloc (.cells #[.slice h.co m.cl.length h.cc,.slice h.so m.st.length h.sc,.slice h.eo m.me.length h.ec,.int .i64 m.sel] 26):=⟨_,rfl⟩
 have hb0:Below w.heap.size w w0:=by rw [hw0];exact bE
 have hz0:w0.heap.size=w.heap.size+1:=by rw [hw0];simp only [World.alloc,Array.size_push]
 have hx:Blk w0 w.heap.size #[.slice h.co m.cl.length h.cc,.slice h.so m.st.length h.sc,.slice h.eo m.me.length h.ec,.int .i64 m.sel] 26:=by rw [hw0];exact Blk.new _ _ _
 obtain ⟨w1,hw1⟩:∃ w1,w1=w0.alloc (.cells (wkC h m co cc ch 0 2000 0) 85):=⟨_,rfl⟩
 have hb1:Below w0.heap.size w0 w1:=by rw [hw1];exact bE
 have hbw:Below w.heap.size w w1:=Zaf hb0 hb1
 have hwk:WkW w0 w1 w0.heap.size h m co cc ch 0 2000 0:=⟨by rw [hw1];exact Blk.new _ _ _,hb1,by omega⟩
 have X:Wkx w0 w0.heap.size h m co cc ch:=⟨Nat.le_refl _,H.old hb0,hr.old hb0,hl,hmo⟩
 have hL:=Zqu X k hk 0 _ (Zmg (ZfN hm hk).n) w1 0 2000 0 hwk (by decide)
 rw [←show ZmD (gW Zmx m) m k=WA (gH m) (cdM m k) 0 (cdM m k).length 0 from ZoJ hm Zmx hk,←show ZmD (gL m) m k=WA (gO m) (cdM m k) 0 (cdM m k).length 0 from Zpj hm hk] at hL
 rw [hz0] at hL
 have HL:=Zh hL
 have HB0:=Zh hb0
 have HZ:=Zh hz0
 have HBw:=Zh hbw
 have x2:=(hx.old hb1).cell 2 (v:=.slice h.eo m.me.length h.ec) rfl
 have e6:=(hbw.cell (Zac e6)).trans e6
 unfold wkC at hw1
 rw [he] at x2 hw0 hw1 ⊢
 have HW0:=Zh hw0
 have HW1:=Zh hw1
 clear hw0 hw1 hx hwk X hL hz0 hb0 hb1 hbw H hr hmo hm
 go_enter Tryz.func23,Tryz.ntmps23
 go_upto_region 2 with fail
 rw [←HW0.out,←HW1.out]
 go_upto_region 4 with (go_at_call 57;refine HL.out.mono ?_;rintro e w5 ⟨how,nx,lf,cs,rfl,hw5,hu5,hp5⟩;have H5:=Zh hw5;have HP5:=Zh hp5;obtain ⟨-,-,-,-,-,-,-,-,c7⟩:=hw5.cells;clear hw5 hu5 hp5 x2 e6)
 refine rO (Cs [(⟨w.heap.size+1,7,none⟩,.int .i64 cs)]) (oL [0,1,2,3,4,5,6]) ⟨c7,trivial⟩ ?_
 clear c7
 repeat refine pO ?_
 refine Zd5 ?_
 go_wp2
 go_ret2
 exact ⟨how,cs,rfl,⟨H5.out.iv.2.2.2.2.1,by have:=HP5.out.2.2.2.1;omega,fun q=>by have:=HP5.out.2.2.2.2 q;omega⟩,Zaf HB0.out (Zaf H5.out.bl (Below.refl _ _).drew)⟩
end
end
section
open Go.RowKit
theorem Zqw {m:Md}{k:Int} (h:ZoO m k=true):((ZoR m k).2=0∧(ZoR m k).1=ZmD (gW Zmx m) m k.toNat∧ZmD (gW Zmx m) m k.toNat≤1000000000)∨((ZoR m k).2=6∧1000000000<ZmD (gW Zmx m) m k.toNat):=by
 unfold ZoR
 rw [if_pos h]
 by_cases h1:1000000000<ZmD (gW Zmx m) m k.toNat
 ·rw [if_pos h1];exact .inr ⟨rfl,h1⟩
 ·rw [if_neg h1];exact .inl ⟨rfl,rfl,by omega⟩
attribute [local go_sem] ZpJ
end
section
open Go.RowKit
theorem Zqx {w:World}{a:Option Addr}{cap:Nat}{zs:List Int} (h:Sl .i64 w a zs∧(a=none→cap=0)):Zar w a cap zs:=by
 refine ⟨?_,fun e=>⟨?_,h.2 e⟩,fun j u hu=>?_⟩
 ·rw [Zat,List.length_map];show zs.length=zs.length*1;omega
 ·by_cases hz:zs.length=0
  ·exact hz
  ·obtain ⟨ad,h1,_⟩:=h.1 0 (by omega)
   rw [e] at h1;cases h1
 ·rw [Zat,List.getElem?_map] at hu
  have hj:j<zs.length:=by
   by_cases hj:j<zs.length
   ·exact hj
   ·rw [List.getElem?_eq_none (by omega)] at hu;cases hu
  obtain ⟨ad,h1,h2⟩:=h.1 j hj
  rw [List.getElem?_eq_getElem hj] at hu
  cases hu
  refine ⟨ad,h1,?_⟩
  rw [h2,List.getD_eq_getElem?_getD,List.getElem?_eq_getElem hj];rfl
theorem Zqy {m:Md}{k:Int} (h:ZoO m k=true) (h0:0≤ZmD (gL m) m k.toNat) (h1:ZmD (gL m) m k.toNat≤1000000000):Zpl m k=(ZmD (gL m) m k.toNat,0):=by
 unfold Zpl
 rw [if_pos h,if_neg (by omega),if_neg (by omega)]
theorem Zqz (m:Md) (h:Hd) (k:Int) (co:Option Addr) (cc:Nat) (ch:List Int) (w:World) (H:Zay w h m) (hr:Zar w co cc ch):Calls Tryz.prog 6 #[.agg #[.slice h.co m.cl.length h.cc,.slice h.so m.st.length h.sc,.slice h.eo m.me.length h.ec,.int .i64 m.sel],.int .i64 k,.slice co ch.length cc] w (Ret w (.bool true)):=by
 obtain ⟨w0,hw0⟩:∃ w0,w0=w.alloc (.cells #[.slice h.co m.cl.length h.cc,.slice h.so m.st.length h.sc,.slice h.eo m.me.length h.ec,.int .i64 m.sel] 26):=⟨_,rfl⟩
 have HB:=Zh (show Below w.heap.size w w0 by rw [hw0];exact bE)
 have HX:=Zh (show Blk w0 w.heap.size #[.slice h.co m.cl.length h.cc,.slice h.so m.st.length h.sc,.slice h.eo m.me.length h.ec,.int .i64 m.sel] 26 by rw [hw0];exact Blk.new _ _ _)
 have HM:=Zh (H.old HB.out)
 have HRw:=Zh (hr.old HB.out)
 have HW:=Zh hw0
 clear hw0 H hr
 rcases hrd:ZoO m k with _|_
 ·have HRd:=Zh hrd
  clear hrd
  go_enter Tryz.func6,Tryz.ntmps6
  go_upto_region 1 with fail
  rw [←HW.out]
  have x0:=HX.out.cell 0 (v:=.slice h.co m.cl.length h.cc) rfl
  have x1:=HX.out.cell 1 (v:=.slice h.so m.st.length h.sc) rfl
  have x2:=HX.out.cell 2 (v:=.slice h.eo m.me.length h.ec) rfl
  have x3:=HX.out.cell 3 (v:=.int .i64 m.sel) rfl
  go_wp2_with (first
   | (go_at_call 18;refine (Zqi m h k _ HM.out).mono ?_;rintro e w1 ⟨⟨b,rfl,hfb⟩,hb1⟩;obtain rfl:b=false:=(by cases b;exact rfl;exact absurd (hfb rfl) (by rw [HRd.out];decide));have HB1:=Zh hb1;clear hfb hb1 x0 x1 x2 x3)
   | (go_at_call 12;refine (ZpD _).mono ?_;rintro e w2 ⟨rfl,hb2⟩))
  go_ret
  exact ZcT rfl (Zaf HB.out (Zaf HB1.out hb2))
 obtain ⟨hm,hk0,hk1⟩:=ZoP hrd
 have hmo:(Zl6 m).2.2=0:=Zqg hrd
 obtain ⟨k,rfl⟩:∃ d:Nat,k=d:=⟨k.toNat,by omega⟩
 have hkl:k<m.me.length:=by omega
 have HF:=Zh (Zqi m h k w0 HM.out)
 by_cases hl:(ch.length:Int) > 1000
 ·clear hrd hm hk0 hk1 hmo hkl
  go_enter Tryz.func6,Tryz.ntmps6
  go_upto_region 1 with fail
  rw [←HW.out]
  have x0:=HX.out.cell 0 (v:=.slice h.co m.cl.length h.cc) rfl
  have x1:=HX.out.cell 1 (v:=.slice h.so m.st.length h.sc) rfl
  have x2:=HX.out.cell 2 (v:=.slice h.eo m.me.length h.ec) rfl
  have x3:=HX.out.cell 3 (v:=.int .i64 m.sel) rfl
  go_wp2_with (first
   | (go_at_call 18;refine HF.out.mono ?_;rintro e w1 ⟨⟨b,rfl,-⟩,hb1⟩;have HB1:=Zh hb1;clear hb1 x0 x1 x2 x3)
   | (go_at_call 12;refine (ZpD _).mono ?_;rintro e w2 ⟨rfl,hb2⟩))
  all_goals
   go_ret
   exact ZcT rfl (Zaf HB.out (Zaf HB1.out hb2))
 obtain ⟨⟨a,e0⟩,hq1⟩:∃ q,q=ZoR m k:=⟨_,rfl⟩
 obtain ⟨⟨c,f0⟩,hq2⟩:∃ q,q=Zpl m k:=⟨_,rfl⟩
 have HWo:=Zh (show ∀ w',Below w0.heap.size w0 w'→_ from fun w' hb=>by have:=ZoT m h k w' (HM.out.old hb);rwa [←hq1] at this)
 have HLe:=Zh (show ∀ w',Below w0.heap.size w0 w'→_ from fun w' hb=>by have:=Zpm m h k w' (HM.out.old hb);rwa [←hq2] at this)
 have HPt:=Zh (show ∀ w',Below w0.heap.size w0 w'→_ from fun w' hb=>Zqv (HM.out.old hb) (HRw.out.old hb) (by omega) hmo hkl)
 have htw:=Zqw hrd
 rw [←hq1,Int.toNat_natCast] at htw
 have hle:=Zqy (k:=(k:Int)) hrd
 rw [←hq2,Int.toNat_natCast] at hle
 have HLw:=Zh hle
 clear hrd hm hk0 hk1 hmo hkl hq1 hq2 hle
 go_enter Tryz.func6,Tryz.ntmps6
 go_upto_region 1 with fail
 rw [←HW.out]
 have x0:=HX.out.cell 0 (v:=.slice h.co m.cl.length h.cc) rfl
 have x1:=HX.out.cell 1 (v:=.slice h.so m.st.length h.sc) rfl
 have x2:=HX.out.cell 2 (v:=.slice h.eo m.me.length h.ec) rfl
 have x3:=HX.out.cell 3 (v:=.int .i64 m.sel) rfl
 go_upto_region 4 with (first
  | (go_at_call 18;refine HF.out.mono ?_;rintro e w1 ⟨⟨b,rfl,-⟩,hb1⟩;have HB1:=Zh hb1;have x0:=(hb1.cell (Zac x0)).trans x0;have x1:=(hb1.cell (Zac x1)).trans x1;have x2:=(hb1.cell (Zac x2)).trans x2;have x3:=(hb1.cell (Zac x3)).trans x3;clear hb1)
  | (go_at_call 23;refine (HPt.out _ HB1.out).mono ?_;rintro e w3 ⟨how,cs,rfl,hc,hb3⟩;have HC:=Zh hc;have HB3:=Zh (Zaf HB1.out hb3);have x0:=(hb3.cell (Zac x0)).trans x0;have x1:=(hb3.cell (Zac x1)).trans x1;have x2:=(hb3.cell (Zac x2)).trans x2;have x3:=(hb3.cell (Zac x3)).trans x3;clear hb3 hc)
  | (go_at_call 12;refine (ZpD _).mono ?_;rintro e w2 ⟨rfl,hb2⟩))
 rotate_left
 ·go_ret
  exact ZcT rfl (Zaf HB.out (Zaf HB1.out hb2))
 have hall:(e0=6)∨(e0=0∧¬ cs > a∧how≠0)∨(e0=0∧¬ cs > a∧how=0∧f0=0∧cs ≥ c):=by
  have hc:=HC.out
  rcases htw with ⟨h1,h2,h3⟩|⟨h1,_⟩
  ·by_cases hh:how=0
   ·have h4:=hc.2.2 hh
    have h5:=HLw.out h4.1 (by omega)
    obtain ⟨h6,h7⟩:=Prod.mk.inj h5
    exact .inr (.inr ⟨h1,by omega,hh,h7,by omega⟩)
   ·exact .inr (.inl ⟨h1,by omega,hh⟩)
  ·exact .inl h1
 clear htw HLw
 rcases hall with rfl|⟨rfl,h1,h2⟩|⟨rfl,h1,rfl,rfl,h4⟩
 all_goals
  go_wp2_with (first
   | (go_at_call 17;refine (HWo.out _ HB3.out).mono ?_;rintro e w4 ⟨rfl,hb4⟩;have HB4:=Zh (Zaf HB3.out hb4);have x0:=(hb4.cell (Zac x0)).trans x0;have x1:=(hb4.cell (Zac x1)).trans x1;have x2:=(hb4.cell (Zac x2)).trans x2;have x3:=(hb4.cell (Zac x3)).trans x3;clear hb4)
   | (go_at_call 24;refine (HLe.out _ HB4.out).mono ?_;rintro e w5 ⟨rfl,hb5⟩;have HB5:=Zh (Zaf HB4.out hb5);clear hb5 x0 x1 x2 x3)
   | (go_at_call 12;refine (ZpD _).mono ?_;rintro e w6 ⟨rfl,hb6⟩))
  all_goals
   go_ret
   exact ZcT rfl (Zaf HB.out (Zaf HB5.out hb6))
end
end Go.Proofs.YtfkbfjhocmbneaaGreat
