/- Joined texts. The first: In a module without errors every send has a target; the reference's table is the program's. -/
import Derived.Test.YtfkbfjhocmbneaaGreatC30
set_option linter.all false
set_option linter.unusedVariables false
set_option linter.unusedSimpArgs false
set_option maxRecDepth 100000
set_option maxHeartbeats 8000000
namespace Go.Proofs.YtfkbfjhocmbneaaGreat
theorem kC1{p:Prop}(h:p:=by
 go_wp2_with (first
  | (go_at_call 46;refine HA.out.mono ?_;rintro e w1 ⟨rfl,hb1⟩;have HB1:=Zh (Zaf HB0.out hb1);have HX1:=Zh (HX0.out.old hb1);have x0:=HX1.out.cell 0 (v:=.slice h.co m.cl.length h.cc) rfl;have x1:=HX1.out.cell 1 (v:=.slice h.so m.st.length h.sc) rfl;have x2:=HX1.out.cell 2 (v:=.slice h.eo m.me.length h.ec) rfl;have x3:=HX1.out.cell 3 (v:=.int .i64 m.sel) rfl;clear hb1)
  | (go_at_call 55;refine (HT.out _ HB1.out).mono ?_;rintro e w2 ⟨⟨B,g,rfl,hR⟩,hb2⟩;have HB2:=Zh (Zaf HB1.out hb2);have t6:=hR.tb.cell 6 (v:=.slice (some ⟨g,0,none⟩) m.me.length m.me.length) rfl;have lB:=hR.tb.lt;have n0:=Zon hR.nb (k:=k) (by rw [ZmE];exact hkl);rw [HV.out] at n0;clear hb2 hR x0 x1 x2 x3)
  | (go_at_call 59;refine (Zp3 v _).mono ?_;rintro e w3 ⟨rfl,hb3⟩;rw [←HE.out.1,←HE.out.2]))
 go_ret2
 exact Zhg rfl rfl (Zaf HB2.out hb3)):p:=h
theorem kC2{p:Prop}(h:p:=by
 repeat refine pO ?_
 refine oO fun Kv hK=>?_
 go_simp
 refine (HCl.out _ HBr.out.drew).mono ?_
 rintro e w2 ⟨rfl,hb2⟩
 have HB2:=Zh (Zaf (Below.refl wo.heap.size wo).drew hb2)
 refine hK _ _ ⟨Cs.keeps (Znv.of HB2.out) HCs.out,?_⟩
 clear hK Kv hb2
 repeat refine pO ?_
 refine Zd5 ?_
 go_wp2
 exact ⟨⟨k+1,by omega,rfl,Zaf HBr.out HB2.out⟩,by simp [intOf];omega⟩):p:=h
theorem kC4{p:Prop}(h:p:=by
 go_wp2_with (go_at_call 46;refine HA.out.mono ?_;rintro e w1 ⟨rfl,hb1⟩)
 go_ret2
 exact Zhg (ZcY HE.out.1.symm) (ZcY HE.out.2.symm) (Zaf HB0.out hb1)):p:=h
section
open Go.RowKit
theorem ZqQ {m:Md}{lo:List Ty}{i:In3}{s:Ps} (h:(ZeC m lo i s).1=0) (h26:i.op=26):ZaN m i.a≠[]:=fun e=>by
 unfold ZeC at h
 rw [if_neg (by omega),if_neg (by omega)] at h
 have hp:∀ l,ZeB m lo i l=none:=fun l=>by
  unfold ZeB Zew
  simp [h26,e]
 simp only [hp] at h
 split at h<;>simp at h
theorem ZqR {m:Md}{lo:List Ty}{r:Ty}:∀ (l:List In3) (n:Nat) (s:Ps),(ZeE m lo r n l s).2.2=0→ZpR m l
 | [],_,_,_=>fun i hi=>by simp at hi
 | i :: l,n,s,h=>by
  unfold ZeE at h
  by_cases h1:(ZeC m lo i s).1=0
  ·rw [if_pos h1] at h
   dsimp only at h
   intro j hj
   rcases List.mem_cons.1 hj with rfl|hj
   ·exact ZqQ h1
   ·refine ZqR (lo:=lo) (r:=r) l (n+1) (ZeC m lo i s).2 ?_ j hj
    split at h
    ·assumption
    ·exact h
  ·rw [if_neg h1] at h
   exact absurd h h1
theorem ZqS {m:Md}:∀ (n k:Nat),(Zl5 m n k).2.2=0→∀ j,k≤j→j<k+n→(ZeG m j).2.2=0
 | 0,k,_,j,h1,h2=>by omega
 | n+1,k,h,j,h1,h2=>by
  unfold Zl5 at h
  by_cases h3:(ZeG m k).2.2=0
  ·rw [if_pos h3] at h
   by_cases e:j=k
   ·subst e;exact h3
   ·exact ZqS n (k+1) h j (by omega) (by omega)
  ·rw [if_neg h3] at h
   exact absurd h h3
theorem ZqT {m:Md} (h:(Zl6 m).2.2=0):Za1 m=true∧∀ k,k<m.me.length→ZpR m (cdM m k):=by
 unfold Zl6 at h
 by_cases hm:Za1 m=true
 ·rw [if_pos hm] at h
  exact ⟨hm,fun k hk=>ZqR _ _ _ (ZqS _ _ h k (Nat.zero_le _) (by omega))⟩
 ·rw [if_neg hm] at h
  exact absurd h (by decide)
section
variable {x:Ms}{m:Md} (hm:Za1 m=true) (hsd:∀ k,k<m.me.length→ZpR m (cdM m k))
include hm hsd
theorem ZqU (hw:∀ k,k<m.me.length→∀ i∈cdM m k,0≤x.wt i∧x.wt i≤1000) (ht:0≤x.tl∧x.tl≤1000) (h32:x.sc=true→∀ k,k<m.me.length→∀ i∈cdM m k,i.op=32→x.wt i=0):∀ n k,k<n→k<m.me.length→ZmD (gR false x m) m k=ZmD (gW x m) m k
 | 0,k,hn,_=>by omega
 | n+1,k,hn,hk=>by
  have hok:=ZfN hm hk
  rw [ZoJ hm x hk,ZoH]
  refine (ZpS (k:=k) (fun i hi=>hok.i i hi) (hsd k hk) (hw k hk) ht (fun q=>h32 q k hk) (T':=fun t=>ZmD (gW x m) m t.toNat) (fun t h0 h1=>?_) (fun t=>?_) (Zmg hok.n) 0 (by unfold Bd;omega)).1
  ·rw [ZmF _ _ (by omega)]
   exact ZqU hw ht h32 n _ (by omega) (by omega)
  ·exact ZoI hm (x:=x) hw ht (t.toNat+1) _ (by omega)
theorem ZqV:∀ n k,k<n→k<m.me.length→ZmD (gR true Zmx m) m k=ZmD (gL m) m k
 | 0,k,hn,_=>by omega
 | n+1,k,hn,hk=>by
  have hok:=ZfN hm hk
  rw [Zpj hm hk,ZoH]
  refine (ZpT (k:=k) (fun i hi=>hok.i i hi) (hsd k hk) (T':=fun t=>ZmD (gL m) m t.toNat) (fun t h0 h1=>?_) (fun t=>?_) (Zmg hok.n) 0 (by unfold Bl;omega)).1
  ·rw [ZmF _ _ (by omega)]
   exact ZqV n _ (by omega) (by omega)
  ·exact Zpi hm (t.toNat+1) _ (by omega)
end
def ZqW (g:Wg) (l:List In3) (p:Nat):Int × Nat:=
 if ZaR (l.getD p default).op=true then
  (g.brk (l.getD p default) (WA g l (p+1) (if (mtV l p).1<0 then (mtV l p).2 else (mtV l p).1.toNat) 0) (if (mtV l p).1<0 then 0 else WA g l ((mtV l p).1.toNat+1) (mtV l p).2 0),(mtV l p).2+1)
 else (g.pl (l.getD p default),p+1)
theorem ZqX {g:Wg}{l:List In3}{p b:Nat} (h:Seg l p b) (hp:p<b):p<(ZqW g l p).2∧(ZqW g l p).2≤b∧Seg l (ZqW g l p).2 b∧∀ acc,WA g l p b acc=WA g l (ZqW g l p).2 b (g.plus acc (ZqW g l p).1):=by
 rcases Zno h with e|⟨_,h2,h3,h4,h5⟩|⟨en,h1,h2,h3,h4,h5⟩|⟨n,en,h1,h2,h3,h4,h5,h6,h7⟩
 ·omega
 ·have e:ZqW g l p=(g.pl (l.getD p default),p+1):=by unfold ZqW;rw [if_neg (by rw [h2];decide)]
  rw [e]
  exact ⟨Nat.lt_succ_self _,hp,h5,fun acc=>Zmm h2 h5⟩
 ·have e:ZqW g l p=(g.brk (l.getD p default) (WA g l (p+1) en 0) 0,en+1):=by unfold ZqW;rw [if_pos (show _=true from h1.2.1),Zmd h1];rfl
  rw [e]
  exact ⟨by dsimp only;omega,by dsimp only;omega,h5,fun acc=>Zmn h1 h4 h5⟩
 ·have e:ZqW g l p=(g.brk (l.getD p default) (WA g l (p+1) n 0) (WA g l (n+1) en 0),en+1):=by
   unfold ZqW
   rw [if_pos (show _=true from h1.2.1),Zmd h1]
   dsimp only
   rw [if_neg (by omega),if_neg (by omega),Int.toNat_natCast]
  rw [e]
  exact ⟨by dsimp only;omega,by dsimp only;omega,h7,fun acc=>Zmo h1 h5 h6 h7⟩
end
section
open Go.RowKit
abbrev GR (x:Ms) (l:Bool) (m:Md) (L:List Int):Wg:=gR l x m (Zqf L)
def ZqY (B g:Nat) (h:Hd) (bv:Int) (x:Ms) (l:Bool) (m:Md) (k:Nat) (L:List Int) (a b:Nat):Prop:=∀ w,RT w B g h m bv l L →
 Calls Tryz.prog 56 #[.pointer (some ⟨B,0,none⟩),.slice (h.e k).ko (cdM m k).length (h.e k).kc,.int .i64 a,.int .i64 b] w (Ret w (.int .i64 (WA (GR x l m L) (cdM m k) a b 0)))
theorem ZqZ {c:List In3}{p b:Nat} (hs:p=b∨(p<b∧ZaR (c.getD p default).op=false∧(c.getD p default).op≠34∧(c.getD p default).op≠35∧Seg c (p+1) b) ∨
  (∃ en:Nat,Mat c p (-1) en∧p<en∧en<b∧Seg c (p+1) en∧Seg c (en+1) b)∨∃ n en:Nat,Mat c p n en∧p<n∧n<en∧en<b∧Seg c (p+1) n∧Seg c (n+1) en∧Seg c (en+1) b) (hp:p<b) (ho:ZaR (c.getD p default).op=true) :
  ∃ (alt:Int) (en q:Nat),Mat c p alt en∧p<q∧q≤en∧en<c.length∧Seg c (p+1) q∧((alt=-1∧q=en)∨(alt=q∧q<en∧Seg c (q+1) en)):=by
 rcases hs with e|⟨_,h2,_⟩|⟨en,h1,h2,h3,h4,h5⟩|⟨n,en,h1,h2,h3,h4,h5,h6,h7⟩
 ·omega
 ·rw [ho] at h2;cases h2
 ·exact ⟨-1,en,en,h1,h2,Nat.le_refl _,h1.2.2.1,h4,.inl ⟨rfl,rfl⟩⟩
 ·exact ⟨n,en,n,h1,h2,by omega,h1.2.2.1,h5,.inr ⟨rfl,h3,h6⟩⟩
theorem Zq0 {B g:Nat}{h:Hd}{bv:Int}{x:Ms}{l:Bool}{m:Md}{k:Nat}{L:List Int} (X:RCx bv x l m k L) {p b:Nat} (hs:Seg (cdM m k) p b) (hpb:p<b) (ih:∀ a' b',p<a'→Seg (cdM m k) a' b'→ZqY B g h bv x l m k L a' b') (w:World) (H:RT w B g h m bv l L) :
    Calls Tryz.prog 89 #[.pointer (some ⟨B,0,none⟩),.slice (h.e k).ko (cdM m k).length (h.e k).kc,.int .i64 p] w (Zhf w (.int .i64 (ZqW (GR x l m L) (cdM m k) p).1) (.int .i64 ((ZqW (GR x l m L) (cdM m k) p).2:Int))):=by
 have hp:p<(cdM m k).length:=by have:=(Zme hs).2;omega
 have hp2:(p:Int) < (cdM m k).length:=by omega
 have hcl:(cdM m k).length≤120:=X.ok.z.2.2
 have hwp:IntKind.i64.wrap ((p:Int)+1)=((p+1:Nat):Int):=IntWalk.i64_in _ (by omega)
 have hko:=H.md.k k X.hk
 obtain ⟨ca,hca,o0,o1,o2⟩:=ZaA (l:=cdM m k) hko hp
 have him:(cdM m k).getD p default∈cdM m k:=ZfU _ hp
 obtain ⟨⟨q1,q2⟩,hq⟩:∃ q,q=ZqW (GR x l m L) (cdM m k) p:=⟨_,rfl⟩
 rw [←hq]
 dsimp only
 have HD:=Zh (X.opd him)
 have HWt:=Zh (X.wt _ him)
 have HOw:=Zh (fun w' (hH:Zay w' h m)=>X.ow _ him w' h hH)
 have HCp:=Zh (X.called him)
 have HTg:=Zh (show ∀ t∈ZaN m ((cdM m k).getD p default).a,0≤t from fun t ht=>ZfT ht)
 have HIv:=Zh (X.ok.i _ him).1
 have hpl:(GR x l m L).pl ((cdM m k).getD p default)=if l=true∧((cdM m k).getD p default).op=28 then (-1:Int) else if ZpH l m (Zqf L) ((cdM m k).getD p default)=-1 then (-1:Int) else Zmu (x.wt ((cdM m k).getD p default)) (ZpH l m (Zqf L) ((cdM m k).getD p default)):=rfl
 unfold ZqW at hq
 rw [hpl] at hq
 have hsg:=ZqZ (Zno hs) hpb
 obtain ⟨i,hi⟩:∃ i,i=(cdM m k).getD p default:=⟨_,rfl⟩
 rw [←hi] at o0 o1 o2 hq HD HWt HOw HCp HTg HIv hsg
 have HIi:=Zh hi
 obtain ⟨op,ia,ib⟩:=i
 dsimp only at o0 o1 o2 hq
 obtain ⟨cv,hcv⟩:∃ c,c=ZpH l m (Zqf L) ⟨op,ia,ib⟩:=⟨_,rfl⟩
 have HCa:=Zh (fun w' hR=>Zqj (w:=w') (B:=B) (g:=g) (h:=h) (bv:=bv) (l:=l) (L:=L) hR X.hm ⟨op,ia,ib⟩ (fun e=>⟨HD.out.a0 (by dsimp only at e ⊢;omega),by have:=(HD.out.o25 e).1;have:=X.hk;omega⟩) (fun e=>⟨HD.out.a0 (by dsimp only at e ⊢;omega),(HD.out.o26 e).1,fun t ht=>⟨HTg.out t ht,by have:=(HD.out.o26 e).2 t ht;have:=X.hk;omega⟩⟩))
 rw [←hcv] at HCa HCp hq
 obtain ⟨wt,hwt⟩:∃ n,n=x.wt ⟨op,ia,ib⟩:=⟨_,rfl⟩
 rw [←hwt] at HWt HOw hq
 have HWq:=Zh hwt
 obtain ⟨w0,hw0⟩:∃ w0,w0=w.alloc (.cells #[.int .i64 op,.int .i64 ia,.int .i64 ib] 42):=⟨_,rfl⟩
 have HB:=Zh (show Below w.heap.size w w0 by rw [hw0];exact bE)
 have HX:=Zh (show Blk w0 w.heap.size #[.int .i64 op,.int .i64 ia,.int .i64 ib] 42 by rw [hw0];exact Blk.new _ _ _)
 have HT:=Zh (H.old HB.out)
 have HW:=Zh hw0
 have HIh:=Zh (show ∀ a' b',p<a'→Seg (cdM m k) a' b'→∀ w',RT w' B g h m bv l L→Calls Tryz.prog 56 #[.pointer (some ⟨B,0,none⟩),.slice (some ca) (cdM m k).length (h.e k).kc,.int .i64 a',.int .i64 b'] w' (Ret w' (.int .i64 (WA (GR x l m L) (cdM m k) a' b' 0))) from fun a' b' h1 h2 w' hR=>by have:=ih a' b' h1 h2 w' hR;rwa [hca] at this)
 have HKo:=Zh (show ∀ w',RT w' B g h m bv l L→Zar w' (some ca) (h.e k).kc (cdM m k) from fun w' hR=>by have:=hR.md.k k X.hk;rwa [hca] at this)
 have HXc:=Zh X
 have HSg:=Zh hsg
 rw [hca]
 clear hw0 H hi hwt hcv hs hsg hko him hpl ih X
 go_enter Tryz.func89,Tryz.ntmps89
 go_upto_region 2 with fail
 rw [←HW.out]
 clear o0 o1 o2
 have x0:=HX.out.cell 0 (v:=.int .i64 op) rfl
 rcases ho:ZaR op with _|_
 · rw [ho,if_neg (by decide)] at hq
   obtain ⟨e1,rfl⟩:=Prod.mk.inj hq
   have HO:=Zh ho
   have HE1:=Zh e1
   clear hq e1 ho HIh HSg
   have t5:=HT.out.tb.cell 5 (v:=.bool l) rfl
   have x1:=HX.out.cell 1 (v:=.int .i64 ia) rfl
   have x2:=HX.out.cell 2 (v:=.int .i64 ib) rfl
   by_cases hth:l=true∧op=28
   · obtain ⟨rfl,rfl⟩:=hth
     go_wp2_with (go_at_call 81;refine (ZeO _ _).mono ?_;rintro e w2 ⟨rfl,rfl⟩;rw [HO.out])
     go_ret2
     exact Zhg (ZcY (by rw [HE1.out];simp)) (ZcY (by omega)) HB.out
   · rw [if_neg hth] at HE1
     have hth2:l=true→¬ op=28:=fun a b=>hth ⟨a,b⟩
     have HTh:=Zh hth2
     clear hth hth2
     go_upto_region 5 with (go_at_call 81;refine (ZeO _ _).mono ?_;rintro e w2 ⟨rfl,rfl⟩;rw [HO.out])
     all_goals first
       | (exfalso;rename_i e1 e2;simp at e2;exact HTh.out e1 e2)
       | skip
     all_goals
       clear t5
       have t0:=HT.out.tb.cell 0 (v:=.slice h.co m.cl.length h.cc) rfl
       go_upto_region 6 with (go_at_call 115;refine (HCa.out _ HT.out).mono ?_;rintro e w1 ⟨rfl,hb1⟩;have HB1:=Zh hb1;clear hb1 x0 x1 x2 t0)
       have HX1:=Zh (HX.out.old HB1.out)
       have HT1:=Zh (HT.out.old HB1.out)
       by_cases hc1:cv=-1
       · rw [if_pos hc1] at HE1
         go_wp2
         go_ret2
         exact Zhg (ZcY HE1.out.symm) (ZcY (by omega)) (Zaf HB.out HB1.out)
       · rw [if_neg hc1] at HE1
         have HCs:=Zh (show Cs [(⟨B,0,none⟩,.slice h.co m.cl.length h.cc),(⟨B,1,none⟩,.slice h.so m.st.length h.sc),(⟨B,2,none⟩,.slice h.eo m.me.length h.ec),(⟨B,3,none⟩,.int .i64 m.sel),(⟨B,4,none⟩,.int .i64 bv),(⟨w.heap.size,0,none⟩,.int .i64 op),(⟨w.heap.size,1,none⟩,.int .i64 ia),(⟨w.heap.size,2,none⟩,.int .i64 ib)] w1 from ⟨HT1.out.tb.cell 0 rfl,HT1.out.tb.cell 1 rfl,HT1.out.tb.cell 2 rfl,HT1.out.tb.cell 3 rfl,HT1.out.tb.cell 4 rfl,HX1.out.cell 0 rfl,HX1.out.cell 1 rfl,HX1.out.cell 2 rfl,trivial⟩)
         go_upto_region 8 with fail
         refine rO (Cs [(⟨B,0,none⟩,.slice h.co m.cl.length h.cc),(⟨B,1,none⟩,.slice h.so m.st.length h.sc),(⟨B,2,none⟩,.slice h.eo m.me.length h.ec),(⟨B,3,none⟩,.int .i64 m.sel),(⟨B,4,none⟩,.int .i64 bv),(⟨w.heap.size,0,none⟩,.int .i64 op),(⟨w.heap.size,1,none⟩,.int .i64 ia),(⟨w.heap.size,2,none⟩,.int .i64 ib)]) (oL [0,1,2,3,4,5,6,7,8,10,12,13,109,111,14,15]) HCs.out ?_
         repeat refine pO ?_
         refine oO fun Kv hK=>?_
         go_simp
         refine (HOw.out _ (HT1.out.md.old (Below.refl _ _).drew)).mono ?_
         rintro e w2 ⟨rfl,hb2⟩
         have HB2:=Zh (Zaf (Below.refl w1.heap.size w1).drew hb2)
         refine hK _ _ ⟨Cs.keeps (Znv.of HB2.out) HCs.out,?_⟩
         clear hK Kv hb2
         repeat refine pO ?_
         refine oO fun Kv hK=>?_
         go_simp
         refine (ZpZ wt cv _ (by have:=HWt.out;omega) (by have:=HCp.out.2;unfold Bl at this;omega)).mono ?_
         rintro e w3 ⟨rfl,hb3⟩
         have HB3:=Zh (Zaf HB2.out hb3)
         refine hK _ _ ⟨Cs.keeps (Znv.of HB3.out) HCs.out,?_⟩
         clear hK Kv hb3
         repeat refine pO ?_
         refine Zd5 ?_
         go_wp2
         go_ret2
         exact Zhg (ZcY HE1.out.symm) (ZcY (by omega)) (Zaf HB.out (Zaf HB1.out HB3.out))
 · rw [ho,if_pos rfl] at hq
   obtain ⟨alt,en,q,hmt,hpq,hqe,hel,hs1,hcase⟩:=HSg.out ho
   rw [Zmd hmt] at hq
   obtain ⟨f,hf⟩:∃ f,f=WA (GR x l m L) (cdM m k) (p+1) q 0:=⟨_,rfl⟩
   obtain ⟨s,hs⟩:∃ s,s=if alt=-1 then 0 else WA (GR x l m L) (cdM m k) (q+1) en 0:=⟨_,rfl⟩
   have hq':(q1,q2)=((GR x l m L).brk ⟨op,ia,ib⟩ f s,en+1):=by
     rw [hq,hf,hs]
     rcases hcase with ⟨rfl,rfl⟩|⟨rfl,h1,h2⟩
     · rfl
     · dsimp only
       rw [if_neg (by omega),if_neg (by omega),if_neg (by omega),Int.toNat_natCast]
   obtain ⟨e1,rfl⟩:=Prod.mk.inj hq'
   have HPf:=Zh (show Pl l f by rw [hf];exact HXc.out.wa hs1 (Pl.of (by unfold Bd;omega)))
   have HPs:=Zh (show Pl l s by
     rw [hs]
     rcases hcase with ⟨rfl,rfl⟩|⟨rfl,h1,h2⟩
     · exact Pl.of (by unfold Bd;omega)
     · rw [if_neg (by omega)];exact HXc.out.wa h2 (Pl.of (by unfold Bd;omega)))
   have HE1:=Zh (show q1=ZpI l (scV bv) ⟨op,ia,ib⟩ f s wt (tlV bv) by rw [e1,←HXc.out.tl,←HXc.out.sc,HWq.out];rfl)
   have HPt:=Zh (show ∀ w',RT w' B g h m bv l L→Calls Tryz.prog 56 #[.pointer (some ⟨B,0,none⟩),.slice (some ca) (cdM m k).length (h.e k).kc,.int .i64 ((p+1:Nat):Int),.int .i64 q] w' (Ret w' (.int .i64 f)) from fun w' hR=>by have:=HIh.out (p+1) q (by omega) hs1 w' hR;rwa [←hf] at this)
   have HO:=Zh ho
   have HMt:=Zh (ZpY (cdM m k) (some ca) (h.e k).kc w0 (HKo.out _ HT.out) HXc.out.code hmt)
   have hen:IntKind.i64.wrap ((en:Int)+1)=((en+1:Nat):Int):=IntWalk.i64_in _ (by omega)
   have HSs:=Zh hs
   clear hq hq' e1 ho hmt hf hs HSg
   rcases hcase with ⟨rfl,rfl⟩|⟨rfl,hq1,hq2⟩
   all_goals
     go_upto_region 10 with (first
       | (go_at_call 81;refine (ZeO _ _).mono ?_;rintro e w2 ⟨rfl,rfl⟩;rw [HO.out])
       | (go_at_call 47;refine HMt.out.mono ?_;rintro e w1 ⟨rfl,hb1⟩;have HB1:=Zh hb1;clear hb1 x0))
     have HT1:=Zh (HT.out.old HB1.out)
     have HX1:=Zh (HX.out.old HB1.out)
     go_upto_region 14 with (go_at_call 56;refine (HPt.out _ HT1.out).mono ?_;rintro e w2 ⟨rfl,hb2⟩;have HB2:=Zh (Zaf HB1.out hb2);clear hb2)
     have HT2:=Zh (HT.out.old HB2.out)
     have HX2:=Zh (HX.out.old HB2.out)
   all_goals first
     | (have hss:s=0:=by have:=HSs.out;simpa using this
        subst hss
        obtain ⟨w3,hw3⟩:∃ w3,w3=w2:=⟨_,rfl⟩
        have HB3:=Zh (show Below w0.heap.size w0 w3 by rw [hw3];exact HB2.out)
        go_upto_region 16 with fail
        rw [←hw3]
        clear hw3)
     | (have HPu:=Zh (HIh.out (q+1) en (by omega) hq2 w2 HT2.out)
        have hss:=HSs.out
        rw [if_neg (by omega)] at hss
        rw [←hss] at HPu
        clear hss
        go_upto_region 16 with (go_at_call 56;refine HPu.out.mono ?_;rintro e w3 ⟨rfl,hb3⟩;have HB3:=Zh (Zaf HB2.out hb3);clear hb3))
   all_goals
     have HT3:=Zh (HT.out.old HB3.out)
     have HX3:=Zh (HX.out.old HB3.out)
     have HCs:=Zh (show Cs [(⟨B,0,none⟩,.slice h.co m.cl.length h.cc),(⟨B,1,none⟩,.slice h.so m.st.length h.sc),(⟨B,2,none⟩,.slice h.eo m.me.length h.ec),(⟨B,3,none⟩,.int .i64 m.sel),(⟨B,4,none⟩,.int .i64 bv),(⟨w.heap.size,0,none⟩,.int .i64 op),(⟨w.heap.size,1,none⟩,.int .i64 ia),(⟨w.heap.size,2,none⟩,.int .i64 ib)] w3 from ⟨HT3.out.tb.cell 0 rfl,HT3.out.tb.cell 1 rfl,HT3.out.tb.cell 2 rfl,HT3.out.tb.cell 3 rfl,HT3.out.tb.cell 4 rfl,HX3.out.cell 0 rfl,HX3.out.cell 1 rfl,HX3.out.cell 2 rfl,trivial⟩)
     refine rO (Cs [(⟨B,0,none⟩,.slice h.co m.cl.length h.cc),(⟨B,1,none⟩,.slice h.so m.st.length h.sc),(⟨B,2,none⟩,.slice h.eo m.me.length h.ec),(⟨B,3,none⟩,.int .i64 m.sel),(⟨B,4,none⟩,.int .i64 bv),(⟨w.heap.size,0,none⟩,.int .i64 op),(⟨w.heap.size,1,none⟩,.int .i64 ia),(⟨w.heap.size,2,none⟩,.int .i64 ib)]) (oL [0,1,2,3,4,5,6,7,8,9,10,11,12,14,17,18,113,115,116,19,20]) HCs.out ?_
     repeat refine pO ?_
     refine oO fun Kv hK=>?_
     go_simp
     refine (HOw.out _ (HT3.out.md.old (Below.refl _ _).drew)).mono ?_
     rintro e w4 ⟨rfl,hb4⟩
     have HB4:=Zh (Zaf (Below.refl w3.heap.size w3).drew hb4)
     refine hK _ _ ⟨Cs.keeps (Znv.of HB4.out) HCs.out,?_⟩
     clear hK Kv hb4
     repeat refine pO ?_
     refine oO fun Kv hK=>?_
     go_simp
     refine (Zqa (HT3.out.old HB4.out)).mono ?_
     rintro e w5 ⟨rfl,hb5⟩
     have HB5:=Zh (Zaf HB4.out hb5)
     refine hK _ _ ⟨Cs.keeps (Znv.of HB5.out) HCs.out,?_⟩
     clear hK Kv hb5
     repeat refine pO ?_
     refine oO fun Kv hK=>?_
     go_simp
     refine (Zqd (HT3.out.old HB5.out) ⟨op,ia,ib⟩ f _ wt (tlV bv) HPf.out.2 HPs.out.2 HWt.out (by unfold tlV;split<;>omega) (fun e=>Zn6 HIv.out e)).mono ?_
     rintro e w6 ⟨rfl,hb6⟩
     have HB6:=Zh (Zaf HB5.out hb6)
     refine hK _ _ ⟨Cs.keeps (Znv.of HB6.out) HCs.out,?_⟩
     clear hK Kv hb6
     repeat refine pO ?_
     refine Zd5 ?_
     go_wp2
     go_ret2
     exact Zhg (ZcY HE1.out.symm) (ZcY (by omega)) (Zaf HB.out (Zaf HB3.out HB6.out))
end
section
open Go.RowKit
theorem RCx.one {bv:Int}{x:Ms}{l:Bool}{m:Md}{k:Nat}{L:List Int} (X:RCx bv x l m k L) {p b:Nat} (hs:Seg (cdM m k) p b) (hp:p<b):Pl l (ZqW (GR x l m L) (cdM m k) p).1:=by
 have hm:∀ k',k' < (cdM m k).length→(cdM m k).getD k' default∈cdM m k:=fun k' hk=>ZfU _ hk
 have h0:Pl l 0:=Pl.of (by unfold Bd;omega)
 have hpl:p<(cdM m k).length:=by have:=(Zme hs).2;omega
 rcases Zno hs with e|⟨_,h2,h3,h4,h5⟩|⟨en,h1,h2,h3,h4,h5⟩|⟨n,en,h1,h2,h3,h4,h5,h6,h7⟩
 ·omega
 ·unfold ZqW
  rw [if_neg (by rw [h2];decide)]
  exact X.pl (hm p hpl)
 ·unfold ZqW
  rw [if_pos (show _=true from h1.2.1),Zmd h1]
  exact X.brk (hm p hpl) (X.wa h4 h0) h0
 ·unfold ZqW
  rw [if_pos (show _=true from h1.2.1),Zmd h1]
  dsimp only
  rw [if_neg (by omega),if_neg (by omega),Int.toNat_natCast]
  exact X.brk (hm p hpl) (X.wa h5 h0) (X.wa h6 h0)
theorem Zq1 {B g:Nat}{h:Hd}{bv:Int}{x:Ms}{l:Bool}{m:Md}{k:Nat}{L:List Int} (X:RCx bv x l m k L) {a b:Nat} (hs:Seg (cdM m k) a b) (ih:∀ a' b',a<a'→Seg (cdM m k) a' b'→ZqY B g h bv x l m k L a' b'):ZqY B g h bv x l m k L a b:=by
 intro w H
 have hle:=Zme hs
 have hcl:(cdM m k).length≤120:=X.ok.z.2.2
 have HO:=Zh (show ∀ p,a≤p→p<b→Seg (cdM m k) p b→∀ w',RT w' B g h m bv l L→_ from fun p h1 h2 h3 w' hR=>Zq0 X h3 h2 (fun a' b' h4 h5=>ih a' b' (by omega) h5) w' hR)
 have HR:=Zh H
 have HX:=Zh X
 have HS:=Zh hs
 clear H X hs ih
 go_enter Tryz.func56,Tryz.ntmps56
 go_wp2
 go_loopw [9,10] (fun s i wr=>∃ (p:Nat) (sv:Int),i=.int .i64 p∧s=.int .i64 sv∧Hid (a≤p∧p≤b∧Seg (cdM m k) p b)∧Hid (0≤sv∧Pl l sv)∧Hid (WA (GR x l m L) (cdM m k) a b 0=WA (GR x l m L) (cdM m k) p b sv)∧Hid (Below w.heap.size w wr)) (fun _ i _=>b-(intOf i).toNat)
 case atStart=>exact ⟨a,0,rfl,rfl,⟨Nat.le_refl _,hle.1,HS.out⟩,⟨by omega,Pl.of (by unfold Bd;omega)⟩,rfl,by exact bE⟩
 case round=>
  obtain ⟨p,sv,rfl,rfl,HP,HSv,HWa,HB⟩:=hrel
  rename World=>wo
  by_cases hpb:p<b
  ·have hpb2:(p:Int) < b:=by omega
   obtain ⟨s1,s2,s3,s4⟩:=ZqX (g:=GR x l m L) HP.out.2.2 hpb
   have hv:=HX.out.one HP.out.2.2 hpb
   have HOn:=Zh (HO.out p HP.out.1 hpb HP.out.2.2 _ (HR.out.old HB.out))
   have HW2:=Zh (HWa.out.trans (s4 sv))
   obtain ⟨⟨v,nx⟩,hq⟩:∃ q,q=ZqW (GR x l m L) (cdM m k) p:=⟨_,rfl⟩
   rw [←hq] at HOn HW2 hv s1 s2 s3
   dsimp only at hv s1 s2 s3
   have HV:=Zh hv
   have HN:=Zh (And.intro s1 (And.intro s2 s3))
   clear hq hv s1 s2 s3 s4
   by_cases hv1:v=-1
   ·subst hv1
    go_wp2_with (go_at_call 89;refine HOn.out.mono ?_;rintro e w1 ⟨rfl,hb1⟩)
    go_ret
    refine ZcT (ZcY ?_) (Zaf HB.out hb1)
    rw [HW2.out,show (GR x l m L).plus sv (-1)=-1 by show ZpE sv (-1)=-1;unfold ZpE;rw [if_pos (.inr rfl)]]
    exact (ZpU HN.out.2.2).symm
   ·go_wp2_with (first
     | (go_at_call 89;refine HOn.out.mono ?_;rintro e w1 ⟨rfl,hb1⟩;have HB1:=Zh (Zaf HB.out hb1);clear hb1)
     | (go_at_call 66;refine (ZpZ sv v _ (by have:=HSv.out.2.2;unfold Bl at this;omega) (by have:=HV.out.2;unfold Bl at this;omega)).mono ?_;rintro e w2 ⟨rfl,hb2⟩;have HB2:=Zh (Zaf HB1.out hb2);clear hb2))
    have h1:=HSv.out.2.2
    have h2:=HV.out.2
    unfold Bl at h1 h2
    have h3:=HSv.out.1
    have hps:ZpE sv v=Zmu sv v:=ZpK ⟨h3,h1.2⟩ ⟨by omega,h2.2⟩
    have hbd:Bd (Zmu sv v):=ZnB ⟨h3,h1.2⟩ ⟨by omega,h2.2⟩
    refine ⟨⟨nx,Zmu sv v,rfl,rfl,⟨by have:=HP.out.1;have:=HN.out.1;omega,HN.out.2.1,HN.out.2.2⟩,⟨hbd.1,Pl.of hbd⟩,HW2.out.trans (by rw [←hps];rfl),HB2.out⟩,?_⟩
    have:=HN.out.1
    have:=HN.out.2.1
    simp [intOf]
    omega
  ·obtain rfl:p=b:=by have:=HP.out.2.1;omega
   go_wp2
   go_ret
   exact ZcT (ZcY (by rw [HWa.out,Zml])) HB.out
theorem Zq2 {B g:Nat}{h:Hd}{bv:Int}{x:Ms}{l:Bool}{m:Md}{k:Nat}{L:List Int} (X:RCx bv x l m k L):∀ (n a b:Nat),(cdM m k).length-a≤n→Seg (cdM m k) a b→ZqY B g h bv x l m k L a b
 | 0,a,b,hn,hs=>Zq1 X hs fun a' b' h1 h2=>by have:=Zme hs;have:=Zme h2;omega
 | n+1,a,b,hn,hs=>Zq1 X hs fun a' b' h1 h2=>by
  by_cases hz:a'≤(cdM m k).length
  ·exact Zq2 X n a' b' (by omega) h2
  ·have:=Zme h2;omega
end
section
open Go.RowKit
theorem Zq3 {w w':World}{g:Nat}{a:Addr}{v:Value} (h:w.cell? a=some v) (hu:Upd g g w w') (hne:a.block≠g):w'.cell? a=some v:=
 (World.cell?_of_block (w:=w) (hu.block _ (Zac h) hne hne)).trans h
def Zq4 (G:(Int→Int)→Wg) (m:Md) (k:Nat):List Int:=ZmC G m k++List.replicate (m.me.length-k) 0
theorem Zq5 {G:(Int→Int)→Wg}{m:Md}{k:Nat} (hk:k≤m.me.length):(Zq4 G m k).length=m.me.length:=by unfold Zq4;simp [ZmE];omega
theorem Zq6 {G:(Int→Int)→Wg}{m:Md}{k:Nat}:Zqf (Zq4 G m k)=fun t=>(ZmC G m k).getD t.toNat 0:=by
 funext t
 unfold Zqf Zq4
 by_cases h:t.toNat<(ZmC G m k).length
 ·rw [List.getD_eq_getElem?_getD,List.getElem?_append_left h,←List.getD_eq_getElem?_getD]
 ·rw [List.getD_eq_getElem?_getD,List.getElem?_append_right (by omega),List.getD_eq_getElem?_getD,List.getElem?_eq_none (l:=ZmC G m k) (by omega),List.getElem?_replicate]
  split<;>rfl
theorem Zq7 {G:(Int→Int)→Wg}{m:Md}{k:Nat} (hk:k<m.me.length):(Zq4 G m k).set k (ZmD G m k)=Zq4 G m (k+1):=by
 unfold Zq4
 rw [List.set_append_right _ _ (by rw [ZmE];omega),ZmE,Nat.sub_self,show m.me.length-k=(m.me.length-(k+1))+1 by omega,List.replicate_succ,List.set_cons_zero]
 have:ZmC G m (k+1)=ZmC G m k++[ZmD G m k]:=by
  rw [ZoH]
  rfl
 rw [this,List.append_assoc]
 rfl
structure MCx (bv:Int) (x:Ms) (m:Md):Prop where
 hm:Za1 m=true
 sd:∀ k,k<m.me.length→ZpR m (cdM m k)
 ow:∀ k,k<m.me.length→Zp8 bv m x (cdM m k)
 wt:∀ k,k<m.me.length→∀ i∈cdM m k,0≤x.wt i∧x.wt i≤1000
 tl:x.tl=tlV bv
 sc:x.sc=scV bv
theorem MCx.at {bv:Int}{x:Ms}{m:Md} (X:MCx bv x m) {l:Bool}{k:Nat}{L:List Int} (hk:k<m.me.length) (hn:∀ t,Pl l (Zqf L t)):RCx bv x l m k L:=⟨X.hm,hk,X.sd k hk,X.ow k hk,X.wt k hk,X.tl,X.sc,hn⟩
theorem Zq8 {m:Md} (h:(Zl6 m).2.2=0):MCx 0 Zmx m:=
 have hk:=ZqT h
 ⟨hk.1,hk.2,fun k h2=>Zp9 fun i hi=>((ZfN hk.1 h2).i i hi).1,fun k h2 i hi=>ZoD ((ZfN hk.1 h2).i i hi).1,rfl,rfl⟩
def Zq9 (W:World) (h:Hd) (m:Md) (bv:Int) (l:Bool) (L:List Int):Ending→World→Prop:=fun e w'=>(∃ B g,e=.returned (.pointer (some ⟨B,0,none⟩))∧RT w' B g h m bv l L)∧Below W.heap.size W w'
theorem Zra {bv:Int}{x:Ms}{m:Md} (X:MCx bv x m) (l:Bool) (h:Hd) (w:World) (H:Zay w h m):Calls Tryz.prog 55 #[.agg #[.slice h.co m.cl.length h.cc,.slice h.so m.st.length h.sc,.slice h.eo m.me.length h.ec,.int .i64 m.sel],.int .i64 bv,.bool l] w (Zq9 w h m bv l (ZmC (gR l x m) m m.me.length)):=by
 have hsz:=(Zqi X.hm).2
 have hmk:=run_make_row' (P:=Tryz.prog) 29 3 (.int .i64 0) 8 Tryz.underlying29 (by kernel_rfl) rfl .i64 .i64 m.me.length (by omega) (by omega)
 rw [Zcn] at hmk
 obtain ⟨w0,hw0⟩:∃ w0,w0=w.alloc (.cells #[.slice h.co m.cl.length h.cc,.slice h.so m.st.length h.sc,.slice h.eo m.me.length h.ec,.int .i64 m.sel] 26):=⟨_,rfl⟩
 have HB:=Zh (show Below w.heap.size w w0 by rw [hw0];exact bE)
 have HX:=Zh (show Blk w0 w.heap.size #[.slice h.co m.cl.length h.cc,.slice h.so m.st.length h.sc,.slice h.eo m.me.length h.ec,.int .i64 m.sel] 26 by rw [hw0];exact Blk.new _ _ _)
 have HM:=Zh (H.old HB.out)
 have HW:=Zh hw0
 have HXc:=Zh X
 clear hw0 H X
 go_enter Tryz.func55,Tryz.ntmps55
 go_upto_region 1 with fail
 rw [←HW.out]
 refine rO (Cs [(⟨w.heap.size,0,none⟩,.slice h.co m.cl.length h.cc),(⟨w.heap.size,1,none⟩,.slice h.so m.st.length h.sc),(⟨w.heap.size,2,none⟩,.slice h.eo m.me.length h.ec),(⟨w.heap.size,3,none⟩,.int .i64 m.sel)]) (oL [0,1,2,3,4,5,106,7,108,9]) ⟨HX.out.cell 0 rfl,HX.out.cell 1 rfl,HX.out.cell 2 rfl,HX.out.cell 3 rfl,trivial⟩ ?_
 repeat refine pO ?_
 refine oO fun Kv hK=>?_
 go_simp
 refine hK _ _ ⟨Cs.keeps (Znv.of bE) (show Cs _ w0 from ⟨HX.out.cell 0 rfl,HX.out.cell 1 rfl,HX.out.cell 2 rfl,HX.out.cell 3 rfl,trivial⟩),?_⟩
 clear hK Kv
 repeat refine pO ?_
 refine oO fun Kv hK=>?_
 go_simp
 refine hK _ _ ⟨Cs.keeps (Znv.of bE) (show Cs _ w0 from ⟨HX.out.cell 0 rfl,HX.out.cell 1 rfl,HX.out.cell 2 rfl,HX.out.cell 3 rfl,trivial⟩),?_⟩
 clear hK Kv
 repeat refine pO ?_
 refine Zd5 ?_
 go_wp2
 clear hmk
 obtain ⟨w2,hw2⟩:∃ w2,w2=((w0.alloc (Obj.cells (Array.replicate m.me.length (Value.int IntKind.i64 0)) 3)).alloc (Obj.cells #[Value.slice h.co m.cl.length h.cc,Value.slice h.so m.st.length h.sc,Value.slice h.eo m.me.length h.ec,Value.int IntKind.i64 m.sel,Value.int IntKind.i64 bv,Value.bool l,Value.slice (some { block:=w0.heap.size,off:=0 }) m.me.length m.me.length] 90)).drew:=⟨_,rfl⟩
 rw [←hw2]
 obtain ⟨g,hg⟩:∃ g,g=w0.heap.size:=⟨_,rfl⟩
 obtain ⟨B,hBq⟩:∃ B,B=w0.heap.size+1:=⟨_,rfl⟩
 have HB2:=Zh (show Below w0.heap.size w0 w2 by rw [hw2];exact bE)
 have HR2:=Zh (show RT w2 B g h m bv l (Zq4 (gR l x m) m 0) from by
  rw [hw2,hg,hBq]
  refine ⟨?_,?_,HM.out.old bE,Zq5 (Nat.zero_le _)⟩
  ·exact Blk.drew (Blk.new' _ _ (by simp))
  ·have:Zol (Zq4 (gR l x m) m 0)=Array.replicate m.me.length (Value.int IntKind.i64 0):=by unfold Zol Zq4 ZmC;rw [List.nil_append,Nat.sub_zero,List.map_replicate,List.toArray_replicate]
   rw [this]
   exact Blk.drew ((Blk.new w0 _ _).alloc _))
 have HG:=Zh (show w0.heap.size≤g∧B≠g∧w.heap.size<g by rw [hg,hBq];have:=HX.out.lt;omega)
 rw [←hBq,←hg]
 clear hw2 hg hBq
 go_loopw [8] (fun i wr=>∃ k:Nat,k≤m.me.length∧i=.int .i64 k∧Hid (RT wr B g h m bv l (Zq4 (gR l x m) m k))∧Hid (∀ t,Pl l (Zqf (Zq4 (gR l x m) m k) t))∧Hid (Upd g g w2 wr)) (fun i _=>m.me.length-(intOf i).toNat)
 case atStart=>
  refine ⟨0,Nat.zero_le _,rfl,HR2.out,fun t=>?_,Upd.refl _ _ _⟩
  rw [Zq6]
  unfold ZmC
  exact Pl.of (by show Bd (([]:List Int).getD _ 0);simp [Bd])
 case round=>
  obtain ⟨k,hk,rfl,HR,HN,HU⟩:=hrel
  rename World=>wo
  by_cases hkl:k<m.me.length
  ·have hkl2:(k:Int) < m.me.length:=by omega
   have hwk:IntKind.i64.wrap ((k:Int)+1)=((k+1:Nat):Int):=IntWalk.i64_in _ (by omega)
   have X:=HXc.out.at (l:=l) (L:=Zq4 (gR l x m) m k) hkl HN.out
   have HP:=Zh (Zq2 (B:=B) (g:=g) (h:=h) X (cdM m k).length 0 (cdM m k).length (by omega) (Zmg X.ok.n))
   obtain ⟨ea,he,-,-,-,-,-,-,e6⟩:=HM.out.mth hkl
   rw [show (m.me.getD k default).k.length=(cdM m k).length from rfl] at e6
   have HBo:=Zh (HU.out.below HB2.out (Nat.le_refl _) HG.out.1 HG.out.1)
   have hel:=Nat.lt_of_lt_of_le (Zac e6) HG.out.1
   have e6:=(HBo.out.cell (Zac e6)).trans e6
   have x2:=(HX.out.old HBo.out).cell 2 (v:=.slice h.eo m.me.length h.ec) rfl
   rw [he] at x2
   have HEl:=Zh hel
   have HEa:=Zh he
   clear hel he
   have t6:=HR.out.tb.cell 6 (v:=.slice (some ⟨g,0,none⟩) m.me.length m.me.length) rfl
   have X2:=Zh X
   clear X
   go_upto_region 5 with fail
   have HCs:=Zh (show Cs [(⟨B,6,none⟩,.slice (some ⟨g,0,none⟩) m.me.length m.me.length),(⟨w.heap.size,2,none⟩,.slice (some ea) m.me.length h.ec),(⟨(ea.add (k*7)).block,(ea.add (k*7)).off+6,none⟩,.slice (h.e k).ko (cdM m k).length (h.e k).kc)] wo from ⟨t6,x2,e6,trivial⟩)
   refine rO (Cs [(⟨B,6,none⟩,.slice (some ⟨g,0,none⟩) m.me.length m.me.length),(⟨w.heap.size,2,none⟩,.slice (some ea) m.me.length h.ec),(⟨(ea.add (k*7)).block,(ea.add (k*7)).off+6,none⟩,.slice (h.e k).ko (cdM m k).length (h.e k).kc)]) (oL [0,1,2,3,4,5,6,7,8,9,10,11,12,13,14,15,16,17,18,119,20,121]) ⟨t6,x2,e6,trivial⟩ ?_
   clear t6 x2 e6
   repeat refine pO ?_
   refine oO fun Kv hK=>?_
   go_simp
   refine (HP.out _ (HR.out.old (Below.refl _ _).drew)).mono ?_
   rintro e w3 ⟨rfl,hb3⟩
   have HB3:=Zh (Zaf (Below.refl wo.heap.size wo).drew hb3)
   have HR3:=Zh (HR.out.old HB3.out)
   have HCs3:=Zh (Cs.keeps (Znv.of HB3.out) HCs.out)
   refine hK _ _ ⟨HCs3.out,?_⟩
   clear hK Kv hb3
   repeat refine pO ?_
   refine oO fun Kv hK=>?_
   have g0:=Zon HR3.out.nb (k:=k) (by rw [Zq5 hk];exact hkl)
   have f0:=HR3.out.nb.frozen k
   go_simp
   obtain ⟨v,hv⟩:∃ v,v=WA (GR x l m (Zq4 (gR l x m) m k)) (cdM m k) 0 (cdM m k).length 0:=⟨_,rfl⟩
   rw [←hv]
   obtain ⟨w4,hw4⟩:∃ w4,w4=w3.setCell ⟨g,k,none⟩ (.int .i64 v):=⟨_,rfl⟩
   have hu4:Upd g g w3 w4:=by rw [hw4];exact (Upd.refl g g w3).set k _
   have hvm:v=ZmD (gR l x m) m k:=by rw [hv,ZoH];show WA (gR l x m (Zqf _)) _ _ _ _=_;rw [Zq6]
   have HVP:=Zh (show Pl l v by rw [hv];exact X2.out.wa (Zmg X2.out.ok.n) (Pl.of (by unfold Bd;omega)))
   have HU4:=Zh ((HU.out.bel HB3.out).trans hu4)
   have HR4:=Zh (show RT w4 B g h m bv l (Zq4 (gR l x m) m (k+1)) from by
    refine ⟨?_,?_,HM.out.old (HU4.out.below HB2.out (Nat.le_refl _) HG.out.1 HG.out.1),Zq5 hkl⟩
    ·rw [hw4];exact HR3.out.tb.other (a:=⟨g,k,none⟩) HG.out.2.1 _
    ·rw [hw4,←Zq7 hkl,←hvm];exact Zom HR3.out.nb _)
   rw [←hw4]
   refine hK _ _ ⟨⟨Zq3 HCs3.out.1 hu4 HG.out.2.1,Zq3 HCs3.out.2.1 hu4 (by have:=HG.out.2.2;dsimp only;omega),Zq3 HCs3.out.2.2.1 hu4 (by have:=HEl.out;omega),trivial⟩,?_⟩
   clear hK Kv g0 f0 hw4 hu4 hv
   have HVm:=Zh hvm
   clear hvm
   refine Zd5 ?_
   go_wp2
   refine ⟨⟨k+1,hkl,rfl,HR4.out,fun t=>?_,HU4.out⟩,by simp [intOf];omega⟩
   rw [←Zq7 hkl,←HVm.out]
   unfold Zqf
   rw [Zou _ _ _ (by rw [Zq5 hk];exact hkl)]
   split
   ·exact HVP.out
   ·exact HN.out t
  ·obtain rfl:k=m.me.length:=by omega
   have hj5:¬ (m.me.length:Int) < m.me.length:=by omega
   have x2:=(HX.out.old (HU.out.below HB2.out (Nat.le_refl _) HG.out.1 HG.out.1)).cell 2 (v:=.slice h.eo m.me.length h.ec) rfl
   go_wp2
   go_ret
   have hz:Zq4 (gR l x m) m m.me.length=ZmC (gR l x m) m m.me.length:=by unfold Zq4;simp
   exact ⟨⟨B,g,rfl,hz▸HR.out⟩,Zaf HB.out (HU.out.below HB2.out (Nat.le_refl _) HG.out.1 HG.out.1)⟩
end
section
open Go.RowKit
theorem Zrb {m:Md}{k:Int} (h:ZoO m k=true):(Zl6 m).2.2=0:=by
 unfold ZoO at h
 simp only [Bool.and_eq_true,decide_eq_true_eq] at h
 exact h.1
theorem Zrc {m:Md}{k:Nat} (h:(Zl6 m).2.2=0) (hk:k<m.me.length):ZmD (gR true Zmx m) m k=ZmD (gL m) m k:=ZqV (ZqT h).1 (ZqT h).2 (k+1) k (by omega) hk
theorem Zrd {m:Md}{k:Nat} (h:(Zl6 m).2.2=0) (hk:k<m.me.length):ZmD (gR false Zmx m) m k=ZmD (gW Zmx m) m k:=
 ZqU (ZqT h).1 (ZqT h).2 (Zq8 h).wt (by decide) (fun q=>by cases q) (k+1) k (by omega) hk
section
variable (m:Md) (h:Hd) (k:Int) (w:World) (H:Zay w h m)
include H
theorem Zre:Calls Tryz.prog 25 #[.agg #[.slice h.co m.cl.length h.cc,.slice h.so m.st.length h.sc,.slice h.eo m.me.length h.ec,.int .i64 m.sel],.int .i64 k] w (Zhf w (.int .i64 (ZoR m k).1) (.int .i64 (ZoR m k).2)):=by
 have HB0:=Zh (show Below w.heap.size w (w.alloc (.cells #[.slice h.co m.cl.length h.cc,.slice h.so m.st.length h.sc,.slice h.eo m.me.length h.ec,.int .i64 m.sel] 26)) by exact bE)
 have HA:=Zh (Zp5 m h k _ (H.old HB0.out))
 obtain ⟨r1,hr1⟩:∃ r,r=(ZoR m k).1:=⟨_,rfl⟩
 obtain ⟨r2,hr2⟩:∃ r,r=(ZoR m k).2:=⟨_,rfl⟩
 rw [←hr1,←hr2]
 have HX0:=Zh (Blk.new w #[.slice h.co m.cl.length h.cc,.slice h.so m.st.length h.sc,.slice h.eo m.me.length h.ec,.int .i64 m.sel] 26)
 have HH:=Zh H
 rcases hq:ZoO m k with _|_
 ·rw [hq] at HA
  have e1:r1=0:=by rw [hr1];unfold ZoR;rw [hq];rfl
  have e2:r2=1:=by rw [hr2];unfold ZoR;rw [hq];rfl
  have HE:=Zh (And.intro e1 e2)
  clear H hr1 hr2 hq e1 e2
  go_enter Tryz.func25,Tryz.ntmps25
  exact kC4
 ·rw [hq] at HA
  have hmo:=Zrb hq
  obtain ⟨hm,hk0,hk1⟩:=ZoP hq
  obtain ⟨k,rfl⟩:∃ d:Nat,k=d:=⟨k.toNat,by omega⟩
  have hkl:k<m.me.length:=by omega
  have hkl2:(k:Int) < m.me.length:=by omega
  obtain ⟨v,hv⟩:∃ v,v=ZmD (gW Zmx m) m k:=⟨_,rfl⟩
  have e1:r1=if 1000000000<v then 0 else v:=by rw [hr1,hv];unfold ZoR;rw [hq,if_pos rfl,Int.toNat_natCast];split<;>rfl
  have e2:r2=if 1000000000<v then 6 else 0:=by rw [hr2,hv];unfold ZoR;rw [hq,if_pos rfl,Int.toNat_natCast];split<;>rfl
  have HE:=Zh (And.intro e1 e2)
  have HT:=Zh (fun w' hb=>Zra (Zq8 hmo) false h w' (HH.out.old (w':=w') hb))
  have HV:=Zh (show (ZmC (gR false Zmx m) m m.me.length).getD k 0=v by rw [ZmF _ _ hkl,Zrd hmo hkl,hv])
  clear H hr1 hr2 hq e1 e2 hv hm hmo
  go_enter Tryz.func25,Tryz.ntmps25
  exact kC1
theorem Zrf:Calls Tryz.prog 26 #[.agg #[.slice h.co m.cl.length h.cc,.slice h.so m.st.length h.sc,.slice h.eo m.me.length h.ec,.int .i64 m.sel],.int .i64 k] w (Zhf w (.int .i64 (Zpl m k).1) (.int .i64 (Zpl m k).2)):=by
 have HB0:=Zh (show Below w.heap.size w (w.alloc (.cells #[.slice h.co m.cl.length h.cc,.slice h.so m.st.length h.sc,.slice h.eo m.me.length h.ec,.int .i64 m.sel] 26)) by exact bE)
 have HA:=Zh (Zp5 m h k _ (H.old HB0.out))
 obtain ⟨r1,hr1⟩:∃ r,r=(Zpl m k).1:=⟨_,rfl⟩
 obtain ⟨r2,hr2⟩:∃ r,r=(Zpl m k).2:=⟨_,rfl⟩
 rw [←hr1,←hr2]
 have HX0:=Zh (Blk.new w #[.slice h.co m.cl.length h.cc,.slice h.so m.st.length h.sc,.slice h.eo m.me.length h.ec,.int .i64 m.sel] 26)
 have HH:=Zh H
 rcases hq:ZoO m k with _|_
 ·rw [hq] at HA
  have e1:r1=0:=by rw [hr1];unfold Zpl;rw [hq];rfl
  have e2:r2=1:=by rw [hr2];unfold Zpl;rw [hq];rfl
  have HE:=Zh (And.intro e1 e2)
  clear H hr1 hr2 hq e1 e2
  go_enter Tryz.func26,Tryz.ntmps26
  exact kC4
 ·rw [hq] at HA
  have hmo:=Zrb hq
  obtain ⟨hm,hk0,hk1⟩:=ZoP hq
  obtain ⟨k,rfl⟩:∃ d:Nat,k=d:=⟨k.toNat,by omega⟩
  have hkl:k<m.me.length:=by omega
  have hkl2:(k:Int) < m.me.length:=by omega
  obtain ⟨v,hv⟩:∃ v,v=ZmD (gL m) m k:=⟨_,rfl⟩
  have hbl:Bl v:=hv▸Zpi hm (k+1) k (by omega)
  have e1:r1=if v<0 then 0 else if 1000000000<v then 0 else v:=by rw [hr1,hv];unfold Zpl;rw [hq,if_pos rfl,Int.toNat_natCast];split;(· rfl);split<;>rfl
  have e2:r2=if v<0 then 3 else if 1000000000<v then 6 else 0:=by rw [hr2,hv];unfold Zpl;rw [hq,if_pos rfl,Int.toNat_natCast];split;(· rfl);split<;>rfl
  have HE:=Zh (And.intro e1 e2)
  have HT:=Zh (fun w' hb=>Zra (Zq8 hmo) true h w' (HH.out.old (w':=w') hb))
  have HV:=Zh (show (ZmC (gR true Zmx m) m m.me.length).getD k 0=v by rw [ZmF _ _ hkl,Zrc hmo hkl,hv])
  have HBl:=Zh hbl
  clear H hr1 hr2 hq e1 e2 hv hm hmo hbl
  go_enter Tryz.func26,Tryz.ntmps26
  by_cases hv1:v=-1
  ·rw [if_pos (by omega),if_pos (by omega)] at HE
   go_wp2_with (first
    | (go_at_call 46;refine HA.out.mono ?_;rintro e w1 ⟨rfl,hb1⟩;have HB1:=Zh (Zaf HB0.out hb1);have HX1:=Zh (HX0.out.old hb1);have x0:=HX1.out.cell 0 (v:=.slice h.co m.cl.length h.cc) rfl;have x1:=HX1.out.cell 1 (v:=.slice h.so m.st.length h.sc) rfl;have x2:=HX1.out.cell 2 (v:=.slice h.eo m.me.length h.ec) rfl;have x3:=HX1.out.cell 3 (v:=.int .i64 m.sel) rfl;clear hb1)
    | (go_at_call 55;refine (HT.out _ HB1.out).mono ?_;rintro e w2 ⟨⟨B,g,rfl,hR⟩,hb2⟩;have HB2:=Zh (Zaf HB1.out hb2);have t6:=hR.tb.cell 6 (v:=.slice (some ⟨g,0,none⟩) m.me.length m.me.length) rfl;have lB:=hR.tb.lt;have n0:=Zon hR.nb (k:=k) (by rw [ZmE];exact hkl);rw [HV.out] at n0;clear hb2 hR x0 x1 x2 x3))
   go_ret2
   exact Zhg (ZcY HE.out.1.symm) (ZcY HE.out.2.symm) HB2.out
  ·have hv2:¬ v<0:=by have:=HBl.out.1;omega
   rw [if_neg hv2,if_neg hv2] at HE
   exact kC1
end
end
section
open Go.RowKit
def Zrg (l:List Int):Bool:=l.any fun v=>decide (1000000000<v)
def Zrh (m:Md):List Int × Int:=if (Zl6 m).2.2=0 then (if Zrg (ZmC (gW Zmx m) m m.me.length)=true then ([],6) else (ZmC (gW Zmx m) m m.me.length,0)) else ([],1)
theorem Zri (G:(Int→Int)→Wg) (m:Md) (k:Nat):ZmC G m (k+1)=ZmC G m k++[ZmD G m k]:=by
 rw [ZoH]
 rfl
theorem Zrj {L:List Int}{k:Nat} (hk:k<L.length) (h:1000000000<L.getD k 0):Zrg L=true:=List.any_eq_true.2 ⟨L.getD k 0,Zqe hk,by simpa using h⟩
theorem Zrk {L:List Int} (h:∀ k,k<L.length→¬ 1000000000<L.getD k 0):Zrg L=false:=by
 unfold Zrg
 rw [List.any_eq_false]
 intro x hx
 obtain ⟨k,hk,e⟩:=List.getElem_of_mem hx
 have:=h k hk
 simp [hk,e] at this
 simpa using this
theorem Zrl {w:World}{base:Nat}{e:TypeId}{size:Nat}{v:Value}{n:Nat}{xs:List Value} (h:w.ownsRow base e size v n xs) {M:Nat} (hm:IsMap w M):some M≠v.ownBlock:=by
 intro q
 obtain ⟨es,c,hm⟩:=hm
 rcases h.2 with ⟨hv,_⟩|⟨g,c,cur,hv,_,hg,_⟩
 ·rw [hv] at q;cases q
 ·rw [hv] at q
  have e':M=g:=Option.some.inj q
  subst e'
  rw [hm] at hg
  cases hg
theorem Zrm {w w':World}{base:Nat}{e:TypeId}{size:Nat}{v:Value}{n:Nat}{xs:List Value} (h:w.ownsRow base e size v n xs) {M:Nat} (hm:IsMap w M) (hu:Upd M M w w'):w'.ownsRow base e size v n xs:=
 ZhH h fun k hk=>hu.block k (h.lt k hk).2 (fun q=>Zrl h hm (by rw [←q,hk])) (fun q=>Zrl h hm (by rw [←q,hk]))
theorem Znz.grown {w w8:World}{B M:Nat}{h:Hd}{m:Md}{F:Value}{sc:Bool}{T:Nat→Int}{Q:Nat→Prop} (H:Znz w B M h m F sc T Q) {o:Obj}{base:Nat}{e:TypeId}{size:Nat}{v:Value}{n:Nat}{xs:List Value} (ho:w.ownsRow base e size v n xs) (hg:(w.alloc o).grownBy w8 v.ownBlock) (ht:e≠103) (hmd:Zay w8 h m):Znz w8 B M h m F sc T Q:=by
 have hlt:=H.kn.map.lt
 have hb:Below w.heap.size w (w.alloc o):=(Below.refl _ _).alloc (Nat.le_refl _) o
 exact ⟨ZqG ho hg H.wk ht,hmd,H.kn.eq ((hg.block M (Nat.lt_of_lt_of_le hlt hb.size) (Zrl ho H.kn.map)).trans (hb.block M hlt))⟩
theorem Zrn {m:Md} (h:(Zl6 m).2.2=0):ZmC (gR false Zmx m) m m.me.length=ZmC (gW Zmx m) m m.me.length:=by
 refine List.ext_getElem (by rw [ZmE,ZmE]) fun k h1 h2=>?_
 have h3:k<m.me.length:=by rwa [ZmE] at h1
 have e1:=ZmF (gR false Zmx m) m h3
 have e2:=ZmF (gW Zmx m) m h3
 rw [Zrd h h3,←e2] at e1
 simpa [h1,h2] using e1
def Zro (W:World) (l:List Int) (er:Int):Ending→World→Prop:=fun en w'=>(∃ ao cap,en=.returned (.tuple #[.slice ao l.length cap,.int .i64 er])∧Zar w' ao cap l)∧Below W.heap.size W w'
section
variable (m:Md) (h:Hd) (w:World) (H:Zay w h m)
include H
theorem Zrp:Calls Tryz.prog 27 #[.agg #[.slice h.co m.cl.length h.cc,.slice h.so m.st.length h.sc,.slice h.eo m.me.length h.ec,.int .i64 m.sel]] w (Zij w (Zrh m).1 (Zrh m).2):=by
 obtain ⟨w0,hw0⟩:∃ w0,w0=w.alloc (.cells #[.slice h.co m.cl.length h.cc,.slice h.so m.st.length h.sc,.slice h.eo m.me.length h.ec,.int .i64 m.sel] 26):=⟨_,rfl⟩
 have HB:=Zh (show Below w.heap.size w w0 by rw [hw0];exact bE)
 have HX:=Zh (show Blk w0 w.heap.size #[.slice h.co m.cl.length h.cc,.slice h.so m.st.length h.sc,.slice h.eo m.me.length h.ec,.int .i64 m.sel] 26 by rw [hw0];exact Blk.new _ _ _)
 have HM:=Zh (H.old HB.out)
 have HH:=Zh H
 have HW:=Zh hw0
 have HV:=Zh (Zl9 w0 h m HM.out)
 by_cases hz:(Zl6 m).2.2=0
 rotate_left
 ·have e1:Zrh m=([],1):=by unfold Zrh;rw [if_neg hz]
  rw [e1]
  obtain ⟨⟨z0,z1,z2⟩,hq⟩:∃ z,z=Zl6 m:=⟨_,rfl⟩
  rw [←hq] at HV hz
  dsimp only at hz
  clear hw0 H hq e1
  go_enter Tryz.func27,Tryz.ntmps27
  go_upto_region 1 with fail
  rw [←HW.out]
  obtain ⟨x0,x1,x2,x3⟩:=Zj4 HX.out
  go_wp2_with (go_at_call 60;refine HV.out.mono ?_;rintro e w1 ⟨rfl,hb1⟩)
  go_ret2
  exact ⟨⟨none,0,rfl,Zar.nil _,fun _ e=>by cases e⟩,Zaf HB.out hb1⟩
 have hm:=(ZqT hz).1
 have hsz:=(Zqi hm).2
 obtain ⟨⟨z0,z1,z2⟩,hq⟩:∃ z,z=Zl6 m:=⟨_,rfl⟩
 rw [←hq] at HV
 obtain rfl:z2=0:=by rw [←hq] at hz;exact hz
 have HMe:=Zh (fun B M W0 k hk=>ZoC (B:=B) (M:=M) (h:=h) (ZoS hm W0) (k+1) k (by omega) hk)
 have HVb:=Zh (fun k=>ZoI hm (x:=Zmx) (fun k hk i hi=>ZoD ((ZfN hm hk).i i hi).1) (by decide) (k+1) k (by omega))
 have HE:=Zh (show Zrh m=if Zrg (ZmC (gW Zmx m) m m.me.length)=true then ([],6) else (ZmC (gW Zmx m) m m.me.length,0) by unfold Zrh;rw [if_pos (by rw [←hq])])
 generalize Zrh m=q at HE ⊢
 clear hw0 H hq hm hz
 go_enter Tryz.func27,Tryz.ntmps27
 go_upto_region 1 with fail
 rw [←HW.out]
 obtain ⟨x0,x1,x2,x3⟩:=Zj4 HX.out
 go_upto_region 6 with (first
  | (go_at_call 60;refine HV.out.mono ?_;rintro e w1 ⟨rfl,hb1⟩;have HB1:=Zh hb1;clear hb1 x0 x1 x2 x3;obtain ⟨x0,x1,x2,x3⟩:=Zj4 (HX.out.old HB1.out))
  | (go_at_call 51;refine (ZoN m h _ (HM.out.old HB1.out)).mono ?_;rintro e w2 ⟨B,M,rfl,hb2,hM2,hW2⟩;have HB2:=Zh (Zaf HB.out (Zaf HB1.out hb2));have HM2:=Zh (Nat.le_trans (Zaf HB.out HB1.out).size hM2);clear hM2;have HW2:=Zh hW2;have HX2:=Zh (HX.out.old (Zaf HB1.out hb2));clear hb2 hW2 x0 x1 x2 x3))
 obtain ⟨x0,x1,x2,x3⟩:=Zj4 HX2.out
 go_upto_region 7 with fail
 clear x0 x1 x2 x3
 go_wp2
 go_loopw [8,25] (fun out i wr=>∃ (k:Nat) (ao:Option Addr) (cap:Nat),k≤m.me.length∧i=.int .i64 k∧out=.slice ao k cap∧Hid (wr.ownsRow w.heap.size 3 1 (.slice ao k cap) k (Zak (ZmC (gW Zmx m) m k)))∧Hid (∀ j,j<k→ZmD (gW Zmx m) m j≤1000000000)∧Hid (∃ Q,Znz wr B M h m ZoL false (ZmD (gW Zmx m) m) Q)∧Hid (Below w.heap.size w wr)) (fun _ i _=>m.me.length-(intOf i).toNat)
 case atStart=>exact ⟨0,none,0,Nat.zero_le _,rfl,rfl,World.ownsRow_nil _ _ _ _,fun j h=>by omega,⟨_,HW2.out _⟩,HB2.out⟩
 case round=>
  obtain ⟨k,ao,cap,hk,rfl,rfl,HO,HN,HWs,HBr⟩:=hrel
  rename World=>wo
  by_cases hkl:k<m.me.length
  ·have hkl2:(k:Int) < m.me.length:=by omega
   have hwk:IntKind.i64.wrap ((k:Int)+1)=((k+1:Nat):Int):=IntWalk.i64_in _ (by omega)
   obtain ⟨Q,hws⟩:=HWs.out
   have HWq:=Zh hws
   clear hws
   obtain ⟨v,hv⟩:∃ v,v=ZmD (gW Zmx m) m k:=⟨_,rfl⟩
   have HVv:=Zh hv
   clear hv
   by_cases hvl:1000000000<v
   ·go_wp2_with (first
     | (go_at_call 52;refine (HMe.out B M _ k hkl _ _ HWq.out (Znv.refl _)).mono ?_;rintro e w3 ⟨rfl,hu3,hn3⟩;rw [←HVv.out];have HB3:=Zh (hu3.below HBr.out (Nat.le_refl _) HM2.out HM2.out);clear hu3 hn3)
     | (go_at_call 50;refine (Znd v _).mono ?_;rintro e w4 ⟨rfl,hb4⟩;have HB4:=Zh (Zaf HB3.out hb4);clear hb4))
    go_ret2
    have e1:q=([],6):=by rw [HE.out,if_pos (Zrj (k:=k) (by rw [ZmE];exact hkl) (by rw [ZmF _ _ hkl,←HVv.out];exact hvl))]
    rw [e1]
    exact ⟨⟨none,0,rfl,Zar.nil _,fun _ e=>by cases e⟩,HB4.out⟩
   ·go_wp2_with (first
     | (go_at_call 52;refine (HMe.out B M _ k hkl _ _ HWq.out (Znv.refl _)).mono ?_;rintro e w3 ⟨rfl,hu3,hn3⟩;rw [←HVv.out];have HB3:=Zh (hu3.below HBr.out (Nat.le_refl _) HM2.out HM2.out);have HO3:=Zh (Zrm HO.out HWq.out.kn.map hu3);have HW3:=Zh (HWq.out.next hu3 hn3);clear hu3 hn3)
     | (go_at_call 50;refine (Znd v _).mono ?_;rintro e w4 ⟨rfl,hb4⟩;have HB4:=Zh (Zaf HB3.out hb4);have HO4:=Zh (ZqC HO3.out hb4);have HW4:=Zh (HW3.out.old hb4);clear hb4)
     | (at_builtin;refine Zaj rfl (.tmp 38) (.tmp 40) 29 rfl w.heap.size 3 1 8 Zcq (.slice ao k cap) k (Zak (ZmC (gW Zmx m) m k)) rfl (HO4.out.alloc _) _ 1 1 [.int .i64 v] rfl (ZdL (Blk.new' #[.int .i64 v] 3 (by simp)) rfl) (by intro u hu;simp only [List.mem_cons,List.not_mem_nil,or_false] at hu;subst hu;rfl) (by omega) (by unfold maxLen;omega) (by have:=HB4.out.size;simp;omega) ?_;intro ao2 cap2 w10 hown9 hg9;have HO9:=Zh hown9;have HB9:=Zh (ZcV (bal HB4.out _) hg9 (fun j hj=>(HO4.out.lt j hj).1));have HW9:=Zh (HW4.out.grown HO4.out hg9 (by decide) (HH.out.old (ZcV (bal HB4.out _) hg9 (fun j hj=>(HO4.out.lt j hj).1))));clear hown9 hg9))
    refine ⟨⟨k+1,ao2,cap2,by omega,rfl,rfl,?_,fun j hj=>?_,⟨_,HW9.out⟩,HB9.out⟩,by simp [intOf];omega⟩
    ·rw [Zri,Zan,←HVv.out]
     exact HO9.out
    ·by_cases e:j=k
     ·subst e;rw [←HVv.out];omega
     ·exact HN.out j (by omega)
  ·obtain rfl:k=m.me.length:=by omega
   have hj5:¬ (m.me.length:Int) < m.me.length:=by omega
   go_wp2
   go_ret2
   have e1:q=(ZmC (gW Zmx m) m m.me.length,0):=by
    rw [HE.out,if_neg]
    rw [Zrk (fun k hk=>by rw [ZmE] at hk;rw [ZmF _ _ hk];have:=HN.out k hk;omega)]
    decide
   rw [e1]
   exact ⟨⟨ao,cap,by show _=Ending.returned (.tuple #[.slice ao (ZmC (gW Zmx m) m m.me.length).length cap,.int .i64 0]);rw [ZmE];rfl,Zar.of_own (by rw [ZmE];exact HO.out),fun a ha=>(ZqJ HO.out a ha).1⟩,HBr.out⟩
theorem Zrq:Calls Tryz.prog 28 #[.agg #[.slice h.co m.cl.length h.cc,.slice h.so m.st.length h.sc,.slice h.eo m.me.length h.ec,.int .i64 m.sel]] w (Zro w (Zrh m).1 (Zrh m).2):=by
 obtain ⟨w0,hw0⟩:∃ w0,w0=w.alloc (.cells #[.slice h.co m.cl.length h.cc,.slice h.so m.st.length h.sc,.slice h.eo m.me.length h.ec,.int .i64 m.sel] 26):=⟨_,rfl⟩
 have HB:=Zh (show Below w.heap.size w w0 by rw [hw0];exact bE)
 have HX:=Zh (show Blk w0 w.heap.size #[.slice h.co m.cl.length h.cc,.slice h.so m.st.length h.sc,.slice h.eo m.me.length h.ec,.int .i64 m.sel] 26 by rw [hw0];exact Blk.new _ _ _)
 have HM:=Zh (H.old HB.out)
 have HW:=Zh hw0
 have HV:=Zh (Zp4 m h w0 HM.out)
 by_cases hz:(Zl6 m).2.2=0
 rotate_left
 ·have e1:Zrh m=([],1):=by unfold Zrh;rw [if_neg hz]
  rw [e1]
  rw [if_neg hz] at HV
  clear hw0 H hz e1
  go_enter Tryz.func28,Tryz.ntmps28
  go_upto_region 1 with fail
  rw [←HW.out]
  obtain ⟨x0,x1,x2,x3⟩:=Zj4 HX.out
  go_wp2_with (go_at_call 61;refine HV.out.mono ?_;rintro e w1 ⟨rfl,hb1⟩)
  go_ret2
  exact ⟨⟨none,0,rfl,Zar.nil _⟩,Zaf HB.out hb1⟩
 have hsz:=(Zqi (ZqT hz).1).2
 rw [if_pos hz] at HV
 have HT:=Zh (fun w' hb=>Zra (Zq8 hz) false h w' (HM.out.old (w':=w') hb))
 rw [Zrn hz] at HT
 have HE:=Zh (show Zrh m=if Zrg (ZmC (gW Zmx m) m m.me.length)=true then ([],6) else (ZmC (gW Zmx m) m m.me.length,0) by unfold Zrh;rw [if_pos hz])
 obtain ⟨L,hL⟩:∃ L,L=ZmC (gW Zmx m) m m.me.length:=⟨_,rfl⟩
 have hl:L.length=m.me.length:=by rw [hL,ZmE]
 rw [←hL] at HT HE
 have HLl:=Zh hl
 generalize Zrh m=q at HE ⊢
 clear hw0 H hz hL hl
 go_enter Tryz.func28,Tryz.ntmps28
 go_upto_region 1 with fail
 rw [←HW.out]
 obtain ⟨x0,x1,x2,x3⟩:=Zj4 HX.out
 go_upto_region 5 with (first
  | (go_at_call 61;refine HV.out.mono ?_;rintro e w1 ⟨rfl,hb1⟩;have HB1:=Zh hb1;clear hb1 x0 x1 x2 x3;obtain ⟨x0,x1,x2,x3⟩:=Zj4 (HX.out.old HB1.out))
  | (go_at_call 55;refine (HT.out _ HB1.out).mono ?_;rintro e w2 ⟨⟨B,g,rfl,hR⟩,hb2⟩;have HB2:=Zh (Zaf HB.out (Zaf HB1.out hb2));have t6:=hR.tb.cell 6 (v:=.slice (some ⟨g,0,none⟩) m.me.length m.me.length) rfl;have lB:=hR.tb.lt;have HNb:=Zh hR.nb;clear hb2 hR x0 x1 x2 x3))
 clear t6 lB
 go_wp2
 go_loopw [6] (fun i wr=>∃ k:Nat,k≤m.me.length∧i=.int .i64 k∧Hid (∀ j,j<k→L.getD j 0≤1000000000)∧Hid (Below w2.heap.size w2 wr)) (fun i _=>m.me.length-(intOf i).toNat)
 case atStart=>exact ⟨0,Nat.zero_le _,rfl,fun j h=>by omega,Below.refl _ _⟩
 case round=>
  obtain ⟨k,hk,rfl,HN,HBr⟩:=hrel
  rename World=>wo
  by_cases hkl:k<m.me.length
  ·have hkl2:(k:Int) < m.me.length:=by omega
   have hwk:IntKind.i64.wrap ((k:Int)+1)=((k+1:Nat):Int):=IntWalk.i64_in _ (by omega)
   have n0:=Zon (HNb.out.old HBr.out) (k:=k) (by have:=HLl.out;omega)
   obtain ⟨v,hv⟩:∃ v,v=L.getD k 0:=⟨_,rfl⟩
   rw [←hv] at n0
   have HVv:=Zh hv
   clear hv
   by_cases hvl:v > 1000000000
   ·go_wp2
    go_ret2
    have e1:q=([],6):=by rw [HE.out,if_pos (Zrj (k:=k) (by have:=HLl.out;omega) (by rw [←HVv.out];omega))]
    rw [e1]
    exact ⟨⟨none,0,rfl,Zar.nil _⟩,Zaf HB2.out HBr.out⟩
   ·go_wp2
    exact ⟨⟨k+1,by omega,rfl,fun j hj=>by
     by_cases e:j=k
     ·subst e;rw [←HVv.out];omega
     ·exact HN.out j (by omega),HBr.out⟩,by simp [intOf];omega⟩
  ·obtain rfl:k=m.me.length:=by omega
   have hj5:¬ (m.me.length:Int) < m.me.length:=by omega
   go_wp2
   go_ret2
   have e1:q=(L,0):=by
    rw [HE.out,if_neg]
    rw [Zrk (fun k hk=>by have:=HN.out k (by have:=HLl.out;omega);omega)]
    decide
   rw [e1]
   refine ⟨⟨some ⟨g,0,none⟩,m.me.length,by show _=Ending.returned (.tuple #[.slice (some ⟨g,0,none⟩) L.length m.me.length,.int .i64 0]);rw [HLl.out];rfl,?_⟩,Zaf HB2.out HBr.out⟩
   rw [←HLl.out]
   exact Zpn (HNb.out.old HBr.out)
end
end
section
open Go.RowKit
theorem Zrr : Tryz.prog.fieldsOf 42 = #[⟨"Op", 3, 0, false, "", "", 0⟩, ⟨"A", 3, 1, false, "", "", 8⟩, ⟨"B", 3, 2, false, "", "", 16⟩] := by kernel_rfl
theorem Zrs (w:World) (a b c:Int):Sem.run Tryz.prog (binOp .neq 42 (.agg #[.int .i64 a,.int .i64 b,.int .i64 c]) (.agg #[.int .i64 a,.int .i64 b,.int .i64 c])) w=.ok (.bool false) w:=by
 have he:Sem.run Tryz.prog (Op.equalIn 10000 42 (.agg #[.int .i64 a,.int .i64 b,.int .i64 c]) (.agg #[.int .i64 a,.int .i64 b,.int .i64 c])) w=.ok true w:=by
  have hu:Tryz.prog.underlying 42=some (.struct (Tryz.prog.fieldsOf 42)):=by kernel_rfl
  rw [run_equalIn_agg _ _ _ _ _ hu (by kernel_rfl),Zrr]
  have p0:∀ (x y z:Int) w,Sem.run Tryz.prog (part 3 #[.int .i64 x,.int .i64 y,.int .i64 z] 0) w=.ok (.int .i64 x) w:=fun x y z w=>by kernel_rfl
  have p1:∀ (x y z:Int) w,Sem.run Tryz.prog (part 3 #[.int .i64 x,.int .i64 y,.int .i64 z] 1) w=.ok (.int .i64 y) w:=fun x y z w=>by kernel_rfl
  have p2:∀ (x y z:Int) w,Sem.run Tryz.prog (part 3 #[.int .i64 x,.int .i64 y,.int .i64 z] 2) w=.ok (.int .i64 z) w:=fun x y z w=>by kernel_rfl
  have hi:∀ (x y:Int) w,Sem.run Tryz.prog (Op.equalIn 9999 3 (.int .i64 x) (.int .i64 y)) w=.ok (x == y) w:=fun x y w=>run_equalIn_int w 9998 3 .i64 .i64 x y Tryz.underlying3
  simp [Op.eqFields,Sem.run_bind,p0,p1,p2,hi,Result.andThen_ok]
 rw [run_neq_struct,he];rfl
theorem Zrt (w:World) (op:BinOp) (x y:Operand) (xs ys:Array Value):Sem.run Tryz.prog (eqGuard op 42 x y (.agg xs) (.agg ys)) w=.ok () w:=run_eqGuard_agg w op 42 x y xs ys (by kernel_rfl)
theorem Zru (l:List In3) (ao bo:Option Addr) (ac bc:Nat) (w:World) (ha:Zar w ao ac l) (hb:Zar w bo bc l) (hm:l.length≤2000000):Calls Tryz.prog 96 #[.slice ao l.length ac,.slice bo l.length bc] w (Ret w (.bool true)):=by
 have HA:=Zh ha
 have HB:=Zh hb
 clear ha hb
 go_enter Tryz.func96,Tryz.ntmps96
 go_wp2
 go_loopw [5] (fun i wr=>∃ k:Nat,k≤l.length∧i=.int .i64 k∧Hid (Below w.heap.size w wr)) (fun i _=>l.length-(intOf i).toNat)
 case atStart=>exact ⟨0,Nat.zero_le _,rfl,Below.refl _ _⟩
 case round=>
  obtain ⟨k,hk,rfl,HL⟩:=hrel
  by_cases hkl:k<l.length
  ·obtain ⟨ad,rfl,x0,x1,x2⟩:=ZaA (HA.out.old HL.out) hkl
   obtain ⟨bd,rfl,y0,y1,y2⟩:=ZaA (HB.out.old HL.out) hkl
   have hkl2:(k:Int) < l.length:=by omega
   have hwr:IntKind.i64.wrap ((k:Int)+1)=((k+1:Nat):Int):=IntWalk.i64_in _ (by omega)
   generalize l.getD k default=x at x0 x1 x2 y0 y1 y2
   obtain ⟨op,a,b⟩:=x
   dsimp only at x0 x1 x2 y0 y1 y2
   have hne:=Zrs
   have hgu:=Zrt
   go_wp2
   go_quiet (fail)
   go_wp2
   exact ⟨⟨k+1,by omega,rfl,ZcU HL.out _⟩,by simp [intOf];omega⟩
  ·have hj5:¬ (k:Int) < l.length:=by omega
   go_wp2
   go_ret
   exact ZcT rfl HL.out
theorem Zrv (x:Cls) (c d:CHd) (w:World) (hf:Zar w c.fo c.fc x.f) (hf':Zar w d.fo d.fc x.f) (ht:Zar w c.mo c.mc x.m) (ht':Zar w d.mo d.mc x.m) (hz:x.f.length≤2000000∧x.m.length≤2000000) :
  Calls Tryz.prog 63 #[.agg #[.string x.n,.int .i64 x.sup,.slice c.fo x.f.length c.fc,.slice c.mo x.m.length c.mc],.agg #[.string x.n,.int .i64 x.sup,.slice d.fo x.f.length d.fc,.slice d.mo x.m.length d.mc]] w (Ret w (.bool true)):=by
 have HS:=Zh (show ∀ w',Below w.heap.size w w'→_ from fun w' hb=>by have:=Ze2 x.f x.f c.fo d.fo c.fc d.fc w' (hf.old hb) (hf'.old hb) hz.1;rwa [decide_eq_true rfl] at this)
 have HI:=Zh (show ∀ w',Below w.heap.size w w'→_ from fun w' hb=>by have:=ZpC w' c.mo d.mo c.mc d.mc x.m x.m (ht.old hb) (ht'.old hb) hz.2;rwa [decide_eq_true rfl] at this)
 clear hf hf' ht ht'
 obtain ⟨n,sup,f,l⟩:=x
 dsimp only at HS HI ⊢
 obtain ⟨W1,hW1⟩:∃ W1,W1=(w.alloc (.cells #[.string n,.int .i64 sup,.slice c.fo f.length c.fc,.slice c.mo l.length c.mc] 63)).alloc (.cells #[.string n,.int .i64 sup,.slice d.fo f.length d.fc,.slice d.mo l.length d.mc] 63):=⟨_,rfl⟩
 have HB0:=Zh (show Below w.heap.size w W1 by rw [hW1];exact bE)
 have HX:=Zh (show Blk W1 w.heap.size #[.string n,.int .i64 sup,.slice c.fo f.length c.fc,.slice c.mo l.length c.mc] 63 by rw [hW1];exact (Blk.new _ _ _).alloc _)
 have HY:=Zh (show Blk W1 (w.heap.size+1) #[.string n,.int .i64 sup,.slice d.fo f.length d.fc,.slice d.mo l.length d.mc] 63 by rw [hW1];exact Blk.new' _ _ (by simp))
 have HW:=Zh hW1
 clear hW1
 go_enter Tryz.func63,Tryz.ntmps63
 go_upto_region 1 with fail
 rw [←HW.out]
 have x0:=HX.out.cell 0 rfl;have x1:=HX.out.cell 1 rfl;have x2:=HX.out.cell 2 rfl;have x3:=HX.out.cell 3 rfl
 have y0:=HY.out.cell 0 rfl;have y1:=HY.out.cell 1 rfl;have y2:=HY.out.cell 2 rfl;have y3:=HY.out.cell 3 rfl
 go_wp2_with (first
  | (go_at_call 62;refine (HS.out _ HB0.out).mono ?_;rintro e w1 ⟨rfl,hb1⟩;have HB1:=Zh (Zaf HB0.out hb1);have x3:=(hb1.cell (Zac x3)).trans x3;have y3:=(hb1.cell (Zac y3)).trans y3;clear hb1 x0 x1 x2 y0 y1 y2)
  | (go_at_call 15;refine (HI.out _ HB1.out).mono ?_;rintro e w2 ⟨rfl,hb2⟩;have HB2:=Zh (Zaf HB1.out hb2);clear hb2))
 go_ret
 exact ZcT rfl HB2.out
theorem Zrw (x:Mth) (c d:MHd) (w:World) (hp:Zar w c.po c.pc x.p) (hp':Zar w d.po d.pc x.p) (hl:Zar w c.lo c.lc x.l) (hl':Zar w d.lo d.lc x.l) (hk:Zar w c.ko c.kc x.k) (hk':Zar w d.ko d.kc x.k) (hz:x.p.length≤2000000∧x.l.length≤2000000∧x.k.length≤2000000) :
  Calls Tryz.prog 64 #[.agg #[.string x.n,.int .i64 x.c,.slice c.po x.p.length c.pc,.slice c.lo x.l.length c.lc,.int .i64 x.r.k,.int .i64 x.r.c,.slice c.ko x.k.length c.kc],.agg #[.string x.n,.int .i64 x.c,.slice d.po x.p.length d.pc,.slice d.lo x.l.length d.lc,.int .i64 x.r.k,.int .i64 x.r.c,.slice d.ko x.k.length d.kc]] w (Ret w (.bool true)):=by
 have HS:=Zh (show ∀ w',Below w.heap.size w w'→_ from fun w' hb=>by have:=Ze2 x.p x.p c.po d.po c.pc d.pc w' (hp.old hb) (hp'.old hb) hz.1;rwa [decide_eq_true rfl] at this)
 have HI:=Zh (show ∀ w',Below w.heap.size w w'→_ from fun w' hb=>by have:=Ze2 x.l x.l c.lo d.lo c.lc d.lc w' (hl.old hb) (hl'.old hb) hz.2.1;rwa [decide_eq_true rfl] at this)
 have HK:=Zh (fun w' hb=>Zru x.k c.ko d.ko c.kc d.kc w' (hk.old (w':=w') hb) (hk'.old hb) hz.2.2)
 clear hp hp' hl hl' hk hk'
 obtain ⟨n,mc,p,l,⟨rk,rc⟩,k⟩:=x
 dsimp only at HS HI HK ⊢
 have heq:=ZdV
 have hgu:=ZdX
 obtain ⟨W1,hW1⟩:∃ W1,W1=(w.alloc (.cells #[.string n,.int .i64 mc,.slice c.po p.length c.pc,.slice c.lo l.length c.lc,.int .i64 rk,.int .i64 rc,.slice c.ko k.length c.kc] 38)).alloc (.cells #[.string n,.int .i64 mc,.slice d.po p.length d.pc,.slice d.lo l.length d.lc,.int .i64 rk,.int .i64 rc,.slice d.ko k.length d.kc] 38):=⟨_,rfl⟩
 have HB0:=Zh (show Below w.heap.size w W1 by rw [hW1];exact bE)
 have HX:=Zh (show Blk W1 w.heap.size #[.string n,.int .i64 mc,.slice c.po p.length c.pc,.slice c.lo l.length c.lc,.int .i64 rk,.int .i64 rc,.slice c.ko k.length c.kc] 38 by rw [hW1];exact (Blk.new _ _ _).alloc _)
 have HY:=Zh (show Blk W1 (w.heap.size+1) #[.string n,.int .i64 mc,.slice d.po p.length d.pc,.slice d.lo l.length d.lc,.int .i64 rk,.int .i64 rc,.slice d.ko k.length d.kc] 38 by rw [hW1];exact Blk.new' _ _ (by simp))
 have HW:=Zh hW1
 clear hW1
 go_enter Tryz.func64,Tryz.ntmps64
 go_upto_region 1 with fail
 rw [←HW.out]
 have x0:=HX.out.cell 0 rfl;have x1:=HX.out.cell 1 rfl;have x2:=HX.out.cell 2 rfl;have x3:=HX.out.cell 3 rfl;have x4:=HX.out.cell 4 rfl;have x5:=HX.out.cell 5 rfl;have x6:=HX.out.cell 6 rfl
 have y0:=HY.out.cell 0 rfl;have y1:=HY.out.cell 1 rfl;have y2:=HY.out.cell 2 rfl;have y3:=HY.out.cell 3 rfl;have y4:=HY.out.cell 4 rfl;have y5:=HY.out.cell 5 rfl;have y6:=HY.out.cell 6 rfl
 go_wp2_with (first
  | (have h0:=HS;clear HS;go_at_call 62;refine (h0.out _ HB0.out).mono ?_;rintro e w1 ⟨rfl,hb1⟩;have HB1:=Zh (Zaf HB0.out hb1);have x3:=(hb1.cell (Zac x3)).trans x3;have y3:=(hb1.cell (Zac y3)).trans y3;have x4:=(hb1.cell (Zac x4)).trans x4;have y4:=(hb1.cell (Zac y4)).trans y4;have x5:=(hb1.cell (Zac x5)).trans x5;have y5:=(hb1.cell (Zac y5)).trans y5;have x6:=(hb1.cell (Zac x6)).trans x6;have y6:=(hb1.cell (Zac y6)).trans y6;clear hb1 x0 x1 x2 y0 y1 y2)
  | (go_at_call 62;refine (HI.out _ HB1.out).mono ?_;rintro e w2 ⟨rfl,hb2⟩;have HB2:=Zh (Zaf HB1.out hb2);have x4:=(hb2.cell (Zac x4)).trans x4;have y4:=(hb2.cell (Zac y4)).trans y4;have x5:=(hb2.cell (Zac x5)).trans x5;have y5:=(hb2.cell (Zac y5)).trans y5;have x6:=(hb2.cell (Zac x6)).trans x6;have y6:=(hb2.cell (Zac y6)).trans y6;clear hb2 x3 y3)
  | (go_at_call 96;refine (HK.out _ HB2.out).mono ?_;rintro e w3 ⟨rfl,hb3⟩;have HB3:=Zh (Zaf HB2.out hb3);clear hb3))
 go_ret
 exact ZcT rfl HB3.out
theorem Zrx (m:Md) (h d:Hd) (w:World) (H:Zay w h m) (D:Zay w d m) (hs:Zqz m):Calls Tryz.prog 29 #[.agg #[.slice h.co m.cl.length h.cc,.slice h.so m.st.length h.sc,.slice h.eo m.me.length h.ec,.int .i64 m.sel],.agg #[.slice d.co m.cl.length d.cc,.slice d.so m.st.length d.sc,.slice d.eo m.me.length d.ec,.int .i64 m.sel]] w (Ret w (.bool true)):=by
 obtain ⟨W1,hW1⟩:∃ W1,W1=(w.alloc (.cells #[.slice h.co m.cl.length h.cc,.slice h.so m.st.length h.sc,.slice h.eo m.me.length h.ec,.int .i64 m.sel] 26)).alloc (.cells #[.slice d.co m.cl.length d.cc,.slice d.so m.st.length d.sc,.slice d.eo m.me.length d.ec,.int .i64 m.sel] 26):=⟨_,rfl⟩
 have HB0:=Zh (show Below w.heap.size w W1 by rw [hW1];exact bE)
 have HX:=Zh (show Blk W1 w.heap.size #[.slice h.co m.cl.length h.cc,.slice h.so m.st.length h.sc,.slice h.eo m.me.length h.ec,.int .i64 m.sel] 26 by rw [hW1];exact (Blk.new _ _ _).alloc _)
 have HY:=Zh (show Blk W1 (w.heap.size+1) #[.slice d.co m.cl.length d.cc,.slice d.so m.st.length d.sc,.slice d.eo m.me.length d.ec,.int .i64 m.sel] 26 by rw [hW1];exact Blk.new' _ _ (by simp))
 have HM:=Zh (H.old HB0.out)
 have HD:=Zh (D.old HB0.out)
 have HS:=Zh (show ∀ w',Below W1.heap.size W1 w'→_ from fun w' hb=>by have:=Ze2 m.st m.st h.so d.so h.sc d.sc w' (HM.out.st.old hb) (HD.out.st.old hb) hs.st;rwa [decide_eq_true rfl] at this)
 have HSm:=Zh hs
 have HW:=Zh hW1
 have hc1:=hs.cl
 have hc2:=hs.me
 clear hW1 H D hs
 go_enter Tryz.func29,Tryz.ntmps29
 go_upto_region 1 with fail
 rw [←HW.out]
 obtain ⟨x0,x1,x2,x3⟩:=Zj4 HX.out
 obtain ⟨y0,y1,y2,y3⟩:=Zj4 (h:=d) HY.out
 go_upto_region 3 with (go_at_call 62;refine (HS.out _ (Below.refl _ _)).mono ?_;rintro e w1 ⟨rfl,hb1⟩;have HB1:=Zh hb1;clear hb1)
 clear x0 x1 x2 x3 y0 y1 y2 y3
 go_wp2
 go_loopw [5] (fun i wr=>∃ k:Nat,k≤m.cl.length∧i=.int .i64 k∧Hid (Below W1.heap.size W1 wr)) (fun i _=>m.cl.length-(intOf i).toNat)
 case atStart=>exact ⟨0,Nat.zero_le _,rfl,HB1.out⟩
 case round=>
  obtain ⟨k,hk,rfl,HBr⟩:=hrel
  rename World=>wo
  have x0:=(HX.out.old HBr.out).cell 0 (v:=.slice h.co m.cl.length h.cc) rfl
  have y0:=(HY.out.old HBr.out).cell 0 (v:=.slice d.co m.cl.length d.cc) rfl
  by_cases hkl:k<m.cl.length
  ·have hkl2:(k:Int) < m.cl.length:=by omega
   have hwk:IntKind.i64.wrap ((k:Int)+1)=((k+1:Nat):Int):=IntWalk.i64_in _ (by omega)
   obtain ⟨ad,had,a0,a1,a2,a3⟩:=(HM.out.old HBr.out).cls hkl
   obtain ⟨bd,hbd,b0,b1,b2,b3⟩:=(HD.out.old HBr.out).cls hkl
   rw [had] at x0
   rw [hbd] at y0
   have HCl:=Zh (fun w' hb=>Zrv (m.cl.getD k default) (h.c k) (d.c k) w' ((HM.out.old (w':=w') hb).f k hkl) ((HD.out.old hb).f k hkl) ((HM.out.old hb).t k hkl) ((HD.out.old hb).t k hkl) (HSm.out.c k hkl))
   generalize m.cl.getD k default=x at a0 a1 a2 a3 b0 b1 b2 b3 HCl
   obtain ⟨n,sup,f,l⟩:=x
   dsimp only at a0 a1 a2 a3 b0 b1 b2 b3 HCl
   clear had hbd
   go_upto_region 6 with fail
   have HCs:=Zh (show Cs [(⟨w.heap.size,0,none⟩,.slice (some ad) m.cl.length h.cc),(⟨w.heap.size+1,0,none⟩,.slice (some bd) m.cl.length d.cc),(ad.add (k*4),.string n),(⟨(ad.add (k*4)).block,(ad.add (k*4)).off+1,none⟩,.int .i64 sup),(⟨(ad.add (k*4)).block,(ad.add (k*4)).off+2,none⟩,.slice (h.c k).fo f.length (h.c k).fc),(⟨(ad.add (k*4)).block,(ad.add (k*4)).off+3,none⟩,.slice (h.c k).mo l.length (h.c k).mc),(bd.add (k*4),.string n),(⟨(bd.add (k*4)).block,(bd.add (k*4)).off+1,none⟩,.int .i64 sup),(⟨(bd.add (k*4)).block,(bd.add (k*4)).off+2,none⟩,.slice (d.c k).fo f.length (d.c k).fc),(⟨(bd.add (k*4)).block,(bd.add (k*4)).off+3,none⟩,.slice (d.c k).mo l.length (d.c k).mc)] wo from ⟨x0,y0,a0,a1,a2,a3,b0,b1,b2,b3,trivial⟩)
   refine rO (Cs [(⟨w.heap.size,0,none⟩,.slice (some ad) m.cl.length h.cc),(⟨w.heap.size+1,0,none⟩,.slice (some bd) m.cl.length d.cc),(ad.add (k*4),.string n),(⟨(ad.add (k*4)).block,(ad.add (k*4)).off+1,none⟩,.int .i64 sup),(⟨(ad.add (k*4)).block,(ad.add (k*4)).off+2,none⟩,.slice (h.c k).fo f.length (h.c k).fc),(⟨(ad.add (k*4)).block,(ad.add (k*4)).off+3,none⟩,.slice (h.c k).mo l.length (h.c k).mc),(bd.add (k*4),.string n),(⟨(bd.add (k*4)).block,(bd.add (k*4)).off+1,none⟩,.int .i64 sup),(⟨(bd.add (k*4)).block,(bd.add (k*4)).off+2,none⟩,.slice (d.c k).fo f.length (d.c k).fc),(⟨(bd.add (k*4)).block,(bd.add (k*4)).off+3,none⟩,.slice (d.c k).mo l.length (d.c k).mc)]) (oL [0,1,2,3,4,5,6,7,8,9,110,11]) ⟨x0,y0,a0,a1,a2,a3,b0,b1,b2,b3,trivial⟩ ?_
   clear x0 y0 a0 a1 a2 a3 b0 b1 b2 b3
   exact kC2
  ·obtain rfl:k=m.cl.length:=by omega
   have hj5:¬ (m.cl.length:Int) < m.cl.length:=by omega
   go_wp2
   clear x0 y0
   go_loopw [6] (fun i wr=>∃ k:Nat,k≤m.me.length∧i=.int .i64 k∧Hid (Below W1.heap.size W1 wr)) (fun i _=>m.me.length-(intOf i).toNat)
   case atStart=>exact ⟨0,Nat.zero_le _,rfl,HBr.out⟩
   case round=>
    obtain ⟨k,hk,rfl,HBr⟩:=hrel
    rename World=>wo
    have x0:=(HX.out.old HBr.out).cell 2 (v:=.slice h.eo m.me.length h.ec) rfl
    have y0:=(HY.out.old HBr.out).cell 2 (v:=.slice d.eo m.me.length d.ec) rfl
    by_cases hkl:k<m.me.length
    ·have hkl2:(k:Int) < m.me.length:=by omega
     have hwk:IntKind.i64.wrap ((k:Int)+1)=((k+1:Nat):Int):=IntWalk.i64_in _ (by omega)
     obtain ⟨ad,had,a0,a1,a2,a3,a4,a5,a6⟩:=(HM.out.old HBr.out).mth hkl
     obtain ⟨bd,hbd,b0,b1,b2,b3,b4,b5,b6⟩:=(HD.out.old HBr.out).mth hkl
     rw [had] at x0
     rw [hbd] at y0
     have HCl:=Zh (fun w' hb=>Zrw (m.me.getD k default) (h.e k) (d.e k) w' ((HM.out.old (w':=w') hb).p k hkl) ((HD.out.old hb).p k hkl) ((HM.out.old hb).l k hkl) ((HD.out.old hb).l k hkl) ((HM.out.old hb).k k hkl) ((HD.out.old hb).k k hkl) (HSm.out.m k hkl))
     generalize m.me.getD k default=x at a0 a1 a2 a3 a4 a5 a6 b0 b1 b2 b3 b4 b5 b6 HCl
     obtain ⟨n,mc,p,l,⟨rk,rc⟩,c⟩:=x
     dsimp only at a0 a1 a2 a3 a4 a5 a6 b0 b1 b2 b3 b4 b5 b6 HCl
     clear had hbd
     go_upto_region 11 with fail
     have HCs:=Zh (show (Cs [(⟨w.heap.size,2,none⟩,.slice (some ad) m.me.length h.ec),(⟨w.heap.size+1,2,none⟩,.slice (some bd) m.me.length d.ec),(ad.add (k*7),.string n),(⟨(ad.add (k*7)).block,(ad.add (k*7)).off+1,none⟩,.int .i64 mc),(⟨(ad.add (k*7)).block,(ad.add (k*7)).off+2,none⟩,.slice (h.e k).po p.length (h.e k).pc),(⟨(ad.add (k*7)).block,(ad.add (k*7)).off+3,none⟩,.slice (h.e k).lo l.length (h.e k).lc),(⟨(ad.add (k*7)).block,(ad.add (k*7)).off+4,none⟩,.int .i64 rk),(⟨(ad.add (k*7)).block,(ad.add (k*7)).off+5,none⟩,.int .i64 rc),(⟨(ad.add (k*7)).block,(ad.add (k*7)).off+6,none⟩,.slice (h.e k).ko c.length (h.e k).kc),(bd.add (k*7),.string n),(⟨(bd.add (k*7)).block,(bd.add (k*7)).off+1,none⟩,.int .i64 mc),(⟨(bd.add (k*7)).block,(bd.add (k*7)).off+2,none⟩,.slice (d.e k).po p.length (d.e k).pc),(⟨(bd.add (k*7)).block,(bd.add (k*7)).off+3,none⟩,.slice (d.e k).lo l.length (d.e k).lc),(⟨(bd.add (k*7)).block,(bd.add (k*7)).off+4,none⟩,.int .i64 rk),(⟨(bd.add (k*7)).block,(bd.add (k*7)).off+5,none⟩,.int .i64 rc),(⟨(bd.add (k*7)).block,(bd.add (k*7)).off+6,none⟩,.slice (d.e k).ko c.length (d.e k).kc)]) wo from ⟨x0,y0,a0,a1,a2,a3,a4,a5,a6,b0,b1,b2,b3,b4,b5,b6,trivial⟩)
     refine rO (Cs [(⟨w.heap.size,2,none⟩,.slice (some ad) m.me.length h.ec),(⟨w.heap.size+1,2,none⟩,.slice (some bd) m.me.length d.ec),(ad.add (k*7),.string n),(⟨(ad.add (k*7)).block,(ad.add (k*7)).off+1,none⟩,.int .i64 mc),(⟨(ad.add (k*7)).block,(ad.add (k*7)).off+2,none⟩,.slice (h.e k).po p.length (h.e k).pc),(⟨(ad.add (k*7)).block,(ad.add (k*7)).off+3,none⟩,.slice (h.e k).lo l.length (h.e k).lc),(⟨(ad.add (k*7)).block,(ad.add (k*7)).off+4,none⟩,.int .i64 rk),(⟨(ad.add (k*7)).block,(ad.add (k*7)).off+5,none⟩,.int .i64 rc),(⟨(ad.add (k*7)).block,(ad.add (k*7)).off+6,none⟩,.slice (h.e k).ko c.length (h.e k).kc),(bd.add (k*7),.string n),(⟨(bd.add (k*7)).block,(bd.add (k*7)).off+1,none⟩,.int .i64 mc),(⟨(bd.add (k*7)).block,(bd.add (k*7)).off+2,none⟩,.slice (d.e k).po p.length (d.e k).pc),(⟨(bd.add (k*7)).block,(bd.add (k*7)).off+3,none⟩,.slice (d.e k).lo l.length (d.e k).lc),(⟨(bd.add (k*7)).block,(bd.add (k*7)).off+4,none⟩,.int .i64 rk),(⟨(bd.add (k*7)).block,(bd.add (k*7)).off+5,none⟩,.int .i64 rc),(⟨(bd.add (k*7)).block,(bd.add (k*7)).off+6,none⟩,.slice (d.e k).ko c.length (d.e k).kc)]) (oL [0,1,2,3,4,5,6,7,8,9,110,11]) ⟨x0,y0,a0,a1,a2,a3,a4,a5,a6,b0,b1,b2,b3,b4,b5,b6,trivial⟩ ?_
     clear x0 y0 a0 a1 a2 a3 a4 a5 a6 b0 b1 b2 b3 b4 b5 b6
     exact kC2
    ·obtain rfl:k=m.me.length:=by omega
     have hj5:¬ (m.me.length:Int) < m.me.length:=by omega
     go_wp2
     go_ret
     exact ZcT rfl (Zaf HB0.out HBr.out)
end
section
open Go.RowKit
end
end Go.Proofs.YtfkbfjhocmbneaaGreat
