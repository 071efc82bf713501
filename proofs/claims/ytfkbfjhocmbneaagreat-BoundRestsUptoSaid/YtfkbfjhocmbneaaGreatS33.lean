/- Joined texts. The first: The reference's one. -/
import Derived.Test.YtfkbfjhocmbneaaGreatS30
set_option linter.all false
set_option linter.unusedVariables false
set_option linter.unusedSimpArgs false
set_option maxRecDepth 100000
set_option maxHeartbeats 8000000
namespace Go.Proofs.YtfkbfjhocmbneaaGreat
theorem kC5{p:Prop}(h:p:=by
 go_enter Tryz.func21,Tryz.ntmps21
 go_wp2_with (first
  | (go_at_call 53;refine HC.out.mono ?_;rintro e w1 ⟨rfl,hb1⟩;have HB1:=Zh hb1;clear hb1)
  | (go_at_call 54;refine (HA.out _ HB1.out).mono ?_;rintro e w2 ⟨rfl,hb2⟩;have HB2:=Zh (Zaf HB1.out hb2);clear hb2))
 go_ret2
 exact Zhg rfl rfl HB2.out):p:=h
section
open Go.RowKit
abbrev GR (x:Ms) (l:Bool) (m:Md) (L:List Int):Wg:=gR l x m (Zqc L)
def Zqv (B g:Nat) (h:Hd) (bv:Int) (x:Ms) (l:Bool) (m:Md) (k:Nat) (L:List Int) (a b:Nat):Prop:=∀ w,RT w B g h m bv l L →
 Calls Tryz.prog 56 #[.pointer (some ⟨B,0,none⟩),.slice (h.e k).ko (cdM m k).length (h.e k).kc,.int .i64 a,.int .i64 b] w (Ret w (.int .i64 (WA (GR x l m L) (cdM m k) a b 0)))
theorem Zqw {c:List In3}{p b:Nat} (hs:p=b∨(p<b∧ZaR (c.getD p default).op=false∧(c.getD p default).op≠34∧(c.getD p default).op≠35∧Seg c (p+1) b) ∨
  (∃ en:Nat,Mat c p (-1) en∧p<en∧en<b∧Seg c (p+1) en∧Seg c (en+1) b)∨∃ n en:Nat,Mat c p n en∧p<n∧n<en∧en<b∧Seg c (p+1) n∧Seg c (n+1) en∧Seg c (en+1) b) (hp:p<b) (ho:ZaR (c.getD p default).op=true) :
  ∃ (alt:Int) (en q:Nat),Mat c p alt en∧p<q∧q≤en∧en<c.length∧Seg c (p+1) q∧((alt=-1∧q=en)∨(alt=q∧q<en∧Seg c (q+1) en)):=by
 rcases hs with e|⟨_,h2,_⟩|⟨en,h1,h2,h3,h4,h5⟩|⟨n,en,h1,h2,h3,h4,h5,h6,h7⟩
 ·omega
 ·rw [ho] at h2;cases h2
 ·exact ⟨-1,en,en,h1,h2,Nat.le_refl _,h1.2.2.1,h4,.inl ⟨rfl,rfl⟩⟩
 ·exact ⟨n,en,n,h1,h2,by omega,h1.2.2.1,h5,.inr ⟨rfl,h3,h6⟩⟩
theorem Zqx {B g:Nat}{h:Hd}{bv:Int}{x:Ms}{l:Bool}{m:Md}{k:Nat}{L:List Int} (X:RCx bv x l m k L) {p b:Nat} (hs:Seg (cdM m k) p b) (hpb:p<b) (ih:∀ a' b',p<a'→Seg (cdM m k) a' b'→Zqv B g h bv x l m k L a' b') (w:World) (H:RT w B g h m bv l L) :
    Calls Tryz.prog 89 #[.pointer (some ⟨B,0,none⟩),.slice (h.e k).ko (cdM m k).length (h.e k).kc,.int .i64 p] w (Zhf w (.int .i64 (Zqr (GR x l m L) (cdM m k) p).1) (.int .i64 ((Zqr (GR x l m L) (cdM m k) p).2:Int))):=by
 have hp:p<(cdM m k).length:=by have:=(Zme hs).2;omega
 have hp2:(p:Int) < (cdM m k).length:=by omega
 have hcl:(cdM m k).length≤120:=X.ok.z.2.2
 have hwp:IntKind.i64.wrap ((p:Int)+1)=((p+1:Nat):Int):=IntWalk.i64_in _ (by omega)
 have hko:=H.md.k k X.hk
 obtain ⟨ca,hca,o0,o1,o2⟩:=ZaA (l:=cdM m k) hko hp
 have him:(cdM m k).getD p default∈cdM m k:=ZfU _ hp
 obtain ⟨⟨q1,q2⟩,hq⟩:∃ q,q=Zqr (GR x l m L) (cdM m k) p:=⟨_,rfl⟩
 rw [←hq]
 dsimp only
 have HD:=Zh (X.opd him)
 have HWt:=Zh (X.wt _ him)
 have HOw:=Zh (fun w' (hH:Zay w' h m)=>X.ow _ him w' h hH)
 have HCp:=Zh (X.called him)
 have HTg:=Zh (show ∀ t∈ZaN m ((cdM m k).getD p default).a,0≤t from fun t ht=>ZfT ht)
 have HIv:=Zh (X.ok.i _ him).1
 have hpl:(GR x l m L).pl ((cdM m k).getD p default)=if l=true∧((cdM m k).getD p default).op=28 then (-1:Int) else if ZpH l m (Zqc L) ((cdM m k).getD p default)=-1 then (-1:Int) else Zmu (x.wt ((cdM m k).getD p default)) (ZpH l m (Zqc L) ((cdM m k).getD p default)):=rfl
 unfold Zqr at hq
 rw [hpl] at hq
 have hsg:=Zqw (Zno hs) hpb
 obtain ⟨i,hi⟩:∃ i,i=(cdM m k).getD p default:=⟨_,rfl⟩
 rw [←hi] at o0 o1 o2 hq HD HWt HOw HCp HTg HIv hsg
 have HIi:=Zh hi
 obtain ⟨op,ia,ib⟩:=i
 dsimp only at o0 o1 o2 hq
 obtain ⟨cv,hcv⟩:∃ c,c=ZpH l m (Zqc L) ⟨op,ia,ib⟩:=⟨_,rfl⟩
 have HCa:=Zh (fun w' hR=>Zqg (w:=w') (B:=B) (g:=g) (h:=h) (bv:=bv) (l:=l) (L:=L) hR X.hm ⟨op,ia,ib⟩ (fun e=>⟨HD.out.a0 (by dsimp only at e ⊢;omega),by have:=(HD.out.o25 e).1;have:=X.hk;omega⟩) (fun e=>⟨HD.out.a0 (by dsimp only at e ⊢;omega),(HD.out.o26 e).1,fun t ht=>⟨HTg.out t ht,by have:=(HD.out.o26 e).2 t ht;have:=X.hk;omega⟩⟩))
 rw [←hcv] at HCa HCp hq
 obtain ⟨wt,hwt⟩:∃ n,n=x.wt ⟨op,ia,ib⟩:=⟨_,rfl⟩
 rw [←hwt] at HWt HOw hq
 have HWq:=Zh hwt
 obtain ⟨w0,hw0⟩:∃ w0,w0=w.alloc (.cells #[.int .i64 op,.int .i64 ia,.int .i64 ib] 42):=⟨_,rfl⟩
 have HB:=Zh (show Below w.heap.size w w0 by rw [hw0];exact bE)
 have HX:=Zh (show Blk w0 w.heap.size #[.int .i64 op,.int .i64 ia,.int .i64 ib] 42 by rw [hw0];exact Blk.new _ _ _)
 have HT:=Zh (H.old HB.out)
 have HW:=Zh hw0
 have HIh:=Zh (show ∀ a' b',p<a'→Seg (cdM m k) a' b'→∀ w',RT w' B g h m bv l L→Calls Tryz.prog 56 #[.pointer (some ⟨B,0,none⟩),.slice (some ca) (cdM m k).length (h.e k).kc,.int .i64 a',.int .i64 b'] w' (Ret w' (.int .i64 (WA (GR x l m L) (cdM m k) a' b' 0))) from fun a' b' h1 h2 w' hR=>by have:=ih a' b' h1 h2 w' hR;rwa [hca] at this)
 have HKo:=Zh (show ∀ w',RT w' B g h m bv l L→Zar w' (some ca) (h.e k).kc (cdM m k) from fun w' hR=>by have:=hR.md.k k X.hk;rwa [hca] at this)
 have HXc:=Zh X
 have HSg:=Zh hsg
 rw [hca]
 clear hw0 H hi hwt hcv hs hsg hko him hpl ih X
 go_enter Tryz.func89,Tryz.ntmps89
 go_upto_region 2 with fail
 rw [←HW.out]
 clear o0 o1 o2
 have x0:=HX.out.cell 0 (v:=.int .i64 op) rfl
 rcases ho:ZaR op with _|_
 · rw [ho,if_neg (by decide)] at hq
   obtain ⟨e1,rfl⟩:=Prod.mk.inj hq
   have HO:=Zh ho
   have HE1:=Zh e1
   clear hq e1 ho HIh HSg
   have t5:=HT.out.tb.cell 5 (v:=.bool l) rfl
   have x1:=HX.out.cell 1 (v:=.int .i64 ia) rfl
   have x2:=HX.out.cell 2 (v:=.int .i64 ib) rfl
   by_cases hth:l=true∧op=28
   · obtain ⟨rfl,rfl⟩:=hth
     go_wp2_with (go_at_call 81;refine (ZeO _ _).mono ?_;rintro e w2 ⟨rfl,rfl⟩;rw [HO.out])
     go_ret2
     exact Zhg (ZcY (by rw [HE1.out];simp)) (ZcY (by omega)) HB.out
   · rw [if_neg hth] at HE1
     have hth2:l=true→¬ op=28:=fun a b=>hth ⟨a,b⟩
     have HTh:=Zh hth2
     clear hth hth2
     go_upto_region 5 with (go_at_call 81;refine (ZeO _ _).mono ?_;rintro e w2 ⟨rfl,rfl⟩;rw [HO.out])
     all_goals first
       | (exfalso;rename_i e1 e2;simp at e2;exact HTh.out e1 e2)
       | skip
     all_goals
       clear t5
       have t0:=HT.out.tb.cell 0 (v:=.slice h.co m.cl.length h.cc) rfl
       go_upto_region 6 with (go_at_call 115;refine (HCa.out _ HT.out).mono ?_;rintro e w1 ⟨rfl,hb1⟩;have HB1:=Zh hb1;clear hb1 x0 x1 x2 t0)
       have HX1:=Zh (HX.out.old HB1.out)
       have HT1:=Zh (HT.out.old HB1.out)
       by_cases hc1:cv=-1
       · rw [if_pos hc1] at HE1
         go_wp2
         go_ret2
         exact Zhg (ZcY HE1.out.symm) (ZcY (by omega)) (Zaf HB.out HB1.out)
       · rw [if_neg hc1] at HE1
         have HCs:=Zh (show Cs [(⟨B,0,none⟩,.slice h.co m.cl.length h.cc),(⟨B,1,none⟩,.slice h.so m.st.length h.sc),(⟨B,2,none⟩,.slice h.eo m.me.length h.ec),(⟨B,3,none⟩,.int .i64 m.sel),(⟨B,4,none⟩,.int .i64 bv),(⟨w.heap.size,0,none⟩,.int .i64 op),(⟨w.heap.size,1,none⟩,.int .i64 ia),(⟨w.heap.size,2,none⟩,.int .i64 ib)] w1 from ⟨HT1.out.tb.cell 0 rfl,HT1.out.tb.cell 1 rfl,HT1.out.tb.cell 2 rfl,HT1.out.tb.cell 3 rfl,HT1.out.tb.cell 4 rfl,HX1.out.cell 0 rfl,HX1.out.cell 1 rfl,HX1.out.cell 2 rfl,trivial⟩)
         go_upto_region 8 with fail
         refine rO (Cs [(⟨B,0,none⟩,.slice h.co m.cl.length h.cc),(⟨B,1,none⟩,.slice h.so m.st.length h.sc),(⟨B,2,none⟩,.slice h.eo m.me.length h.ec),(⟨B,3,none⟩,.int .i64 m.sel),(⟨B,4,none⟩,.int .i64 bv),(⟨w.heap.size,0,none⟩,.int .i64 op),(⟨w.heap.size,1,none⟩,.int .i64 ia),(⟨w.heap.size,2,none⟩,.int .i64 ib)]) (oL [0,1,2,3,4,5,6,7,8,10,12,13,109,111,14,15]) HCs.out ?_
         repeat refine pO ?_
         refine oO fun Kv hK=>?_
         go_simp
         refine (HOw.out _ (HT1.out.md.old (Below.refl _ _).drew)).mono ?_
         rintro e w2 ⟨rfl,hb2⟩
         have HB2:=Zh (Zaf (Below.refl w1.heap.size w1).drew hb2)
         refine hK _ _ ⟨Cs.keeps (Znv.of HB2.out) HCs.out,?_⟩
         clear hK Kv hb2
         repeat refine pO ?_
         refine oO fun Kv hK=>?_
         go_simp
         refine (ZpW wt cv _ (by have:=HWt.out;omega) (by have:=HCp.out.2;unfold Bl at this;omega)).mono ?_
         rintro e w3 ⟨rfl,hb3⟩
         have HB3:=Zh (Zaf HB2.out hb3)
         refine hK _ _ ⟨Cs.keeps (Znv.of HB3.out) HCs.out,?_⟩
         clear hK Kv hb3
         repeat refine pO ?_
         refine Zd5 ?_
         go_wp2
         go_ret2
         exact Zhg (ZcY HE1.out.symm) (ZcY (by omega)) (Zaf HB.out (Zaf HB1.out HB3.out))
 · rw [ho,if_pos rfl] at hq
   obtain ⟨alt,en,q,hmt,hpq,hqe,hel,hs1,hcase⟩:=HSg.out ho
   rw [Zmd hmt] at hq
   obtain ⟨f,hf⟩:∃ f,f=WA (GR x l m L) (cdM m k) (p+1) q 0:=⟨_,rfl⟩
   obtain ⟨s,hs⟩:∃ s,s=if alt=-1 then 0 else WA (GR x l m L) (cdM m k) (q+1) en 0:=⟨_,rfl⟩
   have hq':(q1,q2)=((GR x l m L).brk ⟨op,ia,ib⟩ f s,en+1):=by
     rw [hq,hf,hs]
     rcases hcase with ⟨rfl,rfl⟩|⟨rfl,h1,h2⟩
     · rfl
     · dsimp only
       rw [if_neg (by omega),if_neg (by omega),if_neg (by omega),Int.toNat_natCast]
   obtain ⟨e1,rfl⟩:=Prod.mk.inj hq'
   have HPf:=Zh (show Pl l f by rw [hf];exact HXc.out.wa hs1 (Pl.of (by unfold Bd;omega)))
   have HPs:=Zh (show Pl l s by
     rw [hs]
     rcases hcase with ⟨rfl,rfl⟩|⟨rfl,h1,h2⟩
     · exact Pl.of (by unfold Bd;omega)
     · rw [if_neg (by omega)];exact HXc.out.wa h2 (Pl.of (by unfold Bd;omega)))
   have HE1:=Zh (show q1=ZpI l (scV bv) ⟨op,ia,ib⟩ f s wt (tlV bv) by rw [e1,←HXc.out.tl,←HXc.out.sc,HWq.out];rfl)
   have HPt:=Zh (show ∀ w',RT w' B g h m bv l L→Calls Tryz.prog 56 #[.pointer (some ⟨B,0,none⟩),.slice (some ca) (cdM m k).length (h.e k).kc,.int .i64 ((p+1:Nat):Int),.int .i64 q] w' (Ret w' (.int .i64 f)) from fun w' hR=>by have:=HIh.out (p+1) q (by omega) hs1 w' hR;rwa [←hf] at this)
   have HO:=Zh ho
   have HMt:=Zh (ZpV (cdM m k) (some ca) (h.e k).kc w0 (HKo.out _ HT.out) HXc.out.code hmt)
   have hen:IntKind.i64.wrap ((en:Int)+1)=((en+1:Nat):Int):=IntWalk.i64_in _ (by omega)
   have HSs:=Zh hs
   clear hq hq' e1 ho hmt hf hs HSg
   rcases hcase with ⟨rfl,rfl⟩|⟨rfl,hq1,hq2⟩
   all_goals
     go_upto_region 10 with (first
       | (go_at_call 81;refine (ZeO _ _).mono ?_;rintro e w2 ⟨rfl,rfl⟩;rw [HO.out])
       | (go_at_call 47;refine HMt.out.mono ?_;rintro e w1 ⟨rfl,hb1⟩;have HB1:=Zh hb1;clear hb1 x0))
     have HT1:=Zh (HT.out.old HB1.out)
     have HX1:=Zh (HX.out.old HB1.out)
     go_upto_region 14 with (go_at_call 56;refine (HPt.out _ HT1.out).mono ?_;rintro e w2 ⟨rfl,hb2⟩;have HB2:=Zh (Zaf HB1.out hb2);clear hb2)
     have HT2:=Zh (HT.out.old HB2.out)
     have HX2:=Zh (HX.out.old HB2.out)
   all_goals first
     | (have hss:s=0:=by have:=HSs.out;simpa using this
        subst hss
        obtain ⟨w3,hw3⟩:∃ w3,w3=w2:=⟨_,rfl⟩
        have HB3:=Zh (show Below w0.heap.size w0 w3 by rw [hw3];exact HB2.out)
        go_upto_region 16 with fail
        rw [←hw3]
        clear hw3)
     | (have HPu:=Zh (HIh.out (q+1) en (by omega) hq2 w2 HT2.out)
        have hss:=HSs.out
        rw [if_neg (by omega)] at hss
        rw [←hss] at HPu
        clear hss
        go_upto_region 16 with (go_at_call 56;refine HPu.out.mono ?_;rintro e w3 ⟨rfl,hb3⟩;have HB3:=Zh (Zaf HB2.out hb3);clear hb3))
   all_goals
     have HT3:=Zh (HT.out.old HB3.out)
     have HX3:=Zh (HX.out.old HB3.out)
     have HCs:=Zh (show Cs [(⟨B,0,none⟩,.slice h.co m.cl.length h.cc),(⟨B,1,none⟩,.slice h.so m.st.length h.sc),(⟨B,2,none⟩,.slice h.eo m.me.length h.ec),(⟨B,3,none⟩,.int .i64 m.sel),(⟨B,4,none⟩,.int .i64 bv),(⟨w.heap.size,0,none⟩,.int .i64 op),(⟨w.heap.size,1,none⟩,.int .i64 ia),(⟨w.heap.size,2,none⟩,.int .i64 ib)] w3 from ⟨HT3.out.tb.cell 0 rfl,HT3.out.tb.cell 1 rfl,HT3.out.tb.cell 2 rfl,HT3.out.tb.cell 3 rfl,HT3.out.tb.cell 4 rfl,HX3.out.cell 0 rfl,HX3.out.cell 1 rfl,HX3.out.cell 2 rfl,trivial⟩)
     refine rO (Cs [(⟨B,0,none⟩,.slice h.co m.cl.length h.cc),(⟨B,1,none⟩,.slice h.so m.st.length h.sc),(⟨B,2,none⟩,.slice h.eo m.me.length h.ec),(⟨B,3,none⟩,.int .i64 m.sel),(⟨B,4,none⟩,.int .i64 bv),(⟨w.heap.size,0,none⟩,.int .i64 op),(⟨w.heap.size,1,none⟩,.int .i64 ia),(⟨w.heap.size,2,none⟩,.int .i64 ib)]) (oL [0,1,2,3,4,5,6,7,8,9,10,11,12,14,17,18,113,115,116,19,20]) HCs.out ?_
     repeat refine pO ?_
     refine oO fun Kv hK=>?_
     go_simp
     refine (HOw.out _ (HT3.out.md.old (Below.refl _ _).drew)).mono ?_
     rintro e w4 ⟨rfl,hb4⟩
     have HB4:=Zh (Zaf (Below.refl w3.heap.size w3).drew hb4)
     refine hK _ _ ⟨Cs.keeps (Znv.of HB4.out) HCs.out,?_⟩
     clear hK Kv hb4
     repeat refine pO ?_
     refine oO fun Kv hK=>?_
     go_simp
     refine (Zp7 (HT3.out.old HB4.out)).mono ?_
     rintro e w5 ⟨rfl,hb5⟩
     have HB5:=Zh (Zaf HB4.out hb5)
     refine hK _ _ ⟨Cs.keeps (Znv.of HB5.out) HCs.out,?_⟩
     clear hK Kv hb5
     repeat refine pO ?_
     refine oO fun Kv hK=>?_
     go_simp
     refine (Zqa (HT3.out.old HB5.out) ⟨op,ia,ib⟩ f _ wt (tlV bv) HPf.out.2 HPs.out.2 HWt.out (by unfold tlV;split<;>omega) (fun e=>Zn6 HIv.out e)).mono ?_
     rintro e w6 ⟨rfl,hb6⟩
     have HB6:=Zh (Zaf HB5.out hb6)
     refine hK _ _ ⟨Cs.keeps (Znv.of HB6.out) HCs.out,?_⟩
     clear hK Kv hb6
     repeat refine pO ?_
     refine Zd5 ?_
     go_wp2
     go_ret2
     exact Zhg (ZcY HE1.out.symm) (ZcY (by omega)) (Zaf HB.out (Zaf HB3.out HB6.out))
end
section
open Go.RowKit
theorem RCx.one {bv:Int}{x:Ms}{l:Bool}{m:Md}{k:Nat}{L:List Int} (X:RCx bv x l m k L) {p b:Nat} (hs:Seg (cdM m k) p b) (hp:p<b):Pl l (Zqr (GR x l m L) (cdM m k) p).1:=by
 have hm:∀ k',k' < (cdM m k).length→(cdM m k).getD k' default∈cdM m k:=fun k' hk=>ZfU _ hk
 have h0:Pl l 0:=Pl.of (by unfold Bd;omega)
 have hpl:p<(cdM m k).length:=by have:=(Zme hs).2;omega
 rcases Zno hs with e|⟨_,h2,h3,h4,h5⟩|⟨en,h1,h2,h3,h4,h5⟩|⟨n,en,h1,h2,h3,h4,h5,h6,h7⟩
 ·omega
 ·unfold Zqr
  rw [if_neg (by rw [h2];decide)]
  exact X.pl (hm p hpl)
 ·unfold Zqr
  rw [if_pos (show _=true from h1.2.1),Zmd h1]
  exact X.brk (hm p hpl) (X.wa h4 h0) h0
 ·unfold Zqr
  rw [if_pos (show _=true from h1.2.1),Zmd h1]
  dsimp only
  rw [if_neg (by omega),if_neg (by omega),Int.toNat_natCast]
  exact X.brk (hm p hpl) (X.wa h5 h0) (X.wa h6 h0)
theorem Zqy {B g:Nat}{h:Hd}{bv:Int}{x:Ms}{l:Bool}{m:Md}{k:Nat}{L:List Int} (X:RCx bv x l m k L) {a b:Nat} (hs:Seg (cdM m k) a b) (ih:∀ a' b',a<a'→Seg (cdM m k) a' b'→Zqv B g h bv x l m k L a' b'):Zqv B g h bv x l m k L a b:=by
 intro w H
 have hle:=Zme hs
 have hcl:(cdM m k).length≤120:=X.ok.z.2.2
 have HO:=Zh (show ∀ p,a≤p→p<b→Seg (cdM m k) p b→∀ w',RT w' B g h m bv l L→_ from fun p h1 h2 h3 w' hR=>Zqx X h3 h2 (fun a' b' h4 h5=>ih a' b' (by omega) h5) w' hR)
 have HR:=Zh H
 have HX:=Zh X
 have HS:=Zh hs
 clear H X hs ih
 go_enter Tryz.func56,Tryz.ntmps56
 go_wp2
 go_loopw [9,10] (fun s i wr=>∃ (p:Nat) (sv:Int),i=.int .i64 p∧s=.int .i64 sv∧Hid (a≤p∧p≤b∧Seg (cdM m k) p b)∧Hid (0≤sv∧Pl l sv)∧Hid (WA (GR x l m L) (cdM m k) a b 0=WA (GR x l m L) (cdM m k) p b sv)∧Hid (Below w.heap.size w wr)) (fun _ i _=>b-(intOf i).toNat)
 case atStart=>exact ⟨a,0,rfl,rfl,⟨Nat.le_refl _,hle.1,HS.out⟩,⟨by omega,Pl.of (by unfold Bd;omega)⟩,rfl,by exact bE⟩
 case round=>
  obtain ⟨p,sv,rfl,rfl,HP,HSv,HWa,HB⟩:=hrel
  rename World=>wo
  by_cases hpb:p<b
  ·have hpb2:(p:Int) < b:=by omega
   obtain ⟨s1,s2,s3,s4⟩:=Zqs (g:=GR x l m L) HP.out.2.2 hpb
   have hv:=HX.out.one HP.out.2.2 hpb
   have HOn:=Zh (HO.out p HP.out.1 hpb HP.out.2.2 _ (HR.out.old HB.out))
   have HW2:=Zh (HWa.out.trans (s4 sv))
   obtain ⟨⟨v,nx⟩,hq⟩:∃ q,q=Zqr (GR x l m L) (cdM m k) p:=⟨_,rfl⟩
   rw [←hq] at HOn HW2 hv s1 s2 s3
   dsimp only at hv s1 s2 s3
   have HV:=Zh hv
   have HN:=Zh (And.intro s1 (And.intro s2 s3))
   clear hq hv s1 s2 s3 s4
   by_cases hv1:v=-1
   ·subst hv1
    go_wp2_with (go_at_call 89;refine HOn.out.mono ?_;rintro e w1 ⟨rfl,hb1⟩)
    go_ret
    refine ZcT (ZcY ?_) (Zaf HB.out hb1)
    rw [HW2.out,show (GR x l m L).plus sv (-1)=-1 by show ZpE sv (-1)=-1;unfold ZpE;rw [if_pos (.inr rfl)]]
    exact (ZpR HN.out.2.2).symm
   ·go_wp2_with (first
     | (go_at_call 89;refine HOn.out.mono ?_;rintro e w1 ⟨rfl,hb1⟩;have HB1:=Zh (Zaf HB.out hb1);clear hb1)
     | (go_at_call 66;refine (ZpW sv v _ (by have:=HSv.out.2.2;unfold Bl at this;omega) (by have:=HV.out.2;unfold Bl at this;omega)).mono ?_;rintro e w2 ⟨rfl,hb2⟩;have HB2:=Zh (Zaf HB1.out hb2);clear hb2))
    have h1:=HSv.out.2.2
    have h2:=HV.out.2
    unfold Bl at h1 h2
    have h3:=HSv.out.1
    have hps:ZpE sv v=Zmu sv v:=ZpK ⟨h3,h1.2⟩ ⟨by omega,h2.2⟩
    have hbd:Bd (Zmu sv v):=ZnB ⟨h3,h1.2⟩ ⟨by omega,h2.2⟩
    refine ⟨⟨nx,Zmu sv v,rfl,rfl,⟨by have:=HP.out.1;have:=HN.out.1;omega,HN.out.2.1,HN.out.2.2⟩,⟨hbd.1,Pl.of hbd⟩,HW2.out.trans (by rw [←hps];rfl),HB2.out⟩,?_⟩
    have:=HN.out.1
    have:=HN.out.2.1
    simp [intOf]
    omega
  ·obtain rfl:p=b:=by have:=HP.out.2.1;omega
   go_wp2
   go_ret
   exact ZcT (ZcY (by rw [HWa.out,Zml])) HB.out
theorem Zqz {B g:Nat}{h:Hd}{bv:Int}{x:Ms}{l:Bool}{m:Md}{k:Nat}{L:List Int} (X:RCx bv x l m k L):∀ (n a b:Nat),(cdM m k).length-a≤n→Seg (cdM m k) a b→Zqv B g h bv x l m k L a b
 | 0,a,b,hn,hs=>Zqy X hs fun a' b' h1 h2=>by have:=Zme hs;have:=Zme h2;omega
 |n+1,a,b,hn,hs=>Zqy X hs fun a' b' h1 h2=>by
  by_cases hz:a'≤(cdM m k).length
  ·exact Zqz X n a' b' (by omega) h2
  ·have:=Zme h2;omega
end
section
open Go.RowKit
theorem ZqA {w w':World}{g:Nat}{a:Addr}{v:Value} (h:w.cell? a=some v) (hu:Upd g g w w') (hne:a.block≠g):w'.cell? a=some v:=
 (World.cell?_of_block (w:=w) (hu.block _ (Zac h) hne hne)).trans h
def ZqB (G:(Int→Int)→Wg) (m:Md) (k:Nat):List Int:=ZmC G m k++List.replicate (m.me.length-k) 0
theorem ZqC {G:(Int→Int)→Wg}{m:Md}{k:Nat} (hk:k≤m.me.length):(ZqB G m k).length=m.me.length:=by unfold ZqB;simp [ZmE];omega
theorem ZqD {G:(Int→Int)→Wg}{m:Md}{k:Nat}:Zqc (ZqB G m k)=fun t=>(ZmC G m k).getD t.toNat 0:=by
 funext t
 unfold Zqc ZqB
 by_cases h:t.toNat<(ZmC G m k).length
 ·rw [List.getD_eq_getElem?_getD,List.getElem?_append_left h,←List.getD_eq_getElem?_getD]
 ·rw [List.getD_eq_getElem?_getD,List.getElem?_append_right (by omega),List.getD_eq_getElem?_getD,List.getElem?_eq_none (l:=ZmC G m k) (by omega),List.getElem?_replicate]
  split<;>rfl
theorem ZqE {G:(Int→Int)→Wg}{m:Md}{k:Nat} (hk:k<m.me.length):(ZqB G m k).set k (ZmD G m k)=ZqB G m (k+1):=by
 unfold ZqB
 rw [List.set_append_right _ _ (by rw [ZmE];omega),ZmE,Nat.sub_self,show m.me.length-k=(m.me.length-(k+1))+1 by omega,List.replicate_succ,List.set_cons_zero]
 have:ZmC G m (k+1)=ZmC G m k++[ZmD G m k]:=by
  rw [ZoH]
  rfl
 rw [this,List.append_assoc]
 rfl
structure MCx (bv:Int) (x:Ms) (m:Md):Prop where
 hm:Za1 m=true
 sd:∀ k,k<m.me.length→ZpP m (cdM m k)
 ow:∀ k,k<m.me.length→Zp5 bv m x (cdM m k)
 wt:∀ k,k<m.me.length→∀ i∈cdM m k,0≤x.wt i∧x.wt i≤1000
 tl:x.tl=tlV bv
 sc:x.sc=scV bv
theorem MCx.at {bv:Int}{x:Ms}{m:Md} (X:MCx bv x m) {l:Bool}{k:Nat}{L:List Int} (hk:k<m.me.length) (hn:∀ t,Pl l (Zqc L t)):RCx bv x l m k L:=⟨X.hm,hk,X.sd k hk,X.ow k hk,X.wt k hk,X.tl,X.sc,hn⟩
theorem ZqF {m:Md} (h:(Zl6 m).2.2=0):MCx 0 Zmx m:=
 have hk:=Zqp h
 ⟨hk.1,hk.2,fun k h2=>Zp6 fun i hi=>((ZfN hk.1 h2).i i hi).1,fun k h2 i hi=>ZoD ((ZfN hk.1 h2).i i hi).1,rfl,rfl⟩
def ZqG (W:World) (h:Hd) (m:Md) (bv:Int) (l:Bool) (L:List Int):Ending→World→Prop:=fun e w'=>(∃ B g,e=.returned (.pointer (some ⟨B,0,none⟩))∧RT w' B g h m bv l L)∧Below W.heap.size W w'
theorem ZqH {bv:Int}{x:Ms}{m:Md} (X:MCx bv x m) (l:Bool) (h:Hd) (w:World) (H:Zay w h m):Calls Tryz.prog 55 #[.agg #[.slice h.co m.cl.length h.cc,.slice h.so m.st.length h.sc,.slice h.eo m.me.length h.ec,.int .i64 m.sel],.int .i64 bv,.bool l] w (ZqG w h m bv l (ZmC (gR l x m) m m.me.length)):=by
 have hsz:=(Zqf X.hm).2
 have hmk:=run_make_row' (P:=Tryz.prog) 29 3 (.int .i64 0) 8 Tryz.underlying29 (by kernel_rfl) rfl .i64 .i64 m.me.length (by omega) (by omega)
 rw [Zcn] at hmk
 obtain ⟨w0,hw0⟩:∃ w0,w0=w.alloc (.cells #[.slice h.co m.cl.length h.cc,.slice h.so m.st.length h.sc,.slice h.eo m.me.length h.ec,.int .i64 m.sel] 26):=⟨_,rfl⟩
 have HB:=Zh (show Below w.heap.size w w0 by rw [hw0];exact bE)
 have HX:=Zh (show Blk w0 w.heap.size #[.slice h.co m.cl.length h.cc,.slice h.so m.st.length h.sc,.slice h.eo m.me.length h.ec,.int .i64 m.sel] 26 by rw [hw0];exact Blk.new _ _ _)
 have HM:=Zh (H.old HB.out)
 have HW:=Zh hw0
 have HXc:=Zh X
 clear hw0 H X
 go_enter Tryz.func55,Tryz.ntmps55
 go_upto_region 1 with fail
 rw [←HW.out]
 refine rO (Cs [(⟨w.heap.size,0,none⟩,.slice h.co m.cl.length h.cc),(⟨w.heap.size,1,none⟩,.slice h.so m.st.length h.sc),(⟨w.heap.size,2,none⟩,.slice h.eo m.me.length h.ec),(⟨w.heap.size,3,none⟩,.int .i64 m.sel)]) (oL [0,1,2,3,4,5,106,7,108,9]) ⟨HX.out.cell 0 rfl,HX.out.cell 1 rfl,HX.out.cell 2 rfl,HX.out.cell 3 rfl,trivial⟩ ?_
 repeat refine pO ?_
 refine oO fun Kv hK=>?_
 go_simp
 refine hK _ _ ⟨Cs.keeps (Znv.of bE) (show Cs _ w0 from ⟨HX.out.cell 0 rfl,HX.out.cell 1 rfl,HX.out.cell 2 rfl,HX.out.cell 3 rfl,trivial⟩),?_⟩
 clear hK Kv
 repeat refine pO ?_
 refine oO fun Kv hK=>?_
 go_simp
 refine hK _ _ ⟨Cs.keeps (Znv.of bE) (show Cs _ w0 from ⟨HX.out.cell 0 rfl,HX.out.cell 1 rfl,HX.out.cell 2 rfl,HX.out.cell 3 rfl,trivial⟩),?_⟩
 clear hK Kv
 repeat refine pO ?_
 refine Zd5 ?_
 go_wp2
 clear hmk
 obtain ⟨w2,hw2⟩:∃ w2,w2=((w0.alloc (Obj.cells (Array.replicate m.me.length (Value.int IntKind.i64 0)) 3)).alloc (Obj.cells #[Value.slice h.co m.cl.length h.cc,Value.slice h.so m.st.length h.sc,Value.slice h.eo m.me.length h.ec,Value.int IntKind.i64 m.sel,Value.int IntKind.i64 bv,Value.bool l,Value.slice (some { block:=w0.heap.size,off:=0 }) m.me.length m.me.length] 90)).drew:=⟨_,rfl⟩
 rw [←hw2]
 obtain ⟨g,hg⟩:∃ g,g=w0.heap.size:=⟨_,rfl⟩
 obtain ⟨B,hBq⟩:∃ B,B=w0.heap.size+1:=⟨_,rfl⟩
 have HB2:=Zh (show Below w0.heap.size w0 w2 by rw [hw2];exact bE)
 have HR2:=Zh (show RT w2 B g h m bv l (ZqB (gR l x m) m 0) from by
  rw [hw2,hg,hBq]
  refine ⟨?_,?_,HM.out.old bE,ZqC (Nat.zero_le _)⟩
  ·exact Blk.drew (Blk.new' _ _ (by simp))
  ·have:Zol (ZqB (gR l x m) m 0)=Array.replicate m.me.length (Value.int IntKind.i64 0):=by unfold Zol ZqB ZmC;rw [List.nil_append,Nat.sub_zero,List.map_replicate,List.toArray_replicate]
   rw [this]
   exact Blk.drew ((Blk.new w0 _ _).alloc _))
 have HG:=Zh (show w0.heap.size≤g∧B≠g∧w.heap.size<g by rw [hg,hBq];have:=HX.out.lt;omega)
 rw [←hBq,←hg]
 clear hw2 hg hBq
 go_loopw [8] (fun i wr=>∃ k:Nat,k≤m.me.length∧i=.int .i64 k∧Hid (RT wr B g h m bv l (ZqB (gR l x m) m k))∧Hid (∀ t,Pl l (Zqc (ZqB (gR l x m) m k) t))∧Hid (Upd g g w2 wr)) (fun i _=>m.me.length-(intOf i).toNat)
 case atStart=>
  refine ⟨0,Nat.zero_le _,rfl,HR2.out,fun t=>?_,Upd.refl _ _ _⟩
  rw [ZqD]
  unfold ZmC
  exact Pl.of (by show Bd (([]:List Int).getD _ 0);simp [Bd])
 case round=>
  obtain ⟨k,hk,rfl,HR,HN,HU⟩:=hrel
  rename World=>wo
  by_cases hkl:k<m.me.length
  ·have hkl2:(k:Int) < m.me.length:=by omega
   have hwk:IntKind.i64.wrap ((k:Int)+1)=((k+1:Nat):Int):=IntWalk.i64_in _ (by omega)
   have X:=HXc.out.at (l:=l) (L:=ZqB (gR l x m) m k) hkl HN.out
   have HP:=Zh (Zqz (B:=B) (g:=g) (h:=h) X (cdM m k).length 0 (cdM m k).length (by omega) (Zmg X.ok.n))
   obtain ⟨ea,he,-,-,-,-,-,-,e6⟩:=HM.out.mth hkl
   rw [show (m.me.getD k default).k.length=(cdM m k).length from rfl] at e6
   have HBo:=Zh (HU.out.below HB2.out (Nat.le_refl _) HG.out.1 HG.out.1)
   have hel:=Nat.lt_of_lt_of_le (Zac e6) HG.out.1
   have e6:=(HBo.out.cell (Zac e6)).trans e6
   have x2:=(HX.out.old HBo.out).cell 2 (v:=.slice h.eo m.me.length h.ec) rfl
   rw [he] at x2
   have HEl:=Zh hel
   have HEa:=Zh he
   clear hel he
   have t6:=HR.out.tb.cell 6 (v:=.slice (some ⟨g,0,none⟩) m.me.length m.me.length) rfl
   have X2:=Zh X
   clear X
   go_upto_region 5 with fail
   have HCs:=Zh (show Cs [(⟨B,6,none⟩,.slice (some ⟨g,0,none⟩) m.me.length m.me.length),(⟨w.heap.size,2,none⟩,.slice (some ea) m.me.length h.ec),(⟨(ea.add (k*7)).block,(ea.add (k*7)).off+6,none⟩,.slice (h.e k).ko (cdM m k).length (h.e k).kc)] wo from ⟨t6,x2,e6,trivial⟩)
   refine rO (Cs [(⟨B,6,none⟩,.slice (some ⟨g,0,none⟩) m.me.length m.me.length),(⟨w.heap.size,2,none⟩,.slice (some ea) m.me.length h.ec),(⟨(ea.add (k*7)).block,(ea.add (k*7)).off+6,none⟩,.slice (h.e k).ko (cdM m k).length (h.e k).kc)]) (oL [0,1,2,3,4,5,6,7,8,9,10,11,12,13,14,15,16,17,18,119,20,121]) ⟨t6,x2,e6,trivial⟩ ?_
   clear t6 x2 e6
   repeat refine pO ?_
   refine oO fun Kv hK=>?_
   go_simp
   refine (HP.out _ (HR.out.old (Below.refl _ _).drew)).mono ?_
   rintro e w3 ⟨rfl,hb3⟩
   have HB3:=Zh (Zaf (Below.refl wo.heap.size wo).drew hb3)
   have HR3:=Zh (HR.out.old HB3.out)
   have HCs3:=Zh (Cs.keeps (Znv.of HB3.out) HCs.out)
   refine hK _ _ ⟨HCs3.out,?_⟩
   clear hK Kv hb3
   repeat refine pO ?_
   refine oO fun Kv hK=>?_
   have g0:=Zon HR3.out.nb (k:=k) (by rw [ZqC hk];exact hkl)
   have f0:=HR3.out.nb.frozen k
   go_simp
   obtain ⟨v,hv⟩:∃ v,v=WA (GR x l m (ZqB (gR l x m) m k)) (cdM m k) 0 (cdM m k).length 0:=⟨_,rfl⟩
   rw [←hv]
   obtain ⟨w4,hw4⟩:∃ w4,w4=w3.setCell ⟨g,k,none⟩ (.int .i64 v):=⟨_,rfl⟩
   have hu4:Upd g g w3 w4:=by rw [hw4];exact (Upd.refl g g w3).set k _
   have hvm:v=ZmD (gR l x m) m k:=by rw [hv,ZoH];show WA (gR l x m (Zqc _)) _ _ _ _=_;rw [ZqD]
   have HVP:=Zh (show Pl l v by rw [hv];exact X2.out.wa (Zmg X2.out.ok.n) (Pl.of (by unfold Bd;omega)))
   have HU4:=Zh ((HU.out.bel HB3.out).trans hu4)
   have HR4:=Zh (show RT w4 B g h m bv l (ZqB (gR l x m) m (k+1)) from by
    refine ⟨?_,?_,HM.out.old (HU4.out.below HB2.out (Nat.le_refl _) HG.out.1 HG.out.1),ZqC hkl⟩
    ·rw [hw4];exact HR3.out.tb.other (a:=⟨g,k,none⟩) HG.out.2.1 _
    ·rw [hw4,←ZqE hkl,←hvm];exact Zom HR3.out.nb _)
   rw [←hw4]
   refine hK _ _ ⟨⟨ZqA HCs3.out.1 hu4 HG.out.2.1,ZqA HCs3.out.2.1 hu4 (by have:=HG.out.2.2;dsimp only;omega),ZqA HCs3.out.2.2.1 hu4 (by have:=HEl.out;omega),trivial⟩,?_⟩
   clear hK Kv g0 f0 hw4 hu4 hv
   have HVm:=Zh hvm
   clear hvm
   refine Zd5 ?_
   go_wp2
   refine ⟨⟨k+1,hkl,rfl,HR4.out,fun t=>?_,HU4.out⟩,by simp [intOf];omega⟩
   rw [←ZqE hkl,←HVm.out]
   unfold Zqc
   rw [Zou _ _ _ (by rw [ZqC hk];exact hkl)]
   split
   ·exact HVP.out
   ·exact HN.out t
  ·obtain rfl:k=m.me.length:=by omega
   have hj5:¬ (m.me.length:Int) < m.me.length:=by omega
   have x2:=(HX.out.old (HU.out.below HB2.out (Nat.le_refl _) HG.out.1 HG.out.1)).cell 2 (v:=.slice h.eo m.me.length h.ec) rfl
   go_wp2
   go_ret
   have hz:ZqB (gR l x m) m m.me.length=ZmC (gR l x m) m m.me.length:=by unfold ZqB;simp
   exact ⟨⟨B,g,rfl,hz▸HR.out⟩,Zaf HB.out (HU.out.below HB2.out (Nat.le_refl _) HG.out.1 HG.out.1)⟩
end
section
open Go.RowKit
theorem ZqI {m:Md}{k:Int} (h:ZoO m k=true):(Zl6 m).2.2=0:=by
 unfold ZoO at h
 simp only [Bool.and_eq_true,decide_eq_true_eq] at h
 exact h.1
theorem ZqJ {m:Md}{k:Nat} (h:(Zl6 m).2.2=0) (hk:k<m.me.length):ZmD (gR false Zmx m) m k=ZmD (gW Zmx m) m k:=
 Zqq (Zqp h).1 (Zqp h).2 (ZqF h).wt (by decide) (fun q=>by cases q) (k+1) k (by omega) hk
end
section
open Go.RowKit
def arV (c:List In3) (p:Nat):Nat→Int
 | 0=>-1
 | k+1=>if ZaR (c.getD k default).op=true∧p≤(mtV c k).2 then k else arV c p k
section
variable (l:List In3)(ao:Option Addr)(cap:Nat)(w:World)(hl:Zar w ao cap l)(hv:ZaV false l=0)(p:Nat)(hp:p<l.length)
include l ao cap w hl hv p hp
theorem ZqK:Calls Tryz.prog 54 #[.slice ao l.length cap,.int .i64 p] w (Ret w (.int .i64 (arV l p p))):=by
  have hcl:=(Znj hv).1
  have HB:=Zh (fun w' hb k hk hop=>ZgH l ao cap w' (Zar.old hl (w':=w') hb) (by omega) l.length (ZgI l ao cap w' (Zar.old hl hb) (by omega) l.length) k hk (by omega) hop)
  have HL:=Zh hl
  have HN:=Zh (Znj hv).2.2
  have hw0:IntKind.i64.wrap ((p:Int)-1)=(p:Int)-1:=IntWalk.i64_in _ (by omega)
  obtain ⟨q,hq⟩:∃ q,q=arV l p p:=⟨_,rfl⟩
  rw [←hq]
  have HQ:=Zh hq
  clear hl hv hq
  go_enter Tryz.func54,Tryz.ntmps54
  go_wp2
  clear hw0
  go_loopw [5] (fun i wr=>∃ k:Nat,k≤p∧i=.int .i64 ((k:Int)-1)∧Hid (q=arV l p k)∧Hid (Below w.heap.size w wr)) (fun i _=>(intOf i+1).toNat)
  case atStart=>exact ⟨p,Nat.le_refl _,rfl,HQ.out,by exact bE⟩
  case round=>
    obtain ⟨k,hk,rfl,HE,HBr⟩:=hrel
    rename World=>wo
    rcases k with _|k
    · have e0:q=-1:=HE.out
      have e1:((0:Nat):Int)-1=-1:=rfl
      rw [e1]
      go_wp2
      go_ret
      exact ZcT (ZcY e0.symm) HBr.out
    · have e1:((k+1:Nat):Int)-1=k:=by omega
      rw [e1]
      have hk0:(k:Int) ≥ 0:=by omega
      have hkl:k<l.length:=by omega
      have hkl2:(k:Int) < l.length:=by omega
      have hwk:IntKind.i64.wrap ((k:Int)-1)=(k:Int)-1:=IntWalk.i64_in _ (by omega)
      obtain ⟨ad,rfl,o0,-,-⟩:=ZaA (HL.out.old HBr.out) hkl
      have hE:=HE.out
      unfold arV at hE
      have HBk:=Zh (HB.out _ HBr.out k hkl)
      have HE2:=Zh hE
      clear hE
      obtain ⟨op,hop⟩:∃ op,op=(l.getD k default).op:=⟨_,rfl⟩
      rw [←hop] at o0 HE2 HBk
      clear hop
      by_cases ho:ZaR op=true
      · have HO:=Zh ho
        have hE:=HE2.out
        rw [ho] at hE
        go_upto_region 6 with (first
          | (go_at_call 81;refine (ZeO _ _).mono ?_;rintro e w2 ⟨rfl,rfl⟩;rw [HO.out])
          | (go_at_call 82;refine (HBk.out HO.out).mono ?_;rintro e w3 ⟨hbr,rfl⟩
             obtain ⟨alt',en',d',rfl,hm'⟩:∃ (alt':Int) (en' d':Nat),e=.returned (.tuple #[.int .i64 alt',.int .i64 en',.int .i64 d'])∧Mat l k alt' en':=by
               rcases hbr with ⟨alt',n',d',e1,-,-,-,hm'⟩|⟨-,hst⟩
               · exact ⟨alt',n',d',e1,hm'⟩
               · exact (ZpU HN.out hst).elim
             have HM:=Zh hm'
             clear hm' hbr))
        rw [Zmd HM.out] at hE
        by_cases hen:p≤en'
        · rw [if_pos ⟨by first|trivial|rfl,hen⟩] at hE
          have hen2:(en':Int) ≥ p:=by omega
          have HE3:=Zh hE
          clear hE
          go_wp2
          go_ret
          exact ZcT (ZcY HE3.out.symm) HBr.out
        · rw [if_neg (fun q=>hen q.2)] at hE
          have hen2:¬ (en':Int) ≥ p:=by omega
          have HE3:=Zh hE
          clear hE
          go_wp2
          exact ⟨⟨k,by omega,rfl,HE3.out,HBr.out⟩,by simp [intOf]⟩
      · have ho2:ZaR op=false:=by simpa using ho
        have HO:=Zh ho2
        have hE:=HE2.out
        rw [if_neg (fun q=>ho q.1)] at hE
        have HE3:=Zh hE
        clear hE ho ho2
        go_wp2_with (go_at_call 81;refine (ZeO _ _).mono ?_;rintro e w2 ⟨rfl,rfl⟩;rw [HO.out])
        exact ⟨⟨k,by omega,rfl,HE3.out,HBr.out⟩,by simp [intOf]⟩
theorem ZqL:Calls Tryz.prog 21 #[.slice ao l.length cap,.int .i64 p] w (Zhf w (.int .i64 (if arV l p p<0 then 0 else arV l p p)) (.int .i64 (if arV l p p<0 then 3 else 0))):=by
 have HC:=Zh (ZgK l ao cap false w hl)
 rw [hv] at HC
 have HA:=Zh (fun w' hb=>ZqK l ao cap w' (hl.old (w':=w') hb) hv p hp)
 have hp2:¬ (p:Int) < 0:=by omega
 have hp3:¬ (p:Int) ≥ l.length:=by omega
 generalize arV l p p=q at HA ⊢
 clear hl hv
 by_cases hq:q<0
 ·rw [if_pos hq,if_pos hq]
  exact kC5
 ·rw [if_neg hq,if_neg hq]
  exact kC5
end
theorem ZqM {m:Md} (h:(Zl6 m).2.2=0) {k:Nat} (hk:k<m.me.length) (t:Int) (h0:0≤t) (h1:t<k):Zqc (ZmC (gR false Zmx m) m m.me.length) t=(ZmC (gW Zmx m) m k).getD t.toNat 0:=by
 unfold Zqc
 rw [ZmF _ _ (by omega),ZmF _ _ (by omega)]
 exact ZqJ h (by omega)
theorem ZqN {m:Md} (hm:Za1 m=true) (k:Nat) (t:Int):Bd ((ZmC (gW Zmx m) m k).getD t.toNat 0):=by
 by_cases hj:t.toNat<k
 ·rw [ZmF _ _ hj]
  exact ZoI hm (x:=Zmx) (fun k hk i hi=>ZoD ((ZfN hm hk).i i hi).1) (by decide) (t.toNat+1) _ (by omega)
 ·rw [List.getD_eq_getElem?_getD,List.getElem?_eq_none (by rw [ZmE];omega)]
  unfold Bd;dsimp only [Option.getD];omega
theorem ZqO {m:Md} (h:(Zl6 m).2.2=0) (t:Int):Pl false (Zqc (ZmC (gR false Zmx m) m m.me.length) t):=by
 unfold Zqc
 by_cases hj:t.toNat<m.me.length
 ·rw [ZmF _ _ hj,ZqJ h hj]
  exact Pl.of (ZoI (Zqp h).1 (x:=Zmx) (fun k hk i hi=>ZoD ((ZfN (Zqp h).1 hk).i i hi).1) (by decide) (t.toNat+1) _ (by omega))
 ·rw [List.getD_eq_getElem?_getD,List.getElem?_eq_none (by rw [ZmE];omega)]
  exact Pl.of (by unfold Bd;dsimp only [Option.getD];omega)
theorem ZqP {m:Md} (h:(Zl6 m).2.2=0) {k:Nat} (hk:k<m.me.length) {a b:Nat} (hs:Seg (cdM m k) a b):WA (GR Zmx false m (ZmC (gR false Zmx m) m m.me.length)) (cdM m k) a b 0=WA (gW Zmx m fun t=>(ZmC (gW Zmx m) m k).getD t.toNat 0) (cdM m k) a b 0:=by
 have hm:=(Zqp h).1
 have hok:=ZfN hm hk
 exact (ZpQ (k:=k) (fun i hi=>hok.i i hi) ((Zqp h).2 k hk) (fun i hi=>ZoD (hok.i i hi).1) (by decide) (fun q=>by cases q) (fun t h0 h1=>ZqM h hk t h0 h1) (ZqN hm k) hs 0 (by unfold Bd;omega)).1
end
end Go.Proofs.YtfkbfjhocmbneaaGreat
