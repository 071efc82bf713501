/- Joined texts. The first: The reference's one. -/
import Derived.Test.YtcfjblcgceednaaGreatR35
import Derived.Test.YtcfjblcgceednaaGreatR25
set_option linter.all false
set_option linter.unusedVariables false
set_option linter.unusedSimpArgs false
set_option maxRecDepth 100000
set_option maxHeartbeats 16000000
namespace Go.Proofs.YtcfjblcgceednaaGreat
section
open Go.RowKit
abbrev GR (x:Ms) (l:Bool) (m:Md) (L:List Int):Wg:=gR l x m (ZqD L)
def Zq3 (B g:Nat) (h:Hd) (bv:Int) (x:Ms) (l:Bool) (m:Md) (k:Nat) (L:List Int) (a b:Nat):Prop:=∀ w,RT w B g h m bv l L →
 Calls Tryz.prog 155 #[.pointer (some ⟨B,0,none⟩),.slice (h.e k).ko (cdM m k).length (h.e k).kc,.int .i64 a,.int .i64 b] w (Ret w (.int .i64 (WA (GR x l m L) (cdM m k) a b 0)))
theorem Zq4 {c:List In3}{p b:Nat} (hs:p=b∨(p<b∧ZaR (c.getD p default).op=false∧(c.getD p default).op≠34∧(c.getD p default).op≠35∧Seg c (p+1) b) ∨
  (∃ en:Nat,Mat c p (-1) en∧p<en∧en<b∧Seg c (p+1) en∧Seg c (en+1) b)∨∃ n en:Nat,Mat c p n en∧p<n∧n<en∧en<b∧Seg c (p+1) n∧Seg c (n+1) en∧Seg c (en+1) b) (hp:p<b) (ho:ZaR (c.getD p default).op=true) :
  ∃ (alt:Int) (en q:Nat),Mat c p alt en∧p<q∧q≤en∧en<c.length∧Seg c (p+1) q∧((alt=-1∧q=en)∨(alt=q∧q<en∧Seg c (q+1) en)):=by
 rcases hs with e|⟨_,h2,_⟩|⟨en,h1,h2,h3,h4,h5⟩|⟨n,en,h1,h2,h3,h4,h5,h6,h7⟩
 ·omega
 ·rw [ho] at h2;cases h2
 ·exact ⟨-1,en,en,h1,h2,Nat.le_refl _,h1.2.2.1,h4,.inl ⟨rfl,rfl⟩⟩
 ·exact ⟨n,en,n,h1,h2,by omega,h1.2.2.1,h5,.inr ⟨rfl,h3,h6⟩⟩
theorem Zq5 {B g:Nat}{h:Hd}{bv:Int}{x:Ms}{l:Bool}{m:Md}{k:Nat}{L:List Int} (X:RCx bv x l m k L) {p b:Nat} (hs:Seg (cdM m k) p b) (hpb:p<b) (ih:∀ a' b',p<a'→Seg (cdM m k) a' b'→Zq3 B g h bv x l m k L a' b') (w:World) (H:RT w B g h m bv l L) :
    Calls Tryz.prog 217 #[.pointer (some ⟨B,0,none⟩),.slice (h.e k).ko (cdM m k).length (h.e k).kc,.int .i64 p] w (Zhf w (.int .i64 (ZqT (GR x l m L) (cdM m k) p).1) (.int .i64 ((ZqT (GR x l m L) (cdM m k) p).2:Int))):=by
 have hp:p<(cdM m k).length:=by have:=(Zmo hs).2;omega
 have hp2:(p:Int) < (cdM m k).length:=by omega
 have hcl:(cdM m k).length≤120:=X.ok.z.2.2
 have hwp:IntKind.i64.wrap ((p:Int)+1)=((p+1:Nat):Int):=IntWalk.i64_in _ (by omega)
 have hko:=H.md.k k X.hk
 obtain ⟨ca,hca,o0,o1,o2⟩:=ZaA (l:=cdM m k) hko hp
 have him:(cdM m k).getD p default∈cdM m k:=ZfU _ hp
 obtain ⟨⟨q1,q2⟩,hq⟩:∃ q,q=ZqT (GR x l m L) (cdM m k) p:=⟨_,rfl⟩
 rw [←hq]
 dsimp only
 have HD:=Zh (X.opd him)
 have HWt:=Zh (X.wt _ him)
 have HOw:=Zh (fun w' (hH:Zay w' h m)=>X.ow _ him w' h hH)
 have HCp:=Zh (X.called him)
 have HTg:=Zh (show ∀ t∈ZaN m ((cdM m k).getD p default).a,0≤t from fun t ht=>ZfT ht)
 have HIv:=Zh (X.ok.i _ him).1
 have hpl:(GR x l m L).pl ((cdM m k).getD p default)=if l=true∧((cdM m k).getD p default).op=28 then (-1:Int) else if Zp8 l m (ZqD L) ((cdM m k).getD p default)=-1 then (-1:Int) else ZmS (x.wt ((cdM m k).getD p default)) (Zp8 l m (ZqD L) ((cdM m k).getD p default)):=rfl
 unfold ZqT at hq
 rw [hpl] at hq
 have hsg:=Zq4 (ZmK hs) hpb
 obtain ⟨i,hi⟩:∃ i,i=(cdM m k).getD p default:=⟨_,rfl⟩
 rw [←hi] at o0 o1 o2 hq HD HWt HOw HCp HTg HIv hsg
 have HIi:=Zh hi
 obtain ⟨op,ia,ib⟩:=i
 dsimp only at o0 o1 o2 hq
 obtain ⟨cv,hcv⟩:∃ c,c=Zp8 l m (ZqD L) ⟨op,ia,ib⟩:=⟨_,rfl⟩
 have HCa:=Zh (fun w' hR=>ZqH (w:=w') (B:=B) (g:=g) (h:=h) (bv:=bv) (l:=l) (L:=L) hR X.hm ⟨op,ia,ib⟩ (fun e=>⟨HD.out.a0 (by dsimp only at e ⊢;omega),by have:=(HD.out.o25 e).1;have:=X.hk;omega⟩) (fun e=>⟨HD.out.a0 (by dsimp only at e ⊢;omega),(HD.out.o26 e).1,fun t ht=>⟨HTg.out t ht,by have:=(HD.out.o26 e).2 t ht;have:=X.hk;omega⟩⟩))
 rw [←hcv] at HCa HCp hq
 obtain ⟨wt,hwt⟩:∃ n,n=x.wt ⟨op,ia,ib⟩:=⟨_,rfl⟩
 rw [←hwt] at HWt HOw hq
 have HWq:=Zh hwt
 obtain ⟨w0,hw0⟩:∃ w0,w0=w.alloc (.cells #[.int .i64 op,.int .i64 ia,.int .i64 ib] 78):=⟨_,rfl⟩
 have HB:=Zh (show Below w.heap.size w w0 by rw [hw0];exact bE)
 have HX:=Zh (show Blk w0 w.heap.size #[.int .i64 op,.int .i64 ia,.int .i64 ib] 78 by rw [hw0];exact Blk.new _ _ _)
 have HT:=Zh (H.old HB.out)
 have HW:=Zh hw0
 have HIh:=Zh (show ∀ a' b',p<a'→Seg (cdM m k) a' b'→∀ w',RT w' B g h m bv l L→Calls Tryz.prog 155 #[.pointer (some ⟨B,0,none⟩),.slice (some ca) (cdM m k).length (h.e k).kc,.int .i64 a',.int .i64 b'] w' (Ret w' (.int .i64 (WA (GR x l m L) (cdM m k) a' b' 0))) from fun a' b' h1 h2 w' hR=>by have:=ih a' b' h1 h2 w' hR;rwa [hca] at this)
 have HKo:=Zh (show ∀ w',RT w' B g h m bv l L→Zar w' (some ca) (h.e k).kc (cdM m k) from fun w' hR=>by have:=hR.md.k k X.hk;rwa [hca] at this)
 have HXc:=Zh X
 have HSg:=Zh hsg
 rw [hca]
 clear hw0 H hi hwt hcv hs hsg hko him hpl ih X
 go_enter Tryz.func217,Tryz.ntmps217
 go_upto_region 2 with fail
 rw [←HW.out]
 clear o0 o1 o2
 have x0:=HX.out.cell 0 (v:=.int .i64 op) rfl
 rcases ho:ZaR op with _|_
 · rw [ho,if_neg (by decide)] at hq
   obtain ⟨e1,rfl⟩:=Prod.mk.inj hq
   have HO:=Zh ho
   have HE1:=Zh e1
   clear hq e1 ho HIh HSg
   have t5:=HT.out.tb.cell 5 (v:=.bool l) rfl
   have x1:=HX.out.cell 1 (v:=.int .i64 ia) rfl
   have x2:=HX.out.cell 2 (v:=.int .i64 ib) rfl
   by_cases hth:l=true∧op=28
   · obtain ⟨rfl,rfl⟩:=hth
     go_wp2_with (go_at_call 151;refine (ZeO _ _).mono ?_;rintro e w2 ⟨rfl,rfl⟩;rw [HO.out])
     go_ret2
     exact Zhg (ZcY (by rw [HE1.out];simp)) (ZcY (by omega)) HB.out
   · rw [if_neg hth] at HE1
     have hth2:l=true→¬ op=28:=fun a b=>hth ⟨a,b⟩
     have HTh:=Zh hth2
     clear hth hth2
     go_upto_region 5 with (go_at_call 151;refine (ZeO _ _).mono ?_;rintro e w2 ⟨rfl,rfl⟩;rw [HO.out])
     all_goals first
       | (exfalso;rename_i e1 e2;simp at e2;exact HTh.out e1 e2)
       | skip
     all_goals
       clear t5
       have t0:=HT.out.tb.cell 0 (v:=.slice h.co m.cl.length h.cc) rfl
       go_upto_region 6 with (go_at_call 288;refine (HCa.out _ HT.out).mono ?_;rintro e w1 ⟨rfl,hb1⟩;have HB1:=Zh hb1;clear hb1 x0 x1 x2 t0)
       have HX1:=Zh (HX.out.old HB1.out)
       have HT1:=Zh (HT.out.old HB1.out)
       by_cases hc1:cv=-1
       · rw [if_pos hc1] at HE1
         go_wp2
         go_ret2
         exact Zhg (ZcY HE1.out.symm) (ZcY (by omega)) (Zaf HB.out HB1.out)
       · rw [if_neg hc1] at HE1
         have HCs:=Zh (show Cs [(⟨B,0,none⟩,.slice h.co m.cl.length h.cc),(⟨B,1,none⟩,.slice h.so m.st.length h.sc),(⟨B,2,none⟩,.slice h.eo m.me.length h.ec),(⟨B,3,none⟩,.int .i64 m.sel),(⟨B,4,none⟩,.int .i64 bv),(⟨w.heap.size,0,none⟩,.int .i64 op),(⟨w.heap.size,1,none⟩,.int .i64 ia),(⟨w.heap.size,2,none⟩,.int .i64 ib)] w1 from ⟨HT1.out.tb.cell 0 rfl,HT1.out.tb.cell 1 rfl,HT1.out.tb.cell 2 rfl,HT1.out.tb.cell 3 rfl,HT1.out.tb.cell 4 rfl,HX1.out.cell 0 rfl,HX1.out.cell 1 rfl,HX1.out.cell 2 rfl,trivial⟩)
         go_upto_region 8 with fail
         refine rO (Cs [(⟨B,0,none⟩,.slice h.co m.cl.length h.cc),(⟨B,1,none⟩,.slice h.so m.st.length h.sc),(⟨B,2,none⟩,.slice h.eo m.me.length h.ec),(⟨B,3,none⟩,.int .i64 m.sel),(⟨B,4,none⟩,.int .i64 bv),(⟨w.heap.size,0,none⟩,.int .i64 op),(⟨w.heap.size,1,none⟩,.int .i64 ia),(⟨w.heap.size,2,none⟩,.int .i64 ib)]) (oL [0,1,2,3,4,5,6,7,8,10,12,13,109,111,14,15]) HCs.out ?_
         repeat refine pO ?_
         refine oO fun Kv hK=>?_
         go_simp
         refine (HOw.out _ (HT1.out.md.old (Below.refl _ _).drew)).mono ?_
         rintro e w2 ⟨rfl,hb2⟩
         have HB2:=Zh (Zaf (Below.refl w1.heap.size w1).drew hb2)
         refine hK _ _ ⟨Cs.keeps (Zn8.of HB2.out) HCs.out,?_⟩
         clear hK Kv hb2
         repeat refine pO ?_
         refine oO fun Kv hK=>?_
         go_simp
         refine (Zqn wt cv _ (by have:=HWt.out;omega) (by have:=HCp.out.2;unfold Bl at this;omega)).mono ?_
         rintro e w3 ⟨rfl,hb3⟩
         have HB3:=Zh (Zaf HB2.out hb3)
         refine hK _ _ ⟨Cs.keeps (Zn8.of HB3.out) HCs.out,?_⟩
         clear hK Kv hb3
         repeat refine pO ?_
         refine Zd5 ?_
         go_wp2
         go_ret2
         exact Zhg (ZcY HE1.out.symm) (ZcY (by omega)) (Zaf HB.out (Zaf HB1.out HB3.out))
 · rw [ho,if_pos rfl] at hq
   obtain ⟨alt,en,q,hmt,hpq,hqe,hel,hs1,hcase⟩:=HSg.out ho
   rw [Zmn hmt] at hq
   obtain ⟨f,hf⟩:∃ f,f=WA (GR x l m L) (cdM m k) (p+1) q 0:=⟨_,rfl⟩
   obtain ⟨s,hs⟩:∃ s,s=if alt=-1 then 0 else WA (GR x l m L) (cdM m k) (q+1) en 0:=⟨_,rfl⟩
   have hq':(q1,q2)=((GR x l m L).brk ⟨op,ia,ib⟩ f s,en+1):=by
     rw [hq,hf,hs]
     rcases hcase with ⟨rfl,rfl⟩|⟨rfl,h1,h2⟩
     · rfl
     · dsimp only
       rw [if_neg (by omega),if_neg (by omega),if_neg (by omega),Int.toNat_natCast]
   obtain ⟨e1,rfl⟩:=Prod.mk.inj hq'
   have HPf:=Zh (show Pl l f by rw [hf];exact HXc.out.wa hs1 (Pl.of (by unfold Bd;omega)))
   have HPs:=Zh (show Pl l s by
     rw [hs]
     rcases hcase with ⟨rfl,rfl⟩|⟨rfl,h1,h2⟩
     · exact Pl.of (by unfold Bd;omega)
     · rw [if_neg (by omega)];exact HXc.out.wa h2 (Pl.of (by unfold Bd;omega)))
   have HE1:=Zh (show q1=Zp9 l (scV bv) ⟨op,ia,ib⟩ f s wt (tlV bv) by rw [e1,←HXc.out.tl,←HXc.out.sc,HWq.out];rfl)
   have HPt:=Zh (show ∀ w',RT w' B g h m bv l L→Calls Tryz.prog 155 #[.pointer (some ⟨B,0,none⟩),.slice (some ca) (cdM m k).length (h.e k).kc,.int .i64 ((p+1:Nat):Int),.int .i64 q] w' (Ret w' (.int .i64 f)) from fun w' hR=>by have:=HIh.out (p+1) q (by omega) hs1 w' hR;rwa [←hf] at this)
   have HO:=Zh ho
   have HMt:=Zh (Zqm (cdM m k) (some ca) (h.e k).kc w0 (HKo.out _ HT.out) HXc.out.code hmt)
   have hen:IntKind.i64.wrap ((en:Int)+1)=((en+1:Nat):Int):=IntWalk.i64_in _ (by omega)
   have HSs:=Zh hs
   clear hq hq' e1 ho hmt hf hs HSg
   rcases hcase with ⟨rfl,rfl⟩|⟨rfl,hq1,hq2⟩
   all_goals
     go_upto_region 10 with (first
       | (go_at_call 151;refine (ZeO _ _).mono ?_;rintro e w2 ⟨rfl,rfl⟩;rw [HO.out])
       | (go_at_call 165;refine HMt.out.mono ?_;rintro e w1 ⟨rfl,hb1⟩;have HB1:=Zh hb1;clear hb1 x0))
     have HT1:=Zh (HT.out.old HB1.out)
     have HX1:=Zh (HX.out.old HB1.out)
     go_upto_region 14 with (go_at_call 155;refine (HPt.out _ HT1.out).mono ?_;rintro e w2 ⟨rfl,hb2⟩;have HB2:=Zh (Zaf HB1.out hb2);clear hb2)
     have HT2:=Zh (HT.out.old HB2.out)
     have HX2:=Zh (HX.out.old HB2.out)
   all_goals first
     | (have hss:s=0:=by have:=HSs.out;simpa using this
        subst hss
        obtain ⟨w3,hw3⟩:∃ w3,w3=w2:=⟨_,rfl⟩
        have HB3:=Zh (show Below w0.heap.size w0 w3 by rw [hw3];exact HB2.out)
        go_upto_region 16 with fail
        rw [←hw3]
        clear hw3)
     | (have HPu:=Zh (HIh.out (q+1) en (by omega) hq2 w2 HT2.out)
        have hss:=HSs.out
        rw [if_neg (by omega)] at hss
        rw [←hss] at HPu
        clear hss
        go_upto_region 16 with (go_at_call 155;refine HPu.out.mono ?_;rintro e w3 ⟨rfl,hb3⟩;have HB3:=Zh (Zaf HB2.out hb3);clear hb3))
   all_goals
     have HT3:=Zh (HT.out.old HB3.out)
     have HX3:=Zh (HX.out.old HB3.out)
     have HCs:=Zh (show Cs [(⟨B,0,none⟩,.slice h.co m.cl.length h.cc),(⟨B,1,none⟩,.slice h.so m.st.length h.sc),(⟨B,2,none⟩,.slice h.eo m.me.length h.ec),(⟨B,3,none⟩,.int .i64 m.sel),(⟨B,4,none⟩,.int .i64 bv),(⟨w.heap.size,0,none⟩,.int .i64 op),(⟨w.heap.size,1,none⟩,.int .i64 ia),(⟨w.heap.size,2,none⟩,.int .i64 ib)] w3 from ⟨HT3.out.tb.cell 0 rfl,HT3.out.tb.cell 1 rfl,HT3.out.tb.cell 2 rfl,HT3.out.tb.cell 3 rfl,HT3.out.tb.cell 4 rfl,HX3.out.cell 0 rfl,HX3.out.cell 1 rfl,HX3.out.cell 2 rfl,trivial⟩)
     refine rO (Cs [(⟨B,0,none⟩,.slice h.co m.cl.length h.cc),(⟨B,1,none⟩,.slice h.so m.st.length h.sc),(⟨B,2,none⟩,.slice h.eo m.me.length h.ec),(⟨B,3,none⟩,.int .i64 m.sel),(⟨B,4,none⟩,.int .i64 bv),(⟨w.heap.size,0,none⟩,.int .i64 op),(⟨w.heap.size,1,none⟩,.int .i64 ia),(⟨w.heap.size,2,none⟩,.int .i64 ib)]) (oL [0,1,2,3,4,5,6,7,8,9,10,11,12,14,17,18,113,115,116,19,20]) HCs.out ?_
     repeat refine pO ?_
     refine oO fun Kv hK=>?_
     go_simp
     refine (HOw.out _ (HT3.out.md.old (Below.refl _ _).drew)).mono ?_
     rintro e w4 ⟨rfl,hb4⟩
     have HB4:=Zh (Zaf (Below.refl w3.heap.size w3).drew hb4)
     refine hK _ _ ⟨Cs.keeps (Zn8.of HB4.out) HCs.out,?_⟩
     clear hK Kv hb4
     repeat refine pO ?_
     refine oO fun Kv hK=>?_
     go_simp
     refine (Zqy (HT3.out.old HB4.out)).mono ?_
     rintro e w5 ⟨rfl,hb5⟩
     have HB5:=Zh (Zaf HB4.out hb5)
     refine hK _ _ ⟨Cs.keeps (Zn8.of HB5.out) HCs.out,?_⟩
     clear hK Kv hb5
     repeat refine pO ?_
     refine oO fun Kv hK=>?_
     go_simp
     refine (ZqB (HT3.out.old HB5.out) ⟨op,ia,ib⟩ f _ wt (tlV bv) HPf.out.2 HPs.out.2 HWt.out (by unfold tlV;split<;>omega) (fun e=>ZpD HIv.out e)).mono ?_
     rintro e w6 ⟨rfl,hb6⟩
     have HB6:=Zh (Zaf HB5.out hb6)
     refine hK _ _ ⟨Cs.keeps (Zn8.of HB6.out) HCs.out,?_⟩
     clear hK Kv hb6
     repeat refine pO ?_
     refine Zd5 ?_
     go_wp2
     go_ret2
     exact Zhg (ZcY HE1.out.symm) (ZcY (by omega)) (Zaf HB.out (Zaf HB3.out HB6.out))
end
section
open Go.RowKit
theorem RCx.one {bv:Int}{x:Ms}{l:Bool}{m:Md}{k:Nat}{L:List Int} (X:RCx bv x l m k L) {p b:Nat} (hs:Seg (cdM m k) p b) (hp:p<b):Pl l (ZqT (GR x l m L) (cdM m k) p).1:=by
 have hm:∀ k',k' < (cdM m k).length→(cdM m k).getD k' default∈cdM m k:=fun k' hk=>ZfU _ hk
 have h0:Pl l 0:=Pl.of (by unfold Bd;omega)
 have hpl:p<(cdM m k).length:=by have:=(Zmo hs).2;omega
 rcases ZmK hs with e|⟨_,h2,h3,h4,h5⟩|⟨en,h1,h2,h3,h4,h5⟩|⟨n,en,h1,h2,h3,h4,h5,h6,h7⟩
 ·omega
 ·unfold ZqT
  rw [if_neg (by rw [h2];decide)]
  exact X.pl (hm p hpl)
 ·unfold ZqT
  rw [if_pos (show _=true from h1.2.1),Zmn h1]
  exact X.brk (hm p hpl) (X.wa h4 h0) h0
 ·unfold ZqT
  rw [if_pos (show _=true from h1.2.1),Zmn h1]
  dsimp only
  rw [if_neg (by omega),if_neg (by omega),Int.toNat_natCast]
  exact X.brk (hm p hpl) (X.wa h5 h0) (X.wa h6 h0)
theorem Zq6 {B g:Nat}{h:Hd}{bv:Int}{x:Ms}{l:Bool}{m:Md}{k:Nat}{L:List Int} (X:RCx bv x l m k L) {a b:Nat} (hs:Seg (cdM m k) a b) (ih:∀ a' b',a<a'→Seg (cdM m k) a' b'→Zq3 B g h bv x l m k L a' b'):Zq3 B g h bv x l m k L a b:=by
 intro w H
 have hle:=Zmo hs
 have hcl:(cdM m k).length≤120:=X.ok.z.2.2
 have HO:=Zh (show ∀ p,a≤p→p<b→Seg (cdM m k) p b→∀ w',RT w' B g h m bv l L→_ from fun p h1 h2 h3 w' hR=>Zq5 X h3 h2 (fun a' b' h4 h5=>ih a' b' (by omega) h5) w' hR)
 have HR:=Zh H
 have HX:=Zh X
 have HS:=Zh hs
 clear H X hs ih
 go_enter Tryz.func155,Tryz.ntmps155
 go_wp2
 go_loopw [9,10] (fun s i wr=>∃ (p:Nat) (sv:Int),i=.int .i64 p∧s=.int .i64 sv∧Hid (a≤p∧p≤b∧Seg (cdM m k) p b)∧Hid (0≤sv∧Pl l sv)∧Hid (WA (GR x l m L) (cdM m k) a b 0=WA (GR x l m L) (cdM m k) p b sv)∧Hid (Below w.heap.size w wr)) (fun _ i _=>b-(intOf i).toNat)
 case atStart=>exact ⟨a,0,rfl,rfl,⟨Nat.le_refl _,hle.1,HS.out⟩,⟨by omega,Pl.of (by unfold Bd;omega)⟩,rfl,by exact bE⟩
 case round=>
  obtain ⟨p,sv,rfl,rfl,HP,HSv,HWa,HB⟩:=hrel
  rename World=>wo
  by_cases hpb:p<b
  ·have hpb2:(p:Int) < b:=by omega
   obtain ⟨s1,s2,s3,s4⟩:=ZqU (g:=GR x l m L) HP.out.2.2 hpb
   have hv:=HX.out.one HP.out.2.2 hpb
   have HOn:=Zh (HO.out p HP.out.1 hpb HP.out.2.2 _ (HR.out.old HB.out))
   have HW2:=Zh (HWa.out.trans (s4 sv))
   obtain ⟨⟨v,nx⟩,hq⟩:∃ q,q=ZqT (GR x l m L) (cdM m k) p:=⟨_,rfl⟩
   rw [←hq] at HOn HW2 hv s1 s2 s3
   dsimp only at hv s1 s2 s3
   have HV:=Zh hv
   have HN:=Zh (And.intro s1 (And.intro s2 s3))
   clear hq hv s1 s2 s3 s4
   by_cases hv1:v=-1
   ·subst hv1
    go_wp2_with (go_at_call 217;refine HOn.out.mono ?_;rintro e w1 ⟨rfl,hb1⟩)
    go_ret
    refine ZcT (ZcY ?_) (Zaf HB.out hb1)
    rw [HW2.out,show (GR x l m L).plus sv (-1)=-1 by show Zp5 sv (-1)=-1;unfold Zp5;rw [if_pos (.inr rfl)]]
    exact (Zqi HN.out.2.2).symm
   ·go_wp2_with (first
     | (go_at_call 217;refine HOn.out.mono ?_;rintro e w1 ⟨rfl,hb1⟩;have HB1:=Zh (Zaf HB.out hb1);clear hb1)
     | (go_at_call 166;refine (Zqn sv v _ (by have:=HSv.out.2.2;unfold Bl at this;omega) (by have:=HV.out.2;unfold Bl at this;omega)).mono ?_;rintro e w2 ⟨rfl,hb2⟩;have HB2:=Zh (Zaf HB1.out hb2);clear hb2))
    have h1:=HSv.out.2.2
    have h2:=HV.out.2
    unfold Bl at h1 h2
    have h3:=HSv.out.1
    have hps:Zp5 sv v=ZmS sv v:=Zqb ⟨h3,h1.2⟩ ⟨by omega,h2.2⟩
    have hbd:Bd (ZmS sv v):=Zoe ⟨h3,h1.2⟩ ⟨by omega,h2.2⟩
    refine ⟨⟨nx,ZmS sv v,rfl,rfl,⟨by have:=HP.out.1;have:=HN.out.1;omega,HN.out.2.1,HN.out.2.2⟩,⟨hbd.1,Pl.of hbd⟩,HW2.out.trans (by rw [←hps];rfl),HB2.out⟩,?_⟩
    have:=HN.out.1
    have:=HN.out.2.1
    simp [intOf]
    omega
  ·obtain rfl:p=b:=by have:=HP.out.2.1;omega
   go_wp2
   go_ret
   exact ZcT (ZcY (by rw [HWa.out,Zmv])) HB.out
theorem Zq7 {B g:Nat}{h:Hd}{bv:Int}{x:Ms}{l:Bool}{m:Md}{k:Nat}{L:List Int} (X:RCx bv x l m k L):∀ (n a b:Nat),(cdM m k).length-a≤n→Seg (cdM m k) a b→Zq3 B g h bv x l m k L a b
 | 0,a,b,hn,hs=>Zq6 X hs fun a' b' h1 h2=>by have:=Zmo hs;have:=Zmo h2;omega
 |n+1,a,b,hn,hs=>Zq6 X hs fun a' b' h1 h2=>by
  by_cases hz:a'≤(cdM m k).length
  ·exact Zq7 X n a' b' (by omega) h2
  ·have:=Zmo h2;omega
end
section
open Go.RowKit
theorem Zq8 {w w':World}{g:Nat}{a:Addr}{v:Value} (h:w.cell? a=some v) (hu:Upd g g w w') (hne:a.block≠g):w'.cell? a=some v:=
 (World.cell?_of_block (w:=w) (hu.block _ (Zac h) hne hne)).trans h
def Zq9 (G:(Int→Int)→Wg) (m:Md) (k:Nat):List Int:=ZmZ G m k++List.replicate (m.me.length-k) 0
theorem Zra {G:(Int→Int)→Wg}{m:Md}{k:Nat} (hk:k≤m.me.length):(Zq9 G m k).length=m.me.length:=by unfold Zq9;simp [Zm1];omega
theorem Zrb {G:(Int→Int)→Wg}{m:Md}{k:Nat}:ZqD (Zq9 G m k)=fun t=>(ZmZ G m k).getD t.toNat 0:=by
 funext t
 unfold ZqD Zq9
 by_cases h:t.toNat<(ZmZ G m k).length
 ·rw [List.getD_eq_getElem?_getD,List.getElem?_append_left h,←List.getD_eq_getElem?_getD]
 ·rw [List.getD_eq_getElem?_getD,List.getElem?_append_right (by omega),List.getD_eq_getElem?_getD,List.getElem?_eq_none (l:=ZmZ G m k) (by omega),List.getElem?_replicate]
  split<;>rfl
theorem Zrc {G:(Int→Int)→Wg}{m:Md}{k:Nat} (hk:k<m.me.length):(Zq9 G m k).set k (Zm0 G m k)=Zq9 G m (k+1):=by
 unfold Zq9
 rw [List.set_append_right _ _ (by rw [Zm1];omega),Zm1,Nat.sub_self,show m.me.length-k=(m.me.length-(k+1))+1 by omega,List.replicate_succ,List.set_cons_zero]
 have:ZmZ G m (k+1)=ZmZ G m k++[Zm0 G m k]:=by
  rw [ZpM]
  rfl
 rw [this,List.append_assoc]
 rfl
structure MCx (bv:Int) (x:Ms) (m:Md):Prop where
 hm:Za1 m=true
 sd:∀ k,k<m.me.length→Zqg m (cdM m k)
 ow:∀ k,k<m.me.length→Zqw bv m x (cdM m k)
 wt:∀ k,k<m.me.length→∀ i∈cdM m k,0≤x.wt i∧x.wt i≤1000
 tl:x.tl=tlV bv
 sc:x.sc=scV bv
theorem MCx.at {bv:Int}{x:Ms}{m:Md} (X:MCx bv x m) {l:Bool}{k:Nat}{L:List Int} (hk:k<m.me.length) (hn:∀ t,Pl l (ZqD L t)):RCx bv x l m k L:=⟨X.hm,hk,X.sd k hk,X.ow k hk,X.wt k hk,X.tl,X.sc,hn⟩
theorem Zrd {m:Md} (h:(Zmg m).2.2=0):MCx 0 ZmV m:=
 have hk:=ZqR h
 ⟨hk.1,hk.2,fun k h2=>Zqx fun i hi=>((ZfN hk.1 h2).i i hi).1,fun k h2 i hi=>ZpI ((ZfN hk.1 h2).i i hi).1,rfl,rfl⟩
def Zre (W:World) (h:Hd) (m:Md) (bv:Int) (l:Bool) (L:List Int):Ending→World→Prop:=fun e w'=>(∃ B g,e=.returned (.pointer (some ⟨B,0,none⟩))∧RT w' B g h m bv l L)∧Below W.heap.size W w'
theorem Zrf {bv:Int}{x:Ms}{m:Md} (X:MCx bv x m) (l:Bool) (h:Hd) (w:World) (H:Zay w h m):Calls Tryz.prog 95 #[.agg #[.slice h.co m.cl.length h.cc,.slice h.so m.st.length h.sc,.slice h.eo m.me.length h.ec,.int .i64 m.sel],.int .i64 bv,.bool l] w (Zre w h m bv l (ZmZ (gR l x m) m m.me.length)):=by
 have hsz:=(ZqG X.hm).2
 have hmk:=run_make_row' (P:=Tryz.prog) 34 3 (.int .i64 0) 8 Tryz.underlying34 (by kernel_rfl) rfl .i64 .i64 m.me.length (by omega) (by omega)
 rw [Zcn] at hmk
 obtain ⟨w0,hw0⟩:∃ w0,w0=w.alloc (.cells #[.slice h.co m.cl.length h.cc,.slice h.so m.st.length h.sc,.slice h.eo m.me.length h.ec,.int .i64 m.sel] 26):=⟨_,rfl⟩
 have HB:=Zh (show Below w.heap.size w w0 by rw [hw0];exact bE)
 have HX:=Zh (show Blk w0 w.heap.size #[.slice h.co m.cl.length h.cc,.slice h.so m.st.length h.sc,.slice h.eo m.me.length h.ec,.int .i64 m.sel] 26 by rw [hw0];exact Blk.new _ _ _)
 have HM:=Zh (H.old HB.out)
 have HW:=Zh hw0
 have HXc:=Zh X
 clear hw0 H X
 go_enter Tryz.func95,Tryz.ntmps95
 go_upto_region 1 with fail
 rw [←HW.out]
 refine rO (Cs [(⟨w.heap.size,0,none⟩,.slice h.co m.cl.length h.cc),(⟨w.heap.size,1,none⟩,.slice h.so m.st.length h.sc),(⟨w.heap.size,2,none⟩,.slice h.eo m.me.length h.ec),(⟨w.heap.size,3,none⟩,.int .i64 m.sel)]) (oL [0,1,2,3,4,5,106,7,108,9]) ⟨HX.out.cell 0 rfl,HX.out.cell 1 rfl,HX.out.cell 2 rfl,HX.out.cell 3 rfl,trivial⟩ ?_
 repeat refine pO ?_
 refine oO fun Kv hK=>?_
 go_simp
 refine hK _ _ ⟨Cs.keeps (Zn8.of bE) (show Cs _ w0 from ⟨HX.out.cell 0 rfl,HX.out.cell 1 rfl,HX.out.cell 2 rfl,HX.out.cell 3 rfl,trivial⟩),?_⟩
 clear hK Kv
 repeat refine pO ?_
 refine oO fun Kv hK=>?_
 go_simp
 refine hK _ _ ⟨Cs.keeps (Zn8.of bE) (show Cs _ w0 from ⟨HX.out.cell 0 rfl,HX.out.cell 1 rfl,HX.out.cell 2 rfl,HX.out.cell 3 rfl,trivial⟩),?_⟩
 clear hK Kv
 repeat refine pO ?_
 refine Zd5 ?_
 go_wp2
 clear hmk
 obtain ⟨w2,hw2⟩:∃ w2,w2=((w0.alloc (Obj.cells (Array.replicate m.me.length (Value.int IntKind.i64 0)) 3)).alloc (Obj.cells #[Value.slice h.co m.cl.length h.cc,Value.slice h.so m.st.length h.sc,Value.slice h.eo m.me.length h.ec,Value.int IntKind.i64 m.sel,Value.int IntKind.i64 bv,Value.bool l,Value.slice (some { block:=w0.heap.size,off:=0 }) m.me.length m.me.length] 132)).drew:=⟨_,rfl⟩
 rw [←hw2]
 obtain ⟨g,hg⟩:∃ g,g=w0.heap.size:=⟨_,rfl⟩
 obtain ⟨B,hBq⟩:∃ B,B=w0.heap.size+1:=⟨_,rfl⟩
 have HB2:=Zh (show Below w0.heap.size w0 w2 by rw [hw2];exact bE)
 have HR2:=Zh (show RT w2 B g h m bv l (Zq9 (gR l x m) m 0) from by
  rw [hw2,hg,hBq]
  refine ⟨?_,?_,HM.out.old bE,Zra (Nat.zero_le _)⟩
  ·exact Blk.drew (Blk.new' _ _ (by simp))
  ·have:Zp1 (Zq9 (gR l x m) m 0)=Array.replicate m.me.length (Value.int IntKind.i64 0):=by unfold Zp1 Zq9 ZmZ;rw [List.nil_append,Nat.sub_zero,List.map_replicate,List.toArray_replicate]
   rw [this]
   exact Blk.drew ((Blk.new w0 _ _).alloc _))
 have HG:=Zh (show w0.heap.size≤g∧B≠g∧w.heap.size<g by rw [hg,hBq];have:=HX.out.lt;omega)
 rw [←hBq,←hg]
 clear hw2 hg hBq
 go_loopw [8] (fun i wr=>∃ k:Nat,k≤m.me.length∧i=.int .i64 k∧Hid (RT wr B g h m bv l (Zq9 (gR l x m) m k))∧Hid (∀ t,Pl l (ZqD (Zq9 (gR l x m) m k) t))∧Hid (Upd g g w2 wr)) (fun i _=>m.me.length-(intOf i).toNat)
 case atStart=>
  refine ⟨0,Nat.zero_le _,rfl,HR2.out,fun t=>?_,Upd.refl _ _ _⟩
  rw [Zrb]
  unfold ZmZ
  exact Pl.of (by show Bd (([]:List Int).getD _ 0);simp [Bd])
 case round=>
  obtain ⟨k,hk,rfl,HR,HN,HU⟩:=hrel
  rename World=>wo
  by_cases hkl:k<m.me.length
  ·have hkl2:(k:Int) < m.me.length:=by omega
   have hwk:IntKind.i64.wrap ((k:Int)+1)=((k+1:Nat):Int):=IntWalk.i64_in _ (by omega)
   have X:=HXc.out.at (l:=l) (L:=Zq9 (gR l x m) m k) hkl HN.out
   have HP:=Zh (Zq7 (B:=B) (g:=g) (h:=h) X (cdM m k).length 0 (cdM m k).length (by omega) (Zmq X.ok.n))
   obtain ⟨ea,he,-,-,-,-,-,-,e6⟩:=HM.out.mth hkl
   rw [show (m.me.getD k default).k.length=(cdM m k).length from rfl] at e6
   have HBo:=Zh (HU.out.below HB2.out (Nat.le_refl _) HG.out.1 HG.out.1)
   have hel:=Nat.lt_of_lt_of_le (Zac e6) HG.out.1
   have e6:=(HBo.out.cell (Zac e6)).trans e6
   have x2:=(HX.out.old HBo.out).cell 2 (v:=.slice h.eo m.me.length h.ec) rfl
   rw [he] at x2
   have HEl:=Zh hel
   have HEa:=Zh he
   clear hel he
   have t6:=HR.out.tb.cell 6 (v:=.slice (some ⟨g,0,none⟩) m.me.length m.me.length) rfl
   have X2:=Zh X
   clear X
   go_upto_region 5 with fail
   have HCs:=Zh (show Cs [(⟨B,6,none⟩,.slice (some ⟨g,0,none⟩) m.me.length m.me.length),(⟨w.heap.size,2,none⟩,.slice (some ea) m.me.length h.ec),(⟨(ea.add (k*7)).block,(ea.add (k*7)).off+6,none⟩,.slice (h.e k).ko (cdM m k).length (h.e k).kc)] wo from ⟨t6,x2,e6,trivial⟩)
   refine rO (Cs [(⟨B,6,none⟩,.slice (some ⟨g,0,none⟩) m.me.length m.me.length),(⟨w.heap.size,2,none⟩,.slice (some ea) m.me.length h.ec),(⟨(ea.add (k*7)).block,(ea.add (k*7)).off+6,none⟩,.slice (h.e k).ko (cdM m k).length (h.e k).kc)]) (oL [0,1,2,3,4,5,6,7,8,9,10,11,12,13,14,15,16,17,18,119,20,121]) ⟨t6,x2,e6,trivial⟩ ?_
   clear t6 x2 e6
   repeat refine pO ?_
   refine oO fun Kv hK=>?_
   go_simp
   refine (HP.out _ (HR.out.old (Below.refl _ _).drew)).mono ?_
   rintro e w3 ⟨rfl,hb3⟩
   have HB3:=Zh (Zaf (Below.refl wo.heap.size wo).drew hb3)
   have HR3:=Zh (HR.out.old HB3.out)
   have HCs3:=Zh (Cs.keeps (Zn8.of HB3.out) HCs.out)
   refine hK _ _ ⟨HCs3.out,?_⟩
   clear hK Kv hb3
   repeat refine pO ?_
   refine oO fun Kv hK=>?_
   have g0:=Zp3 HR3.out.nb (k:=k) (by rw [Zra hk];exact hkl)
   have f0:=HR3.out.nb.frozen k
   go_simp
   obtain ⟨v,hv⟩:∃ v,v=WA (GR x l m (Zq9 (gR l x m) m k)) (cdM m k) 0 (cdM m k).length 0:=⟨_,rfl⟩
   rw [←hv]
   obtain ⟨w4,hw4⟩:∃ w4,w4=w3.setCell ⟨g,k,none⟩ (.int .i64 v):=⟨_,rfl⟩
   have hu4:Upd g g w3 w4:=by rw [hw4];exact (Upd.refl g g w3).set k _
   have hvm:v=Zm0 (gR l x m) m k:=by rw [hv,ZpM];show WA (gR l x m (ZqD _)) _ _ _ _=_;rw [Zrb]
   have HVP:=Zh (show Pl l v by rw [hv];exact X2.out.wa (Zmq X2.out.ok.n) (Pl.of (by unfold Bd;omega)))
   have HU4:=Zh ((HU.out.bel HB3.out).trans hu4)
   have HR4:=Zh (show RT w4 B g h m bv l (Zq9 (gR l x m) m (k+1)) from by
    refine ⟨?_,?_,HM.out.old (HU4.out.below HB2.out (Nat.le_refl _) HG.out.1 HG.out.1),Zra hkl⟩
    ·rw [hw4];exact HR3.out.tb.other (a:=⟨g,k,none⟩) HG.out.2.1 _
    ·rw [hw4,←Zrc hkl,←hvm];exact Zp2 HR3.out.nb _)
   rw [←hw4]
   refine hK _ _ ⟨⟨Zq8 HCs3.out.1 hu4 HG.out.2.1,Zq8 HCs3.out.2.1 hu4 (by have:=HG.out.2.2;dsimp only;omega),Zq8 HCs3.out.2.2.1 hu4 (by have:=HEl.out;omega),trivial⟩,?_⟩
   clear hK Kv g0 f0 hw4 hu4 hv
   have HVm:=Zh hvm
   clear hvm
   refine Zd5 ?_
   go_wp2
   refine ⟨⟨k+1,hkl,rfl,HR4.out,fun t=>?_,HU4.out⟩,by simp [intOf];omega⟩
   rw [←Zrc hkl,←HVm.out]
   unfold ZqD
   rw [Zp4 _ _ _ (by rw [Zra hk];exact hkl)]
   split
   ·exact HVP.out
   ·exact HN.out t
  ·obtain rfl:k=m.me.length:=by omega
   have hj5:¬ (m.me.length:Int) < m.me.length:=by omega
   have x2:=(HX.out.old (HU.out.below HB2.out (Nat.le_refl _) HG.out.1 HG.out.1)).cell 2 (v:=.slice h.eo m.me.length h.ec) rfl
   go_wp2
   go_ret
   have hz:Zq9 (gR l x m) m m.me.length=ZmZ (gR l x m) m m.me.length:=by unfold Zq9;simp
   exact ⟨⟨B,g,rfl,hz▸HR.out⟩,Zaf HB.out (HU.out.below HB2.out (Nat.le_refl _) HG.out.1 HG.out.1)⟩
end
section
open Go.RowKit
theorem Zrg {m:Md}{k:Int} (h:ZpT m k=true):(Zmg m).2.2=0:=by
 unfold ZpT at h
 simp only [Bool.and_eq_true,decide_eq_true_eq] at h
 exact h.1
theorem Zrh {m:Md}{k:Nat} (h:(Zmg m).2.2=0) (hk:k<m.me.length):Zm0 (gR false ZmV m) m k=Zm0 (gW ZmV m) m k:=
 ZqS (ZqR h).1 (ZqR h).2 (Zrd h).wt (by decide) (fun q=>by cases q) (k+1) k (by omega) hk
section
variable (m:Md) (h:Hd) (k:Int) (w:World) (H:Zay w h m)
include H
theorem Zri:Calls Tryz.prog 88 #[.agg #[.slice h.co m.cl.length h.cc,.slice h.so m.st.length h.sc,.slice h.eo m.me.length h.ec,.int .i64 m.sel],.int .i64 k] w (Zhf w (.int .i64 (ZpW m k).1) (.int .i64 (ZpW m k).2)):=by
 have HB0:=Zh (show Below w.heap.size w (w.alloc (.cells #[.slice h.co m.cl.length h.cc,.slice h.so m.st.length h.sc,.slice h.eo m.me.length h.ec,.int .i64 m.sel] 26)) by exact bE)
 have HA:=Zh (Zqt m h k _ (H.old HB0.out))
 obtain ⟨r1,hr1⟩:∃ r,r=(ZpW m k).1:=⟨_,rfl⟩
 obtain ⟨r2,hr2⟩:∃ r,r=(ZpW m k).2:=⟨_,rfl⟩
 rw [←hr1,←hr2]
 have HX0:=Zh (Blk.new w #[.slice h.co m.cl.length h.cc,.slice h.so m.st.length h.sc,.slice h.eo m.me.length h.ec,.int .i64 m.sel] 26)
 have HH:=Zh H
 rcases hq:ZpT m k with _|_
 ·rw [hq] at HA
  have e1:r1=0:=by rw [hr1];unfold ZpW;rw [hq];rfl
  have e2:r2=1:=by rw [hr2];unfold ZpW;rw [hq];rfl
  have HE:=Zh (And.intro e1 e2)
  clear H hr1 hr2 hq e1 e2
  go_enter Tryz.func88,Tryz.ntmps88
  go_wp2_with (go_at_call 87;refine HA.out.mono ?_;rintro e w1 ⟨rfl,hb1⟩)
  exact j9
 ·rw [hq] at HA
  have hmo:=Zrg hq
  obtain ⟨hm,hk0,hk1⟩:=ZpU hq
  obtain ⟨k,rfl⟩:∃ d:Nat,k=d:=⟨k.toNat,by omega⟩
  have hkl:k<m.me.length:=by omega
  have hkl2:(k:Int) < m.me.length:=by omega
  obtain ⟨v,hv⟩:∃ v,v=Zm0 (gW ZmV m) m k:=⟨_,rfl⟩
  have e1:r1=if 1000000000<v then 0 else v:=by rw [hr1,hv];unfold ZpW;rw [hq,if_pos rfl,Int.toNat_natCast];split<;>rfl
  have e2:r2=if 1000000000<v then 6 else 0:=by rw [hr2,hv];unfold ZpW;rw [hq,if_pos rfl,Int.toNat_natCast];split<;>rfl
  have HE:=Zh (And.intro e1 e2)
  have HT:=Zh (fun w' hb=>Zrf (Zrd hmo) false h w' (HH.out.old (w':=w') hb))
  have HV:=Zh (show (ZmZ (gR false ZmV m) m m.me.length).getD k 0=v by rw [Zm2 _ _ hkl,Zrh hmo hkl,hv])
  clear H hr1 hr2 hq e1 e2 hv hm hmo
  go_enter Tryz.func88,Tryz.ntmps88
  go_wp2_with (first
   | (go_at_call 87;refine HA.out.mono ?_;rintro e w1 ⟨rfl,hb1⟩;have HB1:=Zh (Zaf HB0.out hb1);have HX1:=Zh (HX0.out.old hb1);have x0:=HX1.out.cell 0 (v:=.slice h.co m.cl.length h.cc) rfl;have x1:=HX1.out.cell 1 (v:=.slice h.so m.st.length h.sc) rfl;have x2:=HX1.out.cell 2 (v:=.slice h.eo m.me.length h.ec) rfl;have x3:=HX1.out.cell 3 (v:=.int .i64 m.sel) rfl;clear hb1)
   | (go_at_call 95;refine (HT.out _ HB1.out).mono ?_;rintro e w2 ⟨⟨B,g,rfl,hR⟩,hb2⟩;have HB2:=Zh (Zaf HB1.out hb2);have t6:=hR.tb.cell 6 (v:=.slice (some ⟨g,0,none⟩) m.me.length m.me.length) rfl;have lB:=hR.tb.lt;have n0:=Zp3 hR.nb (k:=k) (by rw [Zm1];exact hkl);rw [HV.out] at n0;clear hb2 hR x0 x1 x2 x3)
   | (go_at_call 96;refine (Zqr v _).mono ?_;rintro e w3 ⟨rfl,hb3⟩;rw [←HE.out.1,←HE.out.2]))
  go_ret2
  exact Zhg rfl rfl (Zaf HB2.out hb3)
end
end
section
open Go.RowKit
attribute [local go_sem] World.cell?_alloc_some
def Zrj (o:Int):Bool:=decide ((0≤o∧o≤11)∨(27≤o∧o≤30)∨(33≤o∧o≤35))
theorem Zrk (o:Int) (w:World):Calls Tryz.prog 86 #[.int .i64 o] w (Ret w (.bool (Zrj o))):=by
 go_enter Tryz.func86,Tryz.ntmps86
 go_wp2
 all_goals
  go_ret
  refine ZcT (ZcX ?_) (Below.refl _ _)
  simp only [beq_iff_eq,beq_eq_false_iff_ne] at *
  unfold Zrj
  first|exact (decide_eq_true (by omega)).symm|exact (decide_eq_false (by omega)).symm
theorem Zrl (i:In3) (w:World):Calls Tryz.prog 85 #[.agg #[.int .i64 i.op,.int .i64 i.a,.int .i64 i.b]] w (Ret w (.bool (!Zrj i.op))):=by
 obtain ⟨op,a,b⟩:=i
 dsimp only
 have HP:=Zh (fun w=>Zrk op w)
 generalize Zrj op=p at HP ⊢
 go_enter Tryz.func85,Tryz.ntmps85
 go_wp2_with (go_at_call 86;refine (HP.out _).mono ?_;rintro e w1 ⟨rfl,hb1⟩)
 go_ret
 exact ZcT rfl bE
def Zrm (m:Md) (k:Nat):Bool:=([(m.me.getD k default).p,(m.me.getD k default).l,[(m.me.getD k default).r]].flatten.all fun t=>decide (t.k≤1))&&(decide ((m.me.getD k default).c<0)&&!(cdM m k).any fun i=>!Zrj i.op)
def Zrn (m:Md) (k:Int):Bool × Int:=if ZpT m k=true then (Zrm m k.toNat,0) else (false,1)
theorem Zro {m:Md}{k:Int} (h:¬ ZpT m k=true):(¬ (Zmg m).2.2=0)∨((Zmg m).2.2=0∧k<0)∨((Zmg m).2.2=0∧¬ k<0∧k ≥ m.me.length):=by
 unfold ZpT inV at h
 simp only [Bool.and_eq_true,decide_eq_true_eq,not_and] at h
 by_cases h1:(Zmg m).2.2=0
 ·have:=h h1
  by_cases h0:k<0
  ·exact .inr (.inl ⟨h1,h0⟩)
  ·exact .inr (.inr ⟨h1,h0,by omega⟩)
 ·exact .inl h1
theorem Zrp (m:Md) (h:Hd) (k:Int) (w:World) (H:Zay w h m):Calls Tryz.prog 35 #[.agg #[.slice h.co m.cl.length h.cc,.slice h.so m.st.length h.sc,.slice h.eo m.me.length h.ec,.int .i64 m.sel],.int .i64 k] w (Zhf w (.bool (Zrn m k).1) (.int .i64 (Zrn m k).2)):=by
 obtain ⟨w0,hw0⟩:∃ w0,w0=w.alloc (.cells #[.slice h.co m.cl.length h.cc,.slice h.so m.st.length h.sc,.slice h.eo m.me.length h.ec,.int .i64 m.sel] 26):=⟨_,rfl⟩
 have HB:=Zh (show Below w.heap.size w w0 by rw [hw0];exact bE)
 have HX:=Zh (show Blk w0 w.heap.size #[.slice h.co m.cl.length h.cc,.slice h.so m.st.length h.sc,.slice h.eo m.me.length h.ec,.int .i64 m.sel] 26 by rw [hw0];exact Blk.new _ _ _)
 have HM:=Zh (H.old HB.out)
 have HW:=Zh hw0
 have hv:=Zmj w0 h m HM.out
 by_cases hr:ZpT m k=true
 ·obtain ⟨hm,h0,h1⟩:=ZpU hr
  obtain ⟨n,rfl⟩:∃ n:Nat,k=n:=⟨k.toNat,by omega⟩
  have hn:n<m.me.length:=by omega
  have hz:(Zmg m).2.2=0:=by unfold ZpT at hr;simp only [Bool.and_eq_true,decide_eq_true_eq] at hr;exact hr.1
  have he:Zrn m n=(Zrm m n,0):=by unfold Zrn;rw [if_pos hr,Int.toNat_natCast]
  rw [he]
  obtain ⟨R,hR⟩:∃ R,R=Zrm m n:=⟨_,rfl⟩
  rw [←hR]
  unfold Zrm at hR
  have hok:=ZfN hm hn
  obtain ⟨zl0,zl1,zl2⟩:=hok.z
  obtain ⟨⟨z0,z1,z2⟩,hq⟩:∃ q,q=Zmg m:=⟨_,rfl⟩
  rw [←hq] at hv hz
  dsimp only at hz
  subst hz
  have HV:=Zh hv
  obtain ⟨p,hp⟩:∃ p,p=cdM m n:=⟨_,rfl⟩
  have HMt:=Zh (fun w' (hb:Below w0.heap.size w0 w')=>(HM.out.old hb).mth hn)
  have HP:=Zh (fun w' (hb:Below w0.heap.size w0 w')=>(HM.out.old hb).p n hn)
  have HL:=Zh (fun w' (hb:Below w0.heap.size w0 w')=>(HM.out.old hb).l n hn)
  have HK:=Zh (fun w' (hb:Below w0.heap.size w0 w')=>(HM.out.old hb).k n hn)
  have hcd:cdM m n=(m.me.getD n default).k:=rfl
  rw [hcd] at hR
  generalize m.me.getD n default=x at *
  generalize h.e n=y at HMt HP HL HK
  obtain ⟨nm,c,pl,ll,⟨rk,rc⟩,kl⟩:=x
  obtain ⟨po,pc,lo,lc,ko,kc⟩:=y
  dsimp only at HMt HP HL HK zl0 zl1 zl2 hR ⊢
  have HRv:=Zh hR
  clear hR
  have h1':¬ (n:Int) ≥ m.me.length:=by omega
  have hn2:(n:Int) < m.me.length:=by omega
  have h0':¬ (n:Int) < 0:=by omega
  clear hw0 H hv hr hm h0 h1 he hok hq hp hcd
  go_enter Tryz.func35,Tryz.ntmps35
  go_upto_region 1 with fail
  rw [←HW.out]
  obtain ⟨x0,x1,x2,x3⟩:=Zj5 HX.out
  go_upto_region 4 with (go_at_call 82;refine HV.out.mono ?_;rintro e w1 ⟨rfl,hb1⟩;have HB1:=Zh hb1;clear hb1 x0 x1 x2 x3;obtain ⟨x0,x1,x2,x3⟩:=Zj5 (HX.out.old HB1.out))
  obtain ⟨ad,heo,e0,e1,e2,e3,e4,e5,e6⟩:=HMt.out w1 HB1.out
  rw [heo] at x2
  clear heo
  obtain ⟨X,hX⟩:∃ X,X=w1.heap.size:=⟨_,rfl⟩
  obtain ⟨w2,hw2⟩:∃ w2,w2=w1.alloc (.cells #[.string nm,.int .i64 c,.slice po pl.length pc,.slice lo ll.length lc,.int .i64 rk,.int .i64 rc,.slice ko kl.length kc] 81):=⟨_,rfl⟩
  have hb2:Below w1.heap.size w1 w2:=by rw [hw2];exact bE
  have hx2:Blk w2 X #[.string nm,.int .i64 c,.slice po pl.length pc,.slice lo ll.length lc,.int .i64 rk,.int .i64 rc,.slice ko kl.length kc] 81:=by rw [hw2,hX];exact Blk.new _ _ _
  have HX2:=Zh hx2
  have HB2:=Zh (Zaf HB1.out hb2)
  have HWw:=Zh (And.intro hX hw2)
  clear hb2 hx2 hX hw2
  go_upto_region 5 with fail
  rw [←HWw.out.1,←HWw.out.2]
  clear x0 x1 x2 x3 e0 e1 e2 e3 e4 e5 e6 HWw
  have z1:=HX2.out.cell 1 (v:=.int .i64 c) rfl
  have z2:=HX2.out.cell 2 (v:=.slice po pl.length pc) rfl
  have z3:=HX2.out.cell 3 (v:=.slice lo ll.length lc) rfl
  have z4:=HX2.out.cell 4 (v:=.int .i64 rk) rfl
  have z5:=HX2.out.cell 5 (v:=.int .i64 rc) rfl
  have z6:=HX2.out.cell 6 (v:=.slice ko kl.length kc) rfl
  obtain ⟨Y,hY⟩:∃ Y,Y=w2.heap.size:=⟨_,rfl⟩
  obtain ⟨w3,hw3⟩:∃ w3,w3=(w2.alloc (.cells #[.int .i64 rk,.int .i64 rc] 76)).alloc (.cells #[.slice po pl.length pc,.slice lo ll.length lc,.slice (some ⟨Y,0,none⟩) 1 1] 23):=⟨_,rfl⟩
  have hb3:Below w2.heap.size w2 w3:=by rw [hw3];exact bE
  have hsl:ZnT w3 (some ⟨Y+1,0,none⟩) 3 [⟨po,pl.length,pc⟩,⟨lo,ll.length,lc⟩,⟨some ⟨Y,0,none⟩,1,1⟩] [pl,ll,[⟨rk,rc⟩]]:=by
   refine ⟨?_,rfl,fun i hi=>?_⟩
   ·rw [hw3]
    exact ZdL (w:=(w2.alloc (.cells #[.int .i64 rk,.int .i64 rc] 76)).alloc _) (b:=Y+1) (xs:=#[.slice po pl.length pc,.slice lo ll.length lc,.slice (some ⟨Y,0,none⟩) 1 1]) (t:=23) (Blk.new' (w:=w2.alloc (.cells #[.int .i64 rk,.int .i64 rc] 76)) _ _ (by simp [hY])) (n:=3) (size:=1) rfl
   ·have hi3:i=0∨i=1∨i=2:=by simp at hi;omega
    rcases hi3 with rfl|rfl|rfl
    ·exact ⟨rfl,(HP.out _ HB2.out).old hb3⟩
    ·exact ⟨rfl,(HL.out _ HB2.out).old hb3⟩
    ·refine ⟨rfl,?_⟩
     have:=ZqN (w:=w2) (b:=Y) (t:=⟨rk,rc⟩) hY
     rw [hw3]
     exact this.old bE
  have HC:=Zh (ZnY w3 (some ⟨Y+1,0,none⟩) 3 3 _ _ hsl rfl (by decide) (by simp;omega))
  have HB3:=Zh (Zaf HB2.out hb3)
  have HX3:=Zh (HX2.out.old hb3)
  have HWw:=Zh (And.intro hY hw3)
  generalize hfl:[pl,ll,[⟨rk,rc⟩]].flatten=fl at HC HRv
  clear hsl hb3 hY hw3
  have HK3:=Zh (HK.out _ HB3.out)
  have HFl:=Zh (show fl.length≤1000 by rw [←hfl];simp;omega)
  clear hfl
  go_upto_region 6 with (go_at_call 83;rw [←HWw.out.1,←HWw.out.2];refine HC.out.mono ?_;rintro e w4 ⟨⟨fo,fc,rfl,hown⟩,hb4⟩;have HR:=Zh (Zar.of_own hown);have HB4:=Zh (Zaf HB3.out hb4);have HX4:=Zh (HX3.out.old hb4);have HK4:=Zh (HK3.out.old hb4);clear hown hb4 z1 z2 z3 z4 z5 z6)
  go_loopw [46] (fun i wr=>∃ j:Nat,j≤fl.length∧i=.int .i64 j∧Hid (∀ p,p<j→¬ (fl.getD p default).k > 1)∧Hid (Below w4.heap.size w4 wr)) (fun i _=>fl.length-(intOf i).toNat)
  case atStart=>exact ⟨0,Nat.zero_le _,rfl,fun p hp=>by omega,Below.refl _ _⟩
  case round=>
   obtain ⟨j,hj,rfl,HN,HBr⟩:=hrel
   rename World=>wo
   have hfl:=HFl.out
   by_cases hjl:j<fl.length
   ·have hjl2:(j:Int) < fl.length:=by omega
    have hwj:IntKind.i64.wrap ((j:Int)+1)=((j+1:Nat):Int):=IntWalk.i64_in _ (by omega)
    obtain ⟨ad,rfl,t0,t1⟩:=Zaz (HR.out.old HBr.out) hjl
    obtain ⟨t,htt⟩:∃ t,t=fl.getD j default:=⟨_,rfl⟩
    rw [←htt] at t0 t1
    have hl0:=Zac t0
    have HT:=Zh htt
    clear htt
    obtain ⟨tk,tc⟩:=t
    dsimp only at t0 t1
    by_cases hk:tk > 1
    ·go_wp2
     go_ret2
     have hR:=HRv.out
     rw [show fl.all (fun t=>decide (t.k≤1))=false from List.all_eq_false.2 ⟨_,ZfU default hjl,by rw [←HT.out];simpa using hk⟩,Bool.false_and] at hR
     obtain rfl:=hR
     exact ⟨rfl,Zaf HB.out (Zaf HB4.out (by have:=HBr.out;exact bE))⟩
    ·go_wp2
     exact ⟨⟨j+1,hjl,rfl,fun p hp=>by
      by_cases e:p=j
      ·subst e;rw [←HT.out];exact hk
      ·exact HN.out p (by omega),(by have:=HBr.out;exact bE)⟩,by simp [intOf];omega⟩
   ·obtain rfl:j=fl.length:=by omega
    have hjl2:¬ ((fl.length:Nat):Int) < fl.length:=by omega
    have hR:=HRv.out
    rw [show fl.all (fun t=>decide (t.k≤1))=true from List.all_eq_true.2 fun t ht=>by
     obtain ⟨p,hp,rfl⟩:=List.getElem_of_mem ht
     have:=HN.out p hp
     simpa [hp] using this,Bool.true_and] at hR
    have z1:=(HX4.out.old HBr.out).cell 1 (v:=.int .i64 c) rfl
    have z6:=(HX4.out.old HBr.out).cell 6 (v:=.slice ko kl.length kc) rfl
    have hcon:=Zdn kl ko kc 85 #[] (fun i=>!Zrj i.op) wo (by omega) (HK4.out.old HBr.out) (fun A W=>by kernel_rfl) (fun k hk w' hb=>Zrl _ _)
    obtain ⟨q,hq⟩:∃ q,q=kl.any fun i=>!Zrj i.op:=⟨_,rfl⟩
    rw [←hq] at hcon hR
    have HCon:=Zh hcon
    have HRw:=Zh hR
    clear hcon hq hR
    by_cases hc:c<0
    ·go_wp2_with (go_at_call 84;refine HCon.out.mono ?_;rintro e w5 ⟨rfl,hb5⟩)
     go_ret2
     obtain rfl:R=!q:=by rw [HRw.out,decide_eq_true hc,Bool.true_and]
     exact ⟨rfl,Zaf HB.out (Zaf HB4.out (Zaf HBr.out hb5))⟩
    ·go_wp2
     go_ret2
     obtain rfl:R=false:=by rw [HRw.out,decide_eq_false (show ¬ c<0 by omega),Bool.false_and]
     exact ⟨rfl,Zaf HB.out (Zaf HB4.out HBr.out)⟩
 ·have he:Zrn m k=(false,1):=by unfold Zrn;rw [if_neg hr]
  rw [he]
  dsimp only
  rcases Zro hr with hc|⟨hc,h0⟩|⟨hc,h0,h1⟩
  all_goals
   obtain ⟨⟨z0,z1,z2⟩,hq⟩:∃ q,q=Zmg m:=⟨_,rfl⟩
   rw [←hq] at hv hc
   dsimp only at hc
   have HV:=Zh hv
   clear hw0 H hv hr he hq
   go_enter Tryz.func35,Tryz.ntmps35
   go_upto_region 1 with fail
   rw [←HW.out]
   obtain ⟨x0,x1,x2,x3⟩:=Zj5 HX.out
   go_wp2_with (go_at_call 82;refine HV.out.mono ?_;rintro e w1 ⟨rfl,hb1⟩;have HB1:=Zh hb1;clear hb1 x0 x1 x2 x3;obtain ⟨x0,x1,x2,x3⟩:=Zj5 (HX.out.old HB1.out))
   go_ret2
   exact ⟨rfl,Zaf HB.out HB1.out⟩
end
section
open Go.RowKit
attribute [local go_sem] World.cell?_alloc_some
def Zrq (m:Md) (k:Int):Int × Int:=if (Zrn m k).2≠0∨(Zrn m k).1=false then (0,1) else if (ZpW m k).2≠0 then (0,(ZpW m k).2) else (3*(ZpW m k).1+10,0)
theorem Zrr {m:Md}{k:Int}:0≤(ZpW m k).1∧(ZpW m k).1≤1000000000:=by
 unfold ZpW
 split
 ·rename_i hr
  obtain ⟨hm,h0,h1⟩:=ZpU hr
  have hb:=ZpN hm (x:=ZmV) (fun k hk i hi=>ZpI ((ZfN hm hk).i i hi).1) (by decide) (k.toNat+1) k.toNat (by omega)
  unfold Bd at hb
  split
  ·decide
  ·dsimp only;omega
 ·decide
theorem Zrs {W w':World}{a b a' b':Int} (h1:a=a') (h2:b=b') (hb:Below W.heap.size W w'):Zhf W (.int .i64 a) (.int .i64 b) (.returned (.tuple #[.int .i64 a',.int .i64 b'])) w':=by
 subst h1 h2;exact ⟨rfl,hb⟩
section
variable (m:Md) (h:Hd) (k:Int) (w:World) (H:Zay w h m)
include H
theorem Zrt:Calls Tryz.prog 37 #[.agg #[.slice h.co m.cl.length h.cc,.slice h.so m.st.length h.sc,.slice h.eo m.me.length h.ec,.int .i64 m.sel],.int .i64 k] w (Zhf w (.int .i64 (Zrq m k).1) (.int .i64 (Zrq m k).2)):=by
 obtain ⟨w0,hw0⟩:∃ w0,w0=w.alloc (.cells #[.slice h.co m.cl.length h.cc,.slice h.so m.st.length h.sc,.slice h.eo m.me.length h.ec,.int .i64 m.sel] 26):=⟨_,rfl⟩
 have HB:=Zh (show Below w.heap.size w w0 by rw [hw0];exact bE)
 have HX:=Zh (show Blk w0 w.heap.size #[.slice h.co m.cl.length h.cc,.slice h.so m.st.length h.sc,.slice h.eo m.me.length h.ec,.int .i64 m.sel] 26 by rw [hw0];exact Blk.new _ _ _)
 have HM:=Zh (H.old HB.out)
 have HW:=Zh hw0
 have HP:=Zh (Zrp m h k w0 HM.out)
 have HWs:=Zh (fun w' (hb:Below w0.heap.size w0 w')=>ZpY m h k w' (HM.out.old hb))
 have hwb:=Zrr (m:=m) (k:=k)
 obtain ⟨⟨ra,re⟩,hR⟩:∃ R,R=Zrq m k:=⟨_,rfl⟩
 rw [←hR]
 unfold Zrq at hR
 obtain ⟨⟨pb,pe⟩,hp⟩:∃ q,q=Zrn m k:=⟨_,rfl⟩
 obtain ⟨⟨wn,we⟩,hwq⟩:∃ q,q=ZpW m k:=⟨_,rfl⟩
 rw [←hp] at HP hR
 rw [←hwq] at HWs hR hwb
 dsimp only at HP HWs hR hwb ⊢
 have HR:=Zh hR
 have h1:IntKind.i64.wrap (3*wn)=3*wn:=IntWalk.i64_in _ (by omega)
 have h2:IntKind.i64.wrap (3*wn+10)=3*wn+10:=IntWalk.i64_in _ (by omega)
 clear hw0 H hR hp hwq
 go_enter Tryz.func37,Tryz.ntmps37
 go_upto_region 1 with fail
 rw [←HW.out]
 obtain ⟨x0,x1,x2,x3⟩:=Zj5 HX.out
 go_wp2_with (first
  | (go_at_call 35;refine HP.out.mono ?_;rintro e w1 ⟨rfl,hb1⟩;have HB1:=Zh hb1;clear hb1 x0 x1 x2 x3;obtain ⟨x0,x1,x2,x3⟩:=Zj5 (HX.out.old HB1.out))
  | (go_at_call 54;refine (HWs.out _ HB1.out).mono ?_;rintro e w2 ⟨rfl,hb2⟩;have HB2:=Zh (Zaf HB1.out hb2);clear hb2 x0 x1 x2 x3))
 all_goals
  go_ret2
  have hR:=HR.out
  first
   | (refine Zrs ?_ ?_ (Zaf HB.out HB2.out)<;>grind)
   | (refine Zrs ?_ ?_ (Zaf HB.out HB1.out)<;>grind)
theorem Zru (HP0:∀ w',Zay w' h m→Calls Tryz.prog 36 #[.agg #[.slice h.co m.cl.length h.cc,.slice h.so m.st.length h.sc,.slice h.eo m.me.length h.ec,.int .i64 m.sel],.int .i64 k] w' (Zhf w' (.bool (Zrn m k).1) (.int .i64 (Zrn m k).2))):Calls Tryz.prog 38 #[.agg #[.slice h.co m.cl.length h.cc,.slice h.so m.st.length h.sc,.slice h.eo m.me.length h.ec,.int .i64 m.sel],.int .i64 k] w (Zhf w (.int .i64 (Zrq m k).1) (.int .i64 (Zrq m k).2)):=by
 obtain ⟨w0,hw0⟩:∃ w0,w0=w.alloc (.cells #[.slice h.co m.cl.length h.cc,.slice h.so m.st.length h.sc,.slice h.eo m.me.length h.ec,.int .i64 m.sel] 26):=⟨_,rfl⟩
 have HB:=Zh (show Below w.heap.size w w0 by rw [hw0];exact bE)
 have HX:=Zh (show Blk w0 w.heap.size #[.slice h.co m.cl.length h.cc,.slice h.so m.st.length h.sc,.slice h.eo m.me.length h.ec,.int .i64 m.sel] 26 by rw [hw0];exact Blk.new _ _ _)
 have HM:=Zh (H.old HB.out)
 have HW:=Zh hw0
 have HP:=Zh (HP0 w0 HM.out)
 have HWs:=Zh (fun w' (hb:Below w0.heap.size w0 w')=>Zri m h k w' (HM.out.old hb))
 have hwb:=Zrr (m:=m) (k:=k)
 obtain ⟨⟨ra,re⟩,hR⟩:∃ R,R=Zrq m k:=⟨_,rfl⟩
 rw [←hR]
 unfold Zrq at hR
 obtain ⟨⟨pb,pe⟩,hp⟩:∃ q,q=Zrn m k:=⟨_,rfl⟩
 obtain ⟨⟨wn,we⟩,hwq⟩:∃ q,q=ZpW m k:=⟨_,rfl⟩
 rw [←hp] at HP hR
 rw [←hwq] at HWs hR hwb
 dsimp only at HP HWs hR hwb ⊢
 have HR:=Zh hR
 have h1:IntKind.i64.wrap (3*wn)=3*wn:=IntWalk.i64_in _ (by omega)
 have h2:IntKind.i64.wrap (3*wn+10)=3*wn+10:=IntWalk.i64_in _ (by omega)
 clear hw0 H HP0 hR hp hwq
 go_enter Tryz.func38,Tryz.ntmps38
 go_upto_region 1 with fail
 rw [←HW.out]
 obtain ⟨x0,x1,x2,x3⟩:=Zj5 HX.out
 go_wp2_with (first
  | (go_at_call 36;refine HP.out.mono ?_;rintro e w1 ⟨rfl,hb1⟩;have HB1:=Zh hb1;clear hb1 x0 x1 x2 x3;obtain ⟨x0,x1,x2,x3⟩:=Zj5 (HX.out.old HB1.out))
  | (go_at_call 88;refine (HWs.out _ HB1.out).mono ?_;rintro e w2 ⟨rfl,hb2⟩;have HB2:=Zh (Zaf HB1.out hb2);clear hb2 x0 x1 x2 x3))
 all_goals
  go_ret2
  have hR:=HR.out
  first
   | (refine Zrs ?_ ?_ (Zaf HB.out HB2.out)<;>grind)
   | (refine Zrs ?_ ?_ (Zaf HB.out HB1.out)<;>grind)
end
end
end Go.Proofs.YtcfjblcgceednaaGreat
