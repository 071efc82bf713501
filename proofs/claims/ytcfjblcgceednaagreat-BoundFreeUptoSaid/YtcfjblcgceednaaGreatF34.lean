/- bound.alloc: the blocks that a method takes. -/
import Derived.Test.YtcfjblcgceednaaGreatF32
set_option linter.all false
set_option linter.unusedVariables false
set_option linter.unusedSimpArgs false
set_option maxRecDepth 100000
set_option maxHeartbeats 8000000
namespace Go.Proofs.YtcfjblcgceednaaGreat
theorem kC6{p:Prop}(h:p:=by
 unfold ag3
 repeat refine pO ?_
 refine Zd5 ?_
 go_wp2
 go_ret
 exact ZcT rfl HB2.out):p:=h
theorem kC7{p:Prop}(h:p:=by
 have hc:=Zil hv i.a.toNat (by omega)
 simp only [ZaK,Bool.and_eq_true,decide_eq_true_eq] at hc
 omega):p:=h
theorem kC8{p:Prop}(h:p:=by
 split<;>exact ⟨by decide,by decide⟩):p:=h
section
open Go.RowKit
attribute [local go_sem] World.cell?_alloc_some
def ZqD (t:Int × Int × Int) (c:Nat):Int:=if c=0 then t.1 else if c=1 then t.2.1 else t.2.2
def ZqE (m:Md) (c:Nat):Ms:=⟨fun i=>ZqD (szV m i) c,0,true⟩
def bxC (h:Hd) (m:Md) (P:Nat):List (Addr × Value):=[(⟨P,0,none⟩,.slice h.co m.cl.length h.cc),(⟨P,1,none⟩,.slice h.so m.st.length h.sc),(⟨P,2,none⟩,.slice h.eo m.me.length h.ec),(⟨P,3,none⟩,.int .i64 m.sel)]
theorem ZqF (m:Md) (h:Hd) (i:In3) (c P C:Nat) (w:World) (H:Zay w h m) (hi:Zqt m i) (hc:c<3) (hP:Cs (bxC h m P) w) (hC:w.cell? ⟨C,0,none⟩=some (.int .i64 c)):Calls Tryz.prog 172 #[.agg #[.int .i64 i.op,.int .i64 i.a,.int .i64 i.b],.pointer (some ⟨P,0,none⟩),.pointer (some ⟨C,0,none⟩)] w (Ret w (.int .i64 (ZqD (szV m i) c))):=by
 obtain ⟨op,ia,ib⟩:=i
 dsimp only
 obtain ⟨w0,hw0⟩:∃ w0,w0=w.alloc (.cells #[.int .i64 op,.int .i64 ia,.int .i64 ib] 78):=⟨_,rfl⟩
 have HB:=Zh (show Below w.heap.size w w0 by rw [hw0];exact bE)
 have HI:=Zh (show Blk w0 w.heap.size #[.int .i64 op,.int .i64 ia,.int .i64 ib] 78 by rw [hw0];exact Blk.new _ _ _)
 have HM:=Zh (H.old HB.out)
 have HS:=Zh (fun w' hb=>Zqu m h ⟨op,ia,ib⟩ w' (HM.out.old (w':=w') hb) hi)
 obtain ⟨v,hv⟩:∃ v,v=szV m ⟨op,ia,ib⟩:=⟨_,rfl⟩
 rw [←hv] at HS ⊢
 have hP2:=Cs.keeps (ZnF.of HB.out) hP
 obtain ⟨x0,x1,x2,x3,-⟩:=hP2
 have c0:=ZnF.of HB.out _ _ hC
 have HW:=Zh hw0
 clear hw0 H hi hP hC hv
 have i0:=HI.out.cell 0 (v:=.int .i64 op) rfl
 have i1:=HI.out.cell 1 (v:=.int .i64 ia) rfl
 have i2:=HI.out.cell 2 (v:=.int .i64 ib) rfl
 go_enter Tryz.func172,Tryz.ntmps172
 go_upto_region 1 with fail
 rw [←HW.out]
 have HC0:=Zh (show Cs [(⟨P,0,none⟩,.slice h.co m.cl.length h.cc),(⟨P,1,none⟩,.slice h.so m.st.length h.sc),(⟨P,2,none⟩,.slice h.eo m.me.length h.ec),(⟨P,3,none⟩,.int .i64 m.sel),(⟨C,0,none⟩,.int .i64 c),(⟨w.heap.size,0,none⟩,.int .i64 op),(⟨w.heap.size,1,none⟩,.int .i64 ia),(⟨w.heap.size,2,none⟩,.int .i64 ib)] w0.drew from ⟨x0,x1,x2,x3,c0,i0,i1,i2,trivial⟩)
 refine rO (Cs [(⟨P,0,none⟩,.slice h.co m.cl.length h.cc),(⟨P,1,none⟩,.slice h.so m.st.length h.sc),(⟨P,2,none⟩,.slice h.eo m.me.length h.ec),(⟨P,3,none⟩,.int .i64 m.sel),(⟨C,0,none⟩,.int .i64 c),(⟨w.heap.size,0,none⟩,.int .i64 op),(⟨w.heap.size,1,none⟩,.int .i64 ia),(⟨w.heap.size,2,none⟩,.int .i64 ib)]) (oL [0,1,3,102,4,5]) ⟨x0,x1,x2,x3,c0,i0,i1,i2,trivial⟩ ?_
 clear x0 x1 x2 x3 c0 i0 i1 i2
 repeat refine pO ?_
 refine oO fun Kv hK=>?_
 go_simp
 refine (HS.out _ (Below.refl _ _).drew).mono ?_
 rintro e w2 ⟨rfl,hb2⟩
 have HB2:=Zh (Zaf HB.out.drew hb2)
 refine hK _ _ ⟨Cs.keeps (ZnF.of hb2) HC0.out,?_⟩
 clear hK Kv hb2
 obtain ⟨v0,v1,v2⟩:=v
 have hc3:c=0∨c=1∨c=2:=by omega
 rcases hc3 with rfl|rfl|rfl
 ·have hix:=fun w=>(show Sem.run Tryz.prog (Instr.index 66 (.agg #[.int .i64 v0,.int .i64 v1,.int .i64 v2]) (.int .i64 0)) w=.ok (.int .i64 v0) w by kernel_rfl)
  exact kC6
 ·have hix:=fun w=>(show Sem.run Tryz.prog (Instr.index 66 (.agg #[.int .i64 v0,.int .i64 v1,.int .i64 v2]) (.int .i64 1)) w=.ok (.int .i64 v1) w by kernel_rfl)
  exact kC6
 ·have hix:=fun w=>(show Sem.run Tryz.prog (Instr.index 66 (.agg #[.int .i64 v0,.int .i64 v1,.int .i64 v2]) (.int .i64 2)) w=.ok (.int .i64 v2) w by kernel_rfl)
  exact kC6
theorem ZqG {m:Md} (hv:Za1 m=true) {k:Nat} (hk:k<m.me.length) {i:In3} (hi:i∈cdM m k):Zqt m i:=by
 have h1:=((ZfN hv hk).i i hi).1
 have ho:=ZfS h1 ((ZfN hv hk).i i hi).2
 refine ⟨fun h14=>?_,fun h15=>?_⟩
 ·have ha:=ho.a0 (by omega)
  have hl:=ho.o14 (.inl h14)
  refine ⟨ha,hl,?_⟩
  exact kC7
 ·have:=ZoP h1 h15
  exact this
theorem ZqH (n:Int) (arr:Bool) (h0:0≤n) (h1:n≤1000) (c:Nat):0≤ZqD (Zqq n arr) c∧ZqD (Zqq n arr) c≤1000:=by
 have h8:0≤1+(n+7) / 8∧1+(n+7) / 8≤1000:=by omega
 unfold Zqq ZqD
 by_cases q1:1+n≤2
 ·rw [if_pos q1];split
  ·exact ⟨by decide,by decide⟩
  ·exact kC8
 ·rw [if_neg q1]
  by_cases q2:1+n≤4
  ·rw [if_pos q2];split
   ·exact ⟨by decide,by decide⟩
   ·exact kC8
  ·rw [if_neg q2]
   by_cases q3:arr=false∨n≤7
   ·rw [if_pos q3];split
    ·exact ⟨by decide,by decide⟩
    ·exact kC8
   ·have h0':(0:Int)≤0∧(0:Int)≤1000:=by decide
    rw [if_neg q3];split
    ·exact h0'
    ·split
     ·exact h0'
     ·exact h8
theorem ZqI {m:Md}{i:In3} (h1:¬ i.op=14) (h2:¬ (i.op=15∨i.op=16)) (c:Nat):ZqD (szV m i) c=0:=by
 unfold szV ZqD
 rw [if_neg h1,if_neg h2]
 split
 ·rfl
 ·split<;>rfl
theorem ZqJ {m:Md} (hv:Za1 m=true) {k:Nat} (hk:k<m.me.length) {i:In3} (hi:i∈cdM m k) (c:Nat):0≤ZqD (szV m i) c∧ZqD (szV m i) c≤1000:=by
 have h:=ZqG hv hk hi
 have hl:i.op=14→(m.cl.getD i.a.toNat default).f.length≤7:=fun h14=>by
  obtain ⟨h0,h1,-⟩:=h.1 h14
  exact kC7
 unfold szV
 split
 ·rename_i h14
  have:=hl h14
  exact ZqH _ _ (by omega) (by omega) c
 ·split
  ·rename_i h15
   exact ZqH _ _ (h.2 h15).1 (h.2 h15).2 c
  ·unfold ZqD
   split
   ·exact ⟨by decide,by decide⟩
   ·exact kC8
theorem ZqK {m:Md} (hm:Za1 m=true) {c:Nat} (hc:c<3) {h:Hd}{P C:Nat}{W0:World} (H:Zay W0 h m) (hP:Cs (bxC h m P) W0) (hC:W0.cell? ⟨C,0,none⟩=some (.int .i64 c)):Wkr (ZqE m c) m (ZmN (gW (ZqE m c) m) m) 172 #[.pointer (some ⟨P,0,none⟩),.pointer (some ⟨C,0,none⟩)] W0 where
 hm:=hm
 wt k hk i hi:=ZqJ hm hk hi c
 tl:=⟨Int.le_refl _,by show (0:Int)≤1000;decide⟩
 te i hi:=ZqI (by rw [hi];decide) (by rw [hi];decide) c
 bd k:=ZoS hm (x:=ZqE m c) (fun k hk i hi=>ZqJ hm hk hi c) ⟨Int.le_refl _,by show (0:Int)≤1000;decide⟩ (k+1) k (by omega)
 eq k hk:=ZoT hm (ZqE m c) hk
 cf A W:=by kernel_rfl
 fn k hk i hi w' hkp:=ZqF m h i c P C w' (H.keeps hkp) (ZqG hm hk hi) hc (Cs.keeps hkp hP) (hkp _ _ hC)
def AlV (m:Md) (k c:Nat):Int:=ZmN (gW (ZqE m c) m) m k
def azV (m:Md) (k c j:Nat):Int:=if j<c then AlV m k j else 0
theorem ZqL (m:Md) (h:Hd) (k:Nat) (w:World) (H:Zay w h m) (hv:Za1 m=true) (hk:k<m.me.length):Calls Tryz.prog 112 #[.agg #[.slice h.co m.cl.length h.cc,.slice h.so m.st.length h.sc,.slice h.eo m.me.length h.ec,.int .i64 m.sel],.int .i64 k] w (Ret w (ag3 (AlV m k 0,AlV m k 1,AlV m k 2))):=by
 obtain ⟨w0,hw0⟩:∃ w0,w0=(w.alloc (.cells #[.slice h.co m.cl.length h.cc,.slice h.so m.st.length h.sc,.slice h.eo m.me.length h.ec,.int .i64 m.sel] 26)).alloc (.cells #[.int .i64 0,.int .i64 0,.int .i64 0] 66):=⟨_,rfl⟩
 have HB:=Zh (show Below w.heap.size w w0 by rw [hw0];exact bE)
 have HX:=Zh (show Blk w0 w.heap.size #[.slice h.co m.cl.length h.cc,.slice h.so m.st.length h.sc,.slice h.eo m.me.length h.ec,.int .i64 m.sel] 26 by rw [hw0];exact (Blk.new _ _ _).alloc _)
 have HR:=Zh (show Blk w0 (w.heap.size+1) #[.int .i64 0,.int .i64 0,.int .i64 0] 66 by rw [hw0];exact Blk.new' (w:=w.alloc (.cells #[.slice h.co m.cl.length h.cc,.slice h.so m.st.length h.sc,.slice h.eo m.me.length h.ec,.int .i64 m.sel] 26)) _ _ (by simp))
 have HM:=Zh (H.old HB.out)
 have HW:=Zh hw0
 have HMt:=Zh (show ∀ (c B M C:Nat) (W0:World),c<3→Zay W0 h m→Cs (bxC h m w.heap.size) W0→W0.cell? ⟨C,0,none⟩=some (.int .i64 c)→_ from fun c B M C W0 hc H hP hC=>ZoM (B:=B) (M:=M) (h:=h) (ZqK hv hc (h:=h) (P:=w.heap.size) (C:=C) (W0:=W0) H hP hC) (k+1) k (by omega) hk)
 have hmm:=@run_makeMap Tryz.prog
 clear hw0 H hv
 go_enter Tryz.func112,Tryz.ntmps112
 go_upto_region 1 with fail
 rw [←HW.out]
 go_upto_region 2 with fail
 obtain ⟨O,hO⟩:∃ O,O=w0.heap.size:=⟨_,rfl⟩
 obtain ⟨w1,hw1⟩:∃ w1,w1=w0.alloc (.cells #[.int .i64 0,.int .i64 0,.int .i64 0] 66):=⟨_,rfl⟩
 have HO:=Zh (show Blk w1 O #[.int .i64 0,.int .i64 0,.int .i64 0] 66 by rw [hw1,hO];exact Blk.new _ _ _)
 have HB1:=Zh (show Below w0.heap.size w0 w1 by rw [hw1];exact bE)
 have HOg:=Zh (show w0.heap.size≤O by omega)
 rw [←hO,←hw1]
 clear hO hw1
 go_wp2_with fail
 go_loopw [8] (fun i wr=>∃ c:Nat,c≤3∧i=.int .i64 c∧Hid (Blk wr O #[.int .i64 (azV m k c 0),.int .i64 (azV m k c 1),.int .i64 (azV m k c 2)] 66)∧Hid (Below w0.heap.size w0 wr)) (fun i _=>3-(intOf i).toNat)
 case atStart=>exact ⟨0,by omega,rfl,HO.out,HB1.out⟩
 case round=>
  obtain ⟨c,hc,rfl,HOr,HBr⟩:=hrel
  rename World=>wo
  by_cases hc3:c<3
  ·have hc3i:(c:Int) < 3:=by omega
   have hwc:IntKind.i64.wrap ((c:Int)+1)=((c+1:Nat):Int):=IntWalk.i64_in _ (by omega)
   have x0:=(HX.out.old HBr.out).cell 0 (v:=.slice h.co m.cl.length h.cc) rfl;have x1:=(HX.out.old HBr.out).cell 1 (v:=.slice h.so m.st.length h.sc) rfl;have x2:=(HX.out.old HBr.out).cell 2 (v:=.slice h.eo m.me.length h.ec) rfl;have x3:=(HX.out.old HBr.out).cell 3 (v:=.int .i64 m.sel) rfl
   go_upto_region 6 with fail
   obtain ⟨C,hC⟩:∃ C,C=wo.heap.size:=⟨_,rfl⟩
   rw [←hC]
   obtain ⟨w3,hw3⟩:∃ w3,w3=((wo.alloc (.cells #[.int .i64 c] 3)).alloc (.map #[] 0)).alloc (.cells #[.slice h.co m.cl.length h.cc,.slice h.so m.st.length h.sc,.slice h.eo m.me.length h.ec,.int .i64 m.sel,(.func (Fn.func 172) #[] #[.pointer (some ⟨w.heap.size,0,none⟩),.pointer (some ⟨C,0,none⟩)]),.bool true,.map (some (C+1))] 147):=⟨_,rfl⟩
   rw [←hw3]
   have hb3:Below wo.heap.size wo w3:=by rw [hw3];exact bE
   have hk3:Blk w3 C #[.int .i64 c] 3:=by rw [hw3,hC];exact ((Blk.new wo _ _).alloc _).alloc _
   have hs3:ZnJ w3 (C+1+1) (C+1) h m (.func (Fn.func 172) #[] #[.pointer (some ⟨w.heap.size,0,none⟩),.pointer (some ⟨C,0,none⟩)]) (ZqE m c).sc (ZmN (gW (ZqE m c) m) m) (fun _=>False):=by
    rw [hw3]
    refine ⟨by rw [hC];exact Blk.new' (w:=(wo.alloc (.cells #[.int .i64 c] 3)).alloc (.map #[] 0)) _ _ (by simp),(HM.out.old HBr.out).old bE,?_⟩
    have:=KnM.made (ZmN (gW (ZqE m c) m) m) (wo.alloc (.cells #[.int .i64 c] 3))
    rw [show (wo.alloc (.cells #[.int .i64 c] 3)).heap.size=C+1 by rw [hC];simp] at this
    exact this.old bE
   have ho3:=HOr.out.old hb3
   have hOC:O<C:=by rw [hC];exact HOr.out.lt
   have hmc:=HMt.out c (C+1+1) (C+1) C w3 hc3 hs3.md (Cs.keeps (ZnF.of hb3) (show Cs (bxC h m w.heap.size) wo from ⟨x0,x1,x2,x3,trivial⟩)) (hk3.cell 0 rfl)
   have HMc:=Zh hmc
   have HS3:=Zh hs3
   have HK3:=Zh hk3
   have HO3:=Zh ho3
   have HB3:=Zh (Zaf HBr.out hb3)
   have HCg:=Zh (show w0.heap.size≤C by rw [hC];exact HBr.out.size)
   clear hw3 hb3 hk3 hs3 ho3 hmc x0 x1 x2 x3 hC
   have k0:=HK3.out.cell 0 (v:=.int .i64 c) rfl
   refine rO (Cs [(⟨C,0,none⟩,.int .i64 c)]) (oL [0,1,2,103,4,105]) ⟨k0,trivial⟩ ?_
   clear k0
   repeat refine pO ?_
   refine oO fun Kv hK=>?_
   go_simp
   refine (HMc.out w3.drew _ HS3.out.drew (fun _ _ h=>h)).mono ?_
   rintro e w4 ⟨rfl,hu4,-⟩
   have hu5:=((Upd.refl (C+1) (C+1) w3).drew).trans hu4
   have ho4:Blk w4 O _ _:=(hu5.block O HO3.out.lt (by omega) (by omega)).trans HO3.out
   have hk4:Blk w4 C _ _:=(hu5.block C HK3.out.lt (by omega) (by omega)).trans HK3.out
   have HB4:=Zh (hu5.below HB3.out (Nat.le_refl _) (by have:=HCg.out;omega) (by have:=HCg.out;omega))
   have HO4:=Zh ho4
   have HK4:=Zh hk4
   refine hK _ _ ⟨⟨hk4.cell 0 rfl,trivial⟩,?_⟩
   clear hK Kv hu4 hu5 ho4 hk4
   have HVc:=Zh (show AlV m k c=ZmN (gW (ZqE m c) m) m k from rfl)
   rw [←HVc.out]
   have hc012:c=0∨c=1∨c=2:=by omega
   repeat refine pO ?_
   have f0:=HO4.out.frozen 0
   have f1:=HO4.out.frozen 1
   have f2:=HO4.out.frozen 2
   have hl:=HO4.out.lt
   have o0:=HO4.out.cell 0 (v:=.int .i64 (azV m k c 0)) rfl
   have o1:=HO4.out.cell 1 (v:=.int .i64 (azV m k c 1)) rfl
   have o2:=HO4.out.cell 2 (v:=.int .i64 (azV m k c 2)) rfl
   rcases hc012 with rfl|rfl|rfl
   all_goals
    refine oO fun Kv hK=>?_
    go_simp
    refine hK _ _ ⟨⟨(HK4.out.other (a:=⟨O,_,none⟩) (by show ¬ C=O;omega) _).cell 0 rfl,trivial⟩,?_⟩
    clear hK Kv f0 f1 f2 hl o0 o1 o2
    refine Zd5 ?_
    go_wp2
   ·exact ⟨⟨1,by omega,rfl,(show Blk _ _ _ _ from HO4.out.set 0 _),ZcW (j:=0) HB4.out HOg.out _⟩,by simp [intOf]⟩
   ·exact ⟨⟨2,by omega,rfl,(show Blk _ _ _ _ from HO4.out.set 1 _),ZcW (j:=1) HB4.out HOg.out _⟩,by simp [intOf]⟩
   ·exact ⟨⟨3,by omega,rfl,(show Blk _ _ _ _ from HO4.out.set 2 _),ZcW (j:=2) HB4.out HOg.out _⟩,by simp [intOf]⟩
  ·have hc3i:¬ (c:Int) < 3:=by omega
   obtain rfl:c=3:=by omega
   have hr0:=(HR.out.old HBr.out).cell 0 (v:=.int .i64 0) rfl
   have hr1:=(HR.out.old HBr.out).cell 1 (v:=.int .i64 0) rfl
   have hr2:=(HR.out.old HBr.out).cell 2 (v:=.int .i64 0) rfl
   have hf0:=(HR.out.old HBr.out).frozen 0
   have hf1:=(HR.out.old HBr.out).frozen 1
   have hf2:=(HR.out.old HBr.out).frozen 2
   have hl:=(HR.out.old HBr.out).lt
   have o0:=HOr.out.cell 0 (v:=.int .i64 (AlV m k 0)) rfl
   have o1:=HOr.out.cell 1 (v:=.int .i64 (AlV m k 1)) rfl
   have o2:=HOr.out.cell 2 (v:=.int .i64 (AlV m k 2)) rfl
   go_wp2
   have hE:=Zqr (w:=w) (a:=AlV m k 0) (b:=AlV m k 1) (c:=AlV m k 2) (HR.out.old HBr.out) (Zaf HB.out HBr.out) (by omega)
   have y0:=hE.1.cell 0 (v:=.int .i64 (AlV m k 0)) rfl
   have y1:=hE.1.cell 1 (v:=.int .i64 (AlV m k 1)) rfl
   have y2:=hE.1.cell 2 (v:=.int .i64 (AlV m k 2)) rfl
   exact bodyPost_ret (v:=ag3 (AlV m k 0,AlV m k 1,AlV m k 2)) (by simp [results,Tryz.results112,go_sem,y0,y1,y2,ag3]) rfl ⟨rfl,hE.2⟩
end
end Go.Proofs.YtcfjblcgceednaaGreat
