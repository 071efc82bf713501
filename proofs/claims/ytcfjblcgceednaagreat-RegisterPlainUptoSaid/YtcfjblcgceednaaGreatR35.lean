/- Joined texts. The first: The reference's table in memory; own, tail, bracket. -/
import Derived.Test.YtcfjblcgceednaaGreatR33
import Derived.Test.YtcfjblcgceednaaGreatR34
import Derived.Test.YtcfjblcgceednaaGreatR32
set_option linter.all false
set_option linter.unusedVariables false
set_option linter.unusedSimpArgs false
set_option maxRecDepth 100000
set_option maxHeartbeats 16000000
namespace Go.Proofs.YtcfjblcgceednaaGreat
section
open Go.RowKit
structure RT (w:World) (B g:Nat) (h:Hd) (m:Md) (bv:Int) (l:Bool) (L:List Int):Prop where
 tb:Blk w B #[.slice h.co m.cl.length h.cc,.slice h.so m.st.length h.sc,.slice h.eo m.me.length h.ec,.int .i64 m.sel,.int .i64 bv,.bool l,.slice (some ⟨g,0,none⟩) m.me.length m.me.length] 132
 nb:Blk w g (Zp1 L) 3
 md:Zay w h m
 ln:L.length=m.me.length
theorem RT.old {w w':World}{B g:Nat}{h:Hd}{m:Md}{bv:Int}{l:Bool}{L:List Int} (H:RT w B g h m bv l L) (hb:Below w.heap.size w w'):RT w' B g h m bv l L:=⟨H.tb.old hb,H.nb.old hb,H.md.old hb,H.ln⟩
def tlV (bv:Int):Int:=if bv=0 then 1 else 0
def scV (bv:Int):Bool:=decide (bv≠0)&&decide (bv≠4)
def Zqw (bv:Int) (m:Md) (x:Ms) (c:List In3):Prop:=∀ i∈c,∀ w h,Zay w h m→Calls Tryz.prog 289 #[.agg #[.slice h.co m.cl.length h.cc,.slice h.so m.st.length h.sc,.slice h.eo m.me.length h.ec,.int .i64 m.sel],.agg #[.int .i64 i.op,.int .i64 i.a,.int .i64 i.b],.int .i64 bv] w (Ret w (.int .i64 (x.wt i)))
theorem Zqx {m:Md}{c:List In3} (hv:∀ i∈c,ZaQ false i=true):Zqw 0 m ZmV c:=fun i hi w h H=>by
 have HC:=Zh (fun w'=>Zqv i w' (hv i hi))
 obtain ⟨q,hq⟩:∃ q,q=ZmU i:=⟨_,rfl⟩
 rw [←hq] at HC
 rw [show ZmV.wt i=q from hq.symm]
 clear hq hi
 obtain ⟨op,a,b⟩:=i
 go_enter Tryz.func289,Tryz.ntmps289
 go_wp2_with (go_at_call 214;refine (HC.out _).mono ?_;rintro e w1 ⟨rfl,hb1⟩)
 go_ret
 exact ZcT rfl bE
theorem Zqy {w:World}{B g:Nat}{h:Hd}{m:Md}{bv:Int}{l:Bool}{L:List Int} (H:RT w B g h m bv l L):Calls Tryz.prog 291 #[.pointer (some ⟨B,0,none⟩)] w (Ret w (.int .i64 (tlV bv))):=by
 have x4:=H.tb.cell 4 (v:=.int .i64 bv) rfl
 have hl:=H.tb.lt
 obtain ⟨q,hq⟩:∃ q,q=tlV bv:=⟨_,rfl⟩
 rw [←hq]
 unfold tlV at hq
 have HQ:=Zh hq
 clear hq H
 go_enter Tryz.func291,Tryz.ntmps291
 go_wp2
 all_goals
  go_ret
  refine ZcT (ZcY ?_) bE
  rw [HQ.out]
  grind
theorem Zqz {a b:Int} (ha:Bl a) (hb:Bl b):Bl (Zp6 a b):=Zqe ha hb▸Zp0 ha hb
theorem ZqA {a b:Int} (ha:Bl a) (hb:Bl b):Bl (max a b):=by unfold Bl at *;omega
theorem ZqB {w:World}{B g:Nat}{h:Hd}{m:Md}{bv:Int}{l:Bool}{L:List Int} (H:RT w B g h m bv l L) (i:In3) (f s o t:Int) (hf:Bl f) (hs:Bl s) (ho:0≤o∧o≤1000) (ht:0≤t∧t≤1000) (hi:i.op=30→0≤i.a∧i.a≤1000) :
  Calls Tryz.prog 290 #[.pointer (some ⟨B,0,none⟩),.agg #[.int .i64 i.op,.int .i64 i.a,.int .i64 i.b],.int .i64 f,.int .i64 s,.int .i64 o,.int .i64 t] w (Ret w (.int .i64 (Zp9 l (scV bv) i f s o t))):=by
 have hob:Bl o:=by unfold Bl;omega
 have htb:Bl t:=by unfold Bl;omega
 obtain ⟨q,hq⟩:∃ q,q=Zp9 l (scV bv) i f s o t:=⟨_,rfl⟩
 rw [←hq]
 obtain ⟨op,a,b⟩:=i
 dsimp only at hi
 unfold Zp9 at hq
 dsimp only at hq
 have HQ:=Zh hq
 obtain ⟨w0,hw0⟩:∃ w0,w0=w.alloc (.cells #[.int .i64 op,.int .i64 a,.int .i64 b] 78):=⟨_,rfl⟩
 have HB:=Zh (show Below w.heap.size w w0 by rw [hw0];exact bE)
 have HX:=Zh (show Blk w0 w.heap.size #[.int .i64 op,.int .i64 a,.int .i64 b] 78 by rw [hw0];exact Blk.new _ _ _)
 have HT:=Zh (H.tb.old HB.out)
 have HBz:=Zh (show Below w0.heap.size w0 w0 by exact bE)
 have HW:=Zh hw0
 clear hw0 H hq
 go_enter Tryz.func290,Tryz.ntmps290
 go_upto_region 1 with fail
 rw [←HW.out]
 have x0:=HX.out.cell 0 (v:=.int .i64 op) rfl
 have x1:=HX.out.cell 1 (v:=.int .i64 a) rfl
 have x4:=HT.out.cell 4 (v:=.int .i64 bv) rfl
 have x5:=HT.out.cell 5 (v:=.bool l) rfl
 by_cases h30:op=30
 ·subst h30
  have hi2:=hi rfl
  cases l with
  |true=>
   go_wp2
   go_ret
   exact ZcT (ZcY (by rw [HQ.out];rfl)) (Zaf HB.out HBz.out)
  |false=>
   have hm0:-1000≤a*ZmS f t:=by
    have h1:-1≤ZmS f t:=by unfold ZmS ZmR Bl at *;omega
    have h2:=Int.mul_le_mul_of_nonneg_left h1 hi2.1
    omega
   have hm1:a*ZmS f t≤1000000001000:=by
    by_cases h0:0≤ZmS f t
    ·exact Int.le_trans (Int.mul_le_mul hi2.2 (show ZmS f t≤1000000001 by unfold ZmS ZmR;omega) h0 (by decide)) (by decide)
    ·have:=Int.mul_nonpos_of_nonneg_of_nonpos hi2.1 (show ZmS f t≤0 by omega)
     omega
   have hm2:-1000≤ZmT a (ZmS f t)∧ZmT a (ZmS f t)≤1000000001:=by unfold ZmT ZmR;omega
   have HMu:=Zh (And.intro (And.intro hm0 hm1) hm2)
   clear hm0 hm1 hm2
   go_upto_region 10 with fail
   refine rO (Cs [(⟨w.heap.size,1,none⟩,.int .i64 a)]) (oL [0,1,2,3,4,105,106,107,8]) ⟨x1,trivial⟩ ?_
   clear x0 x1 x4 x5
   repeat refine pO ?_
   refine oO fun Kv hK=>?_
   go_simp
   refine (Zqn f t _ (by unfold Bl at hf;omega) (by omega)).mono ?_
   rintro e w1 ⟨rfl,hb1⟩
   have HB1:=Zh (Zaf (Below.refl w0.heap.size w0).drew hb1)
   refine hK _ _ ⟨⟨(HX.out.old HB1.out).cell 1 (v:=.int .i64 a) rfl,trivial⟩,?_⟩
   clear hK Kv hb1
   repeat refine pO ?_
   refine oO fun Kv hK=>?_
   go_simp
   refine (Zqo a (ZmS f t) _ HMu.out.1.1 HMu.out.1.2).mono ?_
   rintro e w2 ⟨rfl,hb2⟩
   have HB2:=Zh (Zaf HB1.out hb2)
   refine hK _ _ ⟨⟨(HX.out.old HB2.out).cell 1 (v:=.int .i64 a) rfl,trivial⟩,?_⟩
   clear hK Kv hb2
   repeat refine pO ?_
   refine oO fun Kv hK=>?_
   go_simp
   refine (Zqn o (ZmT a (ZmS f t)) _ (by omega) (by have:=HMu.out.2;omega)).mono ?_
   rintro e w3 ⟨rfl,hb3⟩
   have HB3:=Zh (Zaf HB2.out hb3)
   refine hK _ _ ⟨⟨(HX.out.old HB3.out).cell 1 (v:=.int .i64 a) rfl,trivial⟩,?_⟩
   clear hK Kv hb3
   repeat refine pO ?_
   refine Zd5 ?_
   go_wp2
   go_ret
   exact ZcT (ZcY (by rw [HQ.out];rfl)) (Zaf HB.out HB3.out)
 ·go_wp2_with (first
   | (go_at_call 350;refine (Zqp _ _ _ (by (repeat (first|assumption|apply Zqd|apply Zqz|apply ZqA))) (by (repeat (first|assumption|apply Zqd|apply Zqz|apply ZqA)))).mono ?_;rintro e wn ⟨rfl,hbn⟩;have HBz:=Zh (Zaf HBz.out hbn);clear hbn x0 x1 x4 x5;have x0:=(HX.out.old HBz.out).cell 0 (v:=.int .i64 op) rfl;have x1:=(HX.out.old HBz.out).cell 1 (v:=.int .i64 a) rfl;have x4:=(HT.out.old HBz.out).cell 4 (v:=.int .i64 bv) rfl;have x5:=(HT.out.old HBz.out).cell 5 (v:=.bool l) rfl)
   | (go_at_call 351;refine (Zqq _ _ _).mono ?_;rintro e wn ⟨rfl,hbn⟩;have HBz:=Zh (Zaf HBz.out hbn);clear hbn x0 x1 x4 x5;have x0:=(HX.out.old HBz.out).cell 0 (v:=.int .i64 op) rfl;have x1:=(HX.out.old HBz.out).cell 1 (v:=.int .i64 a) rfl;have x4:=(HT.out.old HBz.out).cell 4 (v:=.int .i64 bv) rfl;have x5:=(HT.out.old HBz.out).cell 5 (v:=.bool l) rfl)
   | (go_at_call 166;refine (Zqn _ _ _ (by unfold Bl ZmS ZmR at *;omega) (by unfold Bl ZmS ZmR at *;omega)).mono ?_;rintro e wn ⟨rfl,hbn⟩;have HBz:=Zh (Zaf HBz.out hbn);clear hbn x0 x1 x4 x5;have x0:=(HX.out.old HBz.out).cell 0 (v:=.int .i64 op) rfl;have x1:=(HX.out.old HBz.out).cell 1 (v:=.int .i64 a) rfl;have x4:=(HT.out.old HBz.out).cell 4 (v:=.int .i64 bv) rfl;have x5:=(HT.out.old HBz.out).cell 5 (v:=.bool l) rfl))
  all_goals
   go_ret
   refine ZcT (ZcY ?_) (Zaf HB.out HBz.out)
   rw [HQ.out]
   unfold scV
   grind
end
section
open Go.RowKit
theorem ZqC {l:List Int}{k:Nat} (h:k<l.length):l.getD k 0∈l:=by
 have:l.getD k 0=l[k]:=by simp [h]
 rw [this]
 exact List.getElem_mem _
def ZqD (L:List Int):Int→Int:=fun t=>L.getD t.toNat 0
def ZqE (l:Bool) (T:Int→Int) (ts:List Int) (j:Nat):Int:=(ts.take j).foldl (fun a t=>Zp7 l a (T t)) (-1)
theorem ZqF {l:Bool}{T:Int→Int}{ts:List Int}{j:Nat} (hj:j<ts.length):ZqE l T ts (j+1)=Zp7 l (ZqE l T ts j) (T (ts.getD j 0)):=by
 unfold ZqE
 rw [List.take_succ_eq_append_getElem hj,List.foldl_append]
 have hx:ts[j]=ts.getD j 0:=by simp [hj]
 rw [hx]
 rfl
theorem ZqG {m:Md} (h:Za1 m=true):m.cl.length≤10∧m.me.length≤16:=by
 have:=ZfJ h
 unfold ZaZ at this
 simp only [Bool.and_eq_true,decide_eq_true_eq] at this
 omega
theorem ZqH {w:World}{B g:Nat}{h:Hd}{m:Md}{bv:Int}{l:Bool}{L:List Int} (H:RT w B g h m bv l L) (hm:Za1 m=true) (i:In3) (h25:i.op=25→0≤i.a∧i.a<m.me.length) (h26:i.op=26→0≤i.a∧i.a<m.sel∧∀ t∈ZaN m i.a,0≤t∧t<m.me.length) :
  Calls Tryz.prog 288 #[.pointer (some ⟨B,0,none⟩),.agg #[.int .i64 i.op,.int .i64 i.a,.int .i64 i.b]] w (Ret w (.int .i64 (Zp8 l m (ZqD L) i))):=by
 have HMe:=Zh (show m.me.length≤1000 by have:=(ZqG hm);omega)
 obtain ⟨q,hq⟩:∃ q,q=Zp8 l m (ZqD L) i:=⟨_,rfl⟩
 rw [←hq]
 obtain ⟨op,ia,b⟩:=i
 unfold Zp8 at hq
 dsimp only at h25 h26 hq
 have HQ:=Zh hq
 obtain ⟨w0,hw0⟩:∃ w0,w0=w.alloc (.cells #[.int .i64 op,.int .i64 ia,.int .i64 b] 78):=⟨_,rfl⟩
 have HB:=Zh (show Below w.heap.size w w0 by rw [hw0];exact bE)
 have HX:=Zh (show Blk w0 w.heap.size #[.int .i64 op,.int .i64 ia,.int .i64 b] 78 by rw [hw0];exact Blk.new _ _ _)
 have HT:=Zh (H.old HB.out)
 have HW:=Zh hw0
 have HMo:=Zh hm
 clear hw0 H hq hm
 go_enter Tryz.func288,Tryz.ntmps288
 go_upto_region 1 with fail
 rw [←HW.out]
 have x0:=HX.out.cell 0 (v:=.int .i64 op) rfl
 have x1:=HX.out.cell 1 (v:=.int .i64 ia) rfl
 by_cases e25:op=25
 ·subst e25
  obtain ⟨a0,a1⟩:=h25 rfl
  obtain ⟨a,rfl⟩:∃ a:Nat,ia=a:=⟨ia.toNat,by omega⟩
  have x6:=HT.out.tb.cell 6 (v:=.slice (some ⟨g,0,none⟩) m.me.length m.me.length) rfl
  have n0:=Zp3 HT.out.nb (k:=a) (by have:=HT.out.ln;omega)
  go_upto_region 2 with fail
  refine rO (Cs [(⟨w.heap.size,1,none⟩,.int .i64 a),(⟨B,6,none⟩,.slice (some ⟨g,0,none⟩) m.me.length m.me.length),(⟨g,a,none⟩,.int .i64 (L.getD a 0))]) (oL [0,1,2,3,4,5,6,7,8]) ⟨x1,x6,n0,trivial⟩ ?_
  clear x0 x1 x6 n0
  repeat refine pO ?_
  refine Zd5 ?_
  go_wp2
  go_ret
  exact ZcT (ZcY (by rw [HQ.out];unfold ZqD;simp)) (by have:=HB.out;exact bE)
 ·by_cases e26:op=26
  ·subst e26
   obtain ⟨a0,a1,a2⟩:=h26 rfl
   obtain ⟨a,rfl⟩:∃ a:Nat,ia=a:=⟨ia.toNat,by omega⟩
   have HTg:=Zh (fun w' hb=>Zjn m h a w' (HT.out.md.old (w':=w') hb) HMo.out a1)
   obtain ⟨ts,hts⟩:∃ ts,ts=ZaN m a:=⟨_,rfl⟩
   rw [←hts] at HTg HQ a2
   have HA2:=Zh a2
   have HLn:=Zh (show ts.length≤1000 by rw [hts];have:=ZdG m a;have:=(ZqG HMo.out);omega)
   have x2:=HT.out.tb.cell 0 (v:=.slice h.co m.cl.length h.cc) rfl
   have x3:=HT.out.tb.cell 1 (v:=.slice h.so m.st.length h.sc) rfl
   have x4:=HT.out.tb.cell 2 (v:=.slice h.eo m.me.length h.ec) rfl
   have x5:=HT.out.tb.cell 3 (v:=.int .i64 m.sel) rfl
   clear a2 hts
   go_upto_region 5 with fail
   have HCs:=Zh (show Cs [(⟨w.heap.size,1,none⟩,.int .i64 a),(⟨B,0,none⟩,.slice h.co m.cl.length h.cc),(⟨B,1,none⟩,.slice h.so m.st.length h.sc),(⟨B,2,none⟩,.slice h.eo m.me.length h.ec),(⟨B,3,none⟩,.int .i64 m.sel)] w0 from ⟨x1,x2,x3,x4,x5,trivial⟩)
   refine rO (Cs [(⟨w.heap.size,1,none⟩,.int .i64 a),(⟨B,0,none⟩,.slice h.co m.cl.length h.cc),(⟨B,1,none⟩,.slice h.so m.st.length h.sc),(⟨B,2,none⟩,.slice h.eo m.me.length h.ec),(⟨B,3,none⟩,.int .i64 m.sel)]) (oL [0,1,2,3,4,5,106,7,8,9,10,11]) ⟨x1,x2,x3,x4,x5,trivial⟩ ?_
   clear x0 x1 x2 x3 x4 x5
   repeat refine pO ?_
   refine oO fun Kv hK=>?_
   go_simp
   refine (HTg.out _ (Below.refl _ _).drew).mono ?_
   rintro e w1 ⟨⟨tao,tc,rfl,htr⟩,hb1⟩
   have HB1:=Zh (Zaf (Below.refl w0.heap.size w0).drew hb1)
   have HTr:=Zh htr
   refine hK _ _ ⟨Cs.keeps (Zn8.of HB1.out) HCs.out,?_⟩
   clear hK Kv hb1 htr
   repeat refine pO ?_
   refine Zd5 ?_
   go_wp2
   have HT1:=Zh (HT.out.old HB1.out)
   go_loopw [7,8] (fun bs j wr=>∃ n:Nat,n≤ts.length∧j=.int .i64 n∧bs=.int .i64 (ZqE l (ZqD L) ts n)∧Hid (Below w1.heap.size w1 wr)) (fun _ j _=>ts.length-(intOf j).toNat)
   case atStart=>exact ⟨0,Nat.zero_le _,rfl,rfl,by exact bE⟩
   case round=>
    obtain ⟨n,hn,rfl,rfl,HBr⟩:=hrel
    rename World=>wo
    by_cases hnl:n<ts.length
    ·have hnl2:(n:Int) < ts.length:=by omega
     have hwn:IntKind.i64.wrap ((n:Int)+1)=((n+1:Nat):Int):=IntWalk.i64_in _ (by have:=HLn.out;omega)
     obtain ⟨ad,rfl,t0⟩:=ZaB (HTr.out.old HBr.out) hnl
     obtain ⟨t,ht⟩:∃ t,t=ts.getD n 0:=⟨_,rfl⟩
     rw [←ht] at t0
     have htm:=HA2.out t (by rw [ht];exact ZqC hnl)
     have HS:=Zh (ZqF (l:=l) (T:=ZqD L) hnl)
     rw [←ht] at HS
     obtain ⟨bs,hbs⟩:∃ bs,bs=ZqE l (ZqD L) ts n:=⟨_,rfl⟩
     rw [←hbs] at HS ⊢
     clear hbs ht
     obtain ⟨tn,rfl⟩:∃ tn:Nat,t=tn:=⟨t.toNat,by omega⟩
     obtain ⟨x,hx⟩:∃ x,x=ZqD L tn:=⟨_,rfl⟩
     have HT2:=Zh (HT1.out.old HBr.out)
     have x6:=HT2.out.tb.cell 6 (v:=.slice (some ⟨g,0,none⟩) m.me.length m.me.length) rfl
     have n0:=Zp3 HT2.out.nb (k:=tn) (by have:=HT.out.ln;omega)
     rw [show L.getD tn 0=x by rw [hx];unfold ZqD;rw [Int.toNat_natCast]] at n0
     rw [←hx] at HS
     clear hx
     go_upto_region 10 with fail
     refine rO (Cs [(⟨B,6,none⟩,.slice (some ⟨g,0,none⟩) m.me.length m.me.length),(ad.add n,.int .i64 tn),(⟨g,tn,none⟩,.int .i64 x)]) (oL [0,1,2,3,4,5,6,7,8,9,10]) ⟨x6,t0,n0,trivial⟩ ?_
     clear x6 t0 n0
     repeat refine pO ?_
     refine Zd5 ?_
     have x5:=(show Blk wo.drew B _ _ from HT2.out.tb).cell 5 (v:=.bool l) rfl
     go_wp2
     all_goals
      refine ⟨⟨n+1,by omega,rfl,?_,HBr.out.drew⟩,by simp [intOf];omega⟩
      rw [HS.out]
      unfold Zp7
      grind
    ·obtain rfl:n=ts.length:=by omega
     have hj5:¬ (ts.length:Int) < ts.length:=by omega
     go_wp2
     go_ret
     refine ZcT (ZcY ?_) (Zaf HB.out (Zaf HB1.out HBr.out))
     rw [HQ.out]
     unfold ZqE
     rw [List.take_length]
     simp
  ·go_wp2
   go_ret
   exact ZcT (ZcY (by rw [HQ.out,if_neg e25,if_pos e26])) HB.out
end
section
open Go.RowKit
def Pl (l:Bool) (n:Int):Prop:=(l=false→0≤n)∧Bl n
theorem Pl.of {l:Bool}{n:Int} (h:Bd n):Pl l n:=⟨fun _=>h.1,Bl.of h⟩
theorem ZqI {l:Bool}{a b:Int} (ha:Pl l a) (hb:Pl l b):Pl l (Zp5 a b):=by
 refine ⟨fun q=>?_,Zqd ha.2 hb.2⟩
 have:=ha.1 q
 have:=hb.1 q
 unfold Zp5 ZmS ZmR
 rw [if_neg (by omega)]
 omega
theorem ZqJ {l:Bool}{a b:Int} (ha:Bd a) (hb:Bd b):Pl l (ZmS a b):=Pl.of (Zoe ha hb)
theorem ZqK {l:Bool}{a n:Int} (ha:Bl a) (hn:Pl l n):Bl (Zp7 l a n):=by
 unfold Zp7 Pl Bl at *
 repeat' split
 all_goals omega
theorem ZqL {a n:Int} (hn:0≤n):0≤Zp7 false a n:=by
 unfold Zp7
 repeat' split
 all_goals simp_all
 all_goals omega
theorem ZqM {l:Bool}{T:Int→Int}:∀ (ts:List Int) (a:Int),Bl a→(∀ t∈ts,Pl l (T t))→Bl (ts.foldl (fun a t=>Zp7 l a (T t)) a)∧(l=false→(ts≠[]∨0≤a)→0≤ts.foldl (fun a t=>Zp7 l a (T t)) a)
 | [],a,ha,_=>⟨ha,fun _ q=>by rcases q with q|q;exact absurd rfl q;exact q⟩
 |t :: ts,a,ha,h=>by
  have h1:=h t (by simp)
  obtain ⟨q1,q2⟩:=ZqM ts (Zp7 l a (T t)) (ZqK ha h1) fun u hu=>h u (by simp [hu])
  refine ⟨q1,fun e _=>q2 e (.inr ?_)⟩
  subst e
  exact ZqL (h1.1 rfl)
structure RCx (bv:Int) (x:Ms) (l:Bool) (m:Md) (k:Nat) (L:List Int):Prop where
 hm:Za1 m=true
 hk:k<m.me.length
 sd:Zqg m (cdM m k)
 ow:Zqw bv m x (cdM m k)
 wt:∀ i∈cdM m k,0≤x.wt i∧x.wt i≤1000
 tl:x.tl=tlV bv
 sc:x.sc=scV bv
 nu:∀ t,Pl l (ZqD L t)
section
variable {bv:Int}{x:Ms}{l:Bool}{m:Md}{k:Nat}{L:List Int} (H:RCx bv x l m k L)
include H
theorem RCx.ok:ZfM m k:=ZfN H.hm H.hk
theorem RCx.code:ZaV false (cdM m k)=0:=(ZpX H.hm default).code H.hk
theorem RCx.opd {i:In3} (hi:i∈cdM m k):ZfR m k i:=ZfS (H.ok.i i hi).1 (H.ok.i i hi).2
theorem RCx.called {i:In3} (hi:i∈cdM m k):Pl l (Zp8 l m (ZqD L) i):=by
 unfold Zp8
 split
 ·exact H.nu _
 ·split
  ·exact Pl.of (by unfold Bd;omega)
  ·rename_i h26
   obtain ⟨q1,q2⟩:=ZqM (l:=l) (T:=ZqD L) (ZaN m i.a) (-1) (by unfold Bl;omega) fun t _=>H.nu t
   exact ⟨fun e=>q2 e (.inl (H.sd i hi (by omega))),q1⟩
theorem RCx.tlb:0≤x.tl∧x.tl≤1000:=by rw [H.tl];unfold tlV;split<;>omega
theorem RCx.pl {i:In3} (hi:i∈cdM m k):Pl l ((gR l x m (ZqD L)).pl i):=by
 have hc:=H.called hi
 have hw:=H.wt i hi
 show Pl l (if l=true∧i.op=28 then (-1:Int) else if Zp8 l m (ZqD L) i=-1 then (-1:Int) else ZmS (x.wt i) (Zp8 l m (ZqD L) i))
 generalize Zp8 l m (ZqD L) i=c at *
 cases l with
 |true=>
  refine ⟨(fun q=>by cases q),?_⟩
  have:=hc.2
  unfold Bl ZmS ZmR at *
  repeat' split
  all_goals omega
 |false=>
  have h1:=hc.1 rfl
  have h2:=hc.2
  unfold Bl at h2
  rw [if_neg (fun q=>by cases q.1),if_neg (by omega)]
  exact ZqJ (by unfold Bd;omega) (by unfold Bd;omega)
theorem RCx.brk {i:In3} (hi:i∈cdM m k) {f s:Int} (hf:Pl l f) (hs:Pl l s):Pl l ((gR l x m (ZqD L)).brk i f s):=by
 have hw:=H.wt i hi
 have ht:=H.tlb
 have ho:Pl l (x.wt i):=Pl.of (by unfold Bd;omega)
 have htp:Pl l x.tl:=Pl.of (by unfold Bd;omega)
 have hob:Bd (x.wt i):=by unfold Bd;omega
 have htb:Bd x.tl:=by unfold Bd;omega
 show Pl l (Zp9 l x.sc i f s (x.wt i) x.tl)
 unfold Zp9
 cases l with
 |true=>
  simp only [if_true]
  have hb:∀ n,Bl n→Pl true n:=fun n h=>⟨(fun q=>by cases q),h⟩
  have h1:=Zqd ho.2 (Zqz (Zqd hf.2 htp.2) (Zqd hs.2 htp.2))
  have h2:=Zqd ho.2 (Zqd hf.2 htp.2)
  repeat' split
  all_goals first|exact hb _ h1|exact hb _ h2|exact ho|exact Pl.of (by unfold Bd;omega)
 |false=>
  simp only [Bool.false_eq_true,if_false]
  have hfb:Bd f:=⟨hf.1 rfl,hf.2.2⟩
  have hsb:Bd s:=⟨hs.1 rfl,hs.2.2⟩
  have hmx:Pl false (max (Zp5 f x.tl) (Zp5 s x.tl)):=by
   rw [Zqb hfb htb,Zqb hsb htb];exact Pl.of (Zog (Zoe hfb htb) (Zoe hsb htb))
  by_cases h29:i.op=29
  ·rw [if_pos h29];exact ZqI ho hmx
  ·rw [if_neg h29]
   by_cases h30:i.op=30
   ·rw [if_pos h30];exact ZqJ hob (Zof ((H.opd hi).a0 (by omega)) (Zoe hfb htb))
   ·rw [if_neg h30]
    split
    ·exact Pl.of (by unfold Bd;omega)
    ·split
     ·exact ZqJ (Zoe hob (Zoe hfb htb)) hsb
     ·exact ZqI ho (ZqI hf htp)
theorem RCx.wa {a b:Nat} (hs:Seg (cdM m k) a b) {acc:Int} (ha:Pl l acc):Pl l (WA (gR l x m (ZqD L)) (cdM m k) a b acc):=
 (Zqa (g:=gR l x m (ZqD L)) (g':=gR l x m (ZqD L)) hs (Pl.of (by unfold Bd;omega)) (fun _ _ h1 h2=>⟨rfl,ZqI h1 h2⟩) (fun i hi=>⟨rfl,H.pl hi⟩) (fun i hi f s hf hs=>⟨rfl,H.brk hi hf hs⟩) acc ha).2
end
end
section
open Go.RowKit
attribute [local go_sem] World.cell?_alloc_some
theorem ZqN {w:World}{b:Nat}{t:Ty} (hb:b=w.heap.size):Zar (w.alloc (.cells #[.int .i64 t.k,.int .i64 t.c] 76)) (some ⟨b,0,none⟩) 1 [t]:=by
 have:=ZdL (w:=w.alloc (.cells #[.int .i64 t.k,.int .i64 t.c] 76)) (b:=b) (xs:=#[.int .i64 t.k,.int .i64 t.c]) (t:=76) (Blk.new' _ _ hb) (n:=1) (size:=2) rfl
 exact this
end
section
open Go.RowKit
theorem ZqO {m:Md}{lo:List Ty}{i:In3}{s:Ps} (h:(ZeC m lo i s).1=0) (h26:i.op=26):ZaN m i.a≠[]:=fun e=>by
 unfold ZeC at h
 rw [if_neg (by omega),if_neg (by omega)] at h
 have hp:∀ l,ZeB m lo i l=none:=fun l=>by
  unfold ZeB Zew
  simp [h26,e]
 simp only [hp] at h
 split at h<;>simp at h
theorem ZqP {m:Md}{lo:List Ty}{r:Ty}:∀ (l:List In3) (n:Nat) (s:Ps),(ZeE m lo r n l s).2.2=0→Zqg m l
 | [],_,_,_=>fun i hi=>by simp at hi
 |i :: l,n,s,h=>by
  unfold ZeE at h
  by_cases h1:(ZeC m lo i s).1=0
  ·rw [if_pos h1] at h
   dsimp only at h
   intro j hj
   rcases List.mem_cons.1 hj with rfl|hj
   ·exact ZqO h1
   ·refine ZqP (lo:=lo) (r:=r) l (n+1) (ZeC m lo i s).2 ?_ j hj
    split at h
    ·assumption
    ·exact h
  ·rw [if_neg h1] at h
   exact absurd h h1
theorem ZqQ {m:Md}:∀ (n k:Nat),(Zmf m n k).2.2=0→∀ j,k≤j→j<k+n→(ZeG m j).2.2=0
 | 0,k,_,j,h1,h2=>by omega
 |n+1,k,h,j,h1,h2=>by
  unfold Zmf at h
  by_cases h3:(ZeG m k).2.2=0
  ·rw [if_pos h3] at h
   by_cases e:j=k
   ·subst e;exact h3
   ·exact ZqQ n (k+1) h j (by omega) (by omega)
  ·rw [if_neg h3] at h
   exact absurd h h3
theorem ZqR {m:Md} (h:(Zmg m).2.2=0):Za1 m=true∧∀ k,k<m.me.length→Zqg m (cdM m k):=by
 unfold Zmg at h
 by_cases hm:Za1 m=true
 ·rw [if_pos hm] at h
  exact ⟨hm,fun k hk=>ZqP _ _ _ (ZqQ _ _ h k (Nat.zero_le _) (by omega))⟩
 ·rw [if_neg hm] at h
  exact absurd h (by decide)
section
variable {x:Ms}{m:Md} (hm:Za1 m=true) (hsd:∀ k,k<m.me.length→Zqg m (cdM m k))
include hm hsd
theorem ZqS (hw:∀ k,k<m.me.length→∀ i∈cdM m k,0≤x.wt i∧x.wt i≤1000) (ht:0≤x.tl∧x.tl≤1000) (h32:x.sc=true→∀ k,k<m.me.length→∀ i∈cdM m k,i.op=32→x.wt i=0):∀ n k,k<n→k<m.me.length→Zm0 (gR false x m) m k=Zm0 (gW x m) m k
 | 0,k,hn,_=>by omega
 |n+1,k,hn,hk=>by
  have hok:=ZfN hm hk
  rw [ZpO hm x hk,ZpM]
  refine (Zqh (k:=k) (fun i hi=>hok.i i hi) (hsd k hk) (hw k hk) ht (fun q=>h32 q k hk) (T':=fun t=>Zm0 (gW x m) m t.toNat) (fun t h0 h1=>?_) (fun t=>?_) (Zmq hok.n) 0 (by unfold Bd;omega)).1
  ·rw [Zm2 _ _ (by omega)]
   exact ZqS hw ht h32 n _ (by omega) (by omega)
  ·exact ZpN hm (x:=x) hw ht (t.toNat+1) _ (by omega)
end
def ZqT (g:Wg) (l:List In3) (p:Nat):Int × Nat:=
 if ZaR (l.getD p default).op=true then
  (g.brk (l.getD p default) (WA g l (p+1) (if (mtV l p).1<0 then (mtV l p).2 else (mtV l p).1.toNat) 0) (if (mtV l p).1<0 then 0 else WA g l ((mtV l p).1.toNat+1) (mtV l p).2 0),(mtV l p).2+1)
 else (g.pl (l.getD p default),p+1)
theorem ZqU {g:Wg}{l:List In3}{p b:Nat} (h:Seg l p b) (hp:p<b):p<(ZqT g l p).2∧(ZqT g l p).2≤b∧Seg l (ZqT g l p).2 b∧∀ acc,WA g l p b acc=WA g l (ZqT g l p).2 b (g.plus acc (ZqT g l p).1):=by
 rcases ZmK h with e|⟨_,h2,h3,h4,h5⟩|⟨en,h1,h2,h3,h4,h5⟩|⟨n,en,h1,h2,h3,h4,h5,h6,h7⟩
 ·omega
 ·have e:ZqT g l p=(g.pl (l.getD p default),p+1):=by unfold ZqT;rw [if_neg (by rw [h2];decide)]
  rw [e]
  exact ⟨Nat.lt_succ_self _,hp,h5,fun acc=>Zmw h2 h5⟩
 ·have e:ZqT g l p=(g.brk (l.getD p default) (WA g l (p+1) en 0) 0,en+1):=by unfold ZqT;rw [if_pos (show _=true from h1.2.1),Zmn h1];rfl
  rw [e]
  exact ⟨by dsimp only;omega,by dsimp only;omega,h5,fun acc=>Zmx h1 h4 h5⟩
 ·have e:ZqT g l p=(g.brk (l.getD p default) (WA g l (p+1) n 0) (WA g l (n+1) en 0),en+1):=by
   unfold ZqT
   rw [if_pos (show _=true from h1.2.1),Zmn h1]
   dsimp only
   rw [if_neg (by omega),if_neg (by omega),Int.toNat_natCast]
  rw [e]
  exact ⟨by dsimp only;omega,by dsimp only;omega,h7,fun acc=>Zmy h1 h5 h6 h7⟩
end
end Go.Proofs.YtcfjblcgceednaaGreat
