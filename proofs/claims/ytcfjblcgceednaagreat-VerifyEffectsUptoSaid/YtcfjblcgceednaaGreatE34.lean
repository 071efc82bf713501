/- Joined texts. The first: The reference's some, Effects, WaitFree. -/
import Derived.Test.YtcfjblcgceednaaGreatE31
set_option linter.all false
set_option linter.unusedVariables false
set_option linter.unusedSimpArgs false
set_option maxRecDepth 100000
set_option maxHeartbeats 16000000
namespace Go.Proofs.YtcfjblcgceednaaGreat
theorem kC0{p:Prop}(h:p:=by
 refine hK _ _ ⟨HC1.out,?_⟩
 clear hK Kv hb h3
 rename World=>w1
 repeat refine pO ?_
 refine oO fun Kv hK=>?_
 go_simp
 refine (HD.out _ 27 HB1.out).mono ?_
 rintro e w2 ⟨⟨b4,rfl,h4⟩,hb⟩
 have HP4:=Zh h4
 have HC1:=Zh (Cs.keeps (ZnF.of hb) HC1.out)
 have HB1:=Zh (Zaf HB1.out hb)
 refine hK _ _ ⟨HC1.out,?_⟩
 clear hK Kv hb h4
 rename World=>w1
 repeat refine pO ?_
 have HY:=Zh (HRs.out.old HB1.out)
 have r0:=HY.out.cell 0 (v:=.bool false) rfl
 have r1:=HY.out.cell 1 (v:=.bool false) rfl
 have r2:=HY.out.cell 2 (v:=.bool false) rfl
 have r3:=HY.out.cell 3 (v:=.bool false) rfl
 have r4:=HY.out.cell 4 (v:=.bool false) rfl
 have fr0:=HY.out.frozen 0
 have fr1:=HY.out.frozen 1
 have fr2:=HY.out.frozen 2
 have fr3:=HY.out.frozen 3
 have fr4:=HY.out.frozen 4
 have rl:=HY.out.lt
 refine oO fun Kv hK=>?_
 go_simp
 have HY2:=HY
 have hY:=((((HY.out.set 0 (.bool b0)).set 1 (.bool b1)).set 2 (.bool b2)).set 3 (.bool b3)).set 4 (.bool b4)
 have hQ:=((((((HX.out.old HB1.out).other (a:=⟨w.heap.size+1,0,none⟩) (by show ¬ w.heap.size=w.heap.size+1;omega) (.bool b0)).other (a:=⟨w.heap.size+1,1,none⟩) (by show ¬ w.heap.size=w.heap.size+1;omega) (.bool b1)).other (a:=⟨w.heap.size+1,2,none⟩) (by show ¬ w.heap.size=w.heap.size+1;omega) (.bool b2)).other (a:=⟨w.heap.size+1,3,none⟩) (by show ¬ w.heap.size=w.heap.size+1;omega) (.bool b3)).other (a:=⟨w.heap.size+1,4,none⟩) (by show ¬ w.heap.size=w.heap.size+1;omega) (.bool b4))
 have hB:=ZcW (j:=4) (ZcW (j:=3) (ZcW (j:=2) (ZcW (j:=1) (ZcW (j:=0) (Zaf HB.out HB1.out) (Nat.le_succ w.heap.size) (.bool b0)) (Nat.le_succ w.heap.size) (.bool b1)) (Nat.le_succ w.heap.size) (.bool b2)) (Nat.le_succ w.heap.size) (.bool b3)) (Nat.le_succ w.heap.size) (.bool b4)
 refine hK _ _ ⟨⟨hQ.cell 0 rfl,hQ.cell 1 rfl,hQ.cell 2 rfl,hQ.cell 3 rfl,trivial⟩,?_⟩
 have HY3:=Zh hY
 have HB3:=Zh hB
 clear hK Kv hY hQ hB r0 r1 r2 r3 r4 fr0 fr1 fr2 fr3 fr4 rl
 generalize ((((w1.setCell _ _).setCell _ _).setCell _ _).setCell _ _).setCell _ _=w5 at HY3 HB3 ⊢
 repeat refine pO ?_
 refine Zd5 ?_
 go_wp2
 have y0:=HY3.out.cell 0 rfl
 have y1:=HY3.out.cell 1 rfl
 have y2:=HY3.out.cell 2 rfl
 have y3:=HY3.out.cell 3 rfl
 have y4:=HY3.out.cell 4 rfl
 exact bodyPost_ret (v:=.tuple #[.agg #[.bool b0,.bool b1,.bool b2,.bool b3,.bool b4],.int .i64 0]) (by simp [results,Tryz.results13,go_sem,y0,y1,y2,y3,y4]) rfl ⟨⟨b0,b1,b2,b3,b4,rfl,HP0.out,HP1.out,HP2.out,HP3.out,HP4.out⟩,HB3.out⟩):p:=h
theorem kC1{p:Prop}(h:p:=by
 repeat refine pO ?_
 refine oO fun Kv hK=>?_
 go_simp
 refine (HD.out _ 30 HB1.out).mono ?_
 rintro e w2 ⟨⟨b2,rfl,h2⟩,hb⟩
 have HP2:=Zh h2
 have HC1:=Zh (Cs.keeps (ZnF.of hb) HC1.out)
 have HB1:=Zh (Zaf HB1.out hb)
 have HRA:=Zh (HRA.out.old hb)
 have HRB:=Zh (HRB.out.old hb)
 refine hK _ _ ⟨HC1.out,?_⟩
 clear hK Kv hb h2
 rename World=>w1
 exact kC4):p:=h
theorem kC4{p:Prop}(h:p:=by
 repeat refine pO ?_
 refine oO fun Kv hK=>?_
 go_simp
 refine (HSm.out _ [9,14,15,16,17,18,19,20,21,23,24,26,28] (some ⟨B,0,none⟩) 13 13 HB1.out HRB.out rfl (by decide)).mono ?_
 rintro e w2 ⟨⟨b3,rfl,h3⟩,hb⟩
 have HP3:=Zh h3
 have HC1:=Zh (Cs.keeps (ZnF.of hb) HC1.out)
 have HB1:=Zh (Zaf HB1.out hb)
 have HRA:=Zh (HRA.out.old hb)
 have HRB:=Zh (HRB.out.old hb)
 exact kC0):p:=h
theorem kC5{p:Prop}(h:p:=by
 repeat refine pO ?_
 refine oO fun Kv hK=>?_
 go_simp
 refine (HD.out _ 31 HB1.out).mono ?_
 rintro e w2 ⟨⟨b1,rfl,h1⟩,hb⟩
 have HP1:=Zh h1
 have HC1:=Zh (Cs.keeps (ZnF.of hb) HC1.out)
 have HB1:=Zh (Zaf HB1.out hb)
 have HRA:=Zh (HRA.out.old hb)
 have HRB:=Zh (HRB.out.old hb)
 refine hK _ _ ⟨HC1.out,?_⟩
 clear hK Kv hb h1
 rename World=>w1
 exact kC1):p:=h
section
open Go.RowKit
def Zqu (m:Md) (k:Nat) (ops:List Int):Prop:=∃ op∈ops,Zp5 m k op
theorem Zqv (m:Md) (h:Hd) (k:Nat) (ops:List Int) (ao:Option Addr) (cap:Nat) (w:World) (H:Zay w h m) (hr:Zar w ao cap ops) (hl:ops.length≤1000) (hv:Za1 m=true) (hk:k<m.me.length):Calls Tryz.prog 61 #[.agg #[.slice h.co m.cl.length h.cc,.slice h.so m.st.length h.sc,.slice h.eo m.me.length h.ec,.int .i64 m.sel],.int .i64 k,.slice ao ops.length cap] w (Zp4 w (Zqu m k ops)):=by
 obtain ⟨w0,hw0⟩:∃ w0,w0=w.alloc (.cells #[.slice h.co m.cl.length h.cc,.slice h.so m.st.length h.sc,.slice h.eo m.me.length h.ec,.int .i64 m.sel] 26):=⟨_,rfl⟩
 have HB:=Zh (show Below w.heap.size w w0 by rw [hw0];exact bE)
 have HX:=Zh (show Blk w0 w.heap.size #[.slice h.co m.cl.length h.cc,.slice h.so m.st.length h.sc,.slice h.eo m.me.length h.ec,.int .i64 m.sel] 26 by rw [hw0];exact Blk.new _ _ _)
 have HM:=Zh (H.old HB.out)
 have HR:=Zh (hr.old HB.out)
 have HW:=Zh hw0
 have HD:=Zh (show ∀ w' op,Below w0.heap.size w0 w'→_ from fun w' op hb=>Zp6 m h k op w' (HM.out.old hb) hv hk)
 clear hw0 H hv hr
 go_enter Tryz.func61,Tryz.ntmps61
 go_upto_region 1 with fail
 rw [←HW.out]
 go_wp2_with fail
 go_loopw [7] (fun i wr=>∃ q:Nat,q≤ops.length∧i=.int .i64 q∧Hid (∀ j,j<q→¬ Zp5 m k (ops.getD j 0))∧Hid (Below w0.heap.size w0 wr)) (fun i _=>ops.length-(intOf i).toNat)
 case atStart=>exact ⟨0,Nat.zero_le _,rfl,fun j hj=>by omega,Below.refl _ _⟩
 case round=>
  obtain ⟨q,hq,rfl,HN,HBr⟩:=hrel
  rename World=>wo
  by_cases hql:q<ops.length
  ·have hql2:(q:Int) < ops.length:=by omega
   have hwq:IntKind.i64.wrap ((q:Int)+1)=((q+1:Nat):Int):=IntWalk.i64_in _ (by omega)
   obtain ⟨ad,rfl,t0⟩:=ZaB (HR.out.old HBr.out) hql
   obtain ⟨o,ho⟩:∃ o,o=ops.getD q 0:=⟨_,rfl⟩
   rw [←ho] at t0
   have HO:=Zh ho
   clear ho
   have x0:=(HX.out.old HBr.out).cell 0 (v:=.slice h.co m.cl.length h.cc) rfl;have x1:=(HX.out.old HBr.out).cell 1 (v:=.slice h.so m.st.length h.sc) rfl;have x2:=(HX.out.old HBr.out).cell 2 (v:=.slice h.eo m.me.length h.ec) rfl;have x3:=(HX.out.old HBr.out).cell 3 (v:=.int .i64 m.sel) rfl
   go_upto_region 4 with fail
   refine rO (Cs [(⟨w.heap.size,0,none⟩,.slice h.co m.cl.length h.cc),(⟨w.heap.size,1,none⟩,.slice h.so m.st.length h.sc),(⟨w.heap.size,2,none⟩,.slice h.eo m.me.length h.ec),(⟨w.heap.size,3,none⟩,.int .i64 m.sel),(_,.int .i64 o)]) (oL [0,1,2,3,4,5,106]) ⟨x0,x1,x2,x3,t0,trivial⟩ ?_
   repeat refine pO ?_
   refine oO fun Kv hK=>?_
   go_simp
   have HBd:=Zh HBr.out.drew
   refine (HD.out _ o HBd.out).mono ?_
   rintro e w2 ⟨⟨b,rfl,hb⟩,hb2⟩
   have HB2:=Zh (Zaf HBd.out hb2)
   have HP:=Zh hb
   refine hK _ _ ⟨Cs.keeps (ZnF.of hb2) (show Cs [(⟨w.heap.size,0,none⟩,.slice h.co m.cl.length h.cc),(⟨w.heap.size,1,none⟩,.slice h.so m.st.length h.sc),(⟨w.heap.size,2,none⟩,.slice h.eo m.me.length h.ec),(⟨w.heap.size,3,none⟩,.int .i64 m.sel),(_,.int .i64 o)] wo.drew from ⟨x0,x1,x2,x3,t0,trivial⟩),?_⟩
   clear hK Kv hb2 hb x0 x1 x2 x3 t0
   refine Zd5 ?_
   rcases b with _|_
   ·go_wp2
    exact ⟨⟨q+1,hql,rfl,fun j hj=>by
     by_cases e:j=q
     ·subst e;rw [←HO.out];exact fun h=>by have:=HP.out.2 h;cases this
     ·exact HN.out j (by omega),HB2.out⟩,by simp [intOf];omega⟩
   ·go_wp2
    go_ret
    exact ⟨⟨true,rfl,fun _=>⟨o,by rw [HO.out,List.getD_eq_getElem?_getD,List.getElem?_eq_getElem hql];exact List.getElem_mem hql,HP.out.1 trivial⟩,fun _=>rfl⟩,Zaf HB.out HB2.out⟩
  ·have hql2:¬ (q:Int) < ops.length:=by omega
   go_wp2
   go_ret
   exact ⟨⟨false,rfl,(fun h=>by cases h),fun ⟨op,ho,hd⟩=>by
    obtain ⟨x,hx,rfl⟩:=List.mem_iff_getElem.1 ho
    exact absurd hd (by have:=HN.out x (by omega);rwa [List.getD_eq_getElem?_getD,List.getElem?_eq_getElem hx] at this)⟩,Zaf HB.out HBr.out⟩
-- effects
def EfP (W:World) (m:Md) (k:Nat):Ending→World→Prop:=fun e w'=>(∃ b0 b1 b2 b3 b4,e=.returned (.tuple #[.agg #[.bool b0,.bool b1,.bool b2,.bool b3,.bool b4],.int .i64 0])∧(b0=true↔Zqu m k [14,15,16])∧(b1=true↔Zp5 m k 31)∧(b2=true↔Zp5 m k 30)∧(b3=true↔Zqu m k [9,14,15,16,17,18,19,20,21,23,24,26,28])∧(b4=true↔Zp5 m k 27))∧Below W.heap.size W w'
theorem Zqw {w:World}{l:List Int}{n:Nat} (hn:l.length=n):Zar (w.alloc (.cells (l.map (Value.int .i64)).toArray 3)) (some ⟨w.heap.size,0,none⟩) n l:=by
 unfold Zar
 rw [Zat]
 subst hn
 have:=ZdL (w:=w.alloc (.cells (l.map (Value.int .i64)).toArray 3)) (b:=w.heap.size) (xs:=(l.map (Value.int .i64)).toArray) (t:=3) (Blk.new' _ _ rfl) (n:=l.length) (size:=1) (by simp)
 rw [List.toList_toArray] at this
 exact this
theorem Zqx (m:Md) (h:Hd) (k:Nat) (w:World) (H:Zay w h m) (hv:Za1 m=true) (hk:k<m.me.length):Calls Tryz.prog 13 #[.agg #[.slice h.co m.cl.length h.cc,.slice h.so m.st.length h.sc,.slice h.eo m.me.length h.ec,.int .i64 m.sel],.int .i64 k] w (EfP w m k):=by
 obtain ⟨w0,hw0⟩:∃ w0,w0=(w.alloc (.cells #[.slice h.co m.cl.length h.cc,.slice h.so m.st.length h.sc,.slice h.eo m.me.length h.ec,.int .i64 m.sel] 26)).alloc (.cells #[.bool false,.bool false,.bool false,.bool false,.bool false] 28):=⟨_,rfl⟩
 have HB:=Zh (show Below w.heap.size w w0 by rw [hw0];exact bE)
 have HX:=Zh (show Blk w0 w.heap.size #[.slice h.co m.cl.length h.cc,.slice h.so m.st.length h.sc,.slice h.eo m.me.length h.ec,.int .i64 m.sel] 26 by rw [hw0];exact (Blk.new _ _ _).alloc _)
 have HRs:=Zh (show Blk w0 (w.heap.size+1) #[.bool false,.bool false,.bool false,.bool false,.bool false] 28 by rw [hw0];exact Blk.new' (w:=w.alloc (.cells #[.slice h.co m.cl.length h.cc,.slice h.so m.st.length h.sc,.slice h.eo m.me.length h.ec,.int .i64 m.sel] 26)) _ _ (by simp))
 have HM:=Zh (H.old HB.out)
 have HW:=Zh hw0
 have HC:=Zh (Zjj m h w0 HM.out)
 rw [hv] at HC
 have HD:=Zh (show ∀ w' op,Below w0.heap.size w0 w'→_ from fun w' op hb=>Zp6 m h k op w' (HM.out.old hb) hv hk)
 have HSm:=Zh (show ∀ w' (ops:List Int) ao cap (n:Nat),Below w0.heap.size w0 w'→Zar w' ao cap ops→ops.length=n→n≤1000→Calls Tryz.prog 61 #[.agg #[.slice h.co m.cl.length h.cc,.slice h.so m.st.length h.sc,.slice h.eo m.me.length h.ec,.int .i64 m.sel],.int .i64 k,.slice ao n cap] w' (Zp4 w' (Zqu m k ops)) from fun w' ops ao cap n hb hr hn hl=>by subst hn;exact Zqv m h k ops ao cap w' (HM.out.old hb) hr hl hv hk)
 have hk2:¬ (k:Int) ≥ m.me.length:=by omega
 have hk0:¬ (k:Int) < 0:=by omega
 clear hw0 H hv
 go_enter Tryz.func13,Tryz.ntmps13
 go_upto_region 1 with fail
 rw [←HW.out]
 have x0:=HX.out.cell 0 (v:=.slice h.co m.cl.length h.cc) rfl;have x1:=HX.out.cell 1 (v:=.slice h.so m.st.length h.sc) rfl;have x2:=HX.out.cell 2 (v:=.slice h.eo m.me.length h.ec) rfl;have x3:=HX.out.cell 3 (v:=.int .i64 m.sel) rfl
 go_upto_region 3 with (go_at_call 60;refine HC.out.mono ?_;rintro e w1 ⟨rfl,hb1⟩;have HB1:=Zh hb1;have x0:=(hb1.cell (Zac x0)).trans x0;have x1:=(hb1.cell (Zac x1)).trans x1;have x2:=(hb1.cell (Zac x2)).trans x2;have x3:=(hb1.cell (Zac x3)).trans x3;clear hb1)
 refine rO (Cs [(⟨w.heap.size,0,none⟩,.slice h.co m.cl.length h.cc),(⟨w.heap.size,1,none⟩,.slice h.so m.st.length h.sc),(⟨w.heap.size,2,none⟩,.slice h.eo m.me.length h.ec),(⟨w.heap.size,3,none⟩,.int .i64 m.sel)]) (.plain 0 (.plain 1 (.plain 4 (.plain 5 (.plain 7 (.plain 8 (.plain 10 (.plain 11 (.plain 14 (.plain 15 (.two 2 12 (.two 3 12 (.two 6 12 (.two 9 12 (oL [112,113,116,17,118,19]) (oL [109,113,116,17,118,19])) (oL [106,109,113,116,17,118,19])) (oL [103,106,109,113,116,17,118,19])) (oL [102,103,106,109,113,116,17,118,19])))))))))))) ⟨x0,x1,x2,x3,trivial⟩ ?_
 have HC1:=Zh (show Cs [(⟨w.heap.size,0,none⟩,.slice h.co m.cl.length h.cc),(⟨w.heap.size,1,none⟩,.slice h.so m.st.length h.sc),(⟨w.heap.size,2,none⟩,.slice h.eo m.me.length h.ec),(⟨w.heap.size,3,none⟩,.int .i64 m.sel)] w1.drew from ⟨x0,x1,x2,x3,trivial⟩)
 have HB1:=Zh HB1.out.drew
 clear x0 x1 x2 x3
 generalize w1.drew=w1 at HB1 HC1 ⊢
 repeat refine pO ?_
 refine Zd4 ?_ ?_
 ·refine Zd2 _ (by rfl) (by rfl) fun Kv hK=>?_
  go_simp
  have hb:=(show Below w1.heap.size w1 (w1.alloc (.cells #[.int .i64 14,.int .i64 15,.int .i64 16] 3)) by exact bE)
  have HRA:=Zh (Zqw (w:=w1) (l:=[14,15,16]) (n:=3) rfl)
  obtain ⟨A,hA⟩:∃ a,a=w1.heap.size:=⟨_,rfl⟩
  have HC1:=Zh (Cs.keeps (ZnF.of hb) HC1.out)
  refine hK _ _ ⟨HC1.out,?_⟩
  clear hK Kv
  have HB1:=Zh (Zaf HB1.out hb)
  clear hb
  rw [←hA] at HRA ⊢
  clear hA
  change RowKit.Hid (Zar (w1.alloc (.cells #[.int .i64 14,.int .i64 15,.int .i64 16] 3)) _ _ _) at HRA
  generalize w1.alloc (.cells #[.int .i64 14,.int .i64 15,.int .i64 16] 3)=w1 at *
  repeat refine pO ?_
  refine Zd4 ?_ ?_
  ·refine Zd2 _ (by rfl) (by rfl) fun Kv hK=>?_
   go_simp
   refine (HSm.out _ [14,15,16] (some ⟨A,0,none⟩) 3 3 HB1.out HRA.out rfl (by decide)).mono ?_
   rintro e w2 ⟨⟨b0,rfl,h0⟩,hb⟩
   have HP0:=Zh h0
   have HC1:=Zh (Cs.keeps (ZnF.of hb) HC1.out)
   have HB1:=Zh (Zaf HB1.out hb)
   have HRA:=Zh (HRA.out.old hb)
   refine hK _ _ ⟨HC1.out,?_⟩
   clear hK Kv hb h0
   rename World=>w1
   repeat refine pO ?_
   refine Zd4 ?_ ?_
   ·refine Zd2 _ (by rfl) (by rfl) fun Kv hK=>?_
    go_simp
    refine (HD.out _ 31 HB1.out).mono ?_
    rintro e w2 ⟨⟨b1,rfl,h1⟩,hb⟩
    have HP1:=Zh h1
    have HC1:=Zh (Cs.keeps (ZnF.of hb) HC1.out)
    have HB1:=Zh (Zaf HB1.out hb)
    have HRA:=Zh (HRA.out.old hb)
    refine hK _ _ ⟨HC1.out,?_⟩
    clear hK Kv hb h1
    rename World=>w1
    repeat refine pO ?_
    refine Zd4 ?_ ?_
    ·refine Zd2 _ (by rfl) (by rfl) fun Kv hK=>?_
     go_simp
     refine (HD.out _ 30 HB1.out).mono ?_
     rintro e w2 ⟨⟨b2,rfl,h2⟩,hb⟩
     have HP2:=Zh h2
     have HC1:=Zh (Cs.keeps (ZnF.of hb) HC1.out)
     have HB1:=Zh (Zaf HB1.out hb)
     have HRA:=Zh (HRA.out.old hb)
     refine hK _ _ ⟨HC1.out,?_⟩
     clear hK Kv hb h2
     rename World=>w1
     repeat refine pO ?_
     refine oO fun Kv hK=>?_
     go_simp
     have hb:=(show Below w1.heap.size w1 (w1.alloc (.cells #[.int .i64 9,.int .i64 14,.int .i64 15,.int .i64 16,.int .i64 17,.int .i64 18,.int .i64 19,.int .i64 20,.int .i64 21,.int .i64 23,.int .i64 24,.int .i64 26,.int .i64 28] 3)) by exact bE)
     have HRB:=Zh (Zqw (w:=w1) (l:=[9,14,15,16,17,18,19,20,21,23,24,26,28]) (n:=13) rfl)
     obtain ⟨B,hB⟩:∃ a,a=w1.heap.size:=⟨_,rfl⟩
     have HC1:=Zh (Cs.keeps (ZnF.of hb) HC1.out)
     refine hK _ _ ⟨HC1.out,?_⟩
     clear hK Kv
     have HB1:=Zh (Zaf HB1.out hb)
     have HRA:=Zh (HRA.out.old hb)
     clear hb
     rw [←hB] at HRB ⊢
     clear hB
     change RowKit.Hid (Zar (w1.alloc (.cells #[.int .i64 9,.int .i64 14,.int .i64 15,.int .i64 16,.int .i64 17,.int .i64 18,.int .i64 19,.int .i64 20,.int .i64 21,.int .i64 23,.int .i64 24,.int .i64 26,.int .i64 28] 3)) _ _ _) at HRB
     generalize w1.alloc (.cells #[.int .i64 9,.int .i64 14,.int .i64 15,.int .i64 16,.int .i64 17,.int .i64 18,.int .i64 19,.int .i64 20,.int .i64 21,.int .i64 23,.int .i64 24,.int .i64 26,.int .i64 28] 3)=w1 at *
     exact kC4
    ·refine Zd2 _ (by rfl) (by rfl) fun Kv hK=>?_
     go_simp
     have hb:=(show Below w1.heap.size w1 (w1.alloc (.cells #[.int .i64 9,.int .i64 14,.int .i64 15,.int .i64 16,.int .i64 17,.int .i64 18,.int .i64 19,.int .i64 20,.int .i64 21,.int .i64 23,.int .i64 24,.int .i64 26,.int .i64 28] 3)) by exact bE)
     have HRB:=Zh (Zqw (w:=w1) (l:=[9,14,15,16,17,18,19,20,21,23,24,26,28]) (n:=13) rfl)
     obtain ⟨B,hB⟩:∃ a,a=w1.heap.size:=⟨_,rfl⟩
     have HC1:=Zh (Cs.keeps (ZnF.of hb) HC1.out)
     refine hK _ _ ⟨HC1.out,?_⟩
     clear hK Kv
     have HB1:=Zh (Zaf HB1.out hb)
     have HRA:=Zh (HRA.out.old hb)
     clear hb
     rw [←hB] at HRB ⊢
     clear hB
     change RowKit.Hid (Zar (w1.alloc (.cells #[.int .i64 9,.int .i64 14,.int .i64 15,.int .i64 16,.int .i64 17,.int .i64 18,.int .i64 19,.int .i64 20,.int .i64 21,.int .i64 23,.int .i64 24,.int .i64 26,.int .i64 28] 3)) _ _ _) at HRB
     generalize w1.alloc (.cells #[.int .i64 9,.int .i64 14,.int .i64 15,.int .i64 16,.int .i64 17,.int .i64 18,.int .i64 19,.int .i64 20,.int .i64 21,.int .i64 23,.int .i64 24,.int .i64 26,.int .i64 28] 3)=w1 at *
     exact kC1
   ·refine Zd2 _ (by rfl) (by rfl) fun Kv hK=>?_
    go_simp
    have hb:=(show Below w1.heap.size w1 (w1.alloc (.cells #[.int .i64 9,.int .i64 14,.int .i64 15,.int .i64 16,.int .i64 17,.int .i64 18,.int .i64 19,.int .i64 20,.int .i64 21,.int .i64 23,.int .i64 24,.int .i64 26,.int .i64 28] 3)) by exact bE)
    have HRB:=Zh (Zqw (w:=w1) (l:=[9,14,15,16,17,18,19,20,21,23,24,26,28]) (n:=13) rfl)
    obtain ⟨B,hB⟩:∃ a,a=w1.heap.size:=⟨_,rfl⟩
    have HC1:=Zh (Cs.keeps (ZnF.of hb) HC1.out)
    refine hK _ _ ⟨HC1.out,?_⟩
    clear hK Kv
    have HB1:=Zh (Zaf HB1.out hb)
    have HRA:=Zh (HRA.out.old hb)
    clear hb
    rw [←hB] at HRB ⊢
    clear hB
    change RowKit.Hid (Zar (w1.alloc (.cells #[.int .i64 9,.int .i64 14,.int .i64 15,.int .i64 16,.int .i64 17,.int .i64 18,.int .i64 19,.int .i64 20,.int .i64 21,.int .i64 23,.int .i64 24,.int .i64 26,.int .i64 28] 3)) _ _ _) at HRB
    generalize w1.alloc (.cells #[.int .i64 9,.int .i64 14,.int .i64 15,.int .i64 16,.int .i64 17,.int .i64 18,.int .i64 19,.int .i64 20,.int .i64 21,.int .i64 23,.int .i64 24,.int .i64 26,.int .i64 28] 3)=w1 at *
    exact kC5
  ·refine Zd2 _ (by rfl) (by rfl) fun Kv hK=>?_
   go_simp
   have hb:=(show Below w1.heap.size w1 (w1.alloc (.cells #[.int .i64 9,.int .i64 14,.int .i64 15,.int .i64 16,.int .i64 17,.int .i64 18,.int .i64 19,.int .i64 20,.int .i64 21,.int .i64 23,.int .i64 24,.int .i64 26,.int .i64 28] 3)) by exact bE)
   have HRB:=Zh (Zqw (w:=w1) (l:=[9,14,15,16,17,18,19,20,21,23,24,26,28]) (n:=13) rfl)
   obtain ⟨B,hB⟩:∃ a,a=w1.heap.size:=⟨_,rfl⟩
   have HC1:=Zh (Cs.keeps (ZnF.of hb) HC1.out)
   refine hK _ _ ⟨HC1.out,?_⟩
   clear hK Kv
   have HB1:=Zh (Zaf HB1.out hb)
   have HRA:=Zh (HRA.out.old hb)
   clear hb
   rw [←hB] at HRB ⊢
   clear hB
   change RowKit.Hid (Zar (w1.alloc (.cells #[.int .i64 9,.int .i64 14,.int .i64 15,.int .i64 16,.int .i64 17,.int .i64 18,.int .i64 19,.int .i64 20,.int .i64 21,.int .i64 23,.int .i64 24,.int .i64 26,.int .i64 28] 3)) _ _ _) at HRB
   generalize w1.alloc (.cells #[.int .i64 9,.int .i64 14,.int .i64 15,.int .i64 16,.int .i64 17,.int .i64 18,.int .i64 19,.int .i64 20,.int .i64 21,.int .i64 23,.int .i64 24,.int .i64 26,.int .i64 28] 3)=w1 at *
   repeat refine pO ?_
   refine oO fun Kv hK=>?_
   go_simp
   refine (HSm.out _ [14,15,16] (some ⟨A,0,none⟩) 3 3 HB1.out HRA.out rfl (by decide)).mono ?_
   rintro e w2 ⟨⟨b0,rfl,h0⟩,hb⟩
   have HP0:=Zh h0
   have HC1:=Zh (Cs.keeps (ZnF.of hb) HC1.out)
   have HB1:=Zh (Zaf HB1.out hb)
   have HRA:=Zh (HRA.out.old hb)
   have HRB:=Zh (HRB.out.old hb)
   refine hK _ _ ⟨HC1.out,?_⟩
   clear hK Kv hb h0
   rename World=>w1
   exact kC5
 ·refine Zd2 _ (by rfl) (by rfl) fun Kv hK=>?_
  go_simp
  have hb:=(show Below w1.heap.size w1 (w1.alloc (.cells #[.int .i64 9,.int .i64 14,.int .i64 15,.int .i64 16,.int .i64 17,.int .i64 18,.int .i64 19,.int .i64 20,.int .i64 21,.int .i64 23,.int .i64 24,.int .i64 26,.int .i64 28] 3)) by exact bE)
  have HRB:=Zh (Zqw (w:=w1) (l:=[9,14,15,16,17,18,19,20,21,23,24,26,28]) (n:=13) rfl)
  obtain ⟨B,hB⟩:∃ a,a=w1.heap.size:=⟨_,rfl⟩
  have HC1:=Zh (Cs.keeps (ZnF.of hb) HC1.out)
  refine hK _ _ ⟨HC1.out,?_⟩
  clear hK Kv
  have HB1:=Zh (Zaf HB1.out hb)
  clear hb
  rw [←hB] at HRB ⊢
  clear hB
  change RowKit.Hid (Zar (w1.alloc (.cells #[.int .i64 9,.int .i64 14,.int .i64 15,.int .i64 16,.int .i64 17,.int .i64 18,.int .i64 19,.int .i64 20,.int .i64 21,.int .i64 23,.int .i64 24,.int .i64 26,.int .i64 28] 3)) _ _ _) at HRB
  generalize w1.alloc (.cells #[.int .i64 9,.int .i64 14,.int .i64 15,.int .i64 16,.int .i64 17,.int .i64 18,.int .i64 19,.int .i64 20,.int .i64 21,.int .i64 23,.int .i64 24,.int .i64 26,.int .i64 28] 3)=w1 at *
  repeat refine pO ?_
  refine oO fun Kv hK=>?_
  go_simp
  have hb:=(show Below w1.heap.size w1 (w1.alloc (.cells #[.int .i64 14,.int .i64 15,.int .i64 16] 3)) by exact bE)
  have HRA:=Zh (Zqw (w:=w1) (l:=[14,15,16]) (n:=3) rfl)
  obtain ⟨A,hA⟩:∃ a,a=w1.heap.size:=⟨_,rfl⟩
  have HC1:=Zh (Cs.keeps (ZnF.of hb) HC1.out)
  refine hK _ _ ⟨HC1.out,?_⟩
  clear hK Kv
  have HB1:=Zh (Zaf HB1.out hb)
  have HRB:=Zh (HRB.out.old hb)
  clear hb
  rw [←hA] at HRA ⊢
  clear hA
  change RowKit.Hid (Zar (w1.alloc (.cells #[.int .i64 14,.int .i64 15,.int .i64 16] 3)) _ _ _) at HRA
  generalize w1.alloc (.cells #[.int .i64 14,.int .i64 15,.int .i64 16] 3)=w1 at *
  repeat refine pO ?_
  refine oO fun Kv hK=>?_
  go_simp
  refine (HSm.out _ [14,15,16] (some ⟨A,0,none⟩) 3 3 HB1.out HRA.out rfl (by decide)).mono ?_
  rintro e w2 ⟨⟨b0,rfl,h0⟩,hb⟩
  have HP0:=Zh h0
  have HC1:=Zh (Cs.keeps (ZnF.of hb) HC1.out)
  have HB1:=Zh (Zaf HB1.out hb)
  have HRB:=Zh (HRB.out.old hb)
  have HRA:=Zh (HRA.out.old hb)
  refine hK _ _ ⟨HC1.out,?_⟩
  clear hK Kv hb h0
  rename World=>w1
  repeat refine pO ?_
  refine oO fun Kv hK=>?_
  go_simp
  refine (HD.out _ 31 HB1.out).mono ?_
  rintro e w2 ⟨⟨b1,rfl,h1⟩,hb⟩
  have HP1:=Zh h1
  have HC1:=Zh (Cs.keeps (ZnF.of hb) HC1.out)
  have HB1:=Zh (Zaf HB1.out hb)
  have HRB:=Zh (HRB.out.old hb)
  have HRA:=Zh (HRA.out.old hb)
  refine hK _ _ ⟨HC1.out,?_⟩
  clear hK Kv hb h1
  rename World=>w1
  repeat refine pO ?_
  refine oO fun Kv hK=>?_
  go_simp
  refine (HD.out _ 30 HB1.out).mono ?_
  rintro e w2 ⟨⟨b2,rfl,h2⟩,hb⟩
  have HP2:=Zh h2
  have HC1:=Zh (Cs.keeps (ZnF.of hb) HC1.out)
  have HB1:=Zh (Zaf HB1.out hb)
  have HRB:=Zh (HRB.out.old hb)
  have HRA:=Zh (HRA.out.old hb)
  refine hK _ _ ⟨HC1.out,?_⟩
  clear hK Kv hb h2
  rename World=>w1
  repeat refine pO ?_
  refine oO fun Kv hK=>?_
  go_simp
  refine (HSm.out _ [9,14,15,16,17,18,19,20,21,23,24,26,28] (some ⟨B,0,none⟩) 13 13 HB1.out HRB.out rfl (by decide)).mono ?_
  rintro e w2 ⟨⟨b3,rfl,h3⟩,hb⟩
  have HP3:=Zh h3
  have HC1:=Zh (Cs.keeps (ZnF.of hb) HC1.out)
  have HB1:=Zh (Zaf HB1.out hb)
  have HRB:=Zh (HRB.out.old hb)
  have HRA:=Zh (HRA.out.old hb)
  exact kC0
end
section
open Go.RowKit
attribute [local go_sem] World.cell?_alloc_some
def wfP (m:Md) (k:Nat):Prop:=¬ Zqu m k [14,15,16]∧¬ Zp5 m k 31∧¬ Zp5 m k 30∧¬ Zp5 m k 32
def Zqy (W:World) (P:Prop):Ending→World→Prop:=fun e w'=>(∃ b,e=.returned (.tuple #[.bool b,.int .i64 0])∧(b=true↔P))∧Below W.heap.size W w'
theorem Zqz (m:Md) (h:Hd) (k:Nat) (w:World) (H:Zay w h m) (hv:Za1 m=true) (hk:k<m.me.length):Calls Tryz.prog 15 #[.agg #[.slice h.co m.cl.length h.cc,.slice h.so m.st.length h.sc,.slice h.eo m.me.length h.ec,.int .i64 m.sel],.int .i64 k] w (Zqy w (wfP m k)):=by
 obtain ⟨w0,hw0⟩:∃ w0,w0=w.alloc (.cells #[.slice h.co m.cl.length h.cc,.slice h.so m.st.length h.sc,.slice h.eo m.me.length h.ec,.int .i64 m.sel] 26):=⟨_,rfl⟩
 have HB:=Zh (show Below w.heap.size w w0 by rw [hw0];exact bE)
 have HX:=Zh (show Blk w0 w.heap.size #[.slice h.co m.cl.length h.cc,.slice h.so m.st.length h.sc,.slice h.eo m.me.length h.ec,.int .i64 m.sel] 26 by rw [hw0];exact Blk.new _ _ _)
 have HM:=Zh (H.old HB.out)
 have HW:=Zh hw0
 have HE:=Zh (Zqx m h k w0 HM.out hv hk)
 have HD:=Zh (show ∀ w',Below w0.heap.size w0 w'→_ from fun w' hb=>Zp6 m h k 32 w' (HM.out.old hb) hv hk)
 clear hw0 H hv
 go_enter Tryz.func15,Tryz.ntmps15
 go_upto_region 1 with fail
 rw [←HW.out]
 have x0:=HX.out.cell 0 (v:=.slice h.co m.cl.length h.cc) rfl;have x1:=HX.out.cell 1 (v:=.slice h.so m.st.length h.sc) rfl;have x2:=HX.out.cell 2 (v:=.slice h.eo m.me.length h.ec) rfl;have x3:=HX.out.cell 3 (v:=.int .i64 m.sel) rfl
 go_upto_region 2 with (go_at_call 13;refine HE.out.mono ?_;rintro e w1 ⟨⟨b0,b1,b2,b3,b4,rfl,h0,h1,h2,-,-⟩,hb1⟩;have HP:=Zh (And.intro h0 (And.intro h1 h2));have HB1:=Zh hb1;have x0:=(hb1.cell (Zac x0)).trans x0;have x1:=(hb1.cell (Zac x1)).trans x1;have x2:=(hb1.cell (Zac x2)).trans x2;have x3:=(hb1.cell (Zac x3)).trans x3;clear hb1 h0 h1 h2)
 rcases b0 with _|_
 all_goals rcases b1 with _|_
 all_goals rcases b2 with _|_
 all_goals
   go_wp2_with (go_at_call 62;refine (HD.out _ (Zaf HB1.out bE)).mono ?_;rintro e w2 ⟨⟨b,rfl,hd⟩,hb2⟩;have HDd:=Zh hd;have HB2:=Zh (Zaf (bal HB1.out _) hb2);clear hd hb2)
 all_goals
   go_ret2
   have hp:=HP.out
   first
     | (have hd:=HDd.out
        exact ⟨⟨_,rfl,by unfold wfP;cases b<;>simp_all⟩,Zaf HB.out HB2.out⟩)
     | exact ⟨⟨_,rfl,by unfold wfP;simp_all⟩,Zaf HB.out (bal HB1.out _)⟩
end
end Go.Proofs.YtcfjblcgceednaaGreat
