/- VerifyEffects returns true: the walk. -/
import Derived.Test.YtcfjblcgceednaaGreatE36
set_option linter.all false
set_option linter.unusedVariables false
set_option linter.unusedSimpArgs false
set_option maxRecDepth 100000
set_option maxHeartbeats 16000000
namespace Go.Proofs.YtcfjblcgceednaaGreat
section
open Go.RowKit
attribute [local go_sem] World.cell?_alloc_some
noncomputable def bP (P:Prop):Bool:=@decide P (Classical.propDecidable P)
theorem ZqX (P:Prop):bP P=true↔P:=by unfold bP;exact @decide_eq_true_iff P (Classical.propDecidable P)
theorem ZqY {b:Bool}{P:Prop} (h:b=true↔P):b=bP P:=by
 have:=ZqX P
 cases b<;>cases hq:bP P<;>simp_all
noncomputable def efV (m:Md) (k:Nat):Value:=.agg #[.bool (bP (Zqu m k [14,15,16])),.bool (bP (Zp5 m k 31)),.bool (bP (Zp5 m k 30)),.bool (bP (Zqu m k [9,14,15,16,17,18,19,20,21,23,24,26,28])),.bool (bP (Zp5 m k 27))]
theorem ZqI.no {w:World}{m:Md}{k:Int} (hp:inP m k=false) {e:Ending}{w':World} (h:ZqI w m k e w'):Ret w ZqH e w':=by
 rcases h with ⟨q,-⟩|⟨-,q⟩
 ·rw [hp] at q;cases q
 ·exact q
theorem EpR.no {P:Md→Nat→Prop}{w:World}{m:Md}{k:Int} (hp:inP m k=false) {e:Ending}{w':World} (h:EpR P w m k e w'):Ret w (.tuple #[.bool false,.int .i64 1]) e w':=by
 rcases h with ⟨q,-⟩|⟨-,q⟩
 ·rw [hp] at q;cases q
 ·exact q
theorem ZqI.yes {w:World}{m:Md}{k:Nat} (hp:inP m k=true) {e:Ending}{w':World} (h:ZqI w m k e w'):Ret w (.tuple #[efV m k,.int .i64 0]) e w':=by
 rcases h with ⟨-,⟨b0,b1,b2,b3,b4,rfl,h0,h1,h2,h3,h4⟩,hb⟩|⟨q,-⟩
 ·rw [Int.toNat_natCast] at h0 h1 h2 h3 h4
  refine ⟨?_,hb⟩
  unfold efV
  rw [←ZqY h0,←ZqY h1,←ZqY h2,←ZqY h3,←ZqY h4]
 ·rw [hp] at q;cases q
theorem EpR.yes {P:Md→Nat→Prop}{w:World}{m:Md}{k:Nat} (hp:inP m k=true) {e:Ending}{w':World} (h:EpR P w m k e w'):Ret w (.tuple #[.bool (bP (P m k)),.int .i64 0]) e w':=by
 rcases h with ⟨-,⟨b,rfl,h0⟩,hb⟩|⟨q,-⟩
 ·rw [Int.toNat_natCast] at h0
  exact ⟨by rw [←ZqY h0],hb⟩
 ·rw [hp] at q;cases q
section
variable {m:Md}{k c:Nat}(hc:(c:Int)∈ZpS m k)
include m k c hc
theorem ZqZ {o:Int} (h:Zp5 m c o):Zp5 m k o:=by
 obtain ⟨j,hj,hi⟩:=h
 exact ⟨j,hj.head hc,hi⟩
theorem Zq0 {l:List Int} (h:Zqu m c l):Zqu m k l:=by
 obtain ⟨o,ho,h⟩:=h
 exact ⟨o,ho,ZqZ hc h⟩
theorem Zq1 (h:bP (wfP m k)=true):bP (wfP m c)=true:=by
 rw [ZqX] at h ⊢
 exact ⟨fun q=>h.1 (Zq0 hc q),fun q=>h.2.1 (ZqZ hc q),fun q=>h.2.2.1 (ZqZ hc q),fun q=>h.2.2.2 (ZqZ hc q)⟩
theorem Zq2 (h:bP (puP m k)=true):bP (puP m c)=true:=by
 rw [ZqX] at h ⊢
 exact ⟨fun q=>h.1 (Zq0 hc q),fun q=>h.2.1 (ZqZ hc q),fun q=>h.2.2 (Zq0 hc q)⟩
end
theorem Zq3 (w:World) (a b c d e:Bool):Sem.run Tryz.prog (binOp .neq 28 (.agg #[.bool a,.bool b,.bool c,.bool d,.bool e]) (.agg #[.bool a,.bool b,.bool c,.bool d,.bool e])) w=.ok (.bool false) w:=by
 have h:Sem.run Tryz.prog (Op.equalIn 10000 28 (.agg #[.bool a,.bool b,.bool c,.bool d,.bool e]) (.agg #[.bool a,.bool b,.bool c,.bool d,.bool e])) w=.ok true w:=by cases a<;>cases b<;>cases c<;>cases d<;>cases e<;>kernel_rfl
 rw [run_neq_struct,h];rfl
theorem Zq4 (w:World) (op:BinOp) (x y:Operand) (xs ys:Array Value):Sem.run Tryz.prog (eqGuard op 28 x y (.agg xs) (.agg ys)) w=.ok () w:=run_eqGuard_agg w op 28 x y xs ys (by kernel_rfl)
theorem Zq5 (W:World) (h:Hd) (m:Md) (H:Zay W h m) (k:Int):Calls Tryz.prog 3 #[.agg #[.slice h.co m.cl.length h.cc,.slice h.so m.st.length h.sc,.slice h.eo m.me.length h.ec,.int .i64 m.sel],.int .i64 k] W (Ret W (.bool true)):=by
 obtain ⟨W0,hW0⟩:∃ W0,W0=W.alloc (.cells #[.slice h.co m.cl.length h.cc,.slice h.so m.st.length h.sc,.slice h.eo m.me.length h.ec,.int .i64 m.sel] 26):=⟨_,rfl⟩
 have hb0:Below W.heap.size W W0:=by rw [hW0];exact bE
 have x0:Blk W0 W.heap.size #[.slice h.co m.cl.length h.cc,.slice h.so m.st.length h.sc,.slice h.eo m.me.length h.ec,.int .i64 m.sel] 26:=by rw [hW0];exact Blk.new W _ _
 have HX:=Zh (show ∀ w',Below W0.heap.size W0 w'→_ from fun w' hb=>Zj5 (x0.old hb))
 have HM:=Zh (H.old hb0)
 have HW:=Zh hW0
 have HB0:=Zh hb0
 have hneq:=Zq3
 have hgu:=Zq4
 rcases hp:inP m k with _|_
 ·have H1:=Zh (fun w' (hb:Below W0.heap.size W0 w')=>(ZqK m h k w' (HM.out.old hb)).mono fun e w'' q=>ZqI.no hp q)
  have H2:=Zh (fun w' (hb:Below W0.heap.size W0 w')=>(ZqP m h k w' (HM.out.old hb)).mono fun e w'' q=>ZqI.no hp q)
  have H3:=Zh (fun w' (hb:Below W0.heap.size W0 w')=>(ZqL m h k w' (HM.out.old hb)).mono fun e w'' q=>EpR.no hp q)
  have H4:=Zh (fun w' (hb:Below W0.heap.size W0 w')=>(ZqS m h k w' (HM.out.old hb)).mono fun e w'' q=>EpR.no hp q)
  have H5:=Zh (fun w' (hb:Below W0.heap.size W0 w')=>(ZqM m h k w' (HM.out.old hb)).mono fun e w'' q=>EpR.no hp q)
  have H6:=Zh (fun w' (hb:Below W0.heap.size W0 w')=>(ZqW m h k w' (HM.out.old hb)).mono fun e w'' q=>EpR.no hp q)
  have H7:=Zh (fun w' (hb:Below W0.heap.size W0 w')=>ZqT m h k w' (HM.out.old hb) hp)
  unfold ZqH at H1 H2
  clear hp x0 hW0 hb0 H
  go_enter Tryz.func3,Tryz.ntmps3
  go_upto_region 1 with fail
  rw [←HW.out]
  obtain ⟨c0,c1,c2,c3⟩:=HX.out _ (Below.refl _ _)
  go_upto_region 7 with (first
   | (go_at_call 17;refine (H6.out _ HB5.out).mono ?_;rintro r w6 ⟨rfl,hb6⟩;have HB6:=Zh (Zaf HB5.out hb6);have HE1:=Zh (HE1.out.old hb6);have HE2:=Zh (HE2.out.old hb6);clear hb6 c0 c1 c2 c3;obtain ⟨c0,c1,c2,c3⟩:=HX.out _ HB6.out)
   | (go_at_call 16;refine (H5.out _ HB4.out).mono ?_;rintro r w5 ⟨rfl,hb5⟩;have HB5:=Zh (Zaf HB4.out hb5);have HE1:=Zh (HE1.out.old hb5);have HE2:=Zh (HE2.out.old hb5);clear hb5 c0 c1 c2 c3;obtain ⟨c0,c1,c2,c3⟩:=HX.out _ HB5.out)
   | (go_at_call 15;refine (H4.out _ HB3.out).mono ?_;rintro r w4 ⟨rfl,hb4⟩;have HB4:=Zh (Zaf HB3.out hb4);have HE1:=Zh (HE1.out.old hb4);have HE2:=Zh (HE2.out.old hb4);clear hb4 c0 c1 c2 c3;obtain ⟨c0,c1,c2,c3⟩:=HX.out _ HB4.out)
   | (go_at_call 14;refine (H3.out _ (bal HB2.out _)).mono ?_;rintro r w3 ⟨rfl,hb3⟩;have HB3:=Zh (Zaf (bal HB2.out _) hb3);have HE1:=Zh ((HE1.out.alloc _).old hb3);have HE2:=Zh ((Blk.new w2 _ 28).old hb3);clear hb3 c0 c1 c2 c3;obtain ⟨c0,c1,c2,c3⟩:=HX.out _ HB3.out)
   | (go_at_call 13;refine (H2.out _ (bal HB1.out _)).mono ?_;rintro r w2 ⟨rfl,hb2⟩;have HB2:=Zh (Zaf (bal HB1.out _) hb2);have HE1:=Zh ((Blk.new w1 _ 28).old hb2);clear hb2 c0 c1 c2 c3;obtain ⟨c0,c1,c2,c3⟩:=HX.out _ (bal HB2.out (.cells #[.bool false,.bool false,.bool false,.bool false,.bool false] 28)))
   | (go_at_call 12;refine (H1.out _ (Below.refl _ _)).mono ?_;rintro r w1 ⟨rfl,hb1⟩;have HB1:=Zh hb1;clear hb1 c0 c1 c2 c3;obtain ⟨c0,c1,c2,c3⟩:=HX.out _ (bal HB1.out (.cells #[.bool false,.bool false,.bool false,.bool false,.bool false] 28))))
  have e0:=HE1.out.cell 0 (v:=.bool false) rfl;have e1:=HE1.out.cell 1 (v:=.bool false) rfl;have e2:=HE1.out.cell 2 (v:=.bool false) rfl;have e3:=HE1.out.cell 3 (v:=.bool false) rfl;have e4:=HE1.out.cell 4 (v:=.bool false) rfl
  have f0:=HE2.out.cell 0 (v:=.bool false) rfl;have f1:=HE2.out.cell 1 (v:=.bool false) rfl;have f2:=HE2.out.cell 2 (v:=.bool false) rfl;have f3:=HE2.out.cell 3 (v:=.bool false) rfl;have f4:=HE2.out.cell 4 (v:=.bool false) rfl
  go_upto_region 11 with (go_at_call 18;refine (H7.out _ HB6.out).mono ?_;rintro r w7 ⟨rfl,hb7⟩;have HB7:=Zh (Zaf HB6.out hb7);clear hb7 c0 c1 c2 c3 e0 e1 e2 e3 e4 f0 f1 f2 f3 f4)
  go_loopw [19] (fun i wr=>i=.int .i64 0∧wr=w7) (fun _ _=>0)
  case atStart=>exact ⟨rfl,rfl⟩
  case round=>
   obtain ⟨rfl,rfl⟩:=hrel
   go_wp2_with (go_at_call 19;refine (Zl2 _).mono ?_;rintro r w8 ⟨rfl,hb8⟩)
   go_ret
   exact ZcT rfl (Zaf HB0.out (Zaf HB7.out hb8))
 ·obtain ⟨hv,n,rfl,hn⟩:=ZqJ hp
  have H1:=Zh (fun w' (hb:Below W0.heap.size W0 w')=>(ZqK m h n w' (HM.out.old hb)).mono fun e w'' q=>ZqI.yes hp q)
  have H2:=Zh (fun w' (hb:Below W0.heap.size W0 w')=>(ZqP m h n w' (HM.out.old hb)).mono fun e w'' q=>ZqI.yes hp q)
  have H3:=Zh (fun w' (hb:Below W0.heap.size W0 w')=>(ZqL m h n w' (HM.out.old hb)).mono fun e w'' q=>EpR.yes hp q)
  have H4:=Zh (fun w' (hb:Below W0.heap.size W0 w')=>(ZqS m h n w' (HM.out.old hb)).mono fun e w'' q=>EpR.yes hp q)
  have H5:=Zh (fun w' (hb:Below W0.heap.size W0 w')=>(ZqM m h n w' (HM.out.old hb)).mono fun e w'' q=>EpR.yes hp q)
  have H6:=Zh (fun w' (hb:Below W0.heap.size W0 w')=>(ZqW m h n w' (HM.out.old hb)).mono fun e w'' q=>EpR.yes hp q)
  have H7:=Zh (fun w' (hb:Below W0.heap.size W0 w')=>ZpY m h n w' (HM.out.old hb) hv hn)
  have H8:=Zh (show ∀ q,q<(ZpS m n).length→∃ c:Nat,(ZpS m n).getD q 0=c∧(bP (wfP m n)=true→bP (wfP m c)=true)∧(bP (puP m n)=true→bP (puP m c)=true)∧(∀ w',Below W0.heap.size W0 w'→Calls Tryz.prog 14 #[.agg #[.slice h.co m.cl.length h.cc,.slice h.so m.st.length h.sc,.slice h.eo m.me.length h.ec,.int .i64 m.sel],.int .i64 c] w' (Ret w' (.tuple #[.bool (bP (wfP m c)),.int .i64 0])))∧∀ w',Below W0.heap.size W0 w'→Calls Tryz.prog 16 #[.agg #[.slice h.co m.cl.length h.cc,.slice h.so m.st.length h.sc,.slice h.eo m.me.length h.ec,.int .i64 m.sel],.int .i64 c] w' (Ret w' (.tuple #[.bool (bP (puP m c)),.int .i64 0])) from fun q hq=>by
   have hm:=ZfU (0:Int) hq
   obtain ⟨h0,h1⟩:=ZpZ hv hn hm
   obtain ⟨c,hc⟩:∃ c:Nat,(ZpS m n).getD q 0=c:=⟨((ZpS m n).getD q 0).toNat,by omega⟩
   rw [hc] at hm h1
   have hpc:inP m c=true:=by unfold inP inV;rw [hv];simp;omega
   exact ⟨c,hc,Zq1 hm,Zq2 hm,fun w' hb=>(ZqL m h c w' (HM.out.old hb)).mono fun e w'' q=>EpR.yes hpc q,fun w' hb=>(ZqM m h c w' (HM.out.old hb)).mono fun e w'' q=>EpR.yes hpc q⟩)
  have hcl:=Zp0 hv hn
  unfold efV at H1 H2
  generalize bP (wfP m n)=bw at H3 H4 H8
  generalize bP (puP m n)=bp at H5 H6 H8
  generalize bP (Zqu m n [14,15,16])=b0 at H1 H2
  generalize bP (Zp5 m n 31)=b1 at H1 H2
  generalize bP (Zp5 m n 30)=b2 at H1 H2
  generalize bP (Zqu m n [9,14,15,16,17,18,19,20,21,23,24,26,28])=b3 at H1 H2
  generalize bP (Zp5 m n 27)=b4 at H1 H2
  generalize ZpS m n=cs at H7 H8 hcl
  clear hp x0 hW0 hb0 H hv
  go_enter Tryz.func3,Tryz.ntmps3
  go_upto_region 1 with fail
  rw [←HW.out]
  obtain ⟨c0,c1,c2,c3⟩:=HX.out _ (Below.refl _ _)
  go_upto_region 7 with (first
   | (go_at_call 17;refine (H6.out _ HB5.out).mono ?_;rintro r w6 ⟨rfl,hb6⟩;have HB6:=Zh (Zaf HB5.out hb6);have HE1:=Zh (HE1.out.old hb6);have HE2:=Zh (HE2.out.old hb6);clear hb6 c0 c1 c2 c3;obtain ⟨c0,c1,c2,c3⟩:=HX.out _ HB6.out)
   | (go_at_call 16;refine (H5.out _ HB4.out).mono ?_;rintro r w5 ⟨rfl,hb5⟩;have HB5:=Zh (Zaf HB4.out hb5);have HE1:=Zh (HE1.out.old hb5);have HE2:=Zh (HE2.out.old hb5);clear hb5 c0 c1 c2 c3;obtain ⟨c0,c1,c2,c3⟩:=HX.out _ HB5.out)
   | (go_at_call 15;refine (H4.out _ HB3.out).mono ?_;rintro r w4 ⟨rfl,hb4⟩;have HB4:=Zh (Zaf HB3.out hb4);have HE1:=Zh (HE1.out.old hb4);have HE2:=Zh (HE2.out.old hb4);clear hb4 c0 c1 c2 c3;obtain ⟨c0,c1,c2,c3⟩:=HX.out _ HB4.out)
   | (go_at_call 14;refine (H3.out _ (bal HB2.out _)).mono ?_;rintro r w3 ⟨rfl,hb3⟩;have HB3:=Zh (Zaf (bal HB2.out _) hb3);have HE1:=Zh ((HE1.out.alloc _).old hb3);have HE2:=Zh ((Blk.new w2 _ 28).old hb3);clear hb3 c0 c1 c2 c3;obtain ⟨c0,c1,c2,c3⟩:=HX.out _ HB3.out)
   | (go_at_call 13;refine (H2.out _ (bal HB1.out _)).mono ?_;rintro r w2 ⟨rfl,hb2⟩;have HB2:=Zh (Zaf (bal HB1.out _) hb2);have HE1:=Zh ((Blk.new w1 _ 28).old hb2);clear hb2 c0 c1 c2 c3;obtain ⟨c0,c1,c2,c3⟩:=HX.out _ (bal HB2.out (.cells #[.bool b0,.bool b1,.bool b2,.bool b3,.bool b4] 28)))
   | (go_at_call 12;refine (H1.out _ (Below.refl _ _)).mono ?_;rintro r w1 ⟨rfl,hb1⟩;have HB1:=Zh hb1;clear hb1 c0 c1 c2 c3;obtain ⟨c0,c1,c2,c3⟩:=HX.out _ (bal HB1.out (.cells #[.bool b0,.bool b1,.bool b2,.bool b3,.bool b4] 28))))
  have e0:=HE1.out.cell 0 (v:=.bool b0) rfl
  have e1:=HE1.out.cell 1 (v:=.bool b1) rfl
  have e2:=HE1.out.cell 2 (v:=.bool b2) rfl
  have e3:=HE1.out.cell 3 (v:=.bool b3) rfl
  have e4:=HE1.out.cell 4 (v:=.bool b4) rfl
  have f0:=HE2.out.cell 0 (v:=.bool b0) rfl
  have f1:=HE2.out.cell 1 (v:=.bool b1) rfl
  have f2:=HE2.out.cell 2 (v:=.bool b2) rfl
  have f3:=HE2.out.cell 3 (v:=.bool b3) rfl
  have f4:=HE2.out.cell 4 (v:=.bool b4) rfl
  have HMl:=Zh hcl
  go_upto_region 11 with (go_at_call 18;refine (H7.out _ HB6.out).mono ?_;rintro r w7 ⟨⟨ao,ac,rfl,hr7,-⟩,hb7⟩;have HR7:=Zh hr7;have HB7:=Zh (Zaf HB6.out hb7);clear hr7 hb7 c0 c1 c2 c3 e0 e1 e2 e3 e4 f0 f1 f2 f3 f4)
  clear hcl
  go_loopw [19] (fun i wr=>∃ q:Nat,q≤cs.length∧i=.int .i64 q∧Hid (Below w7.heap.size w7 wr)) (fun i _=>cs.length-(intOf i).toNat)
  case atStart=>exact ⟨0,Nat.zero_le _,rfl,Below.refl _ _⟩
  case round=>
   obtain ⟨q,hq,rfl,HBr⟩:=hrel
   rename World=>wo
   have hcl:=HMl.out
   by_cases hql:q<cs.length
   ·have hql2:(q:Int) < cs.length:=by omega
    have hwq:IntKind.i64.wrap ((q:Int)+1)=((q+1:Nat):Int):=IntWalk.i64_in _ (by omega)
    obtain ⟨ad,rfl,t0⟩:=ZaB (HR7.out.old HBr.out) hql
    obtain ⟨c,hc,hw1,hp1,hcw,hcp⟩:=H8.out q hql
    rw [hc] at t0
    have HCw:=Zh hcw
    have HCp:=Zh hcp
    generalize bP (wfP m c)=dw at HCw hw1
    generalize bP (puP m c)=dp at HCp hp1
    have HD:=Zh (And.intro hw1 hp1)
    have HBo:=Zh (Zaf HB7.out HBr.out)
    obtain ⟨c0,c1,c2,c3⟩:=HX.out _ HBo.out
    clear hc hcw hcp hcl hw1 hp1
    go_upto_region 13 with fail
    refine rO (Cs [(⟨W.heap.size,0,none⟩,.slice h.co m.cl.length h.cc),(⟨W.heap.size,1,none⟩,.slice h.so m.st.length h.sc),(⟨W.heap.size,2,none⟩,.slice h.eo m.me.length h.ec),(⟨W.heap.size,3,none⟩,.int .i64 m.sel),(ad.add q,.int .i64 c)]) (oL [0,1,2,3,4,105,6,7,8,9,10]) ⟨c0,c1,c2,c3,t0,trivial⟩ ?_
    repeat refine pO ?_
    refine oO fun Kv hK=>?_
    go_simp
    refine (HCw.out _ HBo.out.drew).mono ?_
    rintro e w8 ⟨rfl,hb8⟩
    have HC8:=Zh (Cs.keeps (ZnF.of hb8) (show Cs [(⟨W.heap.size,0,none⟩,.slice h.co m.cl.length h.cc),(⟨W.heap.size,1,none⟩,.slice h.so m.st.length h.sc),(⟨W.heap.size,2,none⟩,.slice h.eo m.me.length h.ec),(⟨W.heap.size,3,none⟩,.int .i64 m.sel),(ad.add q,.int .i64 c)] wo.drew from ⟨c0,c1,c2,c3,t0,trivial⟩))
    have HB8:=Zh (Zaf HBo.out.drew hb8)
    have HB8r:=Zh (Zaf HBr.out.drew hb8)
    refine hK _ _ ⟨HC8.out,?_⟩
    clear hK Kv hb8 c0 c1 c2 c3 t0
    repeat refine pO ?_
    refine Zd5 ?_
    obtain ⟨c0,c1,c2,c3,t0,-⟩:=HC8.out
    go_upto_region 14 with fail
    refine rO (Cs [(⟨W.heap.size,0,none⟩,.slice h.co m.cl.length h.cc),(⟨W.heap.size,1,none⟩,.slice h.so m.st.length h.sc),(⟨W.heap.size,2,none⟩,.slice h.eo m.me.length h.ec),(⟨W.heap.size,3,none⟩,.int .i64 m.sel),(ad.add q,.int .i64 c)]) (oL [0,1,2,3,4,105,6,7,8,9,10]) ⟨c0,c1,c2,c3,t0,trivial⟩ ?_
    repeat refine pO ?_
    refine oO fun Kv hK=>?_
    go_simp
    refine (HCp.out _ HB8.out.drew).mono ?_
    rintro e w9 ⟨rfl,hb9⟩
    have HB9r:=Zh (Zaf HB8r.out.drew hb9)
    refine hK _ _ ⟨Cs.keeps (ZnF.of hb9) (show Cs [(⟨W.heap.size,0,none⟩,.slice h.co m.cl.length h.cc),(⟨W.heap.size,1,none⟩,.slice h.so m.st.length h.sc),(⟨W.heap.size,2,none⟩,.slice h.eo m.me.length h.ec),(⟨W.heap.size,3,none⟩,.int .i64 m.sel),(ad.add q,.int .i64 c)] w8.drew from ⟨c0,c1,c2,c3,t0,trivial⟩),?_⟩
    clear hK Kv hb9 c0 c1 c2 c3 t0
    repeat refine pO ?_
    refine Zd5 ?_
    have hd:=HD.out
    rcases bw with _|_
    all_goals rcases bp with _|_
    all_goals first|obtain rfl:=hd.1 rfl|skip
    all_goals first|obtain rfl:=hd.2 rfl|skip
    all_goals
     clear hd
     go_wp2
     exact ⟨⟨q+1,hql,rfl,HB9r.out⟩,by simp [intOf];omega⟩
   ·have hql2:¬ (q:Int) < cs.length:=by omega
    go_wp2_with (go_at_call 19;refine (Zl2 _).mono ?_;rintro r w8 ⟨rfl,hb8⟩)
    go_ret
    exact ZcT rfl (Zaf HB0.out (Zaf HB7.out (Zaf HBr.out hb8)))
end
end Go.Proofs.YtcfjblcgceednaaGreat
