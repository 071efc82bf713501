/- How brackets match: the program's shapeOf. (printed by gen_shape.py) -/
import Derived.Test.YtcfjblcgceednaaGreatG1
set_option linter.all false
set_option linter.unusedVariables false
set_option linter.unusedSimpArgs false
set_option maxRecDepth 100000
set_option maxHeartbeats 100000000
namespace Go.Proofs.YtcfjblcgceednaaGreat
section
open Go.RowKit
theorem Zc9 (l:List In3) (ao:Option Addr) (cap:Nat) (w:World) (hl:Zar w ao cap l) (hlen:l.length≤120) :
    Calls Tryz.prog 300 #[.slice ao l.length cap] w (ZcJ l w):=by
  obtain ⟨B,hB⟩:∃ B,B=w.heap.size:=⟨_,rfl⟩
  have HL:=Zh hl
  clear hl
  go_enter Tryz.func300,Tryz.ntmps300
  go_upto_region 2 with fail
  have hb1:=(Below.refl w.heap.size w).alloc (Nat.le_refl _) (.cells #[.slice none 0 0,.slice none 0 0,.slice none 0 0,.slice none 0 0,.int .i64 0,.bool false] 245)
  have hR1:=Blk.new' (w:=w) #[.slice none 0 0,.slice none 0 0,.slice none 0 0,.slice none 0 0,.int .i64 0,.bool false] 245 hB
  have hs1:w.heap.size+1=(w.alloc (.cells #[.slice none 0 0,.slice none 0 0,.slice none 0 0,.slice none 0 0,.int .i64 0,.bool false] 245)).heap.size:=by simp
  rw [←hB] at hs1 ⊢
  generalize w.alloc (.cells #[.slice none 0 0,.slice none 0 0,.slice none 0 0,.slice none 0 0,.int .i64 0,.bool false] 245)=w1 at hb1 hR1 hs1 ⊢
  have HB1:=Zh hb1
  have HR1:=Zh hR1
  have HS1:=Zh hs1
  have HB:=Zh hB
  clear hb1 hR1 hs1 hB
  go_cut [4] from 12 to 20 (fun p wx=>∃ (D g0 g1 g2 g3:Nat),p=.pointer (some ⟨D,0,none⟩)∧Blk wx D #[.slice (some ⟨g0,0,none⟩) l.length l.length,.slice (some ⟨g1,0,none⟩) l.length l.length,.slice (some ⟨g2,0,none⟩) l.length l.length,.slice (some ⟨g3,0,none⟩) l.length l.length,.int .i64 0,.bool true] 245 ∧
    Blk wx g0 (List.replicate l.length (Value.int .i64 0)).toArray 3∧Blk wx g1 (List.replicate l.length (Value.int .i64 0)).toArray 3∧Blk wx g2 (List.replicate l.length (Value.int .i64 0)).toArray 3∧Blk wx g3 (List.replicate l.length (Value.int .i64 0)).toArray 3 ∧
    (D≠g0∧D≠g1∧D≠g2∧D≠g3∧g0≠g1∧g0≠g2∧g0≠g3∧g1≠g2∧g1≠g3∧g2≠g3)∧(w1.heap.size≤D∧w1.heap.size≤g0∧w1.heap.size≤g1∧w1.heap.size≤g2∧w1.heap.size≤g3)∧Below w1.heap.size w1 wx)
  case first=>
    have hmk:=run_make_row' (P:=Tryz.prog) 34 3 (.int .i64 0) 8 Tryz.underlying34 (by kernel_rfl) rfl .i64 .i64 l.length (by omega) (by omega)
    rw [Zcn] at hmk
    have hbw:=HB1.out
    go_region
    all_goals
      clear hmk
      go_wp2_with fail
      go_meet
      repeat apply Exists.intro
      refine ⟨rfl,?_,?_,?_,?_,?_,?_,?_,?_⟩
      · repeat (first|(refine Blk.new' _ _ ?_;simp;done)|refine Blk.drew ?_|refine Blk.alloc ?_ _)
      · rw [List.toArray_replicate];repeat (first|(refine Blk.new' _ _ ?_;simp;done)|refine Blk.drew ?_|refine Blk.alloc ?_ _)
      · rw [List.toArray_replicate];repeat (first|(refine Blk.new' _ _ ?_;simp;done)|refine Blk.drew ?_|refine Blk.alloc ?_ _)
      · rw [List.toArray_replicate];repeat (first|(refine Blk.new' _ _ ?_;simp;done)|refine Blk.drew ?_|refine Blk.alloc ?_ _)
      · rw [List.toArray_replicate];repeat (first|(refine Blk.new' _ _ ?_;simp;done)|refine Blk.drew ?_|refine Blk.alloc ?_ _)
      · refine ⟨?_,?_,?_,?_,?_,?_,?_,?_,?_,?_⟩<;>omega
      · refine ⟨?_,?_,?_,?_,?_⟩<;>omega
      · exact bE
  case rest=>
    obtain ⟨D,g0,g1,g2,g3,rfl,hD,h0,h1,h2,h3,hne,⟨gb4,gb0,gb1,gb2,gb3⟩,hbl⟩:=hcut
    have hN0:=hD.lt
    have hN1:=h0.lt
    have hN2:=h1.lt
    have hN3:=h2.lt
    have hN4:=h3.lt
    obtain ⟨N,hN⟩:∃ N,N=wc.heap.size:=⟨_,rfl⟩
    rw [←hN] at hN0 hN1 hN2 hN3 hN4
    have hbw:w1.heap.size≤N:=by rw [hN];exact hbl.size
    obtain ⟨ne0,ne1,ne2,ne3,ne4,ne5,ne6,ne7,ne8,ne9⟩:=hne
    have H0:=Zh (And.intro hD (And.intro h0 (And.intro h1 (And.intro h2 (And.intro h3 hbl)))))
    have HN:=Zh hN
    clear hD h0 h1 h2 h3 hbl hN
    go_wp2_with fail
    go_loopw [5,23] (fun op i wr=>∃ (k:Nat) (os:List Nat) (oo:Option Addr) (oc:Nat) (P E Q R:List Int) (dd:Nat),k≤l.length∧i=.int .i64 k∧op=.slice oo os.length oc ∧
      Blk wr D #[.slice (some ⟨g0,0,none⟩) l.length l.length,.slice (some ⟨g1,0,none⟩) l.length l.length,.slice (some ⟨g2,0,none⟩) l.length l.length,.slice (some ⟨g3,0,none⟩) l.length l.length,.int .i64 dd,.bool true] 245 ∧
      Blk wr g0 (P.map (Value.int .i64)).toArray 3∧Blk wr g1 (E.map (Value.int .i64)).toArray 3∧Blk wr g2 (Q.map (Value.int .i64)).toArray 3∧Blk wr g3 (R.map (Value.int .i64)).toArray 3 ∧
      (P.length=l.length∧E.length=l.length∧Q.length=l.length∧R.length=l.length)∧wr.ownsRow N 3 1 (.slice oo os.length oc) os.length (os.map fun (o:Nat)=>Value.int .i64 (o:Int))∧Below w1.heap.size w1 wr ∧
      Run l 0 k ([],0) (Zct l E os,dd)∧(os.Pairwise (· < ·)∧∀ o∈os,o<k)∧dd≤1000∧N≤wr.heap.size∧RowKit.Hid (Arr l k os.reverse (gx P) (gx E) (gx Q))) (fun _ i _=>l.length-(intOf i).toNat)
    case atStart=>
      refine ⟨0,[],none,0,List.replicate l.length 0,List.replicate l.length 0,List.replicate l.length 0,List.replicate l.length 0,0,by omega,rfl,rfl,H0.out.1,?_,?_,?_,?_,by simp,World.ownsRow_nil _ _ _ _,H0.out.2.2.2.2.2,Run.refl (Nat.zero_le _) _,by simp,by omega,by rw [HN.out];exact Nat.le_refl _,ZbS l _ _ _⟩
      · rw [List.map_replicate];exact H0.out.2.1
      · rw [List.map_replicate];exact H0.out.2.2.1
      · rw [List.map_replicate];exact H0.out.2.2.2.1
      · rw [List.map_replicate];exact H0.out.2.2.2.2.1
    case round=>
      clear H0
      obtain ⟨k,os,oo,oc,P,E,Q,R,dd,hk,rfl,rfl,hD,h0,h1,h2,h3,hlens,hown,hbl,hrun,hos,hdd,hNw,HArr⟩:=hrel
      obtain ⟨lP,lE,lQ,lR⟩:=hlens
      obtain ⟨m,hm⟩:∃ m,m=os.length:=⟨_,rfl⟩
      rw [←hm] at hown ⊢
      have HM:=Zh hm
      have HRun:=Zh hrun
      have HOs:=Zh hos
      have HLs:=Zh (And.intro lP (And.intro lE (And.intro lQ lR)))
      clear hrun hos hm
      by_cases hkl:k<l.length
      · obtain ⟨ad,rfl,e0,e1,e2⟩:=ZaA (HL.out.old (Zaf HB1.out hbl)) hkl
        obtain ⟨x,hx⟩:∃ x,x=l.getD k default:=⟨_,rfl⟩
        rw [←hx] at e0 e1 e2
        have HX:=Zh hx
        have hkl2:(k:Int) < l.length:=by omega
        have hkw:IntKind.i64.wrap ((k:Int)+1)=k+1:=IntWalk.i64_in _ (by omega)
        clear hx
        have HF:=Zh (And.intro hD (And.intro h0 (And.intro h1 (And.intro h2 (And.intro h3 (And.intro hown hbl))))))
        clear hD h0 h1 h2 h3 hown hbl
        go_upto_region 7 with fail
        have aX:=Blk.new wr #[.int .i64 x.op,.int .i64 x.a,.int .i64 x.b] 78
        have aD:=HF.out.1.alloc (.cells #[.int .i64 x.op,.int .i64 x.a,.int .i64 x.b] 78)
        have a0:=HF.out.2.1.alloc (.cells #[.int .i64 x.op,.int .i64 x.a,.int .i64 x.b] 78)
        have a1:=HF.out.2.2.1.alloc (.cells #[.int .i64 x.op,.int .i64 x.a,.int .i64 x.b] 78)
        have a2:=HF.out.2.2.2.1.alloc (.cells #[.int .i64 x.op,.int .i64 x.a,.int .i64 x.b] 78)
        have a3:=HF.out.2.2.2.2.1.alloc (.cells #[.int .i64 x.op,.int .i64 x.a,.int .i64 x.b] 78)
        have aU:=HF.out.2.2.2.2.2.1.alloc (.cells #[.int .i64 x.op,.int .i64 x.a,.int .i64 x.b] 78)
        have aB:=HF.out.2.2.2.2.2.2.alloc HF.out.2.2.2.2.2.2.size (.cells #[.int .i64 x.op,.int .i64 x.a,.int .i64 x.b] 78)
        obtain ⟨X,hX⟩:∃ X,X=wr.heap.size:=⟨_,rfl⟩
        have hNX:N≤X:=by omega
        rw [←hX] at aX ⊢
        generalize (wr.alloc (.cells #[.int .i64 x.op,.int .i64 x.a,.int .i64 x.b] 78))=w4 at aX aD a0 a1 a2 a3 aU aB ⊢
        clear HF hX e0 e1 e2 hNw
        have d0:w4.cell? ⟨D,0,none⟩=some (.slice (some ⟨g0,0,none⟩) l.length l.length):=aD.cell 0 rfl
        have d1:w4.cell? ⟨D,1,none⟩=some (.slice (some ⟨g1,0,none⟩) l.length l.length):=aD.cell 1 rfl
        have d2:w4.cell? ⟨D,2,none⟩=some (.slice (some ⟨g2,0,none⟩) l.length l.length):=aD.cell 2 rfl
        have d3:w4.cell? ⟨D,3,none⟩=some (.slice (some ⟨g3,0,none⟩) l.length l.length):=aD.cell 3 rfl
        have c0:=a0.cell k (v:=.int .i64 (P.getD k 0)) (by have:=HLs.out.1;simp [List.getD_eq_getElem?_getD,show k<P.length by omega])
        have c1:=a1.cell k (v:=.int .i64 (E.getD k 0)) (by have:=HLs.out.2.1;simp [List.getD_eq_getElem?_getD,show k<E.length by omega])
        have c2:=a2.cell k (v:=.int .i64 (Q.getD k 0)) (by have:=HLs.out.2.2.1;simp [List.getD_eq_getElem?_getD,show k<Q.length by omega])
        have c3:=a3.cell k (v:=.int .i64 (R.getD k 0)) (by have:=HLs.out.2.2.2;simp [List.getD_eq_getElem?_getD,show k<R.length by omega])
        have f0:=a0.frozen k
        have f1:=a1.frozen k
        have f2:=a2.frozen k
        have f3:=a3.frozen k
        have z0:=a0.lt
        have z1:=a1.lt
        have z2:=a2.lt
        have z3:=a3.lt
        have n01:¬ (g1=g0):=fun h=>ne4 h.symm
        have n02:¬ (g2=g0):=fun h=>ne5 h.symm
        have n03:¬ (g3=g0):=fun h=>ne6 h.symm
        have n12:¬ (g2=g1):=fun h=>ne7 h.symm
        have n13:¬ (g3=g1):=fun h=>ne8 h.symm
        have n23:¬ (g3=g2):=fun h=>ne9 h.symm
        have HCl:=Zh (show ∀ w,Blk w D #[.slice (some ⟨g0,0,none⟩) l.length l.length,.slice (some ⟨g1,0,none⟩) l.length l.length,.slice (some ⟨g2,0,none⟩) l.length l.length,.slice (some ⟨g3,0,none⟩) l.length l.length,.int .i64 dd,.bool true] 245→(w.cell? ⟨D,0,none⟩=some (.slice (some ⟨g0,0,none⟩) l.length l.length)∧w.cell? ⟨D,1,none⟩=some (.slice (some ⟨g1,0,none⟩) l.length l.length)∧w.cell? ⟨D,2,none⟩=some (.slice (some ⟨g2,0,none⟩) l.length l.length)∧w.cell? ⟨D,3,none⟩=some (.slice (some ⟨g3,0,none⟩) l.length l.length)) from fun w h=>⟨h.cell 0 rfl,h.cell 1 rfl,h.cell 2 rfl,h.cell 3 rfl⟩)
        refine Zci (fun w=>w.cell? ⟨D,0,none⟩=some (.slice (some ⟨g0,0,none⟩) l.length l.length)∧w.cell? ⟨D,1,none⟩=some (.slice (some ⟨g1,0,none⟩) l.length l.length)∧w.cell? ⟨D,2,none⟩=some (.slice (some ⟨g2,0,none⟩) l.length l.length)∧w.cell? ⟨D,3,none⟩=some (.slice (some ⟨g3,0,none⟩) l.length l.length)) [(false,0),(false,1),(false,2),(false,3),(false,4),(false,5),(false,6),(false,7),(false,8),(false,9),(false,10),(false,11),(false,12),(false,13),(false,14),(true,15),(false,16),(true,17),(false,18),(true,19),(false,20),(true,21)] (by kernel_rfl) (by kernel_rfl) (by intro c a d v w h;cases d<;>exact h) (HCl.out w4.drew aD.drew) ?_
        simp only [List.map_cons,List.map_nil,Zcg,List.getD_cons_zero,List.getD_cons_succ]
        repeat (refine Zcj ?_;(first|(apply Exists.intro;refine ⟨Or.inl ⟨by rfl,?_⟩,?_⟩;focus (intro w hSw;(try dsimp only at hSw);go_simp;(try with_reducible rfl);done))|(refine ⟨_,Or.inr ⟨by rfl,rfl⟩,?_⟩));(try simp only [Act.put,List.setIfInBounds_toArray,List.set_cons_zero,List.set_cons_succ]))
        refine Zck (by rfl) (by rfl) fun K hK=>?_
        go_simp
        have bD:=(aD.other (a:=⟨g0,k,none⟩) (ne0) (.int .i64 (-1))).drew
        have b0:=(a0.set (k) (.int .i64 (-1))).drew
        have b1:=(a1.other (a:=⟨g0,k,none⟩) (n01) (.int .i64 (-1))).drew
        have b2:=(a2.other (a:=⟨g0,k,none⟩) (n02) (.int .i64 (-1))).drew
        have b3:=(a3.other (a:=⟨g0,k,none⟩) (n03) (.int .i64 (-1))).drew
        have bX:=(aX.other (a:=⟨g0,k,none⟩) (by show X≠g0;omega) (.int .i64 (-1))).drew
        have bU:=Zco (ownsRow_setCell_below aU (a:=⟨g0,k,none⟩) (by show g0<N;omega) (.int .i64 (-1)))
        have bB:=(aB.setCell (p:=⟨g0,k,none⟩) (by show w1.heap.size≤g0;omega) (.int .i64 (-1))).drew
        generalize (w4.setCell ⟨g0,k,none⟩ (.int .i64 (-1))).drew=w5 at bD b0 b1 b2 b3 bX bU bB ⊢
        clear aD a0 a1 a2 a3 aX aU aB c0 f0 z0
        refine hK _ _ (HCl.out w5 bD) ?_
        clear hK K
        have c1:=b1.cell k (v:=.int .i64 (E.getD k 0)) (by have:=HLs.out.2.1;simp [List.getD_eq_getElem?_getD,show k<E.length by omega])
        have c2:=b2.cell k (v:=.int .i64 (Q.getD k 0)) (by have:=HLs.out.2.2.1;simp [List.getD_eq_getElem?_getD,show k<Q.length by omega])
        have c3:=b3.cell k (v:=.int .i64 (R.getD k 0)) (by have:=HLs.out.2.2.2;simp [List.getD_eq_getElem?_getD,show k<R.length by omega])
        have f1:=b1.frozen k
        have f2:=b2.frozen k
        have f3:=b3.frozen k
        have z1:=b1.lt
        have z2:=b2.lt
        have z3:=b3.lt
        repeat (refine Zcj ?_;(first|(apply Exists.intro;refine ⟨Or.inl ⟨by rfl,?_⟩,?_⟩;focus (intro w hSw;(try dsimp only at hSw);go_simp;(try with_reducible rfl);done))|(refine ⟨_,Or.inr ⟨by rfl,rfl⟩,?_⟩));(try simp only [Act.put,List.setIfInBounds_toArray,List.set_cons_zero,List.set_cons_succ]))
        refine Zck (by rfl) (by rfl) fun K hK=>?_
        go_simp
        have rD:=bD.other (a:=⟨g1,k,none⟩) (ne1) (.int .i64 (-1))
        have r0:=b0.other (a:=⟨g1,k,none⟩) (ne4) (.int .i64 (-1))
        have r1:=b1.set (k) (.int .i64 (-1))
        have r2:=b2.other (a:=⟨g1,k,none⟩) (n12) (.int .i64 (-1))
        have r3:=b3.other (a:=⟨g1,k,none⟩) (n13) (.int .i64 (-1))
        have rX:=bX.other (a:=⟨g1,k,none⟩) (by show X≠g1;omega) (.int .i64 (-1))
        have rU:=ownsRow_setCell_below bU (a:=⟨g1,k,none⟩) (by show g1<N;omega) (.int .i64 (-1))
        have rB:=bB.setCell (p:=⟨g1,k,none⟩) (by show w1.heap.size≤g1;omega) (.int .i64 (-1))
        generalize (w5.setCell ⟨g1,k,none⟩ (.int .i64 (-1)))=w6 at rD r0 r1 r2 r3 rX rU rB ⊢
        clear bD b0 b1 b2 b3 bX bU bB c1 f1 z1
        refine hK _ _ (HCl.out w6 rD) ?_
        clear hK K
        have c2:=r2.cell k (v:=.int .i64 (Q.getD k 0)) (by have:=HLs.out.2.2.1;simp [List.getD_eq_getElem?_getD,show k<Q.length by omega])
        have c3:=r3.cell k (v:=.int .i64 (R.getD k 0)) (by have:=HLs.out.2.2.2;simp [List.getD_eq_getElem?_getD,show k<R.length by omega])
        have f2:=r2.frozen k
        have f3:=r3.frozen k
        have z2:=r2.lt
        have z3:=r3.lt
        repeat (refine Zcj ?_;(first|(apply Exists.intro;refine ⟨Or.inl ⟨by rfl,?_⟩,?_⟩;focus (intro w hSw;(try dsimp only at hSw);go_simp;(try with_reducible rfl);done))|(refine ⟨_,Or.inr ⟨by rfl,rfl⟩,?_⟩));(try simp only [Act.put,List.setIfInBounds_toArray,List.set_cons_zero,List.set_cons_succ]))
        refine Zck (by rfl) (by rfl) fun K hK=>?_
        go_simp
        have mD:=rD.other (a:=⟨g2,k,none⟩) (ne2) (.int .i64 (-1))
        have m0:=r0.other (a:=⟨g2,k,none⟩) (ne5) (.int .i64 (-1))
        have m1:=r1.other (a:=⟨g2,k,none⟩) (ne7) (.int .i64 (-1))
        have m2:=r2.set (k) (.int .i64 (-1))
        have m3:=r3.other (a:=⟨g2,k,none⟩) (n23) (.int .i64 (-1))
        have mX:=rX.other (a:=⟨g2,k,none⟩) (by show X≠g2;omega) (.int .i64 (-1))
        have mU:=ownsRow_setCell_below rU (a:=⟨g2,k,none⟩) (by show g2<N;omega) (.int .i64 (-1))
        have mB:=rB.setCell (p:=⟨g2,k,none⟩) (by show w1.heap.size≤g2;omega) (.int .i64 (-1))
        generalize (w6.setCell ⟨g2,k,none⟩ (.int .i64 (-1)))=w7 at mD m0 m1 m2 m3 mX mU mB ⊢
        clear rD r0 r1 r2 r3 rX rU rB c2 f2 z2
        refine hK _ _ (HCl.out w7 mD) ?_
        clear hK K
        have c3:=m3.cell k (v:=.int .i64 (R.getD k 0)) (by have:=HLs.out.2.2.2;simp [List.getD_eq_getElem?_getD,show k<R.length by omega])
        have f3:=m3.frozen k
        have z3:=m3.lt
        repeat (refine Zcj ?_;(first|(apply Exists.intro;refine ⟨Or.inl ⟨by rfl,?_⟩,?_⟩;focus (intro w hSw;(try dsimp only at hSw);go_simp;(try with_reducible rfl);done))|(refine ⟨_,Or.inr ⟨by rfl,rfl⟩,?_⟩));(try simp only [Act.put,List.setIfInBounds_toArray,List.set_cons_zero,List.set_cons_succ]))
        refine Zck (by rfl) (by rfl) fun K hK=>?_
        go_simp
        have qD:=mD.other (a:=⟨g3,k,none⟩) (ne3) (.int .i64 m)
        have q0:=m0.other (a:=⟨g3,k,none⟩) (ne6) (.int .i64 m)
        have q1:=m1.other (a:=⟨g3,k,none⟩) (ne8) (.int .i64 m)
        have q2:=m2.other (a:=⟨g3,k,none⟩) (ne9) (.int .i64 m)
        have q3:=m3.set (k) (.int .i64 m)
        have qX:=mX.other (a:=⟨g3,k,none⟩) (by show X≠g3;omega) (.int .i64 m)
        have qU:=ownsRow_setCell_below mU (a:=⟨g3,k,none⟩) (by show g3<N;omega) (.int .i64 m)
        have qB:=mB.setCell (p:=⟨g3,k,none⟩) (by show w1.heap.size≤g3;omega) (.int .i64 m)
        generalize (w7.setCell ⟨g3,k,none⟩ (.int .i64 m))=w8 at qD q0 q1 q2 q3 qX qU qB ⊢
        clear mD m0 m1 m2 m3 mX mU mB c3 f3 z3
        refine hK _ _ (HCl.out w8 qD) ?_
        clear hK K
        refine Zcl ?_
        rw [List.setIfInBounds_toArray,←List.map_set] at q0
        rw [List.setIfInBounds_toArray,←List.map_set] at q1
        rw [List.setIfInBounds_toArray,←List.map_set] at q2
        rw [List.setIfInBounds_toArray,←List.map_set] at q3
        clear d0 d1 d2 d3 HCl
        have hE1:(E.set k (-1)).getD k 0=-1:=by rw [ZcE _ _ _ _ (by rw [HLs.out.2.1];exact hkl),if_pos rfl]
        have hE2:∀ o∈os,(E.set k (-1)).getD o 0=E.getD o 0:=fun o ho=>by rw [ZcE _ _ _ _ (by rw [HLs.out.2.1];exact hkl),if_neg (by have:=HOs.out.2 o ho;omega)]
        have HE1:=Zh hE1
        have HE2:=Zh hE2
        have hmk:m≤k:=by have h1:=(ZbC _ _ _ HRun.out.2.2).1;rw [Zcw,←HM.out] at h1;simp only [List.length_nil,List.length_take,List.length_drop] at h1;omega
        have hBD:¬ (B=D):=by have:=HS1.out;omega
        have hNq:N≤w8.heap.size:=by have:=qX.lt;omega
        clear hE1 hE2
        cases m with
        | zero=>
          have hos0:os=[]:=List.eq_nil_of_length_eq_zero HM.out.symm
          subst hos0
          by_cases h3:x.op=34∨x.op=35
          · have HOp:=Zh (Zbf h3)
            have HV:=Zh (Zby (HRun.out.dead (Zbk hkl (by rw [←HX.out];exact h3) dd)))
            have x0:w8.cell? ⟨X,0,none⟩=some (.int .i64 x.op):=qX.cell 0 rfl
            have xl:=qX.lt
            have d0:w8.cell? ⟨D,0,none⟩=some (.slice (some ⟨g0,0,none⟩) l.length l.length):=qD.cell 0 rfl
            have d1:w8.cell? ⟨D,1,none⟩=some (.slice (some ⟨g1,0,none⟩) l.length l.length):=qD.cell 1 rfl
            have d2:w8.cell? ⟨D,2,none⟩=some (.slice (some ⟨g2,0,none⟩) l.length l.length):=qD.cell 2 rfl
            have d3:w8.cell? ⟨D,3,none⟩=some (.slice (some ⟨g3,0,none⟩) l.length l.length):=qD.cell 3 rfl
            have d4:w8.cell? ⟨D,4,none⟩=some (.int .i64 dd):=qD.cell 4 rfl
            have d5:w8.cell? ⟨D,5,none⟩=some (.bool true):=qD.cell 5 rfl
            have fd5:=qD.frozen 5
            have dl:=qD.lt
            have hRB:=HR1.out.old qB
            have r0:=hRB.cell 0 rfl
            have r1:=hRB.cell 1 rfl
            have r2:=hRB.cell 2 rfl
            have r3:=hRB.cell 3 rfl
            have r4:=hRB.cell 4 rfl
            have r5:=hRB.cell 5 rfl
            have fr0:=hRB.frozen 0
            have fr1:=hRB.frozen 1
            have fr2:=hRB.frozen 2
            have fr3:=hRB.frozen 3
            have fr4:=hRB.frozen 4
            have fr5:=hRB.frozen 5
            have rl:=hRB.lt
            have HDB:=Zh qB
            clear qD q0 q1 q2 q3 qX qU qB
            rcases h3 with h3|h3
            all_goals
              rw [h3] at x0 HOp
              go_wp2_with (go_at_call 162;refine (ZcP _ _).mono ?_;rintro e w' ⟨rfl,rfl⟩;rw [HOp.out])
              have hR:=((((((((HR1.out.old HDB.out).other (a:=⟨D,5,none⟩) hBD (.bool false)).set 0 (.slice (some ⟨g0,0,none⟩) l.length l.length)).set 1 (.slice (some ⟨g1,0,none⟩) l.length l.length)).set 2 (.slice (some ⟨g2,0,none⟩) l.length l.length)).set 3 (.slice (some ⟨g3,0,none⟩) l.length l.length)).set 4 (.int .i64 dd)).set 5 (.bool false))
              have y0:=hR.cell 0 rfl
              have y1:=hR.cell 1 rfl
              have y2:=hR.cell 2 rfl
              have y3:=hR.cell 3 rfl
              have y4:=hR.cell 4 rfl
              have y5:=hR.cell 5 rfl
              refine bodyPost_ret (v:=.agg #[.slice (some ⟨g0,0,none⟩) l.length l.length,.slice (some ⟨g1,0,none⟩) l.length l.length,.slice (some ⟨g2,0,none⟩) l.length l.length,.slice (some ⟨g3,0,none⟩) l.length l.length,.int .i64 dd,.bool false]) (by simp [results,Tryz.results300,go_sem,y0,y1,y2,y3,y4,y5]) rfl (ZcK HV.out ?_)
              have hBB:=HB.out
              exact ZcW (ZcW (ZcW (ZcW (ZcW (ZcW (ZcW (Zaf HB1.out HDB.out) (by have:=HB1.out.size;omega) _) (by omega) _) (by omega) _) (by omega) _) (by omega) _) (by omega) _) (by omega) _
          · have h34:¬ x.op=34:=fun h=>h3 (.inl h)
            have h35:¬ x.op=35:=fun h=>h3 (.inr h)
            rcases hop:ZaR x.op with _|_
            · have HOp:=Zh hop
              have n34:(x.op == 34)=false:=by simp [h34]
              have n35:(x.op == 35)=false:=by simp [h35]
              have HA2:=Zb2 HArr.out hkl HLs.out rfl (show ¬ ZbE l k by unfold ZbE;rw [←HX.out,hop];decide) (by rw [←HX.out];exact h34) (by rw [←HX.out];exact h35)
              have HRun2:=Zh (ZcD hkl (by rw [←HX.out];exact hop) (by rw [←HX.out];exact h34) (by rw [←HX.out];exact h35) HE2.out HRun.out)
              clear hop
              have x0:w8.cell? ⟨X,0,none⟩=some (.int .i64 x.op):=qX.cell 0 rfl
              have xl:=qX.lt
              have HQ:=Zh (And.intro qD (And.intro q0 (And.intro q1 (And.intro q2 (And.intro q3 (And.intro qB qU))))))
              clear qD q0 q1 q2 q3 qX qU qB
              go_wp2_with (go_at_call 162;refine (ZcP _ _).mono ?_;rintro e w' ⟨rfl,rfl⟩;rw [HOp.out])
              exact ⟨⟨k+1,[],oo,oc,P.set k (-1),E.set k (-1),Q.set k (-1),R.set k 0,dd,by omega,by go_num,by rw [←HM.out],HQ.out.1,HQ.out.2.1,HQ.out.2.2.1,HQ.out.2.2.2.1,HQ.out.2.2.2.2.1,⟨by simp [HLs.out.1],by simp [HLs.out.2.1],by simp [HLs.out.2.2.1],by simp [HLs.out.2.2.2]⟩,by rw [←HM.out];exact HQ.out.2.2.2.2.2.2,HQ.out.2.2.2.2.2.1,HRun2.out,⟨HOs.out.1,fun a ha=>by have:=HOs.out.2 a ha;omega⟩,hdd,hNq,HA2⟩,by show l.length-((k:Int)+1).toNat<l.length-(k:Int).toNat;omega⟩
            · have HOp:=Zh hop
              have HA2:=Zb3 HArr.out hkl HLs.out rfl (show ZbE l k by unfold ZbE;rw [←HX.out];exact hop)
              have HRun2:=Zh (ZcA hkl (by rw [←HX.out];exact hop) HE1.out HE2.out HRun.out)
              clear hop
              have x0:w8.cell? ⟨X,0,none⟩=some (.int .i64 x.op):=qX.cell 0 rfl
              have xl:=qX.lt
              go_wp2_with (first
                | (go_at_call 162;refine (ZcP _ _).mono ?_;rintro e w' ⟨rfl,rfl⟩;rw [HOp.out])
                | (at_builtin;refine Zaj rfl (.tmp 63) (.tmp 65) 34 rfl N 3 1 8 Zcq (.slice oo 0 oc) 0 ([].map fun (o:Nat)=>Value.int .i64 (o:Int)) rfl (qU.alloc _) _ 1 1 [.int .i64 k] rfl (Zcr _ #[.int .i64 k] 3 rfl) (by intro u hu;rw [List.mem_singleton.1 hu];rfl) (by omega) (by unfold maxLen;omega) (by simp;omega) ?_
                   intro ao1 cap1 w10 hown9 hg9
                   have nD:=(qD.alloc (.cells #[.int .i64 k] 3)).grownV hg9 (Zcs qU hN0)
                   have n0:=(q0.alloc (.cells #[.int .i64 k] 3)).grownV hg9 (Zcs qU hN1)
                   have n1:=(q1.alloc (.cells #[.int .i64 k] 3)).grownV hg9 (Zcs qU hN2)
                   have n2:=(q2.alloc (.cells #[.int .i64 k] 3)).grownV hg9 (Zcs qU hN3)
                   have n3:=(q3.alloc (.cells #[.int .i64 k] 3)).grownV hg9 (Zcs qU hN4)
                   have nB:=(qB.alloc qB.size (.cells #[.int .i64 k] 3)).grown hg9 (by have:=qB.size;simp;omega) (fun j hj=>by have:=(qU.lt j hj).1;omega)
                   have nN:N≤w10.heap.size:=by have h1:=hg9.size;simp at h1;omega
                   have d4:w10.cell? ⟨D,4,none⟩=some (.int .i64 dd):=nD.cell 4 rfl
                   have fd4:=nD.frozen 4
                   have dl:=nD.lt
                   have HN9:=Zh (And.intro nD (And.intro n0 (And.intro n1 (And.intro n2 (And.intro n3 (And.intro nB hown9))))))
                   clear nD n0 n1 n2 n3 nB hown9 hg9))
              rw [show (if (dd:Int) < 1 then (1:Int) else (dd:Int))=((max dd (0+1):Nat):Int) by split<;>omega]
              have hm2:([]++[k]).length=0+1:=by rw [List.length_append,←HM.out];rfl
              have hsz:N≤(w10.setCell ⟨D,4,none⟩ (.int .i64 ((max dd (0+1):Nat):Int))).heap.size:=by rw [Zcm];exact nN
              refine ⟨⟨k+1,[]++[k],ao1,cap1,P.set k (-1),E.set k (-1),Q.set k (-1),R.set k 0,max dd (0+1),by omega,by go_num,by rw [hm2],HN9.out.1.set 4 _,HN9.out.2.1.other (fun h=>ne0 h.symm) _,HN9.out.2.2.1.other (fun h=>ne1 h.symm) _,HN9.out.2.2.2.1.other (fun h=>ne2 h.symm) _,HN9.out.2.2.2.2.1.other (fun h=>ne3 h.symm) _,⟨by simp [HLs.out.1],by simp [HLs.out.2.1],by simp [HLs.out.2.2.1],by simp [HLs.out.2.2.2]⟩,?_,HN9.out.2.2.2.2.2.1.setCell (p:=⟨D,4,none⟩) gb4 _,?_,⟨?_,?_⟩,by omega,hsz,HA2⟩,by show l.length-((k:Int)+1).toNat<l.length-(k:Int).toNat;omega⟩
              · rw [hm2,List.map_append];exact ownsRow_setCell_below HN9.out.2.2.2.2.2.2 (a:=⟨D,4,none⟩) (by show D<N;omega) _
              · have h:=HRun2.out;rw [←HM.out] at h;exact h
              · refine List.pairwise_append.2 ⟨HOs.out.1,by simp,fun a ha b hb=>?_⟩;rw [List.mem_singleton.1 hb];exact HOs.out.2 a ha
              · intro a ha;rcases List.mem_append.1 ha with ha|ha;(have:=HOs.out.2 a ha;omega);(rw [List.mem_singleton.1 ha];omega)
        | succ m=>
          obtain ⟨os',o,hoo⟩:∃ os' o,os=os'++[o]:=by { rcases List.eq_nil_or_concat os with h|⟨a,b,h⟩;(rw [h] at HM;have:=HM.out;simp at this);exact ⟨a,b,by rw [h,List.concat_eq_append]⟩ }
          subst hoo
          have hm':os'.length=m:=by have:=HM.out;simp at this;omega
          have hok:o<k:=HOs.out.2 o (by simp)
          obtain ⟨gU,rfl⟩:=Zai qU (by omega)
          have hoc:=Zcy qU
          have cU:w8.cell? ⟨gU,m,none⟩=some (.int .i64 o):=(Zcz qU (by rw [←hm'];simp) m (by rw [List.getElem?_map,List.getElem?_append_right (by omega),show m-os'.length=0 by omega];rfl))
          have lP2:(P.set k (-1)).length=l.length:=by simp [HLs.out.1]
          have c0:=q0.cell k (v:=.int .i64 (-1)) (by simp [HLs.out.1,hkl])
          have f0:=q0.frozen k
          have z0:=q0.lt
          have ql:=(Zcx qU)
          have d0:w8.cell? ⟨D,0,none⟩=some (.slice (some ⟨g0,0,none⟩) l.length l.length):=qD.cell 0 rfl
          have hw1:IntKind.i64.wrap ((m:Int)+1-1)=m:=by rw [show (m:Int)+1-1=m by omega];exact IntWalk.i64_in _ (by omega)
          have hw2:IntKind.i64.wrap (m:Int)=m:=IntWalk.i64_in _ (by omega)
          have hml:(m:Int) < (m:Int)+1:=by omega
          have hml2:m<m+1:=by omega
          go_wp2_with fail
          refine Zae 10 (by kernel_rfl) (by kernel_rfl) ?_
          simp only [List.take_succ_cons,List.take_zero,List.drop_succ_cons,List.drop_zero]
          repeat still_step
          skip
          refine wpStill_nil ?_
          repeat (refine Zcp (by rfl) fun K hK=>?_;go_simp;refine hK _ _ ?_;clear hK K)
          clear c0 f0 z0 d0 cU hw1 hw2 hml hml2
          have pD:=(qD.other (a:=⟨g0,k,none⟩) (ne0) (.int .i64 o)).drew
          have p0:=(q0.set (k) (.int .i64 o)).drew
          have p1:=(q1.other (a:=⟨g0,k,none⟩) (n01) (.int .i64 o)).drew
          have p2:=(q2.other (a:=⟨g0,k,none⟩) (n02) (.int .i64 o)).drew
          have p3:=(q3.other (a:=⟨g0,k,none⟩) (n03) (.int .i64 o)).drew
          have pX:=(qX.other (a:=⟨g0,k,none⟩) (by show X≠g0;omega) (.int .i64 o)).drew
          have pU:=Zco (ownsRow_setCell_below qU (a:=⟨g0,k,none⟩) (by show g0<N;omega) (.int .i64 o))
          have pB:=(qB.setCell (p:=⟨g0,k,none⟩) (by show w1.heap.size≤g0;omega) (.int .i64 o)).drew
          generalize (w8.setCell ⟨g0,k,none⟩ (.int .i64 o)).drew=w9 at pD p0 p1 p2 p3 pX pU pB ⊢
          rw [List.setIfInBounds_toArray,←List.map_set,List.set_set] at p0
          clear qD q0 q1 q2 q3 qX qU qB
          have hNq:N≤w9.heap.size:=by have:=pX.lt;omega
          by_cases hx3:x.op=34
          · have HOp:=Zh (Zbf (op:=34) (by omega))
            have HOx:=Zh (show (l.getD k default).op=34 by rw [←HX.out];exact hx3)
            have x0:w9.cell? ⟨X,0,none⟩=some (.int .i64 34):=by have h:=pX.cell 0 (v:=.int .i64 x.op) rfl;rw [hx3] at h;exact h
            have xl:=pX.lt
            have d3:w9.cell? ⟨D,3,none⟩=some (.slice (some ⟨g3,0,none⟩) l.length l.length):=pD.cell 3 rfl
            have d0:w9.cell? ⟨D,0,none⟩=some (.slice (some ⟨g0,0,none⟩) l.length l.length):=pD.cell 0 rfl
            have d1:w9.cell? ⟨D,1,none⟩=some (.slice (some ⟨g1,0,none⟩) l.length l.length):=pD.cell 1 rfl
            have c3:=p3.cell k (v:=.int .i64 ((m+1:Nat):Int)) (by simp [HLs.out.2.2.2,hkl])
            have f3:=p3.frozen k
            have z3:=p3.lt
            have hw1:IntKind.i64.wrap ((m:Int)+1-1)=m:=by rw [show (m:Int)+1-1=m by omega];exact IntWalk.i64_in _ (by omega)
            have hw2:IntKind.i64.wrap (m:Int)=m:=IntWalk.i64_in _ (by omega)
            have hml3:¬ ((m:Int)+1=0):=by omega
            have hol:o<l.length:=by omega
            have hol2:(o:Int) < l.length:=by omega
            have nX3:¬ (X=g3):=by omega
            have n3X:¬ (g3=X):=by omega
            have n3D:¬ (g3=D):=fun h=>ne3 h.symm
            obtain ⟨ad',hadd,y1,_,_⟩:=ZaA (HL.out.old (Zaf HB1.out pB)) hol
            obtain rfl:=Option.some.inj hadd
            clear hadd
            have sD:=pD.other (a:=⟨g3,k,none⟩) (ne3) (.int .i64 m)
            have s0:=p0.other (a:=⟨g3,k,none⟩) (ne6) (.int .i64 m)
            have s1:=p1.other (a:=⟨g3,k,none⟩) (ne8) (.int .i64 m)
            have s2:=p2.other (a:=⟨g3,k,none⟩) (ne9) (.int .i64 m)
            have s3:=p3.set (k) (.int .i64 m)
            have sX:=pX.other (a:=⟨g3,k,none⟩) (by show X≠g3;omega) (.int .i64 m)
            have sU:=ownsRow_setCell_below pU (a:=⟨g3,k,none⟩) (by show g3<N;omega) (.int .i64 m)
            have sB:=pB.setCell (p:=⟨g3,k,none⟩) (by show w1.heap.size≤g3;omega) (.int .i64 m)
            rw [List.setIfInBounds_toArray,←List.map_set,List.set_set] at s3
            obtain ⟨ad',hadd,y0,_,_⟩:=ZaA (HL.out.old (Zaf HB1.out sB)) hol
            obtain rfl:=Option.some.inj hadd
            clear hadd
            generalize hy:(l.getD o default).op=y at y0 y1
            have HY:=Zh hy
            clear hy
            have heo:=HE2.out o (by simp)
            generalize heq:E.getD o 0=eo at heo
            have HEo:=Zh heq
            clear heq
            have c0:w9.cell? ⟨g0,k,none⟩=some (.int .i64 o):=p0.cell k (by simp [HLs.out.1,hkl])
            have c1:w9.cell? ⟨g1,o,none⟩=some (.int .i64 eo):=p1.cell o (by have h:o<(E.set k (-1)).length:=by { rw [List.length_set,HLs.out.2.1];exact hol };simp only [List.getElem?_toArray,List.getElem?_map,List.getElem?_eq_getElem h,Option.map_some];rw [←heo];simp [List.getD_eq_getElem?_getD,List.getElem?_eq_getElem h])
            have f1:=p1.frozen o
            have z1:=p1.lt
            have z0:=p0.lt
            have HPB:=Zh pB
            have HPD:=Zh pD
            have HP2:=Zh p2
            clear heo
            clear pD p0 p1 p2 p3 pX pU pB
            have hSt:=Zcu l E os' o
            rw [HY.out,HEo.out] at hSt
            have HSt:=Zh hSt
            clear hSt
            by_cases h29:y=29∨y=33
            · by_cases he:0≤eo
              · rcases h29 with rfl|rfl
                all_goals
                  have HV:=Zh (Zby (HRun.out.dead (by rw [HSt.out];exact Zbh hkl HOx.out _ _ _ (fun h=>by have:=h.2;simp at this;omega))))
                  have hRB:=HR1.out.old sB
                  have hRB9:Blk w9 B _ 245:=HR1.out.old HPB.out
                  have r0:=hRB9.cell 0 rfl
                  have r1:=hRB9.cell 1 rfl
                  have r2:=hRB9.cell 2 rfl
                  have r3:=hRB9.cell 3 rfl
                  have r4:=hRB9.cell 4 rfl
                  have r5:=hRB9.cell 5 rfl
                  have fr0:=hRB9.frozen 0
                  have fr1:=hRB9.frozen 1
                  have fr2:=hRB9.frozen 2
                  have fr3:=hRB9.frozen 3
                  have fr4:=hRB9.frozen 4
                  have fr5:=hRB9.frozen 5
                  have rl:=hRB9.lt
                  have n3B:¬ (g3=B):=by have:=HS1.out;omega
                  have nB3:¬ (B=g3):=by have:=HS1.out;omega
                  have d2:w9.cell? ⟨D,2,none⟩=some (.slice (some ⟨g2,0,none⟩) l.length l.length):=HPD.out.cell 2 rfl
                  have d4:w9.cell? ⟨D,4,none⟩=some (.int .i64 dd):=HPD.out.cell 4 rfl
                  have d5:w9.cell? ⟨D,5,none⟩=some (.bool true):=HPD.out.cell 5 rfl
                  have fd5:=HPD.out.frozen 5
                  have dl:=HPD.out.lt
                  have HDB:=Zh sB
                  clear sD s0 s1 s2 s3 sX sU sB hRB hRB9
                  go_wp2_with (go_at_call 162;refine (ZcP _ _).mono ?_;rintro e w' ⟨rfl,rfl⟩;rw [HOp.out])
                  have hR:=((((((((HR1.out.old HDB.out).other (a:=⟨D,5,none⟩) hBD (.bool false)).set 0 (.slice (some ⟨g0,0,none⟩) l.length l.length)).set 1 (.slice (some ⟨g1,0,none⟩) l.length l.length)).set 2 (.slice (some ⟨g2,0,none⟩) l.length l.length)).set 3 (.slice (some ⟨g3,0,none⟩) l.length l.length)).set 4 (.int .i64 dd)).set 5 (.bool false))
                  have y0:=hR.cell 0 rfl
                  have y1:=hR.cell 1 rfl
                  have y2:=hR.cell 2 rfl
                  have y3:=hR.cell 3 rfl
                  have y4:=hR.cell 4 rfl
                  have y5:=hR.cell 5 rfl
                  refine bodyPost_ret (v:=.agg #[.slice (some ⟨g0,0,none⟩) l.length l.length,.slice (some ⟨g1,0,none⟩) l.length l.length,.slice (some ⟨g2,0,none⟩) l.length l.length,.slice (some ⟨g3,0,none⟩) l.length l.length,.int .i64 dd,.bool false]) (by simp [results,Tryz.results300,go_sem,y0,y1,y2,y3,y4,y5]) rfl (ZcK HV.out ?_)
                  have hBB:=HB.out
                  exact ZcW (ZcW (ZcW (ZcW (ZcW (ZcW (ZcW (Zaf HB1.out HDB.out) (by have:=HB1.out.size;omega) _) (by omega) _) (by omega) _) (by omega) _) (by omega) _) (by omega) _) (by omega) _
              · rcases h29 with rfl|rfl
                all_goals
                  have he0:¬ (0≤eo):=he
                  have HS:=Zh (And.intro sD (And.intro s0 (And.intro s1 (And.intro s2 (And.intro s3 (And.intro sB sU))))))
                  clear sD s0 s1 s2 s3 sX sU sB
                  go_wp2_with (go_at_call 162;refine (ZcP _ _).mono ?_;rintro e w' ⟨rfl,rfl⟩;rw [HOp.out])
                  have hes:∀ a,((E.set k (-1)).set o (k:Int)).getD a 0=if o=a then (k:Int) else (E.set k (-1)).getD a 0:=fun a=>ZcE _ _ _ _ (by rw [List.length_set,HLs.out.2.1];exact hol)
                  have hR2:Run l 0 (k+1) ([],0) (Zct l ((E.set k (-1)).set o (k:Int)) (os'++[o]),dd):=ZcB hkl HOx.out (by rw [HY.out];omega) (by rw [HEo.out];omega) (by rw [hes,if_pos rfl];omega) (fun a ha=>by rw [hes,if_neg (by have:=(List.pairwise_append.1 HOs.out.1).2.2 a ha o (by simp);omega)];exact HE2.out a (by simp [ha])) HRun.out
                  have HA2:=Zb4 HArr.out hkl HLs.out (by rw [HEo.out];omega) HOx.out (by rw [HY.out];omega)
                  have h1s:=HS.out.2.2.1.set o (.int .i64 k)
                  rw [List.setIfInBounds_toArray,←List.map_set] at h1s
                  exact ⟨⟨k+1,os'++[o],some ⟨gU,0,none⟩,oc,P.set k o,(E.set k (-1)).set o k,Q.set k (-1),R.set k m,dd,by omega,by go_num,by rw [←HM.out],HS.out.1.other (a:=⟨g1,o,none⟩) ne1 _,HS.out.2.1.other (a:=⟨g1,o,none⟩) ne4 _,h1s,HS.out.2.2.2.1.other (a:=⟨g1,o,none⟩) n12 _,HS.out.2.2.2.2.1.other (a:=⟨g1,o,none⟩) n13 _,⟨by simp [HLs.out.1],by simp [HLs.out.2.1],by simp [HLs.out.2.2.1],by simp [HLs.out.2.2.2]⟩,by rw [←HM.out];exact ownsRow_setCell_below HS.out.2.2.2.2.2.2 (a:=⟨g1,o,none⟩) (by show g1<N;omega) _,HS.out.2.2.2.2.2.1.setCell (p:=⟨g1,o,none⟩) gb1 _,hR2,⟨HOs.out.1,fun a ha=>by have:=HOs.out.2 a ha;omega⟩,hdd,by rw [Zcm,Zcm];exact hNq,HA2⟩,by show l.length-((k:Int)+1).toNat<l.length-(k:Int).toNat;omega⟩
            · have n29:(y == 29)=false:=by simp;omega
              have n33:(y == 33)=false:=by simp;omega
              have HV:=Zh (Zby (HRun.out.dead (by rw [HSt.out];exact Zbh hkl HOx.out _ _ _ (fun h=>h29 h.1))))
              have hRB:=HR1.out.old sB
              have hRB9:Blk w9 B _ 245:=HR1.out.old HPB.out
              have r0:=hRB9.cell 0 rfl
              have r1:=hRB9.cell 1 rfl
              have r2:=hRB9.cell 2 rfl
              have r3:=hRB9.cell 3 rfl
              have r4:=hRB9.cell 4 rfl
              have r5:=hRB9.cell 5 rfl
              have fr0:=hRB9.frozen 0
              have fr1:=hRB9.frozen 1
              have fr2:=hRB9.frozen 2
              have fr3:=hRB9.frozen 3
              have fr4:=hRB9.frozen 4
              have fr5:=hRB9.frozen 5
              have rl:=hRB9.lt
              have n3B:¬ (g3=B):=by have:=HS1.out;omega
              have nB3:¬ (B=g3):=by have:=HS1.out;omega
              have d2:w9.cell? ⟨D,2,none⟩=some (.slice (some ⟨g2,0,none⟩) l.length l.length):=HPD.out.cell 2 rfl
              have d4:w9.cell? ⟨D,4,none⟩=some (.int .i64 dd):=HPD.out.cell 4 rfl
              have d5:w9.cell? ⟨D,5,none⟩=some (.bool true):=HPD.out.cell 5 rfl
              have fd5:=HPD.out.frozen 5
              have dl:=HPD.out.lt
              have HDB:=Zh sB
              clear sD s0 s1 s2 s3 sX sU sB hRB hRB9
              go_wp2_with (go_at_call 162;refine (ZcP _ _).mono ?_;rintro e w' ⟨rfl,rfl⟩;rw [HOp.out])
              have hR:=((((((((HR1.out.old HDB.out).other (a:=⟨D,5,none⟩) hBD (.bool false)).set 0 (.slice (some ⟨g0,0,none⟩) l.length l.length)).set 1 (.slice (some ⟨g1,0,none⟩) l.length l.length)).set 2 (.slice (some ⟨g2,0,none⟩) l.length l.length)).set 3 (.slice (some ⟨g3,0,none⟩) l.length l.length)).set 4 (.int .i64 dd)).set 5 (.bool false))
              have y0:=hR.cell 0 rfl
              have y1:=hR.cell 1 rfl
              have y2:=hR.cell 2 rfl
              have y3:=hR.cell 3 rfl
              have y4:=hR.cell 4 rfl
              have y5:=hR.cell 5 rfl
              refine bodyPost_ret (v:=.agg #[.slice (some ⟨g0,0,none⟩) l.length l.length,.slice (some ⟨g1,0,none⟩) l.length l.length,.slice (some ⟨g2,0,none⟩) l.length l.length,.slice (some ⟨g3,0,none⟩) l.length l.length,.int .i64 dd,.bool false]) (by simp [results,Tryz.results300,go_sem,y0,y1,y2,y3,y4,y5]) rfl (ZcK HV.out ?_)
              have hBB:=HB.out
              exact ZcW (ZcW (ZcW (ZcW (ZcW (ZcW (ZcW (Zaf HB1.out HDB.out) (by have:=HB1.out.size;omega) _) (by omega) _) (by omega) _) (by omega) _) (by omega) _) (by omega) _) (by omega) _
          by_cases hx3:x.op=35
          · have HOp:=Zh (Zbf (op:=35) (by omega))
            have HOx:=Zh (show (l.getD k default).op=35 by rw [←HX.out];exact hx3)
            have x0:w9.cell? ⟨X,0,none⟩=some (.int .i64 35):=by have h:=pX.cell 0 (v:=.int .i64 x.op) rfl;rw [hx3] at h;exact h
            have xl:=pX.lt
            have d3:w9.cell? ⟨D,3,none⟩=some (.slice (some ⟨g3,0,none⟩) l.length l.length):=pD.cell 3 rfl
            have d0:w9.cell? ⟨D,0,none⟩=some (.slice (some ⟨g0,0,none⟩) l.length l.length):=pD.cell 0 rfl
            have d1:w9.cell? ⟨D,1,none⟩=some (.slice (some ⟨g1,0,none⟩) l.length l.length):=pD.cell 1 rfl
            have c3:=p3.cell k (v:=.int .i64 ((m+1:Nat):Int)) (by simp [HLs.out.2.2.2,hkl])
            have f3:=p3.frozen k
            have z3:=p3.lt
            have hw1:IntKind.i64.wrap ((m:Int)+1-1)=m:=by rw [show (m:Int)+1-1=m by omega];exact IntWalk.i64_in _ (by omega)
            have hw2:IntKind.i64.wrap (m:Int)=m:=IntWalk.i64_in _ (by omega)
            have hml3:¬ ((m:Int)+1=0):=by omega
            have hol:o<l.length:=by omega
            have hol2:(o:Int) < l.length:=by omega
            have nX3:¬ (X=g3):=by omega
            have n3X:¬ (g3=X):=by omega
            have n3D:¬ (g3=D):=fun h=>ne3 h.symm
            obtain ⟨ad',hadd,y1,_,_⟩:=ZaA (HL.out.old (Zaf HB1.out pB)) hol
            obtain rfl:=Option.some.inj hadd
            clear hadd
            have sD:=pD.other (a:=⟨g3,k,none⟩) (ne3) (.int .i64 m)
            have s0:=p0.other (a:=⟨g3,k,none⟩) (ne6) (.int .i64 m)
            have s1:=p1.other (a:=⟨g3,k,none⟩) (ne8) (.int .i64 m)
            have s2:=p2.other (a:=⟨g3,k,none⟩) (ne9) (.int .i64 m)
            have s3:=p3.set (k) (.int .i64 m)
            have sX:=pX.other (a:=⟨g3,k,none⟩) (by show X≠g3;omega) (.int .i64 m)
            have sU:=ownsRow_setCell_below pU (a:=⟨g3,k,none⟩) (by show g3<N;omega) (.int .i64 m)
            have sB:=pB.setCell (p:=⟨g3,k,none⟩) (by show w1.heap.size≤g3;omega) (.int .i64 m)
            rw [List.setIfInBounds_toArray,←List.map_set,List.set_set] at s3
            obtain ⟨ad',hadd,y0,_,_⟩:=ZaA (HL.out.old (Zaf HB1.out sB)) hol
            obtain rfl:=Option.some.inj hadd
            clear hadd
            generalize hy:(l.getD o default).op=y at y0 y1
            have HY:=Zh hy
            clear hy
            have heo:=HE2.out o (by simp)
            generalize heq:E.getD o 0=eo at heo
            have HEo:=Zh heq
            clear heq
            have c0:w9.cell? ⟨g0,k,none⟩=some (.int .i64 o):=p0.cell k (by simp [HLs.out.1,hkl])
            have c1:w9.cell? ⟨g1,o,none⟩=some (.int .i64 eo):=p1.cell o (by have h:o<(E.set k (-1)).length:=by { rw [List.length_set,HLs.out.2.1];exact hol };simp only [List.getElem?_toArray,List.getElem?_map,List.getElem?_eq_getElem h,Option.map_some];rw [←heo];simp [List.getD_eq_getElem?_getD,List.getElem?_eq_getElem h])
            have f1:=p1.frozen o
            have z1:=p1.lt
            have z0:=p0.lt
            have HPB:=Zh pB
            have HPD:=Zh pD
            have HP2:=Zh p2
            clear heo
            clear pD p0 p1 p2 p3 pX pU pB
            have hSt:=Zcu l E os' o
            rw [HY.out,HEo.out] at hSt
            have HSt:=Zh hSt
            clear hSt
            by_cases h33:y=33
            · subst h33
              by_cases he:0≤eo
              · have he0:¬ (eo<0):=by omega
                have HS:=Zh (And.intro sD (And.intro s0 (And.intro s1 (And.intro s2 (And.intro s3 (And.intro sB sU))))))
                clear sD s0 s1 s2 s3 sX sU sB
                have d2:w9.cell? ⟨D,2,none⟩=some (.slice (some ⟨g2,0,none⟩) l.length l.length):=HPD.out.cell 2 rfl
                have c2:=HP2.out.cell o (v:=.int .i64 ((Q.set k (-1)).getD o 0)) (by have h:o<(Q.set k (-1)).length:=by { rw [List.length_set,HLs.out.2.2.1];exact hol };simp only [List.getElem?_toArray,List.getElem?_map,List.getElem?_eq_getElem h,Option.map_some];simp [List.getD_eq_getElem?_getD,List.getElem?_eq_getElem h])
                have f2:=HP2.out.frozen o
                have z2:=HP2.out.lt
                have hmoc:m≤oc:=by omega
                have hmoc2:(m:Int)≤oc:=by omega
                go_wp2_with (go_at_call 162;refine (ZcP _ _).mono ?_;rintro e w' ⟨rfl,rfl⟩;rw [HOp.out])
                all_goals
                  have hR2:Run l 0 (k+1) ([],0) (Zct l (E.set k (-1)) os',dd):=ZcC hkl HOx.out (by rw [HY.out,HEo.out];exact (fun h=>h.2 he)) (fun a ha=>HE2.out a (by simp [ha])) HRun.out
                  have HA2:=Zb5 HArr.out hkl HLs.out (by rw [HY.out,HEo.out];exact (fun h=>h.2 he)) HOx.out
                  have h2s:=HS.out.2.2.2.1.set o (.int .i64 k)
                  rw [List.setIfInBounds_toArray,←List.map_set] at h2s
                  have hU2:=ownsRow_setCell_below HS.out.2.2.2.2.2.2 (a:=⟨g2,o,none⟩) (by show g2<N;omega) (.int .i64 k)
                  rw [List.map_append] at hU2
                  exact ⟨⟨k+1,os',some ⟨gU,0,none⟩,oc,P.set k o,E.set k (-1),(Q.set k (-1)).set o k,R.set k m,dd,by omega,by go_num,by rw [hm'],HS.out.1.other (a:=⟨g2,o,none⟩) ne2 _,HS.out.2.1.other (a:=⟨g2,o,none⟩) ne5 _,HS.out.2.2.1.other (a:=⟨g2,o,none⟩) ne7 _,h2s,HS.out.2.2.2.2.1.other (a:=⟨g2,o,none⟩) n23 _,⟨by simp [HLs.out.1],by simp [HLs.out.2.1],by simp [HLs.out.2.2.1],by simp [HLs.out.2.2.2]⟩,by rw [hm'];exact ZcG hU2 (by rw [List.length_map,hm']),HS.out.2.2.2.2.2.1.setCell (p:=⟨g2,o,none⟩) gb2 _,hR2,⟨(List.pairwise_append.1 HOs.out.1).1,fun a ha=>by have:=HOs.out.2 a (List.mem_append_left _ ha);omega⟩,hdd,by rw [Zcm,Zcm];exact hNq,HA2⟩,by show l.length-((k:Int)+1).toNat<l.length-(k:Int).toNat;omega⟩
              · have he0:eo<0:=by omega
                have HV:=Zh (Zby (HRun.out.dead (by rw [HSt.out];exact Zbj hkl HOx.out _ _ _ ⟨rfl,decide_eq_false he⟩)))
                have hRB:=HR1.out.old sB
                have hRB9:Blk w9 B _ 245:=HR1.out.old HPB.out
                have r0:=hRB9.cell 0 rfl
                have r1:=hRB9.cell 1 rfl
                have r2:=hRB9.cell 2 rfl
                have r3:=hRB9.cell 3 rfl
                have r4:=hRB9.cell 4 rfl
                have r5:=hRB9.cell 5 rfl
                have fr0:=hRB9.frozen 0
                have fr1:=hRB9.frozen 1
                have fr2:=hRB9.frozen 2
                have fr3:=hRB9.frozen 3
                have fr4:=hRB9.frozen 4
                have fr5:=hRB9.frozen 5
                have rl:=hRB9.lt
                have n3B:¬ (g3=B):=by have:=HS1.out;omega
                have nB3:¬ (B=g3):=by have:=HS1.out;omega
                have d2:w9.cell? ⟨D,2,none⟩=some (.slice (some ⟨g2,0,none⟩) l.length l.length):=HPD.out.cell 2 rfl
                have d4:w9.cell? ⟨D,4,none⟩=some (.int .i64 dd):=HPD.out.cell 4 rfl
                have d5:w9.cell? ⟨D,5,none⟩=some (.bool true):=HPD.out.cell 5 rfl
                have fd5:=HPD.out.frozen 5
                have dl:=HPD.out.lt
                have HDB:=Zh sB
                clear sD s0 s1 s2 s3 sX sU sB hRB hRB9
                go_wp2_with (go_at_call 162;refine (ZcP _ _).mono ?_;rintro e w' ⟨rfl,rfl⟩;rw [HOp.out])
                have hR:=((((((((HR1.out.old HDB.out).other (a:=⟨D,5,none⟩) hBD (.bool false)).set 0 (.slice (some ⟨g0,0,none⟩) l.length l.length)).set 1 (.slice (some ⟨g1,0,none⟩) l.length l.length)).set 2 (.slice (some ⟨g2,0,none⟩) l.length l.length)).set 3 (.slice (some ⟨g3,0,none⟩) l.length l.length)).set 4 (.int .i64 dd)).set 5 (.bool false))
                have y0:=hR.cell 0 rfl
                have y1:=hR.cell 1 rfl
                have y2:=hR.cell 2 rfl
                have y3:=hR.cell 3 rfl
                have y4:=hR.cell 4 rfl
                have y5:=hR.cell 5 rfl
                refine bodyPost_ret (v:=.agg #[.slice (some ⟨g0,0,none⟩) l.length l.length,.slice (some ⟨g1,0,none⟩) l.length l.length,.slice (some ⟨g2,0,none⟩) l.length l.length,.slice (some ⟨g3,0,none⟩) l.length l.length,.int .i64 dd,.bool false]) (by simp [results,Tryz.results300,go_sem,y0,y1,y2,y3,y4,y5]) rfl (ZcK HV.out ?_)
                have hBB:=HB.out
                exact ZcW (ZcW (ZcW (ZcW (ZcW (ZcW (ZcW (Zaf HB1.out HDB.out) (by have:=HB1.out.size;omega) _) (by omega) _) (by omega) _) (by omega) _) (by omega) _) (by omega) _) (by omega) _
            · have n33:(y == 33)=false:=by simp [h33]
              have HS:=Zh (And.intro sD (And.intro s0 (And.intro s1 (And.intro s2 (And.intro s3 (And.intro sB sU))))))
              clear sD s0 s1 s2 s3 sX sU sB
              have d2:w9.cell? ⟨D,2,none⟩=some (.slice (some ⟨g2,0,none⟩) l.length l.length):=HPD.out.cell 2 rfl
              have c2:=HP2.out.cell o (v:=.int .i64 ((Q.set k (-1)).getD o 0)) (by have h:o<(Q.set k (-1)).length:=by { rw [List.length_set,HLs.out.2.2.1];exact hol };simp only [List.getElem?_toArray,List.getElem?_map,List.getElem?_eq_getElem h,Option.map_some];simp [List.getD_eq_getElem?_getD,List.getElem?_eq_getElem h])
              have f2:=HP2.out.frozen o
              have z2:=HP2.out.lt
              have hmoc:m≤oc:=by omega
              have hmoc2:(m:Int)≤oc:=by omega
              go_wp2_with (go_at_call 162;refine (ZcP _ _).mono ?_;rintro e w' ⟨rfl,rfl⟩;rw [HOp.out])
              all_goals
                have hR2:Run l 0 (k+1) ([],0) (Zct l (E.set k (-1)) os',dd):=ZcC hkl HOx.out (by rw [HY.out,HEo.out];exact (fun h=>h33 h.1)) (fun a ha=>HE2.out a (by simp [ha])) HRun.out
                have HA2:=Zb5 HArr.out hkl HLs.out (by rw [HY.out,HEo.out];exact (fun h=>h33 h.1)) HOx.out
                have h2s:=HS.out.2.2.2.1.set o (.int .i64 k)
                rw [List.setIfInBounds_toArray,←List.map_set] at h2s
                have hU2:=ownsRow_setCell_below HS.out.2.2.2.2.2.2 (a:=⟨g2,o,none⟩) (by show g2<N;omega) (.int .i64 k)
                rw [List.map_append] at hU2
                exact ⟨⟨k+1,os',some ⟨gU,0,none⟩,oc,P.set k o,E.set k (-1),(Q.set k (-1)).set o k,R.set k m,dd,by omega,by go_num,by rw [hm'],HS.out.1.other (a:=⟨g2,o,none⟩) ne2 _,HS.out.2.1.other (a:=⟨g2,o,none⟩) ne5 _,HS.out.2.2.1.other (a:=⟨g2,o,none⟩) ne7 _,h2s,HS.out.2.2.2.2.1.other (a:=⟨g2,o,none⟩) n23 _,⟨by simp [HLs.out.1],by simp [HLs.out.2.1],by simp [HLs.out.2.2.1],by simp [HLs.out.2.2.2]⟩,by rw [hm'];exact ZcG hU2 (by rw [List.length_map,hm']),HS.out.2.2.2.2.2.1.setCell (p:=⟨g2,o,none⟩) gb2 _,hR2,⟨(List.pairwise_append.1 HOs.out.1).1,fun a ha=>by have:=HOs.out.2 a (List.mem_append_left _ ha);omega⟩,hdd,by rw [Zcm,Zcm];exact hNq,HA2⟩,by show l.length-((k:Int)+1).toNat<l.length-(k:Int).toNat;omega⟩
          have h34:¬ x.op=34:=by assumption
          have h35:¬ x.op=35:=by assumption
          rcases hop:ZaR x.op with _|_
          · have HOp:=Zh hop
            have n34:(x.op == 34)=false:=by simp [h34]
            have n35:(x.op == 35)=false:=by simp [h35]
            have HA2:=Zb2 HArr.out hkl HLs.out (Zb6 os' o) (show ¬ ZbE l k by unfold ZbE;rw [←HX.out,hop];decide) (by rw [←HX.out];exact h34) (by rw [←HX.out];exact h35)
            have HRun2:=Zh (ZcD hkl (by rw [←HX.out];exact hop) (by rw [←HX.out];exact h34) (by rw [←HX.out];exact h35) HE2.out HRun.out)
            clear hop
            have x0:w9.cell? ⟨X,0,none⟩=some (.int .i64 x.op):=pX.cell 0 rfl
            have xl:=pX.lt
            have HQ:=Zh (And.intro pD (And.intro p0 (And.intro p1 (And.intro p2 (And.intro p3 (And.intro pB pU))))))
            clear pD p0 p1 p2 p3 pX pU pB
            go_wp2_with (go_at_call 162;refine (ZcP _ _).mono ?_;rintro e w' ⟨rfl,rfl⟩;rw [HOp.out])
            exact ⟨⟨k+1,(os'++[o]),(some ⟨gU,0,none⟩),oc,P.set k o,E.set k (-1),Q.set k (-1),R.set k (((m+1):Nat):Int),dd,by omega,by go_num,by rw [←HM.out],HQ.out.1,HQ.out.2.1,HQ.out.2.2.1,HQ.out.2.2.2.1,HQ.out.2.2.2.2.1,⟨by simp [HLs.out.1],by simp [HLs.out.2.1],by simp [HLs.out.2.2.1],by simp [HLs.out.2.2.2]⟩,by rw [←HM.out];exact HQ.out.2.2.2.2.2.2,HQ.out.2.2.2.2.2.1,HRun2.out,⟨HOs.out.1,fun a ha=>by have:=HOs.out.2 a ha;omega⟩,hdd,hNq,HA2⟩,by show l.length-((k:Int)+1).toNat<l.length-(k:Int).toNat;omega⟩
          · have HOp:=Zh hop
            have HA2:=Zb3 HArr.out hkl HLs.out (Zb6 os' o) (show ZbE l k by unfold ZbE;rw [←HX.out];exact hop)
            have HRun2:=Zh (ZcA hkl (by rw [←HX.out];exact hop) HE1.out HE2.out HRun.out)
            clear hop
            have x0:w9.cell? ⟨X,0,none⟩=some (.int .i64 x.op):=pX.cell 0 rfl
            have xl:=pX.lt
            go_wp2_with (first
              | (go_at_call 162;refine (ZcP _ _).mono ?_;rintro e w' ⟨rfl,rfl⟩;rw [HOp.out])
              | (at_builtin;refine Zaj rfl (.tmp 63) (.tmp 65) 34 rfl N 3 1 8 Zcq (.slice (some ⟨gU,0,none⟩) (m+1) oc) (m+1) ((os'++[o]).map fun (o:Nat)=>Value.int .i64 (o:Int)) rfl (pU.alloc _) _ 1 1 [.int .i64 k] rfl (Zcr _ #[.int .i64 k] 3 rfl) (by intro u hu;rw [List.mem_singleton.1 hu];rfl) (by omega) (by unfold maxLen;omega) (by simp;omega) ?_
                 intro ao1 cap1 w10 hown9 hg9
                 have nD:=(pD.alloc (.cells #[.int .i64 k] 3)).grownV hg9 (Zcs pU hN0)
                 have n0:=(p0.alloc (.cells #[.int .i64 k] 3)).grownV hg9 (Zcs pU hN1)
                 have n1:=(p1.alloc (.cells #[.int .i64 k] 3)).grownV hg9 (Zcs pU hN2)
                 have n2:=(p2.alloc (.cells #[.int .i64 k] 3)).grownV hg9 (Zcs pU hN3)
                 have n3:=(p3.alloc (.cells #[.int .i64 k] 3)).grownV hg9 (Zcs pU hN4)
                 have nB:=(pB.alloc pB.size (.cells #[.int .i64 k] 3)).grown hg9 (by have:=pB.size;simp;omega) (fun j hj=>by have:=(pU.lt j hj).1;omega)
                 have nN:N≤w10.heap.size:=by have h1:=hg9.size;simp at h1;omega
                 have d4:w10.cell? ⟨D,4,none⟩=some (.int .i64 dd):=nD.cell 4 rfl
                 have fd4:=nD.frozen 4
                 have dl:=nD.lt
                 have HN9:=Zh (And.intro nD (And.intro n0 (And.intro n1 (And.intro n2 (And.intro n3 (And.intro nB hown9))))))
                 clear nD n0 n1 n2 n3 nB hown9 hg9))
            rw [show (if (dd:Int) < (m:Int)+1+1 then ((m:Int)+1+1:Int) else (dd:Int))=((max dd ((m+1)+1):Nat):Int) by split<;>omega]
            have hm2:((os'++[o])++[k]).length=(m+1)+1:=by rw [List.length_append,←HM.out];rfl
            have hsz:N≤(w10.setCell ⟨D,4,none⟩ (.int .i64 ((max dd ((m+1)+1):Nat):Int))).heap.size:=by rw [Zcm];exact nN
            refine ⟨⟨k+1,(os'++[o])++[k],ao1,cap1,P.set k o,E.set k (-1),Q.set k (-1),R.set k (((m+1):Nat):Int),max dd ((m+1)+1),by omega,by go_num,by rw [hm2],HN9.out.1.set 4 _,HN9.out.2.1.other (fun h=>ne0 h.symm) _,HN9.out.2.2.1.other (fun h=>ne1 h.symm) _,HN9.out.2.2.2.1.other (fun h=>ne2 h.symm) _,HN9.out.2.2.2.2.1.other (fun h=>ne3 h.symm) _,⟨by simp [HLs.out.1],by simp [HLs.out.2.1],by simp [HLs.out.2.2.1],by simp [HLs.out.2.2.2]⟩,?_,HN9.out.2.2.2.2.2.1.setCell (p:=⟨D,4,none⟩) gb4 _,?_,⟨?_,?_⟩,by omega,hsz,HA2⟩,by show l.length-((k:Int)+1).toNat<l.length-(k:Int).toNat;omega⟩
            · rw [hm2,List.map_append];exact ownsRow_setCell_below HN9.out.2.2.2.2.2.2 (a:=⟨D,4,none⟩) (by show D<N;omega) _
            · have h:=HRun2.out;rw [←HM.out] at h;exact h
            · refine List.pairwise_append.2 ⟨HOs.out.1,by simp,fun a ha b hb=>?_⟩;rw [List.mem_singleton.1 hb];exact HOs.out.2 a ha
            · intro a ha;rcases List.mem_append.1 ha with ha|ha;(have:=HOs.out.2 a ha;omega);(rw [List.mem_singleton.1 ha];omega)
      · have hke:k=l.length:=by omega
        subst hke
        have hBD:¬ (B=D):=by have:=HS1.out;omega
        have zD:=hD
        have zB:=hbl
        have d0:wr.cell? ⟨D,0,none⟩=some (.slice (some ⟨g0,0,none⟩) l.length l.length):=zD.cell 0 rfl
        have d1:wr.cell? ⟨D,1,none⟩=some (.slice (some ⟨g1,0,none⟩) l.length l.length):=zD.cell 1 rfl
        have d2:wr.cell? ⟨D,2,none⟩=some (.slice (some ⟨g2,0,none⟩) l.length l.length):=zD.cell 2 rfl
        have d3:wr.cell? ⟨D,3,none⟩=some (.slice (some ⟨g3,0,none⟩) l.length l.length):=zD.cell 3 rfl
        have d4:wr.cell? ⟨D,4,none⟩=some (.int .i64 dd):=zD.cell 4 rfl
        have d5:wr.cell? ⟨D,5,none⟩=some (.bool true):=zD.cell 5 rfl
        have fd5:=zD.frozen 5
        have dl:=zD.lt
        have hRB:=HR1.out.old zB
        have r0:=hRB.cell 0 rfl
        have r1:=hRB.cell 1 rfl
        have r2:=hRB.cell 2 rfl
        have r3:=hRB.cell 3 rfl
        have r4:=hRB.cell 4 rfl
        have r5:=hRB.cell 5 rfl
        have fr0:=hRB.frozen 0
        have fr1:=hRB.frozen 1
        have fr2:=hRB.frozen 2
        have fr3:=hRB.frozen 3
        have fr4:=hRB.frozen 4
        have fr5:=hRB.frozen 5
        have rl:=hRB.lt
        have HDB:=Zh zB
        have hn:=ZcF HRun.out
        rcases m with _|m
        · obtain rfl:os=[]:=List.eq_nil_of_length_eq_zero HM.out.symm
          by_cases h6:dd≤6
          · have h6i:(dd:Int)≤6:=by omega
            have HG:=Zh (And.intro h0 (And.intro h1 (And.intro h2 h3)))
            have HV:=Zh (show ZaU l=true from by rw [hn];simp [Zct,h6])
            clear hD h0 h1 h2 h3 hbl hown zD zB hn HRun
            go_wp2
            have hR:=((((((((HR1.out.old HDB.out).other (a:=⟨D,5,none⟩) hBD (.bool true)).set 0 (.slice (some ⟨g0,0,none⟩) l.length l.length)).set 1 (.slice (some ⟨g1,0,none⟩) l.length l.length)).set 2 (.slice (some ⟨g2,0,none⟩) l.length l.length)).set 3 (.slice (some ⟨g3,0,none⟩) l.length l.length)).set 4 (.int .i64 dd)).set 5 (.bool true))
            have y0:=hR.cell 0 rfl
            have y1:=hR.cell 1 rfl
            have y2:=hR.cell 2 rfl
            have y3:=hR.cell 3 rfl
            have y4:=hR.cell 4 rfl
            have y5:=hR.cell 5 rfl
            refine bodyPost_ret (v:=.agg #[.slice (some ⟨g0,0,none⟩) l.length l.length,.slice (some ⟨g1,0,none⟩) l.length l.length,.slice (some ⟨g2,0,none⟩) l.length l.length,.slice (some ⟨g3,0,none⟩) l.length l.length,.int .i64 dd,.bool true]) (by simp [results,Tryz.results300,go_sem,y0,y1,y2,y3,y4,y5]) rfl (ZcL HV.out (by unfold ZcI;exact ⟨g0,g1,g2,g3,P,E,Q,R,rfl,rfl,rfl,rfl,HLs.out,ZcH HG.out.1 (fun q=>ne0 q.symm) (by have:=HS1.out;omega),ZcH HG.out.2.1 (fun q=>ne1 q.symm) (by have:=HS1.out;omega),ZcH HG.out.2.2.1 (fun q=>ne2 q.symm) (by have:=HS1.out;omega),ZcH HG.out.2.2.2 (fun q=>ne3 q.symm) (by have:=HS1.out;omega),HArr.out⟩) ?_)
            have hBB:=HB.out
            exact ZcW (ZcW (ZcW (ZcW (ZcW (ZcW (ZcW (Zaf HB1.out HDB.out) (by have:=HB1.out.size;omega) _) (by omega) _) (by omega) _) (by omega) _) (by omega) _) (by omega) _) (by omega) _
          · have h6i:¬ (dd:Int)≤6:=by omega
            have HV:=Zh (show ZaU l=false from by rw [hn];simp [h6])
            clear hD h0 h1 h2 h3 hbl hown zD zB hn HRun
            go_wp2
            have hR:=((((((((HR1.out.old HDB.out).other (a:=⟨D,5,none⟩) hBD (.bool false)).set 0 (.slice (some ⟨g0,0,none⟩) l.length l.length)).set 1 (.slice (some ⟨g1,0,none⟩) l.length l.length)).set 2 (.slice (some ⟨g2,0,none⟩) l.length l.length)).set 3 (.slice (some ⟨g3,0,none⟩) l.length l.length)).set 4 (.int .i64 dd)).set 5 (.bool false))
            have y0:=hR.cell 0 rfl
            have y1:=hR.cell 1 rfl
            have y2:=hR.cell 2 rfl
            have y3:=hR.cell 3 rfl
            have y4:=hR.cell 4 rfl
            have y5:=hR.cell 5 rfl
            refine bodyPost_ret (v:=.agg #[.slice (some ⟨g0,0,none⟩) l.length l.length,.slice (some ⟨g1,0,none⟩) l.length l.length,.slice (some ⟨g2,0,none⟩) l.length l.length,.slice (some ⟨g3,0,none⟩) l.length l.length,.int .i64 dd,.bool false]) (by simp [results,Tryz.results300,go_sem,y0,y1,y2,y3,y4,y5]) rfl (ZcK HV.out ?_)
            have hBB:=HB.out
            exact ZcW (ZcW (ZcW (ZcW (ZcW (ZcW (ZcW (Zaf HB1.out HDB.out) (by have:=HB1.out.size;omega) _) (by omega) _) (by omega) _) (by omega) _) (by omega) _) (by omega) _) (by omega) _
        · have hm0:¬ ((m:Int)+1=0):=by omega
          have HV:=Zh (show ZaU l=false from by rw [hn];have hne:(Zct l E os).length=m+1:=by { rw [Zcw,←HM.out] };cases hq:Zct l E os with|nil=>(rw [hq] at hne;cases hne)|cons b r=>rfl)
          clear hD h0 h1 h2 h3 hbl hown zD zB hn HRun
          go_wp2
          have hR:=((((((((HR1.out.old HDB.out).other (a:=⟨D,5,none⟩) hBD (.bool false)).set 0 (.slice (some ⟨g0,0,none⟩) l.length l.length)).set 1 (.slice (some ⟨g1,0,none⟩) l.length l.length)).set 2 (.slice (some ⟨g2,0,none⟩) l.length l.length)).set 3 (.slice (some ⟨g3,0,none⟩) l.length l.length)).set 4 (.int .i64 dd)).set 5 (.bool false))
          have y0:=hR.cell 0 rfl
          have y1:=hR.cell 1 rfl
          have y2:=hR.cell 2 rfl
          have y3:=hR.cell 3 rfl
          have y4:=hR.cell 4 rfl
          have y5:=hR.cell 5 rfl
          refine bodyPost_ret (v:=.agg #[.slice (some ⟨g0,0,none⟩) l.length l.length,.slice (some ⟨g1,0,none⟩) l.length l.length,.slice (some ⟨g2,0,none⟩) l.length l.length,.slice (some ⟨g3,0,none⟩) l.length l.length,.int .i64 dd,.bool false]) (by simp [results,Tryz.results300,go_sem,y0,y1,y2,y3,y4,y5]) rfl (ZcK HV.out ?_)
          have hBB:=HB.out
          exact ZcW (ZcW (ZcW (ZcW (ZcW (ZcW (ZcW (Zaf HB1.out HDB.out) (by have:=HB1.out.size;omega) _) (by omega) _) (by omega) _) (by omega) _) (by omega) _) (by omega) _) (by omega) _
theorem Zda (l:List In3) (ao:Option Addr) (cap:Nat) (w:World) (hl:Zar w ao cap l) (hlen:l.length≤120) :
  Calls Tryz.prog 300 #[.slice ao l.length cap] w fun e w'=>(∃ v0 v1 v2 v3:Value,∃ n:Int,e=.returned (.agg #[v0,v1,v2,v3,.int .i64 n,.bool (ZaU l)]))∧Below w.heap.size w w':=
 (Zc9 l ao cap w hl hlen).mono fun e w' ⟨⟨v0,v1,v2,v3,n,h,_⟩,hb⟩=>⟨⟨v0,v1,v2,v3,n,h⟩,hb⟩
end
end Go.Proofs.YtcfjblcgceednaaGreat
