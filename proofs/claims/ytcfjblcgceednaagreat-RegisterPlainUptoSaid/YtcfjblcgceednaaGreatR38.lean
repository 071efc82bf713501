/- Joined texts. The first: The reference's Plain. -/
import Derived.Test.YtcfjblcgceednaaGreatR37
import Derived.Test.YtcfjblcgceednaaGreatR29
import Derived.Test.YtcfjblcgceednaaGreatR30
import Derived.Test.YtcfjblcgceednaaGreatR28
import Derived.Test.YtcfjblcgceednaaGreatR36
set_option linter.all false
set_option linter.unusedVariables false
set_option linter.unusedSimpArgs false
set_option maxRecDepth 100000
set_option maxHeartbeats 16000000
namespace Go.Proofs.YtcfjblcgceednaaGreat
theorem j5{p:Prop}(h:p:=by
 obtain rfl:=hR
 exact ⟨rfl,Zaf HB.out HB5.out⟩):p:=h
section
open Go.RowKit
attribute [local go_sem] World.cell?_alloc_some
def Zrv (p l:List Ty) (r c:Int) (k:List In3):Bool:=(p++l).all (fun t=>decide (t.k=1))&&(decide (c=-1)&&decide (r≤1))&&k.all fun i=>Zrj i.op
theorem Zrw {m:Md}{t:Ty} (h:Zfi m t):t.k=1∨t.k=2∨t.k=3∨t.k=4:=by
 unfold Zfi ZaF at h
 split at h
 ·omega
 ·split at h
  ·simp only [Bool.and_eq_true,decide_eq_true_eq] at h;omega
  ·cases h
theorem Zrx {m:Md}{k:Nat} (hok:ZfM m k):Zrm m k=Zrv (m.me.getD k default).p (m.me.getD k default).l (m.me.getD k default).r.k (m.me.getD k default).c (cdM m k):=by
 have hc:=hok.c
 have e1:∀ L:List Ty,(∀ t∈L,Zfi m t)→(L.all fun t=>decide (t.k≤1))=L.all fun t=>decide (t.k=1):=fun L hL=>by
  rw [Bool.eq_iff_iff,List.all_eq_true,List.all_eq_true]
  constructor
  ·intro q t ht
   have h1:=q t ht
   have h2:=Zrw (hL t ht)
   simp at h1 ⊢;omega
  ·intro q t ht
   have h1:=q t ht
   simp at h1 ⊢;omega
 have e2:((cdM m k).all fun i=>Zrj i.op)=!((cdM m k).any fun i=>!Zrj i.op):=by
  rw [List.all_eq_not_any_not]
 have e3:decide ((m.me.getD k default).c<0)=decide ((m.me.getD k default).c=-1):=by
  rw [decide_eq_decide];omega
 unfold Zrm Zrv
 rw [e2,e3]
 simp only [List.flatten_cons,List.flatten_nil,List.append_nil,List.all_append,List.all_cons,List.all_nil,Bool.and_true]
 rw [e1 _ hok.p,e1 _ hok.l]
 simp only [Bool.and_assoc,Bool.and_left_comm,Bool.and_comm]
theorem Zry (m:Md) (h:Hd) (k:Int) (w:World) (H:Zay w h m):Calls Tryz.prog 36 #[.agg #[.slice h.co m.cl.length h.cc,.slice h.so m.st.length h.sc,.slice h.eo m.me.length h.ec,.int .i64 m.sel],.int .i64 k] w (Zhf w (.bool (Zrn m k).1) (.int .i64 (Zrn m k).2)):=by
 obtain ⟨w0,hw0⟩:∃ w0,w0=w.alloc (.cells #[.slice h.co m.cl.length h.cc,.slice h.so m.st.length h.sc,.slice h.eo m.me.length h.ec,.int .i64 m.sel] 26):=⟨_,rfl⟩
 have HB:=Zh (show Below w.heap.size w w0 by rw [hw0];exact bE)
 have HX:=Zh (show Blk w0 w.heap.size #[.slice h.co m.cl.length h.cc,.slice h.so m.st.length h.sc,.slice h.eo m.me.length h.ec,.int .i64 m.sel] 26 by rw [hw0];exact Blk.new _ _ _)
 have HM:=Zh (H.old HB.out)
 have HW:=Zh hw0
 have hv:=Zqt m h k w0 HM.out
 by_cases hr:ZpT m k=true
 ·rw [if_pos hr] at hv
  obtain ⟨hm,h0,h1⟩:=ZpU hr
  obtain ⟨n,rfl⟩:∃ n:Nat,k=n:=⟨k.toNat,by omega⟩
  have hn:n<m.me.length:=by omega
  have hok:=ZfN hm hn
  have he:Zrn m n=(Zrm m n,0):=by unfold Zrn;rw [if_pos hr,Int.toNat_natCast]
  rw [he,Zrx hok]
  obtain ⟨R,hR⟩:∃ R,R=Zrv (m.me.getD n default).p (m.me.getD n default).l (m.me.getD n default).r.k (m.me.getD n default).c (cdM m n):=⟨_,rfl⟩
  rw [←hR]
  obtain ⟨zl0,zl1,zl2⟩:=hok.z
  have HV:=Zh hv
  have HMt:=Zh (fun w' (hb:Below w0.heap.size w0 w')=>(HM.out.old hb).mth hn)
  have HP:=Zh (fun w' (hb:Below w0.heap.size w0 w')=>(HM.out.old hb).p n hn)
  have HL:=Zh (fun w' (hb:Below w0.heap.size w0 w')=>(HM.out.old hb).l n hn)
  have HK:=Zh (fun w' (hb:Below w0.heap.size w0 w')=>(HM.out.old hb).k n hn)
  have hcd:cdM m n=(m.me.getD n default).k:=rfl
  rw [hcd] at hR
  generalize m.me.getD n default=x at *
  generalize h.e n=y at HMt HP HL HK
  obtain ⟨nm,c,pl,ll,⟨rk,rc⟩,kl⟩:=x
  obtain ⟨po,pc,lo,lc,ko,kc⟩:=y
  dsimp only at HMt HP HL HK zl0 zl1 zl2 hR ⊢
  have HRv:=Zh hR
  have hn2:(n:Int) < m.me.length:=by omega
  clear hR hw0 H hv hr hm h0 h1 he hok hcd
  go_enter Tryz.func36,Tryz.ntmps36
  go_upto_region 1 with fail
  rw [←HW.out]
  obtain ⟨x0,x1,x2,x3⟩:=Zj5 HX.out
  go_upto_region 4 with (go_at_call 87;refine HV.out.mono ?_;rintro e w1 ⟨rfl,hb1⟩;have HB1:=Zh hb1;clear hb1 x0 x1 x2 x3;obtain ⟨x0,x1,x2,x3⟩:=Zj5 (HX.out.old HB1.out))
  obtain ⟨ad,heo,e0,e1,e2,e3,e4,e5,e6⟩:=HMt.out w1 HB1.out
  rw [heo] at x2
  clear heo
  obtain ⟨X,hX⟩:∃ X,X=w1.heap.size:=⟨_,rfl⟩
  obtain ⟨w2,hw2⟩:∃ w2,w2=w1.alloc (.cells #[.string nm,.int .i64 c,.slice po pl.length pc,.slice lo ll.length lc,.int .i64 rk,.int .i64 rc,.slice ko kl.length kc] 81):=⟨_,rfl⟩
  have hb2:Below w1.heap.size w1 w2:=by rw [hw2];exact bE
  have hx2:Blk w2 X #[.string nm,.int .i64 c,.slice po pl.length pc,.slice lo ll.length lc,.int .i64 rk,.int .i64 rc,.slice ko kl.length kc] 81:=by rw [hw2,hX];exact Blk.new _ _ _
  have HX2:=Zh hx2
  have HB2:=Zh (Zaf HB1.out hb2)
  have HWw:=Zh (And.intro hX hw2)
  clear hb2 hx2 hX hw2
  go_upto_region 5 with fail
  rw [←HWw.out.1,←HWw.out.2]
  clear x0 x1 x2 x3 e0 e1 e2 e3 e4 e5 e6 HWw
  have z2:=HX2.out.cell 2 (v:=.slice po pl.length pc) rfl
  have z3:=HX2.out.cell 3 (v:=.slice lo ll.length lc) rfl
  refine rO (Cs [(⟨X,2,none⟩,.slice po pl.length pc),(⟨X,3,none⟩,.slice lo ll.length lc)]) (oL [1,2,4,5,100,103,106,7]) ⟨z2,z3,trivial⟩ ?_
  have HCs:=Zh (show Cs [(⟨X,2,none⟩,.slice po pl.length pc),(⟨X,3,none⟩,.slice lo ll.length lc)] w2.drew from ⟨z2,z3,trivial⟩)
  have HBd:=Zh HB2.out.drew
  clear z2 z3
  repeat refine pO ?_
  refine oO fun Kv hK=>?_
  go_simp
  have hb3:Below w2.drew.heap.size w2.drew (w2.alloc (.cells #[] 76)).drew:=(show Below w2.drew.heap.size w2.drew (w2.drew.alloc (.cells #[] 76)) by exact bE)
  have ho3:(w2.alloc (.cells #[] 76)).drew.ownsRow w2.drew.heap.size 76 2 (.slice (some ⟨w2.drew.heap.size,0,none⟩) 0 0) 0 []:=World.ownsRow_made (e:=76) (base:=w2.drew.heap.size) (size:=2) w2.drew #[] 0 (Nat.le_refl _) (by decide) rfl
  have HB3:=Zh (Zaf HBd.out hb3)
  have HC3:=Zh (Cs.keeps (Zn8.of hb3) HCs.out)
  have HX3:=Zh (HX2.out.drew.old hb3)
  have hs3:=hb3.size
  refine hK _ _ ⟨HC3.out,?_⟩
  obtain ⟨N,hN⟩:∃ N,N=w2.drew.heap.size:=⟨_,rfl⟩
  rw [←hN] at ho3 hs3
  have hN2:w2.heap.size=N:=hN.symm
  rw [hN2]
  have HO3:=Zh ho3
  have HNX:=Zh (show X<N by rw [hN];exact HX2.out.lt)
  have HNw:=Zh (show w0.heap.size≤N by rw [hN];exact HBd.out.size)
  clear hK Kv hb3 ho3 hN hN2
  generalize (w2.alloc (.cells #[] 76)).drew=w3 at HB3 HC3 HX3 HO3 hs3 ⊢
  repeat refine pO ?_
  refine oO fun Kv hK=>?_
  refine Zej (.tmp 21) (.tmp 23) 23 rfl N 76 2 16 Zff (.slice (some ⟨N,0,none⟩) 0 0) 0 [] rfl HO3.out po pl.length pc (Zak pl) rfl (HP.out _ HB3.out) (Zaq pl) (by omega) (by unfold maxLen;omega) hs3 ?_
  intro ao1 cap1 w4 hown4 hg4
  rw [Nat.zero_add,List.nil_append] at hown4
  rw [Nat.zero_add]
  have HO4:=Zh hown4
  have HB4:=Zh (ZcV HB3.out hg4 (fun j hj=>by cases hj;exact HNw.out))
  have HX4:=Zh (HX3.out.grownV hg4 (fun e=>by have h1:=HNX.out;have h2:X=N:=Option.some.inj e;omega))
  have hs4:=Nat.le_trans hs3 hg4.size
  refine hK _ _ ⟨⟨HX4.out.cell 2 rfl,HX4.out.cell 3 rfl,trivial⟩,?_⟩
  clear hK Kv hown4 hg4 hs3
  repeat refine pO ?_
  refine oO fun Kv hK=>?_
  have hown:=HO4.out
  refine Zej (.tmp 24) (.tmp 26) 23 rfl N 76 2 16 Zff (.slice ao1 pl.length cap1) pl.length (Zak pl) rfl hown lo ll.length lc (Zak ll) rfl (HL.out _ HB4.out) (Zaq ll) (by omega) (by unfold maxLen;omega) hs4 ?_
  intro ao2 cap2 w5 hown5 hg5
  have hfl:Zak pl++Zak ll=Zak (pl++ll):=(Zan pl ll).symm
  have hll:pl.length+ll.length=(pl++ll).length:=List.length_append.symm
  rw [hfl,hll] at hown5
  rw [hll]
  have HR5:=Zh (Zar.of_own hown5)
  have HB5:=Zh (ZcV HB4.out hg5 (fun j hj=>Nat.le_trans HNw.out (hown.lt j hj).1))
  have HX5:=Zh (HX4.out.grownV hg5 (fun e=>by have:=(hown.lt _ e.symm).1;have:=HNX.out;omega))
  refine hK _ _ ⟨⟨HX5.out.cell 2 rfl,HX5.out.cell 3 rfl,trivial⟩,?_⟩
  clear hK Kv hown5 hg5 hown hfl
  have HFl:=Zh (show (pl++ll).length≤1000 by omega)
  have HR2:=Zh (show R=((pl++ll).all (fun t=>decide (t.k=1))&&(decide (c=-1)&&decide (rk≤1))&&kl.all fun i=>Zrj i.op) from HRv.out)
  clear hll HO4 HO3 HRv
  generalize pl++ll=fl at HR5 HFl HR2 ⊢
  repeat refine pO ?_
  refine Zd5 ?_
  have HK5:=Zh (HK.out _ HB5.out)
  go_upto_region 7 with fail
  go_loopw [9] (fun i wr=>∃ j:Nat,j≤fl.length∧i=.int .i64 j∧Hid (∀ p,p<j→(fl.getD p default).k=1)∧wr=w5) (fun i _=>fl.length-(intOf i).toNat)
  case atStart=>exact ⟨0,Nat.zero_le _,rfl,fun p hp=>by omega,rfl⟩
  case round=>
   obtain ⟨j,hj,rfl,HN,rfl⟩:=hrel
   rename World=>wo
   have hfl:=HFl.out
   by_cases hjl:j<fl.length
   ·have hjl2:(j:Int) < fl.length:=by omega
    have hwj:IntKind.i64.wrap ((j:Int)+1)=((j+1:Nat):Int):=IntWalk.i64_in _ (by omega)
    obtain ⟨ad,rfl,t0,t1⟩:=Zaz HR5.out hjl
    obtain ⟨t,htt⟩:∃ t,t=fl.getD j default:=⟨_,rfl⟩
    rw [←htt] at t0 t1
    have HT:=Zh htt
    clear htt
    obtain ⟨tk,tc⟩:=t
    dsimp only at t0 t1
    by_cases hk:tk=1
    ·subst hk
     go_wp2
     exact ⟨⟨j+1,hjl,rfl,fun p hp=>by
      by_cases e:p=j
      ·subst e;rw [←HT.out]
      ·exact HN.out p (by omega),by trivial⟩,by simp [intOf];omega⟩
    ·go_wp2
     go_ret2
     have hR:=HR2.out
     rw [show fl.all (fun t=>decide (t.k=1))=false from List.all_eq_false.2 ⟨_,ZfU default hjl,by rw [←HT.out];simpa using hk⟩,Bool.false_and,Bool.false_and] at hR
     exact j5
   ·obtain rfl:j=fl.length:=by omega
    have hjl2:¬ ((fl.length:Nat):Int) < fl.length:=by omega
    have hR:=HR2.out
    rw [show fl.all (fun t=>decide (t.k=1))=true from List.all_eq_true.2 fun t ht=>by
     obtain ⟨p,hp,rfl⟩:=List.getElem_of_mem ht
     have:=HN.out p hp
     simpa [hp] using this,Bool.true_and] at hR
    have z1:=HX5.out.cell 1 (v:=.int .i64 c) rfl
    have z4:=HX5.out.cell 4 (v:=.int .i64 rk) rfl
    have z6:=HX5.out.cell 6 (v:=.slice ko kl.length kc) rfl
    have HR3:=Zh hR
    clear hR
    by_cases hc:c=-1
    ·subst hc
     by_cases hk1:rk≤1
     ·have hk2:¬ rk > 1:=by omega
      go_upto_region 14 with fail
      clear z1 z4
      go_loopw [10] (fun i wr=>∃ q:Nat,q≤kl.length∧i=.int .i64 q∧Hid (∀ p,p<q→Zrj (kl.getD p default).op=true)∧wr=wo) (fun i _=>kl.length-(intOf i).toNat)
      case atStart=>exact ⟨0,Nat.zero_le _,rfl,fun p hp=>by omega,rfl⟩
      case round=>
       obtain ⟨q,hq,rfl,HQ,rfl⟩:=hrel
       by_cases hql:q<kl.length
       ·have hql2:(q:Int) < kl.length:=by omega
        have hwq:IntKind.i64.wrap ((q:Int)+1)=((q+1:Nat):Int):=IntWalk.i64_in _ (by omega)
        obtain ⟨kd,rfl,o0,-,-⟩:=ZaA HK5.out hql
        obtain ⟨o,ho⟩:∃ o,o=(kl.getD q default).op:=⟨_,rfl⟩
        rw [←ho] at o0
        have HO:=Zh ho
        clear ho
        have hpo:Zrj o=decide ((0≤o∧o≤11)∨(27≤o∧o≤30)∨(33≤o∧o≤35)):=rfl
        have HPo:=Zh hpo
        clear hpo
        by_cases hq:(0≤o∧o≤11)∨(27≤o∧o≤30)∨(33≤o∧o≤35)
        ·have HPy:=Zh (show Zrj o=true by rw [HPo.out];exact decide_eq_true hq)
         have HQq:=Zh hq
         clear hq
         go_wp2
         all_goals
          have hq:=HQq.out
          simp only [beq_iff_eq,beq_eq_false_iff_ne] at *
          first
           | (exfalso;omega)
           | exact ⟨⟨q+1,hql,rfl,fun p hp=>by
             by_cases e:p=q
             ·subst e;rw [←HO.out];exact HPy.out
             ·exact HQ.out p (by omega),by trivial⟩,by simp [intOf];omega⟩
        ·have HPy:=Zh (show Zrj o=false by rw [HPo.out];exact decide_eq_false hq)
         have HQq:=Zh hq
         clear hq
         go_wp2
         all_goals
          have hq:=HQq.out
          simp only [beq_iff_eq,beq_eq_false_iff_ne] at *
          first
           | (exfalso;omega)
           | skip
         go_ret2
         have hR:=HR3.out
         rw [show (kl.all fun i=>Zrj i.op)=false from List.all_eq_false.2 ⟨_,ZfU default hql,by rw [←HO.out,HPy.out];decide⟩,Bool.and_false] at hR
         exact j5
       ·obtain rfl:q=kl.length:=by omega
        have hql2:¬ ((kl.length:Nat):Int) < kl.length:=by omega
        go_wp2
        go_ret2
        have hR:=HR3.out
        rw [show (kl.all fun i=>Zrj i.op)=true from List.all_eq_true.2 fun t ht=>by
         obtain ⟨p,hp,rfl⟩:=List.getElem_of_mem ht
         have:=HQ.out p hp
         simpa [hp] using this,decide_eq_true hk1] at hR
        obtain rfl:R=true:=by rw [hR];simp
        exact ⟨rfl,Zaf HB.out HB5.out⟩
     ·have hk2:rk > 1:=by omega
      go_wp2
      go_ret2
      have hR:=HR3.out
      rw [decide_eq_false (show ¬ rk≤1 by omega),Bool.and_false,Bool.false_and] at hR
      exact j5
    ·go_wp2
     go_ret2
     have hR:=HR3.out
     rw [decide_eq_false hc,Bool.false_and,Bool.false_and] at hR
     exact j5
 ·have he:Zrn m k=(false,1):=by unfold Zrn;rw [if_neg hr]
  rw [he]
  rw [if_neg hr] at hv
  have HV:=Zh hv
  clear hw0 H hv hr he
  go_enter Tryz.func36,Tryz.ntmps36
  go_upto_region 1 with fail
  rw [←HW.out]
  obtain ⟨x0,x1,x2,x3⟩:=Zj5 HX.out
  go_wp2_with (go_at_call 87;refine HV.out.mono ?_;rintro e w1 ⟨rfl,hb1⟩;have HB1:=Zh hb1;clear hb1 x0 x1 x2 x3)
  go_ret2
  exact ⟨rfl,Zaf HB.out HB1.out⟩
end
section
open Go.RowKit
theorem Zrz (m:Md) (h:Hd) (w:World) (H:Zay w h m):Calls Tryz.prog 32 #[.agg #[.slice h.co m.cl.length h.cc,.slice h.so m.st.length h.sc,.slice h.eo m.me.length h.ec,.int .i64 m.sel]] w (ZoF w):=by
  obtain ⟨w0,hw0⟩:∃ w0,w0=w.alloc (.cells #[.slice h.co m.cl.length h.cc,.slice h.so m.st.length h.sc,.slice h.eo m.me.length h.ec,.int .i64 m.sel] 26):=⟨_,rfl⟩
  have HB:=Zh (show Below w.heap.size w w0 by rw [hw0];exact bE)
  have HX:=Zh (show Blk w0 w.heap.size #[.slice h.co m.cl.length h.cc,.slice h.so m.st.length h.sc,.slice h.eo m.me.length h.ec,.int .i64 m.sel] 26 by rw [hw0];exact Blk.new _ _ _)
  have HM:=Zh (H.old HB.out)
  have HW:=Zh hw0
  have hbz:=H.bz
  obtain ⟨z1,z2,z3⟩:=hbz
  clear hw0 H
  go_enter Tryz.func32,Tryz.ntmps32
  go_upto_region 1 with fail
  rw [←HW.out]
  have x0:=HX.out.cell 0 (v:=.slice h.co m.cl.length h.cc) rfl
  have x1:=HX.out.cell 1 (v:=.slice h.so m.st.length h.sc) rfl
  have x2:=HX.out.cell 2 (v:=.slice h.eo m.me.length h.ec) rfl
  go_upto_region 2 with fail
  clear x0 x1 x2
  go_wp2
  go_loopw [3,4] (fun s i wr=>∃ (k:Nat) (n:Int),k≤m.cl.length∧i=.int .i64 k∧s=.int .i64 n∧Hid (Below w0.heap.size w0 wr)) (fun _ i _=>m.cl.length-(intOf i).toNat)
  case atStart=>exact ⟨0,_,Nat.zero_le _,rfl,rfl,by exact bE⟩
  case round=>
    obtain ⟨k,n,hk,rfl,rfl,HBr⟩:=hrel
    rename World=>wo
    have x0:=(HX.out.old HBr.out).cell 0 (v:=.slice h.co m.cl.length h.cc) rfl
    by_cases hc:k<m.cl.length∧n≤400
    · obtain ⟨hkl,hn⟩:=hc
      have hkl2:(k:Int) < m.cl.length:=by omega
      have hwk:IntKind.i64.wrap ((k:Int)+1)=((k+1:Nat):Int):=IntWalk.i64_in _ (by omega)
      obtain ⟨ad,had,-,-,e2,e3⟩:=(HM.out.old HBr.out).cls hkl
      rw [had] at x0
      clear had
      go_upto_region 5 with fail
      refine rO (Cs [(⟨w.heap.size,0,none⟩,.slice (some ad) m.cl.length h.cc),(⟨(ad.add (k*4)).block,(ad.add (k*4)).off+2,none⟩,.slice (h.c k).fo (m.cl.getD k default).f.length (h.c k).fc),(⟨(ad.add (k*4)).block,(ad.add (k*4)).off+3,none⟩,.slice (h.c k).mo (m.cl.getD k default).m.length (h.c k).mc)]) (oL [0,1,2,3,4,5,6,7,8,9,10,11,12,13,14,15,16,17]) ⟨x0,e2,e3,trivial⟩ ?_
      clear x0 e2 e3
      repeat refine pO ?_
      refine Zd5 ?_
      go_wp2
      exact ⟨⟨k+1,_,hkl,rfl,rfl,HBr.out.drew⟩,by simp [intOf];omega⟩
    · by_cases hkl:k<m.cl.length
      all_goals first
        | (have hkl2:(k:Int) < m.cl.length:=by omega
           have hn:¬ n≤400:=fun q=>hc ⟨hkl,q⟩
           have hn2:400<n:=by omega
           clear hc
           go_wp2)
        | (have hkl2:¬ (k:Int) < m.cl.length:=by omega
           clear hc
           go_wp2)
      all_goals
        clear x0
        go_loopw [3,5] (fun s i wr=>∃ (k:Nat) (n:Int),k≤m.me.length∧i=.int .i64 k∧s=.int .i64 n∧Hid (Below w0.heap.size w0 wr)) (fun _ i _=>m.me.length-(intOf i).toNat)
        case atStart=>exact ⟨0,_,Nat.zero_le _,rfl,rfl,HBr.out⟩
        case round=>
          obtain ⟨q,p,hq,rfl,rfl,HBs⟩:=hrel
          rename World=>wi
          have x2:=(HX.out.old HBs.out).cell 2 (v:=.slice h.eo m.me.length h.ec) rfl
          by_cases hc:q<m.me.length∧p≤3000
          · obtain ⟨hql,hp⟩:=hc
            have hql2:(q:Int) < m.me.length:=by omega
            have hwq:IntKind.i64.wrap ((q:Int)+1)=((q+1:Nat):Int):=IntWalk.i64_in _ (by omega)
            obtain ⟨ad,had,-,-,e2,e3,-,-,e6⟩:=(HM.out.old HBs.out).mth hql
            rw [had] at x2
            clear had
            go_upto_region 9 with fail
            refine rO (Cs [(⟨w.heap.size,2,none⟩,.slice (some ad) m.me.length h.ec),(⟨(ad.add (q*7)).block,(ad.add (q*7)).off+2,none⟩,.slice (h.e q).po (m.me.getD q default).p.length (h.e q).pc),(⟨(ad.add (q*7)).block,(ad.add (q*7)).off+3,none⟩,.slice (h.e q).lo (m.me.getD q default).l.length (h.e q).lc),(⟨(ad.add (q*7)).block,(ad.add (q*7)).off+6,none⟩,.slice (h.e q).ko (m.me.getD q default).k.length (h.e q).kc)]) (oL [0,1,2,3,4,5,6,7,8,9,10,11,12,13,14,15,16,17,18,19,20,21,22,23,24,25]) ⟨x2,e2,e3,e6,trivial⟩ ?_
            clear x2 e2 e3 e6
            repeat refine pO ?_
            refine Zd5 ?_
            go_wp2
            exact ⟨⟨q+1,_,hql,rfl,rfl,HBs.out.drew⟩,by simp [intOf];omega⟩
          · by_cases hql:q<m.me.length
            all_goals first
              | (have hql2:(q:Int) < m.me.length:=by omega
                 have hp:¬ p≤3000:=fun q=>hc ⟨hql,q⟩
                 clear hc
                 go_wp2)
              | (have hql2:¬ (q:Int) < m.me.length:=by omega
                 clear hc
                 go_wp2)
            all_goals
              go_ret
              exact ⟨⟨_,rfl⟩,Zaf HB.out HBs.out⟩
theorem ZrA {m:Md} (h:MdB m):ZnQ m:=
 ⟨by have:=h.z;omega,by have:=h.z;omega,by have:=h.z;omega,fun i hi=>by have:=h.c i hi;omega,fun i hi=>by have:=h.m i hi;omega⟩
theorem ZrB (m:Md) (h:Hd) (k:Int) (w:World) (H:Zay w h m) (hsz:MdB m):Calls Tryz.prog 8 #[.agg #[.slice h.co m.cl.length h.cc,.slice h.so m.st.length h.sc,.slice h.eo m.me.length h.ec,.int .i64 m.sel],.int .i64 k] w (Ret w (.bool true)):=by
 obtain ⟨w0,hw0⟩:∃ w0,w0=w.alloc (.cells #[.slice h.co m.cl.length h.cc,.slice h.so m.st.length h.sc,.slice h.eo m.me.length h.ec,.int .i64 m.sel] 26):=⟨_,rfl⟩
 have HB:=Zh (show Below w.heap.size w w0 by rw [hw0];exact bE)
 have HX:=Zh (show Blk w0 w.heap.size #[.slice h.co m.cl.length h.cc,.slice h.so m.st.length h.sc,.slice h.eo m.me.length h.ec,.int .i64 m.sel] 26 by rw [hw0];exact Blk.new _ _ _)
 have HM:=Zh (H.old HB.out)
 have HW:=Zh hw0
 have HSm:=Zh (ZrA hsz)
 obtain ⟨⟨ra,re⟩,hq1⟩:∃ q,q=Zrn m k:=⟨_,rfl⟩
 obtain ⟨⟨rc,rg⟩,hq2⟩:∃ q,q=Zrq m k:=⟨_,rfl⟩
 have HA:=Zh (fun w' h' (H':Zay w' h' m)=>show Calls Tryz.prog 35 _ w' (Zhf w' (.bool ra) (.int .i64 re)) from by have:=Zrp m h' k w' H';rwa [←hq1] at this)
 have HA2:=Zh (fun w' (H':Zay w' h m)=>show Calls Tryz.prog 36 _ w' (Zhf w' (.bool ra) (.int .i64 re)) from by have:=Zry m h k w' H';rwa [←hq1] at this)
 have HC:=Zh (fun w' h' (H':Zay w' h' m)=>show Calls Tryz.prog 37 _ w' (Zhf w' (.int .i64 rc) (.int .i64 rg)) from by have:=Zrt m h' k w' H';rwa [←hq2] at this)
 have HC2:=Zh (fun w' (H':Zay w' h m)=>show Calls Tryz.prog 38 _ w' (Zhf w' (.int .i64 rc) (.int .i64 rg)) from by have:=Zru m h k w' H' (fun w'' h''=>Zry m h k w'' h'');rwa [←hq2] at this)
 clear hw0 H hsz hq1 hq2
 go_enter Tryz.func8,Tryz.ntmps8
 go_upto_region 1 with fail
 rw [←HW.out]
 obtain ⟨x0,x1,x2,x3⟩:=Zj5 HX.out
 go_upto_region 3 with (first
  | (go_at_call 32;refine (Zrz m h _ HM.out).mono ?_;rintro e w1 ⟨⟨b,rfl⟩,hb1⟩;have HB1:=Zh hb1;clear hb1 x0 x1 x2 x3;obtain ⟨x0,x1,x2,x3⟩:=Zj5 (HX.out.old HB1.out))
  | (go_at_call 33;refine (Zpk _).mono ?_;rintro e w2 ⟨rfl,hb2⟩))
 ·go_ret
  exact ZcT rfl (Zaf HB.out (Zaf HB1.out hb2))
 go_upto_region 4 with (go_at_call 34;refine (ZoR _ h m (HM.out.old HB1.out) HSm.out).mono ?_;rintro r w2 ⟨h2,rfl,hcp,hb2⟩;have HC0:=Zh hcp;have HB2:=Zh (Zaf HB1.out hb2);clear hcp hb2 x0 x1 x2 x3)
 obtain ⟨W3,hW3⟩:∃ W3,W3=w2.alloc (.cells #[.slice h2.co m.cl.length h2.cc,.slice h2.so m.st.length h2.sc,.slice h2.eo m.me.length h2.ec,.int .i64 m.sel] 26):=⟨_,rfl⟩
 have hnb:Blk W3 w2.heap.size #[.slice h2.co m.cl.length h2.cc,.slice h2.so m.st.length h2.sc,.slice h2.eo m.me.length h2.ec,.int .i64 m.sel] 26:=by rw [hW3];exact Blk.new w2 _ _
 have hb3:Below w2.heap.size w2 W3:=by rw [hW3];exact bE
 rw [←hW3]
 have HNb:=Zh hnb
 have HB3:=Zh (Zaf HB2.out hb3)
 have HX3:=Zh (HX.out.old HB3.out)
 have HM3:=Zh (HM.out.old HB3.out)
 have HD3:=Zh ((HC0.out.old hb3).at_ HSm.out)
 clear hW3 hnb hb3
 generalize w2.heap.size=NB at HNb ⊢
 have HBN:=Zh (Below.refl W3.heap.size W3)
 obtain ⟨x0,x1,x2,x3⟩:=Zj5 HX3.out
 obtain ⟨n0,n1,n2,n3⟩:=Zj5 (h:=h2) HNb.out
 go_wp2_with (first
  | (go_at_call 35;refine (HA.out _ h2 (HD3.out.old HBN.out)).mono ?_;rintro e w4 ⟨rfl,hb⟩;have HBN:=Zh (Zaf HBN.out hb);clear hb x0 x1 x2 x3 n0 n1 n2 n3;obtain ⟨x0,x1,x2,x3⟩:=Zj5 (HX3.out.old HBN.out);obtain ⟨n0,n1,n2,n3⟩:=Zj5 (h:=h2) (HNb.out.old HBN.out))
  | (go_at_call 36;refine (HA2.out _ (HM3.out.old HBN.out)).mono ?_;rintro e w5 ⟨rfl,hb⟩;have HBN:=Zh (Zaf HBN.out hb);clear hb x0 x1 x2 x3 n0 n1 n2 n3;obtain ⟨x0,x1,x2,x3⟩:=Zj5 (HX3.out.old HBN.out);obtain ⟨n0,n1,n2,n3⟩:=Zj5 (h:=h2) (HNb.out.old HBN.out))
  | (go_at_call 37;refine (HC.out _ h2 (HD3.out.old HBN.out)).mono ?_;rintro e w6 ⟨rfl,hb⟩;have HBN:=Zh (Zaf HBN.out hb);clear hb x0 x1 x2 x3 n0 n1 n2 n3;obtain ⟨x0,x1,x2,x3⟩:=Zj5 (HX3.out.old HBN.out);obtain ⟨n0,n1,n2,n3⟩:=Zj5 (h:=h2) (HNb.out.old HBN.out))
  | (go_at_call 38;refine (HC2.out _ (HM3.out.old HBN.out)).mono ?_;rintro e w7 ⟨rfl,hb⟩;have HBN:=Zh (Zaf HBN.out hb);clear hb x0 x1 x2 x3 n0 n1 n2 n3;obtain ⟨x0,x1,x2,x3⟩:=Zj5 (HX3.out.old HBN.out);obtain ⟨n0,n1,n2,n3⟩:=Zj5 (h:=h2) (HNb.out.old HBN.out))
  | (go_at_call 39;refine (Zq2 m h h2 _ (HM3.out.old HBN.out) (HD3.out.old HBN.out) HSm.out).mono ?_;rintro e w11 ⟨rfl,hb⟩;have HBN:=Zh (Zaf HBN.out hb);clear hb x0 x1 x2 x3 n0 n1 n2 n3)
  | (go_at_call 33;refine (Zpk _).mono ?_;rintro e w12 ⟨rfl,hb⟩))
 go_ret
 exact ZcT rfl (Zaf HB.out (Zaf HB3.out (Zaf HBN.out hb)))
end
end Go.Proofs.YtcfjblcgceednaaGreat
