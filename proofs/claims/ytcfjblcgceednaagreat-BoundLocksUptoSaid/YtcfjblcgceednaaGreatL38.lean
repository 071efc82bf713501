import Derived.Test.YtcfjblcgceednaaGreatL36
set_option linter.all false
set_option maxRecDepth 100000
set_option maxHeartbeats 8000000
namespace Go.Proofs.YtcfjblcgceednaaGreat
theorem j17{p:Prop}(h:p:=by
 unfold lkL;rw [List.take_succ_eq_append_getElem hp,List.filter_append,List.map_append];simp [h]):p:=h
section
open Go.RowKit
attribute [local go_sem] World.cell?_alloc_some
def lkL (c:List In3) (p:Nat):List Int:=((c.take p).filter fun i=>i.op == 31).map In3.a
def usL (m:Md) (L:List Int) (q:Nat):List Int:=(L.take q).flatMap fun k=>lkL (cdM m k.toNat) (cdM m k.toNat).length
theorem ZsY {c:List In3}{p:Nat} (hp:p<c.length) (h:(c.getD p default).op=31):lkL c (p+1)=lkL c p++[(c.getD p default).a]:=by
 have a:c.getD p default=c[p]:=by simp [hp]
 rw [a] at h ⊢;exact j17
theorem ZsZ {c:List In3}{p:Nat} (hp:p<c.length) (h:¬ (c.getD p default).op=31):lkL c (p+1)=lkL c p:=by
 have a:c.getD p default=c[p]:=by simp [hp]
 rw [a] at h;exact j17
theorem Zs0 {m:Md}{L:List Int}{q:Nat} (a:q<L.length):usL m L (q+1)=usL m L q++lkL (cdM m (L.getD q 0).toNat) (cdM m (L.getD q 0).toNat).length:=by
 have b:L.getD q 0=L[q]:=by simp [a]
 rw [b];unfold usL;rw [List.take_add_one,List.getElem?_eq_getElem a,List.flatMap_append];simp
def Zs1 (m:Md) (k:Nat) (V:List Int):Prop:=Asc V∧∀ x,x∈V↔∃ j:Nat,Rch m k j∧∃ i∈cdM m j,i.op=31∧i.a=x
theorem Zs2 {m:Md}{k:Nat}{V U:List Int} (h:Zs1 m k V) (g:Zs1 m k U):V=U:=Zdx h.1 g.1 fun x=>(h.2 x).trans (g.2 x).symm
theorem Zs3 {m:Md}{k:Nat}{L:List Int} (h:Zsl m k L):Zs1 m k (ZaM (usL m L L.length)):=by
 refine ⟨Zdv _,fun x=>?_⟩;rw [Zdw];unfold usL;rw [List.take_length,List.mem_flatMap];constructor
 ·rintro ⟨y,e,d⟩;obtain ⟨j,rfl,b⟩:=(h y).1 e;unfold lkL at d;rw [List.take_length,Int.toNat_natCast] at d;obtain ⟨i,a,rfl⟩:=List.mem_map.1 d;obtain ⟨a,c⟩:=List.mem_filter.1 a;exact ⟨j,b,i,a,by simpa using c,rfl⟩
 ·rintro ⟨j,b,i,a,c,rfl⟩;refine ⟨j,(h j).2 ⟨j,rfl,b⟩,?_⟩;unfold lkL;rw [List.take_length,Int.toNat_natCast];exact List.mem_map.2 ⟨i,List.mem_filter.2 ⟨a,by simpa using c⟩,rfl⟩
def Zs4 (w:World) (m:Md) (k:Nat):Ending→World→Prop:=fun e w'=>(∃ (ao:Option Addr) (cap:Nat) (V:List Int),Zs1 m k V∧e=.returned (.tuple #[.slice ao V.length cap,.int .i64 0])∧Zar w' ao cap V)∧Below w.heap.size w w'
theorem Zs5 (m:Md) (h:Hd) (k:Int) (w:World) (H:Zay w h m) (f:ZoS m k=false):Calls Tryz.prog 48 #[.agg (HM.mk h m),.int .i64 k] w (Zhf w (.slice none 0 0) (.int .i64 1)):=by
 have a:Below w.heap.size w (w.alloc (.cells (HM.mk h m) 26)):=by exact bE
 have d:=Zh (ZoU m h k _ (H.old a));rw [f] at d;have b:=Zh a;clear a H f;go_enter Tryz.func48,Tryz.ntmps48
 go_wp2_with (go_at_call 100;refine d.out.mono ?_;rintro e g ⟨rfl,c⟩)
 go_ret2;exact ⟨rfl,Zaf b.out c⟩
theorem Zs6 (m:Md) (h:Hd) (k:Nat) (w:World) (H:Zay w h m) (hr:ZoS m k=true) (hv:Za1 m=true) (hk:k<m.me.length):Calls Tryz.prog 48 #[.agg (HM.mk h m),.int .i64 k] w (Zs4 w m k):=by
 obtain ⟨S,D⟩:∃ S,S=w.alloc (.cells (HM.mk h m) 26):=⟨_,rfl⟩;have HB:=Zh (show Below w.heap.size w S by rw [D];exact bE);have HX:=Zh (show Blk S w.heap.size (HM.mk h m) 26 by rw [D];exact Blk.new _ _ _);have Hj:=Zh (H.old HB.out);have HW:=Zh D;have HA:=Zh (ZoU m h k S Hj.out);rw [if_pos hr] at HA;have aJ:=Zh (fun w' (hb:Below S.heap.size S w')=>Zrx m h k w' (Hj.out.old hb) hv hk);have HV:=Zh hv;have aS:=Zin hv;clear D H hr hv;go_enter Tryz.func48,Tryz.ntmps48
 go_upto_region 1 with fail
 rw [←HW.out];have x0:=HX.out.cell 0 (v:=.slice h.co m.cl.length h.cc) rfl;have x1:=HX.out.cell 1 (v:=.slice h.so m.st.length h.sc) rfl;have T:=HX.out.cell 2 (v:=.slice h.eo m.me.length h.ec) rfl;have x3:=HX.out.cell 3 (v:=.int .i64 m.sel) rfl
 go_upto_region 6 with (first
  | (go_at_call 100;refine HA.out.mono ?_;rintro e w1 ⟨rfl,g⟩;have V:=Zh g;have x0:=(g.cell (Zac x0)).trans x0;have x1:=(g.cell (Zac x1)).trans x1;have T:=(g.cell (Zac T)).trans T;have x3:=(g.cell (Zac x3)).trans x3;clear g)
  | (go_at_call 102;refine (aJ.out _ V.out).mono ?_;rintro e I ⟨⟨L,o1,c1,rfl,an,O,F⟩,ag⟩;have J:=Zh (Zaf V.out ag);have E:=Zh F;have Y:=Zh O;have am:L.length≤16:=Nat.le_trans (ZnB m.me.length L an fun j hj=>by have:=((O j).1 hj).le HV.out hk;omega) aS.2.1;clear ag F O an x0 x1 T x3))
 have aR:(ZqR L).length≤16:=by unfold ZqR;rw [List.length_mergeSort,List.length_map];exact am
 clear am;obtain ⟨B,af⟩:∃ B,B=ZqR L:=⟨_,rfl⟩;have N:=Zsm Y.out;rw [←af] at E aR N ⊢;have Z:=Zh N;clear af Y N
 go_loopw [7,22] (fun o i wr=>∃ (q:Nat) (M:Option Addr) (a:Nat) (b:List Int),q≤B.length∧i=.int .i64 q∧o=.slice M b.length a∧b.length≤q*120∧Hid (b=usL m B q)∧Hid (wr.ownsRow I.heap.size 3 1 (.slice M b.length a) b.length (b.map (Value.int .i64)))∧Hid (Below I.heap.size I wr)) (fun _ i _=>B.length-(intOf i).toNat)
 case atStart=>exact ⟨0,none,0,[],Nat.zero_le _,rfl,rfl,Nat.zero_le _,rfl,World.ownsRow_nil _ _ _ _,Below.refl _ _⟩
 case round=>
  obtain ⟨q,M,a,b,hq,rfl,rfl,bd,HZ,HO,f⟩:=hrel;rename World=>wq;have X:=Zh (Zaf J.out f.out);by_cases hql:q<B.length
  ·have aq:(q:Int) < B.length:=by omega
   have bb:IntKind.i64.wrap ((q:Int)+1)=((q+1:Nat):Int):=IntWalk.i64_in _ (by omega);obtain ⟨td,rfl,t0⟩:=ZaB (ZnA E.out (Znz.of f.out)) hql;obtain ⟨j,Q,ar⟩:=(Z.out _).1 (ZfU (0:Int) hql);have R:=Zs0 (m:=m) hql;rw [Q] at t0;rw [Q,Int.toNat_natCast] at R;have P:j<m.me.length:=by have:=ar.le HV.out hk;omega
   have a0:(j:Int) < m.me.length:=by omega
   have aQ:(cdM m j).length≤120:=(ZfN HV.out P).z.2.2;obtain ⟨ad,ak,-,-,-,-,-,-,e6⟩:=(Hj.out.old X.out).mth P;rw [show (m.me.getD j default).k.length=(cdM m j).length from rfl] at e6;have T:=(HX.out.old X.out).cell 2 (v:=.slice h.eo m.me.length h.ec) rfl;rw [ak] at T;have C:=Zh (show Zar I (h.e j).ko (h.e j).kc (cdM m j) from (Hj.out.old J.out).k j P);have aa:=Zh R;generalize (h.e j).ko=ko at e6 C;generalize (h.e j).kc=kc at e6 C;generalize cdM m j=cd at e6 C aQ aa;clear Q ar ak R
   go_upto_region 9 with fail
   clear t0 T e6
   go_loopw [7,33] (fun o i wr=>∃ (p:Nat) (U:Option Addr) (a:Nat) (d:List Int),p≤cd.length∧i=.int .i64 p∧o=.slice U d.length a∧d.length≤q*120+p∧Hid (d=b++lkL cd p)∧Hid (wr.ownsRow I.heap.size 3 1 (.slice U d.length a) d.length (d.map (Value.int .i64)))∧Hid (Below I.heap.size I wr)) (fun _ i _=>cd.length-(intOf i).toNat)
   case atStart=>exact ⟨0,M,a,b,Nat.zero_le _,rfl,rfl,by omega,by show b=b++lkL cd 0;unfold lkL;simp,HO.out,f.out⟩
   case round=>
    obtain ⟨p,U,n,d,hp,rfl,rfl,bc,HY,K,l⟩:=hrel;rename World=>wp;by_cases hpl:p<cd.length
    ·have ap:(p:Int) < cd.length:=by omega
     have ba:IntKind.i64.wrap ((p:Int)+1)=((p+1:Nat):Int):=IntWalk.i64_in _ (by omega);obtain ⟨kd,rfl,o0,av,o2⟩:=ZaA (C.out.old l.out) hpl;have c:=ZsY hpl;have r:=ZsZ hpl;obtain ⟨i,hi⟩:∃ i,i=cd.getD p default:=⟨_,rfl⟩;rw [←hi] at o0 av o2 c r;obtain ⟨op,ia,ib⟩:=i;dsimp only at o0 av o2 c r;have a8:=Zac o0;clear hi;by_cases hop:op=31
     ·have aM:=Zh (c hop);subst hop;have s:=K.out;clear c r
      go_wp2_with (at_builtin;refine Zaj rfl (.tmp 40) (.tmp 43) 34 rfl I.heap.size 3 1 8 Zcq (.slice U d.length n) d.length (d.map (Value.int .i64)) rfl ((s.alloc _).alloc _) _ 1 1 [.int .i64 ia] rfl (ZdL (Blk.new' #[.int .i64 ia] 3 (by simp)) rfl) (by intro u hu;rw [List.mem_singleton.1 hu];rfl) (by omega) (by unfold maxLen;omega) (by have:=l.out.size;simp;omega) ?_;intro aN ac be A al;have aI:=Zh A;have aD:=Zh (ZcV (bal (bal l.out _) _) al (fun j hj=>(s.lt j hj).1));clear A al)
      clear s;refine ⟨⟨p+1,aN,ac,d++[ia],hpl,rfl,by rw [List.length_append];rfl,by rw [List.length_append,List.length_singleton];omega,?_,?_,aD.out⟩,by simp [intOf];omega⟩
      ·show d++[ia]=b++lkL cd (p+1);rw [aM.out,HY.out,List.append_assoc]
      ·have h9:=aI.out;rw [List.length_append,List.map_append];exact h9
     ·have aF:=Zh (r hop);have a1:(op == 31)=false:=by simpa using hop
      clear c r
      go_wp2_with fail
      refine ⟨⟨p+1,U,n,d,hpl,rfl,rfl,by omega,?_,K.out.alloc _,bal l.out _⟩,by simp [intOf];omega⟩;show d=b++lkL cd (p+1);rw [aF.out,HY.out]
    ·have ap:¬ (p:Int) < cd.length:=by omega
     obtain rfl:p=cd.length:=by omega
     go_wp2_with fail
     refine ⟨⟨q+1,U,n,d,hql,rfl,rfl,by omega,?_,K.out,l.out⟩,by simp [intOf];omega⟩;show d=usL m B (q+1);rw [aa.out,HY.out,HZ.out]
  ·have aq:¬ (q:Int) < B.length:=by omega
   obtain rfl:q=B.length:=by omega
   have aj:=ZdD b;have HC:=Zh aj;have au:=ZdA b;clear aj
   go_wp2_with fail
   refine (ZdJ M b.length a b _ HO.out (by omega) f.out.size).mono ?_;rintro e1 w3 ⟨rfl,t,ah⟩;have aG:=Zh t;have W:=Zh ah;clear t ah
   go_wp2_with fail
   refine (ZdK M b.length a (b.mergeSort fun x y=>decide (x≤y)) _ aG.out (by omega) (by have:=f.out.size;have:=W.out.size;omega) (by rw [HC.out];exact au)).mono ?_;rintro e2 w4 ⟨rfl,z,ai⟩;have aH:=Zh z;have aC:=Zh ai;clear z ai;go_wp2;go_ret2;have G:=Zs3 Z.out;rw [←HZ.out] at G;refine ⟨⟨M,a,ZaM b,G,by rw [HC.out];rfl,?_⟩,Zaf HB.out (Zaf J.out ((f.out.trans W.out).trans aC.out))⟩;have h4:=aH.out;rw [HC.out] at h4;exact Zar.of_own (by rw [Zat];exact h4)
end
