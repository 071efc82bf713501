import Derived.Test.YtfmcclhfnpcokaaGreatS32
set_option linter.all false
set_option maxRecDepth 100000
set_option maxHeartbeats 32000000
namespace Go.Proofs.YtfmcclhfnpcokaaGreat
theorem kC2{p:Prop}(h:p:=by
 go_wp2_with (go_at_call 22;refine (Zpb _).mono ?_;rintro e wz ⟨rfl,hbz⟩)
 go_ret;exact ZcP rfl (Zag HB.out (Zag HBq.out hbz))):p:=h
theorem kC3{p:Prop}(h:p:=by
 go_wp2_with (go_at_call 22;refine (Zpb _).mono ?_;rintro e wz ⟨rfl,hbz⟩)
 go_ret;exact ZcP rfl (Zag HB.out (Zag HB8.out hbz))):p:=h
section
open Go.RowKit
attribute [local go_sem] World.cell?_alloc_some
theorem ZsO (m:Md) (h:Hd) (c k:Int) (w:World) (H:Zaz w h m):Calls Tryz.prog 9 #[.agg (HM.mk h m),.int .i64 c,.int .i64 k] w (Ret w (.bool true)):=by
 obtain ⟨w0,P⟩:∃ w0,w0=w.alloc (.cells (HM.mk h m) 26):=⟨_,rfl⟩;have HB:=Zh (show Below w.heap.size w w0 by rw [P];exact bE);obtain ⟨X,hX⟩:∃ X,X=w.heap.size:=⟨_,rfl⟩;have G:=Zh (show Blk w0 X (HM.mk h m) 26 by rw [P,hX];exact Blk.new _ _ _);have z:=Zh (H.old HB.out);have HW:=Zh P;have aD:=Zh hX;have M:=Zh (fun s (h':Zaz s h m)=>ZsK m h s h');clear P H hX;by_cases hin:okL m∧(0≤c∧c<m.cl.length)∧0≤k∧k<m.me.length
 ·obtain ⟨O,⟨h0,h1⟩,h2,h3⟩:=hin;obtain ⟨d,rfl⟩:∃ d:Nat,c=d:=⟨c.toNat,by omega⟩;have hd:d<m.cl.length:=by omega
  obtain ⟨n,rfl⟩:∃ n:Nat,k=n:=⟨k.toNat,by omega⟩;have hn:n<m.me.length:=by omega
  have hm:=O.v;have L:=Zh (fun s (h':Zaz s h m)=>ZsD m h s h');have N:=Zh (fun s (h':Zaz s h m)=>ZsN m h n s h');have au:=Zh (fun s (h':Zaz s h m)=>Zjo m h n s h' hm hn);have az:=Zh (Zir hm);rw [show ZsB m=(ZqL m m.cl.length,0) from if_pos O] at L;dsimp only at L;have aS:ZqK m n=Zph (ZpR m n):=by unfold ZqK;rw [if_pos ⟨O,h2,h3⟩,Int.toNat_natCast]
  rw [aS] at N;have ay:=Zh (fun (hf:(⟨2,d⟩:Ty)∈fsC m d) (hn:ZnV m d=true)=>ZqF hd hf hn);have E:=Zh (fun (hf:(⟨2,d⟩:Ty)∈fsC m d) (l:ZnV m d=true) (hx:(⟨2,d⟩:Ty)∈ZeH (m.me.getD n default))=>ZqI hm hd hn hf l hx);have an:=Zh (fun (q:Zn1 m d=none)=>(ZqN (m:=m) (j:=m.cl.length)).2 ⟨hd,q⟩);have am:=Zh (ZsC m m.cl.length);have ar:=Zh (ZfS hm hn);generalize ZeH (m.me.getD n default)=ls at au E ar;generalize ZqL m m.cl.length=cl at L an am;generalize ZpR m n=mt at N E;have aB:=Zh (show mt=none→Zph mt=(z3,10) from fun q=>by rw [q];rfl);generalize Zph mt=r at N aB;obtain ⟨⟨e0,e1,e2⟩,er⟩:=r;rw [if_pos (show (Zmk m).2.2=0 from O)] at M;obtain ⟨F,hF⟩:∃ F,F=fsC m d:=⟨_,rfl⟩;have ap:=Zh hF;have a9:=Zh (show F.length≤7 by rw [hF];exact ZsI hm hd);have HD:=Zh (And.intro hd hn);have bJ:¬ m.cl.length≤d:=by omega
  have bK:¬ m.me.length≤n:=by omega
  have bG:¬ (d:Int) < 0:=by omega
  have bH:¬ (n:Int) < 0:=by omega
  clear O hm aS h0 h2 hF;go_enter Tryz.func9,Tryz.ntmps9
  go_upto_region 1 with fail
  rw [←HW.out,←aD.out];obtain ⟨o,u,g,x⟩:=Zj8 G.out
  go_upto_region 3 with (first|(go_at_call 20;refine (Zsp m h _ z.out).mono ?_;rintro e w1 ⟨⟨b,rfl⟩,I⟩;have a:=Zh I;clear I;clear o u g x;obtain ⟨o,u,g,x⟩:=Zj8 (G.out.old a.out))|(go_at_call 21;refine (M.out _ (z.out.old a.out)).mono ?_;rintro e K ⟨rfl,t⟩;have a:=Zh (Zag a.out t);clear t;clear o u g x;obtain ⟨o,u,g,x⟩:=Zj8 (G.out.old a.out))|(go_at_call 22;refine (Zpb _).mono ?_;rintro e wz ⟨rfl,hbz⟩))
  ·go_ret;exact ZcP rfl (Zag HB.out (Zag a.out hbz))
  go_upto_region 4 with fail
  obtain ⟨T,hT⟩:∃ T,T=K.heap.size:=⟨_,rfl⟩;obtain ⟨R,Q⟩:∃ R,R=K.alloc (.cells #[.int .i64 2,.int .i64 d] 38):=⟨_,rfl⟩;have ak:=Zh (Zag a.out (show Below K.heap.size K R by rw [Q];exact bE));have aA:=Zh (show Blk R T #[.int .i64 2,.int .i64 d] 38 by rw [Q,hT];exact Blk.new _ _ _);rw [←Q,←hT];clear Q hT o u g x;go_wp2
  go_loopw [8,10] (fun b i wr=>∃ (j:Nat) (bb:Bool),j≤F.length∧i=.int .i64 j∧b=.bool bb∧Hid (Below R.heap.size R wr)∧Hid (bb=true→(⟨2,d⟩:Ty)∈fsC m d)) (fun _ i _=>F.length-(intOf i).toNat)
  case atStart=>exact ⟨0,false,Nat.zero_le _,rfl,rfl,Below.refl _ _,fun e=>by cases e⟩
  case round=>
   obtain ⟨j,bb,hj,rfl,rfl,B,al⟩:=hrel;rename World=>wo;have V:=Zh (Zag ak.out B.out);have o:=(G.out.old V.out).cell 0 (v:=.slice h.co m.cl.length h.cc) rfl;obtain ⟨ad,aI,-,-,e2,-⟩:=(z.out.old V.out).cls hd;have y:=(z.out.old V.out).f d hd;rw [show (m.cl.getD d default).f=F from ap.out.symm] at e2 y;rw [aI] at o;clear aI;by_cases hjl:j<F.length
   ·have aQ:(j:Int) < F.length:=by omega
    have bM:IntKind.i64.wrap ((j:Int)+1)=((j+1:Nat):Int):=IntWalk.i64_in _ (by have:=a9.out;omega);obtain ⟨fd,aO,f0,f1⟩:=ZaA y hjl;have f:F.getD j default∈F:=by rw [show F.getD j default=F[j] by simp [hjl]];exact List.getElem_mem hjl
    rw [aO] at e2;obtain ⟨t0,t1⟩:=Zj9 (aA.out.old B.out);generalize F.getD j default=ty at f0 f1 f;obtain ⟨tk,tc⟩:=ty;dsimp only at f0 f1;obtain ⟨q,l⟩:∃ q,q=decide ((⟨tk,tc⟩:Ty)=⟨2,d⟩):=⟨_,rfl⟩;have aN:=fun w=>(ZdX w tk tc 2 d).trans (by rw [←l]);have aP:=ZdZ;have HQ:=Zh (show q=true→(⟨2,d⟩:Ty)∈fsC m d from fun e=>by rw [e] at l;have:=of_decide_eq_true l.symm;rw [←this,←ap.out];exact f);clear l f aO y;cases bb
    ·go_wp2
     go_quiet (fail)
     go_wp2;exact ⟨⟨j+1,q,hjl,rfl,rfl,ZcQ B.out _,HQ.out⟩,by simp [intOf];omega⟩
    ·go_wp2
     go_quiet (fail)
     go_wp2;exact ⟨⟨j+1,true,hjl,rfl,rfl,ZcQ B.out _,fun _=>al.out trivial⟩,by simp [intOf];omega⟩
   ·have aQ:¬ (j:Int) < F.length:=by omega
    go_wp2;clear o e2 y
    go_loopw [9,11] (fun b i wr=>∃ (p:Nat) (mb:Bool),p≤m.me.length∧i=.int .i64 p∧b=.bool mb∧Hid (Below R.heap.size R wr)∧Hid (mb=true→ZnV m d=true)) (fun _ i _=>m.me.length-(intOf i).toNat)
    case atStart=>exact ⟨0,false,Nat.zero_le _,rfl,rfl,B.out,fun e=>by cases e⟩
    case round=>
     obtain ⟨p,mb,hp,rfl,rfl,W,aw⟩:=hrel;rename World=>wp;have HBq:=Zh (Zag ak.out W.out);have g:=(G.out.old HBq.out).cell 2 (v:=.slice h.eo m.me.length h.ec) rfl;by_cases hpl:p<m.me.length
     ·have aT:(p:Int) < m.me.length:=by omega
      have bN:IntKind.i64.wrap ((p:Int)+1)=((p+1:Nat):Int):=IntWalk.i64_in _ (by have:=az.out;omega);obtain ⟨ea,aM,-,-,-,-,-,-,e6⟩:=(z.out.old HBq.out).mth hpl;rw [aM] at g;have bn:=(z.out.bm p hpl).2.2;obtain ⟨C,hC⟩:∃ C,C=cdM m p:=⟨_,rfl⟩;rw [show (m.me.getD p default).k=C from hC.symm] at e6 bn;have bB:=Zh hC;have bh:=Zh (show Zas wp (h.e p).ko (h.e p).kc C by rw [hC];exact (z.out.old HBq.out).k p hpl);have a8:=Zh (show ∀ s,Below wp.heap.size wp s→s.cell? ⟨X,2,none⟩=some (.slice (some ea) m.me.length h.ec)∧s.cell? ⟨(ea.add (p*7)).block,(ea.add (p*7)).off+6,none⟩=some (.slice (h.e p).ko C.length (h.e p).kc) from fun s hb=>⟨(hb.cell (Zad g)).trans g,(hb.cell (Zad e6)).trans e6⟩);have bc:=Zh (fun j (hj:j<C.length) (e:C.getD j default=⟨14,d,0⟩)=>ZsJ (m:=m) (c:=d) hpl (by rw [←hC];exact hj) (by rw [←hC];exact e));clear aM hC;go_wp2;clear g e6
      go_loopw [9,12] (fun b i wr=>∃ (j:Nat) (nb:Bool),j≤C.length∧i=.int .i64 j∧b=.bool nb∧Hid (Below wp.heap.size wp wr)∧Hid (nb=true→ZnV m d=true)) (fun _ i _=>C.length-(intOf i).toNat)
      case atStart=>exact ⟨0,mb,Nat.zero_le _,rfl,rfl,Below.refl _ _,aw.out⟩
      case round=>
       obtain ⟨j,nb,hj,rfl,rfl,A,av⟩:=hrel;rename World=>wj;obtain ⟨g,e6⟩:=a8.out _ A.out;by_cases hjl:j<C.length
       ·have J:(j:Int) < C.length:=by omega
        have bo:IntKind.i64.wrap ((j:Int)+1)=((j+1:Nat):Int):=IntWalk.i64_in _ (by omega);obtain ⟨ka,aR,i0,i1,i2⟩:=ZaB (bh.out.old A.out) hjl;rw [aR] at e6;have af:=bc.out j hjl;generalize C.getD j default=ins at i0 i1 i2 af;obtain ⟨aW,ia,ib⟩:=ins;dsimp only at i0 i1 i2;obtain ⟨q,l⟩:∃ q,q=decide ((⟨aW,ia,ib⟩:In3)=⟨14,d,0⟩):=⟨_,rfl⟩;have aN:=fun w=>(ZsH w aW ia ib 14 d 0).trans (by rw [←l]);have aP:=ZsF;have HQ:=Zh (show q=true→ZnV m d=true from fun e=>af (of_decide_eq_true (l.symm.trans e)));clear l af aR;cases nb
        ·go_wp2;exact ⟨⟨j+1,q,hjl,rfl,rfl,A.out,HQ.out⟩,by simp [intOf];omega⟩
        ·go_wp2;exact ⟨⟨j+1,true,hjl,rfl,rfl,A.out,fun _=>av.out (by trivial)⟩,by simp [intOf];omega⟩
       ·have J:¬ (j:Int) < C.length:=by omega
        go_wp2;exact ⟨⟨p+1,nb,hpl,rfl,rfl,Zag W.out A.out,av.out⟩,by simp [intOf];omega⟩
     ·have aT:¬ (p:Int) < m.me.length:=by omega
      go_upto_region 16 with fail
      clear g;cases bb
      ·exact kC2
      cases mb
      ·exact kC2
      have hf:=al.out rfl;have l:=aw.out rfl;have aL:=an.out (ay.out hf l);have aq:=Zh (fun s ao Y hr=>by have:=Zsn cl ao Y (d:Int) s hr (by have:=am.out;have:=az.out;omega);rwa [decide_eq_true aL] at this);have ba:=Zh (fun hx=>aB.out (E.out hf l hx));clear hf l aL;obtain ⟨o,u,g,x⟩:=Zj8 (G.out.old HBq.out)
      go_wp2_with (first
       | (go_at_call 34;refine (L.out _ (z.out.old HBq.out)).mono ?_;rintro e w3 ⟨⟨ao,Y,rfl,aU⟩,Z⟩;have bf:=Zh aU;have a5:=Zh (Zag HBq.out Z);have bd:=Zh (Zag W.out Z);clear aU Z o u g x)
       | (go_at_call 38;refine (aq.out _ ao Y bf.out).mono ?_;rintro e w4 ⟨rfl,aa⟩;have S:=Zh (Zag a5.out aa);have be:=Zh (Zag bd.out aa);clear aa;obtain ⟨o,u,g,x⟩:=Zj8 (G.out.old S.out))
       | (go_at_call 44;refine (au.out _ (z.out.old S.out)).mono ?_;rintro e w5 ⟨⟨lo,lc,rfl,aV⟩,ab⟩;have bg:=Zh (Zas.of_own aV);have a6:=Zh (Zag S.out ab);have bi:=Zh (aA.out.old (Zag be.out ab));clear aV ab o u g x))
      go_loopw [15,18] (fun b i wr=>∃ (j:Nat) (xb:Bool),j≤ls.length∧i=.int .i64 j∧b=.bool xb∧Hid (Below w5.heap.size w5 wr)∧Hid (xb=true→(⟨2,d⟩:Ty)∈ls)) (fun _ i _=>ls.length-(intOf i).toNat)
      case atStart=>exact ⟨0,false,Nat.zero_le _,rfl,rfl,Below.refl _ _,fun e=>by cases e⟩
      case round=>
       obtain ⟨j,xb,hj,rfl,rfl,D,aC⟩:=hrel;rename World=>wx;by_cases hjl:j<ls.length
       ·have J:(j:Int) < ls.length:=by omega
        have bo:IntKind.i64.wrap ((j:Int)+1)=((j+1:Nat):Int):=IntWalk.i64_in _ (by have:=ar.out;omega);obtain ⟨la,rfl,f0,f1⟩:=ZaA (bg.out.old D.out) hjl;have f:ls.getD j default∈ls:=by rw [show ls.getD j default=ls[j] by simp [hjl]];exact List.getElem_mem hjl
        obtain ⟨t0,t1⟩:=Zj9 (bi.out.old D.out);generalize ls.getD j default=ty at f0 f1 f;obtain ⟨tk,tc⟩:=ty;dsimp only at f0 f1;obtain ⟨q,l⟩:∃ q,q=decide ((⟨tk,tc⟩:Ty)=⟨2,d⟩):=⟨_,rfl⟩;have aN:=fun w=>(ZdX w tk tc 2 d).trans (by rw [←l]);have aP:=ZdZ;have HQ:=Zh (show q=true→(⟨2,d⟩:Ty)∈ls from fun e=>by rw [e] at l;have:=of_decide_eq_true l.symm;rw [←this];exact f);clear l f;cases xb
        ·go_wp2
         go_quiet (fail)
         go_wp2;exact ⟨⟨j+1,q,hjl,rfl,rfl,ZcQ D.out _,HQ.out⟩,by simp [intOf];omega⟩
        ·go_wp2
         go_quiet (fail)
         go_wp2;exact ⟨⟨j+1,true,hjl,rfl,rfl,ZcQ D.out _,fun _=>aC.out (by trivial)⟩,by simp [intOf];omega⟩
       ·have J:¬ (j:Int) < ls.length:=by omega
        have U:=Zh (Zag a6.out D.out);obtain ⟨o,u,g,x⟩:=Zj8 (G.out.old U.out)
        go_upto_region 28 with (go_at_call 41;refine (N.out _ (z.out.old U.out)).mono ?_;rintro e w7 ⟨rfl,aJ⟩;have a7:=Zh (Zag U.out aJ);clear aJ o u g x)
        have HB8:=Zh (Zag a7.out (show Below w7.heap.size w7 (w7.alloc (.cells #[.int .i64 e0,.int .i64 e1,.int .i64 e2] 45)) by exact bE));cases xb
        ·exact kC3
        ·obtain ⟨-,rfl⟩:=Prod.mk.inj (ba.out (aC.out rfl));exact kC3
 ·have aK:((if (Zmk m).2.2=0 then (0:Int) else 1)=1)∨((if (Zmk m).2.2=0 then (0:Int) else 1)=0∧(c<0∨(0≤c∧(m.cl.length:Int)≤c)∨(0≤c∧c<m.cl.length∧k<0)∨(0≤c∧c<m.cl.length∧0≤k∧(m.me.length:Int)≤k))):=by
   by_cases O:okL m
   ·refine .inr ⟨if_pos O,?_⟩;have:¬ ((0≤c∧c<m.cl.length)∧0≤k∧k<m.me.length):=fun e=>hin ⟨O,e⟩;omega
   ·exact .inl (if_neg O)
  generalize (if (Zmk m).2.2=0 then (0:Int) else 1)=fq at M aK;clear hin;rcases aK with rfl|⟨rfl,hc|⟨hc,hc2⟩|⟨hc,hc2,hk⟩|⟨hc,hc2,hk,hk2⟩⟩
  all_goals
   go_enter Tryz.func9,Tryz.ntmps9
   go_upto_region 1 with fail
   rw [←HW.out,←aD.out];obtain ⟨o,u,g,x⟩:=Zj8 G.out
   go_wp2_with (first|(go_at_call 20;refine (Zsp m h _ z.out).mono ?_;rintro e w1 ⟨⟨b,rfl⟩,I⟩;have a:=Zh I;clear I;clear o u g x;obtain ⟨o,u,g,x⟩:=Zj8 (G.out.old a.out))|(go_at_call 21;refine (M.out _ (z.out.old a.out)).mono ?_;rintro e K ⟨rfl,t⟩;have a:=Zh (Zag a.out t);clear t;clear o u g x;obtain ⟨o,u,g,x⟩:=Zj8 (G.out.old a.out))|(go_at_call 22;refine (Zpb _).mono ?_;rintro e wz ⟨rfl,hbz⟩))
   all_goals
    go_ret;exact ZcP rfl (Zag HB.out (Zag a.out hbz))
end
