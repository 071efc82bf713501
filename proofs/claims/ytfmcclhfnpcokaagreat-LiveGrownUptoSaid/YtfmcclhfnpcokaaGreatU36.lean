import Derived.Test.YtfmcclhfnpcokaaGreatU34
import Derived.Test.YtfmcclhfnpcokaaGreatU32
set_option linter.all false
set_option maxRecDepth 100000
set_option maxHeartbeats 32000000
namespace Go.Proofs.YtfmcclhfnpcokaaGreat
section
open Go.RowKit
attribute [local go_sem] World.cell?_alloc_some
end
section
open Go.RowKit
attribute [local go_sem] World.cell?_alloc_some
end
section
open Go.RowKit
attribute [local go_sem] World.cell?_alloc_some
end
section
open Go.RowKit
attribute [local go_sem] World.cell?_alloc_some
theorem ZrS {m:Md}{t:Ty} (a:Za2 m=true):ZqQ m t 1=ZaG m.cl.length t 1:=by
 unfold ZqQ;rw [a,Bool.true_and];cases h:ZaG m.cl.length t 1
 ·rw [Bool.and_false]
 ·rw [Bool.and_true];unfold ZaG at h;simp only [Bool.and_eq_true,decide_eq_true_eq];split at h
  ·omega
  ·split at h
   ·simp at h;omega
   ·cases h
theorem ZrT (m:Md) (h:Hd) (t:Ty) (w:World) (H:Zaz w h m):Calls Tryz.prog 23 #[.agg (HM.mk h m),.agg #[.int .i64 t.k,.int .i64 t.c]] w (ZpV (ZqA m t) w):=by
 obtain ⟨N,n⟩:∃ N,N=((w.alloc (.cells (HM.mk h m) 26)).alloc (.cells #[.int .i64 t.k,.int .i64 t.c] 38)).alloc (.cells #[.int .i64 0,.int .i64 0,.int .i64 0] 45):=⟨_,rfl⟩;have HB:=Zh (show Below w.heap.size w N by rw [n];exact bE);obtain ⟨X,hX⟩:∃ X,X=w.heap.size:=⟨_,rfl⟩;have HX:=Zh (show Blk N X (HM.mk h m) 26 by rw [n,hX];exact ((Blk.new _ _ _).alloc _).alloc _);have HT:=Zh (show Blk N (X+1) #[.int .i64 t.k,.int .i64 t.c] 38 by rw [n,hX];exact (Blk.new' (w:=w.alloc _) _ _ (by simp)).alloc _);have G:=Zh (show Blk N (X+1+1) (cl3 0 0 0) 45 by rw [n,hX];exact Blk.new' (w:=(w.alloc _).alloc _) _ _ (by simp));have HW:=Zh n;have al:=Zh hX;have am:=Zh (show w.heap.size≤X+1+1 by omega);clear hX;have Hj:=Zh (H.old HB.out);have J:=Zh (ZqP m h N Hj.out);have j:=Zh (fun g (h':Zaz g h m)=>ZqR m h t 1 g h');have L:=Zh (show ∀ (x:T3) (V:Bool),(V=true→Zm3 m t=some x)→(V=false→ZoW m [] t)→∀ g,Calls Tryz.prog 75 #[ag3 x,.bool V] g (ZpV (ZpU (Zm3 m t)) g) from fun x V h1 h2 g=>by
  cases V
  ·rw [(h2 rfl).nil];exact ZpW x g
  ·rw [h1 rfl];exact ZpX x g)
 clear n H;by_cases hq:okL m∧Zfk m t
 ·obtain ⟨D,ht⟩:=hq;have hm:=D.v;have B:ZqA m t=ZpU (Zm3 m t):=if_pos ⟨D,ht⟩;rw [B];have aL:=Zh (fun g (h':Zaz g h m)=>Zre m h g h' hm);have O:=Zh (fun S M g (h':ZoR g S M h m [])=>ZrI D ht g h');rw [ZrS hm,show ZaG m.cl.length t 1=true from ht] at j;rw [decide_eq_true D] at J;generalize Zm3 m t=v at L O ⊢;generalize ZpU v=r at L ⊢;obtain ⟨⟨e0,e1,e2⟩,er⟩:=r;obtain ⟨tk,tc⟩:=t;dsimp only at HT HW j O;clear B D ht hm;go_enter Tryz.func23,Tryz.ntmps23
  go_upto_region 1 with fail
  rw [←HW.out,←al.out];obtain ⟨W,Y,Z,x3⟩:=Zj8 HX.out
  go_upto_region 3 with (first
   | (go_at_call 73;refine J.out.mono ?_;rintro e w1 ⟨rfl,s⟩;(try simp only [ag3]);have b:=Zh s;clear s W Y Z x3;obtain ⟨W,Y,Z,x3⟩:=Zj8 (HX.out.old b.out);obtain ⟨t0,t1⟩:=Zj9 (HT.out.old b.out))
   | (go_at_call 74;refine (j.out _ (Hj.out.old b.out)).mono ?_;rintro e w2 ⟨rfl,u⟩;(try simp only [ag3]);have i:=Zh (Zag b.out u);clear u W Y Z x3 t0 t1))
  have aO:=Zh (HX.out.old i.out);have aM:=Zh (HT.out.old i.out);have a0:=Zh (G.out.old i.out);have HC:=Zh (show ∀ g,Blk g X (HM.mk h m) 26→Blk g (X+1) #[.int .i64 tk,.int .i64 tc] 38→Cs [(⟨X,0,none⟩,.slice h.co m.cl.length h.cc),(⟨X,1,none⟩,.slice h.so m.st.length h.sc),(⟨X,2,none⟩,.slice h.eo m.me.length h.ec),(⟨X,3,none⟩,.int .i64 m.sel),(⟨X+1,0,none⟩,.int .i64 tk),(⟨X+1,1,none⟩,.int .i64 tc)] g from fun g h1 h2=>⟨h1.cell 0 rfl,h1.cell 1 rfl,h1.cell 2 rfl,h1.cell 3 rfl,h2.cell 0 rfl,h2.cell 1 rfl,trivial⟩);refine rO (Cs [(⟨X,0,none⟩,.slice h.co m.cl.length h.cc),(⟨X,1,none⟩,.slice h.so m.st.length h.sc),(⟨X,2,none⟩,.slice h.eo m.me.length h.ec),(⟨X,3,none⟩,.int .i64 m.sel),(⟨X+1,0,none⟩,.int .i64 tk),(⟨X+1,1,none⟩,.int .i64 tc)]) (oL [0,2,101,103,4,5,106,7,8,109,10]) (HC.out _ aO.out.drew aM.out.drew) ?_
  (refine pO ?_)
  (refine pO ?_)
  refine oO fun R q=>?_;go_simp;refine (aL.out _ (Hj.out.old (Zag i.out (Below.refl _ _).drew))).mono ?_;rintro e w3 ⟨S,M,rfl,ap,ao,aP,T⟩
  try simp only [ag3]
  have K:=Zh ap;have E:=Zh (Zag i.out (Zag (Below.refl _ w2).drew ao));have aI:=Zh (show ∀ x∈M.s,N.heap.size≤x from fun x hx=>by have:=T x hx;have:=i.out.size;exact Nat.le_trans this (T x hx));have ai:=Zh (HX.out.old E.out);have af:=Zh (HT.out.old E.out);have aJ:=Zh (G.out.old E.out);refine q _ _ ⟨HC.out _ ai.out af.out,?_⟩;clear q R ap ao aP T;refine oO fun R q=>?_;go_simp;refine (O.out S M _ K.out).mono ?_;rintro e w4 ⟨aU,C,aS,⟨y0,y1,y2⟩,V,rfl,aR,hy,hn⟩
  try simp only [ag3]
  have aj:=Zh (K.out.own ai.out C);have ag:=Zh (K.out.own af.out C);have aK:=Zh (K.out.own aJ.out C);have aG:=Zh (C.below E.out (Nat.le_refl _) aI.out);have aN:=Zh (L.out (y0,y1,y2) V hy hn);refine q _ _ ⟨HC.out _ aj.out ag.out,?_⟩;clear q R aU C aS aR hy hn
  (refine pO ?_)
  (refine pO ?_)
  refine oO fun R q=>?_;go_simp;refine (aN.out _).mono ?_;rintro e w5 ⟨rfl,A⟩
  try simp only [ag3]
  have ak:=Zh (aj.out.old A);have ah:=Zh (ag.out.old A);have I:=Zh (aK.out.old A);have aH:=Zh (Zag aG.out A);refine q _ _ ⟨HC.out _ ak.out ah.out,?_⟩;clear q R A
  (refine pO ?_)
  (refine pO ?_)
  refine oO fun R q=>?_;obtain ⟨r0,r1,r2⟩:=I.out.c3;obtain ⟨f0,f1,f2⟩:=I.out.f3;have rl:=I.out.lt;go_simp;have U:=Zmx (x:=e0) (y:=e1) (z:=e2) I.out;refine q _ _ ⟨HC.out _ (((ak.out.other (show X≠X+1+1 by omega) _).other (show X≠X+1+1 by omega) _).other (show X≠X+1+1 by omega) _) (((ah.out.other (show X+1≠X+1+1 by omega) _).other (show X+1≠X+1+1 by omega) _).other (show X+1≠X+1+1 by omega) _),?_⟩;clear q R r0 r1 r2 f0 f1 f2 rl
  (refine pO ?_)
  refine Zd7 ?_
  go_wp2_with fail
  exact Zpq (F:=X+1+1) Tryz.results23 rfl rfl rfl U.c3.1 U.c3.2.1 U.c3.2.2 (Zmz (Zag HB.out aH.out) _ _ _ am.out)
 ·have B:ZqA m t=(z3,1):=if_neg hq;rw [B];have hb:decide (okL m)=false∨(decide (okL m)=true∧ZqQ m t 1=false):=by
   by_cases D:okL m
   ·refine .inr ⟨decide_eq_true D,?_⟩;rw [ZrS D.v];exact Bool.eq_false_iff.2 fun e=>hq ⟨D,e⟩
   ·exact .inl (decide_eq_false D)
  generalize ZqQ m t 1=b2 at j hb;generalize decide (okL m)=b1 at J hb;obtain ⟨tk,tc⟩:=t;dsimp only at HT HW j;clear B hq L;rcases hb with rfl|⟨rfl,rfl⟩
  all_goals
   go_enter Tryz.func23,Tryz.ntmps23
   go_upto_region 1 with fail
   rw [←HW.out,←al.out];obtain ⟨W,Y,Z,x3⟩:=Zj8 HX.out
   go_wp2_with (first
    | (go_at_call 73;refine J.out.mono ?_;rintro e w1 ⟨rfl,s⟩;(try simp only [ag3]);have b:=Zh s;clear s W Y Z x3;obtain ⟨W,Y,Z,x3⟩:=Zj8 (HX.out.old b.out);obtain ⟨t0,t1⟩:=Zj9 (HT.out.old b.out);have f:=Zh b.out;obtain ⟨r0,r1,r2⟩:=(G.out.old f.out).c3;obtain ⟨f0,f1,f2⟩:=(G.out.old f.out).f3;have rl:=(G.out.old f.out).lt)
    | (go_at_call 74;refine (j.out _ (Hj.out.old b.out)).mono ?_;rintro e w2 ⟨rfl,u⟩;(try simp only [ag3]);have f:=Zh (Zag b.out u);clear u W Y Z x3 t0 t1 r0 r1 r2 f0 f1 f2 rl;obtain ⟨r0,r1,r2⟩:=(G.out.old f.out).c3;obtain ⟨f0,f1,f2⟩:=(G.out.old f.out).f3;have rl:=(G.out.old f.out).lt))
   have U:=Zmx (x:=0) (y:=0) (z:=0) (G.out.old f.out);exact Zpq (F:=X+1+1) Tryz.results23 rfl rfl rfl U.c3.1 U.c3.2.1 U.c3.2.2 (Zmz (Zag HB.out f.out) _ _ _ am.out)
end
