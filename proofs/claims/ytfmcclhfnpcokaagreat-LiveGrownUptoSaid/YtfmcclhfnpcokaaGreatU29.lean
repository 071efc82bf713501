import Derived.Test.YtfmcclhfnpcokaaGreatU27
import Derived.WideKeyEntry
set_option linter.all false
set_option maxRecDepth 100000
set_option maxHeartbeats 8000000
namespace Go.Proofs.YtfmcclhfnpcokaaGreat
section
open Go.RowKit
attribute [local go_sem] World.cell?_alloc_some
theorem Zqq (a b:T3) (w:World) (c:BdT a) (d:BdT b):Calls Tryz.prog 140 #[ag3 a,ag3 b] w (Ret w (ag3 (plT a b))):=
 ZmA _ _ _ _ _ _ w c.1.1 c.1.2 c.2.1.1 c.2.1.2 c.2.2.1 c.2.2.2 d.1.1 d.1.2 d.2.1.1 d.2.1.2 d.2.2.1 d.2.2.2
theorem Zqr (n:Int) (w:World) (d:0≤n) (e:n≤100000):Calls Tryz.prog 267 #[.int .i64 n] w (Ret w (ag3 (ZmD n false))):=by
 obtain ⟨v,b⟩:∃ v,v=ZmD n false:=⟨_,rfl⟩;rw [←b];have a:=Zh b;have c:IntKind.i64.wrap (1+n)=1+n:=IntWalk.i64_in _ (by omega);clear b;go_enter Tryz.func267,Tryz.ntmps267;go_wp2
 all_goals
  refine bodyPost_ret (v:=ag3 v) (by rw [a.out];unfold ZmD;simp [results,Tryz.results267,go_sem,ag3];grind) rfl ⟨rfl,by exact bE⟩
theorem Zqs {n:Int} (h:n≤7):ZmD n true=ZmD n false:=by unfold ZmD;simp [h]
theorem Zqt {n:Int} (h:7<n):ZmD n true=(0,0,1+(n+7) / 8):=by unfold ZmD;rw [if_neg (by omega),if_neg (by omega),if_neg (by simp;omega)]
theorem Zqu (m:Md) (h:Hd) (i:In3) (w:World) (H:Zaz w h m) (hi:ZmG m i):Calls Tryz.prog 206 #[.agg (HM.mk h m),ZI.i i] w (Ret w (ag3 (szV m i))):=by
 obtain ⟨k,c,N⟩:=i;obtain ⟨o,r⟩:=hi;dsimp only at o r ⊢;obtain ⟨B,j⟩:∃ B,B=((w.alloc (.cells (HM.mk h m) 26)).alloc (.cells #[.int .i64 k,.int .i64 c,.int .i64 N] 72)).alloc (.cells #[.int .i64 0,.int .i64 0,.int .i64 0] 45):=⟨_,rfl⟩;have T:Below w.heap.size w B:=by rw [j];exact bE
 have hX:Blk B w.heap.size (HM.mk h m) 26:=by rw [j];exact ((Blk.new _ _ _).alloc _).alloc _
 have Y:Blk B (w.heap.size+1) #[.int .i64 k,.int .i64 c,.int .i64 N] 72:=by rw [j];exact (Blk.new' (w:=w.alloc (.cells (HM.mk h m) 26)) _ _ (by simp)).alloc _
 have Z:Blk B (w.heap.size+2) (cl3 0 0 0) 45:=by rw [j];exact Blk.new' (w:=(w.alloc (.cells (HM.mk h m) 26)).alloc (.cells #[.int .i64 k,.int .i64 c,.int .i64 N] 72)) _ _ (by simp)
 have J:=Zh T;have HX:=Zh hX;have V:=Zh Y;have u:=Zh Z;have Hj:=Zh (H.old T);have C:=Zh j;obtain ⟨v,A⟩:∃ v,v=szV m ⟨k,c,N⟩:=⟨_,rfl⟩;rw [←A];clear j T hX Y Z H;have i0:=V.out.cell 0 (v:=.int .i64 k) rfl;have i1:=V.out.cell 1 (v:=.int .i64 c) rfl;obtain ⟨O,P,Q⟩:=u.out.c3;obtain ⟨K,L,M⟩:=u.out.f3;have R:=u.out.lt;by_cases q14:k=14
 ·subst q14;obtain ⟨W,h1,X⟩:=o rfl;obtain ⟨a,rfl⟩:∃ d:Nat,c=d:=⟨c.toNat,by omega⟩;have S:a<m.cl.length:=by omega
  obtain ⟨ad,D,-,-,e2,-⟩:=Hj.out.cls S;have x0:=HX.out.cell 0 (v:=.slice h.co m.cl.length h.cc) rfl;rw [D] at x0 C ⊢;have b:v=ZmD (m.cl.getD a default).f.length false:=by rw [A];unfold szV;rw [if_pos rfl];rfl
  rw [Int.toNat_natCast] at X;generalize (m.cl.getD a default).f.length=n at e2 b X;have l:=Zh (fun U=>Zqr n U (by omega) (by omega));rw [←b] at l;clear A b o r D;obtain ⟨F,G,I⟩:=v;go_enter Tryz.func206,Tryz.ntmps206
  go_upto_region 1 with fail
  rw [←C.out]
  go_wp2_with (go_at_call 267;refine (l.out _).mono ?_;rintro e w2 ⟨rfl,s⟩;have t:=Zh (Zag J.out s);have f:=Zh (u.out.old s);clear O P Q K L M R;obtain ⟨O,P,Q⟩:=f.out.c3;obtain ⟨K,L,M⟩:=f.out.f3;have R:=f.out.lt;(try simp only [ag3]))
  have g:=Zmx (x:=F) (y:=G) (z:=I) f.out;exact bodyPost_ret (v:=ag3 (F,G,I)) (by simp [results,Tryz.results206,go_sem,g.c3.1,g.c3.2.1,g.c3.2.2,ag3]) rfl ⟨rfl,Zmz t.out _ _ _ (by omega)⟩
 ·by_cases q15:k=15∨k=16
  ·obtain ⟨W,h1⟩:=r q15;have b:v=ZmD c true:=by rw [A];unfold szV;rw [if_neg q14,if_pos q15]
   have q2:k=15∨(k=16∧¬ k=15):=by omega
   clear A o r;by_cases q7:c≤7
   ·rw [Zqs q7] at b;have l:=Zh (fun U=>Zqr c U W (by omega));rw [←b] at l;have E:¬ 7<c:=by omega
    clear b;obtain ⟨F,G,I⟩:=v;rcases q2 with q|⟨q,q3⟩
    all_goals
     subst q;go_enter Tryz.func206,Tryz.ntmps206
     go_upto_region 1 with fail
     rw [←C.out]
     go_wp2_with (go_at_call 267;refine (l.out _).mono ?_;rintro e w2 ⟨rfl,s⟩;have t:=Zh (Zag J.out s);have f:=Zh (u.out.old s);clear O P Q K L M R;obtain ⟨O,P,Q⟩:=f.out.c3;obtain ⟨K,L,M⟩:=f.out.f3;have R:=f.out.lt;(try simp only [ag3]))
     have g:=Zmx (x:=F) (y:=G) (z:=I) f.out;exact bodyPost_ret (v:=ag3 (F,G,I)) (by simp [results,Tryz.results206,go_sem,g.c3.1,g.c3.2.1,g.c3.2.2,ag3]) rfl ⟨rfl,Zmz t.out _ _ _ (by omega)⟩
   ·have E:7<c:=by omega
    rw [Zqt E] at b;subst b;have ak:IntKind.i64.wrap (c+7)=c+7:=IntWalk.i64_in _ (by omega);have al:IntKind.i64.wrap (1+(c+7) / 8)=1+(c+7) / 8:=IntWalk.i64_in _ (by omega);have ai:(c+7).tdiv 8=(c+7) / 8:=Int.tdiv_eq_ediv_of_nonneg (by omega);have am:IntKind.i64.wrap ((c+7) / 8)=(c+7) / 8:=IntWalk.i64_in _ (by omega);rcases q2 with q|⟨q,q3⟩
    all_goals
     subst q;go_enter Tryz.func206,Tryz.ntmps206
     go_upto_region 1 with fail
     rw [←C.out];go_wp2;have g:=Zmx (x:=0) (y:=0) (z:=1+(c+7) / 8) u.out;exact bodyPost_ret (v:=ag3 (0,0,1+(c+7) / 8)) (by simp [results,Tryz.results206,go_sem,g.c3.1,g.c3.2.1,g.c3.2.2,ag3]) rfl ⟨rfl,Zmz J.out _ _ _ (by omega)⟩
  ·have b:v=(0,0,0):=by rw [A];unfold szV;rw [if_neg q14,if_neg q15]
   subst b;have ab:¬ k=15:=fun q=>q15 (.inl q);have an:¬ k=16:=fun q=>q15 (.inr q);clear A o r;go_enter Tryz.func206,Tryz.ntmps206
   go_upto_region 1 with fail
   rw [←C.out];go_wp2;have g:=Zmx (x:=0) (y:=0) (z:=0) u.out;exact bodyPost_ret (v:=ag3 (0,0,0)) (by simp [results,Tryz.results206,go_sem,g.c3.1,g.c3.2.1,g.c3.2.2,ag3]) rfl ⟨rfl,Zmz J.out _ _ _ (by omega)⟩
theorem Zqv (m:Md) (h:Hd) (i:In3) (w:World) (H:Zaz w h m) (r:ZmG m i):Calls Tryz.prog 141 #[.agg (HM.mk h m),ZI.i i] w (Ret w (ag3 (szV m i))):=by
 obtain ⟨g,d,f⟩:=i;obtain ⟨c,a⟩:∃ c,c=((w.alloc (.cells (HM.mk h m) 26)).alloc (.cells #[.int .i64 g,.int .i64 d,.int .i64 f] 72)).alloc (.cells #[.int .i64 0,.int .i64 0,.int .i64 0] 45):=⟨_,rfl⟩;have o:=Zh (show Below w.heap.size w c by rw [a];exact bE);have C:=Zh (show Blk c w.heap.size (HM.mk h m) 26 by rw [a];exact ((Blk.new _ _ _).alloc _).alloc _);have l:=Zh (show Blk c (w.heap.size+1) #[.int .i64 g,.int .i64 d,.int .i64 f] 72 by rw [a];exact (Blk.new' (w:=w.alloc (.cells (HM.mk h m) 26)) _ _ (by simp)).alloc _);have A:=Zh (show Blk c (w.heap.size+2) (cl3 0 0 0) 45 by rw [a];exact Blk.new' (w:=(w.alloc (.cells (HM.mk h m) 26)).alloc (.cells #[.int .i64 g,.int .i64 d,.int .i64 f] 72)) _ _ (by simp));have q:=Zh (Zqu m h ⟨g,d,f⟩ c (H.old o.out) r);have B:=Zh a;generalize szV m ⟨g,d,f⟩=v at q ⊢;clear a H r;obtain ⟨s,t,u⟩:=v;obtain ⟨P,Q,R,S⟩:=Zj8 C.out;have G:=l.out.cell 0 (v:=.int .i64 g) rfl;have I:=l.out.cell 1 (v:=.int .i64 d) rfl;have J:=l.out.cell 2 (v:=.int .i64 f) rfl;go_enter Tryz.func141,Tryz.ntmps141
 go_upto_region 1 with fail
 rw [←B.out]
 go_wp2_with (go_at_call 206;refine q.out.mono ?_;rintro e O ⟨rfl,j⟩;have k:=Zh (Zag o.out j);have b:=Zh (A.out.old j);obtain ⟨K,L,M⟩:=b.out.c3;obtain ⟨D,E,F⟩:=b.out.f3;have N:=b.out.lt;(try simp only [ag3]))
 have n:=Zmx (x:=s) (y:=t) (z:=u) b.out;exact bodyPost_ret (v:=ag3 (s,t,u)) (by simp [results,Tryz.results141,go_sem,n.c3.1,n.c3.2.1,n.c3.2.2,ag3]) rfl ⟨rfl,Zmz k.out _ _ _ (by omega)⟩
end
