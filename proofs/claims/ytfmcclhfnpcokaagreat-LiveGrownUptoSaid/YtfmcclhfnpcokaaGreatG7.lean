import Derived.Test.YtfmcclhfnpcokaaGreatG4
set_option linter.all false
set_option maxRecDepth 100000
set_option maxHeartbeats 4000000
namespace Go.Proofs.YtfmcclhfnpcokaaGreat
theorem k87{p:Prop}(h:p:=by
 go_wp2_with fail
 go_ret;exact ZcP (ZcT (by rw [decide_eq_false (show ¬ a<m.sel by omega)];rfl)) bE):p:=h
theorem k94{p:Prop}(h:p:=by
 go_wp2;go_ret;exact ZcP (ZcT (by rw [decide_eq_false (show ¬ a<(k:Int) by omega)];rfl)) bE):p:=h
section
open Go.RowKit
attribute [local go_sem] World.cell?_alloc_some
section
variable (m:Md)(h:Hd)(s:Int)(w:World)(H:Zaz w h m)(hs:0≤s∧s<m.sel)(hn:m.cl.length≤10)(hl:∀ j,j<m.cl.length→((m.cl.getD j default).m.length:Int)=m.sel)
include m h s w H hs hn hl
theorem ZgC:
  Calls Tryz.prog 118 #[.agg (HM.mk h m),.int .i64 s] w (ZdH w (ZaO m s)):=by
 obtain ⟨ag,ah⟩:=hs;obtain ⟨s,rfl⟩:∃ t:Nat,s=t:=⟨s.toNat,by omega⟩;have Q:=Blk.new w (HM.mk h m) 26;have A:Below w.heap.size w (w.alloc (.cells (HM.mk h m) 26)):=by exact bE
 have J:=Zh Q;have I:=Zh (H.old A);have O:=Zh hl;have r:=Zh A;clear Q H hl A;obtain ⟨co,cc,so,sc,eo,ec,hc,he⟩:=h;dsimp only at J I r ⊢;go_enter Tryz.func118,Tryz.ntmps118
 go_upto_region 1 with fail
 generalize w.alloc _=w0 at J I r ⊢
 go_wp2_with fail
 go_loopw [5,6] (fun o i wr=>∃ (k:Nat) (z:Option Addr) (e:Nat),k≤m.cl.length∧i=.int .i64 k∧o=.slice z (ZdO m s k).length e∧wr.ownsRow w0.heap.size 3 1 (.slice z (ZdO m s k).length e) (ZdO m s k).length ((ZdO m s k).map (Value.int .i64))∧Below w0.heap.size w0 wr) (fun _ i _=>m.cl.length-(intOf i).toNat)
 case atStart=>exact ⟨0,none,0,by omega,rfl,rfl,World.ownsRow_nil _ _ _ _,Below.refl _ _⟩
 case round=>
  obtain ⟨k,z,e,hk,rfl,rfl,b,c⟩:=hrel;have r0:wr.cell? ⟨w.heap.size,0,none⟩=some (.slice co m.cl.length cc):=(J.out.old c).cell 0 rfl;have rl:=(J.out.old c).lt;have y:=ZdQ m s k;by_cases hkl:k<m.cl.length
  ·obtain ⟨ad,D,Z,c1,P,L⟩:=(I.out.old c).cls hkl;obtain ⟨Y,v,t0⟩:=ZaC ((I.out.old c).t k hkl) (i:=s) (by have:=O.out k hkl;omega);have N:s<(m.cl.getD k default).m.length:=by have:=O.out k hkl;omega
   have d:=ZdR (m:=m) (s:=s) hkl;have g:=ZdS (m:=m) (s:=s) hkl;dsimp only at D P L v;subst D;rw [v] at L;have U:=Zh v;clear v Z c1 P;generalize (m.cl.getD k default).m.getD s 0=n at t0 d g;generalize (m.cl.getD k default).m.length=tn at L N;generalize hzs:ZdO m s k=zs at b y d g ⊢;have X:=Zh hzs;clear hzs;have R:(k:Int) < m.cl.length:=by omega
   have T:(s:Int) < tn:=by omega
   have aj:IntKind.i64.wrap ((k:Int)+1)=k+1:=IntWalk.i64_in _ (by omega);by_cases hn0:0≤n
   ·have F:=d hn0;have M:n ≥ 0:=hn0;have HY:=Zh F;clear d g F
    go_wp2_with (at_builtin;refine Zak rfl (.tmp 24) (.tmp 34) 27 rfl w0.heap.size 3 1 8 Zcm (.slice z zs.length e) zs.length (zs.map (Value.int .i64)) rfl (b.alloc _) _ 1 1 [.int .i64 n] rfl (ZdN (Blk.new' #[.int .i64 n] 3 (by simp)) rfl) (by intro u hu;rw [List.mem_singleton.1 hu];rfl) (by omega) (by unfold maxLen;omega) (by have:=c.size;simp;omega) ?_;intro ao1 cap1 al q E;have HO9:=Zh q;have HB9:=Zh (ZcR (bal c _) E (fun j hj=>(b.lt j hj).1));clear q E)
    exact k56
   ·have F:=g hn0;have M:¬ n ≥ 0:=hn0;have HY:=Zh F;have V:=Zh b;have G:=Zh c;clear d g F b c;go_wp2;go_roundw
    case rel=>exact ⟨k+1,z,e,by omega,by go_num,by rw [HY.out],by rw [HY.out];exact V.out,G.out⟩
    case measure=>simp [intOf];omega
  ·obtain rfl:k=m.cl.length:=by omega
   have f:=ZdP m s;generalize ZdO m s m.cl.length=zs at b y f ⊢;have x:=Zh f;have S:Zas wr z e zs:=Zas.of_own (by rw [Zau];exact b);have W:=Zh S;have G:=Zh c;clear f b c S
   go_wp2_with fail
   refine (Zem zs z e _ W.out (by omega)).mono ?_;rintro e1 w1 ⟨⟨ao1,cap1,rfl,l⟩,C⟩;have B:=Zh l;have K:=Zh C;clear l C;go_wp2;go_ret;refine ⟨⟨ao1,cap1,by rw [x.out];rfl,?_,fun a ha=>?_⟩,?_⟩
   ·rw [x.out];exact Zas.of_own (by rw [Zau];exact B.out)
   ·subst ha;have h1:=(B.out.lt a.block rfl).1;have h2:=r.out.size;have h3:=G.out.size;omega
   ·exact Zag r.out (Zag G.out K.out)
theorem ZgD:
  Calls Tryz.prog 118 #[.agg (HM.mk h m),.int .i64 s] w (ZdG w (ZaO m s)):=
 (ZgC m h s w H hs hn hl).mono fun e w' ⟨⟨ao,cap,h1,h2,_⟩,h3⟩=>⟨⟨ao,cap,h1,h2⟩,h3⟩
end
end
section
open Go.RowKit
attribute [local go_sem] World.cell?_alloc_some
theorem ZgE {i:In3} (h:ZaR false i=true):(i.op=14∨i.op=24∨i.op=25∨i.op=26→0≤i.a)∧(i.op=16∨i.op=12→0≤i.b):=by
 obtain ⟨f,a,b⟩:=i;simp only [ZaR,Bool.and_eq_true] at h;have c:=h.1.1.2;have d:=h.1.2;dsimp only at c d ⊢;constructor
 ·intro e;rcases e with rfl|rfl|rfl|rfl
  all_goals (simp [opA,inR,inI] at c;exact c.1)
 ·intro e;rcases e with rfl|rfl
  all_goals (simp [opB,inR,inI] at d;exact d.1)
theorem ZgF {l:List Int} (h:Asc l) (k:Int):(l.all fun t=>decide (t<k))=(decide (l.length=0)||decide (l.getD (l.length-1) 0<k)):=by
 rcases List.eq_nil_or_concat l with rfl|⟨r,x,rfl⟩
 ·rfl
 ·rw [List.concat_eq_append] at h ⊢;have a:=(List.pairwise_append.1 h).2.2;have e:(r++[x]).getD ((r++[x]).length-1) 0=x:=by simp
  rw [e,List.all_append];simp only [List.all_cons,List.all_nil,Bool.and_true,List.length_append,List.length_cons,List.length_nil];by_cases hx:x<k
  ·have:(r.all fun t=>decide (t<k))=true:=by rw [List.all_eq_true];intro t b;have:=a t b x (by simp);simp;omega
   rw [this];simp [hx]
  ·simp [hx]
theorem ZgG (m:Md) (h:Hd) (k:Nat) (i:In3) (w:World) (H:Zaz w h m) (hk:k<m.me.length) (hn:m.cl.length≤10) (hl:∀ j,j<m.cl.length→((m.cl.getD j default).m.length:Int)=m.sel) (N:ZaR false i=true) (L:∀ j:Nat,j<k→-1≤m.own j) :
  Calls Tryz.prog 178 #[.agg (HM.mk h m),.int .i64 k,ZI.i i] w (Ret w (.bool (ZaX m k i))):=by
 obtain ⟨f,n⟩:=ZgE N;obtain ⟨x,a,b⟩:=i;dsimp only at f n ⊢;have K:=Zh H;have R:=Zh hl;have S:=Zh L;have W:=H.bz;clear H hl N L;by_cases h26:x=26
 ·subst h26;have f:=f (.inr (.inr (.inr rfl)));have v:ZaX m k ⟨26,a,b⟩=(decide (a<m.sel)&&(ZaO m a).all fun t=>decide (t<k)):=rfl;rw [v,ZgF (show Asc (ZaO m a) from Zdx _)];by_cases hs:a<m.sel
  ·have G:¬ a ≥ m.sel:=by omega
   have o:=fun J (n:Below w.heap.size w J)=>ZgD m h a J (K.out.old n) ⟨f,hs⟩ hn R.out;have u:=ZdI m a;generalize ZaO m a=l at o u ⊢;have T:=Zh o;clear o v n;go_enter Tryz.func178,Tryz.ntmps178
   go_wp2_with fail
   refine (T.out _ bE).mono ?_;rintro e1 J ⟨⟨ao,V,rfl,M⟩,A⟩;have r:=Zag (show Below w.heap.size w _ by exact bE) A;by_cases hl0:l.length=0
   ·have C:((l.length:Int) == 0)=true:=by simp [hl0]
    go_wp2;go_ret;exact ZcP (ZcT (by simp [hl0,hs])) r
   ·obtain ⟨U,rfl,O⟩:=ZaC M (i:=l.length-1) (by omega);have C:((l.length:Int) == 0)=false:=by simp [hl0]
    have I:IntKind.i64.wrap ((l.length:Int)-1)=((l.length-1:Nat):Int):=by rw [show ((l.length:Int)-1)=((l.length-1:Nat):Int) by omega];exact IntWalk.i64_in _ (by omega)
    have D:((l.length-1:Nat):Int) < l.length:=by omega
    generalize htq:l.getD (l.length-1) 0=t at O;have z:=Zh htq;clear htq;generalize hnn:l.length-1=n1 at O I D;have HN:=Zh hnn;have y:=Zh hl0;clear hnn hl0 M;go_wp2;go_ret;exact ZcP (ZcT (by rw [z.out,decide_eq_true hs,decide_eq_false y.out];rfl)) r
  ·have G:a ≥ m.sel:=by omega
   go_enter Tryz.func178,Tryz.ntmps178;exact k87
 ·by_cases h25:x=25
  ·subst h25;have f:=f (.inr (.inr (.inl rfl)));have v:ZaX m k ⟨25,a,b⟩=(decide (a<k)&&decide (m.own a<0)):=rfl;rw [v];clear v n;by_cases hs:a<k
   ·obtain ⟨c,rfl⟩:∃ c:Nat,a=c:=⟨a.toNat,by omega⟩;obtain ⟨U,B,-,Y,-,-,-,-,-⟩:=K.out.mth (i:=c) (by omega);have d:m.own c=(m.me.getD c default).c:=rfl;have F:=S.out c (by omega);generalize (m.me.getD c default).c=own at Y d;rw [d] at F;have q:=Zh d;clear d;obtain ⟨co,cc,so,sc,eo,ec,hc,he⟩:=h;dsimp only at *;subst B;have X:(c:Int) < m.me.length:=by omega
    by_cases hm1:own=-1
    ·have E:(own == -1)=true:=by simp [hm1]
     have e:decide (m.own c<0)=true:=by rw [q.out];simp;omega
     have g:=Zh e;clear hm1 e;go_enter Tryz.func178,Tryz.ntmps178;go_wp2;go_ret;exact ZcP (ZcT (by rw [g.out];try simp [hs])) bE
    ·have E:(own == -1)=false:=by simp [hm1]
     have e:decide (m.own c<0)=false:=by rw [q.out];simp;omega
     have g:=Zh e;clear hm1 e;go_enter Tryz.func178,Tryz.ntmps178;go_wp2;go_ret;exact ZcP (ZcT (by rw [g.out];try simp)) bE
   ·go_enter Tryz.func178,Tryz.ntmps178;exact k94
  ·have aa:(x == 26)=false:=by simp [h26]
   have Z:(x == 25)=false:=by simp [h25]
   have P:=Zh f;have Q:=Zh n;clear f n;go_enter Tryz.func178,Tryz.ntmps178;go_wp2
   all_goals
    go_ret;exact ZcP (ZcT (by have:=P.out;have:=Q.out;grind [ZaX])) bE
end
