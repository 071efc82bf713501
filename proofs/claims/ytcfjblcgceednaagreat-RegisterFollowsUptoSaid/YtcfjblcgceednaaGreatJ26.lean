import Derived.Lib.SmallJoins
import Derived.Test.YtcfjblcgceednaaGreatG20
set_option linter.all false
set_option maxRecDepth 100000
namespace Go.Proofs.YtcfjblcgceednaaGreat
section
open Go.ChangeShapes Go.WideShapes Go.ChangeAt Go.RowKit
theorem ZnZ {H:Type} (d:DataW H):1≤Rows.uptoBulk d:=by
 cases d with
 | lit l=>cases l<;>simp [Rows.uptoBulk]
 | nil=>simp [Rows.uptoBulk]
 | ptr d=>simp [Rows.uptoBulk]
 | slice elems spare=>simp [Rows.uptoBulk]
 | agg parts=>simp [Rows.uptoBulk]
 | iface t d=>simp [Rows.uptoBulk]
 | map entries=>simp [Rows.uptoBulk]
 | held h=>simp [Rows.uptoBulk]
theorem Zn0 {H:Type} (l:List (DataW H)):l.length≤Rows.uptoBulkAll l:=by
 induction l with
 | nil=>simp [Rows.uptoBulkAll]
 | cons x r ih=>have:=ZnZ x;simp only [Rows.uptoBulkAll,List.length_cons];omega
theorem Zn1 {H:Type} (a b:List (DataW H)):a.length+b.length+1≤Rows.uptoBulk (.slice a b):=by have c:=Zn0 a;have e:=Zn0 b;simp only [Rows.uptoBulk];omega
theorem Zn2 {H:Type}{l:List (DataW H)} (a:Rows.uptoSmall H l=true):Rows.uptoBulkAll l≤1048576:=of_decide_eq_true a
theorem Zn3 {H:Type} (k:IntKind) (a:List Int):(lits (H:=H) k a).length=a.length:=by simp [lits]
theorem Zn4 {H:Type}{enc:TypeId × Value→H}{P:Program}{W:World}{r:Reach}{b0:Nat}{t e:TypeId}{k:IntKind}{v:Value}{d:DataW H}{ps:List MemPlace}
  (s:P.underlying t=some (.slice e)) (y:P.underlying e=some (.int k)) (u:P.cellsOf e=1)
  (hval:Value.okWide P W r b0 t v) (hd:DataW.Trod enc P W 0 (fun _=>true) true t v d ps) :
  ∃ a b g,v=.slice a g.length b∧(Sl k W a g∧(a=none→b=0))∧(∀ n∈g,(Lit.int k n).wf=true)∧g.length≤maxLen∧g.length≤Rows.uptoBulk d:=by
 obtain ⟨a,p,b,rfl⟩:=okWide_slice s hval;obtain ⟨q,A⟩:=hd;rcases open_ints s y u A with ⟨f,_⟩|⟨x,l,c,g,f,_,F,G,D,C,j,o⟩
 ·simp [Value.cells] at f;obtain ⟨rfl,rfl,rfl⟩:=f;exact ⟨none,0,[],rfl,⟨fun i m=>by simp at m,fun _=>rfl⟩,by simp,by simp,by simp⟩
 ·simp [Value.cells] at f;obtain ⟨rfl,rfl,rfl⟩:=f;have E:g.length=b:=by simpa using D
  obtain ⟨rfl,_⟩:=Prod.mk.inj C;refine ⟨some x,b,g.take p,by rw [List.length_take,Nat.min_eq_left (by omega)],⟨?_,fun h=>by cases h⟩,fun n B=>o n (List.mem_of_mem_take B),by rw [List.length_take];omega,?_⟩
  ·intro i m;rw [List.length_take] at m;refine ⟨x,rfl,?_⟩;rw [j i (by omega),List.getD_eq_getElem?_getD,List.getD_eq_getElem?_getD,List.getElem?_take_of_lt (by omega)]
  ·refine Nat.le_trans ?_ (Zn1 _ _);rw [Zn3];omega
theorem Zn5 {n:Int} (h:(Lit.int .i64 n).wf=true):-9223372036854775808≤n∧n≤9223372036854775807:=by simpa [Lit.wf,IntKind.min,IntKind.max,IntKind.bits,IntKind.signed] using h
end
section
open Go.ChangeShapes Go.WideShapes Go.ChangeAt Go.RowKit Go.Deep
theorem Zn6 {α:Type} [Inhabited α] {Q:Nat→α→Prop}:∀ n,(∀ i,i<n→∃ x,Q i x)→∃ l:List α,l.length=n∧∀ i,i<n→Q i (l.getD i default)
 | 0,_=>⟨[],rfl,fun i a=>by omega⟩
 |n+1,h=>by
  obtain ⟨l,b,c⟩:=Zn6 n fun i a=>h i (by omega);obtain ⟨x,e⟩:=h n (by omega);refine ⟨l++[x],by simp [b],fun i a=>?_⟩;by_cases hin:i<n
  ·rw [List.getD_eq_getElem?_getD,List.getElem?_append_left (by omega),←List.getD_eq_getElem?_getD];exact c i hin
  ·obtain rfl:i=n:=by omega
   rw [List.getD_eq_getElem?_getD,List.getElem?_append_right (by omega),b];simpa using e
section
variable {H:Type}{enc:TypeId × Value→H}{P:Program}{W:World}
theorem Zn7 {d:DataW H}:∀ {l:List (DataW H)},d∈l→Rows.uptoBulk d≤Rows.uptoBulkAll l
 | [],h=>by cases h
 |x :: r,h=>by
  unfold Rows.uptoBulkAll;rcases List.mem_cons.1 h with rfl|h
  ·omega
  ·have:=Zn7 h;omega
theorem Zn8 {α:Type} [Cells α] [Inhabited α] {Q:α→Prop}{t e:TypeId}{g:Nat}{v:Value}{y:DataW H × List MemPlace} (hN:Rows.uptoBulk y.1≤1048576) (Y:P.underlying t=some (.slice e)) (V:P.cellsOf e=Cells.n α)
  (F:∀ n cs z,Rows.uptoBulk z.1≤1048576→cs.length=Cells.n α→DataW.trod enc P W 0 (fun _=>true) true n e cs=some z→∃ x:α,cs=Cells.cells x∧Q x) (h:DataW.trod enc P W 0 (fun _=>true) true g t [v]=some y) :
  ∃ O c,∃ l:List α,v=.slice O l.length c∧Zar W O c l∧l.length≤c∧l.length≤1048576∧∀ i,i<l.length→Q (l.getD i default):=by
 rcases open_slice Y h with ⟨f,_⟩|⟨a,b,c,k,n,D,Pl,f,_,Z,hm,K,U,q⟩
 ·obtain rfl:v=.slice none 0 0:=by simpa using f
  exact ⟨none,0,[],rfl,Zar.nil W,by simp,by simp,fun i q=>by simp at q⟩
 ·obtain rfl:v=.slice (some a) b c:=by simpa using f
  have X:b≤k:=by simp at K;omega
  have G:∀ i,i<b→∃ x:α,Q x∧∀ j (s:j<Cells.n α),W.cell? (a.add (i*Cells.n α+j))=(Cells.cells x)[j]?:=by intro i I;obtain ⟨B,S,L⟩:=q i (by omega);rw [V] at S;obtain ⟨_,E,C⟩:=World.cells?_some S;obtain ⟨x,N,A⟩:=F n B _ (Nat.le_trans (Zn7 (List.mem_map.2 ⟨i,List.mem_range.2 I,rfl⟩)) (by rw [U] at hN;unfold Rows.uptoBulk at hN;omega)) E L;refine ⟨x,A,fun j s=>?_⟩;rw [←N,←C j s,Go.Deep.add_add]
  obtain ⟨l,J,A⟩:=Zn6 b G;refine ⟨some a,c,l,by rw [J],⟨Zam l,(fun h=>by cases h),fun j u M=>⟨a,rfl,?_⟩⟩,by omega,?_,fun i q=>(A i (by omega)).1⟩
  rotate_left
  ·rw [U] at hN;dsimp only at hN;have:=Zn1 ((List.range b).map D) ((List.range (k-b)).map fun j=>D (b+j));simp only [List.length_map,List.length_range] at this;omega
  have T:=Cells.pos (α:=α);have s:j<l.length*Cells.n α:=by have:=(List.getElem?_eq_some_iff.1 M).1;rwa [Zam] at this
  have m:j / Cells.n α<l.length:=(Nat.div_lt_iff_lt_mul T).2 s;have p:j % Cells.n α<Cells.n α:=Nat.mod_lt _ T;have o:j=j / Cells.n α*Cells.n α+j % Cells.n α:=by rw [Nat.mul_comm];exact (Nat.div_add_mod j _).symm
  have R:=(A (j / Cells.n α) (by omega)).2 (j % Cells.n α) p;rw [o,Zap l _ m _ p] at M;rw [←o] at R;rw [R,←M];simp [m]
theorem Zn9 {cs:List Value} (c:cs.length=2):∃ a b,cs=[a,b]:=by
 match cs,c with
 | [a,b],_=>exact ⟨a,b,rfl⟩
theorem Zoa {cs:List Value} (e:cs.length=3):∃ a b c,cs=[a,b,c]:=by
 match cs,e with
 | [a,b,c],_=>exact ⟨a,b,c,rfl⟩
theorem Zob {cs:List Value} (e:cs.length=4):∃ a b c d,cs=[a,b,c,d]:=by
 match cs,e with
 | [a,b,c,d],_=>exact ⟨a,b,c,d,rfl⟩
theorem Zoc {cs:List Value} (h:cs.length=7):∃ a b c d e f g,cs=[a,b,c,d,e,f,g]:=by
 match cs,h with
 | [a,b,c,d,e,f,g],_=>exact ⟨a,b,c,d,e,f,g,rfl⟩
end
section
variable {H:Type}{enc:TypeId × Value→H}{W:World}
section
variable (n:Nat)(cs:List Value)(z:DataW H × List MemPlace)
include n cs z
theorem Zod (_:Rows.uptoBulk z.1≤1048576) (_:cs.length=Cells.n Int) (h:DataW.trod enc Tryz.prog W 0 (fun _=>true) true n 3 cs=some z):∃ x:Int,cs=Cells.cells x∧True:=by obtain ⟨k,e,_⟩:=DataW.trod_int Tryz.underlying3 h;exact ⟨k,e,trivial⟩
theorem Zoe (_:Rows.uptoBulk z.1≤1048576) (E:cs.length=Cells.n Ty) (h:DataW.trod enc Tryz.prog W 0 (fun _=>true) true n 76 cs=some z):∃ x:Ty,cs=Cells.cells x∧True:=by obtain ⟨xs,n,_,_,_,hlen,C⟩:=DataW.trod_struct Tryz.underlying76 h;obtain ⟨a,b,rfl⟩:=Zn9 E;have A:=C 0 _ rfl;have h1:=C 1 _ rfl;rw [show xs[0]?=some (xs[0]'(by rw [hlen];decide)) by simp] at A;rw [show xs[1]?=some (xs[1]'(by rw [hlen];decide)) by simp] at h1;obtain ⟨k0,e0,_⟩:=DataW.trod_int Tryz.underlying3 A;obtain ⟨k1,D,_⟩:=DataW.trod_int Tryz.underlying3 h1;have f:[a]=[Value.int .i64 k0]:=e0;have y:[b]=[Value.int .i64 k1]:=D;cases f;cases y;exact ⟨⟨k0,k1⟩,rfl,trivial⟩
theorem Zof (_:Rows.uptoBulk z.1≤1048576) (G:cs.length=Cells.n In3) (h:DataW.trod enc Tryz.prog W 0 (fun _=>true) true n 78 cs=some z):∃ x:In3,cs=Cells.cells x∧True:=by obtain ⟨xs,n,_,_,_,hlen,C⟩:=DataW.trod_struct Tryz.underlying78 h;obtain ⟨a,b,c,rfl⟩:=Zoa G;have h0:=C 0 _ rfl;have h1:=C 1 _ rfl;have D:=C 2 _ rfl;rw [show xs[0]?=some (xs[0]'(by rw [hlen];decide)) by simp] at h0;rw [show xs[1]?=some (xs[1]'(by rw [hlen];decide)) by simp] at h1;rw [show xs[2]?=some (xs[2]'(by rw [hlen];decide)) by simp] at D;obtain ⟨k0,e0,_⟩:=DataW.trod_int Tryz.underlying3 h0;obtain ⟨k1,E,_⟩:=DataW.trod_int Tryz.underlying3 h1;obtain ⟨k2,F,_⟩:=DataW.trod_int Tryz.underlying3 D;have f:[a]=[Value.int .i64 k0]:=e0;have y:[b]=[Value.int .i64 k1]:=E;have A:[c]=[Value.int .i64 k2]:=F;cases f;cases y;cases A;exact ⟨⟨k0,k1,k2⟩,rfl,trivial⟩
end
theorem Zog {z:DataW H × List MemPlace}{xs:List (DataW H × List MemPlace)} (a:z=(.agg (xs.map (·.1)),xs.flatMap (·.2))) (b:Rows.uptoBulk z.1≤1048576) {i:Nat} (c:i<xs.length):Rows.uptoBulk (xs[i]).1≤1048576:=by refine Nat.le_trans (Zn7 (l:=xs.map (·.1)) (List.mem_map.2 ⟨xs[i],List.getElem_mem c,rfl⟩)) ?_;rw [a] at b;unfold Rows.uptoBulk at b;omega
def Zoh (W:World) (x:Cls × CHd):Prop:=Zar W x.2.fo x.2.fc x.1.f∧Zar W x.2.mo x.2.mc x.1.m∧x.1.f.length≤x.2.fc∧x.1.f.length≤1048576∧x.1.m.length≤1048576
def Zoi (W:World) (x:Mth × MHd):Prop:=Zar W x.2.po x.2.pc x.1.p∧Zar W x.2.lo x.2.lc x.1.l∧Zar W x.2.ko x.2.kc x.1.k∧x.1.p.length≤1048576∧x.1.l.length≤1048576∧x.1.k.length≤1048576
instance:Inhabited (Cls × CHd):=⟨default,default⟩
instance:Inhabited (Mth × MHd):=⟨default,default⟩
theorem Zoj (n:Nat) (cs:List Value) (z:DataW H × List MemPlace) (Z:Rows.uptoBulk z.1≤1048576) (X:cs.length=Cells.n (Cls × CHd)) (h:DataW.trod enc Tryz.prog W 0 (fun _=>true) true n 99 cs=some z):∃ x:Cls × CHd,cs=Cells.cells x∧Zoh W x:=by obtain ⟨xs,n,_,J,_,hlen,y⟩:=DataW.trod_struct Tryz.underlying99 h;have hp:∀ i (hi:i<xs.length),Rows.uptoBulk (xs[i]).1≤1048576:=fun i hi=>Zog J Z hi;obtain ⟨a,b,c,d,rfl⟩:=Zob X;have M:=y 0 _ rfl;have h1:=y 1 _ rfl;have N:=y 2 _ rfl;have R:=y 3 _ rfl;rw [show xs[0]?=some (xs[0]'(by rw [hlen];decide)) by simp] at M;rw [show xs[1]?=some (xs[1]'(by rw [hlen];decide)) by simp] at h1;rw [show xs[2]?=some (xs[2]'(by rw [hlen];decide)) by simp] at N;rw [show xs[3]?=some (xs[3]'(by rw [hlen];decide)) by simp] at R;obtain ⟨k0,e0,_⟩:=DataW.trod_string Tryz.underlying9 M;obtain ⟨k1,T,_⟩:=DataW.trod_int Tryz.underlying3 h1;have A:[a]=[Value.string k0]:=e0;have C:[b]=[Value.int .i64 k1]:=T;cases A;cases C;obtain ⟨V,U,f,rfl,F,E,D,_⟩:=Zn8 (α:=Ty) (v:=c) (hp 2 _) Tryz.underlying23 (by kernel_rfl) Zoe N;obtain ⟨mo,mc,l,rfl,I,Y,G,_⟩:=Zn8 (α:=Int) (v:=d) (hp 3 _) Tryz.underlying34 (by kernel_rfl) Zod R;exact ⟨(⟨k0,k1,f,l⟩,⟨V,U,mo,mc⟩),rfl,F,I,E,D,G⟩
theorem Zok (n:Nat) (cs:List Value) (z:DataW H × List MemPlace) (hz:Rows.uptoBulk z.1≤1048576) (Y:cs.length=Cells.n (Mth × MHd)) (h:DataW.trod enc Tryz.prog W 0 (fun _=>true) true n 81 cs=some z):∃ x:Mth × MHd,cs=Cells.cells x∧Zoi W x:=by
 obtain ⟨xs,n,_,M,_,hlen,f⟩:=DataW.trod_struct Tryz.underlying81 h;have hp:∀ i (hi:i<xs.length),Rows.uptoBulk (xs[i]).1≤1048576:=fun i hi=>Zog M hz hi;obtain ⟨a,b,c,d,r,s,k,rfl⟩:=Zoc Y;have N:=f 0 _ rfl;have h1:=f 1 _ rfl;have R:=f 2 _ rfl;have T:=f 3 _ rfl;have U:=f 4 _ rfl;have V:=f 5 _ rfl;rw [show xs[0]?=some (xs[0]'(by rw [hlen];decide)) by simp] at N;rw [show xs[1]?=some (xs[1]'(by rw [hlen];decide)) by simp] at h1;rw [show xs[2]?=some (xs[2]'(by rw [hlen];decide)) by simp] at R;rw [show xs[3]?=some (xs[3]'(by rw [hlen];decide)) by simp] at T;rw [show xs[4]?=some (xs[4]'(by rw [hlen];decide)) by simp] at U;rw [show xs[5]?=some (xs[5]'(by rw [hlen];decide)) by simp] at V;obtain ⟨k0,e0,_⟩:=DataW.trod_string Tryz.underlying9 N;obtain ⟨k1,X,_⟩:=DataW.trod_int Tryz.underlying3 h1;have y:[a]=[Value.string k0]:=e0;have A:[b]=[Value.int .i64 k1]:=X;cases y;cases A;obtain ⟨po,pc,p,rfl,I,aa,G,_⟩:=Zn8 (α:=Ty) (v:=c) (hp 2 _) Tryz.underlying23 (by kernel_rfl) Zoe R;obtain ⟨lo,lc,l,rfl,F,Z,E,_⟩:=Zn8 (α:=Ty) (v:=d) (hp 3 _) Tryz.underlying23 (by kernel_rfl) Zoe T;obtain ⟨t,ht,_⟩:=Zoe (cs:=[r,s]) _ _ (hp 4 _) rfl U;have J:[r,s]=[Value.int .i64 t.k,Value.int .i64 t.c]:=ht;cases J;obtain ⟨ko,kc,q,rfl,D,hkl,C,_⟩:=Zn8 (α:=In3) (v:=k) (hp 5 _) Tryz.underlying79 (by kernel_rfl) Zof V;exact ⟨(⟨k0,k1,p,l,t,q⟩,⟨po,pc,lo,lc,ko,kc⟩),rfl,I,F,D,G,E,C⟩
theorem Zol {α β:Type} [Inhabited α] [Inhabited (α × β)] (l:List (α × β)) {i:Nat} (a:i<l.length):(l.map Prod.fst).getD i default=(l.getD i default).1:=by simp [a]
theorem Zom {α β:Type} [Inhabited β] [Inhabited (α × β)] (l:List (α × β)):((l.map Prod.fst).mapIdx fun i x=>(x,(l.getD i default).2))=l:=by
 apply List.ext_getElem
 ·simp
 ·intro i b a;simp [a]
structure MdB (m:Md):Prop where
 z:m.cl.length≤1048576∧m.st.length≤1048576∧m.me.length≤1048576
 c:∀ i,i<m.cl.length→(m.cl.getD i default).f.length≤1048576∧(m.cl.getD i default).m.length≤1048576
 m:∀ i,i<m.me.length→(m.me.getD i default).p.length≤1048576∧(m.me.getD i default).l.length≤1048576∧(m.me.getD i default).k.length≤1048576
section
variable {r:Reach}{b0:Nat}{v:Value}{d:DataW H}{ps:List MemPlace}(hval:Value.okWide Tryz.prog W r b0 26 v)(hd:DataW.Trod enc Tryz.prog W 0 (fun _=>true) true 26 v d ps)(hN:Rows.uptoBulk d≤1048576)
include r b0 v d ps hval hd hN
theorem Zon:
  ∃ h m,v=.agg (HM.mk h m)∧Zay W h m∧MdB m:=by
 obtain ⟨N,O,Q,R,S,T,U,V,n,rfl,j,_,y,A,B,C⟩:=Go.Joins.open_agg4 Tryz.underlying26 (by kernel_rfl) (by kernel_rfl) hval hd;rw [j] at hN;simp only [Rows.uptoBulk,Rows.uptoBulkAll] at hN;obtain ⟨p,o,e,rfl,g,D,E,c⟩:=Zn8 (α:=Cls × CHd) (v:=N) (by omega) Tryz.underlying22 (by kernel_rfl) Zoj y;obtain ⟨L,K,M,rfl,l,I,J,_⟩:=Zn8 (α:=Ty) (v:=O) (by omega) Tryz.underlying23 (by kernel_rfl) Zoe A;obtain ⟨t,q,f,rfl,k,F,G,b⟩:=Zn8 (α:=Mth × MHd) (v:=Q) (by omega) Tryz.underlying24 (by kernel_rfl) Zok B;obtain ⟨s,u,_⟩:=DataW.trod_int Tryz.underlying3 C;obtain rfl:R=_:=by simpa using u
 refine ⟨⟨p,o,L,K,t,q,fun i=>(e.getD i default).2,fun i=>(f.getD i default).2⟩,⟨e.map Prod.fst,M,f.map Prod.fst,s⟩,by simp,?_,⟨by dsimp only;simp only [List.length_map];omega,fun i a=>?_,fun i a=>?_⟩⟩
 rotate_left
 ·dsimp only at a ⊢;rw [List.length_map] at a;rw [Zol _ a];exact (c i a).2.2.2
 ·dsimp only at a ⊢;rw [List.length_map] at a;rw [Zol _ a];exact (b i a).2.2.2
 refine ⟨?_,l,?_,?_,?_,?_,?_,?_,?_,?_,?_⟩
 ·show Zar W p o ((e.map Prod.fst).mapIdx fun i x=>(x,(e.getD i default).2));rw [Zom];exact g
 ·show Zar W t q ((f.map Prod.fst).mapIdx fun i x=>(x,(f.getD i default).2));rw [Zom];exact k
 all_goals try (intro i a;dsimp only at a ⊢;rw [List.length_map] at a;rw [Zol _ a])
 ·exact (c i a).1
 ·exact (c i a).2.1
 ·exact (b i a).1
 ·exact (b i a).2.1
 ·exact (b i a).2.2.1
 ·exact (c i a).2.2.1
 ·have:=(b i a).2.2.2;omega
 ·dsimp only;simp only [List.length_map];omega
theorem Zoo:
  ∃ h m,v=.agg (HM.mk h m)∧Zay W h m:=by
 obtain ⟨h,m,a,b,_⟩:=Zon hval hd hN;exact ⟨h,m,a,b⟩
end
theorem Zop {r:Reach}{b0:Nat}{v:Value}{d:DataW H}{ps:List MemPlace} (hval:Value.okWide Tryz.prog W r b0 76 v) (hd:DataW.Trod enc Tryz.prog W 0 (fun _=>true) true 76 v d ps) :
  ∃ t:Ty,v=.agg #[.int .i64 t.k,.int .i64 t.c]:=by
 obtain ⟨v0,A,y0,y1,n,rfl,_,_,y,h1⟩:=Go.Joins.open_agg2 Tryz.underlying76 (by kernel_rfl) (by kernel_rfl) hval hd;obtain ⟨k0,e0,_⟩:=DataW.trod_int Tryz.underlying3 y;obtain ⟨k1,f,_⟩:=DataW.trod_int Tryz.underlying3 h1;obtain rfl:v0=_:=by simpa using e0
 obtain rfl:A=_:=by simpa using f
 exact ⟨⟨k0,k1⟩,rfl⟩
end
end
