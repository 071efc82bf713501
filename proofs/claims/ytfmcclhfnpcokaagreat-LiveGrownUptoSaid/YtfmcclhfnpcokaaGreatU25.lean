import Derived.WideKeyEntry
import Derived.Test.YtfmcclhfnpcokaaGreatG23
import Derived.Lib.SmallJoins
set_option linter.all false
set_option maxRecDepth 100000
set_option maxHeartbeats 8000000
namespace Go.Proofs.YtfmcclhfnpcokaaGreat
section
open Go.RowKit
def Znv (m:Md) (t u:Ty):Bool × Int:=if (Za2 m&&ZaG m.cl.length t 1&&ZaG m.cl.length u 1)=true then (Zev m t u,0) else (false,1)
theorem Znw (m:Md) (h:Hd) (t u:Ty) (w:World) (H:Zaz w h m):Calls Tryz.prog 134 #[.agg (HM.mk h m),.agg #[.int .i64 t.k,.int .i64 t.c],.agg #[.int .i64 u.k,.int .i64 u.c]] w (Zhi w (.bool (Znv m t u).1) (.int .i64 (Znv m t u).2)):=by
 obtain ⟨b,c⟩:∃ b,b=((w.alloc (.cells (HM.mk h m) 26)).alloc (.cells #[.int .i64 t.k,.int .i64 t.c] 38)).alloc (.cells #[.int .i64 u.k,.int .i64 u.c] 38):=⟨_,rfl⟩;have l:Below w.heap.size w b:=by rw [c];exact bE
 have U:Blk b w.heap.size (HM.mk h m) 26:=by rw [c];exact ((Blk.new w _ _).alloc _).alloc _
 have V:Blk b (w.heap.size+1) #[.int .i64 t.k,.int .i64 t.c] 38:=by rw [c];exact (Blk.new' (w:=w.alloc _) _ _ (by simp)).alloc _
 have X:Blk b (w.heap.size+2) #[.int .i64 u.k,.int .i64 u.c] 38:=by rw [c];exact Blk.new' (w:=(w.alloc _).alloc _) _ _ (by simp)
 have K:=Zh (show ∀ a,Below b.heap.size b a→_ from fun a Q=>And.intro (Zj8 (U.old Q)) (And.intro (Zj9 (V.old Q)) (Zj9 (X.old Q))));have M:∀ a,Below b.heap.size b a→_:=fun a o=>Zhh m h a (H.old (Zag l o));have N:∀ a,Below b.heap.size b a→_:=fun a _=>Zhu m h t a;have O:∀ a,Below b.heap.size b a→_:=fun a _=>Zhu m h u a;obtain ⟨r,T⟩:∃ r,r=Znv m t u:=⟨_,rfl⟩;rw [←T];have hF:∀ a,Below b.heap.size b a→_:=fun a o=>Zht m h t u a (H.old (Zag l o));have f:r=if (Za2 m&&ZaG m.cl.length t 1&&ZaG m.cl.length u 1)=true then (Zhr m t u,0) else (false,1):=by
  rw [T];unfold Znv;by_cases hq:(Za2 m&&ZaG m.cl.length t 1&&ZaG m.cl.length u 1)=true
  ·rw [if_pos hq,if_pos hq];simp only [Bool.and_eq_true] at hq;rw [ZiA hq.1.1 hq.1.2 hq.2]
  ·rw [if_neg hq,if_neg hq]
 clear T;generalize hx:Za2 m=x at M f;generalize hy:ZaG m.cl.length t 1=y at N f;generalize hz:ZaG m.cl.length u 1=z at O f;generalize Zhr m t u=g at hF f;subst f;have Y:=Zh M;have HT:=Zh N;have HU:=Zh O;have Z:=Zh hF;have HW:=Zh c;have L:=Zh l;clear M N O hF H U V X c l hx hy hz;have S:(x=false)∨(x=true∧y=false)∨(x=true∧y=true∧z=false)∨(x=true∧y=true∧z=true):=by cases x<;>cases y<;>cases z<;>simp
 rcases S with rfl|⟨rfl,rfl⟩|⟨rfl,rfl,rfl⟩|⟨rfl,rfl,rfl⟩
 all_goals
  go_enter Tryz.func134,Tryz.ntmps134
  go_upto_region 1 with fail
  rw [←HW.out];obtain ⟨⟨q,s,A,B⟩,⟨C,D⟩,E,F⟩:=K.out _ (Below.refl _ _)
  go_wp2_with (first
   | (go_at_call 124;refine (Y.out _ (Below.refl _ _)).mono ?_;rintro e w1 ⟨rfl,G⟩;have i:=Zh G;clear G q s A B C D E F;obtain ⟨⟨q,s,A,B⟩,⟨C,D⟩,E,F⟩:=K.out _ i.out)
   | (go_at_call 202;refine (HU.out _ j.out).mono ?_;rintro e w3 ⟨rfl,J⟩;have k:=Zh (Zag j.out J);clear J q s A B C D E F;obtain ⟨⟨q,s,A,B⟩,⟨C,D⟩,E,F⟩:=K.out _ k.out)
   | (go_at_call 202;refine (HT.out _ i.out).mono ?_;rintro e w2 ⟨rfl,I⟩;have j:=Zh (Zag i.out I);clear I q s A B C D E F;obtain ⟨⟨q,s,A,B⟩,⟨C,D⟩,E,F⟩:=K.out _ j.out)
   | (go_at_call 133;refine (Z.out _ k.out).mono ?_;rintro e w4 ⟨rfl,R⟩))
  go_ret2;refine Zhj (by simp) (by simp) (Zag L.out ?_)
  first|exact Zag k.out R|exact k.out|exact j.out|exact i.out
end
section
open Go.RowKit
attribute [local go_sem] World.cell?_alloc_some
end
section
open Go.RowKit
def Znx (P:Program):List Deferred→World→World→Prop
 | [],w,w'=>w=w'
 | [d],w,w'=>∃ b ts t cs v0,d.target=.builtin b ts t cs∧(invoke d.target d.args).run P w=.ok (.value v0) w'
 | _,_,_=>False
def Zny (P:Program) (gn:Func) (R:Ending→World→Prop):Exit→Act→World→Prop
 | .normal,a,w|.ret,a,w=>∃ w' v,Znx P a.defers w w'∧(results gn a.tmps).run P w'=.ok v w'∧R (.returned v) w'
 | .outgrown,_,w=>R .outgrown w
 | _,_,_=>False
theorem Znz {P:Program}{fr:Frame}{cs:List Frame}{w w':World}{d:Deferred}{ds:List Deferred}{b:Builtin}{h:Array TypeId}{t:TypeId}{f:Array Bool}{i:Value} (g:fr.mode=.returning) (hd:fr.defers=d :: ds) (e:d.target=.builtin b h t f) (c:(invoke d.target d.args).run P w=.ok (.value i) w') :
  step P (lone fr cs w)=.next (lone { fr with defers:=ds } cs w'):=by
 obtain ⟨j,a⟩:=d;simp only at e c;subst e;refine step_lone_go ?_;simp [stepG,unwind,callDeferred,g,hd,c]
theorem ZnA {P:Program}{c:Func}{ds:List Deferred}{w w':World}{fr:Frame}{cs:List Frame}{v:Value} (e:fr.mode=.returning) (hd:fr.defers=ds) (f:P.funcs[fr.fn]?=some c) (g:fr.kind=.normal) (h:Znx P ds w w') (i:(results c fr.tmps).run P w'=.ok v w') :
  ∃ a,Steps P (lone fr cs w) (lone a cs w')∧a.fn=fr.fn∧a.leaving P w' (.returned v):=by
 match ds,h with
 | [],h=>obtain rfl:=h;exact ⟨fr,Steps.refl P _,rfl,e,hd,g,c,f,i⟩
 |[d],h=>
  obtain ⟨b,m,t,l,o,k,j⟩:=h;exact ⟨{ fr with defers:=[] },.one (Znz e hd k j),rfl,e,rfl,g,c,f,i⟩
theorem ZnB {P:Program}{f:FuncId}{o:Func}{c:Code}{a:Array Value}{w:World}{R:Ending→World→Prop} (t:P.funcs[f]?=some o) (C:o.body=some c)
  (h:c.wp P (Zny P o R) { tmps:=a++Array.replicate (o.ntmps-a.size) undef,defers:=[] } w):Calls P f a w R:=by
 intro cs
 let b:Frame:={ (default:Frame) with fn:=f,kind:=.normal }
 have i:Frame.enter P f a .normal=b.at { tmps:=a++Array.replicate (o.ntmps-a.size) undef,defers:=[] } [.code c]:=by simp [Frame.enter,Frame.at,t,C,b]
 obtain ⟨e,q,D,m,g⟩:=h b [] cs;rw [←i] at g;cases e with
 |normal=>
  obtain ⟨B,v,hd,x,s⟩:=m;obtain ⟨j,y,k,u⟩:=ZnA (fr:={ b.at q [] with mode:=.returning }) (cs:=cs) (ds:=q.defers) rfl rfl t rfl hd x;exact ⟨.returned v,B,j,s,Comes.of_steps (Steps.trans g (.one Go.step_end)) y,k,u⟩
 |ret=>
  obtain ⟨B,v,hd,x,s⟩:=m;obtain ⟨p,A⟩:=g;obtain ⟨j,y,k,u⟩:=ZnA (fr:={ b.at q p with mode:=.returning }) (cs:=cs) (ds:=q.defers) rfl rfl t rfl hd x;exact ⟨.returned v,B,j,s,Comes.of_steps A y,k,u⟩
 | panic chain=>exact m.elim
 | exit id=>exact m.elim
 | goto l=>exact m.elim
 | outgrown=>exact ⟨.outgrown,D,b,m,g.resolve_left (by simp [b]),rfl,trivial⟩
end
section
open Go.RowKit
theorem ZnC (m:Md) (h:Hd) (w:World) (H:Zaz w h m):Calls Tryz.prog 21 #[.agg (HM.mk h m)] w (Ret w (.int .i64 (if (Zmk m).2.2=0 then 0 else 1))):=by
 have k:=Zh (fun w' s=>Zjm m h w' (H.old (w':=w') s));have u:=Zh (fun w' s=>Zmo w' h m (H.old (w':=w') s));have b:Za2 m=false→(Zmk m).2.2=1:=fun q=>by unfold Zmk;rw [if_neg (by rw [q];decide)]
 obtain ⟨q,g⟩:∃ q:Int,q=if (Zmk m).2.2=0 then 0 else 1:=⟨_,rfl⟩;rw [←g];obtain ⟨⟨I,J,K⟩,t⟩:∃ z,z=Zmk m:=⟨_,rfl⟩;rw [←t] at u g b;dsimp only at g b;have A:=Zh g;have c:=Zh (show Below w.heap.size w (w.alloc (.cells (HM.mk h m) 26)) by exact bE);have o:=Zh (Blk.new w (HM.mk h m) 26);rcases hm:Za2 m with _|_
 ·have x:q=1:=by rw [g,b hm];rfl
  have y:=Zh x;rw [hm] at k;clear H t g hm b x;go_enter Tryz.func21,Tryz.ntmps21
  go_wp2_with (go_at_call 60;refine (k.out _ c.out).mono ?_;rintro e B ⟨rfl,a⟩)
  go_ret;exact ZcP (ZcU y.out.symm) (Zag c.out a)
 ·rw [hm] at k;clear H t g hm b;go_enter Tryz.func21,Tryz.ntmps21
  go_wp2_with (first
   | (go_at_call 60;refine (k.out _ c.out).mono ?_;rintro e B ⟨rfl,a⟩;have i:=Zh (Zag c.out a);have f:=Zh (o.out.old a);have D:=f.out.cell 0 (v:=.slice h.co m.cl.length h.cc) rfl;have E:=f.out.cell 1 (v:=.slice h.so m.st.length h.sc) rfl;have F:=f.out.cell 2 (v:=.slice h.eo m.me.length h.ec) rfl;have G:=f.out.cell 3 (v:=.int .i64 m.sel) rfl;clear a)
   | (go_at_call 49;refine (u.out _ i.out).mono ?_;rintro e C ⟨rfl,j⟩;have l:=Zh (Zag i.out j);clear j))
  all_goals
   go_ret;refine ZcP (ZcU ?_) l.out;rw [A.out];grind
end
section
open Go.ChangeShapes Go.WideShapes Go.ChangeAt Go.RowKit
theorem ZnD {H:Type} (d:DataW H):1≤Rows.uptoBulk d:=by
 cases d with
 | lit l=>cases l<;>simp [Rows.uptoBulk]
 | nil=>simp [Rows.uptoBulk]
 | ptr d=>simp [Rows.uptoBulk]
 | slice elems spare=>simp [Rows.uptoBulk]
 | agg parts=>simp [Rows.uptoBulk]
 | iface t d=>simp [Rows.uptoBulk]
 | map entries=>simp [Rows.uptoBulk]
 | held h=>simp [Rows.uptoBulk]
theorem ZnE {H:Type} (l:List (DataW H)):l.length≤Rows.uptoBulkAll l:=by
 induction l with
 | nil=>simp [Rows.uptoBulkAll]
 | cons x r ih=>have:=ZnD x;simp only [Rows.uptoBulkAll,List.length_cons];omega
theorem ZnF {H:Type} (a b:List (DataW H)):a.length+b.length+1≤Rows.uptoBulk (.slice a b):=by have c:=ZnE a;have e:=ZnE b;simp only [Rows.uptoBulk];omega
theorem ZnG {H:Type}{l:List (DataW H)} (a:Rows.uptoSmall H l=true):Rows.uptoBulkAll l≤1048576:=of_decide_eq_true a
theorem ZnH {H:Type} (k:IntKind) (a:List Int):(lits (H:=H) k a).length=a.length:=by simp [lits]
theorem ZnI {H:Type}{enc:TypeId × Value→H}{P:Program}{W:World}{r:Reach}{b0:Nat}{t e:TypeId}{k:IntKind}{v:Value}{d:DataW H}{ps:List MemPlace}
  (q:P.underlying t=some (.slice e)) (u:P.underlying e=some (.int k)) (s:P.cellsOf e=1)
  (hval:Value.okWide P W r b0 t v) (hd:DataW.Trod enc P W 0 (fun _=>true) true t v d ps) :
  ∃ a cap f,v=.slice a f.length cap∧(Sl k W a f∧(a=none→cap=0))∧(∀ n∈f,(Lit.int k n).wf=true)∧f.length≤maxLen∧f.length≤Rows.uptoBulk d:=by
 obtain ⟨a,o,cap,rfl⟩:=okWide_slice q hval;obtain ⟨p,y⟩:=hd;rcases open_ints q u s y with ⟨b,_⟩|⟨x,l,c,f,b,_,E,F,C,B,g,m⟩
 ·simp [Value.cells] at b;obtain ⟨rfl,rfl,rfl⟩:=b;exact ⟨none,0,[],rfl,⟨fun i j=>by simp at j,fun _=>rfl⟩,by simp,by simp,by simp⟩
 ·simp [Value.cells] at b;obtain ⟨rfl,rfl,rfl⟩:=b;have D:f.length=cap:=by simpa using C
  obtain ⟨rfl,_⟩:=Prod.mk.inj B;refine ⟨some x,cap,f.take o,by rw [List.length_take,Nat.min_eq_left (by omega)],⟨?_,fun h=>by cases h⟩,fun n A=>m n (List.mem_of_mem_take A),by rw [List.length_take];omega,?_⟩
  ·intro i j;rw [List.length_take] at j;refine ⟨x,rfl,?_⟩;rw [g i (by omega),List.getD_eq_getElem?_getD,List.getD_eq_getElem?_getD,List.getElem?_take_of_lt (by omega)]
  ·refine Nat.le_trans ?_ (ZnF _ _);rw [ZnH];omega
theorem ZnJ {n:Int} (h:(Lit.int .i64 n).wf=true):-9223372036854775808≤n∧n≤9223372036854775807:=by simpa [Lit.wf,IntKind.min,IntKind.max,IntKind.bits,IntKind.signed] using h
end
section
open Go.ChangeShapes Go.WideShapes Go.ChangeAt Go.RowKit Go.Deep
theorem ZnK {α:Type} [Inhabited α] {Q:Nat→α→Prop}:∀ n,(∀ i,i<n→∃ x,Q i x)→∃ l:List α,l.length=n∧∀ i,i<n→Q i (l.getD i default)
 | 0,_=>⟨[],rfl,fun i a=>by omega⟩
 |n+1,h=>by
  obtain ⟨l,b,c⟩:=ZnK n fun i a=>h i (by omega);obtain ⟨x,e⟩:=h n (by omega);refine ⟨l++[x],by simp [b],fun i a=>?_⟩;by_cases hin:i<n
  ·rw [List.getD_eq_getElem?_getD,List.getElem?_append_left (by omega),←List.getD_eq_getElem?_getD];exact c i hin
  ·obtain rfl:i=n:=by omega
   rw [List.getD_eq_getElem?_getD,List.getElem?_append_right (by omega),b];simpa using e
section
variable {H:Type}{enc:TypeId × Value→H}{P:Program}{W:World}
theorem ZnL {d:DataW H}:∀ {l:List (DataW H)},d∈l→Rows.uptoBulk d≤Rows.uptoBulkAll l
 | [],h=>by cases h
 |x :: r,h=>by
  unfold Rows.uptoBulkAll;rcases List.mem_cons.1 h with rfl|h
  ·omega
  ·have:=ZnL h;omega
theorem ZnM {α:Type} [Cells α] [Inhabited α] {Q:α→Prop}{t e:TypeId}{f:Nat}{v:Value}{y:DataW H × List MemPlace} (hN:Rows.uptoBulk y.1≤1048576) (V:P.underlying t=some (.slice e)) (T:P.cellsOf e=Cells.n α)
  (E:∀ n cs z,Rows.uptoBulk z.1≤1048576→cs.length=Cells.n α→DataW.trod enc P W 0 (fun _=>true) true n e cs=some z→∃ x:α,cs=Cells.cells x∧Q x) (h:DataW.trod enc P W 0 (fun _=>true) true f t [v]=some y) :
  ∃ ao cap,∃ l:List α,v=.slice ao l.length cap∧Zas W ao cap l∧l.length≤cap∧l.length≤1048576∧∀ i,i<l.length→Q (l.getD i default):=by
 rcases open_slice V h with ⟨c,_⟩|⟨a,b,cap,k,n,D,X,c,_,Y,Z,J,S,p⟩
 ·obtain rfl:v=.slice none 0 0:=by simpa using c
  exact ⟨none,0,[],rfl,Zas.nil W,by simp,by simp,fun i p=>by simp at p⟩
 ·obtain rfl:v=.slice (some a) b cap:=by simpa using c
  have U:b≤k:=by simp at J;omega
  have F:∀ i,i<b→∃ x:α,Q x∧∀ j (q:j<Cells.n α),W.cell? (a.add (i*Cells.n α+j))=(Cells.cells x)[j]?:=by intro i G;obtain ⟨A,O,K⟩:=p i (by omega);rw [T] at O;obtain ⟨_,C,B⟩:=World.cells?_some O;obtain ⟨x,M,s⟩:=E n A _ (Nat.le_trans (ZnL (List.mem_map.2 ⟨i,List.mem_range.2 G,rfl⟩)) (by rw [S] at hN;unfold Rows.uptoBulk at hN;omega)) C K;refine ⟨x,s,fun j q=>?_⟩;rw [←M,←B j q,Go.Deep.add_add]
  obtain ⟨l,I,s⟩:=ZnK b F;refine ⟨some a,cap,l,by rw [I],⟨Zan l,(fun h=>by cases h),fun j u L=>⟨a,rfl,?_⟩⟩,by omega,?_,fun i p=>(s i (by omega)).1⟩
  rotate_left
  ·rw [S] at hN;dsimp only at hN;have:=ZnF ((List.range b).map D) ((List.range (k-b)).map fun j=>D (b+j));simp only [List.length_map,List.length_range] at this;omega
  have R:=Cells.pos (α:=α);have q:j<l.length*Cells.n α:=by have:=(List.getElem?_eq_some_iff.1 L).1;rwa [Zan] at this
  have g:j / Cells.n α<l.length:=(Nat.div_lt_iff_lt_mul R).2 q;have o:j % Cells.n α<Cells.n α:=Nat.mod_lt _ R;have m:j=j / Cells.n α*Cells.n α+j % Cells.n α:=by rw [Nat.mul_comm];exact (Nat.div_add_mod j _).symm
  have N:=(s (j / Cells.n α) (by omega)).2 (j % Cells.n α) o;rw [m,Zaq l _ g _ o] at L;rw [←m] at N;rw [N,←L];simp [g]
theorem ZnN {cs:List Value} (c:cs.length=2):∃ a b,cs=[a,b]:=by
 match cs,c with
 | [a,b],_=>exact ⟨a,b,rfl⟩
theorem ZnO {cs:List Value} (e:cs.length=3):∃ a b c,cs=[a,b,c]:=by
 match cs,e with
 | [a,b,c],_=>exact ⟨a,b,c,rfl⟩
theorem ZnP {cs:List Value} (e:cs.length=4):∃ a b c d,cs=[a,b,c,d]:=by
 match cs,e with
 | [a,b,c,d],_=>exact ⟨a,b,c,d,rfl⟩
theorem ZnQ {cs:List Value} (h:cs.length=7):∃ a b c d e f g,cs=[a,b,c,d,e,f,g]:=by
 match cs,h with
 | [a,b,c,d,e,f,g],_=>exact ⟨a,b,c,d,e,f,g,rfl⟩
end
section
variable {H:Type}{enc:TypeId × Value→H}{W:World}
section
variable (n:Nat)(cs:List Value)(z:DataW H × List MemPlace)
include n cs z
theorem ZnR (_:Rows.uptoBulk z.1≤1048576) (_:cs.length=Cells.n Int) (h:DataW.trod enc Tryz.prog W 0 (fun _=>true) true n 3 cs=some z):∃ x:Int,cs=Cells.cells x∧True:=by obtain ⟨k,e,_⟩:=DataW.trod_int Tryz.underlying3 h;exact ⟨k,e,trivial⟩
theorem ZnS (_:Rows.uptoBulk z.1≤1048576) (E:cs.length=Cells.n Ty) (h:DataW.trod enc Tryz.prog W 0 (fun _=>true) true n 38 cs=some z):∃ x:Ty,cs=Cells.cells x∧True:=by obtain ⟨xs,n,_,_,_,hlen,C⟩:=DataW.trod_struct Tryz.underlying38 h;obtain ⟨a,b,rfl⟩:=ZnN E;have A:=C 0 _ rfl;have h1:=C 1 _ rfl;rw [show xs[0]?=some (xs[0]'(by rw [hlen];decide)) by simp] at A;rw [show xs[1]?=some (xs[1]'(by rw [hlen];decide)) by simp] at h1;obtain ⟨k0,e0,_⟩:=DataW.trod_int Tryz.underlying3 A;obtain ⟨k1,D,_⟩:=DataW.trod_int Tryz.underlying3 h1;have f:[a]=[Value.int .i64 k0]:=e0;have y:[b]=[Value.int .i64 k1]:=D;cases f;cases y;exact ⟨⟨k0,k1⟩,rfl,trivial⟩
theorem ZnT (_:Rows.uptoBulk z.1≤1048576) (G:cs.length=Cells.n In3) (h:DataW.trod enc Tryz.prog W 0 (fun _=>true) true n 72 cs=some z):∃ x:In3,cs=Cells.cells x∧True:=by obtain ⟨xs,n,_,_,_,hlen,C⟩:=DataW.trod_struct Tryz.underlying72 h;obtain ⟨a,b,c,rfl⟩:=ZnO G;have h0:=C 0 _ rfl;have h1:=C 1 _ rfl;have D:=C 2 _ rfl;rw [show xs[0]?=some (xs[0]'(by rw [hlen];decide)) by simp] at h0;rw [show xs[1]?=some (xs[1]'(by rw [hlen];decide)) by simp] at h1;rw [show xs[2]?=some (xs[2]'(by rw [hlen];decide)) by simp] at D;obtain ⟨k0,e0,_⟩:=DataW.trod_int Tryz.underlying3 h0;obtain ⟨k1,E,_⟩:=DataW.trod_int Tryz.underlying3 h1;obtain ⟨k2,F,_⟩:=DataW.trod_int Tryz.underlying3 D;have f:[a]=[Value.int .i64 k0]:=e0;have y:[b]=[Value.int .i64 k1]:=E;have A:[c]=[Value.int .i64 k2]:=F;cases f;cases y;cases A;exact ⟨⟨k0,k1,k2⟩,rfl,trivial⟩
end
theorem ZnU {z:DataW H × List MemPlace}{a:List (DataW H × List MemPlace)} (b:z=(.agg (a.map (·.1)),a.flatMap (·.2))) (c:Rows.uptoBulk z.1≤1048576) {i:Nat} (e:i<a.length):Rows.uptoBulk (a[i]).1≤1048576:=by refine Nat.le_trans (ZnL (l:=a.map (·.1)) (List.mem_map.2 ⟨a[i],List.getElem_mem e,rfl⟩)) ?_;rw [b] at c;unfold Rows.uptoBulk at c;omega
def ZnV (W:World) (x:Cls × CHd):Prop:=Zas W x.2.fo x.2.fc x.1.f∧Zas W x.2.mo x.2.mc x.1.m∧x.1.f.length≤x.2.fc∧x.1.f.length≤1048576∧x.1.m.length≤1048576
def ZnW (W:World) (x:Mth × MHd):Prop:=Zas W x.2.po x.2.pc x.1.p∧Zas W x.2.lo x.2.lc x.1.l∧Zas W x.2.ko x.2.kc x.1.k∧x.1.p.length≤1048576∧x.1.l.length≤1048576∧x.1.k.length≤1048576
instance:Inhabited (Cls × CHd):=⟨default,default⟩
instance:Inhabited (Mth × MHd):=⟨default,default⟩
theorem ZnX (n:Nat) (cs:List Value) (z:DataW H × List MemPlace) (Z:Rows.uptoBulk z.1≤1048576) (X:cs.length=Cells.n (Cls × CHd)) (h:DataW.trod enc Tryz.prog W 0 (fun _=>true) true n 44 cs=some z):∃ x:Cls × CHd,cs=Cells.cells x∧ZnV W x:=by obtain ⟨xs,n,_,J,_,hlen,y⟩:=DataW.trod_struct Tryz.underlying44 h;have hp:∀ i (hi:i<xs.length),Rows.uptoBulk (xs[i]).1≤1048576:=fun i hi=>ZnU J Z hi;obtain ⟨a,b,c,d,rfl⟩:=ZnP X;have M:=y 0 _ rfl;have h1:=y 1 _ rfl;have N:=y 2 _ rfl;have R:=y 3 _ rfl;rw [show xs[0]?=some (xs[0]'(by rw [hlen];decide)) by simp] at M;rw [show xs[1]?=some (xs[1]'(by rw [hlen];decide)) by simp] at h1;rw [show xs[2]?=some (xs[2]'(by rw [hlen];decide)) by simp] at N;rw [show xs[3]?=some (xs[3]'(by rw [hlen];decide)) by simp] at R;obtain ⟨k0,e0,_⟩:=DataW.trod_string Tryz.underlying9 M;obtain ⟨k1,T,_⟩:=DataW.trod_int Tryz.underlying3 h1;have A:[a]=[Value.string k0]:=e0;have C:[b]=[Value.int .i64 k1]:=T;cases A;cases C;obtain ⟨V,U,f,rfl,F,E,D,_⟩:=ZnM (α:=Ty) (v:=c) (hp 2 _) Tryz.underlying23 (by kernel_rfl) ZnS N;obtain ⟨mo,mc,l,rfl,I,Y,G,_⟩:=ZnM (α:=Int) (v:=d) (hp 3 _) Tryz.underlying27 (by kernel_rfl) ZnR R;exact ⟨(⟨k0,k1,f,l⟩,⟨V,U,mo,mc⟩),rfl,F,I,E,D,G⟩
theorem ZnY (n:Nat) (cs:List Value) (z:DataW H × List MemPlace) (hz:Rows.uptoBulk z.1≤1048576) (Y:cs.length=Cells.n (Mth × MHd)) (h:DataW.trod enc Tryz.prog W 0 (fun _=>true) true n 70 cs=some z):∃ x:Mth × MHd,cs=Cells.cells x∧ZnW W x:=by
 obtain ⟨xs,n,_,M,_,hlen,f⟩:=DataW.trod_struct Tryz.underlying70 h;have hp:∀ i (hi:i<xs.length),Rows.uptoBulk (xs[i]).1≤1048576:=fun i hi=>ZnU M hz hi;obtain ⟨a,b,c,d,r,s,k,rfl⟩:=ZnQ Y;have N:=f 0 _ rfl;have h1:=f 1 _ rfl;have R:=f 2 _ rfl;have T:=f 3 _ rfl;have U:=f 4 _ rfl;have V:=f 5 _ rfl;rw [show xs[0]?=some (xs[0]'(by rw [hlen];decide)) by simp] at N;rw [show xs[1]?=some (xs[1]'(by rw [hlen];decide)) by simp] at h1;rw [show xs[2]?=some (xs[2]'(by rw [hlen];decide)) by simp] at R;rw [show xs[3]?=some (xs[3]'(by rw [hlen];decide)) by simp] at T;rw [show xs[4]?=some (xs[4]'(by rw [hlen];decide)) by simp] at U;rw [show xs[5]?=some (xs[5]'(by rw [hlen];decide)) by simp] at V;obtain ⟨k0,e0,_⟩:=DataW.trod_string Tryz.underlying9 N;obtain ⟨k1,X,_⟩:=DataW.trod_int Tryz.underlying3 h1;have y:[a]=[Value.string k0]:=e0;have A:[b]=[Value.int .i64 k1]:=X;cases y;cases A;obtain ⟨po,pc,p,rfl,I,aa,G,_⟩:=ZnM (α:=Ty) (v:=c) (hp 2 _) Tryz.underlying23 (by kernel_rfl) ZnS R;obtain ⟨lo,lc,l,rfl,F,Z,E,_⟩:=ZnM (α:=Ty) (v:=d) (hp 3 _) Tryz.underlying23 (by kernel_rfl) ZnS T;obtain ⟨t,ht,_⟩:=ZnS (cs:=[r,s]) _ _ (hp 4 _) rfl U;have J:[r,s]=[Value.int .i64 t.k,Value.int .i64 t.c]:=ht;cases J;obtain ⟨ko,kc,q,rfl,D,hkl,C,_⟩:=ZnM (α:=In3) (v:=k) (hp 5 _) Tryz.underlying68 (by kernel_rfl) ZnT V;exact ⟨(⟨k0,k1,p,l,t,q⟩,⟨po,pc,lo,lc,ko,kc⟩),rfl,I,F,D,G,E,C⟩
theorem ZnZ {α β:Type} [Inhabited α] [Inhabited (α × β)] (l:List (α × β)) {i:Nat} (a:i<l.length):(l.map Prod.fst).getD i default=(l.getD i default).1:=by simp [a]
theorem Zn0 {α β:Type} [Inhabited β] [Inhabited (α × β)] (l:List (α × β)):((l.map Prod.fst).mapIdx fun i x=>(x,(l.getD i default).2))=l:=by
 apply List.ext_getElem
 ·simp
 ·intro i b a;simp [a]
structure MdB (m:Md):Prop where
 z:m.cl.length≤1048576∧m.st.length≤1048576∧m.me.length≤1048576
 c:∀ i,i<m.cl.length→(m.cl.getD i default).f.length≤1048576∧(m.cl.getD i default).m.length≤1048576
 m:∀ i,i<m.me.length→(m.me.getD i default).p.length≤1048576∧(m.me.getD i default).l.length≤1048576∧(m.me.getD i default).k.length≤1048576
section
variable {r:Reach}{b0:Nat}{v:Value}{d:DataW H}{ps:List MemPlace}(hval:Value.okWide Tryz.prog W r b0 26 v)(hd:DataW.Trod enc Tryz.prog W 0 (fun _=>true) true 26 v d ps)(hN:Rows.uptoBulk d≤1048576)
include r b0 v d ps hval hd hN
theorem Zn1:
  ∃ h m,v=.agg (HM.mk h m)∧Zaz W h m∧MdB m:=by
 obtain ⟨N,O,Q,R,S,T,U,V,n,rfl,j,_,y,A,B,C⟩:=Go.Joins.open_agg4 Tryz.underlying26 (by kernel_rfl) (by kernel_rfl) hval hd;rw [j] at hN;simp only [Rows.uptoBulk,Rows.uptoBulkAll] at hN;obtain ⟨p,o,e,rfl,g,D,E,c⟩:=ZnM (α:=Cls × CHd) (v:=N) (by omega) Tryz.underlying22 (by kernel_rfl) ZnX y;obtain ⟨L,K,M,rfl,l,I,J,_⟩:=ZnM (α:=Ty) (v:=O) (by omega) Tryz.underlying23 (by kernel_rfl) ZnS A;obtain ⟨t,q,f,rfl,k,F,G,b⟩:=ZnM (α:=Mth × MHd) (v:=Q) (by omega) Tryz.underlying24 (by kernel_rfl) ZnY B;obtain ⟨s,u,_⟩:=DataW.trod_int Tryz.underlying3 C;obtain rfl:R=_:=by simpa using u
 refine ⟨⟨p,o,L,K,t,q,fun i=>(e.getD i default).2,fun i=>(f.getD i default).2⟩,⟨e.map Prod.fst,M,f.map Prod.fst,s⟩,by simp,?_,⟨by dsimp only;simp only [List.length_map];omega,fun i a=>?_,fun i a=>?_⟩⟩
 rotate_left
 ·dsimp only at a ⊢;rw [List.length_map] at a;rw [ZnZ _ a];exact (c i a).2.2.2
 ·dsimp only at a ⊢;rw [List.length_map] at a;rw [ZnZ _ a];exact (b i a).2.2.2
 refine ⟨?_,l,?_,?_,?_,?_,?_,?_,?_,?_,?_⟩
 ·show Zas W p o ((e.map Prod.fst).mapIdx fun i x=>(x,(e.getD i default).2));rw [Zn0];exact g
 ·show Zas W t q ((f.map Prod.fst).mapIdx fun i x=>(x,(f.getD i default).2));rw [Zn0];exact k
 all_goals try (intro i a;dsimp only at a ⊢;rw [List.length_map] at a;rw [ZnZ _ a])
 ·exact (c i a).1
 ·exact (c i a).2.1
 ·exact (b i a).1
 ·exact (b i a).2.1
 ·exact (b i a).2.2.1
 ·exact (c i a).2.2.1
 ·have:=(b i a).2.2.2;omega
 ·dsimp only;simp only [List.length_map];omega
theorem Zn2:
  ∃ h m,v=.agg (HM.mk h m)∧Zaz W h m:=by
 obtain ⟨h,m,a,b,_⟩:=Zn1 hval hd hN;exact ⟨h,m,a,b⟩
end
theorem Zn3 {r:Reach}{b0:Nat}{v:Value}{d:DataW H}{ps:List MemPlace} (hval:Value.okWide Tryz.prog W r b0 38 v) (hd:DataW.Trod enc Tryz.prog W 0 (fun _=>true) true 38 v d ps) :
  ∃ t:Ty,v=.agg #[.int .i64 t.k,.int .i64 t.c]:=by
 obtain ⟨v0,A,y0,y1,n,rfl,_,_,y,h1⟩:=Go.Joins.open_agg2 Tryz.underlying38 (by kernel_rfl) (by kernel_rfl) hval hd;obtain ⟨k0,e0,_⟩:=DataW.trod_int Tryz.underlying3 y;obtain ⟨k1,f,_⟩:=DataW.trod_int Tryz.underlying3 h1;obtain rfl:v0=_:=by simpa using e0
 obtain rfl:A=_:=by simpa using f
 exact ⟨⟨k0,k1⟩,rfl⟩
end
end
