import Derived.Test.YtfmcclhfnpcokaaGreatRows
import Derived.WalkSpells
import Derived.WalkLawsBesides
import Derived.Lib.Hide
import Derived.StillTailTactics
import Derived.Laws.AppendOwnNone
import Derived.OrdersHeld
import Derived.BigQuiet
import Derived.Deep.OwnRows
import Derived.Deep.CutRange
import Derived.Deep.WholeRow
import Derived.Lib.SlicesCompact
set_option linter.all false
set_option maxRecDepth 100000
set_option maxHeartbeats 4000000
namespace Go.Proofs.YtfmcclhfnpcokaaGreat
theorem Zh {p:Prop}(h:p):RowKit.Hid p:=Lib.hid h
theorem k97{p:Prop}(h:p:=by
 simp only [List.getD_eq_getElem?_getD,List.getElem?_set];split
 ·subst_vars;simp [hi]
 ·rfl):p:=h
section
open Go.RowKit
theorem Zaa {a b:Int} (h:a=b):Ending.returned (.int .i64 a)=.returned (.int .i64 b):=by rw [h]
theorem Zab {a b:Bool} (h:a=b):Ending.returned (.bool a)=.returned (.bool b):=by rw [h]
theorem Zac {a b c d:Int} (h:a=c) (f:b=d):Ending.returned (.tuple #[.int .i64 a,.int .i64 b])=.returned (.tuple #[.int .i64 c,.int .i64 d]):=by rw [h,f]
theorem Zad {w:World}{a:Addr}{v:Value} (h:w.cell? a=some v):a.block<w.heap.size:=by
 unfold World.cell? at h;by_cases hlt:a.block<w.heap.size
 ·exact hlt
 ·have e:w.heap[a.block]?=none:=by simp;omega
  simp [e] at h
def Sl (k:IntKind) (w:World) (a:Option Addr) (zs:List Int):Prop:=∀ i,i<zs.length→∃ ad,a=some ad∧w.cell? (ad.add i)=some (.int k (zs.getD i 0))
theorem Sl.below {k:IntKind}{w w':World}{a:Option Addr}{zs:List Int} (h:Sl k w a zs) (hb:Below w.heap.size w w'):Sl k w' a zs:=by intro i v;obtain ⟨j,ha,q⟩:=h i v;have f:(j.add i).block<w.heap.size:=Zad q;exact ⟨j,ha,by rw [hb.cell f];exact q⟩
theorem Zae (l:List Int) (k:Nat) (h:k<l.length):l.take (k+1)=l.take k++[l.getD k 0]:=by rw [List.take_succ_eq_append_getElem h];simp [h]
theorem Zaf {P:Program}{id:Nat}{Q:Exit→Act→World→Prop}{a:Act}{w:World}{l:List Oper} (n:Nat) (q:P.follows .mixedOrders=true) (j:Region.lexTailB .any l.toArray n=true)
  (h:wpStill P l.toArray w.drew (fun f=>wpList P l.toArray Q (l.drop n) f w.drew) (l.take n) a):(Code.region id l.toArray true).wp P Q a w:=wp_region_still_tail n q j h
theorem Zag {a b c:World} (h1:Below a.heap.size a b) (h2:Below b.heap.size b c):Below a.heap.size a c:=h1.trans (h2.mono h1.size)
def IsB (zs:List Int):Prop:=∀ i,i<zs.length→0≤zs.getD i 0∧zs.getD i 0≤255
end
section
open Go.RowKit
theorem Zah (a:Addr) (j:Nat):(a.add j).block=a.block:=by unfold Addr.add;split<;>rfl
def SlA (w:World) (size:Nat) (ao:Option Addr) (n cap:Nat) (xs:List Value):Prop:=
 xs.length=n*size∧(ao=none→n=0∧cap=0)∧∀ j u,xs[j]?=some u→∃ a,ao=some a∧w.cell? (a.add j)=some u
theorem SlA.below {w w':World}{size:Nat}{ao:Option Addr}{n cap:Nat}{xs:List Value} (h:SlA w size ao n cap xs) {B:Nat} (hb:Below B w w') (hB:∀ (a:Addr) (j:Nat) (u:Value),ao=some a→xs[j]?=some u→a.block<B):SlA w' size ao n cap xs:=by refine ⟨h.1,h.2.1,fun j u f=>?_⟩;obtain ⟨a,ha,q⟩:=h.2.2 j u f;exact ⟨a,ha,by rw [hb.cell (p:=a.add j) (by rw [Zah];exact hB a j u ha f)];exact q⟩
theorem SlA.old {w w':World}{size:Nat}{ao:Option Addr}{n cap:Nat}{xs:List Value} (h:SlA w size ao n cap xs) (hb:Below w.heap.size w w'):SlA w' size ao n cap xs:=by refine h.below hb fun a j u ha v=>?_;obtain ⟨y,f,q⟩:=h.2.2 j u v;rw [ha] at f;obtain rfl:=Option.some.inj f;have:=Zad q;rwa [Zah] at this
theorem SlA.alloc {w:World}{size:Nat}{ao:Option Addr}{n cap:Nat}{xs:List Value} (h:SlA w size ao n cap xs) (o:Obj):SlA (w.alloc o) size ao n cap xs:=
 h.old ((Below.refl _ _).alloc (Nat.le_refl _) _)
theorem SlA.ints {k:IntKind}{w:World}{ao:Option Addr}{n cap:Nat}{zs:List Int} (h:SlA w 1 ao n cap (zs.map (Value.int k))):n=zs.length∧Sl k w ao zs:=by refine ⟨by simpa using h.1.symm,fun i f=>?_⟩;obtain ⟨a,ha,j⟩:=h.2.2 i (.int k (zs.getD i 0)) (by rw [List.getElem?_map,List.getElem?_eq_getElem f];simp [f]);exact ⟨a,ha,j⟩
theorem SlA.of_ints {k:IntKind}{w:World}{ao:Option Addr}{cap:Nat}{zs:List Int} (h:Sl k w ao zs) (hn:ao=none→cap=0):SlA w 1 ao zs.length cap (zs.map (Value.int k)):=by
 refine ⟨by simp,fun ha=>⟨?_,hn ha⟩,fun j u q=>?_⟩
 ·cases zs with
  | nil=>rfl
  | cons z r=>obtain ⟨a,f,_⟩:=h 0 (by simp);rw [ha] at f;cases f
 ·rw [List.getElem?_map] at q;obtain ⟨z,v,rfl⟩:=Option.map_eq_some_iff.1 q;have A:j<zs.length:=(List.getElem?_eq_some_iff.1 v).1;obtain ⟨a,ha,y⟩:=h j A;refine ⟨a,ha,?_⟩;rw [y,List.getD_eq_getElem?_getD,v];rfl
structure El (P:Program) (t e:TypeId) (size bytes:Nat):Prop where
 und:P.underlying t=some (.slice e)
 info:∃ i z,P.info? e=some i∧i.zero=some z∧i.size=size∧i.bytes=bytes∧z.cells.size=size
 pos:0<size
theorem El.mk' {P:Program}{t e:TypeId}{size bytes:Nat}{z:Value} (ht:P.underlying t=some (.slice e)) (h:(P.info? e).map (fun i=>(i.zero,i.size,i.bytes))=some (some z,size,bytes)) (hz:z.cells.size=size) (hp:0<size):El P t e size bytes:=by obtain ⟨i,j,f,h1,h2⟩:=info_parts h;exact ⟨ht,⟨i,z,j,f,h1,h2,hz⟩,hp⟩
section
variable {w:World}{base:Nat}{e:TypeId}{size:Nat}{ao:Option Addr}{m n cap:Nat}{xs:List Value}(h:w.ownsRow base e size (.slice ao m cap) n xs)
include w base e size ao m n cap xs h
theorem Zai:m=n∧SlA w size ao n cap xs:=by
 obtain ⟨h1,h2⟩:=h;rcases h2 with ⟨h2,rfl⟩|⟨g,c,v,z,_,hg,_,_,_,y⟩
 ·cases h2;exact ⟨rfl,h1,fun _=>⟨rfl,rfl⟩,fun j u f=>by simp at h1;subst h1;simp at f⟩
 ·cases z;refine ⟨rfl,h1,(fun h=>by cases h),fun j u f=>⟨_,rfl,?_⟩⟩;have q:(⟨g,0,none⟩:Addr).add j=⟨g,j,none⟩:=by unfold Addr.add;split<;>simp_all
  rw [q,cell_of_row w g j v e (0,0) hg];rw [←y,List.getElem?_take] at f;split at f
  ·simpa using f
  ·cases f
theorem Zaj (q:0<n):∃ g,ao=some ⟨g,0,none⟩:=by
 rcases h.2 with ⟨_,rfl⟩|⟨g,c,f,j,_⟩
 ·omega
 ·cases j;exact ⟨g,rfl⟩
end
theorem Zak {P:Program}{w:World}{ops:Array Oper}{F:List Oper}{o:Oper}{a:Act}{Q:Exit→Act→World→Prop} (I:o.guard=none) (s x:Operand) (t:TypeId)
  (T:o.op=.call { callee:=.builtin .append,args:=#[s,x],argTypes:=#[t,t] })
  (base:Nat) (e:TypeId) (size y:Nat) (C:El P t e size y)
  (v:Value) (n:Nat) (xs:List Value) (U:a.eval s=v) (A:w.ownsRow base e size v n xs)
  (bo:Option Addr) (m c:Nat) (q:List Value) (V:a.eval x=.slice bo m c) (D:SlA w size bo m c q) (h1:∀ u∈q,u.oneCell'=true)
  (B:(n+m)*y≤140737488355328) (K:n+m≤maxLen) (G:base≤w.heap.size)
  (h:∀ ao' cap' w',w'.ownsRow base e size (.slice ao' (n+m) cap') (n+m) (xs++q)→w.grownBy w' v.ownBlock→wpList P ops Q F (a.put o.dst (.slice ao' (n+m) cap')) w'):wpList P ops Q (o :: F) a w:=by
 obtain ⟨i,z,R,hz,H,M,O⟩:=C.info;cases bo with
 | none=>
  obtain ⟨rfl,rfl⟩:=D.2.1 rfl;have Y:q=[]:=by have:=D.1;simpa using this
  subst Y;have hv:∃ ao cap,v=.slice ao n cap:=by
   rcases A.2 with ⟨rfl,rfl⟩|⟨g,c,J,rfl,_⟩
   ·exact ⟨_,_,rfl⟩
   ·exact ⟨_,_,rfl⟩
  obtain ⟨ao,cap,rfl⟩:=hv;refine wpList_append_own_none I s x t T base e i size C.und R _ n xs U A V ?_;exact h ao cap w (by simpa using A) ⟨rfl,rfl,rfl,Nat.le_refl _,fun _ _ _=>rfl⟩
 | some ad=>
  refine wpList_append_own _ I s x t T base e i z size y C.und R hz H M O C.pos v n xs U A ad m c q V D.1 (fun j u Z=>?_) h1 K B G ?_
  ·obtain ⟨a',L,W⟩:=D.2.2 j u Z;obtain rfl:=Option.some.inj L;exact W
  ·intro v' w' f hg _;rcases f.2 with ⟨rfl,N⟩|⟨g,c,J,rfl,hr⟩
   ·have:=h none 0 w';rw [N] at this f;exact this f hg
   ·exact h _ c w' f hg
end
section
open Go.RowKit
class Cells (α:Type) where
 n:Nat
 pos:0<n
 cells:α→List Value
 len:∀ x,(cells x).length=n
 one:∀ x,∀ u∈cells x,u.oneCell'=true
def Zal {α:Type} [Cells α] (l:List α):List Value:=l.flatMap Cells.cells
theorem Zam {α:Type} [Inhabited α] (l:List α) (k:Nat) (h:k<l.length):l.take (k+1)=l.take k++[l.getD k default]:=by rw [List.take_succ_eq_append_getElem h];simp [h]
section
variable {α:Type} [Cells α]
theorem Zan (l:List α):(Zal l).length=l.length*Cells.n α:=by
 induction l with
 | nil=>simp [Zal]
 | cons x r ih=>simp only [Zal,List.flatMap_cons,List.length_append,Cells.len,List.length_cons] at ih ⊢;rw [ih,Nat.succ_mul,Nat.add_comm]
theorem Zao (l m:List α):Zal (l++m)=Zal l++Zal m:=by simp [Zal]
theorem Zap (x:α):Zal [x]=Cells.cells x:=by simp [Zal]
theorem Zaq (l:List α) (i:Nat) (f:i<l.length) (j:Nat) (q:j<Cells.n α):(Zal l)[i*Cells.n α+j]?=(Cells.cells l[i])[j]?:=by
 induction l generalizing i with
 | nil=>cases f
 | cons y r ih=>
  cases i with
  | zero=>
   simp only [Zal,List.flatMap_cons,Nat.zero_mul,Nat.zero_add,List.getElem_cons_zero];rw [List.getElem?_append_left (by rw [Cells.len];exact q)]
  | succ i=>
   have h1:=ih i (by simpa using f);simp only [Zal,List.flatMap_cons,List.getElem_cons_succ] at h1 ⊢;rw [List.getElem?_append_right (by rw [Cells.len,Nat.succ_mul];omega),←h1,Cells.len];congr 1;rw [Nat.succ_mul];omega
theorem Zar (l:List α):∀ u∈Zal l,u.oneCell'=true:=by intro u f;simp only [Zal,List.mem_flatMap] at f;obtain ⟨x,_,j⟩:=f;exact Cells.one x u j
def Zas (w:World) (ao:Option Addr) (cap:Nat) (l:List α):Prop:=SlA w (Cells.n α) ao l.length cap (Zal l)
def at_ (ad:Addr) (i:Nat) (j:Nat):Addr:=if j=0 then ad.add i else ⟨(ad.add i).block,(ad.add i).off+j,none⟩
theorem Zat (a:Addr) (n j:Nat) (f:0<j):a.add (n+j)=⟨(a.add n).block,(a.add n).off+j,none⟩:=by
 unfold Addr.add;rw [if_neg (by omega)];split
 ·subst_vars;simp
 ·simp [Nat.add_assoc]
theorem Zas.some {w:World}{ao:Option Addr}{cap:Nat}{l:List α} (h:Zas w ao cap l) (hl:0<l.length):∃ ad,ao=.some ad:=by
 have f:=Cells.pos (α:=α);obtain ⟨ad,ha,_⟩:=h.2.2 0 (Zal l)[0]! (by
  have h1:0<(Zal l).length:=by rw [Zan];exact Nat.mul_pos hl f
  simp [h1])
 exact ⟨ad,ha⟩
theorem Zas.cell {w:World}{ad:Addr}{cap:Nat}{l:List α} (h:Zas w (.some ad) cap l) {i:Nat} (hi:i<l.length) (j:Nat) {v:Value} (hv:(Cells.cells l[i])[j]?=.some v):w.cell? (at_ ad (i*Cells.n α) j)=.some v:=by
 have y:j<Cells.n α:=by have:=(List.getElem?_eq_some_iff.1 hv).1;rwa [Cells.len] at this
 obtain ⟨z,ha,f⟩:=h.2.2 (i*Cells.n α+j) v (by rw [Zaq l i hi j y];exact hv);obtain rfl:=Option.some.inj ha;unfold at_;split
 ·rename_i q;subst q;exact f
 ·rw [←Zat _ _ _ (by omega)];exact f
theorem Zas.old {w w':World}{ao:Option Addr}{cap:Nat}{l:List α} (h:Zas w ao cap l) (hb:Below w.heap.size w w'):Zas w' ao cap l:=SlA.old h hb
theorem Zas.nil (w:World):Zas (α:=α) w none 0 []:=⟨by simp [Zal],fun _=>⟨rfl,rfl⟩,fun j u f=>by simp [Zal] at f⟩
theorem Zas.of_own {w:World}{base:Nat}{e:TypeId}{ao:Option Addr}{cap:Nat}{l:List α} (h:w.ownsRow base e (Cells.n α) (.slice ao l.length cap) l.length (Zal l)):Zas w ao cap l:=(Zai h).2
theorem SlA.zero {w:World}{size:Nat}{ao:Option Addr}{n cap:Nat}{xs:List Value} (h:SlA w size ao n cap xs) (hn:n=0):xs=[]:=by have:=h.1;rw [hn] at this;simpa using this
theorem Zas.take {w:World}{ao:Option Addr}{cap:Nat}{l:List α} (h:Zas w ao cap l) (k:Nat) (hk:k≤l.length) (cap':Nat) (hc:ao=none→cap'=0):Zas w ao cap' (l.take k):=by
 have v:(l.take k).length=k:=by simp;omega
 refine ⟨Zan _,fun f=>⟨?_,hc f⟩,fun j u q=>h.2.2 j u ?_⟩
 ·have:=(h.2.1 f).1;omega
 ·have h1:Zal l=Zal (l.take k)++Zal (l.drop k):=by rw [←Zao,List.take_append_drop]
  rw [h1,List.getElem?_append_left (List.getElem?_eq_some_iff.1 q).1];exact q
end
structure Ty where
 k:Int
 c:Int
 deriving DecidableEq
instance:Inhabited Ty:=⟨⟨0,0⟩⟩
instance:Cells Ty:=⟨2,by decide,fun t=>[.int .i64 t.k,.int .i64 t.c],fun _=>rfl,by
 intro x u hu;simp only [List.mem_cons,List.not_mem_nil,or_false] at hu;rcases hu with rfl|rfl<;>rfl⟩
structure In3 where
 op:Int
 a:Int
 b:Int
 deriving DecidableEq
instance:Inhabited In3:=⟨⟨0,0,0⟩⟩
instance:Cells In3:=⟨3,by decide,fun t=>[.int .i64 t.op,.int .i64 t.a,.int .i64 t.b],fun _=>rfl,by
 intro x u hu;simp only [List.mem_cons,List.not_mem_nil,or_false] at hu;rcases hu with rfl|rfl|rfl<;>rfl⟩
instance:Cells Int:=⟨1,by decide,fun t=>[.int .i64 t],fun _=>rfl,by
 intro x u hu;simp only [List.mem_cons,List.not_mem_nil,or_false] at hu;rcases hu with rfl;rfl⟩
theorem Zau (l:List Int):Zal l=l.map (Value.int .i64):=by
 induction l with
 | nil=>rfl
 | cons x r ih=>simp only [Zal,List.flatMap_cons,List.map_cons] at ih ⊢;rw [ih];rfl
structure Cls where
 n:ByteArray
 sup:Int
 f:List Ty
 m:List Int
instance:Inhabited Cls:=⟨⟨⟨#[]⟩,0,[],[]⟩⟩
structure Mth where
 n:ByteArray
 c:Int
 p:List Ty
 l:List Ty
 r:Ty
 k:List In3
instance:Inhabited Mth:=⟨⟨⟨#[]⟩,0,[],[],default,[]⟩⟩
structure Md where
 cl:List Cls
 st:List Ty
 me:List Mth
 sel:Int
structure CHd where
 fo:Option Addr
 fc:Nat
 mo:Option Addr
 mc:Nat
instance:Inhabited CHd:=⟨⟨none,0,none,0⟩⟩
structure MHd where
 po:Option Addr
 pc:Nat
 lo:Option Addr
 lc:Nat
 ko:Option Addr
 kc:Nat
instance:Inhabited MHd:=⟨⟨none,0,none,0,none,0⟩⟩
structure Hd where
 co:Option Addr
 cc:Nat
 so:Option Addr
 sc:Nat
 eo:Option Addr
 ec:Nat
 c:Nat→CHd
 e:Nat→MHd
structure HM where
 h:Hd
 m:Md
instance {h:Hd}{m:Md}:CoeDep HM ⟨h,m⟩ (Array Value):=⟨#[.slice h.co m.cl.length h.cc,.slice h.so m.st.length h.sc,.slice h.eo m.me.length h.ec,.int .i64 m.sel]⟩
structure ZQ where p::
 b:Nat
instance {b:Nat}:CoeDep ZQ ⟨b⟩ Value:=⟨.pointer (some ⟨b,0,none⟩)⟩
structure ZI where i::
 n:In3
instance {i:In3}:CoeDep ZI ⟨i⟩ Value:=⟨.agg #[.int .i64 i.op,.int .i64 i.a,.int .i64 i.b]⟩
instance:Cells (Cls × CHd):=⟨4,by decide,fun x=>[.string x.1.n,.int .i64 x.1.sup,.slice x.2.fo x.1.f.length x.2.fc,.slice x.2.mo x.1.m.length x.2.mc],fun _=>rfl,by
 intro x u hu;simp only [List.mem_cons,List.not_mem_nil,or_false] at hu;rcases hu with rfl|rfl|rfl|rfl<;>rfl⟩
instance:Cells (Mth × MHd):=⟨7,by decide,fun x=>[.string x.1.n,.int .i64 x.1.c,.slice x.2.po x.1.p.length x.2.pc,.slice x.2.lo x.1.l.length x.2.lc,.int .i64 x.1.r.k,.int .i64 x.1.r.c,.slice x.2.ko x.1.k.length x.2.kc],fun _=>rfl,by
 intro x u hu;simp only [List.mem_cons,List.not_mem_nil,or_false] at hu;rcases hu with rfl|rfl|rfl|rfl|rfl|rfl|rfl<;>rfl⟩
def Zav (h:Hd) (m:Md):List (Cls × CHd):=m.cl.mapIdx fun i x=>(x,h.c i)
def Zaw (h:Hd) (m:Md):List (Mth × MHd):=m.me.mapIdx fun i x=>(x,h.e i)
theorem Zax (h:Hd) (m:Md):(Zav h m).length=m.cl.length:=by simp [Zav]
theorem Zay (h:Hd) (m:Md):(Zaw h m).length=m.me.length:=by simp [Zaw]
structure Zaz (w:World) (h:Hd) (m:Md):Prop where
 cl:Zas w h.co h.cc (Zav h m)
 st:Zas w h.so h.sc m.st
 me:Zas w h.eo h.ec (Zaw h m)
 f:∀ i,i<m.cl.length→Zas w (h.c i).fo (h.c i).fc (m.cl.getD i default).f
 t:∀ i,i<m.cl.length→Zas w (h.c i).mo (h.c i).mc (m.cl.getD i default).m
 p:∀ i,i<m.me.length→Zas w (h.e i).po (h.e i).pc (m.me.getD i default).p
 l:∀ i,i<m.me.length→Zas w (h.e i).lo (h.e i).lc (m.me.getD i default).l
 k:∀ i,i<m.me.length→Zas w (h.e i).ko (h.e i).kc (m.me.getD i default).k
 bf:∀ i,i<m.cl.length→(m.cl.getD i default).f.length≤(h.c i).fc
 bm:∀ i,i<m.me.length→(m.me.getD i default).p.length≤140737488355328∧(m.me.getD i default).l.length≤140737488355328∧(m.me.getD i default).k.length≤140737488355328
 bz:m.cl.length≤140737488355328∧m.st.length≤140737488355328∧m.me.length≤140737488355328
theorem Zaz.old {w w':World}{h:Hd}{m:Md} (H:Zaz w h m) (hb:Below w.heap.size w w'):Zaz w' h m:=
 ⟨H.cl.old hb,H.st.old hb,H.me.old hb,fun i f=>(H.f i f).old hb,fun i f=>(H.t i f).old hb,fun i f=>(H.p i f).old hb,fun i f=>(H.l i f).old hb,fun i f=>(H.k i f).old hb,H.bf,H.bm,H.bz⟩
theorem Zaz.cls {w:World}{h:Hd}{m:Md} (H:Zaz w h m) {i:Nat} (hi:i<m.cl.length):∃ ad,h.co=some ad ∧
  w.cell? (ad.add (i*4))=some (.string (m.cl.getD i default).n)∧w.cell? ⟨(ad.add (i*4)).block,(ad.add (i*4)).off+1,none⟩=some (.int .i64 (m.cl.getD i default).sup) ∧
  w.cell? ⟨(ad.add (i*4)).block,(ad.add (i*4)).off+2,none⟩=some (.slice (h.c i).fo (m.cl.getD i default).f.length (h.c i).fc)∧w.cell? ⟨(ad.add (i*4)).block,(ad.add (i*4)).off+3,none⟩=some (.slice (h.c i).mo (m.cl.getD i default).m.length (h.c i).mc):=by
 have j:i<(Zav h m).length:=by rw [Zax];exact hi
 have q:(Zav h m)[i]=(m.cl.getD i default,h.c i):=by simp [Zav,hi]
 obtain ⟨ad,ha⟩:=H.cl.some (by omega);have f:=H.cl;rw [ha] at f;refine ⟨ad,ha,f.cell j 0 (by rw [q];rfl),f.cell j 1 (by rw [q];rfl),f.cell j 2 (by rw [q];rfl),f.cell j 3 (by rw [q];rfl)⟩
theorem Zaz.mth {w:World}{h:Hd}{m:Md} (H:Zaz w h m) {i:Nat} (hi:i<m.me.length):∃ ad,h.eo=some ad ∧
  w.cell? (ad.add (i*7))=some (.string (m.me.getD i default).n)∧w.cell? ⟨(ad.add (i*7)).block,(ad.add (i*7)).off+1,none⟩=some (.int .i64 (m.me.getD i default).c) ∧
  w.cell? ⟨(ad.add (i*7)).block,(ad.add (i*7)).off+2,none⟩=some (.slice (h.e i).po (m.me.getD i default).p.length (h.e i).pc)∧w.cell? ⟨(ad.add (i*7)).block,(ad.add (i*7)).off+3,none⟩=some (.slice (h.e i).lo (m.me.getD i default).l.length (h.e i).lc) ∧
  w.cell? ⟨(ad.add (i*7)).block,(ad.add (i*7)).off+4,none⟩=some (.int .i64 (m.me.getD i default).r.k)∧w.cell? ⟨(ad.add (i*7)).block,(ad.add (i*7)).off+5,none⟩=some (.int .i64 (m.me.getD i default).r.c) ∧
  w.cell? ⟨(ad.add (i*7)).block,(ad.add (i*7)).off+6,none⟩=some (.slice (h.e i).ko (m.me.getD i default).k.length (h.e i).kc):=by
 have j:i<(Zaw h m).length:=by rw [Zay];exact hi
 have q:(Zaw h m)[i]=(m.me.getD i default,h.e i):=by simp [Zaw,hi]
 obtain ⟨ad,ha⟩:=H.me.some (by omega);have f:=H.me;rw [ha] at f;refine ⟨ad,ha,f.cell j 0 (by rw [q];rfl),f.cell j 1 (by rw [q];rfl),f.cell j 2 (by rw [q];rfl),f.cell j 3 (by rw [q];rfl),f.cell j 4 (by rw [q];rfl),f.cell j 5 (by rw [q];rfl),f.cell j 6 (by rw [q];rfl)⟩
theorem ZaA {w:World}{ao:Option Addr}{cap:Nat}{l:List Ty} (h:Zas w ao cap l) {i:Nat} (j:i<l.length):∃ f,ao=some f ∧
  w.cell? (f.add (i*2))=some (.int .i64 (l.getD i default).k)∧w.cell? ⟨(f.add (i*2)).block,(f.add (i*2)).off+1,none⟩=some (.int .i64 (l.getD i default).c):=by
 obtain ⟨f,rfl⟩:=h.some (by omega);have q:l.getD i default=l[i]:=by simp [j]
 rw [q];exact ⟨f,rfl,h.cell j 0 rfl,h.cell j 1 rfl⟩
theorem ZaB {w:World}{ao:Option Addr}{cap:Nat}{l:List In3} (h:Zas w ao cap l) {i:Nat} (j:i<l.length):∃ f,ao=some f ∧
  w.cell? (f.add (i*3))=some (.int .i64 (l.getD i default).op)∧w.cell? ⟨(f.add (i*3)).block,(f.add (i*3)).off+1,none⟩=some (.int .i64 (l.getD i default).a)∧w.cell? ⟨(f.add (i*3)).block,(f.add (i*3)).off+2,none⟩=some (.int .i64 (l.getD i default).b):=by
 obtain ⟨f,rfl⟩:=h.some (by omega);have q:l.getD i default=l[i]:=by simp [j]
 rw [q];exact ⟨f,rfl,h.cell j 0 rfl,h.cell j 1 rfl,h.cell j 2 rfl⟩
theorem ZaC {w:World}{ao:Option Addr}{cap:Nat}{l:List Int} (h:Zas w ao cap l) {i:Nat} (j:i<l.length):∃ f,ao=some f∧w.cell? (f.add i)=some (.int .i64 (l.getD i 0)):=by
 obtain ⟨f,rfl⟩:=h.some (by omega);have q:l.getD i 0=l[i]:=by simp [j]
 rw [q];have:=h.cell j 0 (v:=.int .i64 l[i]) rfl;rw [show i*Cells.n Int=i from Nat.mul_one i] at this;exact ⟨f,rfl,this⟩
end
section
def inI (n lo hi:Int):Bool:=decide (lo≤n)&&decide (n≤hi)
theorem ZaD {n k:Nat}{p:Nat→Bool} (hk:k<n) (h:p k=false):(List.range n).all p=false:=by rw [List.all_eq_false];exact ⟨k,List.mem_range.2 hk,by simp [h]⟩
theorem ZaE {n:Nat}{p:Nat→Bool} (h:∀ k,k<n→p k=true):(List.range n).all p=true:=by rw [List.all_eq_true];exact fun k hk=>h k (List.mem_range.1 hk)
theorem ZaF {n:Nat}{p:Nat→Bool}:(List.range n).all p=true↔∀ k,k<n→p k=true:=by rw [List.all_eq_true];exact ⟨fun h k hk=>h k (List.mem_range.2 hk),fun h k hk=>h k (List.mem_range.1 hk)⟩
def ZaG (n:Nat) (t:Ty) (least:Int):Bool:=
 if t.k=2∨t.k=4 then decide (0≤t.c)&&decide (t.c<n) else if t.k=0∨t.k=1∨t.k=3 then decide (least≤t.k)&&decide (t.c=0) else false
def ZaH (n:Nat) (l:List Ty):Bool:=l.all fun t=>ZaG n t 1
def Md.sup (m:Md) (i:Int):Int:=(m.cl.getD i.toNat default).sup
def ZaI (m:Md):Nat→Int→Int→Bool
 | 0,a,b=>decide (a=b)
 | f+1,a,b=>if b<a then ZaI m f (m.sup a) b else decide (a=b)
def Md.ent (m:Md) (k:Int) (s:Nat):Int:=(m.cl.getD k.toNat default).m.getD s 0
def Md.own (m:Md) (n:Int):Int:=(m.me.getD n.toNat default).c
def ZaJ (m:Md) (k s:Nat) (n:Int):Bool:=decide (0≤m.own n)&&decide (m.own n≤k)&&ZaI m (k+1) k (m.own n)&&decide (m.ent (m.own n) s=n)
def ZaK (m:Md) (k s:Nat):Bool:=
 decide (-1≤m.ent k s)&&decide (m.ent k s<m.me.length)&&(decide (m.ent k s<0)||ZaJ m k s (m.ent k s))&&!(decide (0≤m.sup k)&&decide (m.ent k s<0)&&decide (0≤m.ent (m.sup k) s))
def ZaL (m:Md) (k:Nat):Bool:=
 decide (-1≤m.sup k)&&decide (m.sup k<k)&&decide ((m.cl.getD k default).f.length≤7)&&ZaH m.cl.length (m.cl.getD k default).f&&decide (((m.cl.getD k default).m.length:Int)=m.sel) &&
 (List.range (m.cl.getD k default).m.length).all (ZaK m k) &&
 (decide (m.sup k<0)||decide ((m.cl.getD (m.sup k).toNat default).f.length≤(m.cl.getD k default).f.length)&&decide ((m.cl.getD (m.sup k).toNat default).f=(m.cl.getD k default).f.take (m.cl.getD (m.sup k).toNat default).f.length))
def ZaM (n:Int):List Int→List Int
 | []=>[n]
 | x :: r=>if x<n then x :: ZaM n r else if x=n then x :: r else n :: x :: r
def ZaN (l:List Int):List Int:=l.foldl (fun o n=>ZaM n o) []
def ZaO (m:Md) (s:Int):List Int:=ZaN ((m.cl.map fun c=>c.m.getD s.toNat 0).filter fun n=>decide (0≤n))
def ZaP:List Int:=[0,0,9,4,9,48,6,9,15,15,3,9,50,5,24]
def opA:List Nat:=[0,1,2,2,0,0,0,0,0,0,0,0,3,0,4,5,5,6,6,0,0,0,7,7,4,8,9,10,11,0,12,13,14,0,0,0]
def opB:List Nat:=[0,0,0,0,0,0,0,0,0,0,0,0,4,0,0,0,4,0,0,0,0,0,0,0,0,0,0,0,0,0,2,0,0,0,0,0]
def ZaQ (r:Nat):Bool:=decide (r=4∨r=6∨r=7∨r=8∨r=9)
def inR (n:Int) (r:Nat) (p:Bool):Bool:=
 if r=1 then inI n (-2147483648) 2147483647 else if r=3 then inI n 2 4 else if r=14 then inI n 1 24 else if p&&ZaQ r then inI n 0 59 else inI n 0 (ZaP.getD r 0)
def ZaR (p:Bool) (i:In3):Bool:=decide (0≤i.op)&&decide (i.op<36)&&inR i.a (opA.getD i.op.toNat 0) p&&inR i.b (opB.getD i.op.toNat 0) p&&!(decide (i.op=12)&&decide (i.a=3)&&decide (i.b≠0))
def ZaS (op:Int):Bool:=inI op 29 33
structure Br where
 op:Int
 e:Bool
def ZaT (s:List Br × Nat) (i:In3):Option (List Br × Nat):=
 if ZaS i.op then some (⟨i.op,false⟩ :: s.1,max s.2 (s.1.length+1))
 else if i.op=34 then match s.1 with
  | []=>none
  | b :: r=>if (b.op=29∨b.op=33)∧b.e=false then some (⟨b.op,true⟩ :: r,s.2) else none
 else if i.op=35 then match s.1 with
  | []=>none
  | b :: r=>if b.op=33∧b.e=false then none else some (r,s.2)
 else some s
def ZaU (s:List Br × Nat):List In3→Option (List Br × Nat)
 | []=>some s
 | i :: l=>match ZaT s i with
  | none=>none
  | some t=>ZaU t l
def ZaV (l:List In3):Bool:=match ZaU ([],0) l with
 | none=>false
 | some (st,d)=>st.isEmpty&&decide (d≤6)
def ZaW (p:Bool) (l:List In3):Int:=if 120<l.length then 2 else if l.all (ZaR p) then (if ZaV l then 0 else 7) else 1
def ZaX (m:Md) (k:Nat) (i:In3):Bool:=
 if i.op=14∨i.op=24 then decide (0≤i.a)&&decide (i.a<m.cl.length)
 else if i.op=16 then decide (0≤i.b)&&decide (i.b<m.cl.length)
 else if i.op=12 then decide (i.a=3)||(decide (0≤i.b)&&decide (i.b<m.cl.length))
 else if i.op=22∨i.op=23 then decide (i.a<m.st.length)
 else if i.op=25 then decide (i.a<k)&&decide (m.own i.a<0)
 else if i.op=26 then decide (i.a<m.sel)&&(ZaO m i.a).all fun t=>decide (t<k)
 else true
def ZaY (m:Md) (k:Nat):Bool:=
 decide (-1≤(m.me.getD k default).c)&&decide ((m.me.getD k default).c<m.cl.length)&&decide ((m.me.getD k default).p.length≤4)&&ZaH m.cl.length (m.me.getD k default).p &&
 decide (((m.me.getD k default).l.length:Int)≤10-(m.me.getD k default).p.length-(if 0≤(m.me.getD k default).c then 1 else 0))&&ZaH m.cl.length (m.me.getD k default).l&&ZaG m.cl.length (m.me.getD k default).r 0 &&
 decide (ZaW false (m.me.getD k default).k=0)&&(m.me.getD k default).k.all (ZaX m k)
def ZaZ (m:Md) (s:Nat):Bool:=(ZaO m s).all fun t=>decide ((m.me.getD t.toNat default).r=(m.me.getD ((ZaO m s).getD 0 0).toNat default).r)&&decide ((m.me.getD t.toNat default).p=(m.me.getD ((ZaO m s).getD 0 0).toNat default).p)
def Za0 (m:Md):Bool:=decide (m.cl.length≤10)&&decide (m.me.length≤16)&&decide (0≤m.sel)&&decide (m.sel≤16)&&decide (m.st.length≤10)&&ZaH m.cl.length m.st
def Za1 (m:Md):Bool:=(List.range m.me.length).all fun k=>decide (-1≤m.own k)&&decide (m.own k<m.cl.length)
def Za2 (m:Md):Bool:=Za0 m&&Za1 m&&(List.range m.cl.length).all (ZaL m)&&(List.range m.me.length).all (ZaY m)&&(List.range m.sel.toNat).all (ZaZ m)
end
section
theorem Za3 (s:List Br × Nat):∀ (x y:List In3),ZaU s (x++y)=match ZaU s x with
  | none=>none
  | some t=>ZaU t y:=by
 intro x
 induction x generalizing s with
 | nil=>intro y;rfl
 | cons i x ih=>
  intro y;simp only [List.cons_append,ZaU];cases ZaT s i with
  | none=>rfl
  | some t=>exact ih t y
def Run (l:List In3) (a b:Nat) (s t:List Br × Nat):Prop:=a≤b∧b≤l.length∧ZaU s ((l.drop a).take (b-a))=some t
def Za4 (l:List In3) (a:Nat) (s:List Br × Nat):Prop:=∀ t,ZaU s (l.drop a)=some t→t.1≠[]
theorem Za5 {l:List In3}{a b:Nat} (h:a≤b):l.drop a=(l.drop a).take (b-a)++l.drop b:=by
 conv=>lhs;rw [←List.take_append_drop (b-a) (l.drop a)]
 rw [List.drop_drop,show a+(b-a)=b by omega]
section
variable {l:List In3}{a b c:Nat}{s t u:List Br × Nat}
theorem Run.refl (h:a≤l.length) (s:List Br × Nat):Run l a a s s:=⟨Nat.le_refl _,h,by simp [ZaU]⟩
theorem Run.trans (h1:Run l a b s t) (h2:Run l b c t u):Run l a c s u:=by
 refine ⟨Nat.le_trans h1.1 h2.1,h2.2.1,?_⟩;have e:(l.drop a).take (c-a)=(l.drop a).take (b-a)++(l.drop b).take (c-b):=by have:=h1.1;have:=h2.1;rw [show c-a=(b-a)+(c-b) by omega,List.take_add,List.drop_drop,show a+(b-a)=b by omega]
 rw [e,Za3,h1.2.2];exact h2.2.2
theorem Run.step (h:a<l.length) (h1:ZaT s (l.getD a default)=some t):Run l a (a+1) s t:=by refine ⟨by omega,by omega,?_⟩;rw [show a+1-a=1 by omega,List.drop_eq_getElem_cons h];simp only [List.take_succ_cons,List.take_zero,ZaU];rw [show l.getD a default=l[a] by simp [h]] at h1;rw [h1]
theorem Run.dead (h:Run l a b s t) (hd:Za4 l b t):Za4 l a s:=by intro u f;rw [Za5 h.1,Za3,h.2.2] at f;exact hd u f
theorem Za6 (h:a<l.length) (h1:ZaT s (l.getD a default)=none):Za4 l a s:=by intro u f;rw [List.drop_eq_getElem_cons h] at f;simp only [ZaU] at f;rw [show l.getD a default=l[a] by simp [h]] at h1;rw [h1] at f;cases f
theorem Za7 (h:s.1≠[]):Za4 l l.length s:=by intro u f;rw [List.drop_length] at f;cases f;exact h
end
def Za8 (l:List In3) (a b d:Nat):Prop:=∀ S D,S.length≤D→Run l a b (S,D) (S,max D (S.length+d))
def Za9 (l:List In3) (a:Nat):Prop:=∀ S D,S.length≤D→Za4 l a (S,D)
section
variable {l:List In3}{a b n e d i:Nat}
theorem Zba (h:Za8 l a b d):a≤b∧b≤l.length:=by obtain ⟨h1,h2,_⟩:=h [] 0 (Nat.le_refl _);exact ⟨h1,h2⟩
theorem Zbb (h:a≤l.length):Za8 l a a 0:=fun S D f=>by
 rw [show max D (S.length+0)=D by omega];exact Run.refl h _
theorem Zbc (h1:Za8 l a b d) (h2:Za8 l b n e):Za8 l a n (max d e):=fun S D f=>by
 have:=(h1 S D f).trans (h2 S (max D (S.length+d)) (by omega))
 rwa [show max (max D (S.length+d)) (S.length+e)=max D (S.length+max d e) by omega] at this
theorem Zbd {i:In3}{s:List Br × Nat} (h1:ZaS i.op=false) (h2:i.op≠34) (f:i.op≠35):ZaT s i=some s:=by unfold ZaT;rw [h1,if_neg (by decide),if_neg h2,if_neg f]
theorem Zbe (h:Za8 l a b d) (q:b<l.length) (h1:ZaS (l.getD b default).op=false) (h2:(l.getD b default).op≠34) (f:(l.getD b default).op≠35):Za8 l a (b+1) d:=fun S D j=>(h S D j).trans (Run.step q (Zbd h1 h2 f))
theorem Zbf {l:List In3}{a:Nat} (ha:a<l.length) (h1:ZaS (l.getD a default).op=true) (S:List Br) (D:Nat):Run l a (a+1) (S,D) (⟨(l.getD a default).op,false⟩ :: S,max D (S.length+1)):=
 Run.step ha (by unfold ZaT;rw [h1,if_pos rfl])
theorem Zbg {op:Int} (h:op=34∨op=35):ZaS op=false:=by unfold ZaS inI;rcases h with rfl|rfl<;>decide
theorem Zbh {l:List In3}{n:Nat} (j:n<l.length) (h:(l.getD n default).op=34) (b:Br) (S:List Br) (D:Nat) (f:(b.op=29∨b.op=33)∧b.e=false):Run l n (n+1) (b :: S,D) (⟨b.op,true⟩ :: S,D):=
 Run.step j (by unfold ZaT;rw [Zbg (.inl h),if_neg (by decide),if_pos h];simp only [if_pos f])
theorem Zbi {l:List In3}{n:Nat} (j:n<l.length) (h:(l.getD n default).op=34) (b:Br) (S:List Br) (D:Nat) (f:¬ ((b.op=29∨b.op=33)∧b.e=false)):Za4 l n (b :: S,D):=
 Za6 j (by unfold ZaT;rw [Zbg (.inl h),if_neg (by decide),if_pos h];simp only [if_neg f])
theorem Zbj {l:List In3}{n:Nat} (j:n<l.length) (h:(l.getD n default).op=35) (b:Br) (S:List Br) (D:Nat) (f:¬ (b.op=33∧b.e=false)):Run l n (n+1) (b :: S,D) (S,D):=
 Run.step j (by unfold ZaT;rw [Zbg (.inr h),if_neg (by decide),if_neg (by omega),if_pos h];simp only [if_neg f])
theorem Zbk {l:List In3}{n:Nat} (j:n<l.length) (h:(l.getD n default).op=35) (b:Br) (S:List Br) (D:Nat) (f:b.op=33∧b.e=false):Za4 l n (b :: S,D):=
 Za6 j (by unfold ZaT;rw [Zbg (.inr h),if_neg (by decide),if_neg (by omega),if_pos h];simp only [if_pos f])
theorem Zbl {l:List In3}{n:Nat} (f:n<l.length) (h:(l.getD n default).op=34∨(l.getD n default).op=35) (D:Nat):Za4 l n ([],D):=
 Za6 f (by
  unfold ZaT
  rw [Zbg h,if_neg (by decide)]
  rcases h with h|h
  ·rw [if_pos h]
  ·rw [if_neg (by omega),if_pos h])
section
variable (ha:a<l.length)(h1:ZaS (l.getD a default).op=true)(hg:Za8 l (a+1) n d)
include ha h1 hg
theorem Zbm (S:List Br) (D:Nat) (_hD:S.length≤D):Run l a n (S,D) (⟨(l.getD a default).op,false⟩ :: S,max (max D (S.length+1)) (S.length+1+d)):=
 (Zbf ha h1 S D).trans (hg (⟨(l.getD a default).op,false⟩ :: S) (max D (S.length+1)) (by simp;omega))
theorem Zbn (y:n<l.length) (f:(l.getD n default).op=34) (q:(l.getD a default).op=29∨(l.getD a default).op=33) (j:Za8 l (n+1) e i) (S:List Br) (D:Nat) (v:S.length≤D):
  Run l a e (S,D) (⟨(l.getD a default).op,true⟩ :: S,max (max (max D (S.length+1)) (S.length+1+d)) (S.length+1+i)):=
 ((Zbm ha h1 hg S D v).trans (Zbh y f _ S _ ⟨q,rfl⟩)).trans (j _ _ (by simp;omega))
theorem Zbo (v:n<l.length) (f:(l.getD n default).op=35) (j:(l.getD a default).op≠33):Za8 l a (n+1) (d+1):=fun S D q=>by
 have:=(Zbm ha h1 hg S D q).trans (Zbj v f _ S _ (fun h=>j h.1))
 rwa [show max (max D (S.length+1)) (S.length+1+d)=max D (S.length+(d+1)) by omega] at this
theorem Zbp (A:n<l.length) (f:(l.getD n default).op=34) (v:(l.getD a default).op=29∨(l.getD a default).op=33) (q:Za8 l (n+1) e i) (z:e<l.length) (j:(l.getD e default).op=35):Za8 l a (e+1) (max d i+1):=fun S D y=>by
 have:=(Zbn ha h1 hg A f v q S D y).trans (Zbj z j _ S _ (fun h=>by cases h.2))
 rwa [show max (max (max D (S.length+1)) (S.length+1+d)) (S.length+1+i)=max D (S.length+(max d i+1)) by omega] at this
end
theorem Zbq (h:Za8 l a b d) (h2:Za9 l b):Za9 l a:=fun S D f=>(h S D f).dead (h2 _ _ (by omega))
section
variable (ha:a<l.length)(h1:ZaS (l.getD a default).op=true)
include ha h1
theorem Zbr (h:Za9 l (a+1)):Za9 l a:=fun S D f=>(Zbf ha h1 S D).dead (h _ _ (by simp;omega))
theorem Zbs (hg:Za8 l (a+1) l.length d):Za9 l a:=fun S D f=>(Zbm ha h1 hg S D f).dead (Za7 (by simp))
theorem Zbt (hg:Za8 l (a+1) n d) (v:n<l.length) (f:(l.getD n default).op=34) (j:¬ ((l.getD a default).op=29∨(l.getD a default).op=33)):Za9 l a:=fun S D q=>(Zbm ha h1 hg S D q).dead (Zbi v f _ S _ (fun h=>j h.1))
theorem Zbu (hg:Za8 l (a+1) n d) (v:n<l.length) (f:(l.getD n default).op=34) (j:(l.getD a default).op=29∨(l.getD a default).op=33) (h:Za9 l (n+1)):Za9 l a:=fun S D q=>
 ((Zbm ha h1 hg S D q).trans (Zbh v f _ S _ ⟨j,rfl⟩)).dead (h _ _ (by simp;omega))
theorem Zbv (hg:Za8 l (a+1) n d) (y:n<l.length) (f:(l.getD n default).op=34) (q:(l.getD a default).op=29∨(l.getD a default).op=33) (j:Za8 l (n+1) l.length i):Za9 l a:=fun S D v=>(Zbn ha h1 hg y f q j S D v).dead (Za7 (by simp))
theorem Zbw (hg:Za8 l (a+1) n d) (A:n<l.length) (j:(l.getD n default).op=34) (v:(l.getD a default).op=29∨(l.getD a default).op=33) (q:Za8 l (n+1) e i) (z:e<l.length) (f:(l.getD e default).op=34):Za9 l a:=fun S D y=>
 (Zbn ha h1 hg A j v q S D y).dead (Zbi z f _ S _ (fun h=>by cases h.2))
theorem Zbx (hg:Za8 l (a+1) n d) (v:n<l.length) (f:(l.getD n default).op=35) (j:(l.getD a default).op=33):Za9 l a:=fun S D q=>(Zbm ha h1 hg S D q).dead (Zbk v f _ S _ ⟨j,rfl⟩)
end
theorem Zby (h:Za8 l 0 l.length d):ZaV l=decide (d≤6):=by obtain ⟨_,_,f⟩:=h [] 0 (Nat.le_refl _);simp only [List.drop_zero,Nat.sub_zero,List.take_length] at f;unfold ZaV;rw [f];simp
theorem Zbz (h:Za4 l 0 ([],0)):ZaV l=false:=by
 unfold ZaV;cases hf:ZaU ([],0) l with
 | none=>rfl
 | some t=>
  have:=h t (by rw [List.drop_zero];exact hf);obtain ⟨f,d⟩:=t;cases f with
  | nil=>exact absurd rfl this
  | cons b r=>rfl
theorem ZbA (h:Za9 l 0):ZaV l=false:=Zbz (h [] 0 (Nat.le_refl _))
theorem ZbB (h:Za8 l 0 n d) (f:n<l.length) (j:(l.getD n default).op=34∨(l.getD n default).op=35):ZaV l=false:=Zbz ((h [] 0 (Nat.le_refl _)).dead (Zbl f j _))
end
theorem ZbC {s t:List Br × Nat}{i:In3} (h:ZaT s i=some t):t.1.length≤s.1.length+1∧t.2≤max s.2 (s.1.length+1):=by
 obtain ⟨S,D⟩:=s;unfold ZaT at h;split at h
 ·cases h;exact ⟨by simp,by dsimp only;omega⟩
 ·split at h
  ·cases S with
   | nil=>cases h
   | cons b r=>
    dsimp only at h;split at h
    ·cases h;exact ⟨by simp,by dsimp only;omega⟩
    ·cases h
  ·split at h
   ·cases S with
    | nil=>cases h
    | cons b r=>
     dsimp only at h;split at h
     ·cases h
     ·cases h;exact ⟨by simp only [List.length_cons];omega,by dsimp only;omega⟩
   ·cases h;exact ⟨by omega,by dsimp only;omega⟩
theorem ZbD:∀ (x:List In3) (s t:List Br × Nat),ZaU s x=some t→t.1.length≤s.1.length+x.length∧t.2≤max s.2 (s.1.length+x.length)
 | [],s,t,h=>by cases h;exact ⟨by simp,by omega⟩
 | i :: x,s,t,h=>by
  unfold ZaU at h;split at h
  ·cases h
  ·rename_i u f;have h1:=ZbC f;have h2:=ZbD x u t h;simp only [List.length_cons];omega
theorem ZbE {l:List In3}{a b d:Nat} (h:Za8 l a b d):d≤b-a:=by obtain ⟨h1,h2,f⟩:=h [] 0 (Nat.le_refl _);have:=(ZbD _ _ _ f).2;simp only [List.length_nil,List.length_take,List.length_drop] at this;omega
end
section
def ZbF (l:List In3) (o:Nat):Prop:=ZaS (l.getD o default).op=true
def Mat (l:List In3) (o:Nat) (alt:Int) (en:Nat):Prop:=
  o<l.length∧ZbF l o∧en<l.length∧(l.getD en default).op=35 ∧
  ((alt=-1∧(l.getD o default).op≠33∧∃ d,Za8 l (o+1) en d) ∨
   ∃ n:Nat,alt=n∧n<l.length∧(l.getD n default).op=34∧((l.getD o default).op=29∨(l.getD o default).op=33)∧(∃ d,Za8 l (o+1) n d)∧∃ d,Za8 l (n+1) en d)
theorem ZbG {l:List In3}{o:Nat}{a:Int}{n:Nat} (h:Mat l o a n):∃ d,Za8 l o (n+1) d:=by
 obtain ⟨q,h1,h2,v,y⟩:=h;rcases y with ⟨_,f,d,j⟩|⟨x,_,f,j,z,⟨d,A⟩,i,B⟩
 ·exact ⟨_,Zbo q h1 j h2 v f⟩
 ·exact ⟨_,Zbp q h1 A f j z B h2 v⟩
def ZbH (l:List In3) (E:Nat→Int):List Nat→Nat→Prop
 | [],k=>∃ d,Za8 l 0 k d
 | o :: r,k=>o<k∧o<l.length∧ZbF l o∧ZbH l E r o ∧
  ((E o=-1∧∃ d,Za8 l (o+1) k d)∨∃ n:Nat,E o=n∧n<l.length∧(l.getD n default).op=34∧((l.getD o default).op=29∨(l.getD o default).op=33)∧(∃ d,Za8 l (o+1) n d)∧∃ d,Za8 l (n+1) k d)
theorem ZbI {l:List In3}{E E':Nat→Int}:∀ {os:List Nat}{k:Nat},(∀ o,o<k→E' o=E o)→ZbH l E os k→ZbH l E' os k
 | [],_,_,h=>h
 | o :: r,k,he,h=>by obtain ⟨h1,h2,f,j,q⟩:=h;refine ⟨h1,h2,f,ZbI (fun x v=>he x (by omega)) j,?_⟩;rw [he o h1];exact q
theorem ZbJ {l:List In3}{E:Nat→Int}:∀ {os:List Nat}{k:Nat},ZbH l E os k→∀ o∈os,o<k
 | [],_,_,_,ho=>by cases ho
 | o :: r,k,h,x,hx=>by
  rcases List.mem_cons.1 hx with rfl|hx
  ·exact h.1
  ·have:=ZbJ h.2.2.2.1 x hx;have:=h.1;omega
theorem ZbK {l:List In3}{E:Nat→Int}{os:List Nat}{k:Nat} (h:ZbH l E os k) (hk:k<l.length) (h1:¬ ZbF l k) (h2:(l.getD k default).op≠34) (q:(l.getD k default).op≠35):ZbH l E os (k+1):=by
 have j:ZaS (l.getD k default).op=false:=by simpa [ZbF] using h1
 cases os with
 | nil=>obtain ⟨d,h⟩:=h;exact ⟨d,Zbe h hk j h2 q⟩
 | cons o r=>
  obtain ⟨a,b,c,e,f⟩:=h;refine ⟨by omega,b,c,e,?_⟩;rcases f with ⟨f,d,g⟩|⟨n,v,y,z,A,B,d,g⟩
  ·exact .inl ⟨f,d,Zbe g hk j h2 q⟩
  ·exact .inr ⟨n,v,y,z,A,B,d,Zbe g hk j h2 q⟩
theorem ZbL {l:List In3}{E:Nat→Int}{os:List Nat}{k:Nat} (h:ZbH l E os k) (hk:k<l.length) (h1:ZbF l k) (f:E k=-1):ZbH l E (k :: os) (k+1):=
 ⟨by omega,hk,h1,h,.inl ⟨f,0,Zbb (by omega)⟩⟩
theorem ZbM {l:List In3}{E E':Nat→Int}{o:Nat}{r:List Nat}{k:Nat} (h:ZbH l E (o :: r) k) (hk:k<l.length) (h1:(l.getD k default).op=34) (h2:(l.getD o default).op=29∨(l.getD o default).op=33) (y:E o=-1) (q:E' o=k) (j:∀ x,x<k→x≠o→E' x=E x):ZbH l E' (o :: r) (k+1):=by
 obtain ⟨a,b,c,e,f⟩:=h;refine ⟨by omega,b,c,ZbI (fun x z=>j x (by omega) (by omega)) e,.inr ⟨k,q,hk,h1,h2,?_,0,Zbb (by omega)⟩⟩;rcases f with ⟨_,g⟩|⟨n,v,_⟩
 ·exact g
 ·omega
section
variable {l:List In3}{E:Nat→Int}{o:Nat}{r:List Nat}{k:Nat}(h:ZbH l E (o :: r) k)(hk:k<l.length)(h1:(l.getD k default).op=35)(h2:(l.getD o default).op=33→0≤E o)
include l E o r k h hk h1 h2
theorem ZbN:Mat l o (E o) k:=by
 obtain ⟨a,b,c,e,f⟩:=h;refine ⟨b,c,hk,h1,?_⟩;rcases f with ⟨f,g⟩|f
 ·exact .inl ⟨f,fun q=>by have:=h2 q;omega,g⟩
 ·exact .inr f
theorem ZbO:ZbH l E r (k+1):=by
 obtain ⟨d,hg⟩:=ZbG (ZbN h hk h1 h2);obtain ⟨a,b,c,e,f⟩:=h;cases r with
 | nil=>obtain ⟨H,e⟩:=e;exact ⟨_,Zbc e hg⟩
 | cons o2 r=>
  obtain ⟨G,q,v,z,j⟩:=e;refine ⟨by omega,q,v,z,?_⟩;rcases j with ⟨j,y,g⟩|⟨n,A,B,C,D,F,y,g⟩
  ·exact .inl ⟨j,_,Zbc g hg⟩
  ·exact .inr ⟨n,A,B,C,D,F,_,Zbc g hg⟩
end
structure Arr (l:List In3) (k:Nat) (os:List Nat) (P E Q:Nat→Int):Prop where
 opn:ZbH l E os k
 cls:∀ o,o<k→ZbF l o→o ∉ os→∃ n:Nat,Q o=n∧n<k∧Mat l o (E o) n
 par:∀ j,j<k→(P j=-1∧∀ o,o<j→ZbF l o→o ∉ os∧Q o<j)∨∃ o:Nat,P j=o∧o<j∧ZbF l o∧(o∈os∨(j:Int)≤Q o)∧∀ x,o<x→x<j→ZbF l x→x ∉ os∧Q x<j
theorem ZbP (l:List In3) (P E Q:Nat→Int):Arr l 0 [] P E Q:=⟨⟨0,Zbb (Nat.zero_le _)⟩,fun o h=>by omega,fun j h=>by omega⟩
def ZbQ:List Nat→Int
 | []=>-1
 | o :: _=>o
theorem ZbR {l:List In3}{k:Nat}{os f:List Nat}{P E Q P' E' Q':Nat→Int} (h:Arr l k os P E Q) (I:ZbH l E' f (k+1)) (hP:P' k=ZbQ os) (hP2:∀ x,x<k→P' x=P x) (D:∀ x,x<k→x∈f→x∈os)
  (J:∀ x,x<k→x ∉ os→Q' x=Q x∧E' x=E x) (B:∀ x,x<k→x∈os→x ∉ f→Q' x=k∧Mat l x (E' x) k) (F:ZbF l k→k∈f):Arr l (k+1) f P' E' Q':=by
 have z:∀ x,x<k→ZbF l x→x ∉ os→Q' x<k:=fun x y C G=>by obtain ⟨n,h1,h2,_⟩:=h.cls x y C G;rw [(J x y G).1,h1];omega
 refine ⟨I,fun o C H G=>?_,fun j T=>?_⟩
 ·by_cases hok:o=k
  ·subst hok;exact absurd (F H) G
  ·by_cases hm:o∈os
   ·obtain ⟨L,M⟩:=B o (by omega) hm G;exact ⟨k,L,by omega,M⟩
   ·obtain ⟨n,h1,h2,q⟩:=h.cls o (by omega) H hm;obtain ⟨L,M⟩:=J o (by omega) hm;exact ⟨n,by rw [L,h1],by omega,by rw [M];exact q⟩
 ·by_cases hjk:j=k
  ·subst hjk;rw [hP];have C:=h.opn;cases os with
   | nil=>exact .inl ⟨rfl,fun o h1 h2=>⟨fun q=>(by have:=D o h1 q;cases this),z o h1 h2 (by simp)⟩⟩
   | cons o r=>
    refine .inr ⟨o,rfl,C.1,C.2.2.1,?_,fun x h1 h2 q=>?_⟩
    ·by_cases hm:o∈f
     ·exact .inl hm
     ·right;rw [(B o C.1 List.mem_cons_self hm).1];exact Int.le_refl _
    ·have y:x ∉ o :: r:=fun y=>by
      rcases List.mem_cons.1 y with rfl|y
      ·omega
      ·have:=ZbJ C.2.2.2.1 x y;omega
     exact ⟨fun v=>y (D x h2 v),z x h2 q y⟩
  ·rw [hP2 j (by omega)];have A:∀ x,x<j→x ∉ os→Q x<j→x ∉ f∧Q' x<j:=fun x h1 h2 q=>⟨fun v=>h2 (D x (by omega) v),by rw [(J x (by omega) h2).1];exact q⟩;rcases h.par j (by omega) with ⟨h1,h2⟩|⟨o,h1,h2,q,v,N⟩
   ·exact .inl ⟨h1,fun o q v=>A o q (h2 o q v).1 (h2 o q v).2⟩
   ·refine .inr ⟨o,h1,h2,q,?_,fun x O K R=>A x K (N x O K R).1 (N x O K R).2⟩;by_cases hm':o∈f
    ·exact .inl hm'
    ·by_cases hm:o∈os
     ·right;rw [(B o (by omega) hm hm').1];omega
     ·right
      rw [(J o (by omega) hm).1];rcases v with v|v
      ·exact absurd v hm
      ·exact v
section
variable {l:List In3}{k:Nat}{os:List Nat}{P E Q P' E' Q':Nat→Int} (h:Arr l k os P E Q) (hk:k<l.length) (hP:P' k=ZbQ os) (hP2:∀ x,x<k→P' x=P x)
include h hk hP hP2
theorem ZbS (f:∀ x,x<k→E' x=E x) (y:∀ x,x<k→Q' x=Q x) (h1:¬ ZbF l k) (h2:(l.getD k default).op≠34) (v:(l.getD k default).op≠35):Arr l (k+1) os P' E' Q':=
 ZbR h (ZbK (ZbI f h.opn) hk h1 h2 v) hP hP2 (fun _ _ q=>q) (fun x j _=>⟨y x j,f x j⟩) (fun _ _ z A=>absurd z A) (fun q=>absurd q h1)
theorem ZbT (j:∀ x,x<k→E' x=E x) (v:∀ x,x<k→Q' x=Q x) (h1:ZbF l k) (y:E' k=-1):Arr l (k+1) (k :: os) P' E' Q':=
 ZbR h (ZbL (ZbI j h.opn) hk h1 y) hP hP2 (fun x f q=>(List.mem_cons.1 q).resolve_left (by omega)) (fun x f _=>⟨v x f,j x f⟩) (fun x _ z A=>absurd (List.mem_cons_of_mem k z) A) (fun _=>List.mem_cons_self)
end
section
variable {l:List In3}{k o:Nat}{r:List Nat}{P E Q P' E' Q':Nat→Int} (h:Arr l k (o :: r) P E Q) (hk:k<l.length) (hP:P' k=o) (hP2:∀ x,x<k→P' x=P x)
include h hk hP hP2
theorem ZbU (f:∀ x,x<k→x≠o→E' x=E x) (y:∀ x,x<k→Q' x=Q x) (h1:(l.getD k default).op=34) (h2:(l.getD o default).op=29∨(l.getD o default).op=33) (v:E o=-1) (z:E' o=k):Arr l (k+1) (o :: r) P' E' Q':=by have A:=h.opn;refine ZbR h ?_ hP hP2 (fun _ _ q=>q) (fun x j q=>⟨y x j,f x j fun e=>q (e▸List.mem_cons_self)⟩) (fun _ _ B C=>absurd B C) (fun q=>by unfold ZbF at q;rw [Zbg (.inl h1)] at q;cases q);exact ZbM A hk h1 h2 v z f
theorem ZbV (v:∀ x,x<k→E' x=E x) (B:∀ x,x<k→x≠o→Q' x=Q x) (h1:(l.getD k default).op=35) (h2:(l.getD o default).op=33→0≤E o) (C:Q' o=k):Arr l (k+1) r P' E' Q':=by
 have A:=ZbI v h.opn;have y:=h.opn.1;have f:(l.getD o default).op=33→0≤E' o:=fun q=>by rw [v o y];exact h2 q
 refine ZbR h (ZbO A hk h1 f) hP hP2 (fun x j q=>List.mem_cons_of_mem o q) (fun x j q=>⟨B x j fun e=>q (e▸List.mem_cons_self),v x j⟩) (fun x j z D=>?_) (fun q=>by unfold ZbF at q;rw [Zbg (.inr h1)] at q;cases q);rcases List.mem_cons.1 z with rfl|z
 ·exact ⟨C,ZbN A hk h1 f⟩
 ·exact absurd z D
end
def gx (L:List Int):Nat→Int:=fun x=>L.getD x 0
theorem ZbW (L:List Int) (i:Nat) (v:Int) (hi:i<L.length) (x:Nat):gx (L.set i v) x=if i=x then v else gx L x:=by unfold gx;exact k97
theorem ZbX {L:List Int}{i:Nat}{v:Int} (f:i<L.length):∀ x,x<i→gx (L.set i v) x=gx L x:=fun x j=>by rw [ZbW L i v f,if_neg (by omega)]
section
variable {l:List In3}{k:Nat}{os:List Nat}{P E Q:List Int}{p:Int}{X:Prop} (h:Arr l k os.reverse (gx P) (gx E) (gx Q)) (hk:k<l.length) (hL:P.length=l.length∧E.length=l.length∧Q.length=l.length∧X) (hp:p=ZbQ os.reverse)
include h hk hL hp
theorem ZbY (h1:¬ ZbF l k) (h2:(l.getD k default).op≠34) (f:(l.getD k default).op≠35):RowKit.Hid (Arr l (k+1) os.reverse (gx (P.set k p)) (gx (E.set k (-1))) (gx (Q.set k (-1)))):=
 ZbS h hk (by rw [ZbW P k p (by omega),if_pos rfl,hp]) (ZbX (by omega)) (ZbX (by omega)) (ZbX (by omega)) h1 h2 f
theorem ZbZ (h1:ZbF l k):RowKit.Hid (Arr l (k+1) (os++[k]).reverse (gx (P.set k p)) (gx (E.set k (-1))) (gx (Q.set k (-1)))):=by rw [List.reverse_append];exact ZbT h hk (by rw [ZbW P k p (by omega),if_pos rfl,hp];rfl) (ZbX (by omega)) (ZbX (by omega)) (ZbX (by omega)) h1 (by rw [ZbW E k _ (by omega),if_pos rfl])
end
section
variable {l:List In3}{k o:Nat}{os:List Nat}{P E Q:List Int}{X:Prop} (h:Arr l k (os++[o]).reverse (gx P) (gx E) (gx Q)) (hk:k<l.length) (hL:P.length=l.length∧E.length=l.length∧Q.length=l.length∧X)
include h hk hL
theorem Zb0 (z:¬ 0≤E.getD o 0) (h1:(l.getD k default).op=34) (h2:(l.getD o default).op=29∨(l.getD o default).op=33):RowKit.Hid (Arr l (k+1) (os++[o]).reverse (gx (P.set k o)) (gx ((E.set k (-1)).set o k)) (gx (Q.set k (-1)))):=by
 rw [List.reverse_append] at h ⊢;have v:=h.opn;have A:o<k:=v.1;have y:gx E o=-1:=by
  rcases v.2.2.2.2 with ⟨q,_⟩|⟨n,q,_⟩
  ·exact q
  ·exact absurd (show 0≤gx E o by omega) z
 have f:∀ a,gx ((E.set k (-1)).set o k) a=if o=a then (k:Int) else gx (E.set k (-1)) a:=ZbW _ _ _ (by rw [List.length_set];omega);exact ZbU h hk (by rw [ZbW P k _ (by omega),if_pos rfl]) (ZbX (by omega)) (fun x B j=>by rw [f,if_neg (fun q=>j q.symm)];exact ZbX (by omega) x B) (ZbX (by omega)) h1 h2 y (by rw [f,if_pos rfl])
theorem Zb1 (h2:¬ ((l.getD o default).op=33∧¬ 0≤E.getD o 0)) (h1:(l.getD k default).op=35):RowKit.Hid (Arr l (k+1) os.reverse (gx (P.set k o)) (gx (E.set k (-1))) (gx ((Q.set k (-1)).set o k))):=by
 rw [List.reverse_append] at h;have v:o<k:=h.opn.1;have f:∀ a,gx ((Q.set k (-1)).set o k) a=if o=a then (k:Int) else gx (Q.set k (-1)) a:=ZbW _ _ _ (by rw [List.length_set];omega);exact ZbV h hk (by rw [ZbW P k _ (by omega),if_pos rfl]) (ZbX (by omega)) (ZbX (by omega)) (fun x y j=>by rw [f,if_neg (fun q=>j q.symm)];exact ZbX (by omega) x y) h1 (fun q=>by
  by_cases q2:0≤E.getD o 0
  ·exact q2
  ·exact absurd ⟨q,q2⟩ h2) (by rw [f,if_pos rfl])
end
theorem Zb2 (os:List Nat) (o:Nat):(o:Int)=ZbQ (os++[o]).reverse:=by rw [List.reverse_append];rfl
end
section
open Go.RowKit
section
variable {P:Program}{ops:Array Oper}{md:Region.Mode}{S:World→Prop}{Q:Exit→Act→World→Prop}
def Zb3 (P:Program) (md:Region.Mode) (ops:Array Oper) (Q:Exit→Act→World→Prop) (S:World→Prop):Nat→Array Bool→Act→World→Prop
 | 0,listed,a,w=>Region.ready md ops listed=[]∧Q .normal a w
 | f+1,listed,a,w=>Region.ready md ops listed≠[]∧∀ i∈Region.ready md ops listed,wpOp P ops Q i (fun a' w'=>S w'∧Zb3 P md ops Q S f (listed.setIfInBounds i true) a' w') a w
theorem Zb4 (f:Nat):∀ (j:Array Bool) (a:Act) (w:World),Zb3 P md ops Q S f j a w→wpAny P md ops Q f j a w:=by
 induction f with
 | zero=>intro j a w h;exact h
 | succ f ih=>
  intro j a w h;exact ⟨fun y=>absurd y h.1,fun i z=>wpOp_mono (fun q A v=>ih _ q A v.2) (h.2 i z)⟩
theorem Zb5 {i:Nat}{K:Oper}{v:Value} (R:ops[i]?=some K) (A:∀ (j:Nat) (o:Oper) cs b,ops[j]?=some o→o.op≠.select cs b)
  (W:∀ c a d v w,Q (.panic c) (Act.put a d v) w→Q (.panic c) a w) (f:Nat) :
  ∀ (q:Array Bool) (a:Act) (w:World),
   (∀ j D,ops[j]?=some D→j≠i→q.getD j true=false→(∀ e∈D.after,Region.binds md e=true→e.on≠i)→K.apart ops D=true) →
   i∈Region.ready md ops q→YieldsIf P ops S K v a→S w →
   Zb3 P md ops Q S f (q.setIfInBounds i true) (a.put K.dst v) w→Zb3 P md ops Q S (f+1) q a w:=by
 induction f with
 | zero=>
  intro q a w _ C N F H;refine ⟨fun h=>(by rw [h] at C;cases C),fun j M=>?_⟩;by_cases hji:j=i
  ·subst hji;exact N.wpOp R F ⟨F,H⟩
  ·have:=ready_mono M hji;rw [H.1] at this;cases this
 | succ f ih=>
  intro q a w y C N F H;refine ⟨fun h=>(by rw [h] at C;cases C),fun j M=>?_⟩;by_cases hji:j=i
  ·subst hji;exact N.wpOp R F ⟨F,H⟩
  have h1:=H.2 j (ready_mono M hji);obtain ⟨z,D,B,G⟩:=mem_ready.1 M;have I:∀ e∈D.after,Region.binds md e=true→e.on≠i:=by intro e Z Y O;have h2:=G e Z Y;rw [O,getD_both (mem_ready.1 C).1] at h2;cases h2
  have h2:=wpOp_putIf B (y j D B hji z I) (fun cs b=>A i K cs b R) (fun cs b=>A j D cs b B) (fun c a w=>W c _ _ _ w) N h1;refine wpOp_mono (fun V w' L=>⟨L.2.1,ih (q.setIfInBounds j true) V w' ?_ (ready_mono C (Ne.symm hji)) L.1 L.2.1 ?_⟩) h2
  ·intro k ok hk T J U;refine y k ok hk T ?_ U;by_cases hjk:j=k
   ·subst hjk;exact z
   ·rw [getD_set_ne true hjk] at J;exact J
  ·rw [Array.setIfInBounds_comm _ _ hji];exact L.2.2
end
end
section
open Go.RowKit
section
variable {P:Program}{ops:Array Oper}{md:Region.Mode}{S:World→Prop}{Q:Exit→Act→World→Prop}
def Zb6 (P:Program) (ops:Array Oper) (Q:Exit→Act→World→Prop) (S:World→Prop):List (Bool × Nat)→Act→World→Prop
 | [],a,w=>Q .normal a w
 | (false,i) :: t,a,w=>∃ o v,ops[i]?=some o∧YieldsIf P ops S o v a∧Zb6 P ops Q S t (a.put o.dst v) w
 | (true,i) :: t,a,w=>wpOp P ops Q i (fun a' w'=>S w'∧Zb6 P ops Q S t a' w') a w
def Zb7 (md:Region.Mode) (ops:Array Oper):List (Bool × Nat)→Array Bool→Bool
 | [],listed=>decide (Region.ready md ops listed=[])
 | (false,k) :: t,listed=>(Region.ready md ops listed).contains k&&Region.free md ops listed k&&Zb7 md ops t (listed.setIfInBounds k true)
 | (true,k) :: t,listed=>decide (Region.ready md ops listed=[k])&&Zb7 md ops t (listed.setIfInBounds k true)
theorem Zb8 (z:∀ c a d v w,Q (.panic c) (Act.put a d v) w→Q (.panic c) a w) (j:Region.noSelect ops=true) :
  ∀ (t:List (Bool × Nat)) (f:Array Bool) (a:Act) (w:World),S w→Zb7 md ops t f=true→Zb6 P ops Q S t a w→Zb3 P md ops Q S t.length f a w
 | [],f,a,w,_,hB,h=>⟨by simpa [Zb7] using hB,h⟩
 | (false,k) :: t,f,a,w,hS,hB,h=>by
  simp only [Zb7,Bool.and_eq_true] at hB;obtain ⟨⟨F,D⟩,y⟩:=hB;obtain ⟨o,v,A,G,C⟩:=h;exact Zb5 A (Region.noSelect_spec j) z t.length f a w (Region.free_spec A D) (by simpa using F) G hS (Zb8 z j t _ _ _ hS y C)
 | (true,k) :: t,f,a,w,hS,hB,h=>by
  simp only [Zb7,Bool.and_eq_true,decide_eq_true_eq] at hB;refine ⟨by rw [hB.1];simp,fun i B=>?_⟩;rw [hB.1] at B;obtain rfl:i=k:=by simpa using B
  exact wpOp_mono (fun H I q=>⟨q.1,Zb8 z j t _ _ _ q.1 hB.2 q.2⟩) h
def Zb9 (md:Region.Mode) (ops:Array Oper) (t:List (Bool × Nat)):Bool:=Region.noSelect ops&&decide (t.length=ops.size)&&Zb7 md ops t (Array.replicate ops.size false)
theorem Zca {id:Nat}{a:Act}{w:World}{l:List Oper} (S:World→Prop) (t:List (Bool × Nat)) (A:P.follows .mixedOrders=true) (q:Zb9 .any l.toArray t=true) (y:∀ c a d v w,Q (.panic c) (Act.put a d v) w→Q (.panic c) a w) (z:S w.drew)
  (h:Zb6 P l.toArray Q S t a w.drew):(Code.region id l.toArray true).wp P Q a w:=by
 simp only [Zb9,Bool.and_eq_true,decide_eq_true_eq] at q;obtain ⟨⟨j,B⟩,f⟩:=q;refine wp_region_any A ?_;have:=Zb8 (P:=P) (Q:=Q) (S:=S) (md:=.any) y j t _ a w.drew z f h;rw [B] at this;exact Zb4 _ _ _ _ this
def Zcb (P:Program) (ops:Array Oper) (Q:Exit→Act→World→Prop) (S:World→Prop):List (Bool × Nat × Oper)→Act→World→Prop
 | [],a,w=>Q .normal a w
 | (false,_,o) :: t,a,w=>∃ v,YieldsIf P ops S o v a∧Zcb P ops Q S t (a.put o.dst v) w
 | (true,i,_) :: t,a,w=>wpOp P ops Q i (fun a' w'=>S w'∧Zcb P ops Q S t a' w') a w
def Zcc (l : List Oper) (i : Nat) : Oper := l.getD i { dst := none, op := Op.move (Operand.const undef), type := 0, pos := "", after := #[], guard := none }
theorem Zcd {l:List Oper}:∀ (t:List (Bool × Nat)) (a:Act) (w:World),(∀ p∈t,p.2<l.length)→Zcb P l.toArray Q S (t.map fun p=>(p.1,p.2,Zcc l p.2)) a w→Zb6 P l.toArray Q S t a w
 | [],_,_,_,h=>h
 | (false,i) :: t,a,w,hl,h=>by
  obtain ⟨v,h1,h2⟩:=h;have j:i<l.length:=hl (false,i) (by simp);exact ⟨Zcc l i,v,by simp [Zcc,j],h1,Zcd t _ _ (fun p hp=>hl p (by simp [hp])) h2⟩
 | (true,i) :: t,a,w,hl,h=>wpOp_mono (fun q y f=>⟨f.1,Zcd t _ _ (fun p hp=>hl p (by simp [hp])) f.2⟩) h
theorem Zce {id:Nat}{a:Act}{w:World}{l:List Oper} (S:World→Prop) (t:List (Bool × Nat)) (y:P.follows .mixedOrders=true) (f:(Zb9 .any l.toArray t&&t.all fun p=>decide (p.2<l.length))=true) (j:∀ c a d v w,Q (.panic c) (Act.put a d v) w→Q (.panic c) a w) (q:S w.drew)
  (h:Zcb P l.toArray Q S (t.map fun p=>(p.1,p.2,Zcc l p.2)) a w.drew):(Code.region id l.toArray true).wp P Q a w:=by
 rw [Bool.and_eq_true] at f;exact Zca S t y f.1 j q (Zcd t _ _ (fun p hp=>by simpa using List.all_eq_true.1 f.2 p hp) h)
theorem Zcf {t:List (Bool × Nat × Oper)}{k:Nat}{o:Oper}{a:Act}{w:World} (h:∃ v,YieldsIf P ops S o v a∧Zcb P ops Q S t (a.put o.dst v) w):Zcb P ops Q S ((false,k,o) :: t) a w:=h
theorem Zcg {t:List (Bool × Nat × Oper)}{k:Nat}{o:Oper}{a:Act}{w:World} (j:ops[k]?=some o) (q:Region.wanted o (yielded ops a.tmps)=true)
  (h:∀ f:Act→World→Prop,(∀ a w,S w→Zcb P ops Q S t a w→f a w)→o.wp P a w f Q):Zcb P ops Q S ((true,k,o) :: t) a w:=by
 show wpOp P ops Q k _ a w;unfold wpOp;simp only [j,q,if_true];exact .inl (h _ fun _ _ h1 h2=>⟨h1,h2⟩)
theorem Zch {a:Act}{w:World} (h:Q .normal a w):Zcb P ops Q S [] a w:=h
end
end
section
open Go.RowKit
def Blk (w:World) (b:Nat) (xs:Array Value) (t:TypeId):Prop:=w.heap[b]?=some (.cells xs t (0,0))
section
variable {w:World}{b:Nat}{xs:Array Value}{t:TypeId}(h:Blk w b xs t)
include w b xs t h
theorem Blk.lt:b<w.heap.size:=by
 rcases Nat.lt_or_ge b w.heap.size with h'|h'
 ·exact h'
 ·simp [Blk,Array.getElem?_eq_none h'] at h
theorem Blk.cell (i:Nat) {v:Value} (hv:xs[i]?=some v):w.cell? ⟨b,i,none⟩=some v:=by rw [cell_of_row w b i xs t (0,0) h];exact hv
theorem Blk.frozen (i:Nat):w.frozen? ⟨b,i,none⟩=false:=frozen_of_row w b i xs t h
theorem Blk.set (i:Nat) (v:Value):Blk (w.setCell ⟨b,i,none⟩ v) b (xs.setIfInBounds i v) t:=heap_setCell_same w b i xs t v h
theorem Blk.other {a:Addr} (ha:b≠a.block) (v:Value):Blk (w.setCell a v) b xs t:=by unfold Blk;rw [heap_setCell_other w a b v ha];exact h
theorem Blk.alloc (o:Obj):Blk (w.alloc o) b xs t:=by unfold Blk;rw [Below.heap_alloc w o b h.lt];exact h
end
theorem Blk.new (w:World) (xs:Array Value) (t:TypeId):Blk (w.alloc (.cells xs t)) w.heap.size xs t:=heap_alloc_new w _
theorem Blk.new' {w:World}{b:Nat} (xs:Array Value) (t:TypeId) (hb:b=w.heap.size):Blk (w.alloc (.cells xs t)) b xs t:=by subst hb;exact heap_alloc_new w _
theorem Blk.drew {w:World}{b:Nat}{xs:Array Value}{t:TypeId} (h:Blk w b xs t):Blk w.drew b xs t:=h
theorem Blk.drewN {w:World}{b:Nat}{xs:Array Value}{t:TypeId} (h:Blk w b xs t) (n:Nat):Blk (w.drewN n) b xs t:=h
theorem Blk.below {w w':World}{b B:Nat}{xs:Array Value}{t:TypeId} (h:Blk w b xs t) (hb:Below B w w') (hB:b<B):Blk w' b xs t:=by unfold Blk;rw [hb.block b hB];exact h
theorem Blk.old {w w':World}{b:Nat}{xs:Array Value}{t:TypeId} (h:Blk w b xs t) (hb:Below w.heap.size w w'):Blk w' b xs t:=h.below hb h.lt
theorem Zci (w:World) (a:Addr) (v:Value):(w.setCell a v).heap.size=w.heap.size:=by simp [World.setCell]
end
section
open Go.RowKit
theorem Zcj (v:Value) (n:Nat):madeCells #[v] n=((List.replicate n v)).toArray:=by
 apply Array.ext
 ·simp [madeCells]
 ·intro i h1 h2;simp [madeCells,Nat.mod_one]
theorem Zck {w:World}{base:Nat}{e:TypeId}{size:Nat}{v:Value}{n:Nat}{xs:List Value} (h:w.ownsRow base e size v n xs):w.drew.ownsRow base e size v n xs:=h
theorem Zcl {P:Program}{ops:Array Oper}{o:Oper}{f:List Oper}{a:Act}{w:World}{Q:Exit→Act→World→Prop} (j:Region.wanted o (yielded ops a.tmps)=true) (h:∀ K:Act→World→Prop,(∀ a w,wpList P ops Q f a w→K a w)→o.wp P a w K Q):wpList P ops Q (o :: f) a w:=by unfold wpList;rw [if_pos j];exact .inl (h _ fun _ _ h=>h)
theorem Zcm:El Tryz.prog 27 3 1 8:=El.mk' (z:=.int .i64 0) Tryz.underlying27 (by kernel_rfl) (by kernel_rfl) (by decide)
theorem Zcn (w:World) (xs:Array Value) (t:TypeId) {n size:Nat} (h:xs.size=n*size):SlA (w.alloc (.cells xs t)) size (some ⟨w.heap.size,0,none⟩) n n xs.toList:=by
 refine ⟨by simpa using h,(fun h=>by cases h),fun j u q=>⟨_,rfl,?_⟩⟩;have f:(⟨w.heap.size,0,none⟩:Addr).add j=⟨w.heap.size,j,none⟩:=by unfold Addr.add;split<;>simp_all
 rw [f];exact (Blk.new w xs t).cell j (by simpa using q)
theorem Zco {w:World}{base:Nat}{e:TypeId}{size:Nat}{v:Value}{n:Nat}{xs:List Value} (h:w.ownsRow base e size v n xs) {b:Nat} (f:b<base):some b≠v.ownBlock:=by intro h2;have:=(h.lt b h2.symm).1;omega
theorem Blk.grownV {w w':World}{b:Nat}{xs:Array Value}{t:TypeId}{row:Option Nat} (h:Blk w b xs t) (hg:w.grownBy w' row) (hne:some b≠row):Blk w' b xs t:=by have h1:=hg.block b h.lt hne;exact h1.trans h
def Zcp (l:List In3) (E:List Int) (os:List Nat):List Br:=os.reverse.map fun o=>⟨(l.getD o default).op,decide (0≤E.getD o 0)⟩
theorem Zcq (l:List In3) (E:List Int) (os:List Nat) (o:Nat):Zcp l E (os++[o])=⟨(l.getD o default).op,decide (0≤E.getD o 0)⟩ :: Zcp l E os:=by simp [Zcp]
theorem Zcr {l:List In3}{E E':List Int}{os:List Nat} (h:∀ o∈os,E'.getD o 0=E.getD o 0):Zcp l E' os=Zcp l E os:=by unfold Zcp;refine List.map_congr_left fun o f=>?_;rw [h o (List.mem_reverse.1 f)]
theorem Zcs (l:List In3) (E:List Int) (os:List Nat):(Zcp l E os).length=os.length:=by simp [Zcp]
section
variable {w:World}{base:Nat}{e:TypeId}{size g cap n:Nat}{xs:List Value}(h:w.ownsRow base e size (.slice (some ⟨g,0,none⟩) n cap) n xs)
include w base e size g cap n xs h
theorem Zct:g<w.heap.size:=by
 obtain ⟨h1,h2⟩:=h;rcases h2 with ⟨q,_⟩|⟨z,j,f,y,hg,v,_⟩
 ·cases q
 ·cases y;exact (show Blk w g f e from v).lt
theorem Zcu:n≤cap:=by
 obtain ⟨h1,h2⟩:=h;rcases h2 with ⟨q,_⟩|⟨z,f,j,y,hg,A,v,_⟩
 ·cases q
 ·cases y;exact v
end
theorem Zcv {w:World}{base:Nat}{e:TypeId}{g cap n:Nat}{xs:List Value} (h:w.ownsRow base e 1 (.slice (some ⟨g,0,none⟩) n cap) n xs) (A:xs.length=n) (j:Nat) {v:Value} (y:xs[j]?=some v):w.cell? ⟨g,j,none⟩=some v:=by
 obtain ⟨z,ha,q⟩:=(Zai h).2.2.2 j v y;obtain rfl:=Option.some.inj ha;have f:(⟨g,0,none⟩:Addr).add j=⟨g,j,none⟩:=by unfold Addr.add;split<;>simp_all
 rwa [f] at q
theorem Zcw {l:List In3}{E f:List Int}{os:List Nat}{k q:Nat} (hk:k<l.length) (j:ZaS (l.getD k default).op=true) (h1:f.getD k 0=-1) (h2:∀ o∈os,f.getD o 0=E.getD o 0) (h:Run l 0 k ([],0) (Zcp l E os,q)):Run l 0 (k+1) ([],0) (Zcp l f (os++[k]),max q (os.length+1)):=by refine h.trans (Run.step hk ?_);unfold ZaT;rw [j,if_pos rfl,Zcq,h1,Zcr h2,Zcs];rfl
theorem Zcx {l:List In3}{E f:List Int}{os:List Nat}{o k v:Nat} (hk:k<l.length) (j:(l.getD k default).op=34) (q:(l.getD o default).op=29∨(l.getD o default).op=33) (y:¬ 0≤E.getD o 0) (h1:0≤f.getD o 0) (h2:∀ a∈os,f.getD a 0=E.getD a 0) (h:Run l 0 k ([],0) (Zcp l E (os++[o]),v)):Run l 0 (k+1) ([],0) (Zcp l f (os++[o]),v):=by rw [Zcq,decide_eq_false y] at h;rw [Zcq,decide_eq_true h1,Zcr h2];exact h.trans (Zbh hk j _ _ _ ⟨q,rfl⟩)
theorem Zcy {l:List In3}{E q:List Int}{os:List Nat}{o k v:Nat} (hk:k<l.length) (f:(l.getD k default).op=35) (j:¬ ((l.getD o default).op=33∧¬ 0≤E.getD o 0)) (h2:∀ a∈os,q.getD a 0=E.getD a 0) (h:Run l 0 k ([],0) (Zcp l E (os++[o]),v)):Run l 0 (k+1) ([],0) (Zcp l q os,v):=by rw [Zcq] at h;rw [Zcr h2];exact h.trans (Zbj hk f _ _ _ (fun y=>j ⟨y.1,by simpa using y.2⟩))
theorem Zcz {l:List In3}{E v:List Int}{os:List Nat}{k y:Nat} (hk:k<l.length) (q:ZaS (l.getD k default).op=false) (f:(l.getD k default).op≠34) (j:(l.getD k default).op≠35) (h2:∀ o∈os,v.getD o 0=E.getD o 0) (h:Run l 0 k ([],0) (Zcp l E os,y)):Run l 0 (k+1) ([],0) (Zcp l v os,y):=by rw [Zcr h2];exact h.trans (Run.step hk (Zbd q f j))
theorem ZcA (l:List Int) (i j:Nat) (v:Int) (hi:i<l.length):(l.set i v).getD j 0=if i=j then v else l.getD j 0:=by exact k97
theorem ZcB {l:List In3}{t:List Br × Nat} (h:Run l 0 l.length ([],0) t):ZaV l=(t.1.isEmpty&&decide (t.2≤6)):=by obtain ⟨_,_,f⟩:=h;simp only [List.drop_zero,Nat.sub_zero,List.take_length] at f;unfold ZaV;rw [f]
theorem ZcC {w:World}{base:Nat}{e:TypeId}{ao:Option Addr}{m cap:Nat}{xs:List Value}{x:Value} (h:w.ownsRow base e 1 (.slice ao (m+1) cap) (m+1) (xs++[x])) (B:xs.length=m):w.ownsRow base e 1 (.slice ao m cap) m xs:=by
 obtain ⟨h1,h2⟩:=h;rcases h2 with ⟨_,D⟩|⟨g,y,j,C,hg,A,F,q,v,f⟩
 ·omega
 ·cases C;refine ⟨by simpa using B,.inr ⟨g,cap,j,rfl,hg,A,by omega,q,v,?_⟩⟩;have z:(j.toList.take ((m+1)*1)).take (m*1)=(xs++[x]).take (m*1):=by rw [f]
  rw [List.take_take,Nat.min_eq_left (by omega)] at z;rw [z,List.take_append_of_le_length (by omega),List.take_of_length_le (by omega)]
theorem ZcD {w:World}{g D B:Nat}{xs:Array Value}{t:TypeId} (h:Blk w g xs t) (C:g≠D) (f:g≠B) {u j q v y z A:Value}:Blk (((((((w.setCell ⟨D,5,none⟩ u).setCell ⟨B,0,none⟩ j).setCell ⟨B,1,none⟩ q).setCell ⟨B,2,none⟩ v).setCell ⟨B,3,none⟩ y).setCell ⟨B,4,none⟩ z).setCell ⟨B,5,none⟩ A) g xs t:=
 ((((((h.other (a:=⟨D,5,none⟩) C u).other (a:=⟨B,0,none⟩) f j).other (a:=⟨B,1,none⟩) f q).other (a:=⟨B,2,none⟩) f v).other (a:=⟨B,3,none⟩) f y).other (a:=⟨B,4,none⟩) f z).other (a:=⟨B,5,none⟩) f A
def ZcE (l:List In3) (w:World) (v0 v1 v2 v3:Value):Prop:=∃ (g0 g1 g2 g3:Nat) (P E Q R:List Int),v0=.slice (some ⟨g0,0,none⟩) l.length l.length∧v1=.slice (some ⟨g1,0,none⟩) l.length l.length∧v2=.slice (some ⟨g2,0,none⟩) l.length l.length∧v3=.slice (some ⟨g3,0,none⟩) l.length l.length ∧
 (P.length=l.length∧E.length=l.length∧Q.length=l.length∧R.length=l.length)∧Blk w g0 (P.map (Value.int .i64)).toArray 3∧Blk w g1 (E.map (Value.int .i64)).toArray 3∧Blk w g2 (Q.map (Value.int .i64)).toArray 3∧Blk w g3 (R.map (Value.int .i64)).toArray 3∧Arr l l.length [] (gx P) (gx E) (gx Q)
def ZcF (l:List In3) (W:World):Ending→World→Prop:=fun e w'=>(∃ v0 v1 v2 v3:Value,∃ n:Int,e=.returned (.agg #[v0,v1,v2,v3,.int .i64 n,.bool (ZaV l)])∧(ZaV l=true→ZcE l w' v0 v1 v2 v3))∧Below W.heap.size W w'
theorem ZcG {l:List In3}{W w':World}{j v y z:Value}{n:Int} (h:ZaV l=false) (f:Below W.heap.size W w'):ZcF l W (.returned (.agg #[j,v,y,z,.int .i64 n,.bool false])) w':=⟨⟨_,_,_,_,_,by rw [h],fun q=>by rw [h] at q;cases q⟩,f⟩
theorem ZcH {l:List In3}{W w':World}{f j q v:Value}{n:Int} (h:ZaV l=true) (ha:ZcE l w' f j q v) (y:Below W.heap.size W w'):ZcF l W (.returned (.agg #[f,j,q,v,.int .i64 n,.bool true])) w':=⟨⟨_,_,_,_,_,by rw [h],fun _=>ha⟩,y⟩
end
section
open Go.RowKit
theorem ZcI (k:Int) (f:0≤k) (hk:k<15) (w:World):Sem.run Tryz.prog (Instr.index 321 (.agg #[.int .i64 0,.int .i64 0,.int .i64 9,.int .i64 4,.int .i64 9,.int .i64 48,.int .i64 6,.int .i64 9,.int .i64 15,.int .i64 15,.int .i64 3,.int .i64 9,.int .i64 50,.int .i64 5,.int .i64 24]) (.int .i64 k)) w=.ok (.int .i64 (ZaP.getD k.toNat 0)) w:=by
 rcases (show k=0∨k=1∨k=2∨k=3∨k=4∨k=5∨k=6∨k=7∨k=8∨k=9∨k=10∨k=11∨k=12∨k=13∨k=14 by omega) with rfl|rfl|rfl|rfl|rfl|rfl|rfl|rfl|rfl|rfl|rfl|rfl|rfl|rfl|rfl
 all_goals kernel_rfl
theorem ZcJ (k:Int) (f:0≤k) (hk:k<15) (w:World) :
  Calls Tryz.prog 308 #[.int .i64 k] w fun e w'=>e=.returned (.int .i64 (ZaP.getD k.toNat 0))∧w=w':=by
 have j:=ZcI k f hk;generalize ZaP.getD k.toNat 0=q at j ⊢;go_enter Tryz.func308,Tryz.ntmps308;go_wp2;go_ret;exact ⟨rfl,rfl⟩
theorem ZcK (k:Int) (w:World) :
  Calls Tryz.prog 309 #[.int .i64 k] w fun e w'=>e=.returned (.bool (decide (k=4∨k=6∨k=7∨k=8∨k=9)))∧w=w':=by
 have f:=Zh (rfl:w=w);go_enter Tryz.func309,Tryz.ntmps309;go_wp2
 all_goals
  go_ret;refine ⟨Zab ?_,rfl⟩;grind
theorem ZcL (op:Int) (w:World) :
  Calls Tryz.prog 127 #[.int .i64 op] w fun e w'=>e=.returned (.bool (ZaS op))∧w=w':=by
 go_enter Tryz.func127,Tryz.ntmps127;go_wp2
 all_goals
  go_ret;refine ⟨Zab ?_,rfl⟩;rw [Bool.eq_iff_iff];simp [ZaS,inI];omega
theorem ZcM {n r:Int}{p:Bool} (f:0≤r):inR n r.toNat p=if r=1 then inI n (-2147483648) 2147483647 else if r=3 then inI n 2 4 else if r=14 then inI n 1 24 else if p=true∧(r=4∨r=6∨r=7∨r=8∨r=9) then inI n 0 59 else inI n 0 (ZaP.getD r.toNat 0):=by
 unfold inR;by_cases h1:r=1
 ·rw [if_pos h1,if_pos (by omega)]
 rw [if_neg h1,if_neg (by omega)];by_cases h3:r=3
 ·rw [if_pos h3,if_pos (by omega)]
 rw [if_neg h3,if_neg (by omega)];by_cases h14:r=14
 ·rw [if_pos h14,if_pos (by omega)]
 rw [if_neg h14,if_neg (by omega)];have e:ZaQ r.toNat=decide (r=4∨r=6∨r=7∨r=8∨r=9):=by unfold ZaQ;rw [decide_eq_decide];omega
 rw [e];cases p with
 | false=>simp
 | true=>simp
theorem ZcN:ZaP[14]?.getD 0=24:=rfl
theorem ZcO (n r:Int) (p:Bool) (j:0≤r) (v:r<15) (w:World) :
  Calls Tryz.prog 269 #[.int .i64 n,.int .i64 r,.bool p] w fun e w'=>e=.returned (.bool (inR n r.toNat p))∧w=w':=by
 generalize hq:inR n r.toNat p=q;have f:=Zh hq;clear hq;go_enter Tryz.func269,Tryz.ntmps269
 go_wp2_with (first
  | (go_at_call 309;refine (ZcK _ _).mono ?_;rintro e w' ⟨rfl,rfl⟩)
  | (go_at_call 308;refine (ZcJ _ (by omega) (by omega) _).mono ?_;rintro e w' ⟨rfl,rfl⟩))
 all_goals
  go_ret;refine ⟨Zab ?_,rfl⟩;rw [←f.out,ZcM j];have:=ZcN;grind [inI]
end
section
open Go.RowKit
def Ret (W:World) (v:Value):Ending→World→Prop:=fun e w'=>e=.returned v∧Below W.heap.size W w'
theorem ZcP {W w':World}{v u:Value} (h:u=v) (f:Below W.heap.size W w'):Ret W v (.returned u) w':=⟨by rw [h],f⟩
theorem bal {W w:World} (h:Below W.heap.size W w) (o:Obj):Below W.heap.size W (w.alloc o):=h.alloc h.size o
theorem ZcQ {W w:World} (h:Below W.heap.size W w) (n:Nat):Below W.heap.size W (w.drewN n):=⟨h.os,h.tape,h.output,h.size,h.block⟩
theorem ZcR {W w w':World}{f:Option Nat} (h:Below W.heap.size W w) (hg:w.grownBy w' f) (j:∀ k,f=some k→W.heap.size≤k):Below W.heap.size W w':=h.grown hg h.size j
theorem ZcS {W w:World} (h:Below W.heap.size W w) {b j:Nat} (f:W.heap.size≤b) (v:Value):Below W.heap.size W (w.setCell ⟨b,j,none⟩ v):=h.setCell (p:=⟨b,j,none⟩) f v
theorem bE {p:Prop} (h:p:=by (repeat (first|exact Below.refl _ _|assumption|refine bal ?_ _|refine Below.drew ?_|refine ZcQ ?_ _|refine Zag ?_ (by assumption)))):p:=h
theorem ZcT {a b:Bool} (h:a=b):Value.bool a=.bool b:=by rw [h]
theorem ZcU {a b:Int} (h:a=b):Value.int .i64 a=.int .i64 b:=by rw [h]
end
section
open Go.RowKit
def ZcV:List Value:=[.string ⟨#[110,111,112]⟩,.int .i64 0,.int .i64 0,.int .i64 1,.string ⟨#[112,117,115,104]⟩,.int .i64 1,.int .i64 0,.int .i64 1,.string ⟨#[108,111,97,100]⟩,.int .i64 2,.int .i64 0,.int .i64 1,.string ⟨#[115,116,111,114,101]⟩,.int .i64 2,.int .i64 0,.int .i64 1,.string ⟨#[100,114,111,112]⟩,.int .i64 0,.int .i64 0,.int .i64 1,.string ⟨#[100,117,112]⟩,.int .i64 0,.int .i64 0,.int .i64 1,.string ⟨#[97,100,100]⟩,.int .i64 0,.int .i64 0,.int .i64 1,.string ⟨#[115,117,98]⟩,.int .i64 0,.int .i64 0,.int .i64 1,.string ⟨#[109,117,108]⟩,.int .i64 0,.int .i64 0,.int .i64 3,.string ⟨#[100,105,118]⟩,.int .i64 0,.int .i64 0,.int .i64 8,.string ⟨#[108,101,115,115]⟩,.int .i64 0,.int .i64 0,.int .i64 1,.string ⟨#[115,97,109,101]⟩,.int .i64 0,.int .i64 0,.int .i64 1,.string ⟨#[110,117,108,108]⟩,.int .i64 3,.int .i64 4,.int .i64 1,.string ⟨#[105,115,110,117,108,108]⟩,.int .i64 0,.int .i64 0,.int .i64 1,.string ⟨#[110,101,119]⟩,.int .i64 4,.int .i64 0,.int .i64 12,.string ⟨#[110,101,119,105,110,116,115]⟩,.int .i64 5,.int .i64 0,.int .i64 4,.string ⟨#[110,101,119,114,101,102,115]⟩,.int .i64 5,.int .i64 4,.int .i64 4,.string ⟨#[103,101,116]⟩,.int .i64 6,.int .i64 0,.int .i64 2,.string ⟨#[112,117,116]⟩,.int .i64 6,.int .i64 0,.int .i64 3,.string ⟨#[101,108,101,109]⟩,.int .i64 0,.int .i64 0,.int .i64 3,.string ⟨#[115,101,116,101,108,101,109]⟩,.int .i64 0,.int .i64 0,.int .i64 4,.string ⟨#[108,101,110]⟩,.int .i64 0,.int .i64 0,.int .i64 2,.string ⟨#[115,116,97,116,105,99]⟩,.int .i64 7,.int .i64 0,.int .i64 2,.string ⟨#[115,101,116,115,116,97,116,105,99]⟩,.int .i64 7,.int .i64 0,.int .i64 3,.string ⟨#[99,97,115,116]⟩,.int .i64 4,.int .i64 0,.int .i64 2,.string ⟨#[99,97,108,108]⟩,.int .i64 8,.int .i64 0,.int .i64 4,.string ⟨#[115,101,110,100]⟩,.int .i64 9,.int .i64 0,.int .i64 6,.string ⟨#[101,109,105,116]⟩,.int .i64 10,.int .i64 0,.int .i64 2,.string ⟨#[116,104,114,111,119]⟩,.int .i64 11,.int .i64 0,.int .i64 3,.string ⟨#[105,102]⟩,.int .i64 0,.int .i64 0,.int .i64 1,.string ⟨#[108,111,111,112]⟩,.int .i64 12,.int .i64 2,.int .i64 2,.string ⟨#[108,111,99,107]⟩,.int .i64 13,.int .i64 0,.int .i64 2,.string ⟨#[115,99,111,112,101]⟩,.int .i64 14,.int .i64 0,.int .i64 4,.string ⟨#[116,114,121]⟩,.int .i64 0,.int .i64 0,.int .i64 2,.string ⟨#[101,108,115,101]⟩,.int .i64 0,.int .i64 0,.int .i64 1,.string ⟨#[101,110,100]⟩,.int .i64 0,.int .i64 0,.int .i64 1]
def opN:List ByteArray:=[⟨#[110,111,112]⟩,⟨#[112,117,115,104]⟩,⟨#[108,111,97,100]⟩,⟨#[115,116,111,114,101]⟩,⟨#[100,114,111,112]⟩,⟨#[100,117,112]⟩,⟨#[97,100,100]⟩,⟨#[115,117,98]⟩,⟨#[109,117,108]⟩,⟨#[100,105,118]⟩,⟨#[108,101,115,115]⟩,⟨#[115,97,109,101]⟩,⟨#[110,117,108,108]⟩,⟨#[105,115,110,117,108,108]⟩,⟨#[110,101,119]⟩,⟨#[110,101,119,105,110,116,115]⟩,⟨#[110,101,119,114,101,102,115]⟩,⟨#[103,101,116]⟩,⟨#[112,117,116]⟩,⟨#[101,108,101,109]⟩,⟨#[115,101,116,101,108,101,109]⟩,⟨#[108,101,110]⟩,⟨#[115,116,97,116,105,99]⟩,⟨#[115,101,116,115,116,97,116,105,99]⟩,⟨#[99,97,115,116]⟩,⟨#[99,97,108,108]⟩,⟨#[115,101,110,100]⟩,⟨#[101,109,105,116]⟩,⟨#[116,104,114,111,119]⟩,⟨#[105,102]⟩,⟨#[108,111,111,112]⟩,⟨#[108,111,99,107]⟩,⟨#[115,99,111,112,101]⟩,⟨#[116,114,121]⟩,⟨#[101,108,115,101]⟩,⟨#[101,110,100]⟩]
def opC:List Nat:=[1,1,1,1,1,1,1,1,3,8,1,1,1,1,12,4,4,2,3,3,4,2,2,3,2,4,6,2,3,1,2,2,4,2,1,1]
theorem ZcW (w:World):(storeCells ⟨w.heap.size,0,none⟩ ZcV 0).run Tryz.prog (w.alloc (.cells Tryz.zeroCells308 308))=.ok () (w.alloc (.cells ZcV.toArray 308)):=by have:=run_storeCells_new (P:=Tryz.prog) w 308 Tryz.zeroCells308 ZcV.toArray (by kernel_rfl) (by kernel_rfl) (by kernel_rfl);simpa using this
theorem ZcX (w:World):Calls Tryz.prog 307 #[] w fun e w'=>e=.returned (.agg ZcV.toArray)∧Below w.heap.size w w':=by
 have q:=run_loadAt_new (P:=Tryz.prog) w 308 ZcV.toArray 36 270 Tryz.underlying308 (by kernel_rfl);have y:=Zh q;clear q;go_enter Tryz.func307,Tryz.ntmps307
 go_wp2_with fail
 generalize hL:List.set _ _ _=L;have z:L=ZcV:=by rw [←hL];kernel_rfl
 subst z;clear hL;rw [ZcW];simp only [Result.andThen];rw [Oper.upon_skip]
 go_wp2_with fail
 refine bodyPost_ret (v:=.agg ZcV.toArray) ?_ rfl ⟨rfl,(Below.refl _ _).alloc (Nat.le_refl _) _⟩;have j:=run_loadVar_new (P:=Tryz.prog) w 308 ZcV.toArray 36 270 Tryz.underlying308 (by kernel_rfl);have f:=y.out;generalize ZcV.toArray=T at f j ⊢;simp [results,Tryz.results307,Act.put,asAddr,Result.andThen,f,j]
end
section
def ZcY (m:Md):Nat→Int→Int→Bool
 | 0,_,_=>false
 | f+1,a,b=>if a<0 then false else if a=b then true else ZcY m f (m.sup a) b
def ZcZ (m:Md) (n:Nat):Prop:=∀ i:Int,0≤i→i<n→-1≤m.sup i∧m.sup i<i
theorem Zc0 {m:Md}{a b:Int} (h:a<b):∀ g,ZaI m g a b=false
 | 0=>by simp [ZaI];omega
 | g+1=>by unfold ZaI;rw [if_neg (by omega)];simp;omega
theorem Zc1 {m:Md}{n:Nat} (q:ZcZ m n) {b:Int} (z:0≤b):∀ (k:Nat) (a:Int) (f g:Nat),a<k→k≤n→(0≤a→a.toNat<f∧a.toNat<g)→ZcY m f a b=ZaI m g a b:=by
 intro k
 induction k with
 | zero=>
  intro a f g ha _ _;rw [Zc0 (by omega)];cases f with
  | zero=>rfl
  | succ f=>unfold ZcY;rw [if_pos (by omega)]
 | succ k ih=>
  intro a f g ha hk j;by_cases h0:a<0
  ·rw [Zc0 (by omega)];cases f with
   | zero=>rfl
   | succ f=>unfold ZcY;rw [if_pos h0]
  ·obtain ⟨h1,h2⟩:=j (by omega);obtain ⟨v,y⟩:=q a (by omega) (by omega);cases f with
   | zero=>omega
   | succ f=>
    cases g with
    | zero=>omega
    | succ g=>
     have e:=ih (m.sup a) f g (by omega) (by omega) (by omega);unfold ZcY;rw [if_neg h0];by_cases hab:a=b
     ·subst hab;rw [if_pos rfl];unfold ZaI;rw [if_neg (by omega)];simp
     ·rw [if_neg hab,e];by_cases hlt:b<a
      ·conv=>rhs;unfold ZaI
       rw [if_pos hlt]
      ·rw [Zc0 (by omega),Zc0 (by omega)]
theorem Zc2 {m:Md}{n:Nat} (v:ZcZ m n) {a b:Int} (q:0≤b) (ha:a<n) {f g:Nat} (j:0≤a→a.toNat<f) (hg:0≤a→a.toNat<g):ZaI m f a b=ZaI m g a b:=by rw [←Zc1 v q n a (f+1) f (by omega) (Nat.le_refl _) (fun h=>⟨by have:=j h;omega,j h⟩),Zc1 v q n a (f+1) g (by omega) (Nat.le_refl _) (fun h=>⟨by have:=j h;omega,hg h⟩)]
theorem Zc3 {m:Md}{k:Nat} (h:ZaL m k=true):-1≤m.sup k∧m.sup k<k:=by simp only [ZaL,Bool.and_eq_true,decide_eq_true_eq] at h;exact ⟨h.1.1.1.1.1.1,h.1.1.1.1.1.2⟩
theorem Zc4 {m:Md}{n:Nat} (h:∀ k,k<n→ZaL m k=true):ZcZ m n:=fun i f h1=>by
 have:=Zc3 (h i.toNat (by omega))
 rwa [show ((i.toNat:Nat):Int)=i by omega] at this
end
