import Derived.Test.YtcfjblcgceednaaGreatRows
import Derived.WalkSpells
import Derived.WalkLawsBesides
import Derived.Lib.Hide
import Derived.StillTailTactics
import Derived.Laws.AppendOwnNone
import Derived.OrdersHeld
import Derived.BigQuiet
import Derived.Deep.OwnRows
import Derived.Deep.CutRange
import Derived.Deep.WholeRow
import Derived.Lib.SlicesCompact
set_option linter.all false
set_option maxRecDepth 100000
set_option maxHeartbeats 4000000
namespace Go.Proofs.YtcfjblcgceednaaGreat
theorem Zh {p:Prop}(h:p):RowKit.Hid p:=Lib.hid h
theorem k97{p:Prop}(h:p:=by
 simp only [List.getD_eq_getElem?_getD,List.getElem?_set];split
 ·subst_vars;simp [hi]
 ·rfl):p:=h
section
open Go.RowKit
theorem Zaa {a b:Bool} (h:a=b):Ending.returned (.bool a)=.returned (.bool b):=by rw [h]
theorem Zab {a b c d:Int} (h:a=c) (f:b=d):Ending.returned (.tuple #[.int .i64 a,.int .i64 b])=.returned (.tuple #[.int .i64 c,.int .i64 d]):=by rw [h,f]
theorem Zac {w:World}{a:Addr}{v:Value} (h:w.cell? a=some v):a.block<w.heap.size:=by
 unfold World.cell? at h;by_cases hlt:a.block<w.heap.size
 ·exact hlt
 ·have e:w.heap[a.block]?=none:=by simp;omega
  simp [e] at h
def Sl (k:IntKind) (w:World) (a:Option Addr) (zs:List Int):Prop:=∀ i,i<zs.length→∃ ad,a=some ad∧w.cell? (ad.add i)=some (.int k (zs.getD i 0))
theorem Sl.below {k:IntKind}{w w':World}{a:Option Addr}{zs:List Int} (h:Sl k w a zs) (hb:Below w.heap.size w w'):Sl k w' a zs:=by intro i v;obtain ⟨j,ha,q⟩:=h i v;have f:(j.add i).block<w.heap.size:=Zac q;exact ⟨j,ha,by rw [hb.cell f];exact q⟩
theorem Zad (l:List Int) (k:Nat) (h:k<l.length):l.take (k+1)=l.take k++[l.getD k 0]:=by rw [List.take_succ_eq_append_getElem h];simp [h]
theorem Zae {P:Program}{id:Nat}{Q:Exit→Act→World→Prop}{a:Act}{w:World}{l:List Oper} (n:Nat) (q:P.follows .mixedOrders=true) (j:Region.lexTailB .any l.toArray n=true)
  (h:wpStill P l.toArray w.drew (fun f=>wpList P l.toArray Q (l.drop n) f w.drew) (l.take n) a):(Code.region id l.toArray true).wp P Q a w:=wp_region_still_tail n q j h
theorem Zaf {a b c:World} (h1:Below a.heap.size a b) (h2:Below b.heap.size b c):Below a.heap.size a c:=h1.trans (h2.mono h1.size)
def IsB (zs:List Int):Prop:=∀ i,i<zs.length→0≤zs.getD i 0∧zs.getD i 0≤255
end
section
open Go.RowKit
theorem Zag (a:Addr) (j:Nat):(a.add j).block=a.block:=by unfold Addr.add;split<;>rfl
def SlA (w:World) (size:Nat) (ao:Option Addr) (n cap:Nat) (xs:List Value):Prop:=
 xs.length=n*size∧(ao=none→n=0∧cap=0)∧∀ j u,xs[j]?=some u→∃ a,ao=some a∧w.cell? (a.add j)=some u
theorem SlA.below {w w':World}{size:Nat}{ao:Option Addr}{n cap:Nat}{xs:List Value} (h:SlA w size ao n cap xs) {B:Nat} (hb:Below B w w') (hB:∀ (a:Addr) (j:Nat) (u:Value),ao=some a→xs[j]?=some u→a.block<B):SlA w' size ao n cap xs:=by refine ⟨h.1,h.2.1,fun j u f=>?_⟩;obtain ⟨a,ha,q⟩:=h.2.2 j u f;exact ⟨a,ha,by rw [hb.cell (p:=a.add j) (by rw [Zag];exact hB a j u ha f)];exact q⟩
theorem SlA.old {w w':World}{size:Nat}{ao:Option Addr}{n cap:Nat}{xs:List Value} (h:SlA w size ao n cap xs) (hb:Below w.heap.size w w'):SlA w' size ao n cap xs:=by refine h.below hb fun a j u ha v=>?_;obtain ⟨y,f,q⟩:=h.2.2 j u v;rw [ha] at f;obtain rfl:=Option.some.inj f;have:=Zac q;rwa [Zag] at this
theorem SlA.alloc {w:World}{size:Nat}{ao:Option Addr}{n cap:Nat}{xs:List Value} (h:SlA w size ao n cap xs) (o:Obj):SlA (w.alloc o) size ao n cap xs:=
 h.old ((Below.refl _ _).alloc (Nat.le_refl _) _)
theorem SlA.of_ints {k:IntKind}{w:World}{ao:Option Addr}{cap:Nat}{zs:List Int} (h:Sl k w ao zs) (hn:ao=none→cap=0):SlA w 1 ao zs.length cap (zs.map (Value.int k)):=by
 refine ⟨by simp,fun ha=>⟨?_,hn ha⟩,fun j u q=>?_⟩
 ·cases zs with
  | nil=>rfl
  | cons z r=>obtain ⟨a,f,_⟩:=h 0 (by simp);rw [ha] at f;cases f
 ·rw [List.getElem?_map] at q;obtain ⟨z,v,rfl⟩:=Option.map_eq_some_iff.1 q;have A:j<zs.length:=(List.getElem?_eq_some_iff.1 v).1;obtain ⟨a,ha,y⟩:=h j A;refine ⟨a,ha,?_⟩;rw [y,List.getD_eq_getElem?_getD,v];rfl
structure El (P:Program) (t e:TypeId) (size bytes:Nat):Prop where
 und:P.underlying t=some (.slice e)
 info:∃ i z,P.info? e=some i∧i.zero=some z∧i.size=size∧i.bytes=bytes∧z.cells.size=size
 pos:0<size
theorem El.mk' {P:Program}{t e:TypeId}{size bytes:Nat}{z:Value} (ht:P.underlying t=some (.slice e)) (h:(P.info? e).map (fun i=>(i.zero,i.size,i.bytes))=some (some z,size,bytes)) (hz:z.cells.size=size) (hp:0<size):El P t e size bytes:=by obtain ⟨i,j,f,h1,h2⟩:=info_parts h;exact ⟨ht,⟨i,z,j,f,h1,h2,hz⟩,hp⟩
section
variable {w:World}{base:Nat}{e:TypeId}{size:Nat}{ao:Option Addr}{m n cap:Nat}{xs:List Value}(h:w.ownsRow base e size (.slice ao m cap) n xs)
include w base e size ao m n cap xs h
theorem Zah:m=n∧SlA w size ao n cap xs:=by
 obtain ⟨h1,h2⟩:=h;rcases h2 with ⟨h2,rfl⟩|⟨g,c,v,z,_,hg,_,_,_,y⟩
 ·cases h2;exact ⟨rfl,h1,fun _=>⟨rfl,rfl⟩,fun j u f=>by simp at h1;subst h1;simp at f⟩
 ·cases z;refine ⟨rfl,h1,(fun h=>by cases h),fun j u f=>⟨_,rfl,?_⟩⟩;have q:(⟨g,0,none⟩:Addr).add j=⟨g,j,none⟩:=by unfold Addr.add;split<;>simp_all
  rw [q,cell_of_row w g j v e (0,0) hg];rw [←y,List.getElem?_take] at f;split at f
  ·simpa using f
  ·cases f
theorem Zai (hn:0<n):∃ g,ao=some ⟨g,0,none⟩:=by
 rcases h.2 with ⟨_,rfl⟩|⟨g,c,f,j,_⟩
 ·omega
 ·cases j;exact ⟨g,rfl⟩
end
theorem Zaj {P:Program}{w:World}{ops:Array Oper}{G:List Oper}{o:Oper}{a:Act}{Q:Exit→Act→World→Prop} (K:o.guard=none) (s x:Operand) (t:TypeId)
  (ho:o.op=.call { callee:=.builtin .append,args:=#[s,x],argTypes:=#[t,t] })
  (base:Nat) (e:TypeId) (size y:Nat) (C:El P t e size y)
  (v:Value) (n:Nat) (xs:List Value) (V:a.eval s=v) (A:w.ownsRow base e size v n xs)
  (bo:Option Addr) (m c:Nat) (q:List Value) (W:a.eval x=.slice bo m c) (D:SlA w size bo m c q) (h1:∀ u∈q,u.oneCell'=true)
  (B:(n+m)*y≤140737488355328) (M:n+m≤maxLen) (H:base≤w.heap.size)
  (h:∀ J F w',w'.ownsRow base e size (.slice J (n+m) F) (n+m) (xs++q)→w.grownBy w' v.ownBlock→wpList P ops Q G (a.put o.dst (.slice J (n+m) F)) w'):wpList P ops Q (o :: G) a w:=by
 obtain ⟨i,z,U,hz,I,O,T⟩:=C.info;cases bo with
 | none=>
  obtain ⟨rfl,rfl⟩:=D.2.1 rfl;have hn:q=[]:=by have:=D.1;simpa using this
  subst hn;have hv:∃ ao cap,v=.slice ao n cap:=by
   rcases A.2 with ⟨rfl,rfl⟩|⟨g,c,L,rfl,_⟩
   ·exact ⟨_,_,rfl⟩
   ·exact ⟨_,_,rfl⟩
  obtain ⟨ao,cap,rfl⟩:=hv;refine wpList_append_own_none K s x t ho base e i size C.und U _ n xs V A W ?_;exact h ao cap w (by simpa using A) ⟨rfl,rfl,rfl,Nat.le_refl _,fun _ _ _=>rfl⟩
 | some ad=>
  refine wpList_append_own _ K s x t ho base e i z size y C.und U hz I O T C.pos v n xs V A ad m c q W D.1 (fun j u Z=>?_) h1 M B H ?_
  ·obtain ⟨a',N,Y⟩:=D.2.2 j u Z;obtain rfl:=Option.some.inj N;exact Y
  ·intro v' w' f hg _;rcases f.2 with ⟨rfl,R⟩|⟨g,c,L,rfl,hr⟩
   ·have:=h none 0 w';rw [R] at this f;exact this f hg
   ·exact h _ c w' f hg
end
section
open Go.RowKit
class Cells (α:Type) where
 n:Nat
 pos:0<n
 cells:α→List Value
 len:∀ x,(cells x).length=n
 one:∀ x,∀ u∈cells x,u.oneCell'=true
def Zak {α:Type} [Cells α] (l:List α):List Value:=l.flatMap Cells.cells
theorem Zal {α:Type} [Inhabited α] (l:List α) (k:Nat) (h:k<l.length):l.take (k+1)=l.take k++[l.getD k default]:=by rw [List.take_succ_eq_append_getElem h];simp [h]
section
variable {α:Type} [Cells α]
theorem Zam (l:List α):(Zak l).length=l.length*Cells.n α:=by
 induction l with
 | nil=>simp [Zak]
 | cons x r ih=>simp only [Zak,List.flatMap_cons,List.length_append,Cells.len,List.length_cons] at ih ⊢;rw [ih,Nat.succ_mul,Nat.add_comm]
theorem Zan (l m:List α):Zak (l++m)=Zak l++Zak m:=by simp [Zak]
theorem Zao (x:α):Zak [x]=Cells.cells x:=by simp [Zak]
theorem Zap (l:List α) (i:Nat) (f:i<l.length) (j:Nat) (q:j<Cells.n α):(Zak l)[i*Cells.n α+j]?=(Cells.cells l[i])[j]?:=by
 induction l generalizing i with
 | nil=>cases f
 | cons y r ih=>
  cases i with
  | zero=>
   simp only [Zak,List.flatMap_cons,Nat.zero_mul,Nat.zero_add,List.getElem_cons_zero];rw [List.getElem?_append_left (by rw [Cells.len];exact q)]
  | succ i=>
   have h1:=ih i (by simpa using f);simp only [Zak,List.flatMap_cons,List.getElem_cons_succ] at h1 ⊢;rw [List.getElem?_append_right (by rw [Cells.len,Nat.succ_mul];omega),←h1,Cells.len];congr 1;rw [Nat.succ_mul];omega
theorem Zaq (l:List α):∀ u∈Zak l,u.oneCell'=true:=by intro u f;simp only [Zak,List.mem_flatMap] at f;obtain ⟨x,_,j⟩:=f;exact Cells.one x u j
def Zar (w:World) (ao:Option Addr) (cap:Nat) (l:List α):Prop:=SlA w (Cells.n α) ao l.length cap (Zak l)
def at_ (ad:Addr) (i:Nat) (j:Nat):Addr:=if j=0 then ad.add i else ⟨(ad.add i).block,(ad.add i).off+j,none⟩
theorem Zas (a:Addr) (n j:Nat) (f:0<j):a.add (n+j)=⟨(a.add n).block,(a.add n).off+j,none⟩:=by
 unfold Addr.add;rw [if_neg (by omega)];split
 ·subst_vars;simp
 ·simp [Nat.add_assoc]
theorem Zar.some {w:World}{ao:Option Addr}{cap:Nat}{l:List α} (h:Zar w ao cap l) (hl:0<l.length):∃ ad,ao=.some ad:=by
 have hn:=Cells.pos (α:=α);obtain ⟨ad,ha,_⟩:=h.2.2 0 (Zak l)[0]! (by
  have h1:0<(Zak l).length:=by rw [Zam];exact Nat.mul_pos hl hn
  simp [h1])
 exact ⟨ad,ha⟩
theorem Zar.cell {w:World}{ad:Addr}{cap:Nat}{l:List α} (h:Zar w (.some ad) cap l) {i:Nat} (hi:i<l.length) (j:Nat) {v:Value} (hv:(Cells.cells l[i])[j]?=.some v):w.cell? (at_ ad (i*Cells.n α) j)=.some v:=by
 have y:j<Cells.n α:=by have:=(List.getElem?_eq_some_iff.1 hv).1;rwa [Cells.len] at this
 obtain ⟨z,ha,f⟩:=h.2.2 (i*Cells.n α+j) v (by rw [Zap l i hi j y];exact hv);obtain rfl:=Option.some.inj ha;unfold at_;split
 ·rename_i q;subst q;exact f
 ·rw [←Zas _ _ _ (by omega)];exact f
theorem Zar.old {w w':World}{ao:Option Addr}{cap:Nat}{l:List α} (h:Zar w ao cap l) (hb:Below w.heap.size w w'):Zar w' ao cap l:=SlA.old h hb
theorem Zar.nil (w:World):Zar (α:=α) w none 0 []:=⟨by simp [Zak],fun _=>⟨rfl,rfl⟩,fun j u f=>by simp [Zak] at f⟩
theorem Zar.of_own {w:World}{base:Nat}{e:TypeId}{ao:Option Addr}{cap:Nat}{l:List α} (h:w.ownsRow base e (Cells.n α) (.slice ao l.length cap) l.length (Zak l)):Zar w ao cap l:=(Zah h).2
theorem SlA.zero {w:World}{size:Nat}{ao:Option Addr}{n cap:Nat}{xs:List Value} (h:SlA w size ao n cap xs) (hn:n=0):xs=[]:=by have:=h.1;rw [hn] at this;simpa using this
theorem Zar.take {w:World}{ao:Option Addr}{cap:Nat}{l:List α} (h:Zar w ao cap l) (k:Nat) (hk:k≤l.length) (cap':Nat) (hc:ao=none→cap'=0):Zar w ao cap' (l.take k):=by
 have v:(l.take k).length=k:=by simp;omega
 refine ⟨Zam _,fun f=>⟨?_,hc f⟩,fun j u q=>h.2.2 j u ?_⟩
 ·have:=(h.2.1 f).1;omega
 ·have h1:Zak l=Zak (l.take k)++Zak (l.drop k):=by rw [←Zan,List.take_append_drop]
  rw [h1,List.getElem?_append_left (List.getElem?_eq_some_iff.1 q).1];exact q
end
structure Ty where
 k:Int
 c:Int
 deriving DecidableEq
instance:Inhabited Ty:=⟨⟨0,0⟩⟩
instance:Cells Ty:=⟨2,by decide,fun t=>[.int .i64 t.k,.int .i64 t.c],fun _=>rfl,by
 intro x u hu;simp only [List.mem_cons,List.not_mem_nil,or_false] at hu;rcases hu with rfl|rfl<;>rfl⟩
structure In3 where
 op:Int
 a:Int
 b:Int
 deriving DecidableEq
instance:Inhabited In3:=⟨⟨0,0,0⟩⟩
instance:Cells In3:=⟨3,by decide,fun t=>[.int .i64 t.op,.int .i64 t.a,.int .i64 t.b],fun _=>rfl,by
 intro x u hu;simp only [List.mem_cons,List.not_mem_nil,or_false] at hu;rcases hu with rfl|rfl|rfl<;>rfl⟩
instance:Cells Int:=⟨1,by decide,fun t=>[.int .i64 t],fun _=>rfl,by
 intro x u hu;simp only [List.mem_cons,List.not_mem_nil,or_false] at hu;rcases hu with rfl;rfl⟩
theorem Zat (l:List Int):Zak l=l.map (Value.int .i64):=by
 induction l with
 | nil=>rfl
 | cons x r ih=>simp only [Zak,List.flatMap_cons,List.map_cons] at ih ⊢;rw [ih];rfl
structure Cls where
 n:ByteArray
 sup:Int
 f:List Ty
 m:List Int
instance:Inhabited Cls:=⟨⟨⟨#[]⟩,0,[],[]⟩⟩
structure Mth where
 n:ByteArray
 c:Int
 p:List Ty
 l:List Ty
 r:Ty
 k:List In3
instance:Inhabited Mth:=⟨⟨⟨#[]⟩,0,[],[],default,[]⟩⟩
structure Md where
 cl:List Cls
 st:List Ty
 me:List Mth
 sel:Int
structure CHd where
 fo:Option Addr
 fc:Nat
 mo:Option Addr
 mc:Nat
instance:Inhabited CHd:=⟨⟨none,0,none,0⟩⟩
structure MHd where
 po:Option Addr
 pc:Nat
 lo:Option Addr
 lc:Nat
 ko:Option Addr
 kc:Nat
instance:Inhabited MHd:=⟨⟨none,0,none,0,none,0⟩⟩
structure Hd where
 co:Option Addr
 cc:Nat
 so:Option Addr
 sc:Nat
 eo:Option Addr
 ec:Nat
 c:Nat→CHd
 e:Nat→MHd
structure HM where
 h:Hd
 m:Md
instance {h:Hd}{m:Md}:CoeDep HM ⟨h,m⟩ (Array Value):=⟨#[.slice h.co m.cl.length h.cc,.slice h.so m.st.length h.sc,.slice h.eo m.me.length h.ec,.int .i64 m.sel]⟩
structure ZQ where p::
 b:Nat
instance {b:Nat}:CoeDep ZQ ⟨b⟩ Value:=⟨.pointer (some ⟨b,0,none⟩)⟩
structure ZI where i::
 n:In3
instance {i:In3}:CoeDep ZI ⟨i⟩ Value:=⟨.agg #[.int .i64 i.op,.int .i64 i.a,.int .i64 i.b]⟩
instance:Cells (Cls × CHd):=⟨4,by decide,fun x=>[.string x.1.n,.int .i64 x.1.sup,.slice x.2.fo x.1.f.length x.2.fc,.slice x.2.mo x.1.m.length x.2.mc],fun _=>rfl,by
 intro x u hu;simp only [List.mem_cons,List.not_mem_nil,or_false] at hu;rcases hu with rfl|rfl|rfl|rfl<;>rfl⟩
instance:Cells (Mth × MHd):=⟨7,by decide,fun x=>[.string x.1.n,.int .i64 x.1.c,.slice x.2.po x.1.p.length x.2.pc,.slice x.2.lo x.1.l.length x.2.lc,.int .i64 x.1.r.k,.int .i64 x.1.r.c,.slice x.2.ko x.1.k.length x.2.kc],fun _=>rfl,by
 intro x u hu;simp only [List.mem_cons,List.not_mem_nil,or_false] at hu;rcases hu with rfl|rfl|rfl|rfl|rfl|rfl|rfl<;>rfl⟩
def Zau (h:Hd) (m:Md):List (Cls × CHd):=m.cl.mapIdx fun i x=>(x,h.c i)
def Zav (h:Hd) (m:Md):List (Mth × MHd):=m.me.mapIdx fun i x=>(x,h.e i)
theorem Zaw (h:Hd) (m:Md):(Zau h m).length=m.cl.length:=by simp [Zau]
theorem Zax (h:Hd) (m:Md):(Zav h m).length=m.me.length:=by simp [Zav]
structure Zay (w:World) (h:Hd) (m:Md):Prop where
 cl:Zar w h.co h.cc (Zau h m)
 st:Zar w h.so h.sc m.st
 me:Zar w h.eo h.ec (Zav h m)
 f:∀ i,i<m.cl.length→Zar w (h.c i).fo (h.c i).fc (m.cl.getD i default).f
 t:∀ i,i<m.cl.length→Zar w (h.c i).mo (h.c i).mc (m.cl.getD i default).m
 p:∀ i,i<m.me.length→Zar w (h.e i).po (h.e i).pc (m.me.getD i default).p
 l:∀ i,i<m.me.length→Zar w (h.e i).lo (h.e i).lc (m.me.getD i default).l
 k:∀ i,i<m.me.length→Zar w (h.e i).ko (h.e i).kc (m.me.getD i default).k
 bf:∀ i,i<m.cl.length→(m.cl.getD i default).f.length≤(h.c i).fc
 bm:∀ i,i<m.me.length→(m.me.getD i default).p.length≤140737488355328∧(m.me.getD i default).l.length≤140737488355328∧(m.me.getD i default).k.length≤140737488355328
 bz:m.cl.length≤140737488355328∧m.st.length≤140737488355328∧m.me.length≤140737488355328
theorem Zay.old {w w':World}{h:Hd}{m:Md} (H:Zay w h m) (hb:Below w.heap.size w w'):Zay w' h m:=
 ⟨H.cl.old hb,H.st.old hb,H.me.old hb,fun i f=>(H.f i f).old hb,fun i f=>(H.t i f).old hb,fun i f=>(H.p i f).old hb,fun i f=>(H.l i f).old hb,fun i f=>(H.k i f).old hb,H.bf,H.bm,H.bz⟩
theorem Zay.cls {w:World}{h:Hd}{m:Md} (H:Zay w h m) {i:Nat} (hi:i<m.cl.length):∃ ad,h.co=some ad ∧
  w.cell? (ad.add (i*4))=some (.string (m.cl.getD i default).n)∧w.cell? ⟨(ad.add (i*4)).block,(ad.add (i*4)).off+1,none⟩=some (.int .i64 (m.cl.getD i default).sup) ∧
  w.cell? ⟨(ad.add (i*4)).block,(ad.add (i*4)).off+2,none⟩=some (.slice (h.c i).fo (m.cl.getD i default).f.length (h.c i).fc)∧w.cell? ⟨(ad.add (i*4)).block,(ad.add (i*4)).off+3,none⟩=some (.slice (h.c i).mo (m.cl.getD i default).m.length (h.c i).mc):=by
 have j:i<(Zau h m).length:=by rw [Zaw];exact hi
 have q:(Zau h m)[i]=(m.cl.getD i default,h.c i):=by simp [Zau,hi]
 obtain ⟨ad,ha⟩:=H.cl.some (by omega);have f:=H.cl;rw [ha] at f;refine ⟨ad,ha,f.cell j 0 (by rw [q];rfl),f.cell j 1 (by rw [q];rfl),f.cell j 2 (by rw [q];rfl),f.cell j 3 (by rw [q];rfl)⟩
theorem Zay.mth {w:World}{h:Hd}{m:Md} (H:Zay w h m) {i:Nat} (hi:i<m.me.length):∃ ad,h.eo=some ad ∧
  w.cell? (ad.add (i*7))=some (.string (m.me.getD i default).n)∧w.cell? ⟨(ad.add (i*7)).block,(ad.add (i*7)).off+1,none⟩=some (.int .i64 (m.me.getD i default).c) ∧
  w.cell? ⟨(ad.add (i*7)).block,(ad.add (i*7)).off+2,none⟩=some (.slice (h.e i).po (m.me.getD i default).p.length (h.e i).pc)∧w.cell? ⟨(ad.add (i*7)).block,(ad.add (i*7)).off+3,none⟩=some (.slice (h.e i).lo (m.me.getD i default).l.length (h.e i).lc) ∧
  w.cell? ⟨(ad.add (i*7)).block,(ad.add (i*7)).off+4,none⟩=some (.int .i64 (m.me.getD i default).r.k)∧w.cell? ⟨(ad.add (i*7)).block,(ad.add (i*7)).off+5,none⟩=some (.int .i64 (m.me.getD i default).r.c) ∧
  w.cell? ⟨(ad.add (i*7)).block,(ad.add (i*7)).off+6,none⟩=some (.slice (h.e i).ko (m.me.getD i default).k.length (h.e i).kc):=by
 have j:i<(Zav h m).length:=by rw [Zax];exact hi
 have q:(Zav h m)[i]=(m.me.getD i default,h.e i):=by simp [Zav,hi]
 obtain ⟨ad,ha⟩:=H.me.some (by omega);have f:=H.me;rw [ha] at f;refine ⟨ad,ha,f.cell j 0 (by rw [q];rfl),f.cell j 1 (by rw [q];rfl),f.cell j 2 (by rw [q];rfl),f.cell j 3 (by rw [q];rfl),f.cell j 4 (by rw [q];rfl),f.cell j 5 (by rw [q];rfl),f.cell j 6 (by rw [q];rfl)⟩
theorem Zaz {w:World}{ao:Option Addr}{cap:Nat}{l:List Ty} (h:Zar w ao cap l) {i:Nat} (j:i<l.length):∃ f,ao=some f ∧
  w.cell? (f.add (i*2))=some (.int .i64 (l.getD i default).k)∧w.cell? ⟨(f.add (i*2)).block,(f.add (i*2)).off+1,none⟩=some (.int .i64 (l.getD i default).c):=by
 obtain ⟨f,rfl⟩:=h.some (by omega);have q:l.getD i default=l[i]:=by simp [j]
 rw [q];exact ⟨f,rfl,h.cell j 0 rfl,h.cell j 1 rfl⟩
theorem ZaA {w:World}{ao:Option Addr}{cap:Nat}{l:List In3} (h:Zar w ao cap l) {i:Nat} (j:i<l.length):∃ f,ao=some f ∧
  w.cell? (f.add (i*3))=some (.int .i64 (l.getD i default).op)∧w.cell? ⟨(f.add (i*3)).block,(f.add (i*3)).off+1,none⟩=some (.int .i64 (l.getD i default).a)∧w.cell? ⟨(f.add (i*3)).block,(f.add (i*3)).off+2,none⟩=some (.int .i64 (l.getD i default).b):=by
 obtain ⟨f,rfl⟩:=h.some (by omega);have q:l.getD i default=l[i]:=by simp [j]
 rw [q];exact ⟨f,rfl,h.cell j 0 rfl,h.cell j 1 rfl,h.cell j 2 rfl⟩
theorem ZaB {w:World}{ao:Option Addr}{cap:Nat}{l:List Int} (h:Zar w ao cap l) {i:Nat} (j:i<l.length):∃ f,ao=some f∧w.cell? (f.add i)=some (.int .i64 (l.getD i 0)):=by
 obtain ⟨f,rfl⟩:=h.some (by omega);have q:l.getD i 0=l[i]:=by simp [j]
 rw [q];have:=h.cell j 0 (v:=.int .i64 l[i]) rfl;rw [show i*Cells.n Int=i from Nat.mul_one i] at this;exact ⟨f,rfl,this⟩
end
section
def inI (n lo hi:Int):Bool:=decide (lo≤n)&&decide (n≤hi)
theorem ZaC {n k:Nat}{p:Nat→Bool} (hk:k<n) (h:p k=false):(List.range n).all p=false:=by rw [List.all_eq_false];exact ⟨k,List.mem_range.2 hk,by simp [h]⟩
theorem ZaD {n:Nat}{p:Nat→Bool} (h:∀ k,k<n→p k=true):(List.range n).all p=true:=by rw [List.all_eq_true];exact fun k hk=>h k (List.mem_range.1 hk)
theorem ZaE {n:Nat}{p:Nat→Bool}:(List.range n).all p=true↔∀ k,k<n→p k=true:=by rw [List.all_eq_true];exact ⟨fun h k hk=>h k (List.mem_range.2 hk),fun h k hk=>h k (List.mem_range.1 hk)⟩
def ZaF (n:Nat) (t:Ty) (least:Int):Bool:=
 if t.k=2∨t.k=4 then decide (0≤t.c)&&decide (t.c<n) else if t.k=0∨t.k=1∨t.k=3 then decide (least≤t.k)&&decide (t.c=0) else false
def ZaG (n:Nat) (l:List Ty):Bool:=l.all fun t=>ZaF n t 1
def Md.sup (m:Md) (i:Int):Int:=(m.cl.getD i.toNat default).sup
def ZaH (m:Md):Nat→Int→Int→Bool
 | 0,a,b=>decide (a=b)
 | f+1,a,b=>if b<a then ZaH m f (m.sup a) b else decide (a=b)
def Md.ent (m:Md) (k:Int) (s:Nat):Int:=(m.cl.getD k.toNat default).m.getD s 0
def Md.own (m:Md) (n:Int):Int:=(m.me.getD n.toNat default).c
def ZaI (m:Md) (k s:Nat) (n:Int):Bool:=decide (0≤m.own n)&&decide (m.own n≤k)&&ZaH m (k+1) k (m.own n)&&decide (m.ent (m.own n) s=n)
def ZaJ (m:Md) (k s:Nat):Bool:=
 decide (-1≤m.ent k s)&&decide (m.ent k s<m.me.length)&&(decide (m.ent k s<0)||ZaI m k s (m.ent k s))&&!(decide (0≤m.sup k)&&decide (m.ent k s<0)&&decide (0≤m.ent (m.sup k) s))
def ZaK (m:Md) (k:Nat):Bool:=
 decide (-1≤m.sup k)&&decide (m.sup k<k)&&decide ((m.cl.getD k default).f.length≤7)&&ZaG m.cl.length (m.cl.getD k default).f&&decide (((m.cl.getD k default).m.length:Int)=m.sel) &&
 (List.range (m.cl.getD k default).m.length).all (ZaJ m k) &&
 (decide (m.sup k<0)||decide ((m.cl.getD (m.sup k).toNat default).f.length≤(m.cl.getD k default).f.length)&&decide ((m.cl.getD (m.sup k).toNat default).f=(m.cl.getD k default).f.take (m.cl.getD (m.sup k).toNat default).f.length))
def ZaL (n:Int):List Int→List Int
 | []=>[n]
 | x :: r=>if x<n then x :: ZaL n r else if x=n then x :: r else n :: x :: r
def ZaM (l:List Int):List Int:=l.foldl (fun o n=>ZaL n o) []
def ZaN (m:Md) (s:Int):List Int:=ZaM ((m.cl.map fun c=>c.m.getD s.toNat 0).filter fun n=>decide (0≤n))
def ZaO:List Int:=[0,0,9,4,9,48,6,9,15,15,3,9,50,5,24]
def opA:List Nat:=[0,1,2,2,0,0,0,0,0,0,0,0,3,0,4,5,5,6,6,0,0,0,7,7,4,8,9,10,11,0,12,13,14,0,0,0]
def opB:List Nat:=[0,0,0,0,0,0,0,0,0,0,0,0,4,0,0,0,4,0,0,0,0,0,0,0,0,0,0,0,0,0,2,0,0,0,0,0]
def ZaP (r:Nat):Bool:=decide (r=4∨r=6∨r=7∨r=8∨r=9)
def inR (n:Int) (r:Nat) (p:Bool):Bool:=
 if r=1 then inI n (-2147483648) 2147483647 else if r=3 then inI n 2 4 else if r=14 then inI n 1 24 else if p&&ZaP r then inI n 0 59 else inI n 0 (ZaO.getD r 0)
def ZaQ (p:Bool) (i:In3):Bool:=decide (0≤i.op)&&decide (i.op<36)&&inR i.a (opA.getD i.op.toNat 0) p&&inR i.b (opB.getD i.op.toNat 0) p&&!(decide (i.op=12)&&decide (i.a=3)&&decide (i.b≠0))
def ZaR (op:Int):Bool:=inI op 29 33
structure Br where
 op:Int
 e:Bool
def ZaS (s:List Br × Nat) (i:In3):Option (List Br × Nat):=
 if ZaR i.op then some (⟨i.op,false⟩ :: s.1,max s.2 (s.1.length+1))
 else if i.op=34 then match s.1 with
  | []=>none
  | b :: r=>if (b.op=29∨b.op=33)∧b.e=false then some (⟨b.op,true⟩ :: r,s.2) else none
 else if i.op=35 then match s.1 with
  | []=>none
  | b :: r=>if b.op=33∧b.e=false then none else some (r,s.2)
 else some s
def ZaT (s:List Br × Nat):List In3→Option (List Br × Nat)
 | []=>some s
 | i :: l=>match ZaS s i with
  | none=>none
  | some t=>ZaT t l
def ZaU (l:List In3):Bool:=match ZaT ([],0) l with
 | none=>false
 | some (st,d)=>st.isEmpty&&decide (d≤6)
def ZaV (p:Bool) (l:List In3):Int:=if 120<l.length then 2 else if l.all (ZaQ p) then (if ZaU l then 0 else 7) else 1
def ZaW (m:Md) (k:Nat) (i:In3):Bool:=
 if i.op=14∨i.op=24 then decide (0≤i.a)&&decide (i.a<m.cl.length)
 else if i.op=16 then decide (0≤i.b)&&decide (i.b<m.cl.length)
 else if i.op=12 then decide (i.a=3)||(decide (0≤i.b)&&decide (i.b<m.cl.length))
 else if i.op=22∨i.op=23 then decide (i.a<m.st.length)
 else if i.op=25 then decide (i.a<k)&&decide (m.own i.a<0)
 else if i.op=26 then decide (i.a<m.sel)&&(ZaN m i.a).all fun t=>decide (t<k)
 else true
def ZaX (m:Md) (k:Nat):Bool:=
 decide (-1≤(m.me.getD k default).c)&&decide ((m.me.getD k default).c<m.cl.length)&&decide ((m.me.getD k default).p.length≤4)&&ZaG m.cl.length (m.me.getD k default).p &&
 decide (((m.me.getD k default).l.length:Int)≤10-(m.me.getD k default).p.length-(if 0≤(m.me.getD k default).c then 1 else 0))&&ZaG m.cl.length (m.me.getD k default).l&&ZaF m.cl.length (m.me.getD k default).r 0 &&
 decide (ZaV false (m.me.getD k default).k=0)&&(m.me.getD k default).k.all (ZaW m k)
def ZaY (m:Md) (s:Nat):Bool:=(ZaN m s).all fun t=>decide ((m.me.getD t.toNat default).r=(m.me.getD ((ZaN m s).getD 0 0).toNat default).r)&&decide ((m.me.getD t.toNat default).p=(m.me.getD ((ZaN m s).getD 0 0).toNat default).p)
def ZaZ (m:Md):Bool:=decide (m.cl.length≤10)&&decide (m.me.length≤16)&&decide (0≤m.sel)&&decide (m.sel≤16)&&decide (m.st.length≤10)&&ZaG m.cl.length m.st
def Za0 (m:Md):Bool:=(List.range m.me.length).all fun k=>decide (-1≤m.own k)&&decide (m.own k<m.cl.length)
def Za1 (m:Md):Bool:=ZaZ m&&Za0 m&&(List.range m.cl.length).all (ZaK m)&&(List.range m.me.length).all (ZaX m)&&(List.range m.sel.toNat).all (ZaY m)
end
section
theorem Za2 (s:List Br × Nat):∀ (x y:List In3),ZaT s (x++y)=match ZaT s x with
  | none=>none
  | some t=>ZaT t y:=by
 intro x
 induction x generalizing s with
 | nil=>intro y;rfl
 | cons i x ih=>
  intro y;simp only [List.cons_append,ZaT];cases ZaS s i with
  | none=>rfl
  | some t=>exact ih t y
def Run (l:List In3) (a b:Nat) (s t:List Br × Nat):Prop:=a≤b∧b≤l.length∧ZaT s ((l.drop a).take (b-a))=some t
def Za3 (l:List In3) (a:Nat) (s:List Br × Nat):Prop:=∀ t,ZaT s (l.drop a)=some t→t.1≠[]
theorem Za4 {l:List In3}{a b:Nat} (h:a≤b):l.drop a=(l.drop a).take (b-a)++l.drop b:=by
 conv=>lhs;rw [←List.take_append_drop (b-a) (l.drop a)]
 rw [List.drop_drop,show a+(b-a)=b by omega]
section
variable {l:List In3}{a b c:Nat}{s t u:List Br × Nat}
theorem Run.refl (h:a≤l.length) (s:List Br × Nat):Run l a a s s:=⟨Nat.le_refl _,h,by simp [ZaT]⟩
theorem Run.trans (h1:Run l a b s t) (h2:Run l b c t u):Run l a c s u:=by
 refine ⟨Nat.le_trans h1.1 h2.1,h2.2.1,?_⟩;have e:(l.drop a).take (c-a)=(l.drop a).take (b-a)++(l.drop b).take (c-b):=by have:=h1.1;have:=h2.1;rw [show c-a=(b-a)+(c-b) by omega,List.take_add,List.drop_drop,show a+(b-a)=b by omega]
 rw [e,Za2,h1.2.2];exact h2.2.2
theorem Run.step (h:a<l.length) (h1:ZaS s (l.getD a default)=some t):Run l a (a+1) s t:=by refine ⟨by omega,by omega,?_⟩;rw [show a+1-a=1 by omega,List.drop_eq_getElem_cons h];simp only [List.take_succ_cons,List.take_zero,ZaT];rw [show l.getD a default=l[a] by simp [h]] at h1;rw [h1]
theorem Run.dead (h:Run l a b s t) (hd:Za3 l b t):Za3 l a s:=by intro u f;rw [Za4 h.1,Za2,h.2.2] at f;exact hd u f
theorem Za5 (h:a<l.length) (h1:ZaS s (l.getD a default)=none):Za3 l a s:=by intro u f;rw [List.drop_eq_getElem_cons h] at f;simp only [ZaT] at f;rw [show l.getD a default=l[a] by simp [h]] at h1;rw [h1] at f;cases f
theorem Za6 (h:s.1≠[]):Za3 l l.length s:=by intro u f;rw [List.drop_length] at f;cases f;exact h
end
def Za7 (l:List In3) (a b d:Nat):Prop:=∀ S D,S.length≤D→Run l a b (S,D) (S,max D (S.length+d))
def Za8 (l:List In3) (a:Nat):Prop:=∀ S D,S.length≤D→Za3 l a (S,D)
section
variable {l:List In3}{a b n e d i:Nat}
theorem Za9 (h:Za7 l a b d):a≤b∧b≤l.length:=by obtain ⟨h1,h2,_⟩:=h [] 0 (Nat.le_refl _);exact ⟨h1,h2⟩
theorem Zba (h:a≤l.length):Za7 l a a 0:=fun S D f=>by
 rw [show max D (S.length+0)=D by omega];exact Run.refl h _
theorem Zbb (h1:Za7 l a b d) (h2:Za7 l b n e):Za7 l a n (max d e):=fun S D f=>by
 have:=(h1 S D f).trans (h2 S (max D (S.length+d)) (by omega))
 rwa [show max (max D (S.length+d)) (S.length+e)=max D (S.length+max d e) by omega] at this
theorem Zbc {i:In3}{s:List Br × Nat} (h1:ZaR i.op=false) (h2:i.op≠34) (f:i.op≠35):ZaS s i=some s:=by unfold ZaS;rw [h1,if_neg (by decide),if_neg h2,if_neg f]
theorem Zbd (h:Za7 l a b d) (q:b<l.length) (h1:ZaR (l.getD b default).op=false) (h2:(l.getD b default).op≠34) (f:(l.getD b default).op≠35):Za7 l a (b+1) d:=fun S D j=>(h S D j).trans (Run.step q (Zbc h1 h2 f))
theorem Zbe {l:List In3}{a:Nat} (ha:a<l.length) (h1:ZaR (l.getD a default).op=true) (S:List Br) (D:Nat):Run l a (a+1) (S,D) (⟨(l.getD a default).op,false⟩ :: S,max D (S.length+1)):=
 Run.step ha (by unfold ZaS;rw [h1,if_pos rfl])
theorem Zbf {op:Int} (h:op=34∨op=35):ZaR op=false:=by unfold ZaR inI;rcases h with rfl|rfl<;>decide
theorem Zbg {l:List In3}{n:Nat} (hn:n<l.length) (h:(l.getD n default).op=34) (b:Br) (S:List Br) (D:Nat) (f:(b.op=29∨b.op=33)∧b.e=false):Run l n (n+1) (b :: S,D) (⟨b.op,true⟩ :: S,D):=
 Run.step hn (by unfold ZaS;rw [Zbf (.inl h),if_neg (by decide),if_pos h];simp only [if_pos f])
theorem Zbh {l:List In3}{n:Nat} (hn:n<l.length) (h:(l.getD n default).op=34) (b:Br) (S:List Br) (D:Nat) (f:¬ ((b.op=29∨b.op=33)∧b.e=false)):Za3 l n (b :: S,D):=
 Za5 hn (by unfold ZaS;rw [Zbf (.inl h),if_neg (by decide),if_pos h];simp only [if_neg f])
theorem Zbi {l:List In3}{n:Nat} (hn:n<l.length) (h:(l.getD n default).op=35) (b:Br) (S:List Br) (D:Nat) (f:¬ (b.op=33∧b.e=false)):Run l n (n+1) (b :: S,D) (S,D):=
 Run.step hn (by unfold ZaS;rw [Zbf (.inr h),if_neg (by decide),if_neg (by omega),if_pos h];simp only [if_neg f])
theorem Zbj {l:List In3}{n:Nat} (hn:n<l.length) (h:(l.getD n default).op=35) (b:Br) (S:List Br) (D:Nat) (f:b.op=33∧b.e=false):Za3 l n (b :: S,D):=
 Za5 hn (by unfold ZaS;rw [Zbf (.inr h),if_neg (by decide),if_neg (by omega),if_pos h];simp only [if_pos f])
theorem Zbk {l:List In3}{n:Nat} (hn:n<l.length) (h:(l.getD n default).op=34∨(l.getD n default).op=35) (D:Nat):Za3 l n ([],D):=
 Za5 hn (by
  unfold ZaS
  rw [Zbf h,if_neg (by decide)]
  rcases h with h|h
  ·rw [if_pos h]
  ·rw [if_neg (by omega),if_pos h])
section
variable (ha:a<l.length)(h1:ZaR (l.getD a default).op=true)(hg:Za7 l (a+1) n d)
include ha h1 hg
theorem Zbl (S:List Br) (D:Nat) (_hD:S.length≤D):Run l a n (S,D) (⟨(l.getD a default).op,false⟩ :: S,max (max D (S.length+1)) (S.length+1+d)):=
 (Zbe ha h1 S D).trans (hg (⟨(l.getD a default).op,false⟩ :: S) (max D (S.length+1)) (by simp;omega))
theorem Zbm (hn:n<l.length) (f:(l.getD n default).op=34) (q:(l.getD a default).op=29∨(l.getD a default).op=33) (j:Za7 l (n+1) e i) (S:List Br) (D:Nat) (v:S.length≤D):
  Run l a e (S,D) (⟨(l.getD a default).op,true⟩ :: S,max (max (max D (S.length+1)) (S.length+1+d)) (S.length+1+i)):=
 ((Zbl ha h1 hg S D v).trans (Zbg hn f _ S _ ⟨q,rfl⟩)).trans (j _ _ (by simp;omega))
theorem Zbn (hn:n<l.length) (f:(l.getD n default).op=35) (j:(l.getD a default).op≠33):Za7 l a (n+1) (d+1):=fun S D q=>by
 have:=(Zbl ha h1 hg S D q).trans (Zbi hn f _ S _ (fun h=>j h.1))
 rwa [show max (max D (S.length+1)) (S.length+1+d)=max D (S.length+(d+1)) by omega] at this
theorem Zbo (hn:n<l.length) (f:(l.getD n default).op=34) (v:(l.getD a default).op=29∨(l.getD a default).op=33) (q:Za7 l (n+1) e i) (z:e<l.length) (j:(l.getD e default).op=35):Za7 l a (e+1) (max d i+1):=fun S D y=>by
 have:=(Zbm ha h1 hg hn f v q S D y).trans (Zbi z j _ S _ (fun h=>by cases h.2))
 rwa [show max (max (max D (S.length+1)) (S.length+1+d)) (S.length+1+i)=max D (S.length+(max d i+1)) by omega] at this
end
theorem Zbp (h:Za7 l a b d) (h2:Za8 l b):Za8 l a:=fun S D f=>(h S D f).dead (h2 _ _ (by omega))
section
variable (ha:a<l.length)(h1:ZaR (l.getD a default).op=true)
include ha h1
theorem Zbq (h:Za8 l (a+1)):Za8 l a:=fun S D f=>(Zbe ha h1 S D).dead (h _ _ (by simp;omega))
theorem Zbr (hg:Za7 l (a+1) l.length d):Za8 l a:=fun S D f=>(Zbl ha h1 hg S D f).dead (Za6 (by simp))
theorem Zbs (hg:Za7 l (a+1) n d) (hn:n<l.length) (f:(l.getD n default).op=34) (j:¬ ((l.getD a default).op=29∨(l.getD a default).op=33)):Za8 l a:=fun S D q=>(Zbl ha h1 hg S D q).dead (Zbh hn f _ S _ (fun h=>j h.1))
theorem Zbt (hg:Za7 l (a+1) n d) (hn:n<l.length) (f:(l.getD n default).op=34) (j:(l.getD a default).op=29∨(l.getD a default).op=33) (h:Za8 l (n+1)):Za8 l a:=fun S D q=>
 ((Zbl ha h1 hg S D q).trans (Zbg hn f _ S _ ⟨j,rfl⟩)).dead (h _ _ (by simp;omega))
theorem Zbu (hg:Za7 l (a+1) n d) (hn:n<l.length) (f:(l.getD n default).op=34) (q:(l.getD a default).op=29∨(l.getD a default).op=33) (j:Za7 l (n+1) l.length i):Za8 l a:=fun S D v=>(Zbm ha h1 hg hn f q j S D v).dead (Za6 (by simp))
theorem Zbv (hg:Za7 l (a+1) n d) (hn:n<l.length) (j:(l.getD n default).op=34) (v:(l.getD a default).op=29∨(l.getD a default).op=33) (q:Za7 l (n+1) e i) (z:e<l.length) (f:(l.getD e default).op=34):Za8 l a:=fun S D y=>
 (Zbm ha h1 hg hn j v q S D y).dead (Zbh z f _ S _ (fun h=>by cases h.2))
theorem Zbw (hg:Za7 l (a+1) n d) (hn:n<l.length) (f:(l.getD n default).op=35) (j:(l.getD a default).op=33):Za8 l a:=fun S D q=>(Zbl ha h1 hg S D q).dead (Zbj hn f _ S _ ⟨j,rfl⟩)
end
theorem Zbx (h:Za7 l 0 l.length d):ZaU l=decide (d≤6):=by obtain ⟨_,_,f⟩:=h [] 0 (Nat.le_refl _);simp only [List.drop_zero,Nat.sub_zero,List.take_length] at f;unfold ZaU;rw [f];simp
theorem Zby (h:Za3 l 0 ([],0)):ZaU l=false:=by
 unfold ZaU;cases hf:ZaT ([],0) l with
 | none=>rfl
 | some t=>
  have:=h t (by rw [List.drop_zero];exact hf);obtain ⟨f,d⟩:=t;cases f with
  | nil=>exact absurd rfl this
  | cons b r=>rfl
theorem Zbz (h:Za8 l 0):ZaU l=false:=Zby (h [] 0 (Nat.le_refl _))
theorem ZbA (h:Za7 l 0 n d) (hn:n<l.length) (ho:(l.getD n default).op=34∨(l.getD n default).op=35):ZaU l=false:=Zby ((h [] 0 (Nat.le_refl _)).dead (Zbk hn ho _))
end
theorem ZbB {s t:List Br × Nat}{i:In3} (h:ZaS s i=some t):t.1.length≤s.1.length+1∧t.2≤max s.2 (s.1.length+1):=by
 obtain ⟨S,D⟩:=s;unfold ZaS at h;split at h
 ·cases h;exact ⟨by simp,by dsimp only;omega⟩
 ·split at h
  ·cases S with
   | nil=>cases h
   | cons b r=>
    dsimp only at h;split at h
    ·cases h;exact ⟨by simp,by dsimp only;omega⟩
    ·cases h
  ·split at h
   ·cases S with
    | nil=>cases h
    | cons b r=>
     dsimp only at h;split at h
     ·cases h
     ·cases h;exact ⟨by simp only [List.length_cons];omega,by dsimp only;omega⟩
   ·cases h;exact ⟨by omega,by dsimp only;omega⟩
theorem ZbC:∀ (x:List In3) (s t:List Br × Nat),ZaT s x=some t→t.1.length≤s.1.length+x.length∧t.2≤max s.2 (s.1.length+x.length)
 | [],s,t,h=>by cases h;exact ⟨by simp,by omega⟩
 | i :: x,s,t,h=>by
  unfold ZaT at h;split at h
  ·cases h
  ·rename_i u f;have h1:=ZbB f;have h2:=ZbC x u t h;simp only [List.length_cons];omega
theorem ZbD {l:List In3}{a b d:Nat} (h:Za7 l a b d):d≤b-a:=by obtain ⟨h1,h2,f⟩:=h [] 0 (Nat.le_refl _);have:=(ZbC _ _ _ f).2;simp only [List.length_nil,List.length_take,List.length_drop] at this;omega
end
section
def ZbE (l:List In3) (o:Nat):Prop:=ZaR (l.getD o default).op=true
def Mat (l:List In3) (o:Nat) (alt:Int) (en:Nat):Prop:=
  o<l.length∧ZbE l o∧en<l.length∧(l.getD en default).op=35 ∧
  ((alt=-1∧(l.getD o default).op≠33∧∃ d,Za7 l (o+1) en d) ∨
   ∃ n:Nat,alt=n∧n<l.length∧(l.getD n default).op=34∧((l.getD o default).op=29∨(l.getD o default).op=33)∧(∃ d,Za7 l (o+1) n d)∧∃ d,Za7 l (n+1) en d)
section
variable {l:List In3}{a n m d e:Nat}(h1:Za7 l a n d)(hn:n<l.length)(ho:(l.getD n default).op=34∨(l.getD n default).op=35)(h2:Za7 l a m e)
include l a n m d e h1 hn ho h2
theorem ZbF:m≤n:=by
 rcases Nat.lt_or_ge n m with h|h
 ·obtain ⟨z,A,y⟩:=h1 [] 0 (Nat.le_refl _);obtain ⟨B,C,f⟩:=h2 [] 0 (Nat.le_refl _);have q:(l.drop a).take (m-a)=(l.drop a).take (n-a)++(l.drop n).take (m-n):=by rw [show m-a=(n-a)+(m-n) by omega,List.take_add,List.drop_drop,show a+(n-a)=n by omega]
  rw [q,Za2,y] at f;dsimp only at f;rw [List.drop_eq_getElem_cons hn,show m-n=(m-n-1)+1 by omega,List.take_succ_cons] at f;unfold ZaT at f;have v:l[n]=l.getD n default:=by simp [hn]
  rw [v] at f;have j:ZaS ([],max 0 (0+d)) (l.getD n default)=none:=by
   unfold ZaS;rw [Zbf ho,if_neg (by decide)];rcases ho with ho|ho
   ·rw [if_pos ho]
   ·rw [if_neg (by omega),if_pos ho]
  simp only [List.length_nil] at f;rw [j] at f;cases f
 ·exact h
theorem ZbG (j:m<l.length) (f:(l.getD m default).op=34∨(l.getD m default).op=35):n=m:=
 Nat.le_antisymm (ZbF h2 j f h1) (ZbF h1 hn ho h2)
end
theorem ZbH {l:List In3}{o:Nat}{a b:Int}{n m:Nat} (h:Mat l o a n) (g:Mat l o b m):a=b∧n=m:=by
 obtain ⟨N,h1,h2,C,J⟩:=h;obtain ⟨L,M,z,A,F⟩:=g;rcases J with ⟨rfl,D,d,v⟩|⟨x,rfl,D,v,O,⟨d,H⟩,i,K⟩
 ·rcases F with ⟨rfl,q,e,f⟩|⟨y,rfl,q,f,I,⟨e,B⟩,j,G⟩
  ·exact ⟨rfl,ZbG v h2 (.inr C) f z (.inr A)⟩
  ·have:=ZbG v h2 (.inr C) B q (.inl f);subst this;omega
 ·rcases F with ⟨rfl,q,e,f⟩|⟨y,rfl,q,f,I,⟨e,B⟩,j,G⟩
  ·have:=ZbG H D (.inl v) f z (.inr A);subst this;omega
  ·have:=ZbG H D (.inl v) B q (.inl f);subst this;exact ⟨rfl,ZbG K h2 (.inr C) G z (.inr A)⟩
theorem ZbI {l:List In3}{o:Nat}{a:Int}{n:Nat} (h:Mat l o a n):o<n:=by
 obtain ⟨_,_,_,_,f⟩:=h;rcases f with ⟨_,_,d,j⟩|⟨x,_,_,_,_,⟨d,q⟩,i,v⟩
 ·have:=(Za9 j).1;omega
 ·have:=(Za9 q).1;have:=(Za9 v).1;omega
theorem ZbJ {l:List In3}{o:Nat}{a:Int}{n:Nat} (h:Mat l o a n):∃ d,Za7 l o (n+1) d:=by
 obtain ⟨q,h1,h2,v,y⟩:=h;rcases y with ⟨_,f,d,j⟩|⟨x,_,f,j,z,⟨d,A⟩,i,B⟩
 ·exact ⟨_,Zbn q h1 j h2 v f⟩
 ·exact ⟨_,Zbo q h1 A f j z B h2 v⟩
def ZbK (l:List In3) (E:Nat→Int):List Nat→Nat→Prop
 | [],k=>∃ d,Za7 l 0 k d
 | o :: r,k=>o<k∧o<l.length∧ZbE l o∧ZbK l E r o ∧
  ((E o=-1∧∃ d,Za7 l (o+1) k d)∨∃ n:Nat,E o=n∧n<l.length∧(l.getD n default).op=34∧((l.getD o default).op=29∨(l.getD o default).op=33)∧(∃ d,Za7 l (o+1) n d)∧∃ d,Za7 l (n+1) k d)
theorem ZbL {l:List In3}{E E':Nat→Int}:∀ {os:List Nat}{k:Nat},(∀ o,o<k→E' o=E o)→ZbK l E os k→ZbK l E' os k
 | [],_,_,h=>h
 | o :: r,k,he,h=>by obtain ⟨h1,h2,f,j,q⟩:=h;refine ⟨h1,h2,f,ZbL (fun x v=>he x (by omega)) j,?_⟩;rw [he o h1];exact q
theorem ZbM {l:List In3}{E:Nat→Int}:∀ {os:List Nat}{k:Nat},ZbK l E os k→∀ o∈os,o<k
 | [],_,_,_,ho=>by cases ho
 | o :: r,k,h,x,hx=>by
  rcases List.mem_cons.1 hx with rfl|hx
  ·exact h.1
  ·have:=ZbM h.2.2.2.1 x hx;have:=h.1;omega
theorem ZbN {l:List In3}{E:Nat→Int}{os:List Nat}{k:Nat} (h:ZbK l E os k) (hk:k<l.length) (h1:¬ ZbE l k) (h2:(l.getD k default).op≠34) (q:(l.getD k default).op≠35):ZbK l E os (k+1):=by
 have j:ZaR (l.getD k default).op=false:=by simpa [ZbE] using h1
 cases os with
 | nil=>obtain ⟨d,h⟩:=h;exact ⟨d,Zbd h hk j h2 q⟩
 | cons o r=>
  obtain ⟨a,b,c,e,f⟩:=h;refine ⟨by omega,b,c,e,?_⟩;rcases f with ⟨f,d,g⟩|⟨n,v,y,z,A,B,d,g⟩
  ·exact .inl ⟨f,d,Zbd g hk j h2 q⟩
  ·exact .inr ⟨n,v,y,z,A,B,d,Zbd g hk j h2 q⟩
theorem ZbO {l:List In3}{E:Nat→Int}{os:List Nat}{k:Nat} (h:ZbK l E os k) (hk:k<l.length) (h1:ZbE l k) (f:E k=-1):ZbK l E (k :: os) (k+1):=
 ⟨by omega,hk,h1,h,.inl ⟨f,0,Zba (by omega)⟩⟩
theorem ZbP {l:List In3}{E E':Nat→Int}{o:Nat}{r:List Nat}{k:Nat} (h:ZbK l E (o :: r) k) (hk:k<l.length) (h1:(l.getD k default).op=34) (h2:(l.getD o default).op=29∨(l.getD o default).op=33) (y:E o=-1) (q:E' o=k) (j:∀ x,x<k→x≠o→E' x=E x):ZbK l E' (o :: r) (k+1):=by
 obtain ⟨a,b,c,e,f⟩:=h;refine ⟨by omega,b,c,ZbL (fun x z=>j x (by omega) (by omega)) e,.inr ⟨k,q,hk,h1,h2,?_,0,Zba (by omega)⟩⟩;rcases f with ⟨_,g⟩|⟨n,v,_⟩
 ·exact g
 ·omega
section
variable {l:List In3}{E:Nat→Int}{o:Nat}{r:List Nat}{k:Nat}(h:ZbK l E (o :: r) k)(hk:k<l.length)(h1:(l.getD k default).op=35)(h2:(l.getD o default).op=33→0≤E o)
include l E o r k h hk h1 h2
theorem ZbQ:Mat l o (E o) k:=by
 obtain ⟨a,b,c,e,f⟩:=h;refine ⟨b,c,hk,h1,?_⟩;rcases f with ⟨f,g⟩|f
 ·exact .inl ⟨f,fun q=>by have:=h2 q;omega,g⟩
 ·exact .inr f
theorem ZbR:ZbK l E r (k+1):=by
 obtain ⟨d,hg⟩:=ZbJ (ZbQ h hk h1 h2);obtain ⟨a,b,c,e,f⟩:=h;cases r with
 | nil=>obtain ⟨H,e⟩:=e;exact ⟨_,Zbb e hg⟩
 | cons o2 r=>
  obtain ⟨G,q,v,z,j⟩:=e;refine ⟨by omega,q,v,z,?_⟩;rcases j with ⟨j,y,g⟩|⟨n,A,B,C,D,F,y,g⟩
  ·exact .inl ⟨j,_,Zbb g hg⟩
  ·exact .inr ⟨n,A,B,C,D,F,_,Zbb g hg⟩
end
structure Arr (l:List In3) (k:Nat) (os:List Nat) (P E Q:Nat→Int):Prop where
 opn:ZbK l E os k
 cls:∀ o,o<k→ZbE l o→o ∉ os→∃ n:Nat,Q o=n∧n<k∧Mat l o (E o) n
 par:∀ j,j<k→(P j=-1∧∀ o,o<j→ZbE l o→o ∉ os∧Q o<j)∨∃ o:Nat,P j=o∧o<j∧ZbE l o∧(o∈os∨(j:Int)≤Q o)∧∀ x,o<x→x<j→ZbE l x→x ∉ os∧Q x<j
theorem ZbS (l:List In3) (P E Q:Nat→Int):Arr l 0 [] P E Q:=⟨⟨0,Zba (Nat.zero_le _)⟩,fun o h=>by omega,fun j h=>by omega⟩
def ZbT:List Nat→Int
 | []=>-1
 | o :: _=>o
theorem ZbU {l:List In3}{k:Nat}{os f:List Nat}{P E Q P' E' Q':Nat→Int} (h:Arr l k os P E Q) (G:ZbK l E' f (k+1)) (hP:P' k=ZbT os) (hP2:∀ x,x<k→P' x=P x) (C:∀ x,x<k→x∈f→x∈os)
  (H:∀ x,x<k→x ∉ os→Q' x=Q x∧E' x=E x) (B:∀ x,x<k→x∈os→x ∉ f→Q' x=k∧Mat l x (E' x) k) (D:ZbE l k→k∈f):Arr l (k+1) f P' E' Q':=by
 have z:∀ x,x<k→ZbE l x→x ∉ os→Q' x<k:=fun x y ho hn=>by obtain ⟨n,h1,h2,_⟩:=h.cls x y ho hn;rw [(H x y hn).1,h1];omega
 refine ⟨G,fun o ho F hn=>?_,fun j O=>?_⟩
 ·by_cases hok:o=k
  ·subst hok;exact absurd (D F) hn
  ·by_cases hm:o∈os
   ·obtain ⟨J,K⟩:=B o (by omega) hm hn;exact ⟨k,J,by omega,K⟩
   ·obtain ⟨n,h1,h2,q⟩:=h.cls o (by omega) F hm;obtain ⟨J,K⟩:=H o (by omega) hm;exact ⟨n,by rw [J,h1],by omega,by rw [K];exact q⟩
 ·by_cases hjk:j=k
  ·subst hjk;rw [hP];have ho:=h.opn;cases os with
   | nil=>exact .inl ⟨rfl,fun o h1 h2=>⟨fun q=>(by have:=C o h1 q;cases this),z o h1 h2 (by simp)⟩⟩
   | cons o r=>
    refine .inr ⟨o,rfl,ho.1,ho.2.2.1,?_,fun x h1 h2 q=>?_⟩
    ·by_cases hm:o∈f
     ·exact .inl hm
     ·right;rw [(B o ho.1 List.mem_cons_self hm).1];exact Int.le_refl _
    ·have y:x ∉ o :: r:=fun y=>by
      rcases List.mem_cons.1 y with rfl|y
      ·omega
      ·have:=ZbM ho.2.2.2.1 x y;omega
     exact ⟨fun v=>y (C x h2 v),z x h2 q y⟩
  ·rw [hP2 j (by omega)];have A:∀ x,x<j→x ∉ os→Q x<j→x ∉ f∧Q' x<j:=fun x h1 h2 q=>⟨fun v=>h2 (C x (by omega) v),by rw [(H x (by omega) h2).1];exact q⟩;rcases h.par j (by omega) with ⟨h1,h2⟩|⟨o,h1,h2,q,v,L⟩
   ·exact .inl ⟨h1,fun o q v=>A o q (h2 o q v).1 (h2 o q v).2⟩
   ·refine .inr ⟨o,h1,h2,q,?_,fun x M I N=>A x I (L x M I N).1 (L x M I N).2⟩;by_cases hm':o∈f
    ·exact .inl hm'
    ·by_cases hm:o∈os
     ·right;rw [(B o (by omega) hm hm').1];omega
     ·right
      rw [(H o (by omega) hm).1];rcases v with v|v
      ·exact absurd v hm
      ·exact v
section
variable {l:List In3}{k:Nat}{os:List Nat}{P E Q P' E' Q':Nat→Int} (h:Arr l k os P E Q) (hk:k<l.length) (hP:P' k=ZbT os) (hP2:∀ x,x<k→P' x=P x)
include h hk hP hP2
theorem ZbV (f:∀ x,x<k→E' x=E x) (y:∀ x,x<k→Q' x=Q x) (h1:¬ ZbE l k) (h2:(l.getD k default).op≠34) (v:(l.getD k default).op≠35):Arr l (k+1) os P' E' Q':=
 ZbU h (ZbN (ZbL f h.opn) hk h1 h2 v) hP hP2 (fun _ _ q=>q) (fun x j _=>⟨y x j,f x j⟩) (fun _ _ z A=>absurd z A) (fun q=>absurd q h1)
theorem ZbW (j:∀ x,x<k→E' x=E x) (v:∀ x,x<k→Q' x=Q x) (h1:ZbE l k) (y:E' k=-1):Arr l (k+1) (k :: os) P' E' Q':=
 ZbU h (ZbO (ZbL j h.opn) hk h1 y) hP hP2 (fun x f q=>(List.mem_cons.1 q).resolve_left (by omega)) (fun x f _=>⟨v x f,j x f⟩) (fun x _ z A=>absurd (List.mem_cons_of_mem k z) A) (fun _=>List.mem_cons_self)
end
section
variable {l:List In3}{k o:Nat}{r:List Nat}{P E Q P' E' Q':Nat→Int} (h:Arr l k (o :: r) P E Q) (hk:k<l.length) (hP:P' k=o) (hP2:∀ x,x<k→P' x=P x)
include h hk hP hP2
theorem ZbX (f:∀ x,x<k→x≠o→E' x=E x) (y:∀ x,x<k→Q' x=Q x) (h1:(l.getD k default).op=34) (h2:(l.getD o default).op=29∨(l.getD o default).op=33) (v:E o=-1) (z:E' o=k):Arr l (k+1) (o :: r) P' E' Q':=by have ho:=h.opn;refine ZbU h ?_ hP hP2 (fun _ _ q=>q) (fun x j q=>⟨y x j,f x j fun e=>q (e▸List.mem_cons_self)⟩) (fun _ _ A B=>absurd A B) (fun q=>by unfold ZbE at q;rw [Zbf (.inl h1)] at q;cases q);exact ZbP ho hk h1 h2 v z f
theorem ZbY (v:∀ x,x<k→E' x=E x) (A:∀ x,x<k→x≠o→Q' x=Q x) (h1:(l.getD k default).op=35) (h2:(l.getD o default).op=33→0≤E o) (B:Q' o=k):Arr l (k+1) r P' E' Q':=by
 have ho:=ZbL v h.opn;have y:=h.opn.1;have f:(l.getD o default).op=33→0≤E' o:=fun q=>by rw [v o y];exact h2 q
 refine ZbU h (ZbR ho hk h1 f) hP hP2 (fun x j q=>List.mem_cons_of_mem o q) (fun x j q=>⟨A x j fun e=>q (e▸List.mem_cons_self),v x j⟩) (fun x j z C=>?_) (fun q=>by unfold ZbE at q;rw [Zbf (.inr h1)] at q;cases q);rcases List.mem_cons.1 z with rfl|z
 ·exact ⟨B,ZbQ ho hk h1 f⟩
 ·exact absurd z C
end
theorem ZbZ {l:List In3}{P E Q:Nat→Int} (h:Arr l l.length [] P E Q) {o:Nat} (ho:o<l.length) (f:ZbE l o):∃ n:Nat,Q o=n∧Mat l o (E o) n:=by obtain ⟨n,h1,_,j⟩:=h.cls o ho f (by simp);exact ⟨n,h1,j⟩
def gx (L:List Int):Nat→Int:=fun x=>L.getD x 0
theorem Zb0 (L:List Int) (i:Nat) (v:Int) (hi:i<L.length) (x:Nat):gx (L.set i v) x=if i=x then v else gx L x:=by unfold gx;exact k97
theorem Zb1 {L:List Int}{i:Nat}{v:Int} (f:i<L.length):∀ x,x<i→gx (L.set i v) x=gx L x:=fun x j=>by rw [Zb0 L i v f,if_neg (by omega)]
section
variable {l:List In3}{k:Nat}{os:List Nat}{P E Q:List Int}{p:Int}{X:Prop} (h:Arr l k os.reverse (gx P) (gx E) (gx Q)) (hk:k<l.length) (hL:P.length=l.length∧E.length=l.length∧Q.length=l.length∧X) (hp:p=ZbT os.reverse)
include h hk hL hp
theorem Zb2 (h1:¬ ZbE l k) (h2:(l.getD k default).op≠34) (f:(l.getD k default).op≠35):RowKit.Hid (Arr l (k+1) os.reverse (gx (P.set k p)) (gx (E.set k (-1))) (gx (Q.set k (-1)))):=
 ZbV h hk (by rw [Zb0 P k p (by omega),if_pos rfl,hp]) (Zb1 (by omega)) (Zb1 (by omega)) (Zb1 (by omega)) h1 h2 f
theorem Zb3 (h1:ZbE l k):RowKit.Hid (Arr l (k+1) (os++[k]).reverse (gx (P.set k p)) (gx (E.set k (-1))) (gx (Q.set k (-1)))):=by rw [List.reverse_append];exact ZbW h hk (by rw [Zb0 P k p (by omega),if_pos rfl,hp];rfl) (Zb1 (by omega)) (Zb1 (by omega)) (Zb1 (by omega)) h1 (by rw [Zb0 E k _ (by omega),if_pos rfl])
end
section
variable {l:List In3}{k o:Nat}{os:List Nat}{P E Q:List Int}{X:Prop} (h:Arr l k (os++[o]).reverse (gx P) (gx E) (gx Q)) (hk:k<l.length) (hL:P.length=l.length∧E.length=l.length∧Q.length=l.length∧X)
include h hk hL
theorem Zb4 (y:¬ 0≤E.getD o 0) (h1:(l.getD k default).op=34) (h2:(l.getD o default).op=29∨(l.getD o default).op=33):RowKit.Hid (Arr l (k+1) (os++[o]).reverse (gx (P.set k o)) (gx ((E.set k (-1)).set o k)) (gx (Q.set k (-1)))):=by
 rw [List.reverse_append] at h ⊢;have ho:=h.opn;have z:o<k:=ho.1;have v:gx E o=-1:=by
  rcases ho.2.2.2.2 with ⟨q,_⟩|⟨n,q,_⟩
  ·exact q
  ·exact absurd (show 0≤gx E o by omega) y
 have f:∀ a,gx ((E.set k (-1)).set o k) a=if o=a then (k:Int) else gx (E.set k (-1)) a:=Zb0 _ _ _ (by rw [List.length_set];omega);exact ZbX h hk (by rw [Zb0 P k _ (by omega),if_pos rfl]) (Zb1 (by omega)) (fun x A j=>by rw [f,if_neg (fun q=>j q.symm)];exact Zb1 (by omega) x A) (Zb1 (by omega)) h1 h2 v (by rw [f,if_pos rfl])
theorem Zb5 (h2:¬ ((l.getD o default).op=33∧¬ 0≤E.getD o 0)) (h1:(l.getD k default).op=35):RowKit.Hid (Arr l (k+1) os.reverse (gx (P.set k o)) (gx (E.set k (-1))) (gx ((Q.set k (-1)).set o k))):=by
 rw [List.reverse_append] at h;have v:o<k:=h.opn.1;have f:∀ a,gx ((Q.set k (-1)).set o k) a=if o=a then (k:Int) else gx (Q.set k (-1)) a:=Zb0 _ _ _ (by rw [List.length_set];omega);exact ZbY h hk (by rw [Zb0 P k _ (by omega),if_pos rfl]) (Zb1 (by omega)) (Zb1 (by omega)) (fun x y j=>by rw [f,if_neg (fun q=>j q.symm)];exact Zb1 (by omega) x y) h1 (fun q=>by
  by_cases q2:0≤E.getD o 0
  ·exact q2
  ·exact absurd ⟨q,q2⟩ h2) (by rw [f,if_pos rfl])
end
theorem Zb6 (os:List Nat) (o:Nat):(o:Int)=ZbT (os++[o]).reverse:=by rw [List.reverse_append];rfl
end
section
open Go.RowKit
section
variable {P:Program}{ops:Array Oper}{md:Region.Mode}{S:World→Prop}{Q:Exit→Act→World→Prop}
def Zb7 (P:Program) (md:Region.Mode) (ops:Array Oper) (Q:Exit→Act→World→Prop) (S:World→Prop):Nat→Array Bool→Act→World→Prop
 | 0,listed,a,w=>Region.ready md ops listed=[]∧Q .normal a w
 | f+1,listed,a,w=>Region.ready md ops listed≠[]∧∀ i∈Region.ready md ops listed,wpOp P ops Q i (fun a' w'=>S w'∧Zb7 P md ops Q S f (listed.setIfInBounds i true) a' w') a w
theorem Zb8 (f:Nat):∀ (j:Array Bool) (a:Act) (w:World),Zb7 P md ops Q S f j a w→wpAny P md ops Q f j a w:=by
 induction f with
 | zero=>intro j a w h;exact h
 | succ f ih=>
  intro j a w h;exact ⟨fun y=>absurd y h.1,fun i z=>wpOp_mono (fun q A v=>ih _ q A v.2) (h.2 i z)⟩
theorem Zb9 {i:Nat}{K:Oper}{v:Value} (R:ops[i]?=some K) (A:∀ (j:Nat) (o:Oper) cs b,ops[j]?=some o→o.op≠.select cs b)
  (W:∀ c a d v w,Q (.panic c) (Act.put a d v) w→Q (.panic c) a w) (f:Nat) :
  ∀ (q:Array Bool) (a:Act) (w:World),
   (∀ j D,ops[j]?=some D→j≠i→q.getD j true=false→(∀ e∈D.after,Region.binds md e=true→e.on≠i)→K.apart ops D=true) →
   i∈Region.ready md ops q→YieldsIf P ops S K v a→S w →
   Zb7 P md ops Q S f (q.setIfInBounds i true) (a.put K.dst v) w→Zb7 P md ops Q S (f+1) q a w:=by
 induction f with
 | zero=>
  intro q a w _ C N F H;refine ⟨fun h=>(by rw [h] at C;cases C),fun j M=>?_⟩;by_cases hji:j=i
  ·subst hji;exact N.wpOp R F ⟨F,H⟩
  ·have:=ready_mono M hji;rw [H.1] at this;cases this
 | succ f ih=>
  intro q a w y C N F H;refine ⟨fun h=>(by rw [h] at C;cases C),fun j M=>?_⟩;by_cases hji:j=i
  ·subst hji;exact N.wpOp R F ⟨F,H⟩
  have h1:=H.2 j (ready_mono M hji);obtain ⟨z,D,B,G⟩:=mem_ready.1 M;have I:∀ e∈D.after,Region.binds md e=true→e.on≠i:=by intro e Z Y O;have h2:=G e Z Y;rw [O,getD_both (mem_ready.1 C).1] at h2;cases h2
  have h2:=wpOp_putIf B (y j D B hji z I) (fun cs b=>A i K cs b R) (fun cs b=>A j D cs b B) (fun c a w=>W c _ _ _ w) N h1;refine wpOp_mono (fun V w' L=>⟨L.2.1,ih (q.setIfInBounds j true) V w' ?_ (ready_mono C (Ne.symm hji)) L.1 L.2.1 ?_⟩) h2
  ·intro k ok hk T J U;refine y k ok hk T ?_ U;by_cases hjk:j=k
   ·subst hjk;exact z
   ·rw [getD_set_ne true hjk] at J;exact J
  ·rw [Array.setIfInBounds_comm _ _ hji];exact L.2.2
end
end
section
open Go.RowKit
section
variable {P:Program}{ops:Array Oper}{md:Region.Mode}{S:World→Prop}{Q:Exit→Act→World→Prop}
def Zca (P:Program) (ops:Array Oper) (Q:Exit→Act→World→Prop) (S:World→Prop):List (Bool × Nat)→Act→World→Prop
 | [],a,w=>Q .normal a w
 | (false,i) :: t,a,w=>∃ o v,ops[i]?=some o∧YieldsIf P ops S o v a∧Zca P ops Q S t (a.put o.dst v) w
 | (true,i) :: t,a,w=>wpOp P ops Q i (fun a' w'=>S w'∧Zca P ops Q S t a' w') a w
def Zcb (md:Region.Mode) (ops:Array Oper):List (Bool × Nat)→Array Bool→Bool
 | [],listed=>decide (Region.ready md ops listed=[])
 | (false,k) :: t,listed=>(Region.ready md ops listed).contains k&&Region.free md ops listed k&&Zcb md ops t (listed.setIfInBounds k true)
 | (true,k) :: t,listed=>decide (Region.ready md ops listed=[k])&&Zcb md ops t (listed.setIfInBounds k true)
theorem Zcc (z:∀ c a d v w,Q (.panic c) (Act.put a d v) w→Q (.panic c) a w) (j:Region.noSelect ops=true) :
  ∀ (t:List (Bool × Nat)) (f:Array Bool) (a:Act) (w:World),S w→Zcb md ops t f=true→Zca P ops Q S t a w→Zb7 P md ops Q S t.length f a w
 | [],f,a,w,_,hB,h=>⟨by simpa [Zcb] using hB,h⟩
 | (false,k) :: t,f,a,w,hS,hB,h=>by
  simp only [Zcb,Bool.and_eq_true] at hB;obtain ⟨⟨F,D⟩,y⟩:=hB;obtain ⟨o,v,A,G,C⟩:=h;exact Zb9 A (Region.noSelect_spec j) z t.length f a w (Region.free_spec A D) (by simpa using F) G hS (Zcc z j t _ _ _ hS y C)
 | (true,k) :: t,f,a,w,hS,hB,h=>by
  simp only [Zcb,Bool.and_eq_true,decide_eq_true_eq] at hB;refine ⟨by rw [hB.1];simp,fun i B=>?_⟩;rw [hB.1] at B;obtain rfl:i=k:=by simpa using B
  exact wpOp_mono (fun H I q=>⟨q.1,Zcc z j t _ _ _ q.1 hB.2 q.2⟩) h
def Zcd (md:Region.Mode) (ops:Array Oper) (t:List (Bool × Nat)):Bool:=Region.noSelect ops&&decide (t.length=ops.size)&&Zcb md ops t (Array.replicate ops.size false)
theorem Zce {id:Nat}{a:Act}{w:World}{l:List Oper} (S:World→Prop) (t:List (Bool × Nat)) (A:P.follows .mixedOrders=true) (q:Zcd .any l.toArray t=true) (y:∀ c a d v w,Q (.panic c) (Act.put a d v) w→Q (.panic c) a w) (z:S w.drew)
  (h:Zca P l.toArray Q S t a w.drew):(Code.region id l.toArray true).wp P Q a w:=by
 simp only [Zcd,Bool.and_eq_true,decide_eq_true_eq] at q;obtain ⟨⟨j,B⟩,f⟩:=q;refine wp_region_any A ?_;have:=Zcc (P:=P) (Q:=Q) (S:=S) (md:=.any) y j t _ a w.drew z f h;rw [B] at this;exact Zb8 _ _ _ _ this
def Zcf (P:Program) (ops:Array Oper) (Q:Exit→Act→World→Prop) (S:World→Prop):List (Bool × Nat × Oper)→Act→World→Prop
 | [],a,w=>Q .normal a w
 | (false,_,o) :: t,a,w=>∃ v,YieldsIf P ops S o v a∧Zcf P ops Q S t (a.put o.dst v) w
 | (true,i,_) :: t,a,w=>wpOp P ops Q i (fun a' w'=>S w'∧Zcf P ops Q S t a' w') a w
def Zcg (l : List Oper) (i : Nat) : Oper := l.getD i { dst := none, op := Op.move (Operand.const undef), type := 0, pos := "", after := #[], guard := none }
theorem Zch {l:List Oper}:∀ (t:List (Bool × Nat)) (a:Act) (w:World),(∀ p∈t,p.2<l.length)→Zcf P l.toArray Q S (t.map fun p=>(p.1,p.2,Zcg l p.2)) a w→Zca P l.toArray Q S t a w
 | [],_,_,_,h=>h
 | (false,i) :: t,a,w,hl,h=>by
  obtain ⟨v,h1,h2⟩:=h;have j:i<l.length:=hl (false,i) (by simp);exact ⟨Zcg l i,v,by simp [Zcg,j],h1,Zch t _ _ (fun p hp=>hl p (by simp [hp])) h2⟩
 | (true,i) :: t,a,w,hl,h=>wpOp_mono (fun q y f=>⟨f.1,Zch t _ _ (fun p hp=>hl p (by simp [hp])) f.2⟩) h
theorem Zci {id:Nat}{a:Act}{w:World}{l:List Oper} (S:World→Prop) (t:List (Bool × Nat)) (y:P.follows .mixedOrders=true) (f:(Zcd .any l.toArray t&&t.all fun p=>decide (p.2<l.length))=true) (j:∀ c a d v w,Q (.panic c) (Act.put a d v) w→Q (.panic c) a w) (q:S w.drew)
  (h:Zcf P l.toArray Q S (t.map fun p=>(p.1,p.2,Zcg l p.2)) a w.drew):(Code.region id l.toArray true).wp P Q a w:=by
 rw [Bool.and_eq_true] at f;exact Zce S t y f.1 j q (Zch t _ _ (fun p hp=>by simpa using List.all_eq_true.1 f.2 p hp) h)
theorem Zcj {t:List (Bool × Nat × Oper)}{k:Nat}{o:Oper}{a:Act}{w:World} (h:∃ v,YieldsIf P ops S o v a∧Zcf P ops Q S t (a.put o.dst v) w):Zcf P ops Q S ((false,k,o) :: t) a w:=h
theorem Zck {t:List (Bool × Nat × Oper)}{k:Nat}{o:Oper}{a:Act}{w:World} (ho:ops[k]?=some o) (j:Region.wanted o (yielded ops a.tmps)=true)
  (h:∀ f:Act→World→Prop,(∀ a w,S w→Zcf P ops Q S t a w→f a w)→o.wp P a w f Q):Zcf P ops Q S ((true,k,o) :: t) a w:=by
 show wpOp P ops Q k _ a w;unfold wpOp;simp only [ho,j,if_true];exact .inl (h _ fun _ _ h1 h2=>⟨h1,h2⟩)
theorem Zcl {a:Act}{w:World} (h:Q .normal a w):Zcf P ops Q S [] a w:=h
end
end
section
open Go.RowKit
def Blk (w:World) (b:Nat) (xs:Array Value) (t:TypeId):Prop:=w.heap[b]?=some (.cells xs t (0,0))
section
variable {w:World}{b:Nat}{xs:Array Value}{t:TypeId}(h:Blk w b xs t)
include w b xs t h
theorem Blk.lt:b<w.heap.size:=by
 rcases Nat.lt_or_ge b w.heap.size with h'|h'
 ·exact h'
 ·simp [Blk,Array.getElem?_eq_none h'] at h
theorem Blk.cell (i:Nat) {v:Value} (hv:xs[i]?=some v):w.cell? ⟨b,i,none⟩=some v:=by rw [cell_of_row w b i xs t (0,0) h];exact hv
theorem Blk.frozen (i:Nat):w.frozen? ⟨b,i,none⟩=false:=frozen_of_row w b i xs t h
theorem Blk.set (i:Nat) (v:Value):Blk (w.setCell ⟨b,i,none⟩ v) b (xs.setIfInBounds i v) t:=heap_setCell_same w b i xs t v h
theorem Blk.other {a:Addr} (ha:b≠a.block) (v:Value):Blk (w.setCell a v) b xs t:=by unfold Blk;rw [heap_setCell_other w a b v ha];exact h
theorem Blk.alloc (o:Obj):Blk (w.alloc o) b xs t:=by unfold Blk;rw [Below.heap_alloc w o b h.lt];exact h
end
theorem Blk.new (w:World) (xs:Array Value) (t:TypeId):Blk (w.alloc (.cells xs t)) w.heap.size xs t:=heap_alloc_new w _
theorem Blk.new' {w:World}{b:Nat} (xs:Array Value) (t:TypeId) (hb:b=w.heap.size):Blk (w.alloc (.cells xs t)) b xs t:=by subst hb;exact heap_alloc_new w _
theorem Blk.drew {w:World}{b:Nat}{xs:Array Value}{t:TypeId} (h:Blk w b xs t):Blk w.drew b xs t:=h
theorem Blk.drewN {w:World}{b:Nat}{xs:Array Value}{t:TypeId} (h:Blk w b xs t) (n:Nat):Blk (w.drewN n) b xs t:=h
theorem Blk.below {w w':World}{b B:Nat}{xs:Array Value}{t:TypeId} (h:Blk w b xs t) (hb:Below B w w') (hB:b<B):Blk w' b xs t:=by unfold Blk;rw [hb.block b hB];exact h
theorem Blk.old {w w':World}{b:Nat}{xs:Array Value}{t:TypeId} (h:Blk w b xs t) (hb:Below w.heap.size w w'):Blk w' b xs t:=h.below hb h.lt
theorem Zcm (w:World) (a:Addr) (v:Value):(w.setCell a v).heap.size=w.heap.size:=by simp [World.setCell]
end
section
open Go.RowKit
theorem Zcn (v:Value) (n:Nat):madeCells #[v] n=((List.replicate n v)).toArray:=by
 apply Array.ext
 ·simp [madeCells]
 ·intro i h1 h2;simp [madeCells,Nat.mod_one]
theorem Zco {w:World}{base:Nat}{e:TypeId}{size:Nat}{v:Value}{n:Nat}{xs:List Value} (h:w.ownsRow base e size v n xs):w.drew.ownsRow base e size v n xs:=h
theorem Zcp {P:Program}{ops:Array Oper}{o:Oper}{f:List Oper}{a:Act}{w:World}{Q:Exit→Act→World→Prop} (j:Region.wanted o (yielded ops a.tmps)=true) (h:∀ K:Act→World→Prop,(∀ a w,wpList P ops Q f a w→K a w)→o.wp P a w K Q):wpList P ops Q (o :: f) a w:=by unfold wpList;rw [if_pos j];exact .inl (h _ fun _ _ h=>h)
theorem Zcq:El Tryz.prog 34 3 1 8:=El.mk' (z:=.int .i64 0) Tryz.underlying34 (by kernel_rfl) (by kernel_rfl) (by decide)
theorem Zcr (w:World) (xs:Array Value) (t:TypeId) {n size:Nat} (h:xs.size=n*size):SlA (w.alloc (.cells xs t)) size (some ⟨w.heap.size,0,none⟩) n n xs.toList:=by
 refine ⟨by simpa using h,(fun h=>by cases h),fun j u q=>⟨_,rfl,?_⟩⟩;have f:(⟨w.heap.size,0,none⟩:Addr).add j=⟨w.heap.size,j,none⟩:=by unfold Addr.add;split<;>simp_all
 rw [f];exact (Blk.new w xs t).cell j (by simpa using q)
theorem Zcs {w:World}{base:Nat}{e:TypeId}{size:Nat}{v:Value}{n:Nat}{xs:List Value} (h:w.ownsRow base e size v n xs) {b:Nat} (f:b<base):some b≠v.ownBlock:=by intro h2;have:=(h.lt b h2.symm).1;omega
theorem Blk.grownV {w w':World}{b:Nat}{xs:Array Value}{t:TypeId}{row:Option Nat} (h:Blk w b xs t) (hg:w.grownBy w' row) (hne:some b≠row):Blk w' b xs t:=by have h1:=hg.block b h.lt hne;exact h1.trans h
def Zct (l:List In3) (E:List Int) (os:List Nat):List Br:=os.reverse.map fun o=>⟨(l.getD o default).op,decide (0≤E.getD o 0)⟩
theorem Zcu (l:List In3) (E:List Int) (os:List Nat) (o:Nat):Zct l E (os++[o])=⟨(l.getD o default).op,decide (0≤E.getD o 0)⟩ :: Zct l E os:=by simp [Zct]
theorem Zcv {l:List In3}{E E':List Int}{os:List Nat} (h:∀ o∈os,E'.getD o 0=E.getD o 0):Zct l E' os=Zct l E os:=by unfold Zct;refine List.map_congr_left fun o ho=>?_;rw [h o (List.mem_reverse.1 ho)]
theorem Zcw (l:List In3) (E:List Int) (os:List Nat):(Zct l E os).length=os.length:=by simp [Zct]
section
variable {w:World}{base:Nat}{e:TypeId}{size g cap n:Nat}{xs:List Value}(h:w.ownsRow base e size (.slice (some ⟨g,0,none⟩) n cap) n xs)
include w base e size g cap n xs h
theorem Zcx:g<w.heap.size:=by
 obtain ⟨h1,h2⟩:=h;rcases h2 with ⟨q,_⟩|⟨z,j,f,y,hg,v,_⟩
 ·cases q
 ·cases y;exact (show Blk w g f e from v).lt
theorem Zcy:n≤cap:=by
 obtain ⟨h1,h2⟩:=h;rcases h2 with ⟨q,_⟩|⟨y,f,j,v,hg,z,hn,_⟩
 ·cases q
 ·cases v;exact hn
end
theorem Zcz {w:World}{base:Nat}{e:TypeId}{g cap n:Nat}{xs:List Value} (h:w.ownsRow base e 1 (.slice (some ⟨g,0,none⟩) n cap) n xs) (hn:xs.length=n) (j:Nat) {v:Value} (y:xs[j]?=some v):w.cell? ⟨g,j,none⟩=some v:=by
 obtain ⟨z,ha,q⟩:=(Zah h).2.2.2 j v y;obtain rfl:=Option.some.inj ha;have f:(⟨g,0,none⟩:Addr).add j=⟨g,j,none⟩:=by unfold Addr.add;split<;>simp_all
 rwa [f] at q
theorem ZcA {l:List In3}{E f:List Int}{os:List Nat}{k q:Nat} (hk:k<l.length) (j:ZaR (l.getD k default).op=true) (h1:f.getD k 0=-1) (h2:∀ o∈os,f.getD o 0=E.getD o 0) (h:Run l 0 k ([],0) (Zct l E os,q)):Run l 0 (k+1) ([],0) (Zct l f (os++[k]),max q (os.length+1)):=by refine h.trans (Run.step hk ?_);unfold ZaS;rw [j,if_pos rfl,Zcu,h1,Zcv h2,Zcw];rfl
theorem ZcB {l:List In3}{E f:List Int}{os:List Nat}{o k v:Nat} (hk:k<l.length) (j:(l.getD k default).op=34) (q:(l.getD o default).op=29∨(l.getD o default).op=33) (y:¬ 0≤E.getD o 0) (h1:0≤f.getD o 0) (h2:∀ a∈os,f.getD a 0=E.getD a 0) (h:Run l 0 k ([],0) (Zct l E (os++[o]),v)):Run l 0 (k+1) ([],0) (Zct l f (os++[o]),v):=by rw [Zcu,decide_eq_false y] at h;rw [Zcu,decide_eq_true h1,Zcv h2];exact h.trans (Zbg hk j _ _ _ ⟨q,rfl⟩)
theorem ZcC {l:List In3}{E q:List Int}{os:List Nat}{o k v:Nat} (hk:k<l.length) (f:(l.getD k default).op=35) (j:¬ ((l.getD o default).op=33∧¬ 0≤E.getD o 0)) (h2:∀ a∈os,q.getD a 0=E.getD a 0) (h:Run l 0 k ([],0) (Zct l E (os++[o]),v)):Run l 0 (k+1) ([],0) (Zct l q os,v):=by rw [Zcu] at h;rw [Zcv h2];exact h.trans (Zbi hk f _ _ _ (fun y=>j ⟨y.1,by simpa using y.2⟩))
theorem ZcD {l:List In3}{E v:List Int}{os:List Nat}{k y:Nat} (hk:k<l.length) (q:ZaR (l.getD k default).op=false) (f:(l.getD k default).op≠34) (j:(l.getD k default).op≠35) (h2:∀ o∈os,v.getD o 0=E.getD o 0) (h:Run l 0 k ([],0) (Zct l E os,y)):Run l 0 (k+1) ([],0) (Zct l v os,y):=by rw [Zcv h2];exact h.trans (Run.step hk (Zbc q f j))
theorem ZcE (l:List Int) (i j:Nat) (v:Int) (hi:i<l.length):(l.set i v).getD j 0=if i=j then v else l.getD j 0:=by exact k97
theorem ZcF {l:List In3}{t:List Br × Nat} (h:Run l 0 l.length ([],0) t):ZaU l=(t.1.isEmpty&&decide (t.2≤6)):=by obtain ⟨_,_,f⟩:=h;simp only [List.drop_zero,Nat.sub_zero,List.take_length] at f;unfold ZaU;rw [f]
theorem ZcG {w:World}{base:Nat}{e:TypeId}{ao:Option Addr}{m cap:Nat}{xs:List Value}{x:Value} (h:w.ownsRow base e 1 (.slice ao (m+1) cap) (m+1) (xs++[x])) (B:xs.length=m):w.ownsRow base e 1 (.slice ao m cap) m xs:=by
 obtain ⟨h1,h2⟩:=h;rcases h2 with ⟨_,D⟩|⟨g,y,j,C,hg,A,hn,q,v,f⟩
 ·omega
 ·cases C;refine ⟨by simpa using B,.inr ⟨g,cap,j,rfl,hg,A,by omega,q,v,?_⟩⟩;have z:(j.toList.take ((m+1)*1)).take (m*1)=(xs++[x]).take (m*1):=by rw [f]
  rw [List.take_take,Nat.min_eq_left (by omega)] at z;rw [z,List.take_append_of_le_length (by omega),List.take_of_length_le (by omega)]
theorem ZcH {w:World}{g D B:Nat}{xs:Array Value}{t:TypeId} (h:Blk w g xs t) (C:g≠D) (f:g≠B) {u j q v y z A:Value}:Blk (((((((w.setCell ⟨D,5,none⟩ u).setCell ⟨B,0,none⟩ j).setCell ⟨B,1,none⟩ q).setCell ⟨B,2,none⟩ v).setCell ⟨B,3,none⟩ y).setCell ⟨B,4,none⟩ z).setCell ⟨B,5,none⟩ A) g xs t:=
 ((((((h.other (a:=⟨D,5,none⟩) C u).other (a:=⟨B,0,none⟩) f j).other (a:=⟨B,1,none⟩) f q).other (a:=⟨B,2,none⟩) f v).other (a:=⟨B,3,none⟩) f y).other (a:=⟨B,4,none⟩) f z).other (a:=⟨B,5,none⟩) f A
def ZcI (l:List In3) (w:World) (v0 v1 v2 v3:Value):Prop:=∃ (g0 g1 g2 g3:Nat) (P E Q R:List Int),v0=.slice (some ⟨g0,0,none⟩) l.length l.length∧v1=.slice (some ⟨g1,0,none⟩) l.length l.length∧v2=.slice (some ⟨g2,0,none⟩) l.length l.length∧v3=.slice (some ⟨g3,0,none⟩) l.length l.length ∧
 (P.length=l.length∧E.length=l.length∧Q.length=l.length∧R.length=l.length)∧Blk w g0 (P.map (Value.int .i64)).toArray 3∧Blk w g1 (E.map (Value.int .i64)).toArray 3∧Blk w g2 (Q.map (Value.int .i64)).toArray 3∧Blk w g3 (R.map (Value.int .i64)).toArray 3∧Arr l l.length [] (gx P) (gx E) (gx Q)
def ZcJ (l:List In3) (W:World):Ending→World→Prop:=fun e w'=>(∃ v0 v1 v2 v3:Value,∃ n:Int,e=.returned (.agg #[v0,v1,v2,v3,.int .i64 n,.bool (ZaU l)])∧(ZaU l=true→ZcI l w' v0 v1 v2 v3))∧Below W.heap.size W w'
theorem ZcK {l:List In3}{W w':World}{j v y z:Value}{n:Int} (h:ZaU l=false) (f:Below W.heap.size W w'):ZcJ l W (.returned (.agg #[j,v,y,z,.int .i64 n,.bool false])) w':=⟨⟨_,_,_,_,_,by rw [h],fun q=>by rw [h] at q;cases q⟩,f⟩
theorem ZcL {l:List In3}{W w':World}{f j q v:Value}{n:Int} (h:ZaU l=true) (ha:ZcI l w' f j q v) (y:Below W.heap.size W w'):ZcJ l W (.returned (.agg #[f,j,q,v,.int .i64 n,.bool true])) w':=⟨⟨_,_,_,_,_,by rw [h],fun _=>ha⟩,y⟩
end
section
open Go.RowKit
theorem ZcM (k:Int) (f:0≤k) (hk:k<15) (w:World):Sem.run Tryz.prog (Instr.index 335 (.agg #[.int .i64 0,.int .i64 0,.int .i64 9,.int .i64 4,.int .i64 9,.int .i64 48,.int .i64 6,.int .i64 9,.int .i64 15,.int .i64 15,.int .i64 3,.int .i64 9,.int .i64 50,.int .i64 5,.int .i64 24]) (.int .i64 k)) w=.ok (.int .i64 (ZaO.getD k.toNat 0)) w:=by
 rcases (show k=0∨k=1∨k=2∨k=3∨k=4∨k=5∨k=6∨k=7∨k=8∨k=9∨k=10∨k=11∨k=12∨k=13∨k=14 by omega) with rfl|rfl|rfl|rfl|rfl|rfl|rfl|rfl|rfl|rfl|rfl|rfl|rfl|rfl|rfl
 all_goals kernel_rfl
theorem ZcN (k:Int) (f:0≤k) (hk:k<15) (w:World) :
  Calls Tryz.prog 365 #[.int .i64 k] w fun e w'=>e=.returned (.int .i64 (ZaO.getD k.toNat 0))∧w=w':=by
 have j:=ZcM k f hk;generalize ZaO.getD k.toNat 0=q at j ⊢;go_enter Tryz.func365,Tryz.ntmps365;go_wp2;go_ret;exact ⟨rfl,rfl⟩
theorem ZcO (k:Int) (w:World) :
  Calls Tryz.prog 366 #[.int .i64 k] w fun e w'=>e=.returned (.bool (decide (k=4∨k=6∨k=7∨k=8∨k=9)))∧w=w':=by
 have f:=Zh (rfl:w=w);go_enter Tryz.func366,Tryz.ntmps366;go_wp2
 all_goals
  go_ret;refine ⟨Zaa ?_,rfl⟩;grind
theorem ZcP (op:Int) (w:World) :
  Calls Tryz.prog 162 #[.int .i64 op] w fun e w'=>e=.returned (.bool (ZaR op))∧w=w':=by
 go_enter Tryz.func162,Tryz.ntmps162;go_wp2
 all_goals
  go_ret;refine ⟨Zaa ?_,rfl⟩;rw [Bool.eq_iff_iff];simp [ZaR,inI];omega
theorem ZcQ {n r:Int}{p:Bool} (f:0≤r):inR n r.toNat p=if r=1 then inI n (-2147483648) 2147483647 else if r=3 then inI n 2 4 else if r=14 then inI n 1 24 else if p=true∧(r=4∨r=6∨r=7∨r=8∨r=9) then inI n 0 59 else inI n 0 (ZaO.getD r.toNat 0):=by
 unfold inR;by_cases h1:r=1
 ·rw [if_pos h1,if_pos (by omega)]
 rw [if_neg h1,if_neg (by omega)];by_cases h3:r=3
 ·rw [if_pos h3,if_pos (by omega)]
 rw [if_neg h3,if_neg (by omega)];by_cases h14:r=14
 ·rw [if_pos h14,if_pos (by omega)]
 rw [if_neg h14,if_neg (by omega)];have e:ZaP r.toNat=decide (r=4∨r=6∨r=7∨r=8∨r=9):=by unfold ZaP;rw [decide_eq_decide];omega
 rw [e];cases p with
 | false=>simp
 | true=>simp
theorem ZcR:ZaO[14]?.getD 0=24:=rfl
theorem ZcS (n r:Int) (p:Bool) (j:0≤r) (v:r<15) (w:World) :
  Calls Tryz.prog 353 #[.int .i64 n,.int .i64 r,.bool p] w fun e w'=>e=.returned (.bool (inR n r.toNat p))∧w=w':=by
 generalize hq:inR n r.toNat p=q;have f:=Zh hq;clear hq;go_enter Tryz.func353,Tryz.ntmps353
 go_wp2_with (first
  | (go_at_call 366;refine (ZcO _ _).mono ?_;rintro e w' ⟨rfl,rfl⟩)
  | (go_at_call 365;refine (ZcN _ (by omega) (by omega) _).mono ?_;rintro e w' ⟨rfl,rfl⟩))
 all_goals
  go_ret;refine ⟨Zaa ?_,rfl⟩;rw [←f.out,ZcQ j];have:=ZcR;grind [inI]
end
section
open Go.RowKit
def Ret (W:World) (v:Value):Ending→World→Prop:=fun e w'=>e=.returned v∧Below W.heap.size W w'
theorem ZcT {W w':World}{v u:Value} (h:u=v) (f:Below W.heap.size W w'):Ret W v (.returned u) w':=⟨by rw [h],f⟩
theorem bal {W w:World} (h:Below W.heap.size W w) (o:Obj):Below W.heap.size W (w.alloc o):=h.alloc h.size o
theorem ZcU {W w:World} (h:Below W.heap.size W w) (n:Nat):Below W.heap.size W (w.drewN n):=⟨h.os,h.tape,h.output,h.size,h.block⟩
theorem ZcV {W w w':World}{row:Option Nat} (h:Below W.heap.size W w) (hg:w.grownBy w' row) (f:∀ k,row=some k→W.heap.size≤k):Below W.heap.size W w':=h.grown hg h.size f
theorem ZcW {W w:World} (h:Below W.heap.size W w) {b j:Nat} (f:W.heap.size≤b) (v:Value):Below W.heap.size W (w.setCell ⟨b,j,none⟩ v):=h.setCell (p:=⟨b,j,none⟩) f v
theorem bE {p:Prop} (h:p:=by (repeat (first|exact Below.refl _ _|assumption|refine bal ?_ _|refine Below.drew ?_|refine ZcU ?_ _|refine Zaf ?_ (by assumption)))):p:=h
theorem ZcX {a b:Bool} (h:a=b):Value.bool a=.bool b:=by rw [h]
theorem ZcY {a b:Int} (h:a=b):Value.int .i64 a=.int .i64 b:=by rw [h]
end
section
open Go.RowKit
def ZcZ:List Value:=[.string ⟨#[110,111,112]⟩,.int .i64 0,.int .i64 0,.int .i64 1,.string ⟨#[112,117,115,104]⟩,.int .i64 1,.int .i64 0,.int .i64 1,.string ⟨#[108,111,97,100]⟩,.int .i64 2,.int .i64 0,.int .i64 1,.string ⟨#[115,116,111,114,101]⟩,.int .i64 2,.int .i64 0,.int .i64 1,.string ⟨#[100,114,111,112]⟩,.int .i64 0,.int .i64 0,.int .i64 1,.string ⟨#[100,117,112]⟩,.int .i64 0,.int .i64 0,.int .i64 1,.string ⟨#[97,100,100]⟩,.int .i64 0,.int .i64 0,.int .i64 1,.string ⟨#[115,117,98]⟩,.int .i64 0,.int .i64 0,.int .i64 1,.string ⟨#[109,117,108]⟩,.int .i64 0,.int .i64 0,.int .i64 3,.string ⟨#[100,105,118]⟩,.int .i64 0,.int .i64 0,.int .i64 8,.string ⟨#[108,101,115,115]⟩,.int .i64 0,.int .i64 0,.int .i64 1,.string ⟨#[115,97,109,101]⟩,.int .i64 0,.int .i64 0,.int .i64 1,.string ⟨#[110,117,108,108]⟩,.int .i64 3,.int .i64 4,.int .i64 1,.string ⟨#[105,115,110,117,108,108]⟩,.int .i64 0,.int .i64 0,.int .i64 1,.string ⟨#[110,101,119]⟩,.int .i64 4,.int .i64 0,.int .i64 12,.string ⟨#[110,101,119,105,110,116,115]⟩,.int .i64 5,.int .i64 0,.int .i64 4,.string ⟨#[110,101,119,114,101,102,115]⟩,.int .i64 5,.int .i64 4,.int .i64 4,.string ⟨#[103,101,116]⟩,.int .i64 6,.int .i64 0,.int .i64 2,.string ⟨#[112,117,116]⟩,.int .i64 6,.int .i64 0,.int .i64 3,.string ⟨#[101,108,101,109]⟩,.int .i64 0,.int .i64 0,.int .i64 3,.string ⟨#[115,101,116,101,108,101,109]⟩,.int .i64 0,.int .i64 0,.int .i64 4,.string ⟨#[108,101,110]⟩,.int .i64 0,.int .i64 0,.int .i64 2,.string ⟨#[115,116,97,116,105,99]⟩,.int .i64 7,.int .i64 0,.int .i64 2,.string ⟨#[115,101,116,115,116,97,116,105,99]⟩,.int .i64 7,.int .i64 0,.int .i64 3,.string ⟨#[99,97,115,116]⟩,.int .i64 4,.int .i64 0,.int .i64 2,.string ⟨#[99,97,108,108]⟩,.int .i64 8,.int .i64 0,.int .i64 4,.string ⟨#[115,101,110,100]⟩,.int .i64 9,.int .i64 0,.int .i64 6,.string ⟨#[101,109,105,116]⟩,.int .i64 10,.int .i64 0,.int .i64 2,.string ⟨#[116,104,114,111,119]⟩,.int .i64 11,.int .i64 0,.int .i64 3,.string ⟨#[105,102]⟩,.int .i64 0,.int .i64 0,.int .i64 1,.string ⟨#[108,111,111,112]⟩,.int .i64 12,.int .i64 2,.int .i64 2,.string ⟨#[108,111,99,107]⟩,.int .i64 13,.int .i64 0,.int .i64 2,.string ⟨#[115,99,111,112,101]⟩,.int .i64 14,.int .i64 0,.int .i64 4,.string ⟨#[116,114,121]⟩,.int .i64 0,.int .i64 0,.int .i64 2,.string ⟨#[101,108,115,101]⟩,.int .i64 0,.int .i64 0,.int .i64 1,.string ⟨#[101,110,100]⟩,.int .i64 0,.int .i64 0,.int .i64 1]
def opN:List ByteArray:=[⟨#[110,111,112]⟩,⟨#[112,117,115,104]⟩,⟨#[108,111,97,100]⟩,⟨#[115,116,111,114,101]⟩,⟨#[100,114,111,112]⟩,⟨#[100,117,112]⟩,⟨#[97,100,100]⟩,⟨#[115,117,98]⟩,⟨#[109,117,108]⟩,⟨#[100,105,118]⟩,⟨#[108,101,115,115]⟩,⟨#[115,97,109,101]⟩,⟨#[110,117,108,108]⟩,⟨#[105,115,110,117,108,108]⟩,⟨#[110,101,119]⟩,⟨#[110,101,119,105,110,116,115]⟩,⟨#[110,101,119,114,101,102,115]⟩,⟨#[103,101,116]⟩,⟨#[112,117,116]⟩,⟨#[101,108,101,109]⟩,⟨#[115,101,116,101,108,101,109]⟩,⟨#[108,101,110]⟩,⟨#[115,116,97,116,105,99]⟩,⟨#[115,101,116,115,116,97,116,105,99]⟩,⟨#[99,97,115,116]⟩,⟨#[99,97,108,108]⟩,⟨#[115,101,110,100]⟩,⟨#[101,109,105,116]⟩,⟨#[116,104,114,111,119]⟩,⟨#[105,102]⟩,⟨#[108,111,111,112]⟩,⟨#[108,111,99,107]⟩,⟨#[115,99,111,112,101]⟩,⟨#[116,114,121]⟩,⟨#[101,108,115,101]⟩,⟨#[101,110,100]⟩]
def opC:List Nat:=[1,1,1,1,1,1,1,1,3,8,1,1,1,1,12,4,4,2,3,3,4,2,2,3,2,4,6,2,3,1,2,2,4,2,1,1]
theorem Zc0 (w:World):(storeCells ⟨w.heap.size,0,none⟩ ZcZ 0).run Tryz.prog (w.alloc (.cells Tryz.zeroCells325 325))=.ok () (w.alloc (.cells ZcZ.toArray 325)):=by have:=run_storeCells_new (P:=Tryz.prog) w 325 Tryz.zeroCells325 ZcZ.toArray (by kernel_rfl) (by kernel_rfl) (by kernel_rfl);simpa using this
theorem Zc1 (w:World):Calls Tryz.prog 354 #[] w fun e w'=>e=.returned (.agg ZcZ.toArray)∧Below w.heap.size w w':=by
 have q:=run_loadAt_new (P:=Tryz.prog) w 325 ZcZ.toArray 36 295 Tryz.underlying325 (by kernel_rfl);have y:=Zh q;clear q;go_enter Tryz.func354,Tryz.ntmps354
 go_wp2_with fail
 generalize hL:List.set _ _ _=L;have z:L=ZcZ:=by rw [←hL];kernel_rfl
 subst z;clear hL;rw [Zc0];simp only [Result.andThen];rw [Oper.upon_skip]
 go_wp2_with fail
 refine bodyPost_ret (v:=.agg ZcZ.toArray) ?_ rfl ⟨rfl,(Below.refl _ _).alloc (Nat.le_refl _) _⟩;have j:=run_loadVar_new (P:=Tryz.prog) w 325 ZcZ.toArray 36 295 Tryz.underlying325 (by kernel_rfl);have f:=y.out;generalize ZcZ.toArray=T at f j ⊢;simp [results,Tryz.results354,Act.put,asAddr,Result.andThen,f,j]
end
section
def Zc2 (m:Md):Nat→Int→Int→Bool
 | 0,_,_=>false
 | f+1,a,b=>if a<0 then false else if a=b then true else Zc2 m f (m.sup a) b
def Zc3 (m:Md) (n:Nat):Prop:=∀ i:Int,0≤i→i<n→-1≤m.sup i∧m.sup i<i
theorem Zc4 {m:Md}{a b:Int} (h:a<b):∀ g,ZaH m g a b=false
 | 0=>by simp [ZaH];omega
 | g+1=>by unfold ZaH;rw [if_neg (by omega)];simp;omega
theorem Zc5 {m:Md}{n:Nat} (q:Zc3 m n) {b:Int} (z:0≤b):∀ (k:Nat) (a:Int) (f g:Nat),a<k→k≤n→(0≤a→a.toNat<f∧a.toNat<g)→Zc2 m f a b=ZaH m g a b:=by
 intro k
 induction k with
 | zero=>
  intro a f g ha _ _;rw [Zc4 (by omega)];cases f with
  | zero=>rfl
  | succ f=>unfold Zc2;rw [if_pos (by omega)]
 | succ k ih=>
  intro a f g ha hk j;by_cases h0:a<0
  ·rw [Zc4 (by omega)];cases f with
   | zero=>rfl
   | succ f=>unfold Zc2;rw [if_pos h0]
  ·obtain ⟨h1,h2⟩:=j (by omega);obtain ⟨v,y⟩:=q a (by omega) (by omega);cases f with
   | zero=>omega
   | succ f=>
    cases g with
    | zero=>omega
    | succ g=>
     have e:=ih (m.sup a) f g (by omega) (by omega) (by omega);unfold Zc2;rw [if_neg h0];by_cases hab:a=b
     ·subst hab;rw [if_pos rfl];unfold ZaH;rw [if_neg (by omega)];simp
     ·rw [if_neg hab,e];by_cases hlt:b<a
      ·conv=>rhs;unfold ZaH
       rw [if_pos hlt]
      ·rw [Zc4 (by omega),Zc4 (by omega)]
theorem Zc6 {m:Md}{n:Nat} (v:Zc3 m n) {a b:Int} (q:0≤b) (ha:a<n) {f g:Nat} (j:0≤a→a.toNat<f) (hg:0≤a→a.toNat<g):ZaH m f a b=ZaH m g a b:=by rw [←Zc5 v q n a (f+1) f (by omega) (Nat.le_refl _) (fun h=>⟨by have:=j h;omega,j h⟩),Zc5 v q n a (f+1) g (by omega) (Nat.le_refl _) (fun h=>⟨by have:=j h;omega,hg h⟩)]
theorem Zc7 {m:Md}{k:Nat} (h:ZaK m k=true):-1≤m.sup k∧m.sup k<k:=by simp only [ZaK,Bool.and_eq_true,decide_eq_true_eq] at h;exact ⟨h.1.1.1.1.1.1,h.1.1.1.1.1.2⟩
theorem Zc8 {m:Md}{n:Nat} (h:∀ k,k<n→ZaK m k=true):Zc3 m n:=fun i f h1=>by
 have:=Zc7 (h i.toNat (by omega))
 rwa [show ((i.toNat:Nat):Int)=i by omega] at this
end
