import Derived.WideKeyEntry
import Derived.Test.YtfmcclhfnpcokaaGreatG23
import Derived.Lib.SmallJoins
set_option linter.all false
set_option maxRecDepth 100000
set_option maxHeartbeats 8000000
namespace Go.Proofs.YtfmcclhfnpcokaaGreat
section
open Go.RowKit
def Znw (m:Md) (t u:Ty):Bool × Int:=if (Za2 m&&ZaG m.cl.length t 1&&ZaG m.cl.length u 1)=true then (Zev m t u,0) else (false,1)
theorem Znx (m:Md) (h:Hd) (t u:Ty) (w:World) (H:Zaz w h m):Calls Tryz.prog 134 #[.agg (HM.mk h m),.agg #[.int .i64 t.k,.int .i64 t.c],.agg #[.int .i64 u.k,.int .i64 u.c]] w (Zhi w (.bool (Znw m t u).1) (.int .i64 (Znw m t u).2)):=by
 obtain ⟨b,c⟩:∃ b,b=((w.alloc (.cells (HM.mk h m) 26)).alloc (.cells #[.int .i64 t.k,.int .i64 t.c] 38)).alloc (.cells #[.int .i64 u.k,.int .i64 u.c] 38):=⟨_,rfl⟩;have l:Below w.heap.size w b:=by rw [c];exact bE
 have V:Blk b w.heap.size (HM.mk h m) 26:=by rw [c];exact ((Blk.new w _ _).alloc _).alloc _
 have X:Blk b (w.heap.size+1) #[.int .i64 t.k,.int .i64 t.c] 38:=by rw [c];exact (Blk.new' (w:=w.alloc _) _ _ (by simp)).alloc _
 have Y:Blk b (w.heap.size+2) #[.int .i64 u.k,.int .i64 u.c] 38:=by rw [c];exact Blk.new' (w:=(w.alloc _).alloc _) _ _ (by simp)
 have K:=Zh (show ∀ a,Below b.heap.size b a→_ from fun a R=>And.intro (Zj8 (V.old R)) (And.intro (Zj9 (X.old R)) (Zj9 (Y.old R))));have M:∀ a,Below b.heap.size b a→_:=fun a o=>Zhh m h a (H.old (Zag l o));have O:∀ a,Below b.heap.size b a→_:=fun a _=>Zhu m h t a;have Q:∀ a,Below b.heap.size b a→_:=fun a _=>Zhu m h u a;obtain ⟨r,U⟩:∃ r,r=Znw m t u:=⟨_,rfl⟩;rw [←U];have hF:∀ a,Below b.heap.size b a→_:=fun a o=>Zht m h t u a (H.old (Zag l o));have f:r=if (Za2 m&&ZaG m.cl.length t 1&&ZaG m.cl.length u 1)=true then (Zhr m t u,0) else (false,1):=by
  rw [U];unfold Znw;by_cases hq:(Za2 m&&ZaG m.cl.length t 1&&ZaG m.cl.length u 1)=true
  ·rw [if_pos hq,if_pos hq];simp only [Bool.and_eq_true] at hq;rw [ZiA hq.1.1 hq.1.2 hq.2]
  ·rw [if_neg hq,if_neg hq]
 clear U;generalize hx:Za2 m=x at M f;generalize hy:ZaG m.cl.length t 1=y at O f;generalize hz:ZaG m.cl.length u 1=z at Q f;generalize Zhr m t u=g at hF f;subst f;have Z:=Zh M;have HT:=Zh O;have HU:=Zh Q;have HF:=Zh hF;have HW:=Zh c;have L:=Zh l;clear M O Q hF H V X Y c l hx hy hz;have T:(x=false)∨(x=true∧y=false)∨(x=true∧y=true∧z=false)∨(x=true∧y=true∧z=true):=by cases x<;>cases y<;>cases z<;>simp
 rcases T with rfl|⟨rfl,rfl⟩|⟨rfl,rfl,rfl⟩|⟨rfl,rfl,rfl⟩
 all_goals
  go_enter Tryz.func134,Tryz.ntmps134
  go_upto_region 1 with fail
  rw [←HW.out];obtain ⟨⟨q,s,A,B⟩,⟨C,D⟩,E,F⟩:=K.out _ (Below.refl _ _)
  go_wp2_with (first
   | (go_at_call 124;refine (Z.out _ (Below.refl _ _)).mono ?_;rintro e w1 ⟨rfl,G⟩;have i:=Zh G;clear G q s A B C D E F;obtain ⟨⟨q,s,A,B⟩,⟨C,D⟩,E,F⟩:=K.out _ i.out)
   | (go_at_call 202;refine (HU.out _ j.out).mono ?_;rintro e w3 ⟨rfl,J⟩;have k:=Zh (Zag j.out J);clear J q s A B C D E F;obtain ⟨⟨q,s,A,B⟩,⟨C,D⟩,E,F⟩:=K.out _ k.out)
   | (go_at_call 202;refine (HT.out _ i.out).mono ?_;rintro e w2 ⟨rfl,I⟩;have j:=Zh (Zag i.out I);clear I q s A B C D E F;obtain ⟨⟨q,s,A,B⟩,⟨C,D⟩,E,F⟩:=K.out _ j.out)
   | (go_at_call 133;refine (HF.out _ k.out).mono ?_;rintro e w4 ⟨rfl,S⟩))
  go_ret2;refine Zhj (by simp) (by simp) (Zag L.out ?_)
  first|exact Zag k.out S|exact k.out|exact j.out|exact i.out
end
section
open Go.RowKit
theorem Zny:El Tryz.prog 22 44 4 72:=El.mk' (z:=.agg #[.string ⟨#[]⟩,.int .i64 0,.slice none 0 0,.slice none 0 0]) Tryz.underlying22 (by kernel_rfl) (by kernel_rfl) (by decide)
theorem Znz:El Tryz.prog 24 70 7 112:=El.mk' (z:=.agg #[.string ⟨#[]⟩,.int .i64 0,.slice none 0 0,.slice none 0 0,.int .i64 0,.int .i64 0,.slice none 0 0]) Tryz.underlying24 (by kernel_rfl) (by kernel_rfl) (by decide)
theorem ZnA:El Tryz.prog 68 72 3 24:=El.mk' (z:=.agg #[.int .i64 0,.int .i64 0,.int .i64 0]) Tryz.underlying68 (by kernel_rfl) (by kernel_rfl) (by decide)
def ZnB {α β:Type} [Inhabited α] (l:List α) (f:Nat→β):Nat→List (α × β)
 | 0=>[]
 | k+1=>ZnB l f k++[(l.getD k default,f k)]
theorem ZnC {α β:Type} [Inhabited α] (l:List α) (f:Nat→β) (k:Nat):(ZnB l f k).length=k:=by
 induction k with
 | zero=>rfl
 | succ k ih=>simp [ZnB,ih]
theorem ZnD {α β:Type} [Inhabited α] (l:List α) {f g:Nat→β}:∀ k,(∀ i,i<k→f i=g i)→ZnB l f k=ZnB l g k
 | 0,_=>rfl
 | k+1,h=>by unfold ZnB;rw [ZnD l k fun i a=>h i (by omega),h k (by omega)]
theorem ZnE {α β:Type} [Inhabited α] (l:List α) (f:Nat→β):∀ k i,i<k→(ZnB l f k)[i]?=some (l.getD i default,f i)
 | 0,_,h=>by omega
 |k+1,i,h=>by
  unfold ZnB;by_cases hi:i<k
  ·rw [List.getElem?_append_left (by rw [ZnC];exact hi)];exact ZnE l f k i hi
  ·obtain rfl:i=k:=by omega
   rw [List.getElem?_append_right (by rw [ZnC];omega),ZnC];simp
theorem ZnF {α β:Type} [Inhabited α] (l:List α) (f:Nat→β):ZnB l f l.length=l.mapIdx fun i x=>(x,f i):=by
 refine List.ext_getElem? fun i=>?_;by_cases hi:i<l.length
 ·rw [ZnE l f l.length i hi];simp [hi]
 ·rw [List.getElem?_eq_none (by rw [ZnC];omega),List.getElem?_eq_none (by simp;omega)]
structure Kp (ts:List TypeId) (N:Nat) (w w':World):Prop where
 bw:Below N w w'
 blk:∀ (k:Nat) (cur:Array Value) (e:TypeId),w.heap[k]?=some (Obj.cells cur e (0,0))→e ∉ ts→w'.heap[k]?=w.heap[k]?
theorem Kp.refl (ts:List TypeId) (N:Nat) (w:World):Kp ts N w w:=⟨Below.refl _ _,fun _ _ _ _ _=>rfl⟩
section
variable {ts:List TypeId}{N:Nat}
include ts N
theorem Kp.trans {a b c:World} (h:Kp ts N a b) (g:Kp ts N b c):Kp ts N a c:=
 ⟨h.bw.trans g.bw,fun k f e j i=>(g.blk k f e ((h.blk k f e j i).trans j) i).trans (h.blk k f e j i)⟩
theorem Kp.of {w w':World} (h:Below w.heap.size w w') (hN:N≤w.heap.size):Kp ts N w w':=
 ⟨h.mono hN,fun k a e b _=>h.block k (Array.getElem?_eq_some_iff.1 b).1⟩
theorem Kp.set {w w':World} (h:Kp ts N w w') {b:Nat} {xs:Array Value} {t:TypeId} (hb:Blk w' b xs t) (ht:t∈ts) (hN:N≤b) (i:Nat) (v:Value):Kp ts N w (w'.setCell ⟨b,i,none⟩ v):=by refine h.trans ⟨(Below.refl N w').setCell (p:=⟨b,i,none⟩) hN v,fun k c e a f=>?_⟩;refine heap_setCell_other w' ⟨b,i,none⟩ k v ?_;rintro rfl;rw [show w'.heap[k]?=_ from hb] at a;cases a;exact f ht
theorem Kp.grown {w w':World} {base:Nat} {e:TypeId} {size:Nat} {v:Value} {n:Nat} {xs:List Value} (ho:w.ownsRow base e size v n xs) (hg:w.grownBy w' v.ownBlock) (hN:N≤base) (hs:N≤w.heap.size) (he:e∈ts):Kp ts N w w':=by
 refine ⟨(Below.refl N w).grown hg hs (fun k a=>Nat.le_trans hN (ho.lt k a).1),fun k i l a j=>hg.block k (Array.getElem?_eq_some_iff.1 a).1 ?_⟩;intro q;rcases ho.2 with ⟨b,_⟩|⟨g,c,f,b,_,h,_⟩
 ·rw [b] at q;cases q
 ·rw [b] at q;cases q;rw [a] at h;cases h;exact j he
theorem Kp.own {w w':World} (h:Kp ts N w w') {base:Nat} {e:TypeId} {size:Nat} {v:Value} {n:Nat} {xs:List Value} (ho:w.ownsRow base e size v n xs) (h1:e ∉ ts:=by decide):w'.ownsRow base e size v n xs:=by
 refine ZhM ho fun k b=>?_;rcases ho.2 with ⟨f,_⟩|⟨g,c,a,f,_,i,_⟩
 ·rw [f] at b;cases b
 ·rw [f] at b;cases b;exact h.blk g a e i h1
end
theorem ZnG (w:World) (base:Nat) (e:TypeId) (size:Nat) (a:base≤w.heap.size):(w.alloc (.cells #[] e)).ownsRow base e size (.slice (some ⟨w.heap.size,0,none⟩) 0 0) 0 []:=
 ⟨by simp,.inr ⟨w.heap.size,0,#[],rfl,a,Blk.new w #[] e,Nat.le_refl _,Nat.zero_le _,by simp,by simp⟩⟩
structure CpC (w:World) (N:Nat) (c:CHd) (x:Cls):Prop where
 f:w.ownsRow N 38 2 (.slice c.fo x.f.length c.fc) x.f.length (Zal x.f)
 m:w.ownsRow N 3 1 (.slice c.mo x.m.length c.mc) x.m.length (Zal x.m)
structure CpM (w:World) (N:Nat) (c:MHd) (x:Mth):Prop where
 p:w.ownsRow N 38 2 (.slice c.po x.p.length c.pc) x.p.length (Zal x.p)
 l:w.ownsRow N 38 2 (.slice c.lo x.l.length c.lc) x.l.length (Zal x.l)
 k:w.ownsRow N 72 3 (.slice c.ko x.k.length c.kc) x.k.length (Zal x.k)
theorem CpC.kp {ts:List TypeId}{w w':World}{N B:Nat}{c:CHd}{x:Cls} (h:CpC w N c x) (hk:Kp ts B w w') (h1:38 ∉ ts:=by decide) (h2:3 ∉ ts:=by decide):CpC w' N c x:=⟨hk.own h.f h1,hk.own h.m h2⟩
theorem CpM.kp {ts:List TypeId}{w w':World}{N B:Nat}{c:MHd}{x:Mth} (h:CpM w N c x) (hk:Kp ts B w w') (h1:38 ∉ ts:=by decide) (h2:72 ∉ ts:=by decide):CpM w' N c x:=⟨hk.own h.p h1,hk.own h.l h1,hk.own h.k h2⟩
structure ZnH (w:World) (N:Nat) (h:Hd) (m:Md):Prop where
 cl:w.ownsRow N 44 4 (.slice h.co m.cl.length h.cc) m.cl.length (Zal (Zav h m))
 st:w.ownsRow N 38 2 (.slice h.so m.st.length h.sc) m.st.length (Zal m.st)
 me:w.ownsRow N 70 7 (.slice h.eo m.me.length h.ec) m.me.length (Zal (Zaw h m))
 c:∀ i,i<m.cl.length→CpC w N (h.c i) (m.cl.getD i default)
 m:∀ i,i<m.me.length→CpM w N (h.e i) (m.me.getD i default)
structure ZnI (m:Md):Prop where
 cl:m.cl.length≤2000000
 st:m.st.length≤2000000
 me:m.me.length≤2000000
 c:∀ i,i<m.cl.length→(m.cl.getD i default).f.length≤2000000∧(m.cl.getD i default).m.length≤2000000
 m:∀ i,i<m.me.length→(m.me.getD i default).p.length≤2000000∧(m.me.getD i default).l.length≤2000000∧(m.me.getD i default).k.length≤2000000
theorem ZnJ {w:World}{base:Nat}{e:TypeId}{size:Nat}{ao:Option Addr}{n cap:Nat}{i:List Value} (h:w.ownsRow base e size (.slice ao n cap) n i):n≤cap:=by
 rcases h.2 with ⟨a,b⟩|⟨g,c,f,a,_,_,b,_⟩
 ·cases a;omega
 ·cases a;exact b
theorem ZnH.at_ {w:World}{N:Nat}{h:Hd}{m:Md} (H:ZnH w N h m) (hs:ZnI m):Zaz w h m where
 cl:=Zas.of_own (by rw [Zax];exact H.cl)
 st:=Zas.of_own H.st
 me:=Zas.of_own (by rw [Zay];exact H.me)
 f i hi:=Zas.of_own (H.c i hi).f
 t i hi:=Zas.of_own (H.c i hi).m
 p i hi:=Zas.of_own (H.m i hi).p
 l i hi:=Zas.of_own (H.m i hi).l
 k i hi:=Zas.of_own (H.m i hi).k
 bf i hi:=ZnJ (H.c i hi).f
 bm i hi:=by have:=hs.m i hi;omega
 bz:=by have:=hs.cl;have:=hs.st;have:=hs.me;omega
end
section
open Go.RowKit
attribute [local go_sem] World.cell?_alloc_some
theorem ZnK (w:World) (ao bo:Option Addr) (E bc:Nat) (a b:List Int) (ha:Zas w ao E a) (G:Zas w bo bc b) (V:a.length≤2000000):Calls Tryz.prog 36 #[.slice ao a.length E,.slice bo b.length bc] w (Ret w (.bool (decide (a=b)))):=by
 have J:=Zh ha;have K:=Zh G;clear ha G;by_cases hn:a.length=b.length
 ·have g:(a.length:Int)=b.length:=by omega
  rw [←hn];have B:=Zh hn;clear hn g;go_enter Tryz.func36,Tryz.ntmps36;go_wp2
  go_loopw [5] (fun i wr=>∃ k:Nat,k≤a.length∧i=.int .i64 k∧Hid (Below w.heap.size w wr)∧Hid (∀ j,j<k→a.getD j 0=b.getD j 0)) (fun i _=>a.length-(intOf i).toNat)
  case atStart=>exact ⟨0,Nat.zero_le _,rfl,by exact bE,fun j h=>by omega⟩
  case round=>
   obtain ⟨k,U,rfl,f,A⟩:=hrel;rename World=>wo;by_cases hkl:k<a.length
   ·obtain ⟨L,rfl,m⟩:=ZaC (J.out.old f.out) hkl;obtain ⟨M,rfl,q⟩:=ZaC (K.out.old f.out) (show k<b.length by have:=B.out;omega);have I:(k:Int) < a.length:=by omega
    have R:IntKind.i64.wrap ((k:Int)+1)=((k+1:Nat):Int):=IntWalk.i64_in _ (by omega);obtain ⟨x,u⟩:∃ x,x=a.getD k 0:=⟨_,rfl⟩;obtain ⟨y,hy⟩:∃ x,x=b.getD k 0:=⟨_,rfl⟩;rw [←u] at m;rw [←hy] at q;have C:=Zh u;have D:=Zh hy;clear u hy
    go_upto_region 6 with fail
    refine rO (Cs [(L.add k,.int .i64 x),(M.add k,.int .i64 y)]) (oL [0,1,2,3,4,5,6,7,8]) ⟨m,q,trivial⟩ ?_;clear m q
    repeat refine pO ?_
    refine Zd7 ?_;by_cases hxy:x=y
    ·subst hxy;go_wp2;exact ⟨⟨k+1,by omega,rfl,f.out.drew,fun j T=>by
      by_cases s:j=k
      ·subst s;rw [←C.out,←D.out]
      ·exact A.out j (by omega)⟩,by simp [intOf];omega⟩
    ·go_wp2;go_ret;rw [decide_eq_false (fun e:a=b=>hxy (by rw [C.out,D.out,e]))];exact ZcP rfl f.out.drew
   ·obtain rfl:k=a.length:=by omega
    have O:¬ (a.length:Int) < a.length:=by omega
    go_wp2;go_ret;rw [decide_eq_true (show a=b from List.ext_getElem B.out fun j F s=>by have:=A.out j F;simpa [F,s] using this)];exact ZcP rfl f.out
 ·have g:¬ (a.length:Int)=b.length:=by omega
  rw [decide_eq_false (fun e=>hn (by rw [e]))];go_enter Tryz.func36,Tryz.ntmps36;go_wp2;go_ret;exact ZcP rfl bE
theorem ZnL (l:List Int) (ao:Option Addr) (cap:Nat) (n:Int) (w:World) (o:Zas w ao cap l) (B:l.length≤1000000):Calls Tryz.prog 38 #[.slice ao l.length cap,.int .i64 n] w (Ret w (.bool (decide (n∈l)))):=by
 have t:=Zh o;obtain ⟨v,g⟩:∃ v,v=decide (n∈l):=⟨_,rfl⟩;rw [←g];have m:=Zh g;clear o g;go_enter Tryz.func38,Tryz.ntmps38;go_wp2
 go_loopw [5] (fun i wr=>∃ k:Nat,k≤l.length∧i=.int .i64 k∧Hid (Below w.heap.size w wr)∧Hid (n ∉ l.take k)) (fun i _=>l.length-(intOf i).toNat)
 case atStart=>exact ⟨0,Nat.zero_le _,rfl,Below.refl _ _,by show n ∉ l.take 0;simp⟩
 case round=>
  obtain ⟨k,D,rfl,c,j⟩:=hrel;by_cases hkl:k<l.length
  ·have b:(k:Int) < l.length:=by omega
   have y:IntKind.i64.wrap ((k:Int)+1)=((k+1:Nat):Int):=IntWalk.i64_in _ (by omega);obtain ⟨A,rfl,u⟩:=ZaC (t.out.old c.out) hkl;have f:=ZfX (0:Int) hkl;have a:l.take (k+1)=l.take k++[l.getD k 0]:=by rw [List.take_succ_eq_append_getElem hkl];simp [hkl]
   obtain ⟨x,s⟩:∃ x,x=l.getD k 0:=⟨_,rfl⟩;rw [←s] at u f a;have h:=Zh (And.intro f a);clear f a s;by_cases e:x=n
   ·subst e;go_wp2;go_ret;exact ZcP (ZcT (by rw [m.out,decide_eq_true h.out.1])) c.out
   ·have C:(x == n)=false:=by simpa using e
    go_wp2;refine ⟨⟨k+1,hkl,rfl,c.out,?_⟩,by simp [intOf];omega⟩;show n ∉ l.take (k+1);rw [h.out.2,List.mem_append,List.mem_singleton];exact fun q=>q.elim j.out fun q=>e q.symm
  ·have b:¬ (k:Int) < l.length:=by omega
   go_wp2;go_ret;have p:=j.out;rw [List.take_of_length_le (by omega)] at p;exact ZcP (ZcT (by rw [m.out,decide_eq_false p])) c.out
end
section
open Go.RowKit
def ZnM (P:Program):List Deferred→World→World→Prop
 | [],w,w'=>w=w'
 | [d],w,w'=>∃ b ts t cs v0,d.target=.builtin b ts t cs∧(invoke d.target d.args).run P w=.ok (.value v0) w'
 | _,_,_=>False
def ZnN (P:Program) (gn:Func) (R:Ending→World→Prop):Exit→Act→World→Prop
 | .normal,a,w|.ret,a,w=>∃ w' v,ZnM P a.defers w w'∧(results gn a.tmps).run P w'=.ok v w'∧R (.returned v) w'
 | .outgrown,_,w=>R .outgrown w
 | _,_,_=>False
theorem ZnO {P:Program}{fr:Frame}{cs:List Frame}{w w':World}{d:Deferred}{ds:List Deferred}{b:Builtin}{ts:Array TypeId}{t:TypeId}{f:Array Bool}{h:Value} (g:fr.mode=.returning) (hd:fr.defers=d :: ds) (e:d.target=.builtin b ts t f) (c:(invoke d.target d.args).run P w=.ok (.value h) w') :
  step P (lone fr cs w)=.next (lone { fr with defers:=ds } cs w'):=by
 obtain ⟨i,a⟩:=d;simp only at e c;subst e;refine step_lone_go ?_;simp [stepG,unwind,callDeferred,g,hd,c]
theorem ZnP {P:Program}{c:Func}{ds:List Deferred}{w w':World}{fr:Frame}{cs:List Frame}{v:Value} (e:fr.mode=.returning) (hd:fr.defers=ds) (f:P.funcs[fr.fn]?=some c) (g:fr.kind=.normal) (h:ZnM P ds w w') (i:(results c fr.tmps).run P w'=.ok v w') :
  ∃ a,Steps P (lone fr cs w) (lone a cs w')∧a.fn=fr.fn∧a.leaving P w' (.returned v):=by
 match ds,h with
 | [],h=>obtain rfl:=h;exact ⟨fr,Steps.refl P _,rfl,e,hd,g,c,f,i⟩
 |[d],h=>
  obtain ⟨b,ts,t,l,m,k,j⟩:=h;exact ⟨{ fr with defers:=[] },.one (ZnO e hd k j),rfl,e,rfl,g,c,f,i⟩
theorem ZnQ {P:Program}{f:FuncId}{o:Func}{c:Code}{a:Array Value}{w:World}{R:Ending→World→Prop} (t:P.funcs[f]?=some o) (C:o.body=some c)
  (h:c.wp P (ZnN P o R) { tmps:=a++Array.replicate (o.ntmps-a.size) undef,defers:=[] } w):Calls P f a w R:=by
 intro cs
 let b:Frame:={ (default:Frame) with fn:=f,kind:=.normal }
 have i:Frame.enter P f a .normal=b.at { tmps:=a++Array.replicate (o.ntmps-a.size) undef,defers:=[] } [.code c]:=by simp [Frame.enter,Frame.at,t,C,b]
 obtain ⟨e,q,D,m,g⟩:=h b [] cs;rw [←i] at g;cases e with
 |normal=>
  obtain ⟨B,v,hd,x,s⟩:=m;obtain ⟨j,y,k,u⟩:=ZnP (fr:={ b.at q [] with mode:=.returning }) (cs:=cs) (ds:=q.defers) rfl rfl t rfl hd x;exact ⟨.returned v,B,j,s,Comes.of_steps (Steps.trans g (.one Go.step_end)) y,k,u⟩
 |ret=>
  obtain ⟨B,v,hd,x,s⟩:=m;obtain ⟨p,A⟩:=g;obtain ⟨j,y,k,u⟩:=ZnP (fr:={ b.at q p with mode:=.returning }) (cs:=cs) (ds:=q.defers) rfl rfl t rfl hd x;exact ⟨.returned v,B,j,s,Comes.of_steps A y,k,u⟩
 | panic chain=>exact m.elim
 | exit id=>exact m.elim
 | goto l=>exact m.elim
 | outgrown=>exact ⟨.outgrown,D,b,m,g.resolve_left (by simp [b]),rfl,trivial⟩
end
section
open Go.RowKit
theorem ZnR (m:Md) (h:Hd) (w:World) (H:Zaz w h m):Calls Tryz.prog 21 #[.agg (HM.mk h m)] w (Ret w (.int .i64 (if (Zmk m).2.2=0 then 0 else 1))):=by
 have k:=Zh (fun w' s=>Zjm m h w' (H.old (w':=w') s));have u:=Zh (fun w' s=>Zmo w' h m (H.old (w':=w') s));have b:Za2 m=false→(Zmk m).2.2=1:=fun q=>by unfold Zmk;rw [if_neg (by rw [q];decide)]
 obtain ⟨q,g⟩:∃ q:Int,q=if (Zmk m).2.2=0 then 0 else 1:=⟨_,rfl⟩;rw [←g];obtain ⟨⟨I,J,K⟩,t⟩:∃ z,z=Zmk m:=⟨_,rfl⟩;rw [←t] at u g b;dsimp only at g b;have A:=Zh g;have c:=Zh (show Below w.heap.size w (w.alloc (.cells (HM.mk h m) 26)) by exact bE);have o:=Zh (Blk.new w (HM.mk h m) 26);rcases hm:Za2 m with _|_
 ·have x:q=1:=by rw [g,b hm];rfl
  have y:=Zh x;rw [hm] at k;clear H t g hm b x;go_enter Tryz.func21,Tryz.ntmps21
  go_wp2_with (go_at_call 60;refine (k.out _ c.out).mono ?_;rintro e B ⟨rfl,a⟩)
  go_ret;exact ZcP (ZcU y.out.symm) (Zag c.out a)
 ·rw [hm] at k;clear H t g hm b;go_enter Tryz.func21,Tryz.ntmps21
  go_wp2_with (first
   | (go_at_call 60;refine (k.out _ c.out).mono ?_;rintro e B ⟨rfl,a⟩;have i:=Zh (Zag c.out a);have f:=Zh (o.out.old a);have D:=f.out.cell 0 (v:=.slice h.co m.cl.length h.cc) rfl;have E:=f.out.cell 1 (v:=.slice h.so m.st.length h.sc) rfl;have F:=f.out.cell 2 (v:=.slice h.eo m.me.length h.ec) rfl;have G:=f.out.cell 3 (v:=.int .i64 m.sel) rfl;clear a)
   | (go_at_call 49;refine (u.out _ i.out).mono ?_;rintro e C ⟨rfl,j⟩;have l:=Zh (Zag i.out j);clear j))
  all_goals
   go_ret;refine ZcP (ZcU ?_) l.out;rw [A.out];grind
end
section
open Go.ChangeShapes Go.WideShapes Go.ChangeAt Go.RowKit
theorem ZnS {H:Type} (d:DataW H):1≤Rows.uptoBulk d:=by
 cases d with
 | lit l=>cases l<;>simp [Rows.uptoBulk]
 | nil=>simp [Rows.uptoBulk]
 | ptr d=>simp [Rows.uptoBulk]
 | slice elems spare=>simp [Rows.uptoBulk]
 | agg parts=>simp [Rows.uptoBulk]
 | iface t d=>simp [Rows.uptoBulk]
 | map entries=>simp [Rows.uptoBulk]
 | held h=>simp [Rows.uptoBulk]
theorem ZnT {H:Type} (l:List (DataW H)):l.length≤Rows.uptoBulkAll l:=by
 induction l with
 | nil=>simp [Rows.uptoBulkAll]
 | cons x r ih=>have:=ZnS x;simp only [Rows.uptoBulkAll,List.length_cons];omega
theorem ZnU {H:Type} (a b:List (DataW H)):a.length+b.length+1≤Rows.uptoBulk (.slice a b):=by have c:=ZnT a;have e:=ZnT b;simp only [Rows.uptoBulk];omega
theorem ZnV {H:Type}{l:List (DataW H)} (a:Rows.uptoSmall H l=true):Rows.uptoBulkAll l≤1048576:=of_decide_eq_true a
theorem ZnW {H:Type} (k:IntKind) (a:List Int):(lits (H:=H) k a).length=a.length:=by simp [lits]
theorem ZnX {H:Type}{enc:TypeId × Value→H}{P:Program}{W:World}{r:Reach}{b0:Nat}{t e:TypeId}{k:IntKind}{v:Value}{d:DataW H}{ps:List MemPlace}
  (q:P.underlying t=some (.slice e)) (u:P.underlying e=some (.int k)) (s:P.cellsOf e=1)
  (hval:Value.okWide P W r b0 t v) (hd:DataW.Trod enc P W 0 (fun _=>true) true t v d ps) :
  ∃ a cap f,v=.slice a f.length cap∧(Sl k W a f∧(a=none→cap=0))∧(∀ n∈f,(Lit.int k n).wf=true)∧f.length≤maxLen∧f.length≤Rows.uptoBulk d:=by
 obtain ⟨a,o,cap,rfl⟩:=okWide_slice q hval;obtain ⟨p,y⟩:=hd;rcases open_ints q u s y with ⟨b,_⟩|⟨x,l,c,f,b,_,E,F,C,B,g,m⟩
 ·simp [Value.cells] at b;obtain ⟨rfl,rfl,rfl⟩:=b;exact ⟨none,0,[],rfl,⟨fun i j=>by simp at j,fun _=>rfl⟩,by simp,by simp,by simp⟩
 ·simp [Value.cells] at b;obtain ⟨rfl,rfl,rfl⟩:=b;have D:f.length=cap:=by simpa using C
  obtain ⟨rfl,_⟩:=Prod.mk.inj B;refine ⟨some x,cap,f.take o,by rw [List.length_take,Nat.min_eq_left (by omega)],⟨?_,fun h=>by cases h⟩,fun n A=>m n (List.mem_of_mem_take A),by rw [List.length_take];omega,?_⟩
  ·intro i j;rw [List.length_take] at j;refine ⟨x,rfl,?_⟩;rw [g i (by omega),List.getD_eq_getElem?_getD,List.getD_eq_getElem?_getD,List.getElem?_take_of_lt (by omega)]
  ·refine Nat.le_trans ?_ (ZnU _ _);rw [ZnW];omega
theorem ZnY {n:Int} (h:(Lit.int .i64 n).wf=true):-9223372036854775808≤n∧n≤9223372036854775807:=by simpa [Lit.wf,IntKind.min,IntKind.max,IntKind.bits,IntKind.signed] using h
end
section
open Go.ChangeShapes Go.WideShapes Go.ChangeAt Go.RowKit Go.Deep
theorem ZnZ {α:Type} [Inhabited α] {Q:Nat→α→Prop}:∀ n,(∀ i,i<n→∃ x,Q i x)→∃ l:List α,l.length=n∧∀ i,i<n→Q i (l.getD i default)
 | 0,_=>⟨[],rfl,fun i a=>by omega⟩
 |n+1,h=>by
  obtain ⟨l,b,c⟩:=ZnZ n fun i a=>h i (by omega);obtain ⟨x,e⟩:=h n (by omega);refine ⟨l++[x],by simp [b],fun i a=>?_⟩;by_cases hin:i<n
  ·rw [List.getD_eq_getElem?_getD,List.getElem?_append_left (by omega),←List.getD_eq_getElem?_getD];exact c i hin
  ·obtain rfl:i=n:=by omega
   rw [List.getD_eq_getElem?_getD,List.getElem?_append_right (by omega),b];simpa using e
section
variable {H:Type}{enc:TypeId × Value→H}{P:Program}{W:World}
theorem Zn0 {d:DataW H}:∀ {l:List (DataW H)},d∈l→Rows.uptoBulk d≤Rows.uptoBulkAll l
 | [],h=>by cases h
 |x :: r,h=>by
  unfold Rows.uptoBulkAll;rcases List.mem_cons.1 h with rfl|h
  ·omega
  ·have:=Zn0 h;omega
theorem Zn1 {α:Type} [Cells α] [Inhabited α] {Q:α→Prop}{t e:TypeId}{f:Nat}{v:Value}{y:DataW H × List MemPlace} (hN:Rows.uptoBulk y.1≤1048576) (X:P.underlying t=some (.slice e)) (U:P.cellsOf e=Cells.n α)
  (E:∀ n cs z,Rows.uptoBulk z.1≤1048576→cs.length=Cells.n α→DataW.trod enc P W 0 (fun _=>true) true n e cs=some z→∃ x:α,cs=Cells.cells x∧Q x) (h:DataW.trod enc P W 0 (fun _=>true) true f t [v]=some y) :
  ∃ ao cap,∃ l:List α,v=.slice ao l.length cap∧Zas W ao cap l∧l.length≤cap∧l.length≤1048576∧∀ i,i<l.length→Q (l.getD i default):=by
 rcases open_slice X h with ⟨c,_⟩|⟨a,b,cap,k,n,D,Y,c,_,Z,hm,J,T,p⟩
 ·obtain rfl:v=.slice none 0 0:=by simpa using c
  exact ⟨none,0,[],rfl,Zas.nil W,by simp,by simp,fun i p=>by simp at p⟩
 ·obtain rfl:v=.slice (some a) b cap:=by simpa using c
  have V:b≤k:=by simp at J;omega
  have F:∀ i,i<b→∃ x:α,Q x∧∀ j (q:j<Cells.n α),W.cell? (a.add (i*Cells.n α+j))=(Cells.cells x)[j]?:=by intro i G;obtain ⟨A,R,K⟩:=p i (by omega);rw [U] at R;obtain ⟨_,C,B⟩:=World.cells?_some R;obtain ⟨x,M,s⟩:=E n A _ (Nat.le_trans (Zn0 (List.mem_map.2 ⟨i,List.mem_range.2 G,rfl⟩)) (by rw [T] at hN;unfold Rows.uptoBulk at hN;omega)) C K;refine ⟨x,s,fun j q=>?_⟩;rw [←M,←B j q,Go.Deep.add_add]
  obtain ⟨l,I,s⟩:=ZnZ b F;refine ⟨some a,cap,l,by rw [I],⟨Zan l,(fun h=>by cases h),fun j u L=>⟨a,rfl,?_⟩⟩,by omega,?_,fun i p=>(s i (by omega)).1⟩
  rotate_left
  ·rw [T] at hN;dsimp only at hN;have:=ZnU ((List.range b).map D) ((List.range (k-b)).map fun j=>D (b+j));simp only [List.length_map,List.length_range] at this;omega
  have S:=Cells.pos (α:=α);have q:j<l.length*Cells.n α:=by have:=(List.getElem?_eq_some_iff.1 L).1;rwa [Zan] at this
  have g:j / Cells.n α<l.length:=(Nat.div_lt_iff_lt_mul S).2 q;have o:j % Cells.n α<Cells.n α:=Nat.mod_lt _ S;have m:j=j / Cells.n α*Cells.n α+j % Cells.n α:=by rw [Nat.mul_comm];exact (Nat.div_add_mod j _).symm
  have O:=(s (j / Cells.n α) (by omega)).2 (j % Cells.n α) o;rw [m,Zaq l _ g _ o] at L;rw [←m] at O;rw [O,←L];simp [g]
theorem Zn2 {cs:List Value} (c:cs.length=2):∃ a b,cs=[a,b]:=by
 match cs,c with
 | [a,b],_=>exact ⟨a,b,rfl⟩
theorem Zn3 {cs:List Value} (e:cs.length=3):∃ a b c,cs=[a,b,c]:=by
 match cs,e with
 | [a,b,c],_=>exact ⟨a,b,c,rfl⟩
theorem Zn4 {cs:List Value} (e:cs.length=4):∃ a b c d,cs=[a,b,c,d]:=by
 match cs,e with
 | [a,b,c,d],_=>exact ⟨a,b,c,d,rfl⟩
theorem Zn5 {cs:List Value} (h:cs.length=7):∃ a b c d e f g,cs=[a,b,c,d,e,f,g]:=by
 match cs,h with
 | [a,b,c,d,e,f,g],_=>exact ⟨a,b,c,d,e,f,g,rfl⟩
end
section
variable {H:Type}{enc:TypeId × Value→H}{W:World}
section
variable (n:Nat)(cs:List Value)(z:DataW H × List MemPlace)
include n cs z
theorem Zn6 (_:Rows.uptoBulk z.1≤1048576) (_:cs.length=Cells.n Int) (h:DataW.trod enc Tryz.prog W 0 (fun _=>true) true n 3 cs=some z):∃ x:Int,cs=Cells.cells x∧True:=by obtain ⟨k,e,_⟩:=DataW.trod_int Tryz.underlying3 h;exact ⟨k,e,trivial⟩
theorem Zn7 (_:Rows.uptoBulk z.1≤1048576) (E:cs.length=Cells.n Ty) (h:DataW.trod enc Tryz.prog W 0 (fun _=>true) true n 38 cs=some z):∃ x:Ty,cs=Cells.cells x∧True:=by obtain ⟨xs,n,_,_,_,hlen,C⟩:=DataW.trod_struct Tryz.underlying38 h;obtain ⟨a,b,rfl⟩:=Zn2 E;have A:=C 0 _ rfl;have h1:=C 1 _ rfl;rw [show xs[0]?=some (xs[0]'(by rw [hlen];decide)) by simp] at A;rw [show xs[1]?=some (xs[1]'(by rw [hlen];decide)) by simp] at h1;obtain ⟨k0,e0,_⟩:=DataW.trod_int Tryz.underlying3 A;obtain ⟨k1,D,_⟩:=DataW.trod_int Tryz.underlying3 h1;have f:[a]=[Value.int .i64 k0]:=e0;have y:[b]=[Value.int .i64 k1]:=D;cases f;cases y;exact ⟨⟨k0,k1⟩,rfl,trivial⟩
theorem Zn8 (_:Rows.uptoBulk z.1≤1048576) (G:cs.length=Cells.n In3) (h:DataW.trod enc Tryz.prog W 0 (fun _=>true) true n 72 cs=some z):∃ x:In3,cs=Cells.cells x∧True:=by obtain ⟨xs,n,_,_,_,hlen,C⟩:=DataW.trod_struct Tryz.underlying72 h;obtain ⟨a,b,c,rfl⟩:=Zn3 G;have h0:=C 0 _ rfl;have h1:=C 1 _ rfl;have D:=C 2 _ rfl;rw [show xs[0]?=some (xs[0]'(by rw [hlen];decide)) by simp] at h0;rw [show xs[1]?=some (xs[1]'(by rw [hlen];decide)) by simp] at h1;rw [show xs[2]?=some (xs[2]'(by rw [hlen];decide)) by simp] at D;obtain ⟨k0,e0,_⟩:=DataW.trod_int Tryz.underlying3 h0;obtain ⟨k1,E,_⟩:=DataW.trod_int Tryz.underlying3 h1;obtain ⟨k2,F,_⟩:=DataW.trod_int Tryz.underlying3 D;have f:[a]=[Value.int .i64 k0]:=e0;have y:[b]=[Value.int .i64 k1]:=E;have A:[c]=[Value.int .i64 k2]:=F;cases f;cases y;cases A;exact ⟨⟨k0,k1,k2⟩,rfl,trivial⟩
end
theorem Zn9 {z:DataW H × List MemPlace}{a:List (DataW H × List MemPlace)} (b:z=(.agg (a.map (·.1)),a.flatMap (·.2))) (c:Rows.uptoBulk z.1≤1048576) {i:Nat} (e:i<a.length):Rows.uptoBulk (a[i]).1≤1048576:=by refine Nat.le_trans (Zn0 (l:=a.map (·.1)) (List.mem_map.2 ⟨a[i],List.getElem_mem e,rfl⟩)) ?_;rw [b] at c;unfold Rows.uptoBulk at c;omega
def Zoa (W:World) (x:Cls × CHd):Prop:=Zas W x.2.fo x.2.fc x.1.f∧Zas W x.2.mo x.2.mc x.1.m∧x.1.f.length≤x.2.fc∧x.1.f.length≤1048576∧x.1.m.length≤1048576
def Zob (W:World) (x:Mth × MHd):Prop:=Zas W x.2.po x.2.pc x.1.p∧Zas W x.2.lo x.2.lc x.1.l∧Zas W x.2.ko x.2.kc x.1.k∧x.1.p.length≤1048576∧x.1.l.length≤1048576∧x.1.k.length≤1048576
instance:Inhabited (Cls × CHd):=⟨default,default⟩
instance:Inhabited (Mth × MHd):=⟨default,default⟩
theorem Zoc (n:Nat) (cs:List Value) (z:DataW H × List MemPlace) (hz:Rows.uptoBulk z.1≤1048576) (Y:cs.length=Cells.n (Cls × CHd)) (h:DataW.trod enc Tryz.prog W 0 (fun _=>true) true n 44 cs=some z):∃ x:Cls × CHd,cs=Cells.cells x∧Zoa W x:=by obtain ⟨xs,n,_,J,_,hlen,y⟩:=DataW.trod_struct Tryz.underlying44 h;have hp:∀ i (hi:i<xs.length),Rows.uptoBulk (xs[i]).1≤1048576:=fun i hi=>Zn9 J hz hi;obtain ⟨a,b,c,d,rfl⟩:=Zn4 Y;have M:=y 0 _ rfl;have h1:=y 1 _ rfl;have R:=y 2 _ rfl;have T:=y 3 _ rfl;rw [show xs[0]?=some (xs[0]'(by rw [hlen];decide)) by simp] at M;rw [show xs[1]?=some (xs[1]'(by rw [hlen];decide)) by simp] at h1;rw [show xs[2]?=some (xs[2]'(by rw [hlen];decide)) by simp] at R;rw [show xs[3]?=some (xs[3]'(by rw [hlen];decide)) by simp] at T;obtain ⟨k0,e0,_⟩:=DataW.trod_string Tryz.underlying9 M;obtain ⟨k1,U,_⟩:=DataW.trod_int Tryz.underlying3 h1;have A:[a]=[Value.string k0]:=e0;have C:[b]=[Value.int .i64 k1]:=U;cases A;cases C;obtain ⟨X,V,f,rfl,F,E,D,_⟩:=Zn1 (α:=Ty) (v:=c) (hp 2 _) Tryz.underlying23 (by kernel_rfl) Zn7 R;obtain ⟨mo,mc,l,rfl,I,Z,G,_⟩:=Zn1 (α:=Int) (v:=d) (hp 3 _) Tryz.underlying27 (by kernel_rfl) Zn6 T;exact ⟨(⟨k0,k1,f,l⟩,⟨X,V,mo,mc⟩),rfl,F,I,E,D,G⟩
theorem Zod (n:Nat) (cs:List Value) (z:DataW H × List MemPlace) (hz:Rows.uptoBulk z.1≤1048576) (Z:cs.length=Cells.n (Mth × MHd)) (h:DataW.trod enc Tryz.prog W 0 (fun _=>true) true n 70 cs=some z):∃ x:Mth × MHd,cs=Cells.cells x∧Zob W x:=by
 obtain ⟨xs,n,_,M,_,hlen,f⟩:=DataW.trod_struct Tryz.underlying70 h;have hp:∀ i (hi:i<xs.length),Rows.uptoBulk (xs[i]).1≤1048576:=fun i hi=>Zn9 M hz hi;obtain ⟨a,b,c,d,r,s,k,rfl⟩:=Zn5 Z;have R:=f 0 _ rfl;have h1:=f 1 _ rfl;have T:=f 2 _ rfl;have U:=f 3 _ rfl;have V:=f 4 _ rfl;have X:=f 5 _ rfl;rw [show xs[0]?=some (xs[0]'(by rw [hlen];decide)) by simp] at R;rw [show xs[1]?=some (xs[1]'(by rw [hlen];decide)) by simp] at h1;rw [show xs[2]?=some (xs[2]'(by rw [hlen];decide)) by simp] at T;rw [show xs[3]?=some (xs[3]'(by rw [hlen];decide)) by simp] at U;rw [show xs[4]?=some (xs[4]'(by rw [hlen];decide)) by simp] at V;rw [show xs[5]?=some (xs[5]'(by rw [hlen];decide)) by simp] at X;obtain ⟨k0,e0,_⟩:=DataW.trod_string Tryz.underlying9 R;obtain ⟨k1,Y,_⟩:=DataW.trod_int Tryz.underlying3 h1;have y:[a]=[Value.string k0]:=e0;have A:[b]=[Value.int .i64 k1]:=Y;cases y;cases A;obtain ⟨po,pc,p,rfl,I,ab,G,_⟩:=Zn1 (α:=Ty) (v:=c) (hp 2 _) Tryz.underlying23 (by kernel_rfl) Zn7 T;obtain ⟨lo,lc,l,rfl,F,aa,E,_⟩:=Zn1 (α:=Ty) (v:=d) (hp 3 _) Tryz.underlying23 (by kernel_rfl) Zn7 U;obtain ⟨t,ht,_⟩:=Zn7 (cs:=[r,s]) _ _ (hp 4 _) rfl V;have J:[r,s]=[Value.int .i64 t.k,Value.int .i64 t.c]:=ht;cases J;obtain ⟨ko,kc,q,rfl,D,hkl,C,_⟩:=Zn1 (α:=In3) (v:=k) (hp 5 _) Tryz.underlying68 (by kernel_rfl) Zn8 X;exact ⟨(⟨k0,k1,p,l,t,q⟩,⟨po,pc,lo,lc,ko,kc⟩),rfl,I,F,D,G,E,C⟩
theorem Zoe {α β:Type} [Inhabited α] [Inhabited (α × β)] (l:List (α × β)) {i:Nat} (a:i<l.length):(l.map Prod.fst).getD i default=(l.getD i default).1:=by simp [a]
theorem Zof {α β:Type} [Inhabited β] [Inhabited (α × β)] (l:List (α × β)):((l.map Prod.fst).mapIdx fun i x=>(x,(l.getD i default).2))=l:=by
 apply List.ext_getElem
 ·simp
 ·intro i b a;simp [a]
structure MdB (m:Md):Prop where
 z:m.cl.length≤1048576∧m.st.length≤1048576∧m.me.length≤1048576
 c:∀ i,i<m.cl.length→(m.cl.getD i default).f.length≤1048576∧(m.cl.getD i default).m.length≤1048576
 m:∀ i,i<m.me.length→(m.me.getD i default).p.length≤1048576∧(m.me.getD i default).l.length≤1048576∧(m.me.getD i default).k.length≤1048576
section
variable {r:Reach}{b0:Nat}{v:Value}{d:DataW H}{ps:List MemPlace}(hval:Value.okWide Tryz.prog W r b0 26 v)(hd:DataW.Trod enc Tryz.prog W 0 (fun _=>true) true 26 v d ps)(hN:Rows.uptoBulk d≤1048576)
include r b0 v d ps hval hd hN
theorem Zog:
  ∃ h m,v=.agg (HM.mk h m)∧Zaz W h m∧MdB m:=by
 obtain ⟨O,Q,R,S,T,U,V,X,n,rfl,j,_,y,A,B,C⟩:=Go.Joins.open_agg4 Tryz.underlying26 (by kernel_rfl) (by kernel_rfl) hval hd;rw [j] at hN;simp only [Rows.uptoBulk,Rows.uptoBulkAll] at hN;obtain ⟨p,o,e,rfl,g,D,E,c⟩:=Zn1 (α:=Cls × CHd) (v:=O) (by omega) Tryz.underlying22 (by kernel_rfl) Zoc y;obtain ⟨L,K,M,rfl,l,I,J,_⟩:=Zn1 (α:=Ty) (v:=Q) (by omega) Tryz.underlying23 (by kernel_rfl) Zn7 A;obtain ⟨t,q,f,rfl,k,F,G,b⟩:=Zn1 (α:=Mth × MHd) (v:=R) (by omega) Tryz.underlying24 (by kernel_rfl) Zod B;obtain ⟨s,u,_⟩:=DataW.trod_int Tryz.underlying3 C;obtain rfl:S=_:=by simpa using u
 refine ⟨⟨p,o,L,K,t,q,fun i=>(e.getD i default).2,fun i=>(f.getD i default).2⟩,⟨e.map Prod.fst,M,f.map Prod.fst,s⟩,by simp,?_,⟨by dsimp only;simp only [List.length_map];omega,fun i a=>?_,fun i a=>?_⟩⟩
 rotate_left
 ·dsimp only at a ⊢;rw [List.length_map] at a;rw [Zoe _ a];exact (c i a).2.2.2
 ·dsimp only at a ⊢;rw [List.length_map] at a;rw [Zoe _ a];exact (b i a).2.2.2
 refine ⟨?_,l,?_,?_,?_,?_,?_,?_,?_,?_,?_⟩
 ·show Zas W p o ((e.map Prod.fst).mapIdx fun i x=>(x,(e.getD i default).2));rw [Zof];exact g
 ·show Zas W t q ((f.map Prod.fst).mapIdx fun i x=>(x,(f.getD i default).2));rw [Zof];exact k
 all_goals try (intro i a;dsimp only at a ⊢;rw [List.length_map] at a;rw [Zoe _ a])
 ·exact (c i a).1
 ·exact (c i a).2.1
 ·exact (b i a).1
 ·exact (b i a).2.1
 ·exact (b i a).2.2.1
 ·exact (c i a).2.2.1
 ·have:=(b i a).2.2.2;omega
 ·dsimp only;simp only [List.length_map];omega
theorem Zoh:
  ∃ h m,v=.agg (HM.mk h m)∧Zaz W h m:=by
 obtain ⟨h,m,a,b,_⟩:=Zog hval hd hN;exact ⟨h,m,a,b⟩
end
theorem Zoi {r:Reach}{b0:Nat}{v:Value}{d:DataW H}{ps:List MemPlace} (hval:Value.okWide Tryz.prog W r b0 38 v) (hd:DataW.Trod enc Tryz.prog W 0 (fun _=>true) true 38 v d ps) :
  ∃ t:Ty,v=.agg #[.int .i64 t.k,.int .i64 t.c]:=by
 obtain ⟨v0,A,y0,y1,n,rfl,_,_,y,h1⟩:=Go.Joins.open_agg2 Tryz.underlying38 (by kernel_rfl) (by kernel_rfl) hval hd;obtain ⟨k0,e0,_⟩:=DataW.trod_int Tryz.underlying3 y;obtain ⟨k1,f,_⟩:=DataW.trod_int Tryz.underlying3 h1;obtain rfl:v0=_:=by simpa using e0
 obtain rfl:A=_:=by simpa using f
 exact ⟨⟨k0,k1⟩,rfl⟩
end
end
section
theorem Zoj {m:Md} (h:MdB m):ZnI m:=
 ⟨by have:=h.z;omega,by have:=h.z;omega,by have:=h.z;omega,fun i a=>by have:=h.c i a;omega,fun i a=>by have:=h.m i a;omega⟩
end
