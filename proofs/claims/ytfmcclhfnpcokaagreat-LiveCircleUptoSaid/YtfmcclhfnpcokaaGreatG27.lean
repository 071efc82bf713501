import Derived.Test.YtfmcclhfnpcokaaGreatG22
import Derived.Test.YtfmcclhfnpcokaaGreatG25
import Derived.Test.YtfmcclhfnpcokaaGreatG24
set_option linter.all false
set_option maxRecDepth 100000
set_option maxHeartbeats 8000000
namespace Go.Proofs.YtfmcclhfnpcokaaGreat
theorem j2{p:Prop}(h:p:=by
 clear h;go_enter Tryz.func75,Tryz.ntmps75
 go_wp2_with (go_at_call 135;refine (Zoz _ _ a b c _ (by simp [go_sem]) (by simp [go_sem]) (by simp [go_sem])).mono ?_;rintro e w' ⟨rfl,rfl⟩)
 exact ZoN (F:=w.heap.size+1) Tryz.results75 rfl rfl rfl (by simp [go_sem]) (by simp [go_sem]) (by simp [go_sem]) (((Below.refl _ _).alloc (Nat.le_refl _) _).alloc (by simp) _)):p:=h
theorem j4{p:Prop}(h:p:=by
 simp only [List.nodup_cons,List.mem_cons,List.not_mem_nil,or_false,not_or,not_false_eq_true,List.nodup_nil,and_true];exact h8):p:=h
theorem j5{p:Prop}(h:p:=by
 go_enter Tryz.func203,Tryz.ntmps203;go_wp2
 go_quiet (fail)
 go_wp2;go_ret;exact ⟨Zaa HV.out.symm,_,rfl⟩):p:=h
theorem j7{p:Prop}(h:p:=by
 by_cases q:c∈U
 ·rw [if_pos ⟨c,q,rfl⟩];simp [q]
 ·rw [if_neg (fun ⟨u,hu,e⟩=>q (by have:u=c:=(by omega);subst this;exact hu))];simp [q]):p:=h
theorem j8{p:Prop}(h:p:=by
 go_wp2
 all_goals
  go_round
  case rel=>exact .inr (.inl ⟨rfl,by first|rfl|(congr 1;omega)⟩)
  case measure=>simp [intOf]):p:=h
theorem j10{p:Prop}(h:p:=by
 go_ret;exact ⟨Zab (by rw [HT.out];rfl),(Below.refl _ _).alloc (Nat.le_refl _) _⟩):p:=h
section
open Go.RowKit
attribute [local go_sem] World.cell?_alloc_some
def ZnG (n:Int) (arr:Bool):Int × Int × Int:=if 1+n≤2 then (1,0,0) else if 1+n≤4 then (0,1,0) else if arr=false∨n≤7 then (0,0,1) else (0,0,1+(n+7) / 8)
def ag3 (t:Int × Int × Int):Value:=.agg #[.int .i64 t.1,.int .i64 t.2.1,.int .i64 t.2.2]
theorem ZnH {w w1:World}{B:Nat}{a b c:Int} (h:Blk w1 B #[.int .i64 0,.int .i64 0,.int .i64 0] 45) (e:Below w.heap.size w w1) (d:w.heap.size≤B):Blk (((w1.setCell ⟨B,0,none⟩ (.int .i64 a)).setCell ⟨B,1,none⟩ (.int .i64 b)).setCell ⟨B,2,none⟩ (.int .i64 c)) B #[.int .i64 a,.int .i64 b,.int .i64 c] 45∧Below w.heap.size w (((w1.setCell ⟨B,0,none⟩ (.int .i64 a)).setCell ⟨B,1,none⟩ (.int .i64 b)).setCell ⟨B,2,none⟩ (.int .i64 c)):=
 ⟨((h.set 0 _).set 1 _).set 2 _,ZcS (j:=2) (ZcS (j:=1) (ZcS (j:=0) e d _) d _) d _⟩
theorem ZnI (n:Int) (d:Bool) (w:World) (h0:0≤n) (h1:n≤100000):Calls Tryz.prog 270 #[.int .i64 n,.bool d] w (Ret w (ag3 (ZnG n d))):=by
 have j:=Blk.new w #[.int .i64 0,.int .i64 0,.int .i64 0] 45;have q:=Zh (fun a b c=>ZnH (w:=w) (a:=a) (b:=b) (c:=c) j bE (Nat.le_refl _));have r:=Zh (show ZnG n d=ZnG n d from rfl);obtain ⟨v,f⟩:∃ v,v=ZnG n d:=⟨_,rfl⟩;rw [←f];have e:=Zh f;have k:IntKind.i64.wrap (1+n)=1+n:=IntWalk.i64_in _ (by omega);have l:IntKind.i64.wrap (n+7)=n+7:=IntWalk.i64_in _ (by omega);clear j f;go_enter Tryz.func270,Tryz.ntmps270;go_wp2
 all_goals
  refine bodyPost_ret (v:=ag3 v) (by rw [e.out];unfold ZnG;simp [results,Tryz.results270,go_sem,ag3];grind) rfl ⟨rfl,by exact bE⟩
def szV (m:Md) (i:In3):Int × Int × Int:=if i.op=14 then ZnG (m.cl.getD i.a.toNat default).f.length false else if i.op=15∨i.op=16 then ZnG i.a true else (0,0,0)
def ZnJ (m:Md) (i:In3):Prop:=(i.op=14→0≤i.a∧i.a<m.cl.length∧(m.cl.getD i.a.toNat default).f.length≤100000)∧(i.op=15∨i.op=16→0≤i.a∧i.a≤1000)
theorem ZnK (m:Md) (h:Hd) (i:In3) (w:World) (H:Zaz w h m) (hi:ZnJ m i):Calls Tryz.prog 210 #[.agg (HM.mk h m),ZI.i i] w (Ret w (ag3 (szV m i))):=by
 obtain ⟨r,z,W⟩:=i;obtain ⟨t,u⟩:=hi;dsimp only at t u ⊢;obtain ⟨G,l⟩:∃ G,G=((w.alloc (.cells (HM.mk h m) 26)).alloc (.cells #[.int .i64 r,.int .i64 z,.int .i64 W] 72)).alloc (.cells #[.int .i64 0,.int .i64 0,.int .i64 0] 45):=⟨_,rfl⟩;have Z:Below w.heap.size w G:=by rw [l];exact bE
 have hX:Blk G w.heap.size (HM.mk h m) 26:=by rw [l];exact ((Blk.new _ _ _).alloc _).alloc _
 have hI:Blk G (w.heap.size+1) #[.int .i64 r,.int .i64 z,.int .i64 W] 72:=by rw [l];exact (Blk.new' (w:=w.alloc (.cells (HM.mk h m) 26)) _ _ (by simp)).alloc _
 have hR:Blk G (w.heap.size+2) #[.int .i64 0,.int .i64 0,.int .i64 0] 45:=by rw [l];exact Blk.new' (w:=(w.alloc (.cells (HM.mk h m) 26)).alloc (.cells #[.int .i64 r,.int .i64 z,.int .i64 W] 72)) _ _ (by simp)
 have X:=Zh Z;have HX:=Zh hX;have HI:=Zh hI;have y:=Zh hR;have Hj:=Zh (H.old Z);have V:=Zh l;obtain ⟨v,C⟩:∃ v,v=szV m ⟨r,z,W⟩:=⟨_,rfl⟩;rw [←C];clear l Z hX hI hR H;have i0:=HI.out.cell 0 (v:=.int .i64 r) rfl;have i1:=HI.out.cell 1 (v:=.int .i64 z) rfl;by_cases q14:r=14
 ·subst q14;obtain ⟨h0,h1,h2⟩:=t rfl;obtain ⟨a,rfl⟩:∃ d:Nat,z=d:=⟨z.toNat,by omega⟩;have Y:a<m.cl.length:=by omega
  obtain ⟨ad,I,-,-,e2,-⟩:=Hj.out.cls Y;have x0:=HX.out.cell 0 (v:=.slice h.co m.cl.length h.cc) rfl;rw [I] at x0 V ⊢;have j:v=ZnG (m.cl.getD a default).f.length false:=by rw [C];unfold szV;rw [if_pos rfl];rfl
  rw [Int.toNat_natCast] at h2;generalize (m.cl.getD a default).f.length=n at e2 j h2;have s:=Zh (fun w'=>ZnI n false w' (by omega) (by omega));rw [←j] at s;clear C j t u I;go_enter Tryz.func210,Tryz.ntmps210
  go_upto_region 1 with fail
  rw [←V.out]
  go_wp2_with (go_at_call 270;refine (s.out _).mono ?_;rintro e w2 ⟨rfl,x⟩;have A:=Zh (Zag X.out x);have f:=y.out.old x;obtain ⟨D,E,F⟩:=v;have N:=f.cell 0 (v:=.int .i64 0) rfl;have O:=f.cell 1 (v:=.int .i64 0) rfl;have P:=f.cell 2 (v:=.int .i64 0) rfl;have J:=f.frozen 0;have K:=f.frozen 1;have L:=f.frozen 2;have hl:=f.lt;have B:=Zh f;unfold ag3)
  have k:=ZnH (w:=w) (a:=D) (b:=E) (c:=F) B.out A.out (by omega);have Q:=k.1.cell 0 (v:=.int .i64 D) rfl;have R:=k.1.cell 1 (v:=.int .i64 E) rfl;have T:=k.1.cell 2 (v:=.int .i64 F) rfl;exact bodyPost_ret (v:=ag3 (D,E,F)) (by simp [results,Tryz.results210,go_sem,Q,R,T,ag3]) rfl ⟨rfl,k.2⟩
 ·by_cases q15:r=15∨r=16
  ·obtain ⟨h0,h1⟩:=u q15;have j:v=ZnG z true:=by rw [C];unfold szV;rw [if_neg q14,if_pos q15]
   have s:=Zh (fun w'=>ZnI z true w' h0 (by omega));rw [←j] at s;clear C j t u;have q2:r=15∨(r=16∧¬ r=15):=by omega
   rcases q2 with q|⟨q,q3⟩
   all_goals
    subst q;go_enter Tryz.func210,Tryz.ntmps210
    go_upto_region 1 with fail
    rw [←V.out]
    go_wp2_with (go_at_call 270;refine (s.out _).mono ?_;rintro e w2 ⟨rfl,x⟩;have A:=Zh (Zag X.out x);have f:=y.out.old x;obtain ⟨D,E,F⟩:=v;have N:=f.cell 0 (v:=.int .i64 0) rfl;have O:=f.cell 1 (v:=.int .i64 0) rfl;have P:=f.cell 2 (v:=.int .i64 0) rfl;have J:=f.frozen 0;have K:=f.frozen 1;have L:=f.frozen 2;have hl:=f.lt;have B:=Zh f;unfold ag3)
    have k:=ZnH (w:=w) (a:=D) (b:=E) (c:=F) B.out A.out (by omega);have Q:=k.1.cell 0 (v:=.int .i64 D) rfl;have R:=k.1.cell 1 (v:=.int .i64 E) rfl;have T:=k.1.cell 2 (v:=.int .i64 F) rfl;exact bodyPost_ret (v:=ag3 (D,E,F)) (by simp [results,Tryz.results210,go_sem,Q,R,T,ag3]) rfl ⟨rfl,k.2⟩
  ·have j:v=(0,0,0):=by rw [C];unfold szV;rw [if_neg q14,if_neg q15]
   subst j;have af:¬ r=15:=fun q=>q15 (.inl q);have ak:¬ r=16:=fun q=>q15 (.inr q);have N:=y.out.cell 0 (v:=.int .i64 0) rfl;have O:=y.out.cell 1 (v:=.int .i64 0) rfl;have P:=y.out.cell 2 (v:=.int .i64 0) rfl;have J:=y.out.frozen 0;have K:=y.out.frozen 1;have L:=y.out.frozen 2;have hl:=y.out.lt;clear C t u;go_enter Tryz.func210,Tryz.ntmps210
   go_upto_region 1 with fail
   rw [←V.out];go_wp2
   all_goals
    have k:=ZnH (w:=w) (a:=0) (b:=0) (c:=0) y.out X.out (by omega);have Q:=k.1.cell 0 (v:=.int .i64 0) rfl;have R:=k.1.cell 1 (v:=.int .i64 0) rfl;have T:=k.1.cell 2 (v:=.int .i64 0) rfl;exact bodyPost_ret (v:=ag3 (0,0,0)) (by simp [results,Tryz.results210,go_sem,Q,R,T,ag3]) rfl ⟨rfl,k.2⟩
end
section
abbrev T3:=Int × Int × Int
def z3:T3:=(0,0,0)
def plT (a b:T3):T3:=(Zms (a.1+b.1),Zms (a.2.1+b.2.1),Zms (a.2.2+b.2.2))
def mxT (a b:T3):T3:=(Zmt a.1 b.1,Zmt a.2.1 b.2.1,Zmt a.2.2 b.2.2)
def mlT (a:T3) (n:Int):T3:=(Zms (a.1*n),Zms (a.2.1*n),Zms (a.2.2*n))
def BdT (a:T3):Prop:=Bd a.1∧Bd a.2.1∧Bd a.2.2
theorem ZnL {n:Int} (h:0≤n):Bd (Zms n):=by unfold Bd Zms;split<;>omega
theorem ZnM {a b:Int} (h:Bd a) (g:Bd b):Bd (Zmt a b):=by unfold Zmt;split<;>assumption
theorem BdT.z:BdT z3:=by simp [BdT,Bd,z3]
theorem BdT.pl {a b:T3} (h:BdT a) (g:BdT b):BdT (plT a b):=
 ⟨ZnL (Int.add_nonneg h.1.1 g.1.1),ZnL (Int.add_nonneg h.2.1.1 g.2.1.1),ZnL (Int.add_nonneg h.2.2.1 g.2.2.1)⟩
theorem BdT.mx {a b:T3} (h:BdT a) (g:BdT b):BdT (mxT a b):=⟨ZnM h.1 g.1,ZnM h.2.1 g.2.1,ZnM h.2.2 g.2.2⟩
theorem BdT.ml {a:T3}{n:Int} (h:BdT a) (hn:0≤n):BdT (mlT a n):=
 ⟨ZnL (Int.mul_nonneg h.1.1 hn),ZnL (Int.mul_nonneg h.2.1.1 hn),ZnL (Int.mul_nonneg h.2.2.1 hn)⟩
theorem ZnN {n:Int}{b:Bool} (h0:0≤n) (h1:n≤1000):BdT (ZnG n b):=by
 unfold ZnG BdT Bd;split
 ·simp
 ·split
  ·simp
  ·split
   ·simp
   ·simp;omega
def ZnO (t:Ty) (i:In3):Bool:=decide (t.k=3∧i.op=15∨t.k=4∧i.op=16∧i.b=t.c)
def ZnP (t:Ty) (c:List In3):List Int:=(c.filter (ZnO t)).map (·.a)
def ZnQ (m:Md) (t:Ty):List Int:=m.me.flatMap fun x=>ZnP t x.k
def ZnR (l:List Int) (n:Int):Int:=l.foldl Zmt n
def ZnS (m:Md) (t:Ty):Int:=ZnR (ZnQ m t) 0
def ZnT (l:List Int) (a:T3):T3:=l.foldl (fun o n=>mxT o (ZnG n true)) a
def ZnU (m:Md) (t:Ty):T3:=ZnT (ZnQ m t) z3
def ZnV (m:Md) (c:Nat):Bool:=m.me.any fun x=>x.k.any fun i=>decide (i.op=14∧i.a=c)
def ZnW (m:Md) (c:Nat):List Nat:=(List.range m.cl.length).filter fun d=>ZaI m (d+1) d c&&ZnV m d
def ZnX (m:Md) (V:Nat→Option T3) (t:Ty):Option T3:=
 if t.k=3 then some (ZnU m t) else if t.k=2 then V t.c.toNat
 else if t.k=4 then (if ZnS m t=0 then some (ZnU m t) else match V t.c.toNat with|none=>none|some x=>some (plT (ZnU m t) (mlT x (ZnS m t)))) else some z3
def ZnY (F:Ty→Option T3):T3→List Ty→Option T3
 | a,[]=>some a
 | a,t :: r=>match F t with|none=>none|some x=>ZnY F (plT a x) r
def fsC (m:Md) (d:Nat):List Ty:=(m.cl.getD d default).f
def szC (m:Md) (d:Nat):T3:=ZnG (fsC m d).length false
def ZnZ (m:Md) (V:Nat→Option T3):T3→List Nat→Option T3
 | a,[]=>some a
 | a,d :: r=>match ZnY (ZnX m V) (szC m d) (fsC m d) with|none=>none|some s=>ZnZ m V (mxT a s) r
def Zn0 (m:Md):Nat→Nat→Option T3
 | 0,_=>none
 | n+1,c=>ZnZ m (Zn0 m n) z3 (ZnW m c)
def Zn1 (m:Md) (c:Nat):Option T3:=Zn0 m m.cl.length c
def Zn2 (m:Md) (t:Ty):Option T3:=ZnX m (Zn1 m) t
def Le (V W:Nat→Option T3):Prop:=∀ c x,V c=some x→W c=some x
theorem Zn3 {F G:Ty→Option T3} (h:∀ t x,F t=some x→G t=some x):∀ {l:List Ty}{a s:T3},ZnY F a l=some s→ZnY G a l=some s
 | [],_,_,e=>e
 | t :: r,a,s,e=>by
  unfold ZnY at e ⊢;cases hf:F t with
  | none=>rw [hf] at e;cases e
  | some x=>rw [hf] at e;rw [h t x hf];exact Zn3 h e
theorem Zn4 {m:Md}{V W:Nat→Option T3} (h:Le V W) (t:Ty) (x:T3) (e:ZnX m V t=some x):ZnX m W t=some x:=by
 unfold ZnX at e ⊢;by_cases q3:t.k=3
 ·rw [if_pos q3] at e ⊢;exact e
 rw [if_neg q3] at e ⊢;by_cases q2:t.k=2
 ·rw [if_pos q2] at e ⊢;exact h _ _ e
 rw [if_neg q2] at e ⊢;by_cases q4:t.k=4
 ·rw [if_pos q4] at e ⊢;by_cases ql:ZnS m t=0
  ·rw [if_pos ql] at e ⊢;exact e
  rw [if_neg ql] at e ⊢;cases hv:V t.c.toNat with
  | none=>rw [hv] at e;cases e
  | some y=>rw [hv] at e;rw [h _ _ hv];exact e
 ·rw [if_neg q4] at e ⊢;exact e
theorem Zn5 {m:Md}{V W:Nat→Option T3} (h:Le V W):∀ {l:List Nat}{a s:T3},ZnZ m V a l=some s→ZnZ m W a l=some s
 | [],_,_,e=>e
 | d :: r,a,s,e=>by
  unfold ZnZ at e ⊢;cases hf:ZnY (ZnX m V) (szC m d) (fsC m d) with
  | none=>rw [hf] at e;cases e
  | some x=>rw [hf] at e;rw [Zn3 (Zn4 h) hf];exact Zn5 h e
theorem Zn6 (m:Md):∀ n,Le (Zn0 m n) (Zn0 m (n+1))
 | 0=>fun _ _ e=>by cases e
 | n+1=>fun c x e=>by unfold Zn0 at e ⊢;exact Zn5 (Zn6 m n) e
theorem Zn7 {m:Md}{c d:Nat} (h:d∈ZnW m c):d<m.cl.length:=List.mem_range.1 (List.mem_filter.1 h).1
theorem Zn8 {m:Md} (e:Za2 m=true) {d:Nat} (f:d<m.cl.length):∀ t∈fsC m d,Zfk m t:=by have h:=ZfN e (c:=d) (by omega) (by omega);rwa [Int.toNat_natCast] at h
theorem Zn9 {m:Md}{V W:Nat→Option T3} (h:∀ c,c<m.cl.length→V c=W c) {t:Ty} (d:Zfk m t):ZnX m V t=ZnX m W t:=by
 unfold ZnX;by_cases q:t.k=2∨t.k=4
 ·have f:=ZfH d q;rw [h t.c.toNat (by omega)]
 ·rw [if_neg (fun e=>q (.inl e)),if_neg (fun e=>q (.inr e)),if_neg (fun e=>q (.inl e)),if_neg (fun e=>q (.inr e))]
theorem Zoa {F G:Ty→Option T3}:∀ {l:List Ty}{a:T3},(∀ t∈l,F t=G t)→ZnY F a l=ZnY G a l
 | [],_,_=>rfl
 | t :: r,a,h=>by
  unfold ZnY;rw [h t (by simp)];cases G t with
  | none=>rfl
  | some x=>exact Zoa fun u d=>h u (by simp [d])
theorem Zob {m:Md} (f:Za2 m=true) {V W:Nat→Option T3} (h:∀ c,c<m.cl.length→V c=W c):∀ {l:List Nat}{a:T3},(∀ d∈l,d<m.cl.length)→ZnZ m V a l=ZnZ m W a l
 | [],_,_=>rfl
 | d :: r,a,hl=>by
  unfold ZnZ;rw [Zoa fun t k=>Zn9 h (Zn8 f (hl d (by simp)) t k)];cases ZnY (ZnX m W) (szC m d) (fsC m d) with
  | none=>rfl
  | some x=>exact Zob f h fun e j=>hl e (by simp [j])
def Zoc (m:Md) (n:Nat):Nat:=((List.range m.cl.length).filter fun c=>(Zn0 m n c).isSome).length
theorem Zod {α:Type} (p q:α→Bool) (h:∀ x,p x=true→q x=true):∀ l:List α,(l.filter p).length≤(l.filter q).length∧((l.filter p).length=(l.filter q).length→∀ x∈l,q x=p x)
 | []=>by simp
 | x :: r=>by
  obtain ⟨h1,h2⟩:=Zod p q h r;cases hp:p x with
  | true=>
   have f:=h x hp;simp only [List.filter_cons_of_pos hp,List.filter_cons_of_pos f,List.length_cons];refine ⟨by omega,fun e y d=>?_⟩;rcases List.mem_cons.1 d with rfl|d
   ·rw [hp,f]
   ·exact h2 (by omega) y d
  | false=>
   cases f:q x with
   | true=>
    simp only [List.filter_cons_of_neg (show ¬ p x=true by simp [hp]),List.filter_cons_of_pos f,List.length_cons];exact ⟨by omega,fun e=>by omega⟩
   | false=>
    simp only [List.filter_cons_of_neg (show ¬ p x=true by simp [hp]),List.filter_cons_of_neg (show ¬ q x=true by simp [f])];refine ⟨h1,fun e y d=>?_⟩;rcases List.mem_cons.1 d with rfl|d
    ·rw [hp,f]
    ·exact h2 e y d
theorem Zoe (m:Md) (n:Nat):Zoc m n≤Zoc m (n+1)∧(Zoc m n=Zoc m (n+1)→∀ c,c<m.cl.length→Zn0 m (n+1) c=Zn0 m n c):=by
 have d:=Zod (fun c=>(Zn0 m n c).isSome) (fun c=>(Zn0 m (n+1) c).isSome) (fun c h=>by
  obtain ⟨x,j⟩:=Option.isSome_iff_exists.1 h;simp [Zn6 m n c x j]) (List.range m.cl.length)
 refine ⟨d.1,fun e c f=>?_⟩;have h2:=d.2 e c (List.mem_range.2 f);cases hv:Zn0 m n c with
 | none=>
  rw [hv] at h2;cases hw:Zn0 m (n+1) c with
  | none=>rfl
  | some x=>rw [hw] at h2;cases h2
 | some x=>exact Zn6 m n c x hv
theorem Zof {m:Md} (f:Za2 m=true) {n:Nat} (h:∀ c,c<m.cl.length→Zn0 m (n+1) c=Zn0 m n c):∀ j c,c<m.cl.length→Zn0 m (n+j) c=Zn0 m n c
 | 0,_,_=>rfl
 | j+1,c,hc=>by rw [←h c hc];show ZnZ m (Zn0 m (n+j)) z3 (ZnW m c)=ZnZ m (Zn0 m n) z3 (ZnW m c);exact Zob f (fun d e=>Zof f h j d e) fun d e=>Zn7 e
theorem Zog (m:Md):∀ n,(∃ k,k<n∧Zoc m k=Zoc m (k+1))∨n≤Zoc m n
 | 0=>.inr (Nat.zero_le _)
 | n+1=>by
  rcases Zog m n with ⟨k,d,e⟩|h
  ·exact .inl ⟨k,by omega,e⟩
  ·have:=(Zoe m n).1;by_cases e:Zoc m n=Zoc m (n+1)
   ·exact .inl ⟨n,by omega,e⟩
   ·exact .inr (by omega)
theorem Zoh (m:Md) (n:Nat):Zoc m n≤m.cl.length:=by have:=List.length_filter_le (fun c=>(Zn0 m n c).isSome) (List.range m.cl.length);rwa [List.length_range] at this
theorem Zoi {m:Md} (j:Za2 m=true) (n:Nat) (h:m.cl.length≤n):∀ c,c<m.cl.length→Zn0 m n c=Zn1 m c:=by
 have d:∃ k,k≤m.cl.length∧∀ c,c<m.cl.length→Zn0 m (k+1) c=Zn0 m k c:=by
  rcases Zog m (m.cl.length+1) with ⟨k,l,e⟩|h1
  ·exact ⟨k,by omega,(Zoe m k).2 e⟩
  ·have:=Zoh m (m.cl.length+1);omega
 obtain ⟨k,l,e⟩:=d;intro c f;have h1:=Zof j e (n-k) c f;have h2:=Zof j e (m.cl.length-k) c f;rw [show k+(n-k)=n by omega] at h1;rw [show k+(m.cl.length-k)=m.cl.length by omega] at h2;unfold Zn1;rw [h1,h2]
theorem Zoj {m:Md} (e:Za2 m=true) {c:Nat} (d:c<m.cl.length):Zn1 m c=ZnZ m (Zn1 m) z3 (ZnW m c):=by rw [←Zoi e (m.cl.length+1) (by omega) c d];rfl
def Zok (m:Md) (f:Ty) (d:Nat):Prop:=(f.k=2∨f.k=4∧ZnS m f≠0)∧f.c.toNat=d
def Dep (m:Md) (c d:Nat):Prop:=∃ e∈ZnW m c,∃ f∈fsC m e,Zok m f d
theorem Zol {m:Md}{V:Nat→Option T3}{f:Ty}{d:Nat} (h:Zok m f d) (e:V d=none):ZnX m V f=none:=by
 obtain ⟨h1,rfl⟩:=h;unfold ZnX;rcases h1 with q|⟨q,hl⟩
 ·rw [if_neg (by omega),if_pos q];exact e
 ·rw [if_neg (by omega),if_neg (by omega),if_pos q,if_neg hl,e]
theorem Zom {F:Ty→Option T3}:∀ {l:List Ty}{a:T3}{f:Ty},f∈l→F f=none→ZnY F a l=none
 | t :: r,a,f,hf,h=>by
  unfold ZnY;rcases List.mem_cons.1 hf with rfl|hf
  ·rw [h]
  ·cases F t with
   | none=>rfl
   | some x=>exact Zom hf h
theorem Zon {m:Md}{V:Nat→Option T3}:∀ {l:List Nat}{a:T3}{e:Nat},e∈l→ZnY (ZnX m V) (szC m e) (fsC m e)=none→ZnZ m V a l=none
 | d :: r,a,e,he,h=>by
  unfold ZnZ;rcases List.mem_cons.1 he with rfl|he
  ·rw [h]
  ·cases ZnY (ZnX m V) (szC m d) (fsC m d) with
   | none=>rfl
   | some x=>exact Zon he h
theorem Zoo {m:Md}{V:Nat→Option T3}{c d:Nat} (h:Dep m c d) (n:V d=none):ZnZ m V z3 (ZnW m c)=none:=by obtain ⟨e,j,f,k,l⟩:=h;exact Zon j (Zom k (Zol l n))
inductive Zop (m:Md):Nat→Nat→Prop where
 | refl (c:Nat):Zop m c c
 | step {c d u:Nat}:Dep m c d→Zop m d u→Zop m c u
theorem Zoq {m:Md}{c d n:Nat}{x:T3} (h:Dep m c d) (e:Zn0 m (n+1) c=some x):∃ y,Zn0 m n d=some y:=by
 cases hd:Zn0 m n d with
 | some y=>exact ⟨y,rfl⟩
 | none=>
  have:=Zoo h hd;unfold Zn0 at e;rw [e] at this;cases this
theorem Zor {m:Md}{c u:Nat} (h:Zop m c u):∀ {n:Nat}{x:T3},Zn0 m n c=some x→∃ y,Zn0 m n u=some y:=by
 induction h with
 | refl c=>exact fun e=>⟨_,e⟩
 | step hd _ ih=>
  intro n x e;cases n with
  | zero=>cases e
  | succ n=>
   obtain ⟨y,d⟩:=Zoq hd e;exact ih (Zn6 m n _ _ d)
theorem Zos {m:Md}{c d:Nat} (h:Dep m c d) (f:Zop m d c):∀ n,Zn0 m n c=none
 | 0=>rfl
 | n+1=>by
  cases e:Zn0 m (n+1) c with
  | none=>rfl
  | some x=>
   obtain ⟨y,k⟩:=Zoq h e;obtain ⟨z,j⟩:=Zor f k;rw [Zos h f n] at j;cases j
def Zot (m:Md) (U:List Nat) (c:Nat):Prop:=Zn1 m c=none∨∃ u∈U,Zop m c u
theorem Zot.up {m:Md} (hm:Za2 m=true) {U:List Nat}{c d:Nat} (hc:c<m.cl.length) (h:Dep m c d) (hs:Zot m (c :: U) d):Zot m U c:=by
 rcases hs with hn|⟨u,hu,hp⟩
 ·left
  rw [Zoj hm hc];exact Zoo h hn
 ·rcases List.mem_cons.1 hu with rfl|hu
  ·exact .inl (Zos h hp _)
  ·exact .inr ⟨u,hu,.step h hp⟩
theorem Zot.nil {m:Md}{c:Nat} (h:Zot m [] c):Zn1 m c=none:=h.elim id fun ⟨_,hu,_⟩=>by cases hu
end
section
open Go.RowKit
def tB (a b c:Int):Bool:=decide (0≤a∧a≤1000000000∧0≤b∧b≤1000000000∧0≤c∧c≤1000000000)
theorem Zou {a b c:Int}:tB a b c=true↔0≤a∧a≤1000000000∧0≤b∧b≤1000000000∧0≤c∧c≤1000000000:=by simp [tB]
theorem Zov {a b c:Int}:tB a b c=false↔¬ (0≤a∧a≤1000000000∧0≤b∧b≤1000000000∧0≤c∧c≤1000000000):=by simp [tB]
def Zow (a b c:Int):Int:=min (min a b) c
def Zox (a b c:Int):Int:=max (max a b) c
section
variable (g o:Nat)(a b c:Int)(w:World)(h0:w.cell? ⟨g,o,none⟩=some (.int .i64 a))(h1:w.cell? ⟨g,o+1,none⟩=some (.int .i64 b))(h2:w.cell? ⟨g,o+2,none⟩=some (.int .i64 c))
include g o a b c w h0 h1 h2
theorem Zoy:
  Calls Tryz.prog 147 #[.slice (some ⟨g,o,none⟩) 3 3] w fun e w'=>e=.returned (.int .i64 (Zow a b c))∧w=w':=by
 go_enter Tryz.func147,Tryz.ntmps147;go_wp2
 go_loop [3,4] (fun m i=>(i=.int .i64 1∧m=.int .i64 a)∨(i=.int .i64 2∧m=.int .i64 (min a b))∨(i=.int .i64 3∧m=.int .i64 (Zow a b c))) (fun _ i=>3-(intOf i).toNat)
 case atStart=>exact .inl ⟨rfl,rfl⟩
 case round=>
  rcases hrel with ⟨rfl,rfl⟩|⟨rfl,rfl⟩|⟨rfl,rfl⟩
  ·exact j8
  ·go_wp2
   all_goals
    go_round
    case rel=>exact .inr (.inr ⟨rfl,by unfold Zow;first|rfl|(congr 1;omega)⟩)
    case measure=>simp [intOf]
  ·go_wp2;go_ret;exact ⟨rfl,rfl⟩
theorem Zoz:
  Calls Tryz.prog 135 #[.slice (some ⟨g,o,none⟩) 3 3] w fun e w'=>e=.returned (.int .i64 (Zox a b c))∧w=w':=by
 go_enter Tryz.func135,Tryz.ntmps135;go_wp2
 go_loop [3,4] (fun m i=>(i=.int .i64 1∧m=.int .i64 a)∨(i=.int .i64 2∧m=.int .i64 (max a b))∨(i=.int .i64 3∧m=.int .i64 (Zox a b c))) (fun _ i=>3-(intOf i).toNat)
 case atStart=>exact .inl ⟨rfl,rfl⟩
 case round=>
  rcases hrel with ⟨rfl,rfl⟩|⟨rfl,rfl⟩|⟨rfl,rfl⟩
  ·exact j8
  ·go_wp2
   all_goals
    go_round
    case rel=>exact .inr (.inr ⟨rfl,by unfold Zox;first|rfl|(congr 1;omega)⟩)
    case measure=>simp [intOf]
  ·go_wp2;go_ret;exact ⟨rfl,rfl⟩
end
theorem ZoA (a b c:Int) (w:World) :
  Calls Tryz.prog 146 #[.agg #[.int .i64 a,.int .i64 b,.int .i64 c]] w fun e w'=>e=.returned (.bool (!tB a b c))∧Below w.heap.size w w':=by
 by_cases hm:Zow a b c<0
 ·have d:tB a b c=false:=by rw [Zov];unfold Zow at hm;omega
  have HT:=Zh d;clear d;go_enter Tryz.func146,Tryz.ntmps146
  go_wp2_with (go_at_call 147;refine (Zoy _ _ a b c _ (by simp [go_sem]) (by simp [go_sem]) (by simp [go_sem])).mono ?_;rintro e w' ⟨rfl,rfl⟩)
  exact j10
 ·by_cases hx:1000000000<Zox a b c
  ·have d:tB a b c=false:=by rw [Zov];unfold Zox at hx;omega
   have HT:=Zh d;clear d;go_enter Tryz.func146,Tryz.ntmps146
   go_wp2_with (first|(go_at_call 147;refine (Zoy _ _ a b c _ (by simp [go_sem]) (by simp [go_sem]) (by simp [go_sem])).mono ?_;rintro e w' ⟨rfl,rfl⟩)|(go_at_call 135;refine (Zoz _ _ a b c _ (by simp [go_sem]) (by simp [go_sem]) (by simp [go_sem])).mono ?_;rintro e w' ⟨rfl,rfl⟩))
   exact j10
  ·have d:tB a b c=true:=by rw [Zou];unfold Zox at hx;unfold Zow at hm;omega
   have HT:=Zh d;clear d;go_enter Tryz.func146,Tryz.ntmps146
   go_wp2_with (first|(go_at_call 147;refine (Zoy _ _ a b c _ (by simp [go_sem]) (by simp [go_sem]) (by simp [go_sem])).mono ?_;rintro e w' ⟨rfl,rfl⟩)|(go_at_call 135;refine (Zoz _ _ a b c _ (by simp [go_sem]) (by simp [go_sem]) (by simp [go_sem])).mono ?_;rintro e w' ⟨rfl,rfl⟩))
   go_ret;exact ⟨Zab (by rw [HT.out];simp;omega),(Below.refl _ _).alloc (Nat.le_refl _) _⟩
theorem ZoB (A:Array Value) (W:World):(callFunc 146 A).run Tryz.prog W=.ok (.enter 146 A) W:=by kernel_rfl
def ZoC (w:World) (g o:Nat) (x:Int × Int × Int):Prop:=w.cell? ⟨g,o,none⟩=some (.int .i64 x.1)∧w.cell? ⟨g,o+1,none⟩=some (.int .i64 x.2.1)∧w.cell? ⟨g,o+2,none⟩=some (.int .i64 x.2.2)
theorem ZoC.below {w w':World}{g o:Nat}{x:Int × Int × Int} (h:ZoC w g o x) (hb:Below w.heap.size w w'):ZoC w' g o x:=by
 have d:=Zad h.1;refine ⟨?_,?_,?_⟩
 ·rw [hb.cell (p:=⟨g,o,none⟩) d];exact h.1
 ·rw [hb.cell (p:=⟨g,o+1,none⟩) d];exact h.2.1
 ·rw [hb.cell (p:=⟨g,o+2,none⟩) d];exact h.2.2
def tBx (x:Int × Int × Int):Bool:=tB x.1 x.2.1 x.2.2
def ZoD (xs:List (Int × Int × Int)) (w:World) (e:Ending) (w':World):Prop:=
 ∃ r:Int,e=.returned (.int .i64 r)∧Below w.heap.size w w'∧(xs.all tBx=true→r=-1)∧(xs.all tBx=false→0≤r)
section
variable (g o:Nat)(xs:List (Int × Int × Int))(w:World)(hl:xs.length≤10)(h:∀ i,i<xs.length→ZoC w g (o+i*3) (xs.getD i (0,0,0)))
include g o xs w hl h
theorem ZoE:
  Calls Tryz.prog 207 #[.slice (some ⟨g,o,none⟩) xs.length xs.length,.func (.func 146) #[] #[]] w (ZoD xs w):=by
 have H:=Zh h;clear h;go_enter Tryz.func207,Tryz.ntmps207;go_wp2
 go_loopw [8] (fun i wr=>∃ k:Nat,k≤xs.length∧i=.int .i64 k∧Below w.heap.size w wr∧∀ j,j<k→tBx (xs.getD j (0,0,0))=true) (fun i _=>xs.length-(intOf i).toNat)
 case atStart=>exact ⟨0,by omega,rfl,Below.refl _ _,fun j l=>by omega⟩
 case round=>
  obtain ⟨k,B,rfl,s,l⟩:=hrel;have r:=Zh l;have n:=Zh s;clear l s;by_cases hlt:k<xs.length
  ·have z:=(H.out k hlt).below n.out;have t:xs[k]?=some (xs.getD k (0,0,0)):=by simp [hlt]
   have q:=Zh t;clear t
   revert z q
   generalize p:xs.getD k (0,0,0)=x;have y:=Zh p;clear p;obtain ⟨a,b,c⟩:=x;rintro ⟨h0,h1,h2⟩ q;simp only [] at h0 h1 h2;cases hp:tB a b c
   ·go_wp2_with (go_at_call 146;refine (ZoA a b c _).mono ?_;rintro e A ⟨rfl,f⟩)
    go_ret;refine ⟨k,rfl,Zag n.out f,fun d=>?_,fun _=>by omega⟩;have:=List.all_eq_true.1 d (a,b,c) (List.mem_of_getElem? q.out);simp [tBx,hp] at this
   ·go_wp2_with (go_at_call 146;refine (ZoA a b c _).mono ?_;rintro e A ⟨rfl,f⟩)
    go_roundw
    case rel=>
     refine ⟨k+1,by omega,by go_num,Zag n.out f,fun j l=>?_⟩;by_cases hjk:j<k
     ·exact r.out j hjk
     ·obtain rfl:j=k:=by omega
      rw [y.out];exact hp
    case measure=>simp [intOf];omega
  ·have u:k=xs.length:=by omega
   have v:=Zh u;clear u;go_wp2;go_ret;refine ⟨-1,rfl,n.out,fun _=>rfl,fun d=>?_⟩
   exfalso
   have:xs.all tBx=true:=by rw [List.all_eq_true];intro x p;obtain ⟨j,l,rfl⟩:=List.getElem_of_mem p;have:=r.out j (by have:=v.out;omega);rwa [List.getD_eq_getElem?_getD,List.getElem?_eq_getElem l] at this
   rw [this] at d;cases d
theorem ZoF:
  Calls Tryz.prog 145 #[.slice (some ⟨g,o,none⟩) xs.length xs.length,.func (.func 146) #[] #[]] w fun e w'=>e=.returned (.bool (!xs.all tBx))∧Below w.heap.size w w':=by
 have H:=Zh h;clear h;go_enter Tryz.func145,Tryz.ntmps145
 go_wp2_with (go_at_call 207;refine (ZoE g o xs _ hl H.out).mono ?_;rintro e k ⟨r,rfl,d,f,j⟩)
 go_ret;refine ⟨Zab ?_,d⟩;cases ha:xs.all tBx
 ·have:=j ha;simpa using this
 ·have:=f ha;subst this;simp
theorem ZoG:
  Calls Tryz.prog 84 #[.slice (some ⟨g,o,none⟩) xs.length xs.length] w fun e w'=>e=.returned (.bool (xs.all tBx))∧Below w.heap.size w w':=by
 have H:=Zh h;clear h;go_enter Tryz.func84,Tryz.ntmps84
 go_wp2_with (go_at_call 145;refine (ZoF g o xs _ hl H.out).mono ?_;rintro e f ⟨rfl,d⟩)
 go_ret;exact ⟨Zab (by simp),d⟩
end
theorem ZoH (g:Nat) (a b c:Int) (w:World) (h:Blk w g (cl3 a b c) 45) :
  Calls Tryz.prog 84 #[.slice (some ⟨g,0,none⟩) 1 1] w fun e w'=>e=.returned (.bool (tB a b c))∧Below w.heap.size w w':=by
 refine (ZoG g 0 [(a,b,c)] w (by simp) ?_).mono fun e w' ⟨h1,h2⟩=>⟨h1.trans (Zab (by simp [tBx])),h2⟩;intro i d
 match i,d with
 | 0,_=>exact ⟨h.cell 0 (Zmp _ _ _),h.cell 1 (Zmq _ _ _),h.cell 2 (Zmr _ _ _)⟩
theorem ZoI (g:Nat) (a b c d f j:Int) (w:World) (t:TypeId) (h:Blk w g #[.int .i64 a,.int .i64 b,.int .i64 c,.int .i64 d,.int .i64 f,.int .i64 j] t) :
  Calls Tryz.prog 84 #[.slice (some ⟨g,0,none⟩) 2 2] w fun e w'=>e=.returned (.bool (tB a b c&&tB d f j))∧Below w.heap.size w w':=by
 refine (ZoG g 0 [(a,b,c),(d,f,j)] w (by simp) ?_).mono fun e w' ⟨h1,h2⟩=>⟨h1.trans (Zab (by simp [tBx])),h2⟩;intro i k
 match i,k with
 | 0,_=>exact ⟨h.cell 0 rfl,h.cell 1 rfl,h.cell 2 rfl⟩
 | 1,_=>exact ⟨h.cell 3 rfl,h.cell 4 rfl,h.cell 5 rfl⟩
theorem Blk.c3 {w:World}{B:Nat}{a b c:Int}{t:TypeId} (h:Blk w B (cl3 a b c) t):w.cell? ⟨B,0,none⟩=some (.int .i64 a)∧w.cell? ⟨B,1,none⟩=some (.int .i64 b)∧w.cell? ⟨B,2,none⟩=some (.int .i64 c):=
 ⟨h.cell 0 (Zmp _ _ _),h.cell 1 (Zmq _ _ _),h.cell 2 (Zmr _ _ _)⟩
theorem Blk.f3 {w:World}{B:Nat}{a b c:Int}{t:TypeId} (h:Blk w B (cl3 a b c) t):w.frozen? ⟨B,0,none⟩=false∧w.frozen? ⟨B,1,none⟩=false∧w.frozen? ⟨B,2,none⟩=false:=
 ⟨h.frozen 0,h.frozen 1,h.frozen 2⟩
def ZoJ (a b c:Int):Bool:=decide (1000000000<a∨1000000000<b∨1000000000<c)
theorem ZoK {a b c:Int} (h:ZoJ a b c=true):1000000000<a∨1000000000<b∨1000000000<c:=by simpa [ZoJ] using h
theorem ZoL {a b c:Int} (h:ZoJ a b c=false):a≤1000000000∧b≤1000000000∧c≤1000000000:=by
 have:¬ (1000000000<a∨1000000000<b∨1000000000<c):=by simpa [ZoJ] using h
 omega
def ZoM (x y z e:Int) (w:World) (en:Ending) (w':World):Prop:=
 en=.returned (.tuple #[.agg #[.int .i64 x,.int .i64 y,.int .i64 z],.int .i64 e])∧Below w.heap.size w w'
theorem ZoN {F:Nat}{f:Func}{r:Nat}{w w':World}{a:Act}{s:Nat}{x y z e:Int} (d:f.results=#[.cell r 45,.tmp s]) (l:a.tmps[r]?.getD undef=.pointer (some ⟨F,0,none⟩)) (n:a.tmps[s]?.getD undef=.int .i64 e) (k:a.defers=[])
  (h0:w'.cell? ⟨F,0,none⟩=some (.int .i64 x)) (h1:w'.cell? ⟨F,1,none⟩=some (.int .i64 y)) (h2:w'.cell? ⟨F,2,none⟩=some (.int .i64 z)) (j:Below w.heap.size w w') :
  bodyPost Tryz.prog f (ZoM x y z e w) .ret a w':=
 bodyPost_ret (v:=.tuple #[.agg #[.int .i64 x,.int .i64 y,.int .i64 z],.int .i64 e]) (by simp [results,d,go_sem,l,n,h0,h1,h2]) k ⟨rfl,j⟩
theorem ZoO (a b c:Int) (w:World) (h:ZoJ a b c=false) :
  Calls Tryz.prog 75 #[.agg #[.int .i64 a,.int .i64 b,.int .i64 c],.bool true] w (ZoM a b c 0 w):=by
 have d:Zox a b c≤1000000000:=by have:=ZoL h;unfold Zox;omega
 exact j2
theorem ZoP (a b c:Int) (w:World) (h:ZoJ a b c=true) :
  Calls Tryz.prog 75 #[.agg #[.int .i64 a,.int .i64 b,.int .i64 c],.bool true] w (ZoM 0 0 0 6 w):=by
 have d:1000000000<Zox a b c:=by have:=ZoK h;unfold Zox;omega
 exact j2
def pgV (a b c:Int):Int:=(a+7) / 8+(b+3) / 4+(c+1) / 2
theorem ZoQ (a b c:Int) (w:World) (h:tB a b c=true) :
  Calls Tryz.prog 72 #[.agg #[.int .i64 a,.int .i64 b,.int .i64 c]] w fun e w'=>e=.returned (.tuple #[.int .i64 (pgV a b c),.int .i64 0])∧Below w.heap.size w w':=by
 obtain ⟨j,k,l,n,p,q⟩:=Zou.1 h;go_enter Tryz.func72,Tryz.ntmps72
 go_wp2_with (go_at_call 84;refine (ZoH _ a b c _ (Blk.new' _ _ (by simp))).mono ?_;rintro e u ⟨rfl,d⟩;have f:=(((Blk.new w (cl3 a b c) 45).alloc _).old d).c3;obtain ⟨r,s,t⟩:=f)
 go_ret2;exact ⟨Zac (by unfold pgV;omega) rfl,Zag (((Below.refl _ _).alloc (Nat.le_refl _) _).alloc (by simp) _) d⟩
def ZoR (n x:Int):Int:=if 0<x∧1000000001 / x<n then 1000000001 else x*n
theorem ZoS {n x:Int} (h:0≤x):Zms (ZoR n x)=Zms (x*n):=by
 unfold ZoR;split
 ·rename_i h1;obtain ⟨h1,h2⟩:=h1;have d:=Int.lt_ediv_add_one_mul_self 1000000001 h1;have e:(1000000001 / x+1)*x≤n*x:=Int.mul_le_mul_of_nonneg_right (by omega) h;have f:1000000001<x*n:=by rw [Int.mul_comm];omega
  unfold Zms;rw [if_pos (by omega),if_neg (by omega)]
 ·rfl
theorem ZoT {n x:Int} (h:0≤x) (f:x≤1000000001) (e:0≤n) (d:n≤1000):0≤x*n∧x*n≤1000000001000:=by have h1:=Int.mul_nonneg h e;have h2:x*n≤1000000001*1000:=Int.mul_le_mul f d e (by decide);omega
theorem ZoU (x y n:Int) (g:Nat) (w:World) (r:0≤x) (f:x≤1000000001) (q:0≤n) (d:n≤1000) (u:w.cell? ⟨g,0,none⟩=some (.int .i64 n)) :
  Calls Tryz.prog 203 #[.int .i64 x,.int .i64 y,ZQ.p g] w fun e w'=>e=.returned (.int .i64 (ZoR n x))∧∃ k,w'=w.drewN k:=by
 have l:=ZoT r f q d;have v:IntKind.i64.wrap (x*n)=x*n:=IntWalk.i64_in _ (by omega);clear l;by_cases h0:0<x
 ·have j:=IntWalk.tdiv_le 1000000001 x (by decide) (by omega);obtain ⟨s,t⟩:=j;by_cases h1:1000000001 / x<n
  ·have HV:Hid (ZoR n x=1000000001):=by show _=_;unfold ZoR;rw [if_pos ⟨h0,h1⟩]
   exact j5
  ·have HV:Hid (ZoR n x=x*n):=by show _=_;unfold ZoR;rw [if_neg (by omega)]
   exact j5
 ·have HV:Hid (ZoR n x=x*n):=by show _=_;unfold ZoR;rw [if_neg (by omega)]
  have j:decide (0<x)=false:=by simpa using h0
  exact j5
theorem ZoV (A:Array Value) (W:World):(callFunc 86 A).run Tryz.prog W=.ok (.enter 86 A) W:=by kernel_rfl
theorem ZoW (A:Array Value) (W:World):(callFunc 150 A).run Tryz.prog W=.ok (.enter 150 A) W:=by kernel_rfl
theorem ZoX (A:Array Value) (W:World):(callFunc 203 A).run Tryz.prog W=.ok (.enter 203 A) W:=by kernel_rfl
theorem ZoY (w:World) (x y:Int) (f:0≤x) (d:x≤1000000001) (hy:0≤y) (e:y≤1000000001):ZmC 86 #[] w (·+·) x y:=by intro W _;show Calls Tryz.prog 86 #[.int .i64 x,.int .i64 y] W _;go_enter Tryz.func86,Tryz.ntmps86;go_wp2;go_ret;exact ⟨rfl,0,rfl⟩
theorem ZoZ (w:World) (x y:Int):ZmC 150 #[] w Zmt x y:=by
 intro W _;show Calls Tryz.prog 150 #[.int .i64 x,.int .i64 y] W _;go_enter Tryz.func150,Tryz.ntmps150;go_wp2
 all_goals
  go_ret;exact ⟨Zaa (by unfold Zmt;split<;>omega),0,rfl⟩
def Zo0 (a0 a1 a2 b0 b1 b2:Int):(Int × Int × Int) × Int:=
 if (tB a0 a1 a2&&tB b0 b1 b2)=false then ((0,0,0),1)
 else if ZoJ (Zms (a0+b0)) (Zms (a1+b1)) (Zms (a2+b2)) then ((0,0,0),6)
 else ((Zms (a0+b0),Zms (a1+b1),Zms (a2+b2)),0)
def Zo1 (r:(Int × Int × Int) × Int) (w:World):Ending→World→Prop:=ZoM r.1.1 r.1.2.1 r.1.2.2 r.2 w
theorem ZoM.to {x y z e:Int}{r:(Int × Int × Int) × Int}{w:World}{en:Ending}{w':World} (h:ZoM x y z e w en w') (hr:r=((x,y,z),e)):Zo1 r w en w':=by subst hr;exact h
theorem Zo2 (f j k l n p:Int) (w:World) :
  Calls Tryz.prog 29 #[.agg #[.int .i64 f,.int .i64 j,.int .i64 k],.agg #[.int .i64 l,.int .i64 n,.int .i64 p]] w (Zo1 (Zo0 f j k l n p) w):=by
 have X:=Zh (show Blk ((((w.alloc (.cells (cl3 f j k) 45)).alloc (.cells (cl3 l n p) 45)).alloc (.cells (cl3 0 0 0) 45)).alloc (.cells #[.int .i64 f,.int .i64 j,.int .i64 k,.int .i64 l,.int .i64 n,.int .i64 p] 45)) w.heap.size (cl3 f j k) 45 from ((Blk.new' _ _ rfl).alloc _).alloc _ |>.alloc _);have V:=Zh (show Blk ((((w.alloc (.cells (cl3 f j k) 45)).alloc (.cells (cl3 l n p) 45)).alloc (.cells (cl3 0 0 0) 45)).alloc (.cells #[.int .i64 f,.int .i64 j,.int .i64 k,.int .i64 l,.int .i64 n,.int .i64 p] 45)) (w.heap.size+1) (cl3 l n p) 45 from (Blk.new' _ _ (by simp)).alloc _ |>.alloc _);have T:=Zh (show Blk ((((w.alloc (.cells (cl3 f j k) 45)).alloc (.cells (cl3 l n p) 45)).alloc (.cells (cl3 0 0 0) 45)).alloc (.cells #[.int .i64 f,.int .i64 j,.int .i64 k,.int .i64 l,.int .i64 n,.int .i64 p] 45)) (w.heap.size+1+1) (cl3 0 0 0) 45 from (Blk.new' _ _ (by simp)).alloc _);have Y:=Zh (show Below w.heap.size w ((((w.alloc (.cells (cl3 f j k) 45)).alloc (.cells (cl3 l n p) 45)).alloc (.cells (cl3 0 0 0) 45)).alloc (.cells #[.int .i64 f,.int .i64 j,.int .i64 k,.int .i64 l,.int .i64 n,.int .i64 p] 45)) from ((((Below.refl _ _).alloc (Nat.le_refl _) _).alloc (by simp) _).alloc (by simp;omega) _).alloc (by simp;omega) _);by_cases hv:(tB f j k&&tB l n p)=false
 ·refine Calls.mono (R:=ZoM 0 0 0 1 w) ?_ (fun e w' h=>h.to (by unfold Zo0;rw [if_pos hv]));go_enter Tryz.func29,Tryz.ntmps29
  go_wp2_with fail
  refine (ZoI (w.heap.size+1+1+1) f j k l n p _ 45 (Blk.new' _ _ (by simp))).mono ?_;rintro e w1 ⟨rfl,d⟩;have D:=(X.out.old d).c3;obtain ⟨K,L,N⟩:=D;have E:=(V.out.old d).c3;obtain ⟨O,P,Q⟩:=E;have G:=(T.out.old d).c3;obtain ⟨r,s,t⟩:=G;have I:=(T.out.old d).f3;obtain ⟨u,v,A⟩:=I;clear K L N O P Q
  go_wp2_with fail
  have J:=Zmx (x:=0) (y:=0) (z:=0) (T.out.old d);exact ZoN (F:=w.heap.size+1+1) Tryz.results29 rfl rfl rfl J.c3.1 J.c3.2.1 J.c3.2.2 (Zmz (Zag Y.out d) _ _ _ (by omega))
 have W:(tB f j k&&tB l n p)=true:=by simpa using hv
 obtain ⟨Z,aa⟩:tB f j k=true∧tB l n p=true:=by simpa using W
 obtain ⟨ac,ad,ae,af,ag,ah⟩:=Zou.1 Z;obtain ⟨ai,aj,ak,al,am,an⟩:=Zou.1 aa;cases hbig:ZoJ (Zms (f+l)) (Zms (j+n)) (Zms (k+p))
 ·refine Calls.mono (R:=ZoM (Zms (f+l)) (Zms (j+n)) (Zms (k+p)) 0 w) ?_ (fun e w' h=>h.to (by unfold Zo0;rw [if_neg (by rw [W];decide),hbig];rfl));go_enter Tryz.func29,Tryz.ntmps29
  go_wp2_with fail
  refine (ZoI (w.heap.size+1+1+1) f j k l n p _ 45 (Blk.new' _ _ (by simp))).mono ?_;rintro e w1 ⟨rfl,d⟩;have D:=(X.out.old d).c3;obtain ⟨K,L,N⟩:=D;have E:=(V.out.old d).c3;obtain ⟨O,P,Q⟩:=E;have G:=(T.out.old d).c3;obtain ⟨r,s,t⟩:=G;have I:=(T.out.old d).f3;obtain ⟨u,v,A⟩:=I
  go_wp2_with fail
  clear K L N O P Q r s t u v A;refine (ZmD 86 #[] (·+·) f j k l n p _ ZoV (ZoY _ _ _ (by omega) (by omega) (by omega) (by omega)) (ZoY _ _ _ (by omega) (by omega) (by omega) (by omega)) (ZoY _ _ _ (by omega) (by omega) (by omega) (by omega))).mono ?_;rintro e w2 ⟨rfl,B⟩
  go_wp2_with fail
  refine (ZoO _ _ _ _ hbig).mono ?_;rintro e w3 ⟨rfl,C⟩;have q:=(((T.out.old d).old B).old C);obtain ⟨r,s,t⟩:=q.c3;obtain ⟨u,v,A⟩:=q.f3
  go_wp2_with fail
  have J:=Zmx (x:=Zms (f+l)) (y:=Zms (j+n)) (z:=Zms (k+p)) q;exact ZoN (F:=w.heap.size+1+1) Tryz.results29 rfl rfl rfl J.c3.1 J.c3.2.1 J.c3.2.2 (Zmz (Zag (Zag (Zag Y.out d) B) C) _ _ _ (by omega))
 ·refine Calls.mono (R:=ZoM (0) (0) (0) 6 w) ?_ (fun e w' h=>h.to (by unfold Zo0;rw [if_neg (by rw [W];decide),hbig];rfl));go_enter Tryz.func29,Tryz.ntmps29
  go_wp2_with fail
  refine (ZoI (w.heap.size+1+1+1) f j k l n p _ 45 (Blk.new' _ _ (by simp))).mono ?_;rintro e w1 ⟨rfl,d⟩;have D:=(X.out.old d).c3;obtain ⟨K,L,N⟩:=D;have E:=(V.out.old d).c3;obtain ⟨O,P,Q⟩:=E;have G:=(T.out.old d).c3;obtain ⟨r,s,t⟩:=G;have I:=(T.out.old d).f3;obtain ⟨u,v,A⟩:=I
  go_wp2_with fail
  clear K L N O P Q r s t u v A;refine (ZmD 86 #[] (·+·) f j k l n p _ ZoV (ZoY _ _ _ (by omega) (by omega) (by omega) (by omega)) (ZoY _ _ _ (by omega) (by omega) (by omega) (by omega)) (ZoY _ _ _ (by omega) (by omega) (by omega) (by omega))).mono ?_;rintro e w2 ⟨rfl,B⟩
  go_wp2_with fail
  refine (ZoP _ _ _ _ hbig).mono ?_;rintro e w3 ⟨rfl,C⟩;have q:=(((T.out.old d).old B).old C);obtain ⟨r,s,t⟩:=q.c3;obtain ⟨u,v,A⟩:=q.f3
  go_wp2_with fail
  have J:=Zmx (x:=0) (y:=0) (z:=0) q;exact ZoN (F:=w.heap.size+1+1) Tryz.results29 rfl rfl rfl J.c3.1 J.c3.2.1 J.c3.2.2 (Zmz (Zag (Zag (Zag Y.out d) B) C) _ _ _ (by omega))
theorem Zo3 {F:Nat}{f:Func}{r:Nat}{w w':World}{a:Act}{x y z:Int} (d:f.results=#[.cell r 45]) (l:a.tmps[r]?.getD undef=.pointer (some ⟨F,0,none⟩)) (k:a.defers=[])
  (h0:w'.cell? ⟨F,0,none⟩=some (.int .i64 x)) (h1:w'.cell? ⟨F,1,none⟩=some (.int .i64 y)) (h2:w'.cell? ⟨F,2,none⟩=some (.int .i64 z)) (j:Below w.heap.size w w') :
  bodyPost Tryz.prog f (fun e w'=>e=.returned (.agg #[.int .i64 x,.int .i64 y,.int .i64 z])∧Below w.heap.size w w') .ret a w':=
 bodyPost_ret (v:=.agg #[.int .i64 x,.int .i64 y,.int .i64 z]) (by simp [results,d,go_sem,l,h0,h1,h2]) k ⟨rfl,j⟩
theorem Zo4 (w:World) (g:Nat) (n x y:Int) (l:0≤x) (e:x≤1000000001) (k:0≤n) (d:n≤1000) (f:w.cell? ⟨g,0,none⟩=some (.int .i64 n)):ZmC 203 #[ZQ.p g] w (fun x _=>ZoR n x) x y:=by intro W j;exact ZoU x y n g W l e k d (by rw [j.cell (p:=⟨g,0,none⟩) (Zad f)];exact f)
theorem Zo5 (a b c n:Int) (w:World) (C:0≤a∧a≤1000000001∧0≤b∧b≤1000000001∧0≤c∧c≤1000000001) (D:0≤n∧n≤1000) :
  Calls Tryz.prog 137 #[.agg #[.int .i64 a,.int .i64 b,.int .i64 c],.int .i64 n] w fun e w'=>e=.returned (.agg #[.int .i64 (Zms (a*n)),.int .i64 (Zms (b*n)),.int .i64 (Zms (c*n))])∧Below w.heap.size w w':=by
 obtain ⟨q,v,r,A,s,B⟩:=C;obtain ⟨l,p⟩:=D;have j:=Zh (show Blk (((w.alloc (.cells (cl3 a b c) 45)).alloc (.cells #[.int .i64 n] 3)).alloc (.cells (cl3 0 0 0) 45)) (w.heap.size+1+1) (cl3 0 0 0) 45 from Blk.new' _ _ (by simp));have u:=Zh (show Blk (((w.alloc (.cells (cl3 a b c) 45)).alloc (.cells #[.int .i64 n] 3)).alloc (.cells (cl3 0 0 0) 45)) (w.heap.size+1) #[.int .i64 n] 3 from (Blk.new' _ _ (by simp)).alloc _);have t:=Zh (show Below w.heap.size w (((w.alloc (.cells (cl3 a b c) 45)).alloc (.cells #[.int .i64 n] 3)).alloc (.cells (cl3 0 0 0) 45)) from (((Below.refl _ _).alloc (Nat.le_refl _) _).alloc (by simp) _).alloc (by simp;omega) _);go_enter Tryz.func137,Tryz.ntmps137
 go_wp2_with fail
 have f:=u.out.cell 0 rfl;refine (ZmD 203 #[.pointer (some ⟨w.heap.size+1,0,none⟩)] (fun x _=>ZoR n x) a b c 0 0 0 _ ZoX (Zo4 _ _ _ _ _ q v l p f) (Zo4 _ _ _ _ _ r A l p f) (Zo4 _ _ _ _ _ s B l p f)).mono ?_;clear f;rintro e N ⟨rfl,d⟩;rw [ZoS q,ZoS r,ZoS s];obtain ⟨J,K,L⟩:=(j.out.old d).f3;obtain ⟨E,G,I⟩:=(j.out.old d).c3
 go_wp2_with fail
 have k:=Zmx (x:=Zms (a*n)) (y:=Zms (b*n)) (z:=Zms (c*n)) (j.out.old d);exact Zo3 (F:=w.heap.size+1+1) Tryz.results137 rfl rfl k.c3.1 k.c3.2.1 k.c3.2.2 (Zmz (Zag t.out d) _ _ _ (by omega))
theorem Zo6 {P:Program}{t e:TypeId} (k:P.underlying t=some (.array 3 e)) (d:P.underlying e=some (.int .i64)) (j:∀ w,(sizeOf e).run P w=.ok 1 w) (f:∀ w,(isAgg e).run P w=.ok false w) (a b c x y z:Int) (w:World) :
  (Op.equalIn 10000 t (.agg #[.int .i64 a,.int .i64 b,.int .i64 c]) (.agg #[.int .i64 x,.int .i64 y,.int .i64 z])).run P w=.ok (a == x&&(b == y&&c == z)) w:=by
 have h1:∀ (p q:Int) (w:World),(Op.equalIn 9999 e (.int .i64 p) (.int .i64 q)).run P w=.ok (p == q) w:=fun p q w=>run_equalIn_int w 9998 e .i64 .i64 p q d;show (Op.equalIn (9999+1) t _ _).run P w=_;rw [Op.equalIn];simp only [Sem.run_bind,run_underlying k,Result.andThen_ok];cases h2:(a == x)<;>cases h3:(b == y)<;>cases h4:(c == z)<;>simp [go_sem,j,f,h1,h2,h3,h4,Std.Legacy.Range.forIn_eq_forIn_range',List.range']
theorem Zo7 (w:World):(sizeOf 3).run Tryz.prog w=.ok 1 w:=by kernel_rfl
theorem Zo8 (w:World):(isAgg 3).run Tryz.prog w=.ok false w:=by kernel_rfl
theorem eq3 (a b c x y z:Int) (w:World):(Op.equalIn 10000 45 (.agg #[.int .i64 a,.int .i64 b,.int .i64 c]) (.agg #[.int .i64 x,.int .i64 y,.int .i64 z])).run Tryz.prog w=.ok (a == x&&(b == y&&c == z)) w:=
 Zo6 Tryz.underlying45 Tryz.underlying3 Zo7 Zo8 a b c x y z w
theorem Zo9 (w:World):Calls Tryz.prog 72 #[.agg #[.int .i64 9,.int .i64 1,.int .i64 0]] w fun e w'=>e=.returned (.tuple #[.int .i64 3,.int .i64 0])∧Below w.heap.size w w':=
 (ZoQ 9 1 0 w (by decide)).mono fun _ _ ⟨h1,h2⟩=>⟨h1.trans (Zac (by decide) rfl),h2⟩
theorem Zpa (w:World):Calls Tryz.prog 29 #[.agg #[.int .i64 1,.int .i64 2,.int .i64 3],.agg #[.int .i64 4,.int .i64 5,.int .i64 6]] w (ZoM 5 7 9 0 w):=by
 have h:Zo0 1 2 3 4 5 6=((5,7,9),0):=by decide
 have:=Zo2 1 2 3 4 5 6 w;rw [h] at this;exact this
theorem Zpb (w:World):Calls Tryz.prog 22 #[] w fun e w'=>e=.returned (.bool true)∧Below w.heap.size w w':=by
 have j:=eq3;go_enter Tryz.func22,Tryz.ntmps22
 go_wp2_with (first|(go_at_call 72;refine (Zo9 _).mono ?_;rintro e k ⟨rfl,d⟩)|(go_at_call 29;refine (Zpa _).mono ?_;rintro e l ⟨rfl,f⟩))
 go_ret;exact ⟨rfl,Zag (Zag d f) ((Below.refl _ _).alloc (Nat.le_refl _) _)⟩
theorem Zpc {a:Int} (h:Bd a):Zms a=a:=if_pos h.2
theorem Zpd (a b:T3) (w:World) (d:BdT a) (e:BdT b):Calls Tryz.prog 85 #[ag3 a,ag3 b,.func (.func 86) #[] #[]] w (Ret w (ag3 (plT a b))):=
 ZmD 86 #[] (·+·) _ _ _ _ _ _ w ZoV (ZoY _ _ _ d.1.1 d.1.2 e.1.1 e.1.2) (ZoY _ _ _ d.2.1.1 d.2.1.2 e.2.1.1 e.2.1.2) (ZoY _ _ _ d.2.2.1 d.2.2.2 e.2.2.1 e.2.2.2)
theorem Zpe {a b:T3} (d:BdT a) (e:BdT b):(Zms (Zmt a.1 b.1),Zms (Zmt a.2.1 b.2.1),Zms (Zmt a.2.2 b.2.2))=mxT a b:=by rw [Zpc (ZnM d.1 e.1),Zpc (ZnM d.2.1 e.2.1),Zpc (ZnM d.2.2 e.2.2)];rfl
theorem Zpf (a b:T3) (w:World) (d:BdT a) (e:BdT b):Calls Tryz.prog 85 #[ag3 a,ag3 b,.func (.func 150) #[] #[]] w (Ret w (ag3 (mxT a b))):=by have h:=ZmD 150 #[] Zmt a.1 a.2.1 a.2.2 b.1 b.2.1 b.2.2 w ZoW (ZoZ _ _ _) (ZoZ _ _ _) (ZoZ _ _ _);rw [←Zpe d e];exact h
theorem Zpg (a:T3) (n:Int) (w:World) (d:BdT a) (h0:0≤n) (h1:n≤1000):Calls Tryz.prog 137 #[ag3 a,.int .i64 n] w (Ret w (ag3 (mlT a n))):=
 Zo5 _ _ _ n w ⟨d.1.1,d.1.2,d.2.1.1,d.2.1.2,d.2.2.1,d.2.2.2⟩ ⟨h0,h1⟩
def Zph:Option T3→T3 × Int
 | none=>(z3,10)
 | some x=>if ZoJ x.1 x.2.1 x.2.2 then (z3,6) else (x,0)
def Zpi (r:T3 × Int) (w:World):Ending→World→Prop:=ZoM r.1.1 r.1.2.1 r.1.2.2 r.2 w
theorem Zpj (x:T3) (w:World):Calls Tryz.prog 75 #[ag3 x,.bool false] w (Zpi (z3,10) w):=by
 obtain ⟨a,b,c⟩:=x;unfold ag3;go_enter Tryz.func75,Tryz.ntmps75
 go_wp2_with fail
 exact ZoN (F:=w.heap.size+1) Tryz.results75 rfl rfl rfl (by simp [go_sem,z3]) (by simp [go_sem,z3]) (by simp [go_sem,z3]) (((Below.refl _ _).alloc (Nat.le_refl _) _).alloc (by simp) _)
theorem Zpk (x:T3) (w:World):Calls Tryz.prog 75 #[ag3 x,.bool true] w (Zpi (Zph (some x)) w):=by
 cases h:ZoJ x.1 x.2.1 x.2.2
 ·have:=ZoO x.1 x.2.1 x.2.2 w h;rw [show Zph (some x)=(x,0) by show (if ZoJ x.1 x.2.1 x.2.2=true then (z3,(6:Int)) else (x,0))=_;rw [h];rfl];exact this
 ·have:=ZoP x.1 x.2.1 x.2.2 w h;rw [show Zph (some x)=(z3,6) by show (if ZoJ x.1 x.2.1 x.2.2=true then (z3,(6:Int)) else (x,0))=_;rw [h];rfl];exact this
end
section
open Go.RowKit
attribute [local go_sem] World.cell?_alloc_some
def Zpl (m:Md) (i:In3):List Int:=if i.op=25 then [i.a] else if i.op=26 then ZaO m i.a else []
def Zpm (m:Md) (c:List In3) (j:Nat):List Int:=(c.take j).flatMap (Zpl m)
def Zpn (m:Md) (k:Nat):List Int:=ZaN (Zpm m (cdM m k) (cdM m k).length)
theorem Zpo {m:Md}{c:List In3}{j:Nat} (d:j<c.length):Zpm m c (j+1)=Zpm m c j++Zpl m (c.getD j default):=by unfold Zpm;rw [Zam c j d,List.flatMap_append];simp
theorem Zpp {m:Md} (h:m.cl.length≤10) (i:In3):(Zpl m i).length≤10:=by
 unfold Zpl;have:=ZdI m i.a;split
 ·simp
 ·split
  ·omega
  ·simp
theorem Zpq {m:Md} (h:m.cl.length≤10) (c:List In3):∀ j,j≤c.length→(Zpm m c j).length≤10*j
 | 0,_=>by simp [Zpm]
 | j+1,hj=>by rw [Zpo (by omega),List.length_append];have:=Zpp h (c.getD j default);have:=Zpq h c j (by omega);omega
theorem Zpr (m:Md) (h:Hd) (k:Nat) (w:World) (H:Zaz w h m) (hv:Za2 m=true) (hk:k<m.me.length):Calls Tryz.prog 174 #[.agg (HM.mk h m),.int .i64 k] w (ZdH w (Zpn m k)):=by
 obtain ⟨C,Q⟩:∃ C,C=w.alloc (.cells (HM.mk h m) 26):=⟨_,rfl⟩;have HB:=Zh (show Below w.heap.size w C by rw [Q];exact bE);have Y:=Zh (show Blk C w.heap.size (HM.mk h m) 26 by rw [Q];exact Blk.new _ _ _);have Hj:=Zh (H.old HB.out);have HW:=Zh Q;have B:=ZfQ hv hk;have hc:(cdM m k).length≤120:=B.z.2.2;have P:=Zir hv;have ag:=Zh (show ∀ (w':World) (s:Int),Below C.heap.size C w'→0≤s→s<m.sel→_ from fun w' s hb h0 h1=>ZdT m h s w' (Hj.out.old hb) ⟨h0,h1⟩ P.1 (fun j O=>Zhc (Zip hv j O)));have au:=Zh (fun j O=>Zpq (m:=m) P.1 (cdM m k) j O);have HI:=Zh (show ∀ i∈cdM m k,i.op=26→0≤i.a∧i.a<m.sel from fun i hi N=>⟨(ZfV (B.i i hi).1 (B.i i hi).2).a0 (by omega),((ZfV (B.i i hi).1 (B.i i hi).2).o26 N).1⟩);have aX:(k:Int) < m.me.length:=by omega
 obtain ⟨ea,he,-,-,-,-,-,-,e6⟩:=Hj.out.mth hk;rw [show (m.me.getD k default).k.length=(cdM m k).length from rfl] at e6;have az:=Zh (fun s=>ZdI m s);have ae:=Zh P.1;have HK:=Zh (show ∀ w',Below C.heap.size C w'→Zas w' (h.e k).ko (h.e k).kc (cdM m k) from fun w' hb=>(Hj.out.old hb).k k hk);generalize (h.e k).ko=ko at e6 HK;generalize (h.e k).kc=kc at e6 HK;rw [he] at HW Y ag ⊢;clear Q H B P he hv;go_enter Tryz.func174,Tryz.ntmps174
 go_upto_region 1 with fail
 rw [←HW.out];have x2:=Y.out.cell 2 (v:=.slice (some ea) m.me.length h.ec) rfl
 go_wp2_with fail
 clear x2 e6
 go_loopw [5,15] (fun o i wr=>∃ (j:Nat) (L:Option Addr) (n:Nat),j≤(cdM m k).length∧i=.int .i64 j∧o=.slice L (Zpm m (cdM m k) j).length n∧Hid (wr.ownsRow C.heap.size 3 1 (.slice L (Zpm m (cdM m k) j).length n) (Zpm m (cdM m k) j).length ((Zpm m (cdM m k) j).map (Value.int .i64)))∧Hid (Below C.heap.size C wr)) (fun _ i _=>(cdM m k).length-(intOf i).toNat)
 case atStart=>exact ⟨0,none,0,Nat.zero_le _,rfl,rfl,World.ownsRow_nil _ _ _ _,Below.refl _ _⟩
 case round=>
  obtain ⟨j,L,n,O,rfl,rfl,W,d⟩:=hrel;have T:=au.out j O;by_cases hjl:j<(cdM m k).length
  ·obtain ⟨ad,rfl,o0,o1,o2⟩:=ZaB (HK.out _ d.out) hjl;have r:=Zpo (m:=m) hjl;have t:=HI.out ((cdM m k).getD j default) (ZfX _ hjl);obtain ⟨i,hi⟩:∃ i,i=(cdM m k).getD j default:=⟨_,rfl⟩;rw [←hi] at o0 o1 o2 r t;obtain ⟨op,ia,ib⟩:=i;dsimp only at o0 o1 o2 t;have aL:(j:Int) < (cdM m k).length:=by omega
   have aZ:IntKind.i64.wrap ((j:Int)+1)=j+1:=IntWalk.i64_in _ (by omega);generalize hzs:Zpm m (cdM m k) j=zs at W T r ⊢;clear hzs hi;have aM:=d.out.size;by_cases h25:op=25
   ·subst h25;have K:=Zh (show Zpm m (cdM m k) (j+1)=zs++[ia] from r);have f:=W.out;clear r t
    go_wp2_with (at_builtin;refine Zak rfl (.tmp 23) (.tmp 26) 27 rfl C.heap.size 3 1 8 Zcm (.slice L zs.length n) zs.length (zs.map (Value.int .i64)) rfl ((f.alloc _).alloc _) _ 1 1 [.int .i64 ia] rfl (ZdN (Blk.new' #[.int .i64 ia] 3 (by simp)) rfl) (by intro u hu;rw [List.mem_singleton.1 hu];rfl) (by omega) (by unfold maxLen;omega) (by have:=d.out.size;simp;omega) ?_;intro Z D aG l F;have X:=Zh l;have V:=Zh (ZcR (bal (bal d.out _) _) F (fun j O=>(f.lt j O).1));clear l F)
    clear f;go_roundw
    case rel=>
     have h9:=X.out;refine ⟨j+1,Z,D,by omega,by go_num,by rw [K.out,List.length_append];rfl,(show World.ownsRow _ _ _ _ _ _ _ from ?_),V.out⟩;rw [K.out,List.length_append,List.map_append];exact h9
    case measure=>simp [intOf];omega
   ·by_cases N:op=26
    ·subst N;have K:=Zh (show Zpm m (cdM m k) (j+1)=zs++ZaO m ia from r);obtain ⟨h0,h1⟩:=t rfl;have af:=Zh (fun w' hb=>ag.out w' ia hb h0 h1);have al:=az.out ia;have aA:=ae.out;generalize ZaO m ia=ts at af K al;have aE:ts.length≤10:=by omega
     have hX:=Y;have x0:=(Y.out.old d.out).cell 0 (v:=.slice h.co m.cl.length h.cc) rfl;have x1:=(Y.out.old d.out).cell 1 (v:=.slice h.so m.st.length h.sc) rfl;have x2:=(Y.out.old d.out).cell 2 (v:=.slice (some ea) m.me.length h.ec) rfl;have x3:=(Y.out.old d.out).cell 3 (v:=.int .i64 m.sel) rfl;clear r t al aA h0 h1 hX
     go_wp2_with (first
      | (go_at_call 243;refine (af.out _ (bal d.out _)).mono ?_;rintro e w2 ⟨⟨bo,bc,rfl,ak,-⟩,A⟩;have f:=ZhM (W.out.alloc _) fun q hq=>A.block q ((W.out.alloc _).lt q hq).2;have J:=Zh (Zag (bal d.out _) A);have ay:=Zh (show SlA w2 1 bo ts.length bc (ts.map (Value.int .i64)) by rw [←Zau];exact ak);clear A ak x0 x1 x2 x3)
      | (at_builtin;refine Zak rfl (.tmp 30) (.tmp 34) 27 rfl C.heap.size 3 1 8 Zcm (.slice L zs.length n) zs.length (zs.map (Value.int .i64)) rfl f _ ts.length _ (ts.map (Value.int .i64)) rfl ay.out (by intro u hu;obtain ⟨z,-,rfl⟩:=List.mem_map.1 hu;rfl) (by omega) (by unfold maxLen;omega) J.out.size ?_;intro Z D aG l F;have X:=Zh l;have V:=Zh (ZcR J.out F (fun j O=>(f.lt j O).1));clear l F f))
     go_roundw
     case rel=>
      have h9:=X.out;refine ⟨j+1,Z,D,by omega,by go_num,by rw [K.out,List.length_append],(show World.ownsRow _ _ _ _ _ _ _ from ?_),V.out⟩;rw [K.out,List.length_append,List.map_append];exact h9
     case measure=>simp [intOf];omega
    ·have K:=Zh (show Zpm m (cdM m k) (j+1)=zs by rw [r];unfold Zpl;rw [if_neg h25,if_neg N,List.append_nil]);clear r t;go_wp2
     all_goals
      go_roundw
      case rel=>exact ⟨j+1,L,n,by omega,by go_num,by rw [K.out],(by rw [K.out];exact W.out.alloc _),bal d.out _⟩
      case measure=>simp [intOf];omega
  ·obtain rfl:j=(cdM m k).length:=by omega
   have E:Zpn m k=ZaN (Zpm m (cdM m k) (cdM m k).length):=rfl;generalize Zpm m (cdM m k) (cdM m k).length=zs at W T E ⊢;have R:=Zh E;have aj:=ZdF zs;have HC:=Zh aj;have aD:=ZdC zs;clear E aj
   go_wp2_with fail
   refine (ZdL L zs.length n zs _ W.out (by omega) d.out.size).mono ?_;rintro e1 w1 ⟨rfl,G,ai⟩;have aw:=Zh G;have ac:=Zh ai;clear G ai
   go_wp2_with fail
   refine (ZdM L zs.length n (zs.mergeSort fun x y=>decide (x≤y)) _ aw.out (by omega) (by have:=d.out.size;have:=ac.out.size;omega) (by rw [HC.out];exact aD)).mono ?_;rintro e2 w2 ⟨rfl,I,A⟩;have ax:=Zh I;have J:=Zh A;clear I A;go_wp2;go_ret;refine ⟨⟨L,n,by rw [HC.out,R.out];rfl,?_⟩,?_⟩
   ·have h2:=ax.out;rw [HC.out] at h2;rw [R.out];refine ⟨Zas.of_own (by rw [Zau];exact h2),fun a ha=>?_⟩;subst ha;have:=(h2.lt a.block rfl).1;have:=HB.out.size;omega
   ·exact Zag HB.out ((d.out.trans ac.out).trans J.out)
end
section
def LeT (a b:T3):Prop:=a.1≤b.1∧a.2.1≤b.2.1∧a.2.2≤b.2.2
theorem LeT.refl (a:T3):LeT a a:=⟨Int.le_refl _,Int.le_refl _,Int.le_refl _⟩
theorem LeT.trans {a b c:T3} (h:LeT a b) (g:LeT b c):LeT a c:=⟨Int.le_trans h.1 g.1,Int.le_trans h.2.1 g.2.1,Int.le_trans h.2.2 g.2.2⟩
theorem Zps {a b:Int} (h:a≤b):Zms a≤Zms b:=by unfold Zms;split<;>split<;>omega
theorem Zpt {a b:Int} (h:Bd a) (g:a≤b):a≤Zms b:=by unfold Bd at h;unfold Zms;split<;>omega
theorem LeT.pl {a b c d:T3} (h:LeT a c) (g:LeT b d):LeT (plT a b) (plT c d):=
 ⟨Zps (Int.add_le_add h.1 g.1),Zps (Int.add_le_add h.2.1 g.2.1),Zps (Int.add_le_add h.2.2 g.2.2)⟩
theorem LeT.pl_l {a b:T3} (h:BdT a) (g:BdT b):LeT a (plT a b):=
 ⟨Zpt h.1 (by have:=g.1.1;omega),Zpt h.2.1 (by have:=g.2.1.1;omega),Zpt h.2.2 (by have:=g.2.2.1;omega)⟩
theorem LeT.pl_r {a b:T3} (h:BdT a) (g:BdT b):LeT b (plT a b):=
 ⟨Zpt g.1 (by have:=h.1.1;omega),Zpt g.2.1 (by have:=h.2.1.1;omega),Zpt g.2.2 (by have:=h.2.2.1;omega)⟩
theorem Zpu (a b:Int):a≤Zmt a b:=by unfold Zmt;split<;>omega
theorem Zpv (a b:Int):b≤Zmt a b:=by unfold Zmt;split<;>omega
theorem Zpw {a b c:Int} (h:a≤c) (g:b≤c):Zmt a b≤c:=by unfold Zmt;split<;>omega
theorem LeT.mx_l (a b:T3):LeT a (mxT a b):=⟨Zpu _ _,Zpu _ _,Zpu _ _⟩
theorem LeT.mx_r (a b:T3):LeT b (mxT a b):=⟨Zpv _ _,Zpv _ _,Zpv _ _⟩
theorem LeT.mx {a b c:T3} (h:LeT a c) (g:LeT b c):LeT (mxT a b) c:=⟨Zpw h.1 g.1,Zpw h.2.1 g.2.1,Zpw h.2.2 g.2.2⟩
theorem Zpx {m:Md} (p:Za2 m=true) {t:Ty}:∀ n∈ZnQ m t,0≤n∧n≤48:=by
 intro n d;simp only [ZnQ,List.mem_flatMap] at d;obtain ⟨x,q,d⟩:=d;obtain ⟨k,j,rfl⟩:=List.getElem_of_mem q;simp only [ZnP,List.mem_map,List.mem_filter] at d;obtain ⟨i,⟨l,hl⟩,rfl⟩:=d;have h1:=(ZfQ p j).i i (by simpa [j] using l);simp only [ZnO,decide_eq_true_eq] at hl;have e:i.op=15∨i.op=16:=hl.elim (fun h=>.inl h.2) fun h=>.inr h.2.1;have h2:=h1.1;simp only [ZaR,Bool.and_eq_true] at h2;have f:=h2.1.1.2;rcases e with h|h<;>(rw [h] at f;simp [opA,inR,ZaQ,inI,ZaP] at f;omega)
theorem Zpy {l:List Int}:∀ {a:Int},0≤a∧a≤48→(∀ n∈l,0≤n∧n≤48)→0≤ZnR l a∧ZnR l a≤48:=by
 induction l with
 | nil=>exact fun h _=>h
 | cons x r ih=>
  intro a h hl;have e:=hl x (by simp);exact ih (a:=Zmt a x) (by unfold Zmt;split<;>omega) fun n d=>hl n (by simp [d])
theorem Zpz {m:Md} (d:Za2 m=true) (t:Ty):0≤ZnS m t∧ZnS m t≤48:=Zpy (by omega) (Zpx d)
theorem ZpA {l:List Int}:∀ {a:T3},BdT a→(∀ n∈l,0≤n∧n≤48)→BdT (ZnT l a):=by
 induction l with
 | nil=>exact fun h _=>h
 | cons x r ih=>
  intro a h hl;have e:=hl x (by simp);exact ih (a:=mxT a (ZnG x true)) (h.mx (ZnN (by omega) (by omega))) fun n d=>hl n (by simp [d])
theorem ZpB {m:Md} (d:Za2 m=true) (t:Ty):BdT (ZnU m t):=ZpA .z (Zpx d)
theorem ZpC {m:Md} (j:Za2 m=true) {d:Nat} (f:d<m.cl.length):BdT (szC m d):=by have e:=ZfK j d f;simp only [ZaL,Bool.and_eq_true,decide_eq_true_eq] at e;have:=e.1.1.1.1.2;exact ZnN (by omega) (by unfold fsC;omega)
theorem ZpD {F:Ty→Option T3}:∀ {l:List Ty}{a s:T3},BdT a→(∀ t∈l,∀ x,F t=some x→BdT x)→ZnY F a l=some s→BdT s∧LeT a s
 | [],a,s,h,_,e=>by obtain rfl:=Option.some.inj e;exact ⟨h,.refl _⟩
 | t :: r,a,s,h,hF,e=>by
  unfold ZnY at e;cases hf:F t with
  | none=>rw [hf] at e;cases e
  | some x=>
   rw [hf] at e;have d:=hF t (by simp) x hf;obtain ⟨h1,h2⟩:=ZpD (h.pl d) (fun u f=>hF u (by simp [f])) e;exact ⟨h1,(LeT.pl_l h d).trans h2⟩
theorem ZpE {m:Md} (d:Za2 m=true) {V:Nat→Option T3} (f:∀ c,c<m.cl.length→∀ x,V c=some x→BdT x) {t:Ty} (j:Zfk m t):∀ x,ZnX m V t=some x→BdT x:=by
 intro x e;unfold ZnX at e;split at e
 ·obtain rfl:=Option.some.inj e;exact ZpB d t
 ·split at e
  ·rename_i q;have:=ZfH j (.inl q);exact f _ (by omega) x e
  ·split at e
   ·rename_i q;have:=ZfH j (.inr q);split at e
    ·obtain rfl:=Option.some.inj e;exact ZpB d t
    ·cases hv:V t.c.toNat with
     | none=>rw [hv] at e;cases e
     | some y=>
      rw [hv] at e;obtain rfl:=Option.some.inj e;exact (ZpB d t).pl ((f _ (by omega) y hv).ml (Zpz d t).1)
   ·obtain rfl:=Option.some.inj e;exact .z
theorem ZpF {m:Md} (f:Za2 m=true) {V:Nat→Option T3} (j:∀ c,c<m.cl.length→∀ x,V c=some x→BdT x):∀ {l:List Nat}{a s:T3},BdT a→(∀ d∈l,d<m.cl.length)→ZnZ m V a l=some s→BdT s∧LeT a s
 | [],a,s,h,_,e=>by obtain rfl:=Option.some.inj e;exact ⟨h,.refl _⟩
 | d :: r,a,s,h,hl,e=>by
  unfold ZnZ at e;cases hf:ZnY (ZnX m V) (szC m d) (fsC m d) with
  | none=>rw [hf] at e;cases e
  | some x=>
   rw [hf] at e;have k:=hl d (by simp);obtain ⟨q,-⟩:=ZpD (ZpC f k) (fun t n=>ZpE f j (Zn8 f k t n)) hf;obtain ⟨h1,h2⟩:=ZpF f j (h.mx q) (fun u p=>hl u (by simp [p])) e;exact ⟨h1,(LeT.mx_l a x).trans h2⟩
theorem ZpG {m:Md} (d:Za2 m=true):∀ n c,c<m.cl.length→∀ x,Zn0 m n c=some x→BdT x
 | 0,_,_,_,e=>by cases e
 | n+1,c,_,x,e=>(ZpF d (ZpG d n) .z (fun _ f=>Zn7 f) e).1
theorem ZpH {m:Md} (f:Za2 m=true) {c:Nat} (d:c<m.cl.length) {x:T3} (e:Zn1 m c=some x):BdT x:=ZpG f _ c d x e
theorem ZpI {m:Md} (d:Za2 m=true) {t:Ty} (j:Zfk m t) {x:T3} (e:Zn2 m t=some x):BdT x:=ZpE d (fun _ f _ e=>ZpH d f e) j x e
theorem ZpJ {m:Md} (f:Za2 m=true) {V:Nat→Option T3} (j:∀ c,c<m.cl.length→∀ x,V c=some x→BdT x):∀ {l:List Nat}{a s:T3}{d:Nat},BdT a→(∀ d∈l,d<m.cl.length)→ZnZ m V a l=some s→d∈l→∃ x,ZnY (ZnX m V) (szC m d) (fsC m d)=some x∧LeT x s
 | e0 :: r,a,s,d,h,hl,e,hd=>by
  unfold ZnZ at e;cases hf:ZnY (ZnX m V) (szC m e0) (fsC m e0) with
  | none=>rw [hf] at e;cases e
  | some x=>
   rw [hf] at e;have n:=hl e0 (by simp);obtain ⟨p,-⟩:=ZpD (ZpC f n) (fun t q=>ZpE f j (Zn8 f n t q)) hf;rcases List.mem_cons.1 hd with rfl|hd
   ·exact ⟨x,hf,(LeT.mx_r a x).trans (ZpF f j (h.mx p) (fun u k=>hl u (by simp [k])) e).2⟩
   ·exact ZpJ f j (h.mx p) (fun u k=>hl u (by simp [k])) e hd
theorem ZpK {m:Md}{V:Nat→Option T3}{c:T3}:∀ {l:List Nat}{a:T3},LeT a c→(∀ d∈l,∃ x,ZnY (ZnX m V) (szC m d) (fsC m d)=some x∧LeT x c)→∃ s,ZnZ m V a l=some s∧LeT s c
 | [],a,h,_=>⟨a,rfl,h⟩
 | d :: r,a,h,hl=>by obtain ⟨x,k,f⟩:=hl d (by simp);unfold ZnZ;rw [k];exact ZpK (h.mx f) fun e j=>hl e (by simp [j])
def ZpL (T:Nat→Option T3):T3→List Int→Option T3
 | a,[]=>some a
 | a,t :: r=>match T t.toNat with|none=>none|some x=>ZpL T (mxT a x) r
def ZpM (m:Md) (T:Nat→Option T3) (i:In3):Option T3:=
 if i.op=25 then T i.a.toNat else if i.op=26 then ZpL T z3 (ZaO m i.a) else if i.op=14 then Zn2 m ⟨2,i.a⟩ else if i.op=15 then Zn2 m ⟨3,0⟩ else if i.op=16 then Zn2 m ⟨4,i.b⟩ else some z3
def ZpN (m:Md) (k p:Nat):List Ty:=(ZeI m k).1.getD p []
def ZpO (m:Md) (k p:Nat):Option T3:=ZnY (Zn2 m) z3 (ZeH (m.me.getD k default)++ZpN m k p)
def ZpP (m:Md) (T:Nat→Option T3) (k p:Nat):Option T3:=
 match ZpO m k p with
 | none=>none
 | some x=>if p<(cdM m k).length then (match ZpM m T ((cdM m k).getD p default) with|none=>none|some y=>some (plT x y)) else some x
def ZpQ (m:Md) (T:Nat→Option T3) (k:Nat):Nat→Nat→T3→Option T3
 | 0,_,a=>some a
 | n+1,p,a=>match ZpP m T k p with|none=>none|some x=>ZpQ m T k n (p+1) (mxT a x)
def mtN (m:Md):Nat→Nat→Option T3
 | 0,_=>none
 | n+1,k=>ZpQ m (mtN m n) k ((cdM m k).length+1) 0 z3
def ZpR (m:Md) (k:Nat):Option T3:=mtN m (k+1) k
theorem ZpS {T U:Nat→Option T3}:∀ {l:List Int}{a:T3},(∀ t∈l,T t.toNat=U t.toNat)→ZpL T a l=ZpL U a l
 | [],_,_=>rfl
 | t :: r,a,h=>by
  unfold ZpL;rw [h t (by simp)];cases U t.toNat with
  | none=>rfl
  | some x=>exact ZpS fun u d=>h u (by simp [d])
theorem ZpT {m:Md} (f:Za2 m=true) {k:Nat} (e:k<m.me.length) {p:Nat} (d:p<(cdM m k).length):ZfU m k ((cdM m k).getD p default):=by have h:=(ZfQ f e).i ((cdM m k).getD p default) (by unfold cdM at d ⊢;rw [List.getD_eq_getElem?_getD (l:=(m.me.getD k default).k),List.getElem?_eq_getElem d];exact List.getElem_mem d);exact ZfV h.1 h.2
theorem ZpU {m:Md}{k:Nat}{T U:Nat→Option T3} (h:∀ j,j<k→T j=U j) {i:In3} (d:ZfU m k i):ZpM m T i=ZpM m U i:=by
 unfold ZpM;split
 ·rename_i q;have:=d.o25 q;have:=d.a0 (by omega);exact h _ (by omega)
 ·split
  ·rename_i q;have h2:=(d.o26 q).2;exact ZpS fun t e=>h _ (by have:=h2 t e;have:=ZfW e;omega)
  ·rfl
theorem ZpV {m:Md} (f:Za2 m=true) {k:Nat} (d:k<m.me.length) {T U:Nat→Option T3} (h:∀ j,j<k→T j=U j):∀ n p a,ZpQ m T k n p a=ZpQ m U k n p a
 | 0,_,_=>rfl
 | n+1,p,a=>by
  unfold ZpQ;have e:ZpP m T k p=ZpP m U k p:=by
   unfold ZpP;cases ZpO m k p with
   | none=>rfl
   | some x=>
    dsimp only;split
    ·rename_i q;rw [ZpU h (ZpT f d q)]
    ·rfl
  rw [e];cases ZpP m U k p with
  | none=>rfl
  | some x=>exact ZpV f d h n (p+1) _
theorem ZpW {m:Md} (d:Za2 m=true):∀ n k,k<n→k<m.me.length→mtN m n k=ZpR m k
 | 0,_,h,_=>by omega
 | n+1,k,h,hk=>by
  show ZpQ m (mtN m n) k _ 0 z3=ZpQ m (mtN m k) k _ 0 z3;refine ZpV d hk (fun j e=>?_) _ _ _;rw [ZpW d n j (by omega) (by omega)];by_cases q:k≤n
  ·by_cases q2:k=n+1
   ·omega
   ·exact (ZpW d k j e (by omega)).symm
  ·omega
theorem ZpX {m:Md} (d:Za2 m=true) {k:Nat} (f:k<m.me.length):ZpR m k=ZpQ m (ZpR m) k ((cdM m k).length+1) 0 z3:=by show ZpQ m (mtN m k) k _ 0 z3=_;exact ZpV d f (fun j e=>ZpW d k j e (by omega)) _ _ _
theorem ZpY {T:Nat→Option T3}:∀ {l:List Int}{a s:T3},BdT a→(∀ t∈l,∀ x,T t.toNat=some x→BdT x)→ZpL T a l=some s→BdT s∧LeT a s∧∀ t∈l,∃ x,T t.toNat=some x∧LeT x s
 | [],a,s,h,_,e=>by obtain rfl:=Option.some.inj e;exact ⟨h,.refl _,fun _ h=>by cases h⟩
 | t :: r,a,s,h,hT,e=>by
  unfold ZpL at e;cases ht:T t.toNat with
  | none=>rw [ht] at e;cases e
  | some x=>
   rw [ht] at e;obtain ⟨h1,h2,f⟩:=ZpY (h.mx (hT t (by simp) x ht)) (fun u d=>hT u (by simp [d])) e;refine ⟨h1,(LeT.mx_l a x).trans h2,fun u d=>?_⟩;rcases List.mem_cons.1 d with rfl|d
   ·exact ⟨x,ht,(LeT.mx_r a x).trans h2⟩
   ·exact f u d
theorem ZpZ {m:Md} (l:Za2 m=true) {k:Nat}{T:Nat→Option T3} (n:∀ j,j<k→∀ x,T j=some x→BdT x) {i:In3} (d:ZfU m k i) {y:T3} (e:ZpM m T i=some y):BdT y∧∀ t∈Zpl m i,∃ x,T t.toNat=some x∧LeT x y:=by
 unfold ZpM at e;unfold Zpl;split at e
 ·rename_i q;have h1:=d.o25 q;have h2:=d.a0 (by omega);rw [if_pos q];exact ⟨n _ (by omega) y e,fun t f=>by rw [List.mem_singleton.1 f];exact ⟨y,e,.refl y⟩⟩
 ·rename_i v;rw [if_neg v];split at e
  ·rename_i q;have h2:=(d.o26 q).2;rw [if_pos q];obtain ⟨p,-,r⟩:=ZpY .z (fun t f=>n _ (by have:=h2 t f;have:=ZfW f;omega)) e;exact ⟨p,r⟩
  ·rename_i z;rw [if_neg z];refine ⟨?_,fun t f=>by cases f⟩;have s:=d.a0;have u:=d.b0;split at e
   ·rename_i q;exact ZpI l (ZfG (.inl rfl) (s (by omega)) (d.o14 (.inl q))) e
   ·split at e
    ·rename_i q;exact ZpI l (by unfold Zfk ZaG;simp) e
    ·split at e
     ·rename_i q;exact ZpI l (ZfG (.inr rfl) u (d.o16 q)) e
     ·obtain rfl:=Option.some.inj e;exact .z
end
section
open Go.RowKit
structure UpL (S:List Nat) (a b:World):Prop where
 os:b.os=a.os
 tape:b.tape=a.tape
 output:b.output=a.output
 size:a.heap.size≤b.heap.size
 block:∀ k,k<a.heap.size→k ∉ S→b.heap[k]?=a.heap[k]?
theorem UpL.refl (S:List Nat) (w:World):UpL S w w:=⟨rfl,rfl,rfl,Nat.le_refl _,fun _ _ _=>rfl⟩
theorem UpL.trans {S:List Nat}{a b c:World} (h:UpL S a b) (k:UpL S b c):UpL S a c:=
 ⟨k.os.trans h.os,k.tape.trans h.tape,k.output.trans h.output,Nat.le_trans h.size k.size,fun i d h1=>(k.block i (Nat.lt_of_lt_of_le d h.size) h1).trans (h.block i d h1)⟩
theorem UpL.of {S:List Nat}{a b:World} (h:Below a.heap.size a b):UpL S a b:=⟨h.os,h.tape,h.output,h.size,fun k d _=>h.block k d⟩
theorem UpL.grown {S:List Nat}{a b:World}{M:Nat} (hg:a.grownBy b (some M)) (hM:M∈S):UpL S a b:=
 ⟨hg.os,hg.tape,hg.output,hg.size,fun q d h1=>hg.block q d fun e=>h1 (by cases e;exact hM)⟩
theorem UpL.below {S:List Nat}{N:Nat}{w0 a b:World} (h:UpL S a b) (hb:Below N w0 a) (hN:N≤w0.heap.size) (hS:∀ k∈S,N≤k):Below N w0 b:=
 ⟨h.os.trans hb.os,h.tape.trans hb.tape,h.output.trans hb.output,Nat.le_trans hb.size h.size,fun k d=>(h.block k (by have:=hb.size;omega) (fun q=>by have:=hS k q;omega)).trans (hb.block k d)⟩
theorem UpL.blk {S:List Nat}{a b:World} (h:UpL S a b) {B:Nat}{xs:Array Value}{t:TypeId} (H:Blk a B xs t) (hn:B ∉ S):Blk b B xs t:=(h.block B H.lt hn).trans H
theorem UpL.set {S:List Nat}{a b:World}{B i:Nat}{v:Value} (h:UpL S a b) (hB:a.heap.size≤B):UpL S a (b.setCell ⟨B,i,none⟩ v):=
 ⟨h.os,h.tape,h.output,by simp [World.setCell];exact h.size,fun k d h1=>by
  rw [Below.heap_setCell _ _ _ _ (show k≠B by omega)];exact h.block k d h1⟩
theorem Zp0 {w w':World}{M:Nat} (f:Znc w M) (k:w.grownBy w' (some M)):Zna w w':=fun p v d=>by
 obtain ⟨l,c,f⟩:=f
 have j:p.block≠M:=fun e=>by unfold World.cell? at d;rw [e,f] at d;simp at d
 exact (World.cell?_of_block (w:=w) (k.block _ (Zad d) fun e=>j (Option.some.inj e))).trans d
theorem Zp1 {w:World}{B M:Nat}{xs:Array Value}{t:TypeId} (h:Blk w B xs t) (d:Znc w M):B≠M:=by rintro rfl;obtain ⟨e,c,d⟩:=d;have h:w.heap[B]?=_:=h;rw [d] at h;cases h
structure MsL where
 l:Nat
 a:Nat
 u:Nat
 k:Nat
 t:Nat
def MsL.s (M:MsL):List Nat:=[M.u,M.k,M.t]
def Zp2 (w:World) (o:Option Value) (l:List Int):Prop:=(o=none∧l=[])∨∃ ao cap,o=some (.slice ao l.length cap)∧Zas w ao cap l
theorem Zp2.keeps {w w':World}{o:Option Value}{l:List Int} (h:Zp2 w o l) (hk:Zna w w'):Zp2 w' o l:=by
 rcases h with h|⟨ao,cap,h1,h2⟩
 ·exact .inl h
 ·exact .inr ⟨ao,cap,h1,Znb h2 hk⟩
def mdF (m:Md) (c:Int):Option Value:=if 0≤c∧ZnV m c.toNat=true then some (.bool true) else none
def unF (U:List Nat) (c:Int):Option Value:=if ∃ u∈U,c=(u:Int) then some (.bool true) else none
def Zp3 (V:Nat→Option T3) (n:Nat) (f:Int→Option Value):Prop:=∀ c v,f c=some v→∃ (d:Nat) (y:T3),c=d∧d<n∧v=ag3 y∧V d=some y
theorem Zp3.put {V:Nat→Option T3}{n:Nat}{f:Int→Option Value} (h:Zp3 V n f) {d:Nat}{y:T3} (hd:d<n) (hy:V d=some y):Zp3 V n (fun j=>if j=(d:Int) then some (ag3 y) else f j):=fun c v e=>by
 dsimp only at e
 split at e
 ·rename_i q;exact ⟨d,y,q,hd,(Option.some.inj e).symm,hy⟩
 ·exact h c v e
theorem Zp3.at {V:Nat→Option T3}{n:Nat}{f:Int→Option Value} (h:Zp3 V n f) {d:Nat}:f d=none∨∃ y,f d=some (ag3 y)∧V d=some y:=by
 cases e:f d with
 | none=>exact .inl rfl
 | some v=>
  obtain ⟨j,y,h1,-,k,l⟩:=h d v e;have:j=d:=by omega
  subst this;exact .inr ⟨y,by rw [k],l⟩
structure Zp4 (w:World) (S:Nat) (M:MsL) (h:Hd) (m:Md) (U:List Nat):Prop where
 bk:Blk w S #[.slice h.co m.cl.length h.cc,.slice h.so m.st.length h.sc,.slice h.eo m.me.length h.ec,.int .i64 m.sel,.map (some M.l),.map (some M.a),.map (some M.u),.map (some M.k),.map (some M.t)] 176
 md:Zaz w h m
 ln:∃ f,MpF kT w M.l f∧∀ t,Zfk m t→Zp2 w (f t) (ZnQ m t)
 ma:MpF kI w M.a (mdF m)
 un:MpF kI w M.u (unF U)
 kn:∃ f,MpF kI w M.k f∧Zp3 (Zn1 m) m.cl.length f
 mt:∃ f,MpF kI w M.t f∧Zp3 (ZpR m) m.me.length f
 nd:[M.l,M.a,M.u,M.k,M.t].Nodup
section
variable {w w':World}{S:Nat}{M:MsL}{h:Hd}{m:Md}{U:List Nat}
section
variable (H:Zp4 w S M h m U)
include H
theorem Zp4.old (hb:Below w.heap.size w w'):Zp4 w' S M h m U:=by obtain ⟨h1,h2,⟨f,l,d⟩,n,p,⟨g,q,e⟩,⟨k,r,j⟩,s⟩:=H;exact ⟨h1.old hb,h2.old hb,⟨f,l.old hb,fun t u=>(d t u).keeps (Zna.of hb)⟩,n.old hb,p.old hb,⟨g,q.old hb,e⟩,⟨k,r.old hb,j⟩,s⟩
theorem Zp4.nes:S ∉ M.s:=by
 intro q;simp only [MsL.s,List.mem_cons,List.not_mem_nil,or_false] at q;rcases q with q|q|q
 ·exact Zp1 H.bk H.un.map q
 ·obtain ⟨f,h,-⟩:=H.kn;exact Zp1 H.bk h.map q
 ·obtain ⟨f,h,-⟩:=H.mt;exact Zp1 H.bk h.map q
theorem Zp4.blk_ne {B:Nat} {xs:Array Value} {t:TypeId} (hB:Blk w B xs t):B ∉ M.s:=by
 intro q;simp only [MsL.s,List.mem_cons,List.not_mem_nil,or_false] at q;rcases q with q|q|q
 ·exact Zp1 hB H.un.map q
 ·obtain ⟨f,h,-⟩:=H.kn;exact Zp1 hB h.map q
 ·obtain ⟨f,h,-⟩:=H.mt;exact Zp1 hB h.map q
theorem Zp4.putU (hg:w.grownBy w' (some M.u)) {V:List Nat} (hs:MpF kI w' M.u (unF V)):Zp4 w' S M h m V:=by obtain ⟨h1,h2,⟨f,q,j⟩,r,s,⟨g,u,l⟩,⟨k,v,n⟩,h8⟩:=H;have y:=Zp0 s.map hg;have d:∀ x,x≠M.u→some x≠some M.u:=fun x A e=>A (Option.some.inj e);simp only [List.nodup_cons,List.mem_cons,List.not_mem_nil,or_false,not_or,not_false_eq_true,List.nodup_nil,and_true] at h8;refine ⟨(hg.block S h1.lt (d _ (Zp1 h1 s.map))).trans h1,h2.keeps y,⟨f,q.eq (hg.block _ q.map.lt (d _ h8.1.2.1)),fun t z=>(j t z).keeps y⟩,r.eq (hg.block _ r.map.lt (d _ h8.2.1.1)),hs,⟨g,u.eq (hg.block _ u.map.lt (d _ (fun e=>h8.2.2.1.1 e.symm))),l⟩,⟨k,v.eq (hg.block _ v.map.lt (d _ (fun e=>h8.2.2.1.2 e.symm))),n⟩,?_⟩;exact j4
theorem Zp4.putK (hg:w.grownBy w' (some M.k)) {g:Int→Option Value} (hs:MpF kI w' M.k g) (hok:Zp3 (Zn1 m) m.cl.length g):Zp4 w' S M h m U:=by obtain ⟨h1,h2,⟨f,n,j⟩,q,r,⟨B,s,y⟩,⟨k,u,l⟩,h8⟩:=H;have v:=Zp0 s.map hg;have d:∀ x,x≠M.k→some x≠some M.k:=fun x A e=>A (Option.some.inj e);simp only [List.nodup_cons,List.mem_cons,List.not_mem_nil,or_false,not_or,not_false_eq_true,List.nodup_nil,and_true] at h8;refine ⟨(hg.block S h1.lt (d _ (Zp1 h1 s.map))).trans h1,h2.keeps v,⟨f,n.eq (hg.block _ n.map.lt (d _ h8.1.2.2.1)),fun t z=>(j t z).keeps v⟩,q.eq (hg.block _ q.map.lt (d _ h8.2.1.2.1)),r.eq (hg.block _ r.map.lt (d _ h8.2.2.1.1)),⟨g,hs,hok⟩,⟨k,u.eq (hg.block _ u.map.lt (d _ (fun e=>h8.2.2.2 e.symm))),l⟩,?_⟩;exact j4
theorem Zp4.putT (hg:w.grownBy w' (some M.t)) {g:Int→Option Value} (hs:MpF kI w' M.t g) (hok:Zp3 (ZpR m) m.me.length g):Zp4 w' S M h m U:=by obtain ⟨h1,h2,⟨f,n,j⟩,q,r,⟨y,s,l⟩,⟨k,u,z⟩,h8⟩:=H;have v:=Zp0 u.map hg;have d:∀ x,x≠M.t→some x≠some M.t:=fun x B e=>B (Option.some.inj e);simp only [List.nodup_cons,List.mem_cons,List.not_mem_nil,or_false,not_or,not_false_eq_true,List.nodup_nil,and_true] at h8;refine ⟨(hg.block S h1.lt (d _ (Zp1 h1 u.map))).trans h1,h2.keeps v,⟨f,n.eq (hg.block _ n.map.lt (d _ h8.1.2.2.2)),fun t A=>(j t A).keeps v⟩,q.eq (hg.block _ q.map.lt (d _ h8.2.1.2.2)),r.eq (hg.block _ r.map.lt (d _ h8.2.2.1.2)),⟨y,s.eq (hg.block _ s.map.lt (d _ h8.2.2.2)),l⟩,⟨g,hs,hok⟩,?_⟩;exact j4
end
end
theorem Zp5 {U:List Nat}{c:Nat} (j:Int):(if j=(c:Int) then some (Value.bool true) else unF U j)=unF (c :: U) j:=by
 unfold unF;by_cases q:j=(c:Int)
 ·rw [if_pos q,if_pos ⟨c,by simp,q⟩]
 ·rw [if_neg q];by_cases r:∃ u∈U,j=(u:Int)
  ·obtain ⟨u,d,e⟩:=r;rw [if_pos ⟨u,d,e⟩,if_pos ⟨u,by simp [d],e⟩]
  ·rw [if_neg r,if_neg];rintro ⟨u,d,e⟩;rcases List.mem_cons.1 d with rfl|d
   ·exact q e
   ·exact r ⟨u,d,e⟩
theorem Zp6 {U:List Nat}{c:Nat} (d:c ∉ U) (j:Int):(if j=(c:Int) then none else unF (c :: U) j)=unF U j:=by
 rw [←Zp5];by_cases q:j=(c:Int)
 ·rw [if_pos q];unfold unF;rw [if_neg];rintro ⟨u,f,e⟩;have:u=c:=by omega
  subst this;exact d f
 ·rw [if_neg q,if_neg q]
theorem Zp7 {U:List Nat}{c:Nat}:(unF U c).isSome=decide (c∈U):=by unfold unF;exact j7
def Zp8 (w:World) (S:Nat) (M:MsL) (h:Hd) (m:Md) (U:List Nat) (v:Option T3) (stuck:Prop):Ending→World→Prop:=fun e w'=>Zp4 w' S M h m U∧UpL M.s w w'∧Zna w w'∧∃ x ok,e=.returned (.tuple #[ag3 x,.bool ok])∧BdT x∧(ok=true→v=some x)∧(ok=false→stuck)
def Zp9 (m:Md) (U:List Nat) (t:Ty):Prop:=∃ d,Zok m t d∧Zot m U d
def Zqa (S:Nat) (M:MsL) (h:Hd) (m:Md) (n:Nat):Prop:=∀ w U c,Zp4 w S M h m U→U.Nodup→(∀ u∈U,u<m.cl.length)→m.cl.length-U.length≤n→c<m.cl.length →
 Calls Tryz.prog 90 #[ZQ.p S,.int .i64 (c:Nat)] w (Zp8 w S M h m U (Zn1 m c) (Zot m U c))
def Zqb (S:Nat) (M:MsL) (h:Hd) (m:Md) (n:Nat):Prop:=∀ w U t,Zp4 w S M h m U→U.Nodup→(∀ u∈U,u<m.cl.length)→m.cl.length-U.length≤n→Zfk m t →
 Calls Tryz.prog 77 #[ZQ.p S,.agg #[.int .i64 t.k,.int .i64 t.c]] w (Zp8 w S M h m U (Zn2 m t) (Zp9 m U t))
end
section
end
