import Derived.Test.YtcfjblcgceednaaGreatL26
import Derived.Test.YtcfjblcgceednaaGreatL27
set_option linter.all false
set_option maxRecDepth 100000
set_option maxHeartbeats 16000000
namespace Go.Proofs.YtcfjblcgceednaaGreat
section
def lkV (g:Wg) (l:List In3) (lock:Int) (p:Nat):Int:=if (l.getD p default).op=31∧(l.getD p default).a=lock then ZmS (WA g l (p+1) (mtV l p).2 0) 1 else 0
def Zpn (g:Wg) (l:List In3) (lock:Int) (a:Nat):Nat→Int
 | 0=>0
 | n+1=>max (Zpn g l lock a n) (lkV g l lock (a+n))
def Zpo (g:Wg) (l:List In3) (lock:Int) (a b:Nat):Int:=Zpn g l lock a (b-a)
section
variable {g:Wg}{l:List In3}{lock:Int}
theorem Zpp (a:Nat):∀ n,0≤Zpn g l lock a n
 | 0=>Int.le_refl _
 | n+1=>Int.le_trans (Zpp a n) (Int.le_max_left _ _)
theorem Zpq (a n:Nat):∀ k,Zpn g l lock a (n+k)=max (Zpn g l lock a n) (Zpn g l lock (a+n) k)
 | 0=>by have:=Zpp (g:=g) (l:=l) (lock:=lock) a n;show Zpn g l lock a n=max _ 0;omega
 |k+1=>by show max (Zpn g l lock a (n+k)) (lkV g l lock (a+(n+k)))=max _ (max (Zpn g l lock (a+n) k) (lkV g l lock (a+n+k)));rw [Zpq a n k,Nat.add_assoc];omega
theorem Zpr (a:Nat):Zpo g l lock a a=0:=by unfold Zpo;rw [Nat.sub_self];rfl
theorem Zps (a b:Nat):0≤Zpo g l lock a b:=Zpp a _
theorem Zpt {a c b:Nat} (d:a≤c) (e:c≤b):Zpo g l lock a b=max (Zpo g l lock a c) (Zpo g l lock c b):=by unfold Zpo;rw [show b-a=(c-a)+(b-c) by omega,Zpq,show a+(c-a)=c by omega]
theorem Zpu (a:Nat):Zpo g l lock a (a+1)=max 0 (lkV g l lock a):=by unfold Zpo;rw [show a+1-a=1 by omega];rfl
theorem Zpv {a b:Nat} (h:a<b):Zpo g l lock a b=max (max 0 (lkV g l lock a)) (Zpo g l lock (a+1) b):=by rw [Zpt (c:=a+1) (by omega) (by omega),Zpu]
theorem Zpw {a b:Nat} (h:a≤b):Zpo g l lock a (b+1)=max (Zpo g l lock a b) (lkV g l lock b):=by unfold Zpo;rw [show b+1-a=(b-a)+1 by omega];show max _ (lkV g l lock (a+(b-a)))=_;rw [show a+(b-a)=b by omega]
theorem Zpx {p:Nat} (h:(l.getD p default).op≠31):lkV g l lock p=0:=by unfold lkV;rw [if_neg fun q=>h q.1]
theorem Zpy {p b:Nat} (h:ZaR (l.getD p default).op=false) (a:p<b):Zpo g l lock p b=Zpo g l lock (p+1) b:=by have:=Zps (g:=g) (l:=l) (lock:=lock) (p+1) b;rw [Zpv a,Zpx (fun e=>by rw [e] at h;exact absurd h (by decide))];omega
theorem Zpz {p b:Nat} (h:(l.getD p default).op=34∨(l.getD p default).op=35) (a:p<b):Zpo g l lock p b=Zpo g l lock (p+1) b:=by have:=Zps (g:=g) (l:=l) (lock:=lock) (p+1) b;rw [Zpv a,Zpx (by omega)];omega
theorem ZpA {p en b:Nat} (h:Mat l p (-1) en) (d:en<b):Zpo g l lock p b=max (max (max 0 (lkV g l lock p)) (Zpo g l lock (p+1) en)) (Zpo g l lock (en+1) b):=by have e:=ZbI h;rw [Zpv (show p<b by omega),Zpt (a:=p+1) (c:=en) (by omega) (by omega),Zpz (.inr h.2.2.2.1) d];omega
theorem ZpB {p n en b:Nat} (h:Mat l p n en) (k:p<n∧n<en) (f:en<b):Zpo g l lock p b=max (max (max (max 0 (lkV g l lock p)) (Zpo g l lock (p+1) n)) (Zpo g l lock (n+1) en)) (Zpo g l lock (en+1) b):=by
 have d:(l.getD n default).op=34:=by
  obtain ⟨_,_,_,_,e⟩:=h;rcases e with ⟨q,_⟩|⟨x,q,_,j,_⟩
  ·omega
  ·obtain rfl:n=x:=by omega
   exact j
 rw [Zpv (show p<b by omega),Zpt (a:=p+1) (c:=n) (by omega) (by omega),Zpz (p:=n) (.inl d) (by omega),Zpt (a:=n+1) (c:=en) (by omega) (by omega),Zpz (p:=en) (.inr h.2.2.2.1) f];omega
end
theorem ZpC {a b c:Int} (h:a≤c) (d:0≤b) (e:Bd c):a≤ZmS c b:=by unfold ZmS ZmR Bd at *;omega
theorem ZpD {a b c:Int} (h:a≤b) (e:0≤c) (d:Bd b):a≤ZmS c b:=by unfold ZmS ZmR Bd at *;omega
theorem ZpE {a x:Int} (ha:1≤a) (b:Bd x):x≤ZmT a x:=by
 have c:x≤a*x:=by have:=Int.mul_le_mul_of_nonneg_right ha b.1;rwa [Int.one_mul] at this
 unfold ZmT ZmR Bd at *;omega
section
variable {m:Md}{T:Int→Int}{l:List In3} (hw:∀ i∈l,0≤ZmU i∧ZmU i≤1000) (hT:∀ t,Bd (T t)) (ha:∀ i∈l,i.op≠1→0≤i.a) (hz:∀ i∈l,i.op=30→i.a≠0)
include hw hz ha
theorem ZpF {i:In3} (n:i∈l) {f s:Int} (u:Bd f) (k:Bd s):ZmS f 1≤(gW ZmV m T).brk i f s∧(i.op=29∨i.op=33→s≤(gW ZmV m T).brk i f s):=by
 have b:=hw i n;have c:Bd 1:=by unfold Bd;omega
 have a:=ZnF u c;have o:=ZnF k c;have r:i.op=30→1≤i.a:=fun h=>by have:=hz i n h;have:=ha i n (by omega);omega
 have e:i.op=30→ZmS f 1≤ZmT i.a (ZmS f 1)∧Bd (ZmT i.a (ZmS f 1)):=fun h=>⟨ZpE (r h) a,ZnG (by have:=r h;omega) a⟩;show _≤(if i.op=29 then ZmS (ZmU i) (max (ZmS f 1) (ZmS s 1)) else if i.op=30 then ZmS (ZmU i) (ZmT i.a (ZmS f 1)) else if i.op=32∧false=true then ZmU i else if i.op=33 then ZmS (ZmU i) (ZmS (ZmS f 1) s) else ZmS (ZmU i) (ZmS f 1)) ∧
  (_→_≤(if i.op=29 then ZmS (ZmU i) (max (ZmS f 1) (ZmS s 1)) else if i.op=30 then ZmS (ZmU i) (ZmT i.a (ZmS f 1)) else if i.op=32∧false=true then ZmU i else if i.op=33 then ZmS (ZmU i) (ZmS (ZmS f 1) s) else ZmS (ZmU i) (ZmS f 1)))
 have p:s≤ZmS s 1:=ZpC (Int.le_refl _) (by omega) k;have j:=ZnH a o;by_cases h29:i.op=29
 ·rw [if_pos h29];exact ⟨ZpD (Int.le_max_left _ _) b.1 j,fun _=>ZpD (Int.le_trans p (Int.le_max_right _ _)) b.1 j⟩
 ·rw [if_neg h29];by_cases h30:i.op=30
  ·rw [if_pos h30];exact ⟨ZpD (e h30).1 b.1 (e h30).2,fun q=>by omega⟩
  ·rw [if_neg h30,if_neg (fun q=>by cases q.2)];by_cases h33:i.op=33
   ·rw [if_pos h33];have d:=ZnF a k;exact ⟨ZpD (ZpC (Int.le_refl _) k.1 a) b.1 d,fun _=>ZpD (ZpD (Int.le_refl _) a.1 k) b.1 d⟩
   ·rw [if_neg h33];exact ⟨ZpD (Int.le_refl _) b.1 a,fun q=>by omega⟩
def ZpG (g:Wg) (l:List In3) (a b:Nat) (v:Int):Prop:=∀ p,a≤p→p<b→(ZaR (l.getD p default).op=false→(l.getD p default).op≠34→(l.getD p default).op≠35→g.pl (l.getD p default)≤v)∧∀ en,Mat l p (-1) en→ZmS (WA g l (p+1) en 0) 1≤v
include hT
theorem ZpH {a b:Nat} (V:Seg l a b):∀ acc,Bd acc→acc≤WA (gW ZmV m T) l a b acc∧ZpG (gW ZmV m T) l a b (WA (gW ZmV m T) l a b acc):=by
 have L:∀ k,k<l.length→l.getD k default∈l:=fun k hk=>ZfU _ hk;have R:=ZnJ (x:=ZmV) (m:=m) hw (by decide) hT ha;have J:=ZnK (x:=ZmV) (m:=m) hw (by decide) hT ha;have D:=fun {a b} (h:Seg l a b)=>ZnL (x:=ZmV) (m:=m) hw (by decide) hT ha h;have h0:Bd 0:=by unfold Bd;omega
 induction V with
 | nil a h=>intro acc f;rw [Zmv];exact ⟨Int.le_refl _,fun p h1 H=>by omega⟩
 |pl a b q1 q2 q3 q4 q5 ih=>
  intro acc f;rw [Zmw q2 q5];have hp:=R _ (L a q1);obtain ⟨I,O⟩:=ih _ (ZnF f hp);refine ⟨Int.le_trans (ZpC (Int.le_refl _) hp.1 f) I,fun p h1 H=>?_⟩;by_cases e:p=a
  ·subst e;exact ⟨fun _ _ _=>Int.le_trans (ZpD (Int.le_refl _) f.1 hp) I,fun G he=>by have:=he.2.1;unfold ZbE at this;rw [q2] at this;cases this⟩
  ·exact O p (by omega) H
 |one a G b q1 q2 q3 I O=>
  intro acc f;rw [Zmx q1 q2 q3];have E:=D q2 0 h0;have hb:=J _ (L a q1.1) _ _ E h0;have z:=ZpF (m:=m) (T:=T) hw ha hz (L a q1.1) E h0;obtain ⟨j1,j2⟩:=O _ (ZnF f hb);have A:=Int.le_trans (ZpD (Int.le_refl _) f.1 hb) j1;obtain ⟨k1,k2⟩:=I 0 h0;have C:=Int.le_trans (Int.le_trans (ZpC (Int.le_refl _) (show (0:Int)≤1 by omega) E) z.1) A;refine ⟨Int.le_trans (ZpC (Int.le_refl _) hb.1 f) j1,fun p h1 H=>?_⟩;by_cases e:p=a
  ·subst e;refine ⟨fun h _ _=>(by have:=q1.2.1;unfold ZbE at this;rw [h] at this;cases this),fun y he=>?_⟩;obtain rfl:=(ZbH q1 he).2;exact Int.le_trans z.1 A
  ·by_cases e2:p<G
   ·obtain ⟨r1,r2⟩:=k2 p (by omega) e2;exact ⟨fun x1 x2 x3=>Int.le_trans (r1 x1 x2 x3) C,fun y he=>Int.le_trans (r2 y he) C⟩
   ·by_cases e3:p=G
    ·subst e3;exact ⟨fun _ _ h=>absurd q1.2.2.2.1 h,fun y he=>by have:=he.2.1;unfold ZbE at this;rw [q1.2.2.2.1] at this;exact absurd this (by decide)⟩
    ·exact j2 p (by omega) H
 |two a n G b q1 q2 q3 q4 I O i3=>
  intro acc f;rw [Zmy q1 q2 q3 q4];have E:=D q2 0 h0;have N:=D q3 0 h0;have hb:=J _ (L a q1.1) _ _ E N;have z:=ZpF (m:=m) (T:=T) hw ha hz (L a q1.1) E N;have F:((l.getD a default).op=29∨(l.getD a default).op=33)∧(l.getD n default).op=34:=by
   obtain ⟨_,_,_,_,U⟩:=q1;rcases U with ⟨q,_⟩|⟨x,q,_,X,q3,_⟩
   ·omega
   ·obtain rfl:n=x:=by omega
    exact ⟨q3,X⟩
  obtain ⟨j1,j2⟩:=i3 _ (ZnF f hb);have A:=Int.le_trans (ZpD (Int.le_refl _) f.1 hb) j1;obtain ⟨k1,k2⟩:=I 0 h0;obtain ⟨Y,W⟩:=O 0 h0;have C:=Int.le_trans (Int.le_trans (ZpC (Int.le_refl _) (show (0:Int)≤1 by omega) E) z.1) A;have M:=Int.le_trans (z.2 F.1) A;refine ⟨Int.le_trans (ZpC (Int.le_refl _) hb.1 f) j1,fun p h1 H=>?_⟩;by_cases e:p=a
  ·subst e;refine ⟨fun h _ _=>(by have:=q1.2.1;unfold ZbE at this;rw [h] at this;cases this),fun y he=>?_⟩;have:=(ZbH q1 he).1;omega
  ·by_cases e2:p<n
   ·obtain ⟨r1,r2⟩:=k2 p (by omega) e2;exact ⟨fun x1 x2 x3=>Int.le_trans (r1 x1 x2 x3) C,fun y he=>Int.le_trans (r2 y he) C⟩
   ·by_cases e3:p=n
    ·subst e3;exact ⟨fun _ h _=>absurd F.2 h,fun y he=>by have:=he.2.1;unfold ZbE at this;rw [F.2] at this;exact absurd this (by decide)⟩
    ·by_cases e4:p<G
     ·obtain ⟨r1,r2⟩:=W p (by omega) e4;exact ⟨fun x1 x2 x3=>Int.le_trans (r1 x1 x2 x3) M,fun y he=>Int.le_trans (r2 y he) M⟩
     ·by_cases e5:p=G
      ·subst e5;exact ⟨fun _ _ h=>absurd q1.2.2.2.1 h,fun y he=>by have:=he.2.1;unfold ZbE at this;rw [q1.2.2.2.1] at this;exact absurd this (by decide)⟩
      ·exact j2 p (by omega) H
end
theorem ZpI {T:Int→Int}{l:List Int}{t:Int} (h:t∈l):T t≤ZmW T l:=by
 have b:∀ (l:List Int) (a:Int),a≤l.foldl (fun a t=>max a (T t)) a:=by
  intro l
  induction l with
  | nil=>intro a;exact Int.le_refl _
  | cons x r ih=>intro a;exact Int.le_trans (Int.le_max_left _ _) (ih _)
 unfold ZmW;generalize (0:Int)=a
 induction l generalizing a with
 | nil=>simp at h
 |cons x r ih=>
  rcases List.mem_cons.1 h with rfl|h
  ·exact Int.le_trans (Int.le_max_right _ _) (b r _)
  ·exact ih h _
end
section
open Go.RowKit
attribute [local go_sem] World.cell?_alloc_some
def ZpJ (w:World) (m:Md):Ending→World→Prop:=fun e w'=>(∃ (a1:Option Addr) (c1:Nat) (zs:List Int) (a2:Option Addr) (c2:Nat) (ys:List Int),e=.returned (.tuple #[.slice a1 zs.length c1,.slice a2 ys.length c2])∧Zar w' a1 c1 zs∧Zar w' a2 c2 ys∧InR m.cl.length zs∧InR m.st.length ys∧zs.length≤200∧ys.length≤200∧(∀ ad,a1=some ad→w.heap.size≤ad.block)∧∀ ad,a2=some ad→w.heap.size≤ad.block)∧Below w.heap.size w w'
theorem Zoh.row {w:World}{base:Nat}{ao:Option Addr}{cap:Nat}{zs:List Int} (h:Zoh w base ao cap zs):Zar w ao cap zs:=Zar.of_own (by rw [Zat];exact h)
theorem Zoh.drew {w:World}{base:Nat}{ao:Option Addr}{cap:Nat}{zs:List Int} (h:Zoh w base ao cap zs):Zoh w.drew base ao cap zs:=h.old (Below.refl _ w).drew
theorem ZpK {n:Nat}{t:Ty} (h:ZaF n t 1=true):ZaF n t 0=true:=by
 unfold ZaF at *;split at h
 ·rename_i q;rw [if_pos q];exact h
 ·rename_i q;rw [if_neg q];split at h
  ·rename_i a;rw [if_pos a];simp at h ⊢;omega
  ·cases h
theorem ZpL {m:Md} (h:Za1 m=true) {k:Nat} (f:k<m.me.length):(∀ t∈ZeF (m.me.getD k default),ZaF m.cl.length t 0=true)∧(ZeF (m.me.getD k default)).length≤15:=by
 have b:=ZfN h f;have e:=b.c;have hz:=b.z;have d:=b.p;have c:=b.l;clear b;generalize m.me.getD k default=x at e hz d c ⊢;constructor
 ·intro t a;unfold ZeF at a;rcases List.mem_append.1 a with a|a
  ·rcases List.mem_append.1 a with a|a
   ·split at a
    ·rw [List.mem_singleton] at a;subst a;unfold ZaF;simp;omega
    ·cases a
   ·exact ZpK (d t a)
  ·exact ZpK (c t a)
 ·unfold ZeF;split<;>simp<;>omega
theorem ZpM (m:Md) (h:Hd) (k:Nat) (w:World) (H:Zay w h m) (hv:Za1 m=true) (hk:k<m.me.length):Calls Tryz.prog 170 #[.agg (HM.mk h m),.int .i64 k] w (ZpJ w m):=by
 have bF:Below w.heap.size w (w.alloc (.cells (HM.mk h m) 26)):=by exact bE
 obtain ⟨w0,ay⟩:∃ w0,w0=w.alloc (.cells (HM.mk h m) 26):=⟨_,rfl⟩;have HB:=Zh (show Below w.heap.size w w0 by rw [ay];exact bE);have HX:=Zh (show Blk w0 w.heap.size (HM.mk h m) 26 by rw [ay];exact Blk.new _ _ _);have Hj:=Zh (H.old HB.out);have HW:=Zh ay;have aU:=Zh (Zjl m h k w0 Hj.out hv hk);have aF:=Zh (ZpL hv hk);have aW:=Zh (ZfN hv hk);have br:=Zh (fun i hi=>ZfS ((ZfN hv hk).i i hi).1 ((ZfN hv hk).i i hi).2);have bI:(cdM m k).length≤120:=(ZfN hv hk).z.2.2;have ci:(k:Int) < m.me.length:=by omega
 clear ay H bF;go_enter Tryz.func170,Tryz.ntmps170
 go_upto_region 1 with fail
 rw [←HW.out];obtain ⟨L,hL⟩:∃ L,L=ZeF (m.me.getD k default):=⟨_,rfl⟩;rw [←hL] at aU aF;clear hL;obtain ⟨x0,x1,x2,x3⟩:=Zj5 HX.out
 go_upto_region 3 with (go_at_call 137;refine aU.out.mono ?_;rintro e w1 ⟨⟨lo,lc,rfl,aB⟩,a3⟩;have aE:=Zh aB;have au:=Zh a3;clear aB a3 x0 x1 x2 x3)
 have bo:=Zh (Hj.out.old au.out);obtain ⟨ea,aH,-,-,-,-,e4,e5,e6⟩:=bo.out.mth hk;have x2:=(HX.out.old au.out).cell 2 (v:=.slice h.eo m.me.length h.ec) rfl;rw [aH] at x2;have aM:=aW.out.r;have aT:=Zh aH;rw [show (m.me.getD k default).k.length=(cdM m k).length from rfl] at e6;have bn:=Zh e6;obtain ⟨⟨rk,rc⟩,hR⟩:∃ r,r=(m.me.getD k default).r:=⟨_,rfl⟩;rw [←hR] at e4 e5 aM;have bt:=Zh aM;dsimp only at e4 e5;clear aH hR aM e6;have bJ:=aF.out.2
 go_upto_region 4 with (at_builtin;refine Zaj rfl (.tmp 19) (.tmp 26) 23 rfl w0.heap.size 76 2 16 Zff (.slice lo L.length lc) L.length (Zak L) rfl (World.ownsRow.alloc aE.out _) _ 1 1 [.int .i64 rk,.int .i64 rc] rfl (ZdL (Blk.new' #[.int .i64 rk,.int .i64 rc] 76 rfl) rfl) (by intro u hu;simp at hu;rcases hu with rfl|rfl<;>rfl) (by omega) (by unfold maxLen;omega) (by have:=au.out.size;simp;omega) ?_;intro bz aZ C am a5;have aV:=Zh am;have av:=Zh (ZcV (bal au.out _) a5 (fun j hj=>(World.ownsRow.lt aE.out j hj).1));clear am a5)
 obtain ⟨L2,aw⟩:∃ L2,L2=L++[(⟨rk,rc⟩:Ty)]:=⟨_,rfl⟩;have a9:L2.length=L.length+1:=by rw [aw,List.length_append];rfl
 have bs:=Zh (show Zar C bz aZ L2 from Zar.of_own (by
  have h2:=aV.out;rw [aw,Zan,List.length_append];exact h2))
 have bu:=Zh (show ∀ t∈L2,ZaF m.cl.length t 0=true from fun t ht=>by
  rw [aw] at ht;rcases List.mem_append.1 ht with q|q
  ·exact aF.out.1 t q
  ·rw [List.mem_singleton.1 q];exact bt.out)
 rw [←a9];have bZ:L2.length≤16:=by omega
 have aC:=Zh (Zaf HB.out av.out);have aD:=Zh (show Zar C (h.e k).ko (h.e k).kc (cdM m k) from (Hj.out.old av.out).k k hk);have bw:=Zh (show C.cell? ⟨w.heap.size,2,none⟩=some (.slice (some ea) m.me.length h.ec) by have:=(HX.out.old av.out).cell 2 (v:=.slice h.eo m.me.length h.ec) rfl;rwa [aT.out] at this);have aS:=Zh (show C.cell? ⟨(ea.add (k*7)).block,(ea.add (k*7)).off+6,none⟩=some (.slice (h.e k).ko (cdM m k).length (h.e k).kc) by
  obtain ⟨ch,aA,-,-,-,-,-,-,bD⟩:=(Hj.out.old av.out).mth hk;rw [aT.out] at aA;cases aA;exact bD)
 clear aw a9 bJ x2 e4 e5 aV bn aE;go_wp2
 go_loopw [6,10] (fun c i wr=>∃ (j:Nat) (ao:Option Addr) (ai:Nat) (W:List Int),i=.int .i64 j∧j≤L2.length∧c=.slice ao W.length ai∧W.length≤j∧Hid (Zoh wr C.heap.size ao ai W)∧Hid (InR m.cl.length W)∧Hid (Below C.heap.size C wr)) (fun _ i _=>L2.length-(intOf i).toNat)
 case atStart=>exact ⟨0,none,0,[],rfl,Nat.zero_le _,rfl,Nat.le_refl _,World.ownsRow_nil _ _ _ _,fun x hx=>by simp at hx,Below.refl _ _⟩
 case round=>
  obtain ⟨j,ao,ai,W,rfl,hj,rfl,cn,HO,HI,R⟩:=hrel;rename World=>wr;by_cases hjl:j<L2.length
  ·have a8:(j:Int) < L2.length:=by omega
   have ck:IntKind.i64.wrap ((j:Int)+1)=((j+1:Nat):Int):=IntWalk.i64_in _ (by omega);obtain ⟨ld,rfl,t0,t1⟩:=Zaz (bs.out.old R.out) hjl;have ab:=bu.out (L2.getD j default) (ZfU _ hjl);obtain ⟨t,ht⟩:∃ t,t=L2.getD j default:=⟨_,rfl⟩;rw [←ht] at t0 t1 ab;have Z:=Zh (Zop t C.heap.size ao ai W wr HO.out R.out.size (by omega));have af:=Zh (Zof HI.out ab);have aL:=Zog W t;obtain ⟨aO,ap⟩:∃ z,z=nmV W t:=⟨_,rfl⟩;rw [←ap] at Z af aL;obtain ⟨tk,tc⟩:=t;dsimp only at t0 t1 Z;clear ab ht ap
   go_wp2_with (go_at_call 171;refine Z.out.mono ?_;rintro e w3 ⟨aG,aj,rfl,an,a6,-⟩;have bq:=Zh an;have bl:=Zh (R.out.trans (Zom HO.out a6 R.out.size));clear an a6)
   exact ⟨⟨j+1,aG,aj,aO,rfl,hjl,rfl,by omega,bq.out,af.out,bl.out⟩,by simp [intOf];omega⟩
  ·have a8:¬ (j:Int) < L2.length:=by omega
   have HC:=Zh (show Cs [(⟨w.heap.size,2,none⟩,.slice (some ea) m.me.length h.ec),(⟨(ea.add (k*7)).block,(ea.add (k*7)).off+6,none⟩,.slice (h.e k).ko (cdM m k).length (h.e k).kc)] wr from ⟨(Znz.of R.out) _ _ bw.out,(Znz.of R.out) _ _ aS.out,trivial⟩);obtain ⟨y2,y6,-⟩:=HC.out;obtain ⟨cd,al⟩:∃ cd,cd=cdM m k:=⟨_,rfl⟩;obtain ⟨ko,aK⟩:∃ o,o=(h.e k).ko:=⟨_,rfl⟩;obtain ⟨kc,aJ⟩:∃ o,o=(h.e k).kc:=⟨_,rfl⟩;rw [←al,←aK,←aJ] at y6;rw [←al,←aK,←aJ] at aD;have bm:=Zh al;rw [←al] at bI;clear al aK aJ HC aS;have bM:W.length≤16:=by omega
   go_wp2_with fail
   go_loopw [6,7,12] (fun c s i wr=>∃ (j:Nat) (a1:Option Addr) (c1:Nat) (W:List Int) (a2:Option Addr) (c2:Nat) (V:List Int),i=.int .i64 j∧j≤cd.length∧c=.slice a1 W.length c1∧s=.slice a2 V.length c2∧W.length≤16+j∧V.length≤j∧Hid (Zok wr C.heap.size a1 c1 W a2 c2 V)∧Hid (InR m.cl.length W∧InR m.st.length V)∧Hid (Below C.heap.size C wr)) (fun _ _ i _=>cd.length-(intOf i).toNat)
   case atStart=>exact ⟨0,ao,ai,W,none,0,[],rfl,Nat.zero_le _,rfl,rfl,by omega,Nat.le_refl _,⟨HO.out,World.ownsRow_nil _ _ _ _,fun b _ e=>by cases e⟩,⟨HI.out,fun x hx=>by simp at hx⟩,R.out⟩
   case round=>
    obtain ⟨i,a1,c1,xs,a2,c2,V,rfl,hi,rfl,rfl,cl,cm,y,G,J⟩:=hrel;rename World=>F;by_cases hil:i<cd.length
    ·have a7:(i:Int) < cd.length:=by omega
     have cj:IntKind.i64.wrap ((i:Int)+1)=((i+1:Nat):Int):=IntWalk.i64_in _ (by omega);obtain ⟨kd,rfl,o0,o1,o2⟩:=ZaA (aD.out.old J.out) hil;have N:=ZfU default hil;obtain ⟨it,aI⟩:∃ q,q=cd.getD i default:=⟨_,rfl⟩;rw [←aI] at o0 o1 o2 N;rw [bm.out] at N;have ba:=br.out it N;have bK:=ZnU ((aW.out.i it N).1);obtain ⟨O,E,X⟩:=it;dsimp only at o0 o1 o2 bK;have K:=Zh ba;have ak:=J.out.size;have HQ:=Zh (show ∀ w',Below C.heap.size C w'→w'.cell? ⟨(kd.add (i*3)).block,(kd.add (i*3)).off+1,none⟩=some (.int .i64 E)∧w'.cell? ⟨(kd.add (i*3)).block,(kd.add (i*3)).off+2,none⟩=some (.int .i64 X) from fun w' hb=>by
      obtain ⟨co,bH,-,q1,q2⟩:=ZaA (aD.out.old hb) hil;cases bH;rw [←aI] at q1 q2;exact ⟨q1,q2⟩)
     clear ba N aI;by_cases h12:O=12
     ·subst h12;have h1:=K.out.o12 rfl;have h2:=K.out.b0;dsimp only at h1 h2;have ab:ZaF m.cl.length ⟨E,X⟩ 0=true:=by
       unfold ZaF;dsimp only;by_cases q:E=3
       ·subst q;have:=h1.2.1 rfl;subst this;simp
       ·have q2:E=2∨E=4:=by omega
        rw [if_pos q2];simp;exact ⟨h2,h1.2.2 q⟩
      have Z:=Zh (fun w' (hb:Below F.heap.size F w')=>Zop ⟨E,X⟩ C.heap.size a1 c1 xs w' (y.out.old hb).1 (Nat.le_trans ak hb.size) (by omega));have af:=Zh (Zof G.out.1 ab);have aL:=Zog xs ⟨E,X⟩;obtain ⟨aO,ap⟩:∃ z,z=nmV xs ⟨E,X⟩:=⟨_,rfl⟩;rw [←ap] at Z af aL;clear h1 h2 ab ap
      go_upto_region 14 with fail
      refine rO (Cs [(⟨(kd.add (i*3)).block,(kd.add (i*3)).off+1,none⟩,.int .i64 E),(⟨(kd.add (i*3)).block,(kd.add (i*3)).off+2,none⟩,.int .i64 X)]) (oL [0,1,2,3,4,5,6,7,8,9,10,11,112,13]) ⟨o1,o2,trivial⟩ ?_
      repeat refine pO ?_
      refine oO fun Kv hK=>?_;go_simp;refine (Z.out _ (Below.refl _ _).drew).mono ?_;rintro e Y ⟨aG,aj,rfl,f,B,A⟩;have a4:=Zom (y.out.old (Below.refl _ F).drew).1 B ak;have U:=Zh ((y.out.old (Below.refl _ F).drew).left f B A);have I:=Zh (J.out.trans (show Below C.heap.size F Y from ((Below.refl C.heap.size F).drew).trans a4));have bb:Y.cell? ⟨(kd.add (i*3)).block,(kd.add (i*3)).off+1,none⟩=some (.int .i64 E):=HQ.out Y I.out |>.1;have bc:Y.cell? ⟨(kd.add (i*3)).block,(kd.add (i*3)).off+2,none⟩=some (.int .i64 X):=HQ.out Y I.out |>.2;refine hK _ _ ⟨⟨bb,bc,trivial⟩,?_⟩;clear hK Kv f B A a4 bb bc o0 o1 o2
      repeat refine pO ?_
      refine Zd5 ?_;go_wp2;exact ⟨⟨i+1,aG,aj,aO,a2,c2,V,rfl,hil,rfl,rfl,by omega,by omega,U.out,⟨af.out,G.out.2⟩,I.out⟩,by simp [intOf];omega⟩
     by_cases h14:O=14∨O=24
     ·have HV:=Zh (show 0≤E∧E<m.cl.length from ⟨K.out.a0 (by dsimp only;omega),K.out.o14 h14⟩);rcases h14 with rfl|rfl
      all_goals
       go_wp2_with (at_builtin;refine Zon rfl (.tmp 75) (.tmp 81) rfl C.heap.size a1 c1 xs rfl (y.out.old (bal (Below.refl _ F) _)).1 _ 1 [E] rfl (show Zar _ (some ⟨F.heap.size,0,none⟩) 1 [E] from ZdL (n:=1) (size:=1) (Blk.new _ #[.int .i64 E] 3) rfl) ⟨by omega,by simp⟩ (by simp;omega) ?_;intro M D Y f B A;have U:=Zh (show Zok Y C.heap.size M D (xs++[E]) a2 c2 V from (y.out.old (bal (Below.refl _ F) _)).left f B A);have I:=Zh (J.out.trans (show Below C.heap.size F Y from ((Below.refl C.heap.size F).alloc ak _).trans (Zom (y.out.old (bal (Below.refl _ F) _)).1 B (by simp;omega))));clear f B A)
       exact ⟨⟨i+1,M,D,xs++[E],a2,c2,V,rfl,hil,by rw [List.length_append];rfl,rfl,by rw [List.length_append,List.length_singleton];omega,by omega,U.out,⟨G.out.1.app (.one HV.out),G.out.2⟩,I.out⟩,by simp [intOf];omega⟩
     by_cases h16:O=16
     ·have HV:=Zh (show 0≤X∧X<m.cl.length from ⟨K.out.b0,K.out.o16 h16⟩);subst h16
      go_wp2_with (at_builtin;refine Zon rfl (.tmp 85) (.tmp 91) rfl C.heap.size a1 c1 xs rfl (y.out.old (bal (Below.refl _ F) _)).1 _ 1 [X] rfl (show Zar _ (some ⟨F.heap.size,0,none⟩) 1 [X] from ZdL (n:=1) (size:=1) (Blk.new _ #[.int .i64 X] 3) rfl) ⟨by omega,by simp⟩ (by simp;omega) ?_;intro M D Y f B A;have U:=Zh (show Zok Y C.heap.size M D (xs++[X]) a2 c2 V from (y.out.old (bal (Below.refl _ F) _)).left f B A);have I:=Zh (J.out.trans (show Below C.heap.size F Y from ((Below.refl C.heap.size F).alloc ak _).trans (Zom (y.out.old (bal (Below.refl _ F) _)).1 B (by simp;omega))));clear f B A)
      exact ⟨⟨i+1,M,D,xs++[X],a2,c2,V,rfl,hil,by rw [List.length_append];rfl,rfl,by rw [List.length_append,List.length_singleton];omega,by omega,U.out,⟨G.out.1.app (.one HV.out),G.out.2⟩,I.out⟩,by simp [intOf];omega⟩
     by_cases h22:O=22∨O=23
     ·have HV:=Zh (show 0≤E∧E<m.st.length from ⟨K.out.a0 (by dsimp only;omega),K.out.o22 h22⟩);rcases h22 with rfl|rfl
      all_goals
       go_wp2_with (at_builtin;refine Zon rfl (.tmp 96) (.tmp 102) rfl C.heap.size a2 c2 V rfl (y.out.old (bal (Below.refl _ F) _)).2.1 _ 1 [E] rfl (show Zar _ (some ⟨F.heap.size,0,none⟩) 1 [E] from ZdL (n:=1) (size:=1) (Blk.new _ #[.int .i64 E] 3) rfl) ⟨by omega,by simp⟩ (by simp;omega) ?_;intro M D Y f B A;have U:=Zh (show Zok Y C.heap.size a1 c1 xs M D (V++[E]) from ((y.out.old (bal (Below.refl _ F) _)).swap.left f B A).swap);have I:=Zh (J.out.trans (show Below C.heap.size F Y from ((Below.refl C.heap.size F).alloc ak _).trans (Zom (y.out.old (bal (Below.refl _ F) _)).2.1 B (by simp;omega))));clear f B A)
       exact ⟨⟨i+1,a1,c1,xs,M,D,V++[E],rfl,hil,rfl,by rw [List.length_append];rfl,by omega,by rw [List.length_append,List.length_singleton];omega,U.out,⟨G.out.1,G.out.2.app (.one HV.out)⟩,I.out⟩,by simp [intOf];omega⟩
     have b6:(O == 12)=false:=by simpa using h12
     have b7:(O == 14)=false:=by simp;omega
     have cb:(O == 24)=false:=by simp;omega
     have b8:(O == 16)=false:=by simpa using h16
     have b9:(O == 22)=false:=by simp;omega
     have ca:(O == 23)=false:=by simp;omega
     have cc:¬ O=14:=by omega
     have cg:¬ O=24:=by omega
     have ce:¬ O=22:=by omega
     have cf:¬ O=23:=by omega
     clear h14 h22;go_wp2;exact ⟨⟨i+1,a1,c1,xs,a2,c2,V,rfl,hil,rfl,rfl,by omega,by omega,y.out,G.out,J.out⟩,by simp [intOf];omega⟩
    ·have a7:¬ (i:Int) < cd.length:=by omega
     go_wp2;go_ret2;exact ⟨⟨a1,c1,xs,a2,c2,V,rfl,y.out.1.row,y.out.2.1.row,G.out.1,G.out.2,by omega,by omega,fun ad e=>Nat.le_trans aC.out.size (World.ownsRow.lt y.out.1 ad.block (by subst e;rfl)).1,fun ad e=>Nat.le_trans aC.out.size (World.ownsRow.lt y.out.2.1 ad.block (by subst e;rfl)).1⟩,Zaf aC.out J.out⟩
end
