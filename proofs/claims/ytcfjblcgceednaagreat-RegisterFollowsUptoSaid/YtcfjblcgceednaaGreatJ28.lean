import Derived.Test.YtcfjblcgceednaaGreatJ24
import Derived.Test.YtcfjblcgceednaaGreatG22
set_option linter.all false
set_option maxRecDepth 100000
set_option maxHeartbeats 8000000
namespace Go.Proofs.YtcfjblcgceednaaGreat
theorem j5{p:Prop}(h:p:=by
 go_enter Tryz.func220,Tryz.ntmps220
 go_wp2_with (first
  | (go_at_call 295;refine (HV.out _).mono ?_;rintro e w1 ⟨rfl,hb1⟩;have HX1:=Zh (HX.out.old hb1);have HB1:=Zh (Zaf HB0.out hb1);have x0:=HX1.out.cell 0 (v:=.int .i64 k) rfl;clear hb1)
  | (go_at_call 296;refine (HK.out _).mono ?_;rintro e w2 ⟨rfl,hb2⟩;have HX2:=Zh (HX1.out.old hb2);have HB2:=Zh (Zaf HB1.out hb2);clear x0;have x0:=HX2.out.cell 0 (v:=.int .i64 k) rfl;have x1:=HX2.out.cell 1 (v:=.int .i64 a) rfl;have xl:=HX2.out.lt;clear hb2))
 all_goals first
  | (exfalso;simp at *;omega)
  | (go_ret2;exact ZcT (by rw [HQ.out];rfl) (bal HB2.out _))):p:=h
theorem j23{p:Prop}(h:p:=by
 go_wp2
 all_goals
  go_ret;exact ZcT (ZcY (by rw [←HQ.out];unfold ZmS ZmR;omega)) bE):p:=h
theorem j24{p:Prop}(h:p:=by
 go_wp2
 all_goals
  go_ret;exact ZcT (ZcY (by rw [←HQ.out];unfold ZmT ZmR;omega)) bE):p:=h
section
open Go.RowKit
def Zox (w w':World):Prop:=∀ p v,w.cell? p=some v→w'.cell? p=some v
theorem Zox.refl (w:World):Zox w w:=fun _ _ h=>h
theorem Zox.trans {a b c:World} (h:Zox a b) (k:Zox b c):Zox a c:=fun p v q=>k p v (h p v q)
theorem Zox.of {a b:World} (h:Below a.heap.size a b):Zox a b:=fun _ _ c=>(h.cell (Zac c)).trans c
theorem Zoy {α:Type} [Cells α] {w w':World}{b:Option Addr}{c:Nat}{L:List α} (h:Zar w b c L) (hk:Zox w w'):Zar w' b c L:=
 ⟨h.1,h.2.1,fun j u e=>by obtain ⟨a,ha,d⟩:=h.2.2 j u e;exact ⟨a,ha,hk _ _ d⟩⟩
theorem Zay.keeps {w w':World}{h:Hd}{m:Md} (H:Zay w h m) (hk:Zox w w'):Zay w' h m:=
 ⟨Zoy H.cl hk,Zoy H.st hk,Zoy H.me hk,fun i a=>Zoy (H.f i a) hk,fun i a=>Zoy (H.t i a) hk,fun i a=>Zoy (H.p i a) hk,fun i a=>Zoy (H.l i a) hk,fun i a=>Zoy (H.k i a) hk,H.bf,H.bm,H.bz⟩
theorem Nds.keeps {w w':World}{l:List In3}{P:Nat→Prop}{a b:Nat}{r:List VN} (h:Nds w l P a b r) (hk:Zox w w'):Nds w' l P a b r:=h.keep fun _ _ _ c d=>⟨Zoy c hk,d⟩
theorem Cs.keeps {w w':World} (hk:Zox w w'):∀ {l:List (Addr × Value)},Cs l w→Cs l w'
 | [],_=>trivial
 | (_,_) :: _,h=>⟨hk _ _ h.1,Cs.keeps hk h.2⟩
def IsMap (w:World) (M:Nat):Prop:=∃ es c,w.heap[M]?=some (.map es c)
theorem Zox.upd {w w':World}{M:Nat} (hm:IsMap w M) (hu:Upd M M w w'):Zox w w':=fun p v a=>by
 obtain ⟨d,c,hm⟩:=hm
 have b:p.block≠M:=fun e=>by unfold World.cell? at a;rw [e,hm] at a;simp at a
 exact (World.cell?_of_block (w:=w) (hu.block _ (Zac a) b b)).trans a
theorem Zoz:∀ (n:Nat) (l:List Nat),l.Nodup→(∀ k∈l,k<n)→l.length≤n
 |0,l,_,h=>by
  cases l with
  | nil=>simp
  | cons x r=>have:=h x (by simp);omega
 |n+1,l,hn,h=>by
  have d:=Zoz n (l.filter fun x=>decide (x≠n)) (hn.filter _) (fun k hk=>by simp at hk;have:=h k hk.1;omega);have b:∀ l:List Nat,l.Nodup→l.length≤(l.filter fun x=>decide (x≠n)).length+1:=by
   intro l
   induction l with
   | nil=>intro _;simp
   |cons x r ih=>
    intro a;rw [List.nodup_cons] at a;by_cases hx:x=n
    ·have:r.filter (fun x=>decide (x≠n))=r:=List.filter_eq_self.2 fun y c=>by have:y≠n:=fun e=>a.1 (by rw [hx,←e];exact c);simp [this]
     rw [List.filter_cons_of_neg (by simp [hx]),this];simp
    ·have:=ih a.2;rw [List.filter_cons_of_pos (by simp [hx])];simp only [List.length_cons];omega
  have:=b l hn;omega
def KnM (T:Nat→Int) (w:World) (M:Nat) (Q:Nat→Prop):Prop:=∃ (K:List Nat) (D:DataW Unit),K.Nodup∧(∀ k∈K,k<16∧Q k)∧w.ownsMap Tryz.prog 3 (plainElem Tryz.prog 3) M K.length D∧Maps.IsMap D∧(∀ k:Nat,Maps.has D (.int .i64 k)=decide (k∈K))∧∀ k∈K,D.atKey (.int .i64 k) (.lit (.int .i64 0))=.lit (.int .i64 (T k))
theorem KnM.map {T:Nat→Int}{w:World}{M:Nat}{Q:Nat→Prop} (H:KnM T w M Q):IsMap w M:=by obtain ⟨K,D,_,_,⟨a,c,h,_⟩,_⟩:=H;exact ⟨a,c,h⟩
theorem KnM.eq {T:Nat→Int}{w w':World}{M:Nat}{Q:Nat→Prop} (H:KnM T w M Q) (h:w'.heap[M]?=w.heap[M]?):KnM T w' M Q:=by obtain ⟨K,D,b,d,⟨a,c,e,f⟩,j⟩:=H;exact ⟨K,D,b,d,⟨a,c,h.trans e,f⟩,j⟩
theorem IsMap.lt {w:World}{M:Nat} (H:IsMap w M):M<w.heap.size:=by obtain ⟨a,c,h⟩:=H;exact (Array.getElem?_eq_some_iff.1 h).1
theorem KnM.old {T:Nat→Int}{w w':World}{M:Nat}{Q:Nat→Prop} (H:KnM T w M Q) (hb:Below w.heap.size w w'):KnM T w' M Q:=H.eq (hb.block M H.map.lt)
theorem KnM.weak {T:Nat→Int}{w:World}{M:Nat}{Q R:Nat→Prop} (H:KnM T w M Q) (h:∀ k,Q k→R k):KnM T w M R:=by obtain ⟨K,D,b,a,c⟩:=H;exact ⟨K,D,b,fun k hk=>⟨(a k hk).1,h k (a k hk).2⟩,c⟩
theorem KnM.put {T:Nat→Int}{w:World}{M k:Nat}{Q:Nat→Prop} (H:KnM T w M Q) (hk:¬ Q k) (h16:k<16):∃ (n:Nat) (D:DataW Unit),w.ownsMap Tryz.prog 3 (plainElem Tryz.prog 3) M n D∧n≤16∧∀ (w':World) (R:Nat→Prop),(∀ j,Q j∨j=k→R j)→w'.ownsMap Tryz.prog 3 (plainElem Tryz.prog 3) M (n+1) (D.put (.int .i64 k) (.lit (.int .i64 (T k))))→KnM T w' M R:=by
 obtain ⟨K,D,d,b,o,c,p,r⟩:=H;refine ⟨K.length,D,o,Zoz 16 K d fun j a=>(b j a).1,fun w' R f hw=>⟨k :: K,_,List.nodup_cons.2 ⟨fun e=>hk (b k e).2,d⟩,fun j a=>?_,hw,c.put _ _,fun j=>?_,fun j a=>?_⟩⟩
 ·rcases List.mem_cons.1 a with rfl|e
  ·exact ⟨h16,f _ (.inr rfl)⟩
  ·exact ⟨(b j e).1,f _ (.inl (b j e).2)⟩
 ·by_cases e:j=k
  ·subst e;rw [Maps.has_put_same (k:=.int .i64 j) c trivial];simp
  ·rw [Maps.has_put_other (by intro q;cases q;omega),p];simp [e]
 ·by_cases e:j=k
  ·subst e;exact Maps.atKey_put_same (k:=.int .i64 j) c trivial _ _
  ·rw [Maps.atKey_put_other (by intro q;cases q;omega)];exact r j ((List.mem_cons.1 a).resolve_left e)
theorem ZoA {w:World}{B M:Nat}{xs:Array Value}{t:TypeId} (h:Blk w B xs t) (a:IsMap w M):B≠M:=by rintro rfl;obtain ⟨b,c,a⟩:=a;unfold Blk at h;rw [h] at a;cases a
structure ZoB (w:World) (B M:Nat) (h:Hd) (m:Md) (F:Value) (sc:Bool) (T:Nat→Int) (Q:Nat→Prop):Prop where
 wk:Blk w B #[.slice h.co m.cl.length h.cc,.slice h.so m.st.length h.sc,.slice h.eo m.me.length h.ec,.int .i64 m.sel,F,.bool sc,.map (some M)] 147
 md:Zay w h m
 kn:KnM T w M Q
def ZoC (w:World) (M:Nat) (T:Nat→Int) (Q:Nat→Prop) (v:Int):Ending→World→Prop:=fun e w'=>e=.returned (.int .i64 v)∧Upd M M w w'∧KnM T w' M Q
section
variable {w w':World}{B M:Nat}{h:Hd}{m:Md}{F:Value}{sc:Bool}{T:Nat→Int}{Q R:Nat→Prop}
section
variable (H:ZoB w B M h m F sc T Q)
include H
theorem ZoB.keeps (hu:Upd M M w w'):Zox w w':=Zox.upd H.kn.map hu
theorem ZoB.next (hu:Upd M M w w') (hn:KnM T w' M R):ZoB w' B M h m F sc T R:=
 ⟨(hu.block B (Blk.lt H.wk) (ZoA H.wk H.kn.map) (ZoA H.wk H.kn.map)).trans H.wk,H.md.keeps (H.keeps hu),hn⟩
theorem ZoB.old (hb:Below w.heap.size w w'):ZoB w' B M h m F sc T Q:=H.next (.of hb) (H.kn.old hb)
theorem ZoB.drew:ZoB w.drew B M h m F sc T Q:=⟨H.wk,H.md.keeps (fun _ _ h=>h),H.kn.eq rfl⟩
end
theorem ZoC.bel {W:World}{v:Int}{e:Ending} (H:ZoC w M T Q v e w') (hb:Below W.heap.size W w):ZoC W M T Q v e w':=⟨H.1,(Upd.of hb).trans H.2.1,H.2.2⟩
end
def Bd (n:Int):Prop:=0≤n∧n≤1000000001
theorem ZoD {a b:Int} (ha:Bd a) (c:Bd b):Bd (ZmS a b):=by unfold Bd ZmS ZmR at *;omega
theorem ZoE {a b:Int} (ha:0≤a) (c:Bd b):Bd (ZmT a b):=by have:=Int.mul_nonneg ha c.1;unfold Bd ZmT ZmR at *;omega
theorem ZoF {a b:Int} (ha:Bd a) (c:Bd b):Bd (max a b):=by unfold Bd at *;omega
theorem ZoG {T:Int→Int}{l:List Int} (h:∀ t∈l,Bd (T t)):Bd (ZmW T l):=by
 unfold ZmW;have:∀ (l:List Int) (a:Int),Bd a→(∀ t∈l,Bd (T t))→Bd (l.foldl (fun a t=>max a (T t)) a):=by
  intro l
  induction l with
  | nil=>intro a ha _;exact ha
  | cons x r ih=>intro a ha h;exact ih _ (ZoF ha (h x (by simp))) fun t ht=>h t (by simp [ht])
 exact this l 0 (by unfold Bd;omega) h
section
variable {x:Ms}{m:Md}{T:Int→Int}{l:List In3} (hw:∀ i∈l,0≤x.wt i∧x.wt i≤1000) (ht:0≤x.tl∧x.tl≤1000) (hT:∀ t,Bd (T t)) (ha:∀ i∈l,i.op≠1→0≤i.a)
include hw ht hT ha
theorem ZoH:∀ i∈l,Bd ((gW x m T).pl i):=fun i b=>by
 have c:=hw i b
 have a:Bd (x.wt i):=by unfold Bd;omega
 show Bd (if i.op=25 then _ else if i.op=26 then _ else _);split
 ·exact ZoD a (hT _)
 ·split
  ·exact ZoD a (ZoG fun t _=>hT t)
  ·exact a
theorem ZoI:∀ i∈l,∀ f s,Bd f→Bd s→Bd ((gW x m T).brk i f s):=fun i d f s c e=>by
 have j:=hw i d
 have b:Bd (x.wt i):=by unfold Bd;omega
 have a:Bd x.tl:=by unfold Bd;omega
 show Bd (if i.op=29 then _ else if i.op=30 then _ else if i.op=32∧x.sc=true then _ else if i.op=33 then _ else _);split
 ·exact ZoD b (ZoF (ZoD c a) (ZoD e a))
 ·split
  ·exact ZoD b (ZoE (ha i d (by omega)) (ZoD c a))
  ·split
   ·exact b
   ·split
    ·exact ZoD b (ZoD (ZoD c a) e)
    ·exact ZoD b (ZoD c a)
theorem ZoJ {a b:Nat} (o:Seg l a b):∀ acc,Bd acc→Bd (WA (gW x m T) l a b acc):=by
 have f:∀ k,k<l.length→l.getD k default∈l:=fun k hk=>ZfU _ hk;have j:=ZoH (m:=m) hw ht hT ha;have d:=ZoI (m:=m) hw ht hT ha;have e:Bd 0:=by unfold Bd;omega
 induction o with
 | nil a h=>intro acc c;rw [Zmv];exact c
 | pl a b q1 q2 q3 q4 q5 ih=>intro acc c;rw [Zmw q2 q5];exact ih _ (ZoD c (j _ (f a q1)))
 | one a en b q1 q2 q3 i1 i2=>intro acc c;rw [Zmx q1 q2 q3];exact i2 _ (ZoD c (d _ (f a q1.1) _ _ (i1 _ e) e))
 | two a n en b q1 q2 q3 q4 i1 i2 i3=>intro acc c;rw [Zmy q1 q2 q3 q4];exact i3 _ (ZoD c (d _ (f a q1.1) _ _ (i1 _ e) (i2 _ e)))
end
inductive ZoK (w:World) (l:List In3) (p:Nat):VN→Nat→Prop
 | pl:p<l.length→ZaR (l.getD p default).op=false→ZoK w l p ⟨p,-1,-1,none,0,0,none,0,0⟩ (p+1)
 | one (en:Nat) (fo:Option Addr) (fc:Nat) (F:List VN):Mat l p (-1) en→Zar w fo fc F→Nds w l (fun _=>True) (p+1) en F→ZoK w l p ⟨p,-1,en,fo,F.length,fc,none,0,0⟩ (en+1)
 | two (n en:Nat) (fo so:Option Addr) (fc sc:Nat) (F S:List VN):Mat l p n en→Zar w fo fc F→Nds w l (fun _=>True) (p+1) n F→Zar w so sc S→Nds w l (fun _=>True) (n+1) en S→ZoK w l p ⟨p,n,en,fo,F.length,fc,so,S.length,sc⟩ (en+1)
def ZoL (g:Wg) (l:List In3) (p:Nat) (x:VN):Int:=if ZaR (l.getD p default).op=true then g.brk (l.getD p default) (WA g l (p+1) (if x.alt<0 then x.en.toNat else x.alt.toNat) 0) (if x.alt<0 then 0 else WA g l (x.alt.toNat+1) x.en.toNat 0) else g.pl (l.getD p default)
theorem ZoM {w:World}{l:List In3}{p b:Nat}{x:VN}{r:List VN} (H:Nds w l (fun _=>True) p b (x :: r)) (g:Wg):∃ a,ZoK w l p x a∧Nds w l (fun _=>True) a b r∧p<a∧a≤b∧∀ acc,WA g l p b acc=WA g l a b (g.plus acc (ZoL g l p x)):=by
 cases H with
 | pl _ _ _ h1 h2 h3 h4 h5=>exact ⟨p+1,.pl h1 h2,h5,by omega,by have:=(h5.le).1;omega,fun acc=>by rw [Zmw h2 h5.seg];unfold ZoL;rw [if_neg (by rw [h2];decide)]⟩
 |one _ en _ fo fc F _ h1 h2 h3 h4 h5=>
  refine ⟨en+1,.one en fo fc F h1 h2 h4,h5,by have:=ZbI h1;omega,by have:=(h5.le).1;omega,fun acc=>?_⟩;rw [Zmx h1 h4.seg h5.seg];unfold ZoL;rw [if_pos (show ZaR (l.getD p default).op=true from h1.2.1)];dsimp only;rw [if_pos (show (-1:Int) < 0 by decide),if_pos (show (-1:Int) < 0 by decide)];rfl
 |two _ n en _ fo so fc sc F S _ h1 h2 h3 h4 h5 h6 h7 h8=>
  refine ⟨en+1,.two n en fo so fc sc F S h1 h2 h4 h5 h7,h8,by have:=ZbI h1;omega,by have:=(h8.le).1;omega,fun acc=>?_⟩;rw [Zmy h1 h4.seg h7.seg h8.seg];unfold ZoL;have c:¬ (n:Int) < 0:=by omega
  rw [if_pos (show ZaR (l.getD p default).op=true from h1.2.1)];dsimp only;rw [if_neg c,if_neg c,Int.toNat_natCast,Int.toNat_natCast]
theorem ZoN {w:World}{x:Ms}{m:Md}{T:Int→Int}{l:List In3} (hw:∀ i∈l,0≤x.wt i∧x.wt i≤1000) (ht:0≤x.tl∧x.tl≤1000) (hT:∀ t,Bd (T t)) (ha:∀ i∈l,i.op≠1→0≤i.a) {p d:Nat}{y:VN} (H:ZoK w l p y d):Bd (ZoL (gW x m T) l p y):=by
 have b:∀ k,k<l.length→l.getD k default∈l:=fun k hk=>ZfU _ hk;have a:Bd 0:=by unfold Bd;omega
 unfold ZoL;cases H with
 | pl h1 h2=>rw [if_neg (by rw [h2];decide)];exact ZoH hw ht hT ha _ (b p h1)
 |one en fo fc F h1 h2 h3=>
  rw [if_pos (show ZaR (l.getD p default).op=true from h1.2.1)];dsimp only;rw [if_pos (show (-1:Int) < 0 by decide),if_pos (show (-1:Int) < 0 by decide)];exact ZoI hw ht hT ha _ (b p h1.1) _ _ (ZoJ hw ht hT ha h3.seg _ a) a
 |two n en fo so fc sc F S h1 h2 h3 h4 h5=>
  have c:¬ (n:Int) < 0:=by omega
  rw [if_pos (show ZaR (l.getD p default).op=true from h1.2.1)];dsimp only;rw [if_neg c,if_neg c];exact ZoI hw ht hT ha _ (b p h1.1) _ _ (ZoJ hw ht hT ha h3.seg _ a) (ZoJ hw ht hT ha h5.seg _ a)
theorem ZoK.keeps {w w':World}{l:List In3}{p p':Nat}{x:VN} (H:ZoK w l p x p') (hk:Zox w w'):ZoK w' l p x p':=by
 cases H with
 | pl h1 h2=>exact .pl h1 h2
 | one en fo fc F h1 h2 h3=>exact .one en fo fc F h1 (Zoy h2 hk) (h3.keeps hk)
 | two n en fo so fc sc F S h1 h2 h3 h4 h5=>exact .two n en fo so fc sc F S h1 (Zoy h2 hk) (h3.keeps hk) (Zoy h4 hk) (h5.keeps hk)
end
section
open Go.RowKit
theorem ZoO (a b:Int) (w:World) (ha:0≤a∧a≤1000000001) (c:0≤b∧b≤1000000001):Calls Tryz.prog 160 #[.int .i64 a,.int .i64 b] w (Ret w (.int .i64 (ZmS a b))):=by obtain ⟨d,e⟩:=ha;obtain ⟨f,j⟩:=c;generalize hq:ZmS a b=q;have HQ:=Zh hq;clear hq;go_enter Tryz.func160,Tryz.ntmps160;exact j23
theorem ZoP (a b:Int) (w:World) (ha:0≤a∧a≤1000) (n:0≤b∧b≤1000000001):Calls Tryz.prog 219 #[.int .i64 a,.int .i64 b] w (Ret w (.int .i64 (ZmT a b))):=by obtain ⟨d,e⟩:=ha;obtain ⟨c,f⟩:=n;have r:0≤a*b:=Int.mul_nonneg d c;have s:a*b≤1000*1000000001:=Int.mul_le_mul e f c (by decide);have j:IntKind.i64.wrap (a*b)=a*b:=IntWalk.i64_in _ (by omega);have o:=Zh j;generalize hq:ZmT a b=q;have HQ:=Zh hq;clear hq;go_enter Tryz.func219,Tryz.ntmps219;exact j24
theorem ZoQ (n:Int) (w:World):Calls Tryz.prog 105 #[.int .i64 n] w (Ret w (.tuple #[.int .i64 (if 1000000000<n then 0 else n),.int .i64 (if 1000000000<n then 6 else 0)])):=by
 by_cases h:1000000000<n
 all_goals
  first|rw [if_pos h,if_pos h]|rw [if_neg h,if_neg h]
  go_enter Tryz.func105,Tryz.ntmps105;go_wp2;go_ret2;exact ZcT rfl bE
theorem ZoR (k:Nat):opC.getD k 0≤12:=by
 by_cases h:k<36
 ·have:∀ i,i<36→opC.getD i 0≤12:=by decide
  exact this k h
 ·rw [List.getD_eq_getElem?_getD,List.getElem?_eq_none (by simp only [opC,List.length_cons,List.length_nil];omega)];simp
theorem ZoS {p:Bool}{i:In3} (h:ZaQ p i=true):0≤i.op∧i.op<36:=by unfold ZaQ at h;simp only [Bool.and_eq_true,decide_eq_true_eq] at h;omega
theorem ZoT (i:In3) (w:World) (n:ZaQ false i=true) (ha:i.op=15∨i.op=16→0≤i.a∧i.a≤1000):Calls Tryz.prog 220 #[ZI.i i] w (Ret w (.tuple #[.int .i64 (ZmU i),.int .i64 0])):=by
 have j:=ZoS n;have HV:=Zh (Zdi i false);rw [n] at HV;obtain ⟨o,a,b⟩:=i;dsimp only at j HV ha;obtain ⟨k,rfl⟩:∃ k:Nat,o=k:=⟨o.toNat,by omega⟩;have hk:k<36:=by omega
 have HK:=Zh (Zde k hk);have d:ZmU ⟨k,a,b⟩=((opC.getD k 0:Nat):Int)+if (k:Int)=15∨(k:Int)=16 then a else 0:=by unfold ZmU;rw [Int.toNat_natCast]
 have f:=ZoR k;generalize ZmU ⟨k,a,b⟩=q at d ⊢;generalize opN.getD k default=n0 at HK;generalize ((opA.getD k 0:Nat):Int)=n1 at HK;generalize ((opB.getD k 0:Nat):Int)=n2 at HK;generalize opC.getD k 0=n3 at HK d f;have HQ:=Zh d;have HX:=Zh (Blk.new w #[.int .i64 k,.int .i64 a,.int .i64 b] 78);have c:Below w.heap.size w (w.alloc (.cells #[.int .i64 k,.int .i64 a,.int .i64 b] 78)):=by exact bE
 have HB0:=Zh c;clear d n c;by_cases h:(k:Int)=15∨(k:Int)=16
 ·obtain ⟨r,s⟩:=ha h;rw [if_pos h] at HQ;exact j5
 ·rw [if_neg h,Int.add_zero] at HQ;clear ha;exact j5
end
section
open Go.RowKit
theorem ZoU {w:World}{d:Option Addr}{c:Nat}{l:List VN} (h:Zar w d c l) {i:Nat} (b:i<l.length):∃ a,d=some a ∧
  w.cell? (a.add (i*5))=some (.int .i64 (l.getD i default).at_)∧w.cell? ⟨(a.add (i*5)).block,(a.add (i*5)).off+1,none⟩=some (.int .i64 (l.getD i default).alt)∧w.cell? ⟨(a.add (i*5)).block,(a.add (i*5)).off+2,none⟩=some (.int .i64 (l.getD i default).en) ∧
  w.cell? ⟨(a.add (i*5)).block,(a.add (i*5)).off+3,none⟩=some (.slice (l.getD i default).fo (l.getD i default).fn (l.getD i default).fc)∧w.cell? ⟨(a.add (i*5)).block,(a.add (i*5)).off+4,none⟩=some (.slice (l.getD i default).so (l.getD i default).sn (l.getD i default).sc):=by
 obtain ⟨a,ha⟩:=h.some (by omega);subst ha;have e:l.getD i default=l[i]:=by simp [b]
 rw [e];exact ⟨a,rfl,h.cell b 0 rfl,h.cell b 1 rfl,h.cell b 2 rfl,h.cell b 3 rfl,h.cell b 4 rfl⟩
def cdM (m:Md) (k:Nat):List In3:=(m.me.getD k default).k
def gT (x:Ms) (m:Md) (T:Nat→Int):Wg:=gW x m fun t=>T t.toNat
structure Wkr (x:Ms) (m:Md) (T:Nat→Int) (g:Nat) (caps:Array Value) (W0:World):Prop where
 hm:Za1 m=true
 wt:∀ k,k<m.me.length→∀ i∈(cdM m k),0≤x.wt i∧x.wt i≤1000
 tl:0≤x.tl∧x.tl≤1000
 te:∀ i:In3,i.op=35→x.wt i=x.tl
 bd:∀ k,Bd (T k)
 eq:∀ k,k<m.me.length→T k=WA (gT x m T) (cdM m k) 0 (cdM m k).length 0
 cf:∀ A W,(callFunc g (A++caps)).run Tryz.prog W=.ok (.enter g (A++caps)) W
 fn:∀ k,k<m.me.length→∀ i∈(cdM m k),∀ w',Zox W0 w'→Calls Tryz.prog g (#[.agg #[.int .i64 i.op,.int .i64 i.a,.int .i64 i.b]]++caps) w' (Ret w' (.int .i64 (x.wt i)))
def ZoV (x:Ms) (B M:Nat) (h:Hd) (m:Md) (T:Nat→Int) (g:Nat) (caps:Array Value) (W0:World) (k:Nat):Prop:=∀ w Q,ZoB w B M h m (.func (Fn.func g) #[] caps) x.sc T Q→Zox W0 w→Calls Tryz.prog 110 #[ZQ.p B,.int .i64 k] w (ZoC w M T (fun j=>Q j∨j<k+1) (T k))
def ZoW (x:Ms) (B M:Nat) (h:Hd) (m:Md) (T:Nat→Int) (g:Nat) (caps:Array Value) (W0:World) (k a b:Nat):Prop:=∀ w Q ro rc rows,ZoB w B M h m (.func (Fn.func g) #[] caps) x.sc T Q→Zox W0 w→Zar w ro rc rows→Nds w (cdM m k) (fun _=>True) a b rows →
 Calls Tryz.prog 161 #[ZQ.p B,.int .i64 k,.slice ro rows.length rc] w (ZoC w M T (fun j=>Q j∨j<k) (WA (gT x m T) (cdM m k) a b 0))
def ZoX (x:Ms) (B M:Nat) (h:Hd) (m:Md) (T:Nat→Int) (g:Nat) (caps:Array Value) (W0:World) (k p:Nat) (y:VN) (p':Nat):Prop:=∀ w Q,ZoB w B M h m (.func (Fn.func g) #[] caps) x.sc T Q→Zox W0 w→ZoK w (cdM m k) p y p' →
 Calls Tryz.prog 223 #[ZQ.p B,.int .i64 k,.agg #[.int .i64 y.at_,.int .i64 y.alt,.int .i64 y.en,.slice y.fo y.fn y.fc,.slice y.so y.sn y.sc]] w (ZoC w M T (fun j=>Q j∨j<k) (ZoL (gT x m T) (cdM m k) p y))
section
variable {x:Ms}{B M:Nat}{h:Hd}{m:Md}{T:Nat→Int}{g:Nat}{caps:Array Value}{W0:World}{k:Nat}
section
variable (H:Wkr x m T g caps W0)(hk:k<m.me.length)
include H hk
theorem Wkr.ok:ZfM m k:=ZfN H.hm hk
theorem Wkr.code:ZaV false (cdM m k)=0:=by have a:=H.ok hk;unfold ZaV;unfold cdM;rw [if_neg (by have:=a.z;omega),if_pos (List.all_eq_true.2 fun i b=>(a.i i b).1),a.n];rfl
theorem Wkr.opd {i:In3} (hi:i∈(cdM m k)):ZfR m k i:=ZfS ((H.ok hk).i i hi).1 ((H.ok hk).i i hi).2
theorem Wkr.bdW {a b:Nat} (hs:Seg (cdM m k) a b) {acc:Int} (ha:Bd acc):Bd (WA (gT x m T) (cdM m k) a b acc):=
 ZoJ (H.wt k hk) H.tl (fun _=>H.bd _) (fun i c=>(H.opd hk c).a0) hs _ ha
end
theorem ZoY (HW:Wkr x m T g caps W0) (hk:k<m.me.length) {a b:Nat} (hn:∀ p y D,a≤p→p<D→D≤b→ZoX x B M h m T g caps W0 k p y D):ZoW x B M h m T g caps W0 k a b:=by
 intro w Q ro rc c H K hr d;have ah:=d.le;have hc:(cdM m k).length≤120:=(HW.ok hk).z.2.2;have aa:=Zh hn;have U:=Zh H;have HK:=Zh K;have HR:=Zh hr;have HD:=Zh d;have o:=Zh HW;have av:c.length≤120:=by omega
 clear hn H K hr d ah hc;go_enter Tryz.func161,Tryz.ntmps161;go_wp2
 go_loopw [7,12] (fun s i wr=>∃ (j p:Nat) (E:Int),i=.int .i64 j∧s=.int .i64 E∧j≤c.length∧Hid (a≤p∧Bd E∧Nds wr (cdM m k) (fun _=>True) p b (c.drop j)∧WA (gT x m T) (cdM m k) a b 0=WA (gT x m T) (cdM m k) p b E)∧Hid (Upd M M w wr)∧Hid (KnM T wr M fun j=>Q j∨j<k)) (fun _ i _=>c.length-(intOf i).toNat)
 case atStart=>exact ⟨0,a,0,rfl,rfl,Nat.zero_le _,⟨Nat.le_refl _,by unfold Bd;omega,HD.out,rfl⟩,Upd.refl _ _ _,U.out.kn.weak fun _ h=>.inl h⟩
 case round=>
  obtain ⟨j,p,E,rfl,rfl,hj,HS,G,Y⟩:=hrel;have V:=Zh (U.out.next G.out Y.out);have X:=Zh (HK.out.trans (U.out.keeps G.out));by_cases hjl:j<c.length
  ·obtain ⟨af,P,d,r⟩:=HS.out;have J:c.drop j=c.getD j default :: c.drop (j+1):=by rw [List.drop_eq_getElem_cons hjl];simp [hjl]
   rw [J] at d;obtain ⟨D,q,u,O,N,f⟩:=ZoM d (gT x m T);obtain ⟨ad,rfl,c0,c1,c2,c3,c4⟩:=ZoU (Zoy HR.out (U.out.keeps G.out)) hjl;obtain ⟨y,hy⟩:∃ y,y=c.getD j default:=⟨_,rfl⟩;rw [←hy] at q f c0 c1 c2 c3 c4;have A:Bd (ZoL (gT x m T) (cdM m k) p y):=ZoN (o.out.wt k hk) o.out.tl (fun _=>o.out.bd _) (fun i hi=>(o.out.opd hk hi).a0) q;obtain ⟨v,hv⟩:∃ v,v=ZoL (gT x m T) (cdM m k) p y:=⟨_,rfl⟩;have S:=Zh (aa.out p y D af O N);unfold ZoX at S;rw [←hv] at S f A;obtain ⟨ya,yl,ye,yf,aj,ai,ys,al,ak⟩:=y;dsimp only at c0 c1 c2 c3 c4 S;have n:=Zh (And.intro q (And.intro u (And.intro A (And.intro P (And.intro O N)))));have ac:=Zh (r.trans (f E));have aG:=Zac c0;have au:(j:Int) < c.length:=by omega
   have aH:IntKind.i64.wrap ((j:Int)+1)=((j+1:Nat):Int):=IntWalk.i64_in _ (by omega);clear q d u r f hy J hv A P
   go_wp2_with (first
    | (go_at_call 223;refine (S.out _ _ (V.out.old bE) (X.out.trans (Zox.of bE)) (n.out.1.keeps (Zox.of bE))).mono ?_;rintro e w2 ⟨rfl,C,L⟩;have ab:=Zh ((G.out.alloc _).trans C);have Z:=Zh (L.weak (R:=fun j=>Q j∨j<k) fun _ h=>h.elim id .inr);have W:=Zh (Zox.upd (Y.out.old bE).map C);clear C L)
    | (go_at_call 160;refine (ZoO _ _ _ n.out.2.2.2.1 n.out.2.2.1).mono ?_;rintro e w3 ⟨rfl,I⟩;have z:=Zh I;clear I))
   have ag:=(Zox.of (show Below wr.heap.size wr (wr.alloc (.cells #[.int .i64 ya,.int .i64 yl,.int .i64 ye,.slice yf aj ai,.slice ys al ak] 193)) by exact bE)).trans (W.out.trans (Zox.of z.out));exact ⟨⟨j+1,D,ZmS E v,rfl,rfl,hjl,⟨by omega,ZoD n.out.2.2.2.1 n.out.2.2.1,n.out.2.1.keeps ag,ac.out⟩,ab.out.bel z.out,Z.out.old z.out⟩,by simp [intOf];omega⟩
  ·have aF:¬ (j:Int) < c.length:=by omega
   go_wp2;go_ret;obtain ⟨-,-,d,r⟩:=HS.out;rw [List.drop_eq_nil_iff.2 (by omega)] at d;cases d with
   | nil _ _=>exact ⟨by rw [r,Zmv];rfl,G.out,Y.out⟩
theorem ZoZ:Go.Maps.Keyed Tryz.prog 3:=Go.Maps.int_keyed Tryz.underlying3
theorem Zo0 (w:World):(zeroValue 3).run Tryz.prog w=.ok (.int .i64 0) w:=by kernel_rfl
theorem Zo1 {k:Nat} (h:k<1000000):(Lit.int .i64 (k:Int)).wf=true:=WalkArith.wf_i64 (by omega)
theorem Zo2 {k:Nat} (h:k<1000000):keyOf Tryz.prog 3 (.int .i64 k)=some (.int .i64 k):=Go.Maps.keyOf_int_mk Tryz.underlying3 (Zo1 h)
theorem KnM.look {Q:Nat→Prop}{w:World} (H:KnM T w M Q):∃ (K:List Nat) (D:DataW Unit),w.ownsMap Tryz.prog 3 (plainElem Tryz.prog 3) M K.length D∧(∀ k:Nat,Maps.has D (.int .i64 k)=decide (k∈K))∧(∀ k∈K,D.atKey (.int .i64 k) (.lit (.int .i64 0))=.lit (.int .i64 (T k)))∧∀ k,k ∉ K→KnM T w M fun j=>Q j∧j≠k:=by obtain ⟨K,D,n,b,c,o,d,f⟩:=H;exact ⟨K,D,c,d,f,fun k hk=>⟨K,D,n,fun j a=>⟨(b j a).1,(b j a).2,fun e=>hk (e▸a)⟩,c,o,d,f⟩⟩
theorem Zo3 (HW:Wkr x m T g caps W0) (hk:k<m.me.length) (hl:ZoW x B M h m T g caps W0 k 0 (cdM m k).length):ZoV x B M h m T g caps W0 k:=by
 intro w Q H aa;have av:k<16:=by have:=(Zin HW.hm).2.1;omega
 obtain ⟨K,D,A,y,W,ad⟩:=H.kn.look;have f:=y k;have hT:=HW.eq k hk;have L:=Zh H;have am:=Zh aa;have HL:=Zh hl;have HO:=Zh A;have an:=Zh (ad k);have ak:=Zh (W k);have u:=Zh HW;have c6:=H.wk.cell 6 (v:=.map (some M)) rfl;clear H aa hl A y ad W HW;by_cases hkK:k∈K
 ·rw [decide_eq_true hkK] at f;have E:=Zh f;clear f;go_enter Tryz.func110,Tryz.ntmps110
  go_wp2_with (at_lookup;(refine wpList_lookup_own_ok_int _ rfl _ _ 69 rfl 3 3 .i64 ZoZ Tryz.underlying69 Tryz.underlying3 (Zo0 _) M K.length D rfl HO.out _ _ rfl (Zo2 (by omega)) ?_);intro c hc ae;rw [E.out])
  go_ret;have:=ak.out hkK;rw [this] at hc;cases hc;exact ⟨rfl,Upd.refl _ _ _,L.out.kn.weak fun _ h=>.inl h⟩
 ·rw [decide_eq_false hkK] at f;have E:=Zh f;have U:=Zh (an.out hkK);clear f;have ax:=L.out.md.mth hk;obtain ⟨N,he,-,-,-,-,-,-,e6⟩:=ax;have c2:=L.out.wk.cell 2 (v:=.slice h.eo m.me.length h.ec) rfl;rw [he] at c2;clear he;have ab:=L.out.md.k k hk;have HP:=Zh (fun w' hb=>ZmQ (cdM m k) (h.e k).ko (h.e k).kc (u.out.code hk) (cdM m k).length 0 (cdM m k).length w' (by omega) (Zar.old ab (w':=w') hb) (Zmq (u.out.ok hk).n));have Y:(m.me.getD k default).k.length=(cdM m k).length:=rfl;rw [Y] at e6;have aE:=Zh (show (cdM m k).length≤120 from (u.out.ok hk).z.2.2);have aJ:(k:Int) < m.me.length:=by omega
  clear ab Y;go_enter Tryz.func110,Tryz.ntmps110
  go_upto_region 4 with (at_lookup;refine wpList_lookup_own_ok_int _ rfl _ _ 69 rfl 3 3 .i64 ZoZ Tryz.underlying69 Tryz.underlying3 (Zo0 _) M K.length D rfl HO.out _ _ rfl (Zo2 (by omega)) ?_;intro c hc ae;rw [E.out])
  have O:=Zh (show Cs [(⟨B,2,none⟩,.slice (some N) m.me.length h.ec),(⟨(N.add (k*7)).block,(N.add (k*7)).off+6,none⟩,.slice (h.e k).ko (cdM m k).length (h.e k).kc)] w from ⟨c2,e6,trivial⟩);clear hc ae;refine rO (Cs [(⟨B,2,none⟩,.slice (some N) m.me.length h.ec),(⟨(N.add (k*7)).block,(N.add (k*7)).off+6,none⟩,.slice (h.e k).ko (cdM m k).length (h.e k).kc)]) (oL [0,1,2,3,4,5,6,7,8,9,10,11,12,13,14,15,16,17,18,19,20,121,122,23]) ⟨c2,e6,trivial⟩ ?_;clear c2 e6
  repeat refine pO ?_
  refine oO fun Kv V=>?_;go_simp;refine (HP.out _ (Below.refl _ _).drew).mono ?_;rintro e w2 ⟨ro,rc,af,rfl,r,z,X⟩;have b:=Zh (Zaf (Below.refl w.heap.size w).drew X);have aq:=Zh (Zar.of_own r);have al:=Zh (z.weak (Q:=fun _=>True) fun _ _=>trivial);refine V _ _ ⟨Cs.keeps (Zox.of b.out) O.out,?_⟩;clear V Kv r z X;refine oO fun Kv V=>?_;go_simp;refine (HL.out _ (fun j=>Q j∧j≠k) ro rc af ⟨(L.out.old b.out).wk,(L.out.old b.out).md,U.out.old b.out⟩ (am.out.trans (Zox.of b.out)) aq.out al.out).mono ?_;rintro e w3 ⟨rfl,J,ac⟩;have G:=(Zox.of b.out).trans (Zox.upd (U.out.old b.out).map J);have ar:=Zh ((Upd.of b.out).trans J);refine V _ _ ⟨Cs.keeps G O.out,?_⟩;have aI:=G _ _ c6;clear V Kv J c6 G
  repeat refine pO ?_
  refine Zd5 ?_;rw [←hT];obtain ⟨n,D3,s,aC,C⟩:=ac.put (k:=k) (by omega) av;have ao:=Zh s;have ap:=Zh C;have aw:=u.out.bd k;unfold Bd at aw;clear ac s C hT
  go_wp2_with (at_mapUpdate;refine wpList_mapUpdate_own _ rfl _ _ _ 69 rfl 3 3 ZoZ Tryz.underlying69 _ M n _ rfl ao.out (by unfold maxLen;omega) _ _ _ rfl rfl (Zo2 (by omega)) _ [] (plainElem_int Tryz.underlying3 (WalkArith.wf_i64 (by omega))) ?_;intro w4 I p)
  go_ret;exact ⟨rfl,ar.out.trans ⟨p.os,p.tape,p.output,p.size,fun q hq h1 _=>p.block q hq fun e=>h1 (Option.some.inj e)⟩,ap.out _ _ (fun j Z=>by rcases Z with (Z|Z)|Z<;>first|exact .inl Z.1|(right;omega)) I⟩
end
end
section
open Go.RowKit
attribute [local go_sem] World.cell?_alloc_some
end
section
open Go.RowKit
attribute [local go_sem] World.cell?_alloc_some
end
