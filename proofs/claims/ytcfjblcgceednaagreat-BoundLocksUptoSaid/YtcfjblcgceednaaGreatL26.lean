import Derived.Test.YtcfjblcgceednaaGreatL24
import Derived.Test.YtcfjblcgceednaaGreatG22
set_option linter.all false
set_option maxRecDepth 100000
set_option maxHeartbeats 8000000
namespace Go.Proofs.YtcfjblcgceednaaGreat
theorem j2{p:Prop}(h:p:=by
 go_enter Tryz.func220,Tryz.ntmps220
 go_wp2_with (first
  | (go_at_call 295;refine (HV.out _).mono ?_;rintro e w1 ⟨rfl,hb1⟩;have HX1:=Zh (HX.out.old hb1);have HB1:=Zh (Zaf HB0.out hb1);have x0:=HX1.out.cell 0 (v:=.int .i64 k) rfl;clear hb1)
  | (go_at_call 296;refine (HK.out _).mono ?_;rintro e w2 ⟨rfl,hb2⟩;have HX2:=Zh (HX1.out.old hb2);have HB2:=Zh (Zaf HB1.out hb2);clear x0;have x0:=HX2.out.cell 0 (v:=.int .i64 k) rfl;have x1:=HX2.out.cell 1 (v:=.int .i64 a) rfl;have xl:=HX2.out.lt;clear hb2))
 all_goals first
  | (exfalso;simp at *;omega)
  | (go_ret2;exact ZcT (by rw [HQ.out];rfl) (bal HB2.out _))):p:=h
theorem j3{p:Prop}(h:p:=by
 clear hn3 hown3 hput hT
 go_wp2_with (at_mapUpdate;refine wpList_mapUpdate_own _ rfl _ _ _ 69 rfl 3 3 Zn1 Tryz.underlying69 _ M n _ rfl HO3.out (by unfold maxLen;omega) _ _ _ rfl rfl (Zn4 (by omega)) _ [] (plainElem_int Tryz.underlying3 (WalkArith.wf_i64 (by omega))) ?_;intro w4 hown4 hg4)
 go_ret;exact ⟨rfl,HU3.out.trans ⟨hg4.os,hg4.tape,hg4.output,hg4.size,fun q hq h1 _=>hg4.block q hq fun e=>h1 (Option.some.inj e)⟩,HPt.out _ _ (fun j hj=>by rcases hj with (hj|hj)|hj<;>first|exact .inl hj.1|(right;omega)) hown4⟩):p:=h
theorem j8{p:Prop}(h:p:=by
 clear hown;go_roundw
 case rel=>
  have h9:=HO9.out;refine ⟨j+1,ao1,cap1,by omega,by go_num,by rw [HY.out,List.length_append];rfl,(show World.ownsRow _ _ _ _ _ _ _ from ?_),HB9.out⟩;rw [HY.out,List.length_append,List.map_append];exact h9
 case measure=>simp [intOf];omega):p:=h
theorem j9{p:Prop}(h:p:=by
 have h3:IntKind.i64.wrap (a*b)=a*b:=IntWalk.i64_in _ (by omega);have H3:=Zh h3;generalize hq:ZmT a b=q;have HQ:=Zh hq;clear hq;go_enter Tryz.func219,Tryz.ntmps219;exact j20):p:=h
theorem j10{p:Prop}(h:p:=by
 go_roundw
 case rel=>
  have h9:=HO9.out;refine ⟨j+1,ao1,cap1,by omega,by go_num,by rw [HY.out,List.length_append],(show World.ownsRow _ _ _ _ _ _ _ from ?_),HB9.out⟩;rw [HY.out,List.length_append,List.map_append];exact h9
 case measure=>simp [intOf];omega):p:=h
theorem j18{p:Prop}(h:p:=by
 go_wp2
 all_goals
  go_ret;exact ZcT (ZcY (by rw [←HQ.out];unfold ZmS ZmR;omega)) bE):p:=h
theorem j19{p:Prop}(h:p:=by
 rw [if_neg (by have:=hm.z;omega),if_pos (List.all_eq_true.2 fun i hi=>(hm.i i hi).1),hm.n];rfl):p:=h
theorem j20{p:Prop}(h:p:=by
 go_wp2
 all_goals
  go_ret;exact ZcT (ZcY (by rw [←HQ.out];unfold ZmT ZmR;omega)) bE):p:=h
section
open Go.RowKit
def Znz (w w':World):Prop:=∀ p v,w.cell? p=some v→w'.cell? p=some v
theorem Znz.refl (w:World):Znz w w:=fun _ _ h=>h
theorem Znz.trans {a b c:World} (h:Znz a b) (k:Znz b c):Znz a c:=fun p v q=>k p v (h p v q)
theorem Znz.of {a b:World} (h:Below a.heap.size a b):Znz a b:=fun _ _ c=>(h.cell (Zac c)).trans c
theorem ZnA {α:Type} [Cells α] {w w':World}{b:Option Addr}{c:Nat}{L:List α} (h:Zar w b c L) (hk:Znz w w'):Zar w' b c L:=
 ⟨h.1,h.2.1,fun j u e=>by obtain ⟨a,ha,d⟩:=h.2.2 j u e;exact ⟨a,ha,hk _ _ d⟩⟩
theorem Zay.keeps {w w':World}{h:Hd}{m:Md} (H:Zay w h m) (hk:Znz w w'):Zay w' h m:=
 ⟨ZnA H.cl hk,ZnA H.st hk,ZnA H.me hk,fun i a=>ZnA (H.f i a) hk,fun i a=>ZnA (H.t i a) hk,fun i a=>ZnA (H.p i a) hk,fun i a=>ZnA (H.l i a) hk,fun i a=>ZnA (H.k i a) hk,H.bf,H.bm,H.bz⟩
theorem Nds.keeps {w w':World}{l:List In3}{P:Nat→Prop}{a b:Nat}{r:List VN} (h:Nds w l P a b r) (hk:Znz w w'):Nds w' l P a b r:=h.keep fun _ _ _ c d=>⟨ZnA c hk,d⟩
theorem Cs.keeps {w w':World} (hk:Znz w w'):∀ {l:List (Addr × Value)},Cs l w→Cs l w'
 | [],_=>trivial
 | (_,_) :: _,h=>⟨hk _ _ h.1,Cs.keeps hk h.2⟩
def IsMap (w:World) (M:Nat):Prop:=∃ es c,w.heap[M]?=some (.map es c)
theorem Znz.upd {w w':World}{M:Nat} (hm:IsMap w M) (hu:Upd M M w w'):Znz w w':=fun p v a=>by
 obtain ⟨d,c,hm⟩:=hm
 have b:p.block≠M:=fun e=>by unfold World.cell? at a;rw [e,hm] at a;simp at a
 exact (World.cell?_of_block (w:=w) (hu.block _ (Zac a) b b)).trans a
theorem ZnB:∀ (n:Nat) (l:List Nat),l.Nodup→(∀ k∈l,k<n)→l.length≤n
 |0,l,_,h=>by
  cases l with
  | nil=>simp
  | cons x r=>have:=h x (by simp);omega
 |n+1,l,hn,h=>by
  have d:=ZnB n (l.filter fun x=>decide (x≠n)) (hn.filter _) (fun k hk=>by simp at hk;have:=h k hk.1;omega);have b:∀ l:List Nat,l.Nodup→l.length≤(l.filter fun x=>decide (x≠n)).length+1:=by
   intro l
   induction l with
   | nil=>intro _;simp
   |cons x r ih=>
    intro a;rw [List.nodup_cons] at a;by_cases hx:x=n
    ·have:r.filter (fun x=>decide (x≠n))=r:=List.filter_eq_self.2 fun y c=>by have:y≠n:=fun e=>a.1 (by rw [hx,←e];exact c);simp [this]
     rw [List.filter_cons_of_neg (by simp [hx]),this];simp
    ·have:=ih a.2;rw [List.filter_cons_of_pos (by simp [hx])];simp only [List.length_cons];omega
  have:=b l hn;omega
def KnM (T:Nat→Int) (w:World) (M:Nat) (Q:Nat→Prop):Prop:=∃ (K:List Nat) (D:DataW Unit),K.Nodup∧(∀ k∈K,k<16∧Q k)∧w.ownsMap Tryz.prog 3 (plainElem Tryz.prog 3) M K.length D∧Maps.IsMap D∧(∀ k:Nat,Maps.has D (.int .i64 k)=decide (k∈K))∧∀ k∈K,D.atKey (.int .i64 k) (.lit (.int .i64 0))=.lit (.int .i64 (T k))
theorem KnM.map {T:Nat→Int}{w:World}{M:Nat}{Q:Nat→Prop} (H:KnM T w M Q):IsMap w M:=by obtain ⟨K,D,_,_,⟨a,c,h,_⟩,_⟩:=H;exact ⟨a,c,h⟩
theorem KnM.eq {T:Nat→Int}{w w':World}{M:Nat}{Q:Nat→Prop} (H:KnM T w M Q) (h:w'.heap[M]?=w.heap[M]?):KnM T w' M Q:=by obtain ⟨K,D,b,d,⟨a,c,e,f⟩,j⟩:=H;exact ⟨K,D,b,d,⟨a,c,h.trans e,f⟩,j⟩
theorem IsMap.lt {w:World}{M:Nat} (H:IsMap w M):M<w.heap.size:=by obtain ⟨a,c,h⟩:=H;exact (Array.getElem?_eq_some_iff.1 h).1
theorem KnM.old {T:Nat→Int}{w w':World}{M:Nat}{Q:Nat→Prop} (H:KnM T w M Q) (hb:Below w.heap.size w w'):KnM T w' M Q:=H.eq (hb.block M H.map.lt)
theorem KnM.weak {T:Nat→Int}{w:World}{M:Nat}{Q R:Nat→Prop} (H:KnM T w M Q) (h:∀ k,Q k→R k):KnM T w M R:=by obtain ⟨K,D,b,a,c⟩:=H;exact ⟨K,D,b,fun k hk=>⟨(a k hk).1,h k (a k hk).2⟩,c⟩
theorem KnM.put {T:Nat→Int}{w:World}{M k:Nat}{Q:Nat→Prop} (H:KnM T w M Q) (hk:¬ Q k) (h16:k<16):∃ (n:Nat) (D:DataW Unit),w.ownsMap Tryz.prog 3 (plainElem Tryz.prog 3) M n D∧n≤16∧∀ (w':World) (R:Nat→Prop),(∀ j,Q j∨j=k→R j)→w'.ownsMap Tryz.prog 3 (plainElem Tryz.prog 3) M (n+1) (D.put (.int .i64 k) (.lit (.int .i64 (T k))))→KnM T w' M R:=by
 obtain ⟨K,D,d,b,o,c,p,r⟩:=H;refine ⟨K.length,D,o,ZnB 16 K d fun j a=>(b j a).1,fun w' R f hw=>⟨k :: K,_,List.nodup_cons.2 ⟨fun e=>hk (b k e).2,d⟩,fun j a=>?_,hw,c.put _ _,fun j=>?_,fun j a=>?_⟩⟩
 ·rcases List.mem_cons.1 a with rfl|e
  ·exact ⟨h16,f _ (.inr rfl)⟩
  ·exact ⟨(b j e).1,f _ (.inl (b j e).2)⟩
 ·by_cases e:j=k
  ·subst e;rw [Maps.has_put_same (k:=.int .i64 j) c trivial];simp
  ·rw [Maps.has_put_other (by intro q;cases q;omega),p];simp [e]
 ·by_cases e:j=k
  ·subst e;exact Maps.atKey_put_same (k:=.int .i64 j) c trivial _ _
  ·rw [Maps.atKey_put_other (by intro q;cases q;omega)];exact r j ((List.mem_cons.1 a).resolve_left e)
theorem ZnC {w:World}{B M:Nat}{xs:Array Value}{t:TypeId} (h:Blk w B xs t) (a:IsMap w M):B≠M:=by rintro rfl;obtain ⟨b,c,a⟩:=a;unfold Blk at h;rw [h] at a;cases a
structure ZnD (w:World) (B M:Nat) (h:Hd) (m:Md) (F:Value) (sc:Bool) (T:Nat→Int) (Q:Nat→Prop):Prop where
 wk:Blk w B #[.slice h.co m.cl.length h.cc,.slice h.so m.st.length h.sc,.slice h.eo m.me.length h.ec,.int .i64 m.sel,F,.bool sc,.map (some M)] 147
 md:Zay w h m
 kn:KnM T w M Q
def ZnE (w:World) (M:Nat) (T:Nat→Int) (Q:Nat→Prop) (v:Int):Ending→World→Prop:=fun e w'=>e=.returned (.int .i64 v)∧Upd M M w w'∧KnM T w' M Q
section
variable {w w':World}{B M:Nat}{h:Hd}{m:Md}{F:Value}{sc:Bool}{T:Nat→Int}{Q R:Nat→Prop}
section
variable (H:ZnD w B M h m F sc T Q)
include H
theorem ZnD.keeps (hu:Upd M M w w'):Znz w w':=Znz.upd H.kn.map hu
theorem ZnD.next (hu:Upd M M w w') (hn:KnM T w' M R):ZnD w' B M h m F sc T R:=
 ⟨(hu.block B (Blk.lt H.wk) (ZnC H.wk H.kn.map) (ZnC H.wk H.kn.map)).trans H.wk,H.md.keeps (H.keeps hu),hn⟩
theorem ZnD.old (hb:Below w.heap.size w w'):ZnD w' B M h m F sc T Q:=H.next (.of hb) (H.kn.old hb)
theorem ZnD.drew:ZnD w.drew B M h m F sc T Q:=⟨H.wk,H.md.keeps (fun _ _ h=>h),H.kn.eq rfl⟩
end
theorem ZnE.bel {W:World}{v:Int}{e:Ending} (H:ZnE w M T Q v e w') (hb:Below W.heap.size W w):ZnE W M T Q v e w':=⟨H.1,(Upd.of hb).trans H.2.1,H.2.2⟩
end
def Bd (n:Int):Prop:=0≤n∧n≤1000000001
theorem ZnF {a b:Int} (ha:Bd a) (c:Bd b):Bd (ZmS a b):=by unfold Bd ZmS ZmR at *;omega
theorem ZnG {a b:Int} (ha:0≤a) (c:Bd b):Bd (ZmT a b):=by have:=Int.mul_nonneg ha c.1;unfold Bd ZmT ZmR at *;omega
theorem ZnH {a b:Int} (ha:Bd a) (c:Bd b):Bd (max a b):=by unfold Bd at *;omega
theorem ZnI {T:Int→Int}{l:List Int} (h:∀ t∈l,Bd (T t)):Bd (ZmW T l):=by
 unfold ZmW;have:∀ (l:List Int) (a:Int),Bd a→(∀ t∈l,Bd (T t))→Bd (l.foldl (fun a t=>max a (T t)) a):=by
  intro l
  induction l with
  | nil=>intro a ha _;exact ha
  | cons x r ih=>intro a ha h;exact ih _ (ZnH ha (h x (by simp))) fun t ht=>h t (by simp [ht])
 exact this l 0 (by unfold Bd;omega) h
section
variable {x:Ms}{m:Md}{T:Int→Int}{l:List In3} (hw:∀ i∈l,0≤x.wt i∧x.wt i≤1000) (ht:0≤x.tl∧x.tl≤1000) (hT:∀ t,Bd (T t)) (ha:∀ i∈l,i.op≠1→0≤i.a)
include hw ht hT ha
theorem ZnJ:∀ i∈l,Bd ((gW x m T).pl i):=fun i b=>by
 have c:=hw i b
 have a:Bd (x.wt i):=by unfold Bd;omega
 show Bd (if i.op=25 then _ else if i.op=26 then _ else _);split
 ·exact ZnF a (hT _)
 ·split
  ·exact ZnF a (ZnI fun t _=>hT t)
  ·exact a
theorem ZnK:∀ i∈l,∀ f s,Bd f→Bd s→Bd ((gW x m T).brk i f s):=fun i d f s c e=>by
 have j:=hw i d
 have b:Bd (x.wt i):=by unfold Bd;omega
 have a:Bd x.tl:=by unfold Bd;omega
 show Bd (if i.op=29 then _ else if i.op=30 then _ else if i.op=32∧x.sc=true then _ else if i.op=33 then _ else _);split
 ·exact ZnF b (ZnH (ZnF c a) (ZnF e a))
 ·split
  ·exact ZnF b (ZnG (ha i d (by omega)) (ZnF c a))
  ·split
   ·exact b
   ·split
    ·exact ZnF b (ZnF (ZnF c a) e)
    ·exact ZnF b (ZnF c a)
theorem ZnL {a b:Nat} (o:Seg l a b):∀ acc,Bd acc→Bd (WA (gW x m T) l a b acc):=by
 have f:∀ k,k<l.length→l.getD k default∈l:=fun k hk=>ZfU _ hk;have j:=ZnJ (m:=m) hw ht hT ha;have d:=ZnK (m:=m) hw ht hT ha;have e:Bd 0:=by unfold Bd;omega
 induction o with
 | nil a h=>intro acc c;rw [Zmv];exact c
 | pl a b q1 q2 q3 q4 q5 ih=>intro acc c;rw [Zmw q2 q5];exact ih _ (ZnF c (j _ (f a q1)))
 | one a en b q1 q2 q3 i1 i2=>intro acc c;rw [Zmx q1 q2 q3];exact i2 _ (ZnF c (d _ (f a q1.1) _ _ (i1 _ e) e))
 | two a n en b q1 q2 q3 q4 i1 i2 i3=>intro acc c;rw [Zmy q1 q2 q3 q4];exact i3 _ (ZnF c (d _ (f a q1.1) _ _ (i1 _ e) (i2 _ e)))
end
inductive ZnM (w:World) (l:List In3) (p:Nat):VN→Nat→Prop
 | pl:p<l.length→ZaR (l.getD p default).op=false→ZnM w l p ⟨p,-1,-1,none,0,0,none,0,0⟩ (p+1)
 | one (en:Nat) (fo:Option Addr) (fc:Nat) (F:List VN):Mat l p (-1) en→Zar w fo fc F→Nds w l (fun _=>True) (p+1) en F→ZnM w l p ⟨p,-1,en,fo,F.length,fc,none,0,0⟩ (en+1)
 | two (n en:Nat) (fo so:Option Addr) (fc sc:Nat) (F S:List VN):Mat l p n en→Zar w fo fc F→Nds w l (fun _=>True) (p+1) n F→Zar w so sc S→Nds w l (fun _=>True) (n+1) en S→ZnM w l p ⟨p,n,en,fo,F.length,fc,so,S.length,sc⟩ (en+1)
def ZnN (g:Wg) (l:List In3) (p:Nat) (x:VN):Int:=if ZaR (l.getD p default).op=true then g.brk (l.getD p default) (WA g l (p+1) (if x.alt<0 then x.en.toNat else x.alt.toNat) 0) (if x.alt<0 then 0 else WA g l (x.alt.toNat+1) x.en.toNat 0) else g.pl (l.getD p default)
theorem ZnO {w:World}{l:List In3}{p b:Nat}{x:VN}{r:List VN} (H:Nds w l (fun _=>True) p b (x :: r)) (g:Wg):∃ a,ZnM w l p x a∧Nds w l (fun _=>True) a b r∧p<a∧a≤b∧∀ acc,WA g l p b acc=WA g l a b (g.plus acc (ZnN g l p x)):=by
 cases H with
 | pl _ _ _ h1 h2 h3 h4 h5=>exact ⟨p+1,.pl h1 h2,h5,by omega,by have:=(h5.le).1;omega,fun acc=>by rw [Zmw h2 h5.seg];unfold ZnN;rw [if_neg (by rw [h2];decide)]⟩
 |one _ en _ fo fc F _ h1 h2 h3 h4 h5=>
  refine ⟨en+1,.one en fo fc F h1 h2 h4,h5,by have:=ZbI h1;omega,by have:=(h5.le).1;omega,fun acc=>?_⟩;rw [Zmx h1 h4.seg h5.seg];unfold ZnN;rw [if_pos (show ZaR (l.getD p default).op=true from h1.2.1)];dsimp only;rw [if_pos (show (-1:Int) < 0 by decide),if_pos (show (-1:Int) < 0 by decide)];rfl
 |two _ n en _ fo so fc sc F S _ h1 h2 h3 h4 h5 h6 h7 h8=>
  refine ⟨en+1,.two n en fo so fc sc F S h1 h2 h4 h5 h7,h8,by have:=ZbI h1;omega,by have:=(h8.le).1;omega,fun acc=>?_⟩;rw [Zmy h1 h4.seg h7.seg h8.seg];unfold ZnN;have c:¬ (n:Int) < 0:=by omega
  rw [if_pos (show ZaR (l.getD p default).op=true from h1.2.1)];dsimp only;rw [if_neg c,if_neg c,Int.toNat_natCast,Int.toNat_natCast]
theorem ZnP {w:World}{x:Ms}{m:Md}{T:Int→Int}{l:List In3} (hw:∀ i∈l,0≤x.wt i∧x.wt i≤1000) (ht:0≤x.tl∧x.tl≤1000) (hT:∀ t,Bd (T t)) (ha:∀ i∈l,i.op≠1→0≤i.a) {p d:Nat}{y:VN} (H:ZnM w l p y d):Bd (ZnN (gW x m T) l p y):=by
 have b:∀ k,k<l.length→l.getD k default∈l:=fun k hk=>ZfU _ hk;have a:Bd 0:=by unfold Bd;omega
 unfold ZnN;cases H with
 | pl h1 h2=>rw [if_neg (by rw [h2];decide)];exact ZnJ hw ht hT ha _ (b p h1)
 |one en fo fc F h1 h2 h3=>
  rw [if_pos (show ZaR (l.getD p default).op=true from h1.2.1)];dsimp only;rw [if_pos (show (-1:Int) < 0 by decide),if_pos (show (-1:Int) < 0 by decide)];exact ZnK hw ht hT ha _ (b p h1.1) _ _ (ZnL hw ht hT ha h3.seg _ a) a
 |two n en fo so fc sc F S h1 h2 h3 h4 h5=>
  have c:¬ (n:Int) < 0:=by omega
  rw [if_pos (show ZaR (l.getD p default).op=true from h1.2.1)];dsimp only;rw [if_neg c,if_neg c];exact ZnK hw ht hT ha _ (b p h1.1) _ _ (ZnL hw ht hT ha h3.seg _ a) (ZnL hw ht hT ha h5.seg _ a)
theorem ZnM.keeps {w w':World}{l:List In3}{p p':Nat}{x:VN} (H:ZnM w l p x p') (hk:Znz w w'):ZnM w' l p x p':=by
 cases H with
 | pl h1 h2=>exact .pl h1 h2
 | one en fo fc F h1 h2 h3=>exact .one en fo fc F h1 (ZnA h2 hk) (h3.keeps hk)
 | two n en fo so fc sc F S h1 h2 h3 h4 h5=>exact .two n en fo so fc sc F S h1 (ZnA h2 hk) (h3.keeps hk) (ZnA h4 hk) (h5.keeps hk)
end
section
open Go.RowKit
theorem ZnQ (a b:Int) (w:World) (ha:0≤a∧a≤1000000001) (c:0≤b∧b≤1000000001):Calls Tryz.prog 160 #[.int .i64 a,.int .i64 b] w (Ret w (.int .i64 (ZmS a b))):=by obtain ⟨d,e⟩:=ha;obtain ⟨f,j⟩:=c;generalize hq:ZmS a b=q;have HQ:=Zh hq;clear hq;go_enter Tryz.func160,Tryz.ntmps160;exact j18
theorem ZnR (a b:Int) (w:World) (ha:0≤a∧a≤1000) (j:0≤b∧b≤1000000001):Calls Tryz.prog 219 #[.int .i64 a,.int .i64 b] w (Ret w (.int .i64 (ZmT a b))):=by obtain ⟨d,e⟩:=ha;obtain ⟨c,f⟩:=j;have n:0≤a*b:=Int.mul_nonneg d c;have o:a*b≤1000*1000000001:=Int.mul_le_mul e f c (by decide);exact j9
theorem ZnS (n:Int) (w:World):Calls Tryz.prog 105 #[.int .i64 n] w (Ret w (.tuple #[.int .i64 (if 1000000000<n then 0 else n),.int .i64 (if 1000000000<n then 6 else 0)])):=by
 by_cases h:1000000000<n
 all_goals
  first|rw [if_pos h,if_pos h]|rw [if_neg h,if_neg h]
  go_enter Tryz.func105,Tryz.ntmps105;go_wp2;go_ret2;exact ZcT rfl bE
theorem ZnT (k:Nat):opC.getD k 0≤12:=by
 by_cases h:k<36
 ·have:∀ i,i<36→opC.getD i 0≤12:=by decide
  exact this k h
 ·rw [List.getD_eq_getElem?_getD,List.getElem?_eq_none (by simp only [opC,List.length_cons,List.length_nil];omega)];simp
theorem ZnU {p:Bool}{i:In3} (h:ZaQ p i=true):0≤i.op∧i.op<36:=by unfold ZaQ at h;simp only [Bool.and_eq_true,decide_eq_true_eq] at h;omega
theorem ZnV (i:In3) (w:World) (n:ZaQ false i=true) (ha:i.op=15∨i.op=16→0≤i.a∧i.a≤1000):Calls Tryz.prog 220 #[ZI.i i] w (Ret w (.tuple #[.int .i64 (ZmU i),.int .i64 0])):=by
 have j:=ZnU n;have HV:=Zh (Zdi i false);rw [n] at HV;obtain ⟨o,a,b⟩:=i;dsimp only at j HV ha;obtain ⟨k,rfl⟩:∃ k:Nat,o=k:=⟨o.toNat,by omega⟩;have hk:k<36:=by omega
 have HK:=Zh (Zde k hk);have d:ZmU ⟨k,a,b⟩=((opC.getD k 0:Nat):Int)+if (k:Int)=15∨(k:Int)=16 then a else 0:=by unfold ZmU;rw [Int.toNat_natCast]
 have f:=ZnT k;generalize ZmU ⟨k,a,b⟩=q at d ⊢;generalize opN.getD k default=n0 at HK;generalize ((opA.getD k 0:Nat):Int)=n1 at HK;generalize ((opB.getD k 0:Nat):Int)=n2 at HK;generalize opC.getD k 0=n3 at HK d f;have HQ:=Zh d;have HX:=Zh (Blk.new w #[.int .i64 k,.int .i64 a,.int .i64 b] 78);have c:Below w.heap.size w (w.alloc (.cells #[.int .i64 k,.int .i64 a,.int .i64 b] 78)):=by exact bE
 have HB0:=Zh c;clear d n c;by_cases h:(k:Int)=15∨(k:Int)=16
 ·obtain ⟨r,s⟩:=ha h;rw [if_pos h] at HQ;exact j2
 ·rw [if_neg h,Int.add_zero] at HQ;clear ha;exact j2
end
section
open Go.RowKit
theorem ZnW {w:World}{d:Option Addr}{c:Nat}{l:List VN} (h:Zar w d c l) {i:Nat} (b:i<l.length):∃ a,d=some a ∧
  w.cell? (a.add (i*5))=some (.int .i64 (l.getD i default).at_)∧w.cell? ⟨(a.add (i*5)).block,(a.add (i*5)).off+1,none⟩=some (.int .i64 (l.getD i default).alt)∧w.cell? ⟨(a.add (i*5)).block,(a.add (i*5)).off+2,none⟩=some (.int .i64 (l.getD i default).en) ∧
  w.cell? ⟨(a.add (i*5)).block,(a.add (i*5)).off+3,none⟩=some (.slice (l.getD i default).fo (l.getD i default).fn (l.getD i default).fc)∧w.cell? ⟨(a.add (i*5)).block,(a.add (i*5)).off+4,none⟩=some (.slice (l.getD i default).so (l.getD i default).sn (l.getD i default).sc):=by
 obtain ⟨a,ha⟩:=h.some (by omega);subst ha;have e:l.getD i default=l[i]:=by simp [b]
 rw [e];exact ⟨a,rfl,h.cell b 0 rfl,h.cell b 1 rfl,h.cell b 2 rfl,h.cell b 3 rfl,h.cell b 4 rfl⟩
def cdM (m:Md) (k:Nat):List In3:=(m.me.getD k default).k
def gT (x:Ms) (m:Md) (T:Nat→Int):Wg:=gW x m fun t=>T t.toNat
structure Wkr (x:Ms) (m:Md) (T:Nat→Int) (g:Nat) (caps:Array Value) (W0:World):Prop where
 hm:Za1 m=true
 wt:∀ k,k<m.me.length→∀ i∈(cdM m k),0≤x.wt i∧x.wt i≤1000
 tl:0≤x.tl∧x.tl≤1000
 te:∀ i:In3,i.op=35→x.wt i=x.tl
 bd:∀ k,Bd (T k)
 eq:∀ k,k<m.me.length→T k=WA (gT x m T) (cdM m k) 0 (cdM m k).length 0
 cf:∀ A W,(callFunc g (A++caps)).run Tryz.prog W=.ok (.enter g (A++caps)) W
 fn:∀ k,k<m.me.length→∀ i∈(cdM m k),∀ w',Znz W0 w'→Calls Tryz.prog g (#[.agg #[.int .i64 i.op,.int .i64 i.a,.int .i64 i.b]]++caps) w' (Ret w' (.int .i64 (x.wt i)))
def ZnX (x:Ms) (B M:Nat) (h:Hd) (m:Md) (T:Nat→Int) (g:Nat) (caps:Array Value) (W0:World) (k:Nat):Prop:=∀ w Q,ZnD w B M h m (.func (Fn.func g) #[] caps) x.sc T Q→Znz W0 w→Calls Tryz.prog 110 #[ZQ.p B,.int .i64 k] w (ZnE w M T (fun j=>Q j∨j<k+1) (T k))
def ZnY (x:Ms) (B M:Nat) (h:Hd) (m:Md) (T:Nat→Int) (g:Nat) (caps:Array Value) (W0:World) (k a b:Nat):Prop:=∀ w Q ro rc rows,ZnD w B M h m (.func (Fn.func g) #[] caps) x.sc T Q→Znz W0 w→Zar w ro rc rows→Nds w (cdM m k) (fun _=>True) a b rows →
 Calls Tryz.prog 161 #[ZQ.p B,.int .i64 k,.slice ro rows.length rc] w (ZnE w M T (fun j=>Q j∨j<k) (WA (gT x m T) (cdM m k) a b 0))
def ZnZ (x:Ms) (B M:Nat) (h:Hd) (m:Md) (T:Nat→Int) (g:Nat) (caps:Array Value) (W0:World) (k p:Nat) (y:VN) (p':Nat):Prop:=∀ w Q,ZnD w B M h m (.func (Fn.func g) #[] caps) x.sc T Q→Znz W0 w→ZnM w (cdM m k) p y p' →
 Calls Tryz.prog 223 #[ZQ.p B,.int .i64 k,.agg #[.int .i64 y.at_,.int .i64 y.alt,.int .i64 y.en,.slice y.fo y.fn y.fc,.slice y.so y.sn y.sc]] w (ZnE w M T (fun j=>Q j∨j<k) (ZnN (gT x m T) (cdM m k) p y))
section
variable {x:Ms}{B M:Nat}{h:Hd}{m:Md}{T:Nat→Int}{g:Nat}{caps:Array Value}{W0:World}{k:Nat}
section
variable (H:Wkr x m T g caps W0)(hk:k<m.me.length)
include H hk
theorem Wkr.ok:ZfM m k:=ZfN H.hm hk
theorem Wkr.code:ZaV false (cdM m k)=0:=by have hm:=H.ok hk;unfold ZaV;unfold cdM;exact j19
theorem Wkr.opd {i:In3} (hi:i∈(cdM m k)):ZfR m k i:=ZfS ((H.ok hk).i i hi).1 ((H.ok hk).i i hi).2
theorem Wkr.bdW {a b:Nat} (hs:Seg (cdM m k) a b) {acc:Int} (ha:Bd acc):Bd (WA (gT x m T) (cdM m k) a b acc):=
 ZnL (H.wt k hk) H.tl (fun _=>H.bd _) (fun i c=>(H.opd hk c).a0) hs _ ha
end
theorem Zn0 (HW:Wkr x m T g caps W0) (hk:k<m.me.length) {a b:Nat} (hn:∀ p y D,a≤p→p<D→D≤b→ZnZ x B M h m T g caps W0 k p y D):ZnY x B M h m T g caps W0 k a b:=by
 intro w Q ro rc c H K hr d;have ah:=d.le;have hc:(cdM m k).length≤120:=(HW.ok hk).z.2.2;have aa:=Zh hn;have U:=Zh H;have HK:=Zh K;have HR:=Zh hr;have HD:=Zh d;have o:=Zh HW;have av:c.length≤120:=by omega
 clear hn H K hr d ah hc;go_enter Tryz.func161,Tryz.ntmps161;go_wp2
 go_loopw [7,12] (fun s i wr=>∃ (j p:Nat) (E:Int),i=.int .i64 j∧s=.int .i64 E∧j≤c.length∧Hid (a≤p∧Bd E∧Nds wr (cdM m k) (fun _=>True) p b (c.drop j)∧WA (gT x m T) (cdM m k) a b 0=WA (gT x m T) (cdM m k) p b E)∧Hid (Upd M M w wr)∧Hid (KnM T wr M fun j=>Q j∨j<k)) (fun _ i _=>c.length-(intOf i).toNat)
 case atStart=>exact ⟨0,a,0,rfl,rfl,Nat.zero_le _,⟨Nat.le_refl _,by unfold Bd;omega,HD.out,rfl⟩,Upd.refl _ _ _,U.out.kn.weak fun _ h=>.inl h⟩
 case round=>
  obtain ⟨j,p,E,rfl,rfl,hj,HS,G,Y⟩:=hrel;have V:=Zh (U.out.next G.out Y.out);have X:=Zh (HK.out.trans (U.out.keeps G.out));by_cases hjl:j<c.length
  ·obtain ⟨af,P,d,r⟩:=HS.out;have J:c.drop j=c.getD j default :: c.drop (j+1):=by rw [List.drop_eq_getElem_cons hjl];simp [hjl]
   rw [J] at d;obtain ⟨D,q,u,O,N,f⟩:=ZnO d (gT x m T);obtain ⟨ad,rfl,c0,c1,c2,c3,c4⟩:=ZnW (ZnA HR.out (U.out.keeps G.out)) hjl;obtain ⟨y,hy⟩:∃ y,y=c.getD j default:=⟨_,rfl⟩;rw [←hy] at q f c0 c1 c2 c3 c4;have A:Bd (ZnN (gT x m T) (cdM m k) p y):=ZnP (o.out.wt k hk) o.out.tl (fun _=>o.out.bd _) (fun i hi=>(o.out.opd hk hi).a0) q;obtain ⟨v,hv⟩:∃ v,v=ZnN (gT x m T) (cdM m k) p y:=⟨_,rfl⟩;have S:=Zh (aa.out p y D af O N);unfold ZnZ at S;rw [←hv] at S f A;obtain ⟨ya,yl,ye,yf,aj,ai,ys,al,ak⟩:=y;dsimp only at c0 c1 c2 c3 c4 S;have n:=Zh (And.intro q (And.intro u (And.intro A (And.intro P (And.intro O N)))));have ac:=Zh (r.trans (f E));have aG:=Zac c0;have au:(j:Int) < c.length:=by omega
   have aH:IntKind.i64.wrap ((j:Int)+1)=((j+1:Nat):Int):=IntWalk.i64_in _ (by omega);clear q d u r f hy J hv A P
   go_wp2_with (first
    | (go_at_call 223;refine (S.out _ _ (V.out.old bE) (X.out.trans (Znz.of bE)) (n.out.1.keeps (Znz.of bE))).mono ?_;rintro e w2 ⟨rfl,C,L⟩;have ab:=Zh ((G.out.alloc _).trans C);have Z:=Zh (L.weak (R:=fun j=>Q j∨j<k) fun _ h=>h.elim id .inr);have W:=Zh (Znz.upd (Y.out.old bE).map C);clear C L)
    | (go_at_call 160;refine (ZnQ _ _ _ n.out.2.2.2.1 n.out.2.2.1).mono ?_;rintro e w3 ⟨rfl,I⟩;have z:=Zh I;clear I))
   have ag:=(Znz.of (show Below wr.heap.size wr (wr.alloc (.cells #[.int .i64 ya,.int .i64 yl,.int .i64 ye,.slice yf aj ai,.slice ys al ak] 193)) by exact bE)).trans (W.out.trans (Znz.of z.out));exact ⟨⟨j+1,D,ZmS E v,rfl,rfl,hjl,⟨by omega,ZnF n.out.2.2.2.1 n.out.2.2.1,n.out.2.1.keeps ag,ac.out⟩,ab.out.bel z.out,Z.out.old z.out⟩,by simp [intOf];omega⟩
  ·have aF:¬ (j:Int) < c.length:=by omega
   go_wp2;go_ret;obtain ⟨-,-,d,r⟩:=HS.out;rw [List.drop_eq_nil_iff.2 (by omega)] at d;cases d with
   | nil _ _=>exact ⟨by rw [r,Zmv];rfl,G.out,Y.out⟩
theorem Zn1:Go.Maps.Keyed Tryz.prog 3:=Go.Maps.int_keyed Tryz.underlying3
theorem Zn2 (w:World):(zeroValue 3).run Tryz.prog w=.ok (.int .i64 0) w:=by kernel_rfl
theorem Zn3 {k:Nat} (h:k<1000000):(Lit.int .i64 (k:Int)).wf=true:=WalkArith.wf_i64 (by omega)
theorem Zn4 {k:Nat} (h:k<1000000):keyOf Tryz.prog 3 (.int .i64 k)=some (.int .i64 k):=Go.Maps.keyOf_int_mk Tryz.underlying3 (Zn3 h)
theorem KnM.look {Q:Nat→Prop}{w:World} (H:KnM T w M Q):∃ (K:List Nat) (D:DataW Unit),w.ownsMap Tryz.prog 3 (plainElem Tryz.prog 3) M K.length D∧(∀ k:Nat,Maps.has D (.int .i64 k)=decide (k∈K))∧(∀ k∈K,D.atKey (.int .i64 k) (.lit (.int .i64 0))=.lit (.int .i64 (T k)))∧∀ k,k ∉ K→KnM T w M fun j=>Q j∧j≠k:=by obtain ⟨K,D,n,b,c,o,d,f⟩:=H;exact ⟨K,D,c,d,f,fun k hk=>⟨K,D,n,fun j a=>⟨(b j a).1,(b j a).2,fun e=>hk (e▸a)⟩,c,o,d,f⟩⟩
theorem Zn5 (HW:Wkr x m T g caps W0) (hk:k<m.me.length) (hl:ZnY x B M h m T g caps W0 k 0 (cdM m k).length):ZnX x B M h m T g caps W0 k:=by
 intro w Q H W;have al:k<16:=by have:=(Zin HW.hm).2.1;omega
 obtain ⟨K,D,z,u,O,Y⟩:=H.kn.look;have f:=u k;have hT:=HW.eq k hk;have G:=Zh H;have ah:=Zh W;have HL:=Zh hl;have HO:=Zh z;have ai:=Zh (Y k);have af:=Zh (O k);have s:=Zh HW;have c6:=H.wk.cell 6 (v:=.map (some M)) rfl;clear H W hl z u Y O HW;by_cases hkK:k∈K
 ·rw [decide_eq_true hkK] at f;have A:=Zh f;clear f;go_enter Tryz.func110,Tryz.ntmps110
  go_wp2_with (at_lookup;(refine wpList_lookup_own_ok_int _ rfl _ _ 69 rfl 3 3 .i64 Zn1 Tryz.underlying69 Tryz.underlying3 (Zn2 _) M K.length D rfl HO.out _ _ rfl (Zn4 (by omega)) ?_);intro c hc Z;rw [A.out])
  go_ret;have:=af.out hkK;rw [this] at hc;cases hc;exact ⟨rfl,Upd.refl _ _ _,G.out.kn.weak fun _ h=>.inl h⟩
 ·rw [decide_eq_false hkK] at f;have A:=Zh f;have L:=Zh (ai.out hkK);clear f;have an:=G.out.md.mth hk;obtain ⟨I,he,-,-,-,-,-,-,e6⟩:=an;have c2:=G.out.wk.cell 2 (v:=.slice h.eo m.me.length h.ec) rfl;rw [he] at c2;clear he;have X:=G.out.md.k k hk;have HP:=Zh (fun w' hb=>ZmQ (cdM m k) (h.e k).ko (h.e k).kc (s.out.code hk) (cdM m k).length 0 (cdM m k).length w' (by omega) (Zar.old X (w':=w') hb) (Zmq (s.out.ok hk).n));have V:(m.me.getD k default).k.length=(cdM m k).length:=rfl;rw [V] at e6;have aw:=Zh (show (cdM m k).length≤120 from (s.out.ok hk).z.2.2);have aA:(k:Int) < m.me.length:=by omega
  clear X V;go_enter Tryz.func110,Tryz.ntmps110
  go_upto_region 4 with (at_lookup;refine wpList_lookup_own_ok_int _ rfl _ _ 69 rfl 3 3 .i64 Zn1 Tryz.underlying69 Tryz.underlying3 (Zn2 _) M K.length D rfl HO.out _ _ rfl (Zn4 (by omega)) ?_;intro c hc Z;rw [A.out])
  have J:=Zh (show Cs [(⟨B,2,none⟩,.slice (some I) m.me.length h.ec),(⟨(I.add (k*7)).block,(I.add (k*7)).off+6,none⟩,.slice (h.e k).ko (cdM m k).length (h.e k).kc)] w from ⟨c2,e6,trivial⟩);clear hc Z;refine rO (Cs [(⟨B,2,none⟩,.slice (some I) m.me.length h.ec),(⟨(I.add (k*7)).block,(I.add (k*7)).off+6,none⟩,.slice (h.e k).ko (cdM m k).length (h.e k).kc)]) (oL [0,1,2,3,4,5,6,7,8,9,10,11,12,13,14,15,16,17,18,19,20,121,122,23]) ⟨c2,e6,trivial⟩ ?_;clear c2 e6
  repeat refine pO ?_
  refine oO fun Kv N=>?_;go_simp;refine (HP.out _ (Below.refl _ _).drew).mono ?_;rintro e w2 ⟨ro,rc,aa,rfl,r,y,U⟩;have b:=Zh (Zaf (Below.refl w.heap.size w).drew U);have aj:=Zh (Zar.of_own r);have ag:=Zh (y.weak (Q:=fun _=>True) fun _ _=>trivial);refine N _ _ ⟨Cs.keeps (Znz.of b.out) J.out,?_⟩;clear N Kv r y U;refine oO fun Kv N=>?_;go_simp;refine (HL.out _ (fun j=>Q j∧j≠k) ro rc aa ⟨(G.out.old b.out).wk,(G.out.old b.out).md,L.out.old b.out⟩ (ah.out.trans (Znz.of b.out)) aj.out ag.out).mono ?_;rintro e w3 ⟨rfl,E,hn3⟩;have C:=(Znz.of b.out).trans (Znz.upd (L.out.old b.out).map E);have HU3:=Zh ((Upd.of b.out).trans E);refine N _ _ ⟨Cs.keeps C J.out,?_⟩;have az:=C _ _ c6;clear N Kv E c6 C
  repeat refine pO ?_
  refine Zd5 ?_;rw [←hT];obtain ⟨n,D3,hown3,au,hput⟩:=hn3.put (k:=k) (by omega) al;have HO3:=Zh hown3;have HPt:=Zh hput;have am:=s.out.bd k;unfold Bd at am;exact j3
end
end
section
open Go.RowKit
attribute [local go_sem] World.cell?_alloc_some
def Zn6 (m:Md) (i:In3):List Int:=if i.op=25 then [i.a] else if i.op=26 then ZaN m i.a else []
def Zn7 (m:Md) (c:List In3) (j:Nat):List Int:=(c.take j).flatMap (Zn6 m)
def Zn8 (m:Md) (k:Nat):List Int:=ZaM (Zn7 m (cdM m k) (cdM m k).length)
theorem Zn9 {m:Md}{c:List In3}{j:Nat} (a:j<c.length):Zn7 m c (j+1)=Zn7 m c j++Zn6 m (c.getD j default):=by unfold Zn7;rw [Zal c j a,List.flatMap_append];simp
theorem Zoa {m:Md} (h:m.cl.length≤10) (i:In3):(Zn6 m i).length≤10:=by
 unfold Zn6;have:=ZdG m i.a;split
 ·simp
 ·split
  ·omega
  ·simp
theorem Zob {m:Md} (h:m.cl.length≤10) (c:List In3):∀ j,j≤c.length→(Zn7 m c j).length≤10*j
 | 0,_=>by simp [Zn7]
 |j+1,hj=>by rw [Zn9 (by omega),List.length_append];have:=Zoa h (c.getD j default);have:=Zob h c j (by omega);omega
theorem Zoc (m:Md) (h:Hd) (k:Nat) (w:World) (H:Zay w h m) (hv:Za1 m=true) (hk:k<m.me.length):Calls Tryz.prog 177 #[.agg (HM.mk h m),.int .i64 k] w (ZdF w (Zn8 m k)):=by
 obtain ⟨C,P⟩:∃ C,C=w.alloc (.cells (HM.mk h m) 26):=⟨_,rfl⟩;have HB:=Zh (show Below w.heap.size w C by rw [P];exact bE);have W:=Zh (show Blk C w.heap.size (HM.mk h m) 26 by rw [P];exact Blk.new _ _ _);have Hj:=Zh (H.old HB.out);have HW:=Zh P;have A:=ZfN hv hk;have hc:(cdM m k).length≤120:=A.z.2.2;have O:=Zin hv;have ac:=Zh (show ∀ (w':World) (s:Int),Below C.heap.size C w'→0≤s→s<m.sel→_ from fun w' s hb h0 h1=>ZdR m h s w' (Hj.out.old hb) ⟨h0,h1⟩ O.1 (fun j N=>Zg9 (Zil hv j N)));have ar:=Zh (fun j N=>Zob (m:=m) O.1 (cdM m k) j N);have HI:=Zh (show ∀ i∈cdM m k,i.op=26→0≤i.a∧i.a<m.sel from fun i X L=>⟨(ZfS (A.i i X).1 (A.i i X).2).a0 (by omega),((ZfS (A.i i X).1 (A.i i X).2).o26 L).1⟩);have aU:(k:Int) < m.me.length:=by omega
 obtain ⟨ea,he,-,-,-,-,-,-,e6⟩:=Hj.out.mth hk;rw [show (m.me.getD k default).k.length=(cdM m k).length from rfl] at e6;have ay:=Zh (fun s=>ZdG m s);have aa:=Zh O.1;have HK:=Zh (show ∀ w',Below C.heap.size C w'→Zar w' (h.e k).ko (h.e k).kc (cdM m k) from fun w' hb=>(Hj.out.old hb).k k hk);generalize (h.e k).ko=ko at e6 HK;generalize (h.e k).kc=kc at e6 HK;rw [he] at HW W ac ⊢;clear P H A O he hv;go_enter Tryz.func177,Tryz.ntmps177
 go_upto_region 1 with fail
 rw [←HW.out];have x2:=W.out.cell 2 (v:=.slice (some ea) m.me.length h.ec) rfl
 go_wp2_with fail
 clear x2 e6
 go_loopw [5,15] (fun o i wr=>∃ (j:Nat) (K:Option Addr) (d:Nat),j≤(cdM m k).length∧i=.int .i64 j∧o=.slice K (Zn7 m (cdM m k) j).length d∧Hid (wr.ownsRow C.heap.size 3 1 (.slice K (Zn7 m (cdM m k) j).length d) (Zn7 m (cdM m k) j).length ((Zn7 m (cdM m k) j).map (Value.int .i64)))∧Hid (Below C.heap.size C wr)) (fun _ i _=>(cdM m k).length-(intOf i).toNat)
 case atStart=>exact ⟨0,none,0,Nat.zero_le _,rfl,rfl,World.ownsRow_nil _ _ _ _,Below.refl _ _⟩
 case round=>
  obtain ⟨j,K,d,N,rfl,rfl,V,b⟩:=hrel;have U:=ar.out j N;by_cases hjl:j<(cdM m k).length
  ·obtain ⟨ad,rfl,o0,o1,o2⟩:=ZaA (HK.out _ b.out) hjl;have f:=Zn9 (m:=m) hjl;have n:=HI.out ((cdM m k).getD j default) (ZfU _ hjl);obtain ⟨i,X⟩:∃ i,i=(cdM m k).getD j default:=⟨_,rfl⟩;rw [←X] at o0 o1 o2 f n;obtain ⟨op,Y,ib⟩:=i;dsimp only at o0 o1 o2 n;have aJ:(j:Int) < (cdM m k).length:=by omega
   have aW:IntKind.i64.wrap ((j:Int)+1)=j+1:=IntWalk.i64_in _ (by omega);generalize hzs:Zn7 m (cdM m k) j=zs at V U f ⊢;clear hzs X;have aK:=b.out.size;by_cases h25:op=25
   ·subst h25;have HY:=Zh (show Zn7 m (cdM m k) (j+1)=zs++[Y] from f);have hown:=V.out;clear f n
    go_wp2_with (at_builtin;refine Zaj rfl (.tmp 23) (.tmp 26) 34 rfl C.heap.size 3 1 8 Zcq (.slice K zs.length d) zs.length (zs.map (Value.int .i64)) rfl ((hown.alloc _).alloc _) _ 1 1 [.int .i64 Y] rfl (ZdL (Blk.new' #[.int .i64 Y] 3 (by simp)) rfl) (by intro u hu;rw [List.mem_singleton.1 hu];rfl) (by omega) (by unfold maxLen;omega) (by have:=b.out.size;simp;omega) ?_;intro ao1 cap1 aE c E;have HO9:=Zh c;have HB9:=Zh (ZcV (bal (bal b.out _) _) E (fun j N=>(hown.lt j N).1));clear c E)
    exact j8
   ·by_cases L:op=26
    ·subst L;have HY:=Zh (show Zn7 m (cdM m k) (j+1)=zs++ZaN m Y from f);obtain ⟨h0,h1⟩:=n rfl;have ab:=Zh (fun w' hb=>ac.out w' Y hb h0 h1);have ai:=ay.out Y;have az:=aa.out;generalize ZaN m Y=ts at ab HY ai;have aC:ts.length≤10:=by omega
     have hX:=W;have x0:=(W.out.old b.out).cell 0 (v:=.slice h.co m.cl.length h.cc) rfl;have x1:=(W.out.old b.out).cell 1 (v:=.slice h.so m.st.length h.sc) rfl;have x2:=(W.out.old b.out).cell 2 (v:=.slice (some ea) m.me.length h.ec) rfl;have x3:=(W.out.old b.out).cell 3 (v:=.int .i64 m.sel) rfl;clear f n ai az h0 h1 hX
     go_wp2_with (first
      | (go_at_call 243;refine (ab.out _ (bal b.out _)).mono ?_;rintro e w2 ⟨⟨bo,bc,rfl,ah,-⟩,r⟩;have hown:=ZhI (V.out.alloc _) fun q hq=>r.block q ((V.out.alloc _).lt q hq).2;have J:=Zh (Zaf (bal b.out _) r);have ax:=Zh (show SlA w2 1 bo ts.length bc (ts.map (Value.int .i64)) by rw [←Zat];exact ah);clear r ah x0 x1 x2 x3)
      | (at_builtin;refine Zaj rfl (.tmp 30) (.tmp 34) 34 rfl C.heap.size 3 1 8 Zcq (.slice K zs.length d) zs.length (zs.map (Value.int .i64)) rfl hown _ ts.length _ (ts.map (Value.int .i64)) rfl ax.out (by intro u hu;obtain ⟨z,-,rfl⟩:=List.mem_map.1 hu;rfl) (by omega) (by unfold maxLen;omega) J.out.size ?_;intro ao1 cap1 aE c E;have HO9:=Zh c;have HB9:=Zh (ZcV J.out E (fun j N=>(hown.lt j N).1));clear c E hown))
     exact j10
    ·have HY:=Zh (show Zn7 m (cdM m k) (j+1)=zs by rw [f];unfold Zn6;rw [if_neg h25,if_neg L,List.append_nil]);clear f n;go_wp2
     all_goals
      go_roundw
      case rel=>exact ⟨j+1,K,d,by omega,by go_num,by rw [HY.out],(by rw [HY.out];exact V.out.alloc _),bal b.out _⟩
      case measure=>simp [intOf];omega
  ·obtain rfl:j=(cdM m k).length:=by omega
   have D:Zn8 m k=ZaM (Zn7 m (cdM m k) (cdM m k).length):=rfl;generalize Zn7 m (cdM m k) (cdM m k).length=zs at V U D ⊢;have S:=Zh D;have ag:=ZdD zs;have HC:=Zh ag;have aB:=ZdA zs;clear D ag
   go_wp2_with fail
   refine (ZdJ K zs.length d zs _ V.out (by omega) b.out.size).mono ?_;rintro e1 w1 ⟨rfl,G,af⟩;have av:=Zh G;have Z:=Zh af;clear G af
   go_wp2_with fail
   refine (ZdK K zs.length d (zs.mergeSort fun x y=>decide (x≤y)) _ av.out (by omega) (by have:=b.out.size;have:=Z.out.size;omega) (by rw [HC.out];exact aB)).mono ?_;rintro e2 w2 ⟨rfl,I,r⟩;have aw:=Zh I;have J:=Zh r;clear I r;go_wp2;go_ret;refine ⟨⟨K,d,by rw [HC.out,S.out];rfl,?_⟩,?_⟩
   ·have h2:=aw.out;rw [HC.out] at h2;rw [S.out];refine ⟨Zar.of_own (by rw [Zat];exact h2),fun a ha=>?_⟩;subst ha;have:=(h2.lt a.block rfl).1;have:=HB.out.size;omega
   ·exact Zaf HB.out ((b.out.trans Z.out).trans J.out)
end
section
open Go.RowKit
attribute [local go_sem] World.cell?_alloc_some
theorem Zod (m:Md) (h:Hd) (k:Nat) (w:World) (H:Zay w h m) (hv:Za1 m=true) (hk:k<m.me.length):Calls Tryz.prog 64 #[.agg (HM.mk h m),.int .i64 k] w (ZdF w (Zn8 m k)):=by
 obtain ⟨C,O⟩:∃ C,C=w.alloc (.cells (HM.mk h m) 26):=⟨_,rfl⟩;have HB:=Zh (show Below w.heap.size w C by rw [O];exact bE);have I:=Zh (show Blk C w.heap.size (HM.mk h m) 26 by rw [O];exact Blk.new _ _ _);have Hj:=Zh (H.old HB.out);have HW:=Zh O;have A:=ZfN hv hk;have hc:(cdM m k).length≤120:=A.z.2.2;have N:=Zin hv;have aj:=Zh (show ∀ (w':World) (s:Int),Below C.heap.size C w'→0≤s→s<m.sel→_ from fun w' s hb h0 h1=>Zgz m h s w' (Hj.out.old hb) ⟨h0,h1⟩ N.1 (fun j L=>Zg9 (Zil hv j L)));have aC:=Zh (fun j L=>Zob (m:=m) N.1 (cdM m k) j L);have HI:=Zh (show ∀ i∈cdM m k,i.op=26→0≤i.a∧i.a<m.sel from fun i W J=>⟨(ZfS (A.i i W).1 (A.i i W).2).a0 (by omega),((ZfS (A.i i W).1 (A.i i W).2).o26 J).1⟩);have a2:(k:Int) < m.me.length:=by omega
 obtain ⟨ea,he,-,-,-,-,-,-,e6⟩:=Hj.out.mth hk;rw [show (m.me.getD k default).k.length=(cdM m k).length from rfl] at e6;have aF:=Zh (fun s=>ZdG m s);have af:=Zh N.1;have HK:=Zh (show ∀ w',Below C.heap.size C w'→Zar w' (h.e k).ko (h.e k).kc (cdM m k) from fun w' hb=>(Hj.out.old hb).k k hk);generalize (h.e k).ko=ko at e6 HK;generalize (h.e k).kc=kc at e6 HK;rw [he] at HW I aj ⊢;clear O H A N he hv;go_enter Tryz.func64,Tryz.ntmps64
 go_upto_region 1 with fail
 rw [←HW.out];have x2:=I.out.cell 2 (v:=.slice (some ea) m.me.length h.ec) rfl
 go_wp2_with fail
 clear x2 e6
 go_loopw [5,7] (fun o i wr=>∃ (j:Nat) (Z:Option Addr) (r:Nat),j≤(cdM m k).length∧i=.int .i64 j∧o=.slice Z (Zn7 m (cdM m k) j).length r∧Hid (wr.ownsRow C.heap.size 3 1 (.slice Z (Zn7 m (cdM m k) j).length r) (Zn7 m (cdM m k) j).length ((Zn7 m (cdM m k) j).map (Value.int .i64)))∧Hid (Below C.heap.size C wr)) (fun _ i _=>(cdM m k).length-(intOf i).toNat)
 case atStart=>exact ⟨0,none,0,Nat.zero_le _,rfl,rfl,World.ownsRow_nil _ _ _ _,Below.refl _ _⟩
 case round=>
  obtain ⟨j,Z,r,L,rfl,rfl,Y,b⟩:=hrel;have X:=aC.out j L;by_cases hjl:j<(cdM m k).length
  ·obtain ⟨ad,rfl,o0,o1,o2⟩:=ZaA (HK.out _ b.out) hjl;have n:=Zn9 (m:=m) hjl;have y:=HI.out ((cdM m k).getD j default) (ZfU _ hjl);obtain ⟨i,W⟩:∃ i,i=(cdM m k).getD j default:=⟨_,rfl⟩;rw [←W] at o0 o1 o2 n y;obtain ⟨op,U,ib⟩:=i;dsimp only at o0 o1 o2 y;have aT:(j:Int) < (cdM m k).length:=by omega
   have a4:IntKind.i64.wrap ((j:Int)+1)=j+1:=IntWalk.i64_in _ (by omega);generalize hzs:Zn7 m (cdM m k) j=zs at Y X n ⊢;have ag:=Zh W;clear hzs W;have aV:=b.out.size;by_cases h25:op=25
   ·subst h25;have HY:=Zh (show Zn7 m (cdM m k) (j+1)=zs++[U] from n);have hown:=Y.out;have aZ:=Zh (HK.out _ b.out);clear n y
    go_wp2_with (at_builtin;refine Zaj rfl (.tmp 26) (.tmp 32) 34 rfl C.heap.size 3 1 8 Zcq (.slice Z zs.length r) zs.length (zs.map (Value.int .i64)) rfl (hown.alloc _) _ 1 1 [.int .i64 U] rfl (ZdL (Blk.new' #[.int .i64 U] 3 (by simp)) rfl) (by intro u hu;rw [List.mem_singleton.1 hu];rfl) (by omega) (by unfold maxLen;omega) (by have:=b.out.size;simp;omega) ?_;intro ao1 cap1 aN f E;have HO9:=Zh f;have HB9:=Zh (ZcV (bal b.out _) E (fun j L=>(hown.lt j L).1));have q:=ZaA (HK.out _ HB9.out) hjl;rw [←ag.out] at q;obtain ⟨aH,aa,o3,-,-⟩:=q;cases aa;dsimp only at o3;clear f E o0 o1 o2)
    exact j8
   ·by_cases J:op=26
    ·subst J;have HY:=Zh (show Zn7 m (cdM m k) (j+1)=zs++ZaN m U from n);obtain ⟨h0,h1⟩:=y rfl;have ai:=Zh (fun w' hb=>aj.out w' U hb h0 h1);have aq:=aF.out U;have aI:=af.out;generalize ZaN m U=ts at ai HY aq;have aJ:ts.length≤10:=by omega
     have x0:=(I.out.old b.out).cell 0 (v:=.slice h.co m.cl.length h.cc) rfl;have x1:=(I.out.old b.out).cell 1 (v:=.slice h.so m.st.length h.sc) rfl;have x2:=(I.out.old b.out).cell 2 (v:=.slice (some ea) m.me.length h.ec) rfl;have x3:=(I.out.old b.out).cell 3 (v:=.int .i64 m.sel) rfl;clear n y aq aI h0 h1
     go_upto_region 9 with fail
     refine rO (Cs [(⟨w.heap.size,0,none⟩,.slice h.co m.cl.length h.cc),(⟨w.heap.size,1,none⟩,.slice h.so m.st.length h.sc),(⟨w.heap.size,2,none⟩,.slice (some ea) m.me.length h.ec),(⟨w.heap.size,3,none⟩,.int .i64 m.sel),(_,.int .i64 U)]) (oL [0,1,2,3,4,5,6,107,108,9]) ⟨x0,x1,x2,x3,o1,trivial⟩ ?_
     repeat refine pO ?_
     refine oO fun Kv hK=>?_;go_simp;have ae:=Zh b.out.drew;refine (ai.out _ ae.out).mono ?_;rintro e w2 ⟨⟨bo,bc,rfl,ap,-⟩,K⟩;have hown:=ZhI (Zco Y.out) fun q hq=>K.block q ((Zco Y.out).lt q hq).2;have ac:=Zh (Zaf ae.out K);have aE:=Zh (show SlA w2 1 bo ts.length bc (ts.map (Value.int .i64)) by rw [←Zat];exact ap);have aB:=Zh (Cs.keeps (Znz.of K) (show Cs [(⟨w.heap.size,0,none⟩,.slice h.co m.cl.length h.cc),(⟨w.heap.size,1,none⟩,.slice h.so m.st.length h.sc),(⟨w.heap.size,2,none⟩,.slice (some ea) m.me.length h.ec),(⟨w.heap.size,3,none⟩,.int .i64 m.sel),(_,.int .i64 U)] wr.drew from ⟨x0,x1,x2,x3,o1,trivial⟩));refine hK _ _ ⟨aB.out,?_⟩;clear hK Kv K ap x0 x1 x2 x3
     repeat refine pO ?_
     refine oO fun Kv hK=>?_;refine Zej (.tmp 40) (.tmp 47) 34 rfl C.heap.size 3 1 8 Zcq _ zs.length _ rfl hown _ _ _ _ rfl aE.out (by intro u hu;obtain ⟨z,-,rfl⟩:=List.mem_map.1 hu;rfl) (by omega) (by unfold maxLen;omega) ac.out.size ?_;intro ao1 cap1 aN f E;have HO9:=Zh f;have HB9:=Zh (ZcV ac.out E (fun j L=>(hown.lt j L).1));refine hK _ _ ⟨?_,?_⟩
     ·have q:=ZaA (HK.out _ HB9.out) hjl;rw [←ag.out] at q;obtain ⟨aH,aa,-,o4,-⟩:=q;cases aa;exact ⟨(I.out.old HB9.out).cell 0 rfl,(I.out.old HB9.out).cell 1 rfl,(I.out.old HB9.out).cell 2 rfl,(I.out.old HB9.out).cell 3 rfl,o4,trivial⟩
     clear hK Kv f E hown
     repeat refine pO ?_
     refine Zd5 ?_;go_wp2;exact j10
    ·have HY:=Zh (show Zn7 m (cdM m k) (j+1)=zs by rw [n];unfold Zn6;rw [if_neg h25,if_neg J,List.append_nil]);clear n y;go_wp2
     all_goals
      go_roundw
      case rel=>exact ⟨j+1,Z,r,by omega,by go_num,by rw [HY.out],(by rw [HY.out];exact Y.out),b.out⟩
      case measure=>simp [intOf];omega
  ·obtain rfl:j=(cdM m k).length:=by omega
   have D:Zn8 m k=ZaM (Zn7 m (cdM m k) (cdM m k).length):=rfl;generalize Zn7 m (cdM m k) (cdM m k).length=zs at Y X D ⊢;have V:=Zh D;have hr:Zar wr Z r zs:=Zar.of_own (by rw [Zat];exact Y.out);have HR:=Zh hr;clear D hr
   go_wp2_with fail
   refine (Zek zs Z r _ HR.out (by omega)).mono ?_;rintro e1 w1 ⟨⟨ao1,cap1,rfl,G⟩,an⟩;have ah:=Zh G;have aA:=Zh an;clear G an;go_wp2;go_ret;refine ⟨⟨ao1,cap1,by rw [V.out];rfl,?_,fun a ha=>?_⟩,?_⟩
   ·rw [V.out];exact Zar.of_own (by rw [Zat];exact ah.out)
   ·subst ha;have h1:=(ah.out.lt a.block rfl).1;have h2:=HB.out.size;have h3:=b.out.size;omega
   ·exact Zaf HB.out (Zaf b.out aA.out)
end
