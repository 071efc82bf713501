/- Joined texts. The first: bound: a weigher in memory; what it knows; the stretches that it goes through. -/
import Derived.Test.YtcfjblcgceednaaGreatR24
import Derived.Test.YtcfjblcgceednaaGreatG22
set_option linter.all false
set_option linter.unusedVariables false
set_option linter.unusedSimpArgs false
set_option maxRecDepth 100000
set_option maxHeartbeats 8000000
namespace Go.Proofs.YtcfjblcgceednaaGreat
theorem j1{p:Prop}(h:p:=by
 go_enter Tryz.func220,Tryz.ntmps220
 go_wp2_with (first
  | (go_at_call 295;refine (HV.out _).mono ?_;rintro e w1 ⟨rfl,hb1⟩;have HX1:=Zh (HX.out.old hb1);have HB1:=Zh (Zaf HB0.out hb1);have x0:=HX1.out.cell 0 (v:=.int .i64 k) rfl;clear hb1)
  | (go_at_call 296;refine (HK.out _).mono ?_;rintro e w2 ⟨rfl,hb2⟩;have HX2:=Zh (HX1.out.old hb2);have HB2:=Zh (Zaf HB1.out hb2);clear x0;have x0:=HX2.out.cell 0 (v:=.int .i64 k) rfl;have x1:=HX2.out.cell 1 (v:=.int .i64 a) rfl;have xl:=HX2.out.lt;clear hb2))
 all_goals first
  | (exfalso;simp at *;omega)
  | (go_ret2;exact ZcT (by rw [HQ.out];rfl) (bal HB2.out _))):p:=h
theorem j7{p:Prop}(h:p:=by
 go_wp2
 all_goals
  go_ret
  exact ZcT (ZcY (by rw [←HQ.out];unfold ZmS ZmR;omega)) bE):p:=h
theorem j8{p:Prop}(h:p:=by
 go_wp2
 all_goals
  go_ret
  exact ZcT (ZcY (by rw [←HQ.out];unfold ZmT ZmR;omega)) bE):p:=h
section
open Go.RowKit
def Zn8 (w w':World):Prop:=∀ p v,w.cell? p=some v→w'.cell? p=some v
theorem Zn8.refl (w:World):Zn8 w w:=fun _ _ h=>h
theorem Zn8.trans {a b c:World} (h:Zn8 a b) (k:Zn8 b c):Zn8 a c:=fun p v q=>k p v (h p v q)
theorem Zn8.of {a b:World} (h:Below a.heap.size a b):Zn8 a b:=fun _ _ hc=>(h.cell (Zac hc)).trans hc
theorem Zn9 {α:Type} [Cells α] {w w':World}{ao:Option Addr}{c:Nat}{L:List α} (h:Zar w ao c L) (hk:Zn8 w w'):Zar w' ao c L:=
 ⟨h.1,h.2.1,fun j u hu=>by obtain ⟨a,ha,hc⟩:=h.2.2 j u hu;exact ⟨a,ha,hk _ _ hc⟩⟩
theorem Zay.keeps {w w':World}{h:Hd}{m:Md} (H:Zay w h m) (hk:Zn8 w w'):Zay w' h m:=
 ⟨Zn9 H.cl hk,Zn9 H.st hk,Zn9 H.me hk,fun i hi=>Zn9 (H.f i hi) hk,fun i hi=>Zn9 (H.t i hi) hk,fun i hi=>Zn9 (H.p i hi) hk,fun i hi=>Zn9 (H.l i hi) hk,fun i hi=>Zn9 (H.k i hi) hk,H.bf,H.bm,H.bz⟩
theorem Nds.keeps {w w':World}{l:List In3}{P:Nat→Prop}{a b:Nat}{r:List VN} (h:Nds w l P a b r) (hk:Zn8 w w'):Nds w' l P a b r:=h.keep fun _ _ _ h1 h2=>⟨Zn9 h1 hk,h2⟩
theorem Cs.keeps {w w':World} (hk:Zn8 w w'):∀ {l:List (Addr × Value)},Cs l w→Cs l w'
 | [],_=>trivial
 | (_,_) :: _,h=>⟨hk _ _ h.1,Cs.keeps hk h.2⟩
def IsMap (w:World) (M:Nat):Prop:=∃ es c,w.heap[M]?=some (.map es c)
theorem Zn8.upd {w w':World}{M:Nat} (hm:IsMap w M) (hu:Upd M M w w'):Zn8 w w':=fun p v hc=>by
 obtain ⟨es,c,hm⟩:=hm
 have hne:p.block≠M:=fun e=>by unfold World.cell? at hc;rw [e,hm] at hc;simp at hc
 exact (World.cell?_of_block (w:=w) (hu.block _ (Zac hc) hne hne)).trans hc
theorem Zoa:∀ (n:Nat) (l:List Nat),l.Nodup→(∀ k∈l,k<n)→l.length≤n
 |0,l,_,h=>by
  cases l with
  | nil=>simp
  | cons x r=>have:=h x (by simp);omega
 |n+1,l,hn,h=>by
  have h1:=Zoa n (l.filter fun x=>decide (x≠n)) (hn.filter _) (fun k hk=>by simp at hk;have:=h k hk.1;omega)
  have h2:∀ l:List Nat,l.Nodup→l.length≤(l.filter fun x=>decide (x≠n)).length+1:=by
   intro l
   induction l with
   | nil=>intro _;simp
   |cons x r ih=>
    intro hr
    rw [List.nodup_cons] at hr
    by_cases hx:x=n
    ·have:r.filter (fun x=>decide (x≠n))=r:=List.filter_eq_self.2 fun y hy=>by
      have:y≠n:=fun e=>hr.1 (by rw [hx,←e];exact hy)
      simp [this]
     rw [List.filter_cons_of_neg (by simp [hx]),this];simp
    ·have:=ih hr.2
     rw [List.filter_cons_of_pos (by simp [hx])];simp only [List.length_cons];omega
  have:=h2 l hn
  omega
def KnM (T:Nat→Int) (w:World) (M:Nat) (Q:Nat→Prop):Prop:=∃ (K:List Nat) (D:DataW Unit),K.Nodup∧(∀ k∈K,k<16∧Q k)∧w.ownsMap Tryz.prog 3 (plainElem Tryz.prog 3) M K.length D∧Maps.IsMap D∧(∀ k:Nat,Maps.has D (.int .i64 k)=decide (k∈K))∧∀ k∈K,D.atKey (.int .i64 k) (.lit (.int .i64 0))=.lit (.int .i64 (T k))
theorem KnM.map {T:Nat→Int}{w:World}{M:Nat}{Q:Nat→Prop} (H:KnM T w M Q):IsMap w M:=by
 obtain ⟨K,D,_,_,⟨es,c,h,_⟩,_⟩:=H
 exact ⟨es,c,h⟩
theorem KnM.eq {T:Nat→Int}{w w':World}{M:Nat}{Q:Nat→Prop} (H:KnM T w M Q) (h:w'.heap[M]?=w.heap[M]?):KnM T w' M Q:=by
 obtain ⟨K,D,h1,h2,⟨es,c,h3,h4⟩,h5⟩:=H
 exact ⟨K,D,h1,h2,⟨es,c,h.trans h3,h4⟩,h5⟩
theorem IsMap.lt {w:World}{M:Nat} (H:IsMap w M):M<w.heap.size:=by
 obtain ⟨es,c,h⟩:=H
 exact (Array.getElem?_eq_some_iff.1 h).1
theorem KnM.old {T:Nat→Int}{w w':World}{M:Nat}{Q:Nat→Prop} (H:KnM T w M Q) (hb:Below w.heap.size w w'):KnM T w' M Q:=H.eq (hb.block M H.map.lt)
theorem KnM.weak {T:Nat→Int}{w:World}{M:Nat}{Q R:Nat→Prop} (H:KnM T w M Q) (h:∀ k,Q k→R k):KnM T w M R:=by
 obtain ⟨K,D,h1,h2,h3⟩:=H
 exact ⟨K,D,h1,fun k hk=>⟨(h2 k hk).1,h k (h2 k hk).2⟩,h3⟩
theorem KnM.put {T:Nat→Int}{w:World}{M k:Nat}{Q:Nat→Prop} (H:KnM T w M Q) (hk:¬ Q k) (h16:k<16):∃ (n:Nat) (D:DataW Unit),w.ownsMap Tryz.prog 3 (plainElem Tryz.prog 3) M n D∧n≤16∧∀ (w':World) (R:Nat→Prop),(∀ j,Q j∨j=k→R j)→w'.ownsMap Tryz.prog 3 (plainElem Tryz.prog 3) M (n+1) (D.put (.int .i64 k) (.lit (.int .i64 (T k))))→KnM T w' M R:=by
 obtain ⟨K,D,h1,h2,h3,h4,h5,h6⟩:=H
 refine ⟨K.length,D,h3,Zoa 16 K h1 fun j hj=>(h2 j hj).1,fun w' R hR hw=>⟨k :: K,_,List.nodup_cons.2 ⟨fun e=>hk (h2 k e).2,h1⟩,fun j hj=>?_,hw,h4.put _ _,fun j=>?_,fun j hj=>?_⟩⟩
 ·rcases List.mem_cons.1 hj with rfl|e
  ·exact ⟨h16,hR _ (.inr rfl)⟩
  ·exact ⟨(h2 j e).1,hR _ (.inl (h2 j e).2)⟩
 ·by_cases e:j=k
  ·subst e;rw [Maps.has_put_same (k:=.int .i64 j) h4 trivial];simp
  ·rw [Maps.has_put_other (by intro q;cases q;omega),h5];simp [e]
 ·by_cases e:j=k
  ·subst e;exact Maps.atKey_put_same (k:=.int .i64 j) h4 trivial _ _
  ·rw [Maps.atKey_put_other (by intro q;cases q;omega)]
   exact h6 j ((List.mem_cons.1 hj).resolve_left e)
theorem Zob {w:World}{B M:Nat}{xs:Array Value}{t:TypeId} (h:Blk w B xs t) (hm:IsMap w M):B≠M:=by
 rintro rfl
 obtain ⟨es,c,hm⟩:=hm
 unfold Blk at h
 rw [h] at hm
 cases hm
structure Zoc (w:World) (B M:Nat) (h:Hd) (m:Md) (F:Value) (sc:Bool) (T:Nat→Int) (Q:Nat→Prop):Prop where
 wk:Blk w B #[.slice h.co m.cl.length h.cc,.slice h.so m.st.length h.sc,.slice h.eo m.me.length h.ec,.int .i64 m.sel,F,.bool sc,.map (some M)] 147
 md:Zay w h m
 kn:KnM T w M Q
def Zod (w:World) (M:Nat) (T:Nat→Int) (Q:Nat→Prop) (v:Int):Ending→World→Prop:=fun e w'=>e=.returned (.int .i64 v)∧Upd M M w w'∧KnM T w' M Q
section
variable {w w':World}{B M:Nat}{h:Hd}{m:Md}{F:Value}{sc:Bool}{T:Nat→Int}{Q R:Nat→Prop}
section
variable (H:Zoc w B M h m F sc T Q)
include H
theorem Zoc.keeps (hu:Upd M M w w'):Zn8 w w':=Zn8.upd H.kn.map hu
theorem Zoc.next (hu:Upd M M w w') (hn:KnM T w' M R):Zoc w' B M h m F sc T R:=
 ⟨(hu.block B (Blk.lt H.wk) (Zob H.wk H.kn.map) (Zob H.wk H.kn.map)).trans H.wk,H.md.keeps (H.keeps hu),hn⟩
theorem Zoc.old (hb:Below w.heap.size w w'):Zoc w' B M h m F sc T Q:=H.next (.of hb) (H.kn.old hb)
theorem Zoc.drew:Zoc w.drew B M h m F sc T Q:=⟨H.wk,H.md.keeps (fun _ _ h=>h),H.kn.eq rfl⟩
end
theorem Zod.bel {W:World}{v:Int}{e:Ending} (H:Zod w M T Q v e w') (hb:Below W.heap.size W w):Zod W M T Q v e w':=⟨H.1,(Upd.of hb).trans H.2.1,H.2.2⟩
end
def Bd (n:Int):Prop:=0≤n∧n≤1000000001
theorem Zoe {a b:Int} (ha:Bd a) (hb:Bd b):Bd (ZmS a b):=by unfold Bd ZmS ZmR at *;omega
theorem Zof {a b:Int} (ha:0≤a) (hb:Bd b):Bd (ZmT a b):=by
 have:=Int.mul_nonneg ha hb.1
 unfold Bd ZmT ZmR at *
 omega
theorem Zog {a b:Int} (ha:Bd a) (hb:Bd b):Bd (max a b):=by unfold Bd at *;omega
theorem Zoh {T:Int→Int}{l:List Int} (h:∀ t∈l,Bd (T t)):Bd (ZmW T l):=by
 unfold ZmW
 have:∀ (l:List Int) (a:Int),Bd a→(∀ t∈l,Bd (T t))→Bd (l.foldl (fun a t=>max a (T t)) a):=by
  intro l
  induction l with
  | nil=>intro a ha _;exact ha
  | cons x r ih=>intro a ha h;exact ih _ (Zog ha (h x (by simp))) fun t ht=>h t (by simp [ht])
 exact this l 0 (by unfold Bd;omega) h
section
variable {x:Ms}{m:Md}{T:Int→Int}{l:List In3} (hw:∀ i∈l,0≤x.wt i∧x.wt i≤1000) (ht:0≤x.tl∧x.tl≤1000) (hT:∀ t,Bd (T t)) (ha:∀ i∈l,i.op≠1→0≤i.a)
include hw ht hT ha
theorem Zoi:∀ i∈l,Bd ((gW x m T).pl i):=fun i hi=>by
 have h1:=hw i hi
 have hb:Bd (x.wt i):=by unfold Bd;omega
 show Bd (if i.op=25 then _ else if i.op=26 then _ else _)
 split
 ·exact Zoe hb (hT _)
 ·split
  ·exact Zoe hb (Zoh fun t _=>hT t)
  ·exact hb
theorem Zoj:∀ i∈l,∀ f s,Bd f→Bd s→Bd ((gW x m T).brk i f s):=fun i hi f s hf hs=>by
 have h1:=hw i hi
 have hb:Bd (x.wt i):=by unfold Bd;omega
 have htl:Bd x.tl:=by unfold Bd;omega
 show Bd (if i.op=29 then _ else if i.op=30 then _ else if i.op=32∧x.sc=true then _ else if i.op=33 then _ else _)
 split
 ·exact Zoe hb (Zog (Zoe hf htl) (Zoe hs htl))
 ·split
  ·exact Zoe hb (Zof (ha i hi (by omega)) (Zoe hf htl))
  ·split
   ·exact hb
   ·split
    ·exact Zoe hb (Zoe (Zoe hf htl) hs)
    ·exact Zoe hb (Zoe hf htl)
theorem Zok {a b:Nat} (hs:Seg l a b):∀ acc,Bd acc→Bd (WA (gW x m T) l a b acc):=by
 have hm:∀ k,k<l.length→l.getD k default∈l:=fun k hk=>ZfU _ hk
 have hpl:=Zoi (m:=m) hw ht hT ha
 have hbr:=Zoj (m:=m) hw ht hT ha
 have h0:Bd 0:=by unfold Bd;omega
 induction hs with
 | nil a h=>intro acc hacc;rw [Zmv];exact hacc
 | pl a b q1 q2 q3 q4 q5 ih=>intro acc hacc;rw [Zmw q2 q5];exact ih _ (Zoe hacc (hpl _ (hm a q1)))
 | one a en b q1 q2 q3 i1 i2=>intro acc hacc;rw [Zmx q1 q2 q3];exact i2 _ (Zoe hacc (hbr _ (hm a q1.1) _ _ (i1 _ h0) h0))
 | two a n en b q1 q2 q3 q4 i1 i2 i3=>intro acc hacc;rw [Zmy q1 q2 q3 q4];exact i3 _ (Zoe hacc (hbr _ (hm a q1.1) _ _ (i1 _ h0) (i2 _ h0)))
end
inductive Zol (w:World) (l:List In3) (p:Nat):VN→Nat→Prop
 | pl:p<l.length→ZaR (l.getD p default).op=false→Zol w l p ⟨p,-1,-1,none,0,0,none,0,0⟩ (p+1)
 | one (en:Nat) (fo:Option Addr) (fc:Nat) (F:List VN):Mat l p (-1) en→Zar w fo fc F→Nds w l (fun _=>True) (p+1) en F→Zol w l p ⟨p,-1,en,fo,F.length,fc,none,0,0⟩ (en+1)
 | two (n en:Nat) (fo so:Option Addr) (fc sc:Nat) (F S:List VN):Mat l p n en→Zar w fo fc F→Nds w l (fun _=>True) (p+1) n F→Zar w so sc S→Nds w l (fun _=>True) (n+1) en S→Zol w l p ⟨p,n,en,fo,F.length,fc,so,S.length,sc⟩ (en+1)
def Zom (g:Wg) (l:List In3) (p:Nat) (x:VN):Int:=if ZaR (l.getD p default).op=true then g.brk (l.getD p default) (WA g l (p+1) (if x.alt<0 then x.en.toNat else x.alt.toNat) 0) (if x.alt<0 then 0 else WA g l (x.alt.toNat+1) x.en.toNat 0) else g.pl (l.getD p default)
theorem Zon {w:World}{l:List In3}{p b:Nat}{x:VN}{r:List VN} (H:Nds w l (fun _=>True) p b (x :: r)) (g:Wg):∃ p',Zol w l p x p'∧Nds w l (fun _=>True) p' b r∧p<p'∧p'≤b∧∀ acc,WA g l p b acc=WA g l p' b (g.plus acc (Zom g l p x)):=by
 cases H with
 | pl _ _ _ h1 h2 h3 h4 h5=>exact ⟨p+1,.pl h1 h2,h5,by omega,by have:=(h5.le).1;omega,fun acc=>by rw [Zmw h2 h5.seg];unfold Zom;rw [if_neg (by rw [h2];decide)]⟩
 |one _ en _ fo fc F _ h1 h2 h3 h4 h5=>
  refine ⟨en+1,.one en fo fc F h1 h2 h4,h5,by have:=ZbI h1;omega,by have:=(h5.le).1;omega,fun acc=>?_⟩
  rw [Zmx h1 h4.seg h5.seg]
  unfold Zom
  rw [if_pos (show ZaR (l.getD p default).op=true from h1.2.1)]
  dsimp only
  rw [if_pos (show (-1:Int) < 0 by decide),if_pos (show (-1:Int) < 0 by decide)]
  rfl
 |two _ n en _ fo so fc sc F S _ h1 h2 h3 h4 h5 h6 h7 h8=>
  refine ⟨en+1,.two n en fo so fc sc F S h1 h2 h4 h5 h7,h8,by have:=ZbI h1;omega,by have:=(h8.le).1;omega,fun acc=>?_⟩
  rw [Zmy h1 h4.seg h7.seg h8.seg]
  unfold Zom
  have hn:¬ (n:Int) < 0:=by omega
  rw [if_pos (show ZaR (l.getD p default).op=true from h1.2.1)]
  dsimp only
  rw [if_neg hn,if_neg hn,Int.toNat_natCast,Int.toNat_natCast]
theorem Zoo {w:World}{x:Ms}{m:Md}{T:Int→Int}{l:List In3} (hw:∀ i∈l,0≤x.wt i∧x.wt i≤1000) (ht:0≤x.tl∧x.tl≤1000) (hT:∀ t,Bd (T t)) (ha:∀ i∈l,i.op≠1→0≤i.a) {p p':Nat}{y:VN} (H:Zol w l p y p'):Bd (Zom (gW x m T) l p y):=by
 have hm:∀ k,k<l.length→l.getD k default∈l:=fun k hk=>ZfU _ hk
 have h0:Bd 0:=by unfold Bd;omega
 unfold Zom
 cases H with
 | pl h1 h2=>rw [if_neg (by rw [h2];decide)];exact Zoi hw ht hT ha _ (hm p h1)
 |one en fo fc F h1 h2 h3=>
  rw [if_pos (show ZaR (l.getD p default).op=true from h1.2.1)]
  dsimp only
  rw [if_pos (show (-1:Int) < 0 by decide),if_pos (show (-1:Int) < 0 by decide)]
  exact Zoj hw ht hT ha _ (hm p h1.1) _ _ (Zok hw ht hT ha h3.seg _ h0) h0
 |two n en fo so fc sc F S h1 h2 h3 h4 h5=>
  have hn:¬ (n:Int) < 0:=by omega
  rw [if_pos (show ZaR (l.getD p default).op=true from h1.2.1)]
  dsimp only
  rw [if_neg hn,if_neg hn]
  exact Zoj hw ht hT ha _ (hm p h1.1) _ _ (Zok hw ht hT ha h3.seg _ h0) (Zok hw ht hT ha h5.seg _ h0)
theorem Zol.keeps {w w':World}{l:List In3}{p p':Nat}{x:VN} (H:Zol w l p x p') (hk:Zn8 w w'):Zol w' l p x p':=by
 cases H with
 | pl h1 h2=>exact .pl h1 h2
 | one en fo fc F h1 h2 h3=>exact .one en fo fc F h1 (Zn9 h2 hk) (h3.keeps hk)
 | two n en fo so fc sc F S h1 h2 h3 h4 h5=>exact .two n en fo so fc sc F S h1 (Zn9 h2 hk) (h3.keeps hk) (Zn9 h4 hk) (h5.keeps hk)
end
section
open Go.RowKit
theorem Zop (a b:Int) (w:World) (ha:0≤a∧a≤1000000001) (hb:0≤b∧b≤1000000001):Calls Tryz.prog 160 #[.int .i64 a,.int .i64 b] w (Ret w (.int .i64 (ZmS a b))):=by
 obtain ⟨a0,a1⟩:=ha
 obtain ⟨b0,b1⟩:=hb
 generalize hq:ZmS a b=q
 have HQ:=Zh hq
 clear hq
 go_enter Tryz.func160,Tryz.ntmps160
 exact j7
theorem Zoq (a b:Int) (w:World) (ha:0≤a∧a≤1000) (hb:0≤b∧b≤1000000001):Calls Tryz.prog 219 #[.int .i64 a,.int .i64 b] w (Ret w (.int .i64 (ZmT a b))):=by
 obtain ⟨a0,a1⟩:=ha
 obtain ⟨b0,b1⟩:=hb
 have h1:0≤a*b:=Int.mul_nonneg a0 b0
 have h2:a*b≤1000*1000000001:=Int.mul_le_mul a1 b1 b0 (by decide)
 have h3:IntKind.i64.wrap (a*b)=a*b:=IntWalk.i64_in _ (by omega)
 have H3:=Zh h3
 generalize hq:ZmT a b=q
 have HQ:=Zh hq
 clear hq
 go_enter Tryz.func219,Tryz.ntmps219
 exact j8
theorem Zor (n:Int) (w:World):Calls Tryz.prog 105 #[.int .i64 n] w (Ret w (.tuple #[.int .i64 (if 1000000000<n then 0 else n),.int .i64 (if 1000000000<n then 6 else 0)])):=by
 by_cases h:1000000000<n
 all_goals
  first|rw [if_pos h,if_pos h]|rw [if_neg h,if_neg h]
  go_enter Tryz.func105,Tryz.ntmps105
  go_wp2
  go_ret2
  exact ZcT rfl bE
theorem Zos (k:Nat):opC.getD k 0≤12:=by
 by_cases h:k<36
 ·have:∀ i,i<36→opC.getD i 0≤12:=by decide
  exact this k h
 ·rw [List.getD_eq_getElem?_getD,List.getElem?_eq_none (by simp only [opC,List.length_cons,List.length_nil];omega)]
  simp
theorem Zot {p:Bool}{i:In3} (h:ZaQ p i=true):0≤i.op∧i.op<36:=by
 unfold ZaQ at h
 simp only [Bool.and_eq_true,decide_eq_true_eq] at h
 omega
theorem Zou (i:In3) (w:World) (hv:ZaQ false i=true) (ha:i.op=15∨i.op=16→0≤i.a∧i.a≤1000):Calls Tryz.prog 220 #[.agg #[.int .i64 i.op,.int .i64 i.a,.int .i64 i.b]] w (Ret w (.tuple #[.int .i64 (ZmU i),.int .i64 0])):=by
 have hop:=Zot hv
 have HV:=Zh (Zdi i false)
 rw [hv] at HV
 obtain ⟨op,a,b⟩:=i
 dsimp only at hop HV ha
 obtain ⟨k,rfl⟩:∃ k:Nat,op=k:=⟨op.toNat,by omega⟩
 have hk:k<36:=by omega
 have HK:=Zh (Zde k hk)
 have hc:ZmU ⟨k,a,b⟩=((opC.getD k 0:Nat):Int)+if (k:Int)=15∨(k:Int)=16 then a else 0:=by unfold ZmU;rw [Int.toNat_natCast]
 have hle:=Zos k
 generalize ZmU ⟨k,a,b⟩=q at hc ⊢
 generalize opN.getD k default=n0 at HK
 generalize ((opA.getD k 0:Nat):Int)=n1 at HK
 generalize ((opB.getD k 0:Nat):Int)=n2 at HK
 generalize opC.getD k 0=n3 at HK hc hle
 have HQ:=Zh hc
 have HX:=Zh (Blk.new w #[.int .i64 k,.int .i64 a,.int .i64 b] 78)
 have hb0:Below w.heap.size w (w.alloc (.cells #[.int .i64 k,.int .i64 a,.int .i64 b] 78)):=by exact bE
 have HB0:=Zh hb0
 clear hc hv hb0
 by_cases h:(k:Int)=15∨(k:Int)=16
 ·obtain ⟨a0,a1⟩:=ha h
  rw [if_pos h] at HQ
  exact j1
 ·rw [if_neg h,Int.add_zero] at HQ
  clear ha
  exact j1
end
section
open Go.RowKit
theorem Zov {w:World}{ao:Option Addr}{cap:Nat}{l:List VN} (h:Zar w ao cap l) {i:Nat} (hi:i<l.length):∃ ad,ao=some ad ∧
  w.cell? (ad.add (i*5))=some (.int .i64 (l.getD i default).at_)∧w.cell? ⟨(ad.add (i*5)).block,(ad.add (i*5)).off+1,none⟩=some (.int .i64 (l.getD i default).alt)∧w.cell? ⟨(ad.add (i*5)).block,(ad.add (i*5)).off+2,none⟩=some (.int .i64 (l.getD i default).en) ∧
  w.cell? ⟨(ad.add (i*5)).block,(ad.add (i*5)).off+3,none⟩=some (.slice (l.getD i default).fo (l.getD i default).fn (l.getD i default).fc)∧w.cell? ⟨(ad.add (i*5)).block,(ad.add (i*5)).off+4,none⟩=some (.slice (l.getD i default).so (l.getD i default).sn (l.getD i default).sc):=by
 obtain ⟨ad,ha⟩:=h.some (by omega)
 subst ha
 have hx:l.getD i default=l[i]:=by simp [hi]
 rw [hx]
 exact ⟨ad,rfl,h.cell hi 0 rfl,h.cell hi 1 rfl,h.cell hi 2 rfl,h.cell hi 3 rfl,h.cell hi 4 rfl⟩
def cdM (m:Md) (k:Nat):List In3:=(m.me.getD k default).k
def gT (x:Ms) (m:Md) (T:Nat→Int):Wg:=gW x m fun t=>T t.toNat
structure Wkr (x:Ms) (m:Md) (T:Nat→Int) (g:Nat) (caps:Array Value) (W0:World):Prop where
 hm:Za1 m=true
 wt:∀ k,k<m.me.length→∀ i∈(cdM m k),0≤x.wt i∧x.wt i≤1000
 tl:0≤x.tl∧x.tl≤1000
 te:∀ i:In3,i.op=35→x.wt i=x.tl
 bd:∀ k,Bd (T k)
 eq:∀ k,k<m.me.length→T k=WA (gT x m T) (cdM m k) 0 (cdM m k).length 0
 cf:∀ A W,(callFunc g (A++caps)).run Tryz.prog W=.ok (.enter g (A++caps)) W
 fn:∀ k,k<m.me.length→∀ i∈(cdM m k),∀ w',Zn8 W0 w'→Calls Tryz.prog g (#[.agg #[.int .i64 i.op,.int .i64 i.a,.int .i64 i.b]]++caps) w' (Ret w' (.int .i64 (x.wt i)))
def Zow (x:Ms) (B M:Nat) (h:Hd) (m:Md) (T:Nat→Int) (g:Nat) (caps:Array Value) (W0:World) (k:Nat):Prop:=∀ w Q,Zoc w B M h m (.func (Fn.func g) #[] caps) x.sc T Q→Zn8 W0 w→Calls Tryz.prog 110 #[.pointer (some ⟨B,0,none⟩),.int .i64 k] w (Zod w M T (fun j=>Q j∨j<k+1) (T k))
def Zox (x:Ms) (B M:Nat) (h:Hd) (m:Md) (T:Nat→Int) (g:Nat) (caps:Array Value) (W0:World) (k a b:Nat):Prop:=∀ w Q ro rc rows,Zoc w B M h m (.func (Fn.func g) #[] caps) x.sc T Q→Zn8 W0 w→Zar w ro rc rows→Nds w (cdM m k) (fun _=>True) a b rows →
 Calls Tryz.prog 161 #[.pointer (some ⟨B,0,none⟩),.int .i64 k,.slice ro rows.length rc] w (Zod w M T (fun j=>Q j∨j<k) (WA (gT x m T) (cdM m k) a b 0))
def Zoy (x:Ms) (B M:Nat) (h:Hd) (m:Md) (T:Nat→Int) (g:Nat) (caps:Array Value) (W0:World) (k p:Nat) (y:VN) (p':Nat):Prop:=∀ w Q,Zoc w B M h m (.func (Fn.func g) #[] caps) x.sc T Q→Zn8 W0 w→Zol w (cdM m k) p y p' →
 Calls Tryz.prog 223 #[.pointer (some ⟨B,0,none⟩),.int .i64 k,.agg #[.int .i64 y.at_,.int .i64 y.alt,.int .i64 y.en,.slice y.fo y.fn y.fc,.slice y.so y.sn y.sc]] w (Zod w M T (fun j=>Q j∨j<k) (Zom (gT x m T) (cdM m k) p y))
section
variable {x:Ms}{B M:Nat}{h:Hd}{m:Md}{T:Nat→Int}{g:Nat}{caps:Array Value}{W0:World}{k:Nat}
section
variable (H:Wkr x m T g caps W0)(hk:k<m.me.length)
include H hk
theorem Wkr.ok:ZfM m k:=ZfN H.hm hk
theorem Wkr.code:ZaV false (cdM m k)=0:=by
 have hm:=H.ok hk
 unfold ZaV
 unfold cdM
 rw [if_neg (by have:=hm.z;omega),if_pos (List.all_eq_true.2 fun i hi=>(hm.i i hi).1),hm.n]
 rfl
theorem Wkr.opd {i:In3} (hi:i∈(cdM m k)):ZfR m k i:=ZfS ((H.ok hk).i i hi).1 ((H.ok hk).i i hi).2
theorem Wkr.bdW {a b:Nat} (hs:Seg (cdM m k) a b) {acc:Int} (ha:Bd acc):Bd (WA (gT x m T) (cdM m k) a b acc):=
 Zok (H.wt k hk) H.tl (fun _=>H.bd _) (fun i hi=>(H.opd hk hi).a0) hs _ ha
end
theorem Zoz (HW:Wkr x m T g caps W0) (hk:k<m.me.length) {a b:Nat} (hn:∀ p y p',a≤p→p<p'→p'≤b→Zoy x B M h m T g caps W0 k p y p'):Zox x B M h m T g caps W0 k a b:=by
 intro w Q ro rc rows H hk0 hr hnd
 have hle:=hnd.le
 have hc:(cdM m k).length≤120:=(HW.ok hk).z.2.2
 have HNo:=Zh hn
 have HH:=Zh H
 have HK:=Zh hk0
 have HR:=Zh hr
 have HD:=Zh hnd
 have HWk:=Zh HW
 have hlen:rows.length≤120:=by omega
 clear hn H hk0 hr hnd hle hc
 go_enter Tryz.func161,Tryz.ntmps161
 go_wp2
 go_loopw [7,12] (fun s i wr=>∃ (j p:Nat) (sv:Int),i=.int .i64 j∧s=.int .i64 sv∧j≤rows.length∧Hid (a≤p∧Bd sv∧Nds wr (cdM m k) (fun _=>True) p b (rows.drop j)∧WA (gT x m T) (cdM m k) a b 0=WA (gT x m T) (cdM m k) p b sv)∧Hid (Upd M M w wr)∧Hid (KnM T wr M fun j=>Q j∨j<k)) (fun _ i _=>rows.length-(intOf i).toNat)
 case atStart=>exact ⟨0,a,0,rfl,rfl,Nat.zero_le _,⟨Nat.le_refl _,by unfold Bd;omega,HD.out,rfl⟩,Upd.refl _ _ _,HH.out.kn.weak fun _ h=>.inl h⟩
 case round=>
  obtain ⟨j,p,sv,rfl,rfl,hj,HS,HU,HN⟩:=hrel
  have HHr:=Zh (HH.out.next HU.out HN.out)
  have HKr:=Zh (HK.out.trans (HH.out.keeps HU.out))
  by_cases hjl:j<rows.length
  ·obtain ⟨hap,hsv,hnd,hwa⟩:=HS.out
   have hdr:rows.drop j=rows.getD j default :: rows.drop (j+1):=by
    rw [List.drop_eq_getElem_cons hjl];simp [hjl]
   rw [hdr] at hnd
   obtain ⟨p',hit,hnd',hpp,hpb,hwa'⟩:=Zon hnd (gT x m T)
   obtain ⟨ad,rfl,c0,c1,c2,c3,c4⟩:=Zov (Zn9 HR.out (HH.out.keeps HU.out)) hjl
   obtain ⟨y,hy⟩:∃ y,y=rows.getD j default:=⟨_,rfl⟩
   rw [←hy] at hit hwa' c0 c1 c2 c3 c4
   have hbv:Bd (Zom (gT x m T) (cdM m k) p y):=Zoo (HWk.out.wt k hk) HWk.out.tl (fun _=>HWk.out.bd _) (fun i hi=>(HWk.out.opd hk hi).a0) hit
   obtain ⟨v,hv⟩:∃ v,v=Zom (gT x m T) (cdM m k) p y:=⟨_,rfl⟩
   have HC:=Zh (HNo.out p y p' hap hpp hpb)
   unfold Zoy at HC
   rw [←hv] at HC hwa' hbv
   obtain ⟨ya,yl,ye,yf,yfn,yfc,ys,ysn,ysc⟩:=y
   dsimp only at c0 c1 c2 c3 c4 HC
   have HIt:=Zh (And.intro hit (And.intro hnd' (And.intro hbv (And.intro hsv (And.intro hpp hpb)))))
   have HWa:=Zh (hwa.trans (hwa' sv))
   have hl0:=Zac c0
   have hjl2:(j:Int) < rows.length:=by omega
   have hwj:IntKind.i64.wrap ((j:Int)+1)=((j+1:Nat):Int):=IntWalk.i64_in _ (by omega)
   clear hit hnd hnd' hwa hwa' hy hdr hv hbv hsv
   go_wp2_with (first
    | (go_at_call 223;refine (HC.out _ _ (HHr.out.old bE) (HKr.out.trans (Zn8.of bE)) (HIt.out.1.keeps (Zn8.of bE))).mono ?_;rintro e w2 ⟨rfl,hu2,hn2⟩;have HU2:=Zh ((HU.out.alloc _).trans hu2);have HN2:=Zh (hn2.weak (R:=fun j=>Q j∨j<k) fun _ h=>h.elim id .inr);have HKk:=Zh (Zn8.upd (HN.out.old bE).map hu2);clear hu2 hn2)
    | (go_at_call 160;refine (Zop _ _ _ HIt.out.2.2.2.1 HIt.out.2.2.1).mono ?_;rintro e w3 ⟨rfl,hb3⟩;have HB3:=Zh hb3;clear hb3))
   have hkk:=(Zn8.of (show Below wr.heap.size wr (wr.alloc (.cells #[.int .i64 ya,.int .i64 yl,.int .i64 ye,.slice yf yfn yfc,.slice ys ysn ysc] 193)) by exact bE)).trans (HKk.out.trans (Zn8.of HB3.out))
   exact ⟨⟨j+1,p',ZmS sv v,rfl,rfl,hjl,⟨by omega,Zoe HIt.out.2.2.2.1 HIt.out.2.2.1,HIt.out.2.1.keeps hkk,HWa.out⟩,HU2.out.bel HB3.out,HN2.out.old HB3.out⟩,by simp [intOf];omega⟩
  ·have hj2:¬ (j:Int) < rows.length:=by omega
   go_wp2
   go_ret
   obtain ⟨-,-,hnd,hwa⟩:=HS.out
   rw [List.drop_eq_nil_iff.2 (by omega)] at hnd
   cases hnd with
   | nil _ _=>exact ⟨by rw [hwa,Zmv];rfl,HU.out,HN.out⟩
theorem ZoA:Go.Maps.Keyed Tryz.prog 3:=Go.Maps.int_keyed Tryz.underlying3
theorem ZoB (w:World):(zeroValue 3).run Tryz.prog w=.ok (.int .i64 0) w:=by kernel_rfl
theorem ZoC {k:Nat} (h:k<1000000):(Lit.int .i64 (k:Int)).wf=true:=WalkArith.wf_i64 (by omega)
theorem ZoD {k:Nat} (h:k<1000000):keyOf Tryz.prog 3 (.int .i64 k)=some (.int .i64 k):=Go.Maps.keyOf_int_mk Tryz.underlying3 (ZoC h)
theorem KnM.look {Q:Nat→Prop}{w:World} (H:KnM T w M Q):∃ (K:List Nat) (D:DataW Unit),w.ownsMap Tryz.prog 3 (plainElem Tryz.prog 3) M K.length D∧(∀ k:Nat,Maps.has D (.int .i64 k)=decide (k∈K))∧(∀ k∈K,D.atKey (.int .i64 k) (.lit (.int .i64 0))=.lit (.int .i64 (T k)))∧∀ k,k ∉ K→KnM T w M fun j=>Q j∧j≠k:=by
 obtain ⟨K,D,h1,h2,h3,h4,h5,h6⟩:=H
 exact ⟨K,D,h3,h5,h6,fun k hk=>⟨K,D,h1,fun j hj=>⟨(h2 j hj).1,(h2 j hj).2,fun e=>hk (e▸hj)⟩,h3,h4,h5,h6⟩⟩
theorem ZoE (HW:Wkr x m T g caps W0) (hk:k<m.me.length) (hl:Zox x B M h m T g caps W0 k 0 (cdM m k).length):Zow x B M h m T g caps W0 k:=by
 intro w Q H hk0
 have h16:k<16:=by have:=(Zin HW.hm).2.1;omega
 obtain ⟨K,D,hown,hhas,hat,hnk⟩:=H.kn.look
 have hhk:=hhas k
 have hT:=HW.eq k hk
 have HH:=Zh H
 have HK0:=Zh hk0
 have HL:=Zh hl
 have HO:=Zh hown
 have HNk:=Zh (hnk k)
 have HAt:=Zh (hat k)
 have HWk:=Zh HW
 have c6:=H.wk.cell 6 (v:=.map (some M)) rfl
 clear H hk0 hl hown hhas hnk hat HW
 by_cases hkK:k∈K
 ·rw [decide_eq_true hkK] at hhk
  have HHk:=Zh hhk
  clear hhk
  go_enter Tryz.func110,Tryz.ntmps110
  go_wp2_with (at_lookup;(refine wpList_lookup_own_ok_int _ rfl _ _ 69 rfl 3 3 .i64 ZoA Tryz.underlying69 Tryz.underlying3 (ZoB _) M K.length D rfl HO.out _ _ rfl (ZoD (by omega)) ?_);intro c hc hwc;rw [HHk.out])
  go_ret
  have:=HAt.out hkK
  rw [this] at hc
  cases hc
  exact ⟨rfl,Upd.refl _ _ _,HH.out.kn.weak fun _ h=>.inl h⟩
 ·rw [decide_eq_false hkK] at hhk
  have HHk:=Zh hhk
  have HN0:=Zh (HNk.out hkK)
  clear hhk
  have hm2:=HH.out.md.mth hk
  obtain ⟨ea,he,-,-,-,-,-,-,e6⟩:=hm2
  have c2:=HH.out.wk.cell 2 (v:=.slice h.eo m.me.length h.ec) rfl
  rw [he] at c2
  clear he
  have hke:=HH.out.md.k k hk
  have HP:=Zh (fun w' hb=>ZmQ (cdM m k) (h.e k).ko (h.e k).kc (HWk.out.code hk) (cdM m k).length 0 (cdM m k).length w' (by omega) (Zar.old hke (w':=w') hb) (Zmq (HWk.out.ok hk).n))
  have hcl:(m.me.getD k default).k.length=(cdM m k).length:=rfl
  rw [hcl] at e6
  have HLn:=Zh (show (cdM m k).length≤120 from (HWk.out.ok hk).z.2.2)
  have hkl:(k:Int) < m.me.length:=by omega
  clear hke hcl
  go_enter Tryz.func110,Tryz.ntmps110
  go_upto_region 4 with (at_lookup;refine wpList_lookup_own_ok_int _ rfl _ _ 69 rfl 3 3 .i64 ZoA Tryz.underlying69 Tryz.underlying3 (ZoB _) M K.length D rfl HO.out _ _ rfl (ZoD (by omega)) ?_;intro c hc hwc;rw [HHk.out])
  have HCs:=Zh (show Cs [(⟨B,2,none⟩,.slice (some ea) m.me.length h.ec),(⟨(ea.add (k*7)).block,(ea.add (k*7)).off+6,none⟩,.slice (h.e k).ko (cdM m k).length (h.e k).kc)] w from ⟨c2,e6,trivial⟩)
  clear hc hwc
  refine rO (Cs [(⟨B,2,none⟩,.slice (some ea) m.me.length h.ec),(⟨(ea.add (k*7)).block,(ea.add (k*7)).off+6,none⟩,.slice (h.e k).ko (cdM m k).length (h.e k).kc)]) (oL [0,1,2,3,4,5,6,7,8,9,10,11,12,13,14,15,16,17,18,19,20,121,122,23]) ⟨c2,e6,trivial⟩ ?_
  clear c2 e6
  repeat refine pO ?_
  refine oO fun Kv hK=>?_
  go_simp
  refine (HP.out _ (Below.refl _ _).drew).mono ?_
  rintro e w2 ⟨ro,rc,rows,rfl,hown2,hnd2,hb2⟩
  have HB2:=Zh (Zaf (Below.refl w.heap.size w).drew hb2)
  have HR2:=Zh (Zar.of_own hown2)
  have HD2:=Zh (hnd2.weak (Q:=fun _=>True) fun _ _=>trivial)
  refine hK _ _ ⟨Cs.keeps (Zn8.of HB2.out) HCs.out,?_⟩
  clear hK Kv hown2 hnd2 hb2
  refine oO fun Kv hK=>?_
  go_simp
  refine (HL.out _ (fun j=>Q j∧j≠k) ro rc rows ⟨(HH.out.old HB2.out).wk,(HH.out.old HB2.out).md,HN0.out.old HB2.out⟩ (HK0.out.trans (Zn8.of HB2.out)) HR2.out HD2.out).mono ?_
  rintro e w3 ⟨rfl,hu3,hn3⟩
  have hkk:=(Zn8.of HB2.out).trans (Zn8.upd (HN0.out.old HB2.out).map hu3)
  have HU3:=Zh ((Upd.of HB2.out).trans hu3)
  refine hK _ _ ⟨Cs.keeps hkk HCs.out,?_⟩
  have hc6:=hkk _ _ c6
  clear hK Kv hu3 c6 hkk
  repeat refine pO ?_
  refine Zd5 ?_
  rw [←hT]
  obtain ⟨n,D3,hown3,hn16,hput⟩:=hn3.put (k:=k) (by omega) h16
  have HO3:=Zh hown3
  have HPt:=Zh hput
  have hbT:=HWk.out.bd k
  unfold Bd at hbT
  clear hn3 hown3 hput hT
  go_wp2_with (at_mapUpdate;refine wpList_mapUpdate_own _ rfl _ _ _ 69 rfl 3 3 ZoA Tryz.underlying69 _ M n _ rfl HO3.out (by unfold maxLen;omega) _ _ _ rfl rfl (ZoD (by omega)) _ [] (plainElem_int Tryz.underlying3 (WalkArith.wf_i64 (by omega))) ?_;intro w4 hown4 hg4)
  go_ret
  exact ⟨rfl,HU3.out.trans ⟨hg4.os,hg4.tape,hg4.output,hg4.size,fun q hq h1 _=>hg4.block q hq fun e=>h1 (Option.some.inj e)⟩,HPt.out _ _ (fun j hj=>by rcases hj with (hj|hj)|hj<;>first|exact .inl hj.1|(right;omega)) hown4⟩
end
end
section
open Go.RowKit
attribute [local go_sem] World.cell?_alloc_some
end
section
open Go.RowKit
attribute [local go_sem] World.cell?_alloc_some
end
end Go.Proofs.YtcfjblcgceednaaGreat
