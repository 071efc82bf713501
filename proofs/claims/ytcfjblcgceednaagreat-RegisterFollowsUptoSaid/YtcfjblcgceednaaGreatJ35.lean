import Derived.Test.YtcfjblcgceednaaGreatJ32
set_option linter.all false
set_option maxRecDepth 100000
set_option maxHeartbeats 16000000
namespace Go.Proofs.YtcfjblcgceednaaGreat
theorem j16{p:Prop}(h:p:=by
 intro L
 induction L with
 | nil=>intro _ a;rfl
 | cons x r ih=>intro h a;rw [List.foldl_cons,List.foldl_cons,h x (by simp)];exact ih (fun t ht=>h t (by simp [ht])) _):p:=h
section
open Go.RowKit
theorem Zqu {m:Md} (hm:Za1 m=true):∀ (n k:Nat),k<n→Bl (Zm1 (gL m) m k)
 | 0,k,hn=>by omega
 |n+1,k,hn=>by
  have a:Bl 0:=by unfold Bl;omega
  rw [ZpK];by_cases hk:k<m.me.length
  ·refine Zqe (fun i b=>((ZfN hm hk).i i b).1) (fun t=>?_) (Zmq (ZfN hm hk).n) 0 a;by_cases hj:t.toNat<k
   ·rw [Zm3 _ _ hj];exact Zqu hm n _ (by omega)
   ·rw [List.getD_eq_getElem?_getD,List.getElem?_eq_none (by rw [Zm2];omega)];exact a
  ·rw [ZpJ (by omega)];show Bl (WA _ _ 0 0 0);rw [Zmv];exact a
theorem Zqv {m:Md} (hm:Za1 m=true) {k:Nat} (a:k<m.me.length):Zm1 (gL m) m k=WA (gLT m (Zm1 (gL m) m)) (cdM m k) 0 (cdM m k).length 0:=by
 refine Zm5 (Zmq (ZfN hm a).n) (fun _ _=>rfl) (fun _ _=>rfl) (fun i b=>?_);have ho:=ZfS ((ZfN hm a).i i b).1 ((ZfN hm a).i i b).2;show (if i.op=25 then ZmX (ZmU i) _ else if i.op=26 then ZmX (ZmU i) _ else _)=if i.op=25 then ZmX (ZmU i) _ else if i.op=26 then ZmX (ZmU i) _ else _;by_cases h25:i.op=25
 ·exact j21
 ·rw [if_neg h25,if_neg h25];by_cases h26:i.op=26
  ·rw [if_pos h26,if_pos h26];congr 1;refine Zm7 fun t c=>?_;have:=(ho.o26 h26).2 t c;have:=ZfT c;rw [Zm3 _ _ (by omega)]
  ·rw [if_neg h26,if_neg h26]
def Zqw (m:Md) (k:Int):Int × Int:=if ZpR m k=true then (if Zm1 (gL m) m k.toNat<0 then (0,3) else if 1000000000<Zm1 (gL m) m k.toNat then (0,6) else (Zm1 (gL m) m k.toNat,0)) else (0,1)
end
section
open Go.RowKit
def Zqx (a b:Int):Int:=if a=-1∨b=-1 then -1 else ZmS a b
def Zqy (a b:Int):Int:=if a=-1∨(b≠-1∧b<a) then b else a
def Zqz (l:Bool) (a n:Int):Int:=if n=-1 then a else if a=-1∨(l=true∧n<a)∨(l=false∧a<n) then n else a
def ZqA (l:Bool) (m:Md) (T:Int→Int) (i:In3):Int:=if i.op=25 then T i.a else if i.op≠26 then 0 else (ZaN m i.a).foldl (fun a t=>Zqz l a (T t)) (-1)
def ZqB (l sc:Bool) (i:In3) (f s o t:Int):Int:=
 if i.op=29 then (if l=true then Zqx o (Zqy (Zqx f t) (Zqx s t)) else Zqx o (max (Zqx f t) (Zqx s t)))
 else if i.op=30 then (if l=true then o else ZmS o (ZmT i.a (ZmS f t)))
 else if i.op=32∧sc=true then 0
 else if i.op=33 then (if l=true then Zqx o (Zqy (Zqx f t) (Zqx s t)) else ZmS (ZmS o (ZmS f t)) s)
 else Zqx o (Zqx f t)
def gR (l:Bool) (x:Ms) (m:Md) (T:Int→Int):Wg where
 plus:=Zqx
 pl i:=if l=true∧i.op=28 then -1 else if ZqA l m T i=-1 then -1 else ZmS (x.wt i) (ZqA l m T i)
 brk i f s:=ZqB l x.sc i f s (x.wt i) x.tl
theorem ZqC {g g':Wg}{l:List In3}{P:Int→Prop}{a b:Nat} (C:Seg l a b) (r:P 0) (u:∀ a b,P a→P b→g.plus a b=g'.plus a b∧P (g.plus a b)) (B:∀ i∈l,g.pl i=g'.pl i∧P (g.pl i))
  (y:∀ i∈l,∀ f s,P f→P s→g.brk i f s=g'.brk i f s∧P (g.brk i f s)):∀ acc,P acc→WA g l a b acc=WA g' l a b acc∧P (WA g l a b acc):=by
 have hm:∀ k,k<l.length→l.getD k default∈l:=fun k A=>ZfU _ A
 induction C with
 | nil a h=>intro acc c;rw [Zmv,Zmv];exact ⟨rfl,c⟩
 |pl a b q1 q2 q3 q4 q5 ih=>
  intro acc c;rw [Zmw q2 q5,Zmw q2 q5];obtain ⟨d,o⟩:=B _ (hm a q1);obtain ⟨e,p⟩:=u _ _ c o;obtain ⟨j,q⟩:=ih _ p;exact ⟨by rw [j,e,d],q⟩
 |one a en b q1 q2 q3 i1 i2=>
  intro acc c;rw [Zmx q1 q2 q3,Zmx q1 q2 q3];obtain ⟨t,v⟩:=i1 0 r;obtain ⟨d,o⟩:=y _ (hm a q1.1) _ 0 v r;obtain ⟨e,p⟩:=u _ _ c o;obtain ⟨j,q⟩:=i2 _ p;exact ⟨by rw [j,e,d,t],q⟩
 |two a n en b q1 q2 q3 q4 i1 i2 i3=>
  intro acc c;rw [Zmy q1 q2 q3 q4,Zmy q1 q2 q3 q4];obtain ⟨t,v⟩:=i1 0 r;obtain ⟨z,D⟩:=i2 0 r;obtain ⟨d,o⟩:=y _ (hm a q1.1) _ _ v D;obtain ⟨e,p⟩:=u _ _ c o;obtain ⟨j,q⟩:=i3 _ p;exact ⟨by rw [j,e,d,t,z],q⟩
theorem ZqD {a b:Int} (c:Bd a) (d:Bd b):Zqx a b=ZmS a b:=by unfold Zqx;rw [if_neg (by unfold Bd at *;omega)]
theorem ZqE {a b:Int} (c:Bl a) (d:Bl b):Zqx a b=ZmX a b:=by
 unfold Zqx ZmX Bl at *;by_cases h:a=-1∨b=-1
 ·rw [if_pos h,if_pos (by omega)]
 ·rw [if_neg h,if_neg (by omega)]
theorem ZqF {a b:Int} (c:Bl a) (d:Bl b):Bl (Zqx a b):=ZqE c d▸Zp5 c d
theorem ZqG {a b:Int} (c:Bl a) (d:Bl b):Zqy a b=ZmY a b:=by
 unfold Zqy ZmY Bl at *
 repeat' split
 all_goals omega
theorem ZqH {f s:Int} (a:Bl f) (b:Bl s):ZmY (ZmX f 1) (ZmX s 1)=ZmX (ZmY f s) 1:=by
 unfold ZmY ZmX ZmS ZmR Bl at *
 repeat' split
 all_goals first|rfl|omega
theorem ZqI {T:Int→Int}{l:List Int} (g:l≠[]) (h:∀ t∈l,Bd (T t)):l.foldl (fun a t=>Zqz false a (T t)) (-1)=ZmW T l:=by
 have f:∀ (l:List Int) (a:Int),Bd a→(∀ t∈l,Bd (T t))→l.foldl (fun a t=>Zqz false a (T t)) a=l.foldl (fun a t=>max a (T t)) a:=by
  intro l
  induction l with
  | nil=>intro a _ _;rfl
  |cons x r ih=>
   intro a d h;have b:=h x (by simp);have e:Zqz false a (T x)=max a (T x):=by
    unfold Zqz Bd at *;rw [if_neg (by omega)];split<;>simp_all<;>omega
   rw [List.foldl_cons,List.foldl_cons,e];exact ih _ (ZoF d b) fun t c=>h t (by simp [c])
 cases l with
 | nil=>exact absurd rfl g
 |cons x r=>
  have b:=h x (by simp);have e:Zqz false (-1) (T x)=T x:=by unfold Zqz Bd at *;rw [if_neg (by omega),if_pos (.inl rfl)]
  unfold ZmW;rw [List.foldl_cons,List.foldl_cons,e,show max 0 (T x)=T x by unfold Bd at b;omega];exact f r _ b fun t c=>h t (by simp [c])
theorem ZqJ {T:Int→Int}{l:List Int} (g:l≠[]) (h:∀ t∈l,Bl (T t)):l.foldl (fun a t=>Zqz true a (T t)) (-1)=ZmZ T l:=by
 have f:∀ (l:List Int) (a:Int),Bl a→(∀ t∈l,Bl (T t))→l.foldl (fun a t=>Zqz true a (T t)) a=l.foldl (fun a t=>ZmY a (T t)) a∧Bl (l.foldl (fun a t=>Zqz true a (T t)) a):=by
  intro l
  induction l with
  | nil=>intro a c _;exact ⟨rfl,c⟩
  |cons x r ih=>
   intro a c h;have b:=h x (by simp);have e:Zqz true a (T x)=ZmY a (T x):=by
    unfold Zqz ZmY Bl at *
    repeat' split
    all_goals simp_all
    all_goals omega
   rw [List.foldl_cons,List.foldl_cons,e];exact ih _ (Zp6 c b) fun t d=>h t (by simp [d])
 cases l with
 | nil=>exact absurd rfl g
 |cons x r=>
  have b:=h x (by simp);have e:Zqz true (-1) (T x)=ZmY (T x) (T x):=by
   unfold Zqz ZmY Bl at *
   repeat' split
   all_goals simp_all
   all_goals omega
  unfold ZmZ;rw [List.foldl_cons,List.foldl_cons,e];exact (f r _ (Zp6 b b) fun t d=>h t (by simp [d])).1
def ZqK (m:Md) (l:List In3):Prop:=∀ i∈l,i.op=26→ZaN m i.a≠[]
section
variable {x:Ms}{m:Md}{T T':Int→Int}{l:List In3}{k:Nat} (hv:∀ i∈l,ZaQ false i=true∧ZaW m k i=true) (hsd:ZqK m l)
include hv hsd
theorem ZqL (y:∀ i∈l,0≤x.wt i∧x.wt i≤1000) (ht:0≤x.tl∧x.tl≤1000) (z:x.sc=true→∀ i∈l,i.op=32→x.wt i=0) (D:∀ t:Int,0≤t→t<k→T t=T' t) (d:∀ t,Bd (T' t)) {a b:Nat} (u:Seg l a b) :
  ∀ acc,Bd acc→WA (gR false x m T) l a b acc=WA (gW x m T') l a b acc∧Bd (WA (gR false x m T) l a b acc):=by
 have C:Bd 0:=by unfold Bd;omega
 have n:∀ i∈l,i.op≠1→0≤i.a:=fun i c=>(ZfS (hv i c).1 (hv i c).2).a0;refine ZqC u C (fun a b n o=>by rw [show (gR false x m T).plus a b=Zqx a b from rfl,ZqD n o];exact ⟨rfl,ZoD n o⟩) (fun i c=>?_) (fun i c f s v u=>?_)
 ·have o:=ZoH (m:=m) y ht d n i c;have B:=y i c;have A:=ZfS (hv i c).1 (hv i c).2;have j:Bd (x.wt i):=by unfold Bd;omega
  have E:ZqA false m T i=if i.op=25 then T' i.a else if i.op=26 then ZmW T' (ZaN m i.a) else 0:=by
   unfold ZqA;by_cases h25:i.op=25
   ·rw [if_pos h25,if_pos h25];exact D _ (A.a0 (by omega)) (A.o25 h25).1
   ·rw [if_neg h25,if_neg h25];by_cases h26:i.op=26
    ·rw [if_neg (by omega),if_pos h26,←ZqI (hsd i c h26) fun t _=>d t];have:∀ (L:List Int),(∀ t∈L,T t=T' t)→∀ a,L.foldl (fun a t=>Zqz false a (T t)) a=L.foldl (fun a t=>Zqz false a (T' t)) a:=by exact j16
     exact this _ (fun t ht=>D _ (ZfT ht) ((A.o26 h26).2 t ht)) _
    ·rw [if_pos h26,if_neg h26]
  have q:Bd (ZqA false m T i):=by
   rw [E];split
   ·exact d _
   ·split
    ·exact ZoG fun t _=>d t
    ·exact C
  have e:(gR false x m T).pl i=ZmS (x.wt i) (ZqA false m T i):=by show (if false=true∧i.op=28 then (-1:Int) else if ZqA false m T i=-1 then (-1:Int) else ZmS (x.wt i) (ZqA false m T i))=_;rw [if_neg (by simp),if_neg (by unfold Bd at q;omega)]
  refine ⟨?_,by rw [e];exact ZoD j q⟩;rw [e,E];show _=if i.op=25 then _ else if i.op=26 then _ else _;split
  ·rfl
  ·split
   ·rfl
   ·unfold ZmS ZmR;omega
 ·have B:=y i c;have j:Bd (x.wt i):=by unfold Bd;omega
  have g:Bd x.tl:=by unfold Bd;omega
  have o:=ZoI (m:=m) y ht d n i c f s v u;have e:(gR false x m T).brk i f s=(gW x m T').brk i f s:=by
   show ZqB false x.sc i f s (x.wt i) x.tl=if i.op=29 then _ else if i.op=30 then _ else if i.op=32∧x.sc=true then _ else if i.op=33 then _ else _;unfold ZqB;simp only [Bool.false_eq_true,if_false];rw [ZqD v g,ZqD u g,ZqD j (ZoF (ZoD v g) (ZoD u g)),ZqD j (ZoD v g)];by_cases h29:i.op=29
   ·rw [if_pos h29,if_pos h29]
   ·rw [if_neg h29,if_neg h29];by_cases h30:i.op=30
    ·rw [if_pos h30,if_pos h30]
    ·rw [if_neg h30,if_neg h30];by_cases hsc:i.op=32∧x.sc=true
     ·rw [if_pos hsc,if_pos hsc,z hsc.2 i c hsc.1]
     ·rw [if_neg hsc,if_neg hsc];by_cases h33:i.op=33
      ·rw [if_pos h33,if_pos h33];unfold ZmS ZmR Bd at *;omega
      ·rw [if_neg h33,if_neg h33]
  exact ⟨e,e▸o⟩
theorem ZqM (C:∀ t:Int,0≤t→t<k→T t=T' t) (c:∀ t,Bl (T' t)) {a b:Nat} (u:Seg l a b) :
  ∀ acc,Bl acc→WA (gR true ZmV m T) l a b acc=WA (gL m T') l a b acc∧Bl (WA (gR true ZmV m T) l a b acc):=by
 have F:Bl 0:=by unfold Bl;omega
 have g:Bl 1:=by unfold Bl;omega
 have y:∀ i∈l,ZaQ false i=true:=fun i d=>(hv i d).1;refine ZqC u F (fun a b D v=>⟨ZqE D v,ZqF D v⟩) (fun i d=>?_) (fun i d f s o u=>?_)
 ·have v:=Zqc (m:=m) y c i d;have B:=ZpG (hv i d).1;have A:=ZfS (hv i d).1 (hv i d).2;have j:Bl (ZmU i):=by unfold Bl;omega
  have G:ZqA true m T i=if i.op=25 then T' i.a else if i.op=26 then ZmZ T' (ZaN m i.a) else 0:=by
   unfold ZqA;by_cases h25:i.op=25
   ·rw [if_pos h25,if_pos h25];exact C _ (A.a0 (by omega)) (A.o25 h25).1
   ·rw [if_neg h25,if_neg h25];by_cases h26:i.op=26
    ·rw [if_neg (by omega),if_pos h26,←ZqJ (hsd i d h26) fun t _=>c t];have:∀ (L:List Int),(∀ t∈L,T t=T' t)→∀ a,L.foldl (fun a t=>Zqz true a (T t)) a=L.foldl (fun a t=>Zqz true a (T' t)) a:=by exact j16
     exact this _ (fun t ht=>C _ (ZfT ht) ((A.o26 h26).2 t ht)) _
    ·rw [if_pos h26,if_neg h26]
  have e:(gR true ZmV m T).pl i=(gL m T').pl i:=by
   show (if true=true∧i.op=28 then _ else if ZqA true m T i=-1 then _ else ZmS (ZmU i) _)=if i.op=25 then _ else if i.op=26 then _ else if i.op=28 then _ else _;rw [G];have E:∀ n,Bl n→(if n=-1 then (-1:Int) else ZmS (ZmU i) n)=ZmX (ZmU i) n:=fun n H=>by
    unfold ZmX Bl at *;by_cases q:n=-1
    ·rw [if_pos q,if_pos (by omega)]
    ·rw [if_neg q,if_neg (by omega)]
   by_cases h25:i.op=25
   ·rw [if_neg (by omega),if_pos h25,if_pos h25];exact E _ (c _)
   ·rw [if_neg h25,if_neg h25];by_cases h26:i.op=26
    ·rw [if_neg (by omega),if_pos h26,if_pos h26];exact E _ (Zqb c)
    ·rw [if_neg h26,if_neg h26];by_cases h28:i.op=28
     ·rw [if_pos ⟨rfl,h28⟩,if_pos h28]
     ·rw [if_neg (fun q=>h28 q.2),if_neg (by decide),if_neg h28];unfold ZmS ZmR;omega
  exact ⟨e,e▸v⟩
 ·have B:=ZpG (hv i d).1;have j:Bl (ZmU i):=by unfold Bl;omega
  have v:=Zqd (m:=m) (T:=T') y c i d f s o u;have e:(gR true ZmV m T).brk i f s=(gL m T').brk i f s:=by
   show ZqB true false i f s (ZmU i) 1=if i.op=29∨i.op=33 then _ else if i.op=30 then _ else _;unfold ZqB;have z:Zqx (ZmU i) (Zqy (Zqx f 1) (Zqx s 1))=ZmX (ZmU i) (ZmX (ZmY f s) 1):=by rw [ZqE o g,ZqE u g,ZqG (Zp5 o g) (Zp5 u g),ZqH o u,ZqE j (Zp5 (Zp6 o u) g)]
   rw [if_pos rfl,if_pos rfl,if_pos rfl,z,ZqE o g,ZqE j (Zp5 o g),if_neg (show ¬ (i.op=32∧false=true) by simp)]
   repeat' split
   all_goals first|rfl|omega
  exact ⟨e,e▸v⟩
end
theorem ZqN {l:Bool}{x:Ms}{m:Md}{T:Int→Int}{c:List In3}{a b:Nat} (e:Seg c a b):WA (gR l x m T) c a b (-1)=-1:=by
 have d:∀ n,(gR l x m T).plus (-1) n=-1:=fun n=>by show Zqx (-1) n=-1;unfold Zqx;rw [if_pos (.inl rfl)]
 induction e with
 | nil a h=>rw [Zmv]
 | pl a b q1 q2 q3 q4 q5 ih=>rw [Zmw q2 q5,d];exact ih
 | one a en b q1 q2 q3 i1 i2=>rw [Zmx q1 q2 q3,d];exact i2
 | two a n en b q1 q2 q3 q4 i1 i2 i3=>rw [Zmy q1 q2 q3 q4,d];exact i3
end
section
open Go.RowKit
theorem ZqO {s t:List Br × Nat}{i:In3} (h:ZaS s i=some t) (a:s.1.length≤s.2):t.1.length≤t.2:=by
 obtain ⟨S,D⟩:=s;unfold ZaS at h;split at h
 ·cases h;simp;omega
 ·split at h
  ·cases S with
   | nil=>cases h
   |cons b r=>
    dsimp only at h;split at h
    ·cases h;simp at a ⊢;omega
    ·cases h
  ·split at h
   ·cases S with
    | nil=>cases h
    |cons b r=>
     dsimp only at h;split at h
     ·cases h
     ·cases h;simp at a ⊢;omega
   ·cases h;exact a
theorem ZqP:∀ (l:List In3) (s t:List Br × Nat),ZaT s l=some t→s.1.length≤s.2→t.1.length≤t.2
 | [],s,t,h,hs=>by cases h;exact hs
 |i :: l,s,t,h,hs=>by
  unfold ZaT at h;split at h
  ·cases h
  ·rename_i u a;exact ZqP l u t h (ZqO a hs)
theorem ZqQ {l:List In3} (hv:ZaU l=true) {k:Nat} (h:Za8 l k):False:=by
 unfold ZaU at hv;split at hv
 ·cases hv
 ·rename_i b d a;simp only [Bool.and_eq_true,List.isEmpty_iff] at hv;obtain ⟨rfl,_⟩:=hv;rw [←List.take_append_drop k l,Za2] at a;cases h1:ZaT ([],0) (l.take k) with
  | none=>rw [h1] at a;cases a
  |some t=>
   rw [h1] at a;obtain ⟨S,D⟩:=t;exact h S D (ZqP _ _ _ h1 (Nat.le_refl _)) _ a rfl
theorem ZqR (l:List In3) (j:Option Addr) (b:Nat) (w:World) (n:Zar w j b l) (hv:ZaV false l=0) {k en:Nat}{alt:Int} (hm:Mat l k alt en) :
    Calls Tryz.prog 165 #[.slice j l.length b,.int .i64 k] w (Ret w (.tuple #[.int .i64 alt,.int .i64 en,.int .i64 0])):=by
 have E:=(ZmF hv).1;have y:=hm.1;have F:(k:Int) < l.length:=by omega
 have u:=Zh (ZgK l j b false w n);rw [hv] at u;have c:ZaR (l.getD k default).op=true:=hm.2.1;have A:=Zh (fun w' q=>ZgH l j b w' (Zar.old n (w':=w') q) (by omega) l.length (ZgI l j b w' (Zar.old n q) (by omega) l.length) k y (by omega) c);have v:=Zh (fun w' q=>ZaA (Zar.old n (w':=w') q) y);have B:=Zh hm;have C:=Zh (ZmF hv).2.2;obtain ⟨J,z⟩:∃ o,o=(l.getD k default).op:=⟨_,rfl⟩;rw [←z] at c v;have r:=Zh c;clear z c n hv hm;go_enter Tryz.func165,Tryz.ntmps165
 go_wp2_with (first
   | (go_at_call 181;refine u.out.mono ?_;rintro e K ⟨rfl,f⟩;have h:=Zh f;obtain ⟨H,rfl,I,-,-⟩:=v.out _ f;clear f)
   | (go_at_call 151;refine (ZeO _ _).mono ?_;rintro e L ⟨rfl,rfl⟩;rw [r.out])
   | (go_at_call 225;refine (A.out _ h.out).mono ?_;rintro e M ⟨s,rfl⟩
      obtain ⟨a,d,p,rfl,g⟩:∃ (a:Int) (d p:Nat),e=.returned (.tuple #[.int .i64 a,.int .i64 d,.int .i64 p])∧Mat l k a d:=by
        rcases s with ⟨a,G,p,D,-,-,-,g⟩|⟨-,t⟩
        · exact ⟨a,G,p,D,g⟩
        · exact (ZqQ C.out t).elim
      obtain ⟨rfl,rfl⟩:=Prod.mk.inj ((Zmn B.out).symm.trans (Zmn g))))
 go_ret3;exact ZcT rfl h.out
theorem ZqS (a b:Int) (w:World) (c:-2000≤a∧a≤1000000001) (d:-2000≤b∧b≤1000000001):Calls Tryz.prog 166 #[.int .i64 a,.int .i64 b] w (Ret w (.int .i64 (ZmS a b))):=by obtain ⟨e,f⟩:=c;obtain ⟨g,h⟩:=d;generalize hq:ZmS a b=q;have HQ:=Zh hq;clear hq;go_enter Tryz.func166,Tryz.ntmps166;exact j23
theorem ZqT (a b:Int) (w:World) (e:-1000≤a*b) (f:a*b≤1000000001000):Calls Tryz.prog 352 #[.int .i64 a,.int .i64 b] w (Ret w (.int .i64 (ZmT a b))):=by have c:IntKind.i64.wrap (a*b)=a*b:=IntWalk.i64_in _ (by omega);have d:=Zh c;generalize hq:ZmT a b=q;have HQ:=Zh hq;clear hq;go_enter Tryz.func352,Tryz.ntmps352;exact j24
theorem ZqU (a b:Int) (w:World) (g:Bl a) (h:Bl b):Calls Tryz.prog 350 #[.int .i64 a,.int .i64 b] w (Ret w (.int .i64 (Zqx a b))):=by
 obtain ⟨n,d⟩:=g;obtain ⟨o,f⟩:=h;generalize hq:Zqx a b=q;have c:=Zh hq;clear hq;go_enter Tryz.func350,Tryz.ntmps350
 go_wp2_with (go_at_call 166;refine (ZqS a b _ ⟨by omega,d⟩ ⟨by omega,f⟩).mono ?_;rintro e r ⟨rfl,j⟩)
 all_goals
  go_ret;refine ZcT (ZcY ?_) bE;rw [←c.out];unfold Zqx;grind
theorem ZqV (a b:Int) (w:World):Calls Tryz.prog 351 #[.int .i64 a,.int .i64 b] w (Ret w (.int .i64 (Zqy a b))):=by
 generalize hq:Zqy a b=q;have c:=Zh hq;clear hq;go_enter Tryz.func351,Tryz.ntmps351;go_wp2
 all_goals
  go_ret;refine ZcT (ZcY ?_) bE;rw [←c.out];unfold Zqy;grind
theorem ZqW (n:Int) (w:World):Calls Tryz.prog 96 #[.int .i64 n] w (Zhf w (.int .i64 (if 1000000000<n then 0 else n)) (.int .i64 (if 1000000000<n then 6 else 0))):=by
 by_cases h:1000000000<n
 all_goals
  first|rw [if_pos h,if_pos h]|rw [if_neg h,if_neg h]
  go_enter Tryz.func96,Tryz.ntmps96;go_wp2;go_ret2;exact Zhg rfl rfl bE
end
section
open Go.RowKit
theorem ZqX {m:Md}{lo:List Ty}{i:In3}{s:Ps} (h:(ZeC m lo i s).1=0) (a:i.op=26):ZaN m i.a≠[]:=fun e=>by
 unfold ZeC at h
 rw [if_neg (by omega),if_neg (by omega)] at h
 have b:∀ l,ZeB m lo i l=none:=fun l=>by
  unfold ZeB Zew
  simp [a,e]
 simp only [b] at h
 split at h<;>simp at h
theorem ZqY {m:Md}{lo:List Ty}{r:Ty}:∀ (l:List In3) (n:Nat) (s:Ps),(ZeE m lo r n l s).2.2=0→ZqK m l
 | [],_,_,_=>fun i b=>by simp at b
 |i :: l,n,s,h=>by
  unfold ZeE at h;by_cases h1:(ZeC m lo i s).1=0
  ·rw [if_pos h1] at h;dsimp only at h;intro j a;rcases List.mem_cons.1 a with rfl|a
   ·exact ZqX h1
   ·refine ZqY (lo:=lo) (r:=r) l (n+1) (ZeC m lo i s).2 ?_ j a;split at h
    ·assumption
    ·exact h
  ·rw [if_neg h1] at h;exact absurd h h1
theorem ZqZ {m:Md}:∀ (n k:Nat),(Zmf m n k).2.2=0→∀ j,k≤j→j<k+n→(ZeG m j).2.2=0
 | 0,k,_,j,h1,h2=>by omega
 |n+1,k,h,j,h1,h2=>by
  unfold Zmf at h;by_cases h3:(ZeG m k).2.2=0
  ·rw [if_pos h3] at h;by_cases e:j=k
   ·subst e;exact h3
   ·exact ZqZ n (k+1) h j (by omega) (by omega)
  ·rw [if_neg h3] at h;exact absurd h h3
theorem Zq0 {m:Md} (h:(Zmg m).2.2=0):Za1 m=true∧∀ k,k<m.me.length→ZqK m (cdM m k):=by
 unfold Zmg at h;by_cases hm:Za1 m=true
 ·rw [if_pos hm] at h;exact ⟨hm,fun k a=>ZqY _ _ _ (ZqZ _ _ h k (Nat.zero_le _) (by omega))⟩
 ·rw [if_neg hm] at h;exact absurd h (by decide)
section
variable {x:Ms}{m:Md} (hm:Za1 m=true) (hsd:∀ k,k<m.me.length→ZqK m (cdM m k))
include hm hsd
theorem Zq1 (d:∀ k,k<m.me.length→∀ i∈cdM m k,0≤x.wt i∧x.wt i≤1000) (c:0≤x.tl∧x.tl≤1000) (a:x.sc=true→∀ k,k<m.me.length→∀ i∈cdM m k,i.op=32→x.wt i=0):∀ n k,k<n→k<m.me.length→Zm1 (gR false x m) m k=Zm1 (gW x m) m k
 | 0,k,hn,_=>by omega
 |n+1,k,hn,hk=>by
  have b:=ZfN hm hk;rw [ZpM hm x hk,ZpK];refine (ZqL (k:=k) (fun i e=>b.i i e) (hsd k hk) (d k hk) c (fun q=>a q k hk) (T':=fun t=>Zm1 (gW x m) m t.toNat) (fun t f g=>?_) (fun t=>?_) (Zmq b.n) 0 (by unfold Bd;omega)).1
  ·rw [Zm3 _ _ (by omega)];exact Zq1 d c a n _ (by omega) (by omega)
  ·exact ZpL hm (x:=x) d c (t.toNat+1) _ (by omega)
theorem Zq2:∀ n k,k<n→k<m.me.length→Zm1 (gR true ZmV m) m k=Zm1 (gL m) m k
 | 0,k,hn,_=>by omega
 |n+1,k,hn,hk=>by
  have a:=ZfN hm hk;rw [Zqv hm hk,ZpK];refine (ZqM (k:=k) (fun i b=>a.i i b) (hsd k hk) (T':=fun t=>Zm1 (gL m) m t.toNat) (fun t c d=>?_) (fun t=>?_) (Zmq a.n) 0 (by unfold Bl;omega)).1
  ·rw [Zm3 _ _ (by omega)];exact Zq2 n _ (by omega) (by omega)
  ·exact Zqu hm (t.toNat+1) _ (by omega)
end
def Zq3 (g:Wg) (l:List In3) (p:Nat):Int × Nat:=
 if ZaR (l.getD p default).op=true then
  (g.brk (l.getD p default) (WA g l (p+1) (if (mtV l p).1<0 then (mtV l p).2 else (mtV l p).1.toNat) 0) (if (mtV l p).1<0 then 0 else WA g l ((mtV l p).1.toNat+1) (mtV l p).2 0),(mtV l p).2+1)
 else (g.pl (l.getD p default),p+1)
theorem Zq4 {g:Wg}{l:List In3}{p b:Nat} (h:Seg l p b) (a:p<b):p<(Zq3 g l p).2∧(Zq3 g l p).2≤b∧Seg l (Zq3 g l p).2 b∧∀ acc,WA g l p b acc=WA g l (Zq3 g l p).2 b (g.plus acc (Zq3 g l p).1):=by
 rcases ZmK h with e|⟨_,h2,h3,h4,h5⟩|⟨en,h1,h2,h3,h4,h5⟩|⟨n,en,h1,h2,h3,h4,h5,h6,h7⟩
 ·omega
 ·have e:Zq3 g l p=(g.pl (l.getD p default),p+1):=by unfold Zq3;rw [if_neg (by rw [h2];decide)]
  rw [e];exact ⟨Nat.lt_succ_self _,a,h5,fun acc=>Zmw h2 h5⟩
 ·have e:Zq3 g l p=(g.brk (l.getD p default) (WA g l (p+1) en 0) 0,en+1):=by unfold Zq3;rw [if_pos (show _=true from h1.2.1),Zmn h1];rfl
  rw [e];exact ⟨by dsimp only;omega,by dsimp only;omega,h5,fun acc=>Zmx h1 h4 h5⟩
 ·have e:Zq3 g l p=(g.brk (l.getD p default) (WA g l (p+1) n 0) (WA g l (n+1) en 0),en+1):=by unfold Zq3;rw [if_pos (show _=true from h1.2.1),Zmn h1];dsimp only;rw [if_neg (by omega),if_neg (by omega),Int.toNat_natCast]
  rw [e];exact ⟨by dsimp only;omega,by dsimp only;omega,h7,fun acc=>Zmy h1 h5 h6 h7⟩
end
