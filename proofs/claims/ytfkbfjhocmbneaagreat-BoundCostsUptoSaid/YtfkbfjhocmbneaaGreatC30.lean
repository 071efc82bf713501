/- Joined texts. The first: The reference's weights, and that they are the program's. -/
import Derived.Test.YtfkbfjhocmbneaaGreatG29
set_option linter.all false
set_option linter.unusedVariables false
set_option linter.unusedSimpArgs false
set_option maxRecDepth 100000
set_option maxHeartbeats 8000000
namespace Go.Proofs.YtfkbfjhocmbneaaGreat
theorem kC0{p:Prop}(h:p:=by
 refine hK _ _ ⟨HS.out _ hb5,?_⟩
 clear hK Kv hg
 repeat refine pO ?_
 have z0:=hz5.cell 0 (v:=.slice none 0 0) rfl
 have f0:=hz5.frozen 0
 have z1:=hz5.cell 1 (v:=.slice none 0 0) rfl
 have f1:=hz5.frozen 1
 have z2:=hz5.cell 2 (v:=.slice none 0 0) rfl
 have f2:=hz5.frozen 2
 have z3:=hz5.cell 3 (v:=.int .i64 0) rfl
 have f3:=hz5.frozen 3
 have zl:=hz5.lt
 refine oO fun Kv hK=>?_
 go_simp
 refine hK _ _ ⟨HS.out _ (ZcW (ZcW (ZcW (ZcW hb5 hle0 _) hle0 _) hle0 _) hle0 _),?_⟩
 refine Zd5 ?_
 exact key OB _ _ _ _ _ _ _ _ ao ac (ZcW (ZcW (ZcW (ZcW hb5 hle0 _) hle0 _) hle0 _) hle0 _) (by have:=HSz.out;omega) (by have:=HSz.out;omega) (by have:=HSz.out;omega) ((((hz5.set 0 (.slice none 0 0)).set 1 (.slice ao m.st.length ac)).set 2 (.slice none 0 0)).set 3 (.int .i64 m.sel)) (ZqE (ZqE (ZqE (ZqE hown hz5 (by decide) 0 (.slice none 0 0)) (hz5.set 0 (.slice none 0 0)) (by decide) 1 (.slice ao m.st.length ac)) ((hz5.set 0 (.slice none 0 0)).set 1 (.slice ao m.st.length ac)) (by decide) 2 (.slice none 0 0)) (((hz5.set 0 (.slice none 0 0)).set 1 (.slice ao m.st.length ac)).set 2 (.slice none 0 0)) (by decide) 3 (.int .i64 m.sel))):p:=h
theorem kC3{p:Prop}(h:p:=by
 intro L
 induction L with
 | nil=>intro _ a;rfl
 | cons x r ih=>intro h a;rw [List.foldl_cons,List.foldl_cons,h x (by simp)];exact ih (fun t ht=>h t (by simp [ht])) _):p:=h
section
open Go.RowKit
def ZpE (a b:Int):Int:=if a=-1∨b=-1 then -1 else Zmu a b
def ZpF (a b:Int):Int:=if a=-1∨(b≠-1∧b<a) then b else a
def ZpG (l:Bool) (a n:Int):Int:=if n=-1 then a else if a=-1∨(l=true∧n<a)∨(l=false∧a<n) then n else a
def ZpH (l:Bool) (m:Md) (T:Int→Int) (i:In3):Int:=if i.op=25 then T i.a else if i.op≠26 then 0 else (ZaN m i.a).foldl (fun a t=>ZpG l a (T t)) (-1)
def ZpI (l sc:Bool) (i:In3) (f s o t:Int):Int:=
 if i.op=29 then (if l=true then ZpE o (ZpF (ZpE f t) (ZpE s t)) else ZpE o (max (ZpE f t) (ZpE s t)))
 else if i.op=30 then (if l=true then o else Zmu o (Zmv i.a (Zmu f t)))
 else if i.op=32∧sc=true then 0
 else if i.op=33 then (if l=true then ZpE o (ZpF (ZpE f t) (ZpE s t)) else Zmu (Zmu o (Zmu f t)) s)
 else ZpE o (ZpE f t)
def gR (l:Bool) (x:Ms) (m:Md) (T:Int→Int):Wg where
 plus:=ZpE
 pl i:=if l=true∧i.op=28 then -1 else if ZpH l m T i=-1 then -1 else Zmu (x.wt i) (ZpH l m T i)
 brk i f s:=ZpI l x.sc i f s (x.wt i) x.tl
theorem ZpJ {g g':Wg}{l:List In3}{P:Int→Prop}{a b:Nat} (hs:Seg l a b) (h0:P 0) (hp:∀ a b,P a→P b→g.plus a b=g'.plus a b∧P (g.plus a b)) (hl:∀ i∈l,g.pl i=g'.pl i∧P (g.pl i))
  (hb:∀ i∈l,∀ f s,P f→P s→g.brk i f s=g'.brk i f s∧P (g.brk i f s)):∀ acc,P acc→WA g l a b acc=WA g' l a b acc∧P (WA g l a b acc):=by
 have hm:∀ k,k<l.length→l.getD k default∈l:=fun k hk=>ZfU _ hk
 induction hs with
 | nil a h=>intro acc hacc;rw [Zml,Zml];exact ⟨rfl,hacc⟩
 | pl a b q1 q2 q3 q4 q5 ih=>
  intro acc hacc
  rw [Zmm q2 q5,Zmm q2 q5]
  obtain ⟨e1,p1⟩:=hl _ (hm a q1)
  obtain ⟨e2,p2⟩:=hp _ _ hacc p1
  obtain ⟨e3,p3⟩:=ih _ p2
  exact ⟨by rw [e3,e2,e1],p3⟩
 | one a en b q1 q2 q3 i1 i2=>
  intro acc hacc
  rw [Zmn q1 q2 q3,Zmn q1 q2 q3]
  obtain ⟨e0,p0⟩:=i1 0 h0
  obtain ⟨e1,p1⟩:=hb _ (hm a q1.1) _ 0 p0 h0
  obtain ⟨e2,p2⟩:=hp _ _ hacc p1
  obtain ⟨e3,p3⟩:=i2 _ p2
  exact ⟨by rw [e3,e2,e1,e0],p3⟩
 | two a n en b q1 q2 q3 q4 i1 i2 i3=>
  intro acc hacc
  rw [Zmo q1 q2 q3 q4,Zmo q1 q2 q3 q4]
  obtain ⟨e0,p0⟩:=i1 0 h0
  obtain ⟨e9,p9⟩:=i2 0 h0
  obtain ⟨e1,p1⟩:=hb _ (hm a q1.1) _ _ p0 p9
  obtain ⟨e2,p2⟩:=hp _ _ hacc p1
  obtain ⟨e3,p3⟩:=i3 _ p2
  exact ⟨by rw [e3,e2,e1,e0,e9],p3⟩
theorem ZpK {a b:Int} (ha:Bd a) (hb:Bd b):ZpE a b=Zmu a b:=by unfold ZpE;rw [if_neg (by unfold Bd at *;omega)]
theorem ZpL {a b:Int} (ha:Bl a) (hb:Bl b):ZpE a b=Zmz a b:=by
 unfold ZpE Zmz Bl at *
 by_cases h:a=-1∨b=-1
 ·rw [if_pos h,if_pos (by omega)]
 ·rw [if_neg h,if_neg (by omega)]
theorem ZpM {a b:Int} (ha:Bl a) (hb:Bl b):Bl (ZpE a b):=ZpL ha hb▸ZoU ha hb
theorem ZpN {a b:Int} (ha:Bl a) (hb:Bl b):ZpF a b=ZmA a b:=by
 unfold ZpF ZmA Bl at *
 repeat' split
 all_goals omega
theorem ZpO {f s:Int} (hf:Bl f) (hs:Bl s):ZmA (Zmz f 1) (Zmz s 1)=Zmz (ZmA f s) 1:=by
 unfold ZmA Zmz Zmu Zmt Bl at *
 repeat' split
 all_goals first|rfl|omega
theorem ZpP {T:Int→Int}{l:List Int} (hn:l≠[]) (h:∀ t∈l,Bd (T t)):l.foldl (fun a t=>ZpG false a (T t)) (-1)=Zmy T l:=by
 have hg:∀ (l:List Int) (a:Int),Bd a→(∀ t∈l,Bd (T t))→l.foldl (fun a t=>ZpG false a (T t)) a=l.foldl (fun a t=>max a (T t)) a:=by
  intro l
  induction l with
  | nil=>intro a _ _;rfl
  | cons x r ih=>
   intro a ha h
   have hx:=h x (by simp)
   have e:ZpG false a (T x)=max a (T x):=by
    unfold ZpG Bd at *
    rw [if_neg (by omega)]
    split<;>simp_all<;>omega
   rw [List.foldl_cons,List.foldl_cons,e]
   exact ih _ (ZnD ha hx) fun t ht=>h t (by simp [ht])
 cases l with
 | nil=>exact absurd rfl hn
 | cons x r=>
  have hx:=h x (by simp)
  have e:ZpG false (-1) (T x)=T x:=by unfold ZpG Bd at *;rw [if_neg (by omega),if_pos (.inl rfl)]
  unfold Zmy
  rw [List.foldl_cons,List.foldl_cons,e,show max 0 (T x)=T x by unfold Bd at hx;omega]
  exact hg r _ hx fun t ht=>h t (by simp [ht])
theorem ZpQ {T:Int→Int}{l:List Int} (hn:l≠[]) (h:∀ t∈l,Bl (T t)):l.foldl (fun a t=>ZpG true a (T t)) (-1)=ZmB T l:=by
 have hg:∀ (l:List Int) (a:Int),Bl a→(∀ t∈l,Bl (T t))→l.foldl (fun a t=>ZpG true a (T t)) a=l.foldl (fun a t=>ZmA a (T t)) a∧Bl (l.foldl (fun a t=>ZpG true a (T t)) a):=by
  intro l
  induction l with
  | nil=>intro a ha _;exact ⟨rfl,ha⟩
  | cons x r ih=>
   intro a ha h
   have hx:=h x (by simp)
   have e:ZpG true a (T x)=ZmA a (T x):=by
    unfold ZpG ZmA Bl at *
    repeat' split
    all_goals simp_all
    all_goals omega
   rw [List.foldl_cons,List.foldl_cons,e]
   exact ih _ (ZoV ha hx) fun t ht=>h t (by simp [ht])
 cases l with
 | nil=>exact absurd rfl hn
 | cons x r=>
  have hx:=h x (by simp)
  have e:ZpG true (-1) (T x)=ZmA (T x) (T x):=by
   unfold ZpG ZmA Bl at *
   repeat' split
   all_goals simp_all
   all_goals omega
  unfold ZmB
  rw [List.foldl_cons,List.foldl_cons,e]
  exact (hg r _ (ZoV hx hx) fun t ht=>h t (by simp [ht])).1
def ZpR (m:Md) (l:List In3):Prop:=∀ i∈l,i.op=26→ZaN m i.a≠[]
section
variable {x:Ms}{m:Md}{T T':Int→Int}{l:List In3}{k:Nat} (hv:∀ i∈l,ZaQ false i=true∧ZaW m k i=true) (hsd:ZpR m l)
include hv hsd
theorem ZpS (hw:∀ i∈l,0≤x.wt i∧x.wt i≤1000) (ht:0≤x.tl∧x.tl≤1000) (h32:x.sc=true→∀ i∈l,i.op=32→x.wt i=0) (hT:∀ t:Int,0≤t→t<k→T t=T' t) (hT':∀ t,Bd (T' t)) {a b:Nat} (hs:Seg l a b) :
  ∀ acc,Bd acc→WA (gR false x m T) l a b acc=WA (gW x m T') l a b acc∧Bd (WA (gR false x m T) l a b acc):=by
 have h0:Bd 0:=by unfold Bd;omega
 have ha:∀ i∈l,i.op≠1→0≤i.a:=fun i hi=>(ZfS (hv i hi).1 (hv i hi).2).a0
 refine ZpJ hs h0 (fun a b ha hb=>by rw [show (gR false x m T).plus a b=ZpE a b from rfl,ZpK ha hb];exact ⟨rfl,ZnB ha hb⟩) (fun i hi=>?_) (fun i hi f s hf hs=>?_)
 ·have hb:=ZnF (m:=m) hw ht hT' ha i hi
  have hwi:=hw i hi
  have ho:=ZfS (hv i hi).1 (hv i hi).2
  have hbw:Bd (x.wt i):=by unfold Bd;omega
  have hc:ZpH false m T i=if i.op=25 then T' i.a else if i.op=26 then Zmy T' (ZaN m i.a) else 0:=by
   unfold ZpH
   by_cases h25:i.op=25
   ·rw [if_pos h25,if_pos h25]
    exact hT _ (ho.a0 (by omega)) (ho.o25 h25).1
   ·rw [if_neg h25,if_neg h25]
    by_cases h26:i.op=26
    ·rw [if_neg (by omega),if_pos h26,←ZpP (hsd i hi h26) fun t _=>hT' t]
     have:∀ (L:List Int),(∀ t∈L,T t=T' t)→∀ a,L.foldl (fun a t=>ZpG false a (T t)) a=L.foldl (fun a t=>ZpG false a (T' t)) a:=by
      exact kC3
     exact this _ (fun t ht=>hT _ (ZfT ht) ((ho.o26 h26).2 t ht)) _
    ·rw [if_pos h26,if_neg h26]
  have hcb:Bd (ZpH false m T i):=by
   rw [hc]
   split
   ·exact hT' _
   ·split
    ·exact ZnE fun t _=>hT' t
    ·exact h0
  have e:(gR false x m T).pl i=Zmu (x.wt i) (ZpH false m T i):=by
   show (if false=true∧i.op=28 then (-1:Int) else if ZpH false m T i=-1 then (-1:Int) else Zmu (x.wt i) (ZpH false m T i))=_
   rw [if_neg (by simp),if_neg (by unfold Bd at hcb;omega)]
  refine ⟨?_,by rw [e];exact ZnB hbw hcb⟩
  rw [e,hc]
  show _=if i.op=25 then _ else if i.op=26 then _ else _
  split
  ·rfl
  ·split
   ·rfl
   ·unfold Zmu Zmt;omega
 ·have hwi:=hw i hi
  have hbw:Bd (x.wt i):=by unfold Bd;omega
  have htl:Bd x.tl:=by unfold Bd;omega
  have hb:=ZnG (m:=m) hw ht hT' ha i hi f s hf hs
  have e:(gR false x m T).brk i f s=(gW x m T').brk i f s:=by
   show ZpI false x.sc i f s (x.wt i) x.tl=if i.op=29 then _ else if i.op=30 then _ else if i.op=32∧x.sc=true then _ else if i.op=33 then _ else _
   unfold ZpI
   simp only [Bool.false_eq_true,if_false]
   rw [ZpK hf htl,ZpK hs htl,ZpK hbw (ZnD (ZnB hf htl) (ZnB hs htl)),ZpK hbw (ZnB hf htl)]
   by_cases h29:i.op=29
   ·rw [if_pos h29,if_pos h29]
   ·rw [if_neg h29,if_neg h29]
    by_cases h30:i.op=30
    ·rw [if_pos h30,if_pos h30]
    ·rw [if_neg h30,if_neg h30]
     by_cases hsc:i.op=32∧x.sc=true
     ·rw [if_pos hsc,if_pos hsc,h32 hsc.2 i hi hsc.1]
     ·rw [if_neg hsc,if_neg hsc]
      by_cases h33:i.op=33
      ·rw [if_pos h33,if_pos h33]
       unfold Zmu Zmt Bd at *
       omega
      ·rw [if_neg h33,if_neg h33]
  exact ⟨e,e▸hb⟩
theorem ZpT (hT:∀ t:Int,0≤t→t<k→T t=T' t) (hT':∀ t,Bl (T' t)) {a b:Nat} (hs:Seg l a b) :
  ∀ acc,Bl acc→WA (gR true Zmx m T) l a b acc=WA (gL m T') l a b acc∧Bl (WA (gR true Zmx m T) l a b acc):=by
 have h0:Bl 0:=by unfold Bl;omega
 have h1:Bl 1:=by unfold Bl;omega
 have hv':∀ i∈l,ZaQ false i=true:=fun i hi=>(hv i hi).1
 refine ZpJ hs h0 (fun a b ha hb=>⟨ZpL ha hb,ZpM ha hb⟩) (fun i hi=>?_) (fun i hi f s hf hs=>?_)
 ·have hb:=Zo6 (m:=m) hv' hT' i hi
  have hwi:=ZoD (hv i hi).1
  have ho:=ZfS (hv i hi).1 (hv i hi).2
  have hbw:Bl (Zmw i):=by unfold Bl;omega
  have hc:ZpH true m T i=if i.op=25 then T' i.a else if i.op=26 then ZmB T' (ZaN m i.a) else 0:=by
   unfold ZpH
   by_cases h25:i.op=25
   ·rw [if_pos h25,if_pos h25]
    exact hT _ (ho.a0 (by omega)) (ho.o25 h25).1
   ·rw [if_neg h25,if_neg h25]
    by_cases h26:i.op=26
    ·rw [if_neg (by omega),if_pos h26,←ZpQ (hsd i hi h26) fun t _=>hT' t]
     have:∀ (L:List Int),(∀ t∈L,T t=T' t)→∀ a,L.foldl (fun a t=>ZpG true a (T t)) a=L.foldl (fun a t=>ZpG true a (T' t)) a:=by
      exact kC3
     exact this _ (fun t ht=>hT _ (ZfT ht) ((ho.o26 h26).2 t ht)) _
    ·rw [if_pos h26,if_neg h26]
  have e:(gR true Zmx m T).pl i=(gL m T').pl i:=by
   show (if true=true∧i.op=28 then _ else if ZpH true m T i=-1 then _ else Zmu (Zmw i) _)=if i.op=25 then _ else if i.op=26 then _ else if i.op=28 then _ else _
   rw [hc]
   have hq:∀ n,Bl n→(if n=-1 then (-1:Int) else Zmu (Zmw i) n)=Zmz (Zmw i) n:=fun n hn=>by
    unfold Zmz Bl at *
    by_cases q:n=-1
    ·rw [if_pos q,if_pos (by omega)]
    ·rw [if_neg q,if_neg (by omega)]
   by_cases h25:i.op=25
   ·rw [if_neg (by omega),if_pos h25,if_pos h25]
    exact hq _ (hT' _)
   ·rw [if_neg h25,if_neg h25]
    by_cases h26:i.op=26
    ·rw [if_neg (by omega),if_pos h26,if_pos h26]
     exact hq _ (Zo5 hT')
    ·rw [if_neg h26,if_neg h26]
     by_cases h28:i.op=28
     ·rw [if_pos ⟨rfl,h28⟩,if_pos h28]
     ·rw [if_neg (fun q=>h28 q.2),if_neg (by decide),if_neg h28]
      unfold Zmu Zmt;omega
  exact ⟨e,e▸hb⟩
 ·have hwi:=ZoD (hv i hi).1
  have hbw:Bl (Zmw i):=by unfold Bl;omega
  have hb:=Zo7 (m:=m) (T:=T') hv' hT' i hi f s hf hs
  have e:(gR true Zmx m T).brk i f s=(gL m T').brk i f s:=by
   show ZpI true false i f s (Zmw i) 1=if i.op=29∨i.op=33 then _ else if i.op=30 then _ else _
   unfold ZpI
   have hls:ZpE (Zmw i) (ZpF (ZpE f 1) (ZpE s 1))=Zmz (Zmw i) (Zmz (ZmA f s) 1):=by
    rw [ZpL hf h1,ZpL hs h1,ZpN (ZoU hf h1) (ZoU hs h1),ZpO hf hs,ZpL hbw (ZoU (ZoV hf hs) h1)]
   rw [if_pos rfl,if_pos rfl,if_pos rfl,hls,ZpL hf h1,ZpL hbw (ZoU hf h1),if_neg (show ¬ (i.op=32∧false=true) by simp)]
   repeat' split
   all_goals first|rfl|omega
  exact ⟨e,e▸hb⟩
end
theorem ZpU {l:Bool}{x:Ms}{m:Md}{T:Int→Int}{c:List In3}{a b:Nat} (hs:Seg c a b):WA (gR l x m T) c a b (-1)=-1:=by
 have hp:∀ n,(gR l x m T).plus (-1) n=-1:=fun n=>by show ZpE (-1) n=-1;unfold ZpE;rw [if_pos (.inl rfl)]
 induction hs with
 | nil a h=>rw [Zml]
 | pl a b q1 q2 q3 q4 q5 ih=>rw [Zmm q2 q5,hp];exact ih
 | one a en b q1 q2 q3 i1 i2=>rw [Zmn q1 q2 q3,hp];exact i2
 | two a n en b q1 q2 q3 q4 i1 i2 i3=>rw [Zmo q1 q2 q3 q4,hp];exact i3
end
section
open Go.RowKit
theorem ZpV {s t:List Br × Nat}{i:In3} (h:ZaS s i=some t) (hs:s.1.length≤s.2):t.1.length≤t.2:=by
 obtain ⟨S,D⟩:=s
 unfold ZaS at h
 split at h
 ·cases h;simp;omega
 ·split at h
  ·cases S with
   | nil=>cases h
   | cons b r=>
    dsimp only at h
    split at h
    ·cases h;simp at hs ⊢;omega
    ·cases h
  ·split at h
   ·cases S with
    | nil=>cases h
    | cons b r=>
     dsimp only at h
     split at h
     ·cases h
     ·cases h;simp at hs ⊢;omega
   ·cases h;exact hs
theorem ZpW:∀ (l:List In3) (s t:List Br × Nat),ZaT s l=some t→s.1.length≤s.2→t.1.length≤t.2
 | [],s,t,h,hs=>by cases h;exact hs
 | i :: l,s,t,h,hs=>by
  unfold ZaT at h
  split at h
  ·cases h
  ·rename_i u hu
   exact ZpW l u t h (ZpV hu hs)
theorem ZpX {l:List In3} (hv:ZaU l=true) {k:Nat} (h:Za8 l k):False:=by
 unfold ZaU at hv
 split at hv
 ·cases hv
 ·rename_i st d hf
  simp only [Bool.and_eq_true,List.isEmpty_iff] at hv
  obtain ⟨rfl,_⟩:=hv
  rw [←List.take_append_drop k l,Za2] at hf
  cases h1:ZaT ([],0) (l.take k) with
  | none=>rw [h1] at hf;cases hf
  | some t=>
   rw [h1] at hf
   obtain ⟨S,D⟩:=t
   exact h S D (ZpW _ _ _ h1 (Nat.le_refl _)) _ hf rfl
theorem ZpY (l:List In3) (ao:Option Addr) (cap:Nat) (w:World) (hl:Zar w ao cap l) (hv:ZaV false l=0) {k en:Nat}{alt:Int} (hm:Mat l k alt en) :
    Calls Tryz.prog 47 #[.slice ao l.length cap,.int .i64 k] w (Ret w (.tuple #[.int .i64 alt,.int .i64 en,.int .i64 0])):=by
 have hcl:=(Znj hv).1
 have hk:=hm.1
 have hk2:(k:Int) < l.length:=by omega
 have HC:=Zh (ZgK l ao cap false w hl)
 rw [hv] at HC
 have hop:ZaR (l.getD k default).op=true:=hm.2.1
 have HB:=Zh (fun w' hb=>ZgH l ao cap w' (Zar.old hl (w':=w') hb) (by omega) l.length (ZgI l ao cap w' (Zar.old hl hb) (by omega) l.length) k hk (by omega) hop)
 have HL:=Zh (fun w' hb=>ZaA (Zar.old hl (w':=w') hb) hk)
 have HM:=Zh hm
 have HN:=Zh (Znj hv).2.2
 obtain ⟨op,ho⟩:∃ o,o=(l.getD k default).op:=⟨_,rfl⟩
 rw [←ho] at hop HL
 have HOp:=Zh hop
 clear ho hop hl hv hm
 go_enter Tryz.func47,Tryz.ntmps47
 go_wp2_with (first
   | (go_at_call 53;refine HC.out.mono ?_;rintro e w1 ⟨rfl,hb1⟩;have HB1:=Zh hb1;obtain ⟨ad,rfl,o0,-,-⟩:=HL.out _ hb1;clear hb1)
   | (go_at_call 81;refine (ZeO _ _).mono ?_;rintro e w2 ⟨rfl,rfl⟩;rw [HOp.out])
   | (go_at_call 82;refine (HB.out _ HB1.out).mono ?_;rintro e w3 ⟨hbr,rfl⟩
      obtain ⟨alt',en',d',rfl,hm'⟩:∃ (alt':Int) (en' d':Nat),e=.returned (.tuple #[.int .i64 alt',.int .i64 en',.int .i64 d'])∧Mat l k alt' en':=by
        rcases hbr with ⟨alt',n',d',e1,-,-,-,hm'⟩|⟨-,hst⟩
        · exact ⟨alt',n',d',e1,hm'⟩
        · exact (ZpX HN.out hst).elim
      obtain ⟨rfl,rfl⟩:=Prod.mk.inj ((Zmd HM.out).symm.trans (Zmd hm'))))
 go_ret3
 exact ZcT rfl HB1.out
theorem ZpZ (a b:Int) (w:World) (ha:-2000≤a∧a≤1000000001) (hb:-2000≤b∧b≤1000000001):Calls Tryz.prog 66 #[.int .i64 a,.int .i64 b] w (Ret w (.int .i64 (Zmu a b))):=by
 obtain ⟨a0,a1⟩:=ha
 obtain ⟨b0,b1⟩:=hb
 generalize hq:Zmu a b=q
 have HQ:=Zh hq
 clear hq
 go_enter Tryz.func66,Tryz.ntmps66
 go_wp2
 all_goals
  go_ret
  exact ZcT (ZcY (by rw [←HQ.out];unfold Zmu Zmt;omega)) bE
theorem Zp0 (a b:Int) (w:World) (h1:-1000≤a*b) (h2:a*b≤1000000001000):Calls Tryz.prog 48 #[.int .i64 a,.int .i64 b] w (Ret w (.int .i64 (Zmv a b))):=by
 have h3:IntKind.i64.wrap (a*b)=a*b:=IntWalk.i64_in _ (by omega)
 have H3:=Zh h3
 generalize hq:Zmv a b=q
 have HQ:=Zh hq
 clear hq
 go_enter Tryz.func48,Tryz.ntmps48
 go_wp2
 all_goals
  go_ret
  exact ZcT (ZcY (by rw [←HQ.out];unfold Zmv Zmt;omega)) bE
theorem Zp1 (a b:Int) (w:World) (ha:Bl a) (hb:Bl b):Calls Tryz.prog 162 #[.int .i64 a,.int .i64 b] w (Ret w (.int .i64 (ZpE a b))):=by
 obtain ⟨a0,a1⟩:=ha
 obtain ⟨b0,b1⟩:=hb
 generalize hq:ZpE a b=q
 have HQ:=Zh hq
 clear hq
 go_enter Tryz.func162,Tryz.ntmps162
 go_wp2_with (go_at_call 66;refine (ZpZ a b _ ⟨by omega,a1⟩ ⟨by omega,b1⟩).mono ?_;rintro e w1 ⟨rfl,hb1⟩)
 all_goals
  go_ret
  refine ZcT (ZcY ?_) bE
  rw [←HQ.out]
  unfold ZpE
  grind
theorem Zp2 (a b:Int) (w:World):Calls Tryz.prog 163 #[.int .i64 a,.int .i64 b] w (Ret w (.int .i64 (ZpF a b))):=by
 generalize hq:ZpF a b=q
 have HQ:=Zh hq
 clear hq
 go_enter Tryz.func163,Tryz.ntmps163
 go_wp2
 all_goals
  go_ret
  refine ZcT (ZcY ?_) bE
  rw [←HQ.out]
  unfold ZpF
  grind
theorem Zp3 (n:Int) (w:World):Calls Tryz.prog 59 #[.int .i64 n] w (Zhf w (.int .i64 (if 1000000000<n then 0 else n)) (.int .i64 (if 1000000000<n then 6 else 0))):=by
 by_cases h:1000000000<n
 all_goals
  first|rw [if_pos h,if_pos h]|rw [if_neg h,if_neg h]
  go_enter Tryz.func59,Tryz.ntmps59
  go_wp2
  go_ret2
  exact Zhg rfl rfl bE
end
section
open Go.RowKit
theorem Zp4 (m:Md) (h:Hd) (w:World) (H:Zay w h m):Calls Tryz.prog 61 #[.agg #[.slice h.co m.cl.length h.cc,.slice h.so m.st.length h.sc,.slice h.eo m.me.length h.ec,.int .i64 m.sel]] w (Ret w (.int .i64 (if (Zl6 m).2.2=0 then 0 else 1))):=by
 have HC:=Zh (fun w' hb=>Zji m h w' (H.old (w':=w') hb))
 have HV:=Zh (fun w' hb=>Zma w' h m (H.old (w':=w') hb))
 have hmv:Za1 m=false→(Zl6 m).2.2=1:=fun q=>by unfold Zl6;rw [if_neg (by rw [q];decide)]
 obtain ⟨q,hq⟩:∃ q:Int,q=if (Zl6 m).2.2=0 then 0 else 1:=⟨_,rfl⟩
 rw [←hq]
 obtain ⟨⟨z0,z1,z2⟩,hz⟩:∃ z,z=Zl6 m:=⟨_,rfl⟩
 rw [←hz] at HV hq hmv
 dsimp only at hq hmv
 have HQ:=Zh hq
 have HB0:=Zh (show Below w.heap.size w (w.alloc (.cells #[.slice h.co m.cl.length h.cc,.slice h.so m.st.length h.sc,.slice h.eo m.me.length h.ec,.int .i64 m.sel] 26)) by exact bE)
 have HX0:=Zh (Blk.new w #[.slice h.co m.cl.length h.cc,.slice h.so m.st.length h.sc,.slice h.eo m.me.length h.ec,.int .i64 m.sel] 26)
 rcases hm:Za1 m with _|_
 ·have e1:q=1:=by rw [hq,hmv hm];rfl
  have HE:=Zh e1
  rw [hm] at HC
  clear H hz hq hm hmv e1
  go_enter Tryz.func61,Tryz.ntmps61
  go_wp2_with (go_at_call 94;refine (HC.out _ HB0.out).mono ?_;rintro e w1 ⟨rfl,hb1⟩)
  go_ret
  exact ZcT (ZcY HE.out.symm) (Zaf HB0.out hb1)
 ·rw [hm] at HC
  clear H hz hq hm hmv
  go_enter Tryz.func61,Tryz.ntmps61
  go_wp2_with (first
   | (go_at_call 94;refine (HC.out _ HB0.out).mono ?_;rintro e w1 ⟨rfl,hb1⟩;have HB1:=Zh (Zaf HB0.out hb1);have HX1:=Zh (HX0.out.old hb1);have x0:=HX1.out.cell 0 (v:=.slice h.co m.cl.length h.cc) rfl;have x1:=HX1.out.cell 1 (v:=.slice h.so m.st.length h.sc) rfl;have x2:=HX1.out.cell 2 (v:=.slice h.eo m.me.length h.ec) rfl;have x3:=HX1.out.cell 3 (v:=.int .i64 m.sel) rfl;clear hb1)
   | (go_at_call 95;refine (HV.out _ HB1.out).mono ?_;rintro e w2 ⟨rfl,hb2⟩;have HB2:=Zh (Zaf HB1.out hb2);clear hb2))
  all_goals
   go_ret
   refine ZcT (ZcY ?_) HB2.out
   rw [HQ.out]
   grind
theorem Zp5 (m:Md) (h:Hd) (k:Int) (w:World) (H:Zay w h m):Calls Tryz.prog 46 #[.agg #[.slice h.co m.cl.length h.cc,.slice h.so m.st.length h.sc,.slice h.eo m.me.length h.ec,.int .i64 m.sel],.int .i64 k] w (Ret w (.int .i64 (if ZoO m k=true then 0 else 1))):=by
 have HF:=Zh (fun w' hb=>Zp4 m h w' (H.old (w':=w') hb))
 obtain ⟨q,hq⟩:∃ q:Int,q=if ZoO m k=true then 0 else 1:=⟨_,rfl⟩
 rw [←hq]
 obtain ⟨z,hz⟩:∃ z:Int,z=if (Zl6 m).2.2=0 then 0 else 1:=⟨_,rfl⟩
 have hq2:q=if z=0∧0≤k∧k<m.me.length then 0 else 1:=by
  rw [hq,hz]
  unfold ZoO inV
  by_cases h1:(Zl6 m).2.2=0
  ·simp [h1]
  ·simp [h1]
 rw [←hz] at HF
 have HZ:=Zh (show z=0∨z=1 by rw [hz];split<;>simp)
 have HQ:=Zh hq2
 have HB0:=Zh (show Below w.heap.size w (w.alloc (.cells #[.slice h.co m.cl.length h.cc,.slice h.so m.st.length h.sc,.slice h.eo m.me.length h.ec,.int .i64 m.sel] 26)) by exact bE)
 have HX0:=Zh (Blk.new w #[.slice h.co m.cl.length h.cc,.slice h.so m.st.length h.sc,.slice h.eo m.me.length h.ec,.int .i64 m.sel] 26)
 clear H hq hz hq2
 go_enter Tryz.func46,Tryz.ntmps46
 go_wp2_with (go_at_call 61;refine (HF.out _ HB0.out).mono ?_;rintro e w1 ⟨rfl,hb1⟩;have x2:=(HX0.out.old hb1).cell 2 (v:=.slice h.eo m.me.length h.ec) rfl;have HB1:=Zh (Zaf HB0.out hb1);clear hb1)
 all_goals
  go_ret
  refine ZcT (ZcY ?_) HB1.out
  have:=HZ.out
  rw [HQ.out]
  grind
def rcV (k:Int) (a:Int):Int:=if k=8∨k=18∨k=19∨k=23∨k=28 then 3 else if k=9 then 8 else if k=14 then 12 else if k=15∨k=16 then 4+a else if k=17∨k=21∨k=22∨k=24∨k=27∨k=30∨k=31∨k=33 then 2 else if k=20∨k=25∨k=32 then 4 else if k=26 then 6 else 1
theorem Zp6 {i:In3} (h:ZaQ false i=true):Zmw i=rcV i.op i.a:=by
 have hop:=Znf h
 obtain ⟨op,a,b⟩:=i
 dsimp only at hop ⊢
 obtain ⟨k,rfl⟩:∃ k:Nat,op=k:=⟨op.toNat,by omega⟩
 have hk:k<36:=by omega
 have h1:∀ k,k<36→((opC.getD k 0:Nat):Int)=rcV k 0:=by decide
 unfold Zmw
 rw [Int.toNat_natCast,h1 k hk]
 unfold rcV
 grind
theorem Zp7 (i:In3) (w:World) (hv:ZaQ false i=true):Calls Tryz.prog 16 #[.agg #[.int .i64 i.op,.int .i64 i.a,.int .i64 i.b]] w (Zhf w (.int .i64 (Zmw i)) (.int .i64 0)):=by
 have hop:=Znf hv
 have hla:=ZoF hv
 have HV:=Zh (fun w'=>Zgy i false w')
 rw [hv] at HV
 obtain ⟨q,hq⟩:∃ q,q=Zmw i:=⟨_,rfl⟩
 rw [←hq]
 rw [Zp6 hv] at hq
 obtain ⟨op,a,b⟩:=i
 dsimp only at hop HV hla hq
 have HQ:=Zh hq
 have HLa:=Zh hla
 have HX:=Zh (Blk.new w #[.int .i64 op,.int .i64 a,.int .i64 b] 42)
 have HB0:=Zh (show Below w.heap.size w (w.alloc (.cells #[.int .i64 op,.int .i64 a,.int .i64 b] 42)) by exact bE)
 have hwa:op=15∨op=16→IntKind.i64.wrap (4+a)=4+a:=fun h=>IntWalk.i64_in _ (by have:=hla h;omega)
 clear hq hv hla
 go_enter Tryz.func16,Tryz.ntmps16
 go_wp2_with (first
  | (go_at_call 49;refine (HV.out _).mono ?_;rintro e w1 ⟨rfl,hb1⟩;have HX1:=Zh (HX.out.old hb1);have HB1:=Zh (Zaf HB0.out hb1);have x0:=HX1.out.cell 0 (v:=.int .i64 op) rfl;have x1:=HX1.out.cell 1 (v:=.int .i64 a) rfl;clear hb1))
 all_goals
  go_ret2
  refine Zhg (ZcY ?_) rfl HB1.out
  rw [HQ.out]
  unfold rcV
  have hwb:op=15∨op=16→wrap64 (4+a)=4+a:=fun q=>by have:=HLa.out q;unfold wrap64;omega
  grind
end
section
open Go.RowKit
structure RT (w:World) (B g:Nat) (h:Hd) (m:Md) (bv:Int) (l:Bool) (L:List Int):Prop where
 tb:Blk w B #[.slice h.co m.cl.length h.cc,.slice h.so m.st.length h.sc,.slice h.eo m.me.length h.ec,.int .i64 m.sel,.int .i64 bv,.bool l,.slice (some ⟨g,0,none⟩) m.me.length m.me.length] 90
 nb:Blk w g (Zol L) 3
 md:Zay w h m
 ln:L.length=m.me.length
theorem RT.old {w w':World}{B g:Nat}{h:Hd}{m:Md}{bv:Int}{l:Bool}{L:List Int} (H:RT w B g h m bv l L) (hb:Below w.heap.size w w'):RT w' B g h m bv l L:=⟨H.tb.old hb,H.nb.old hb,H.md.old hb,H.ln⟩
def tlV (bv:Int):Int:=if bv=0 then 1 else 0
def scV (bv:Int):Bool:=decide (bv≠0)&&decide (bv≠4)
def Zp8 (bv:Int) (m:Md) (x:Ms) (c:List In3):Prop:=∀ i∈c,∀ w h,Zay w h m→Calls Tryz.prog 116 #[.agg #[.slice h.co m.cl.length h.cc,.slice h.so m.st.length h.sc,.slice h.eo m.me.length h.ec,.int .i64 m.sel],.agg #[.int .i64 i.op,.int .i64 i.a,.int .i64 i.b],.int .i64 bv] w (Ret w (.int .i64 (x.wt i)))
theorem Zp9 {m:Md}{c:List In3} (hv:∀ i∈c,ZaQ false i=true):Zp8 0 m Zmx c:=fun i hi w h H=>by
 have HC:=Zh (fun w'=>Zp7 i w' (hv i hi))
 obtain ⟨q,hq⟩:∃ q,q=Zmw i:=⟨_,rfl⟩
 rw [←hq] at HC
 rw [show Zmx.wt i=q from hq.symm]
 clear hq hi
 obtain ⟨op,a,b⟩:=i
 go_enter Tryz.func116,Tryz.ntmps116
 go_wp2_with (go_at_call 16;refine (HC.out _).mono ?_;rintro e w1 ⟨rfl,hb1⟩)
 go_ret
 exact ZcT rfl bE
theorem Zqa {w:World}{B g:Nat}{h:Hd}{m:Md}{bv:Int}{l:Bool}{L:List Int} (H:RT w B g h m bv l L):Calls Tryz.prog 118 #[.pointer (some ⟨B,0,none⟩)] w (Ret w (.int .i64 (tlV bv))):=by
 have x4:=H.tb.cell 4 (v:=.int .i64 bv) rfl
 have hl:=H.tb.lt
 obtain ⟨q,hq⟩:∃ q,q=tlV bv:=⟨_,rfl⟩
 rw [←hq]
 unfold tlV at hq
 have HQ:=Zh hq
 clear hq H
 go_enter Tryz.func118,Tryz.ntmps118
 go_wp2
 all_goals
  go_ret
  refine ZcT (ZcY ?_) bE
  rw [HQ.out]
  grind
theorem Zqb {a b:Int} (ha:Bl a) (hb:Bl b):Bl (ZpF a b):=ZpN ha hb▸ZoV ha hb
theorem Zqc {a b:Int} (ha:Bl a) (hb:Bl b):Bl (max a b):=by unfold Bl at *;omega
theorem Zqd {w:World}{B g:Nat}{h:Hd}{m:Md}{bv:Int}{l:Bool}{L:List Int} (H:RT w B g h m bv l L) (i:In3) (f s o t:Int) (hf:Bl f) (hs:Bl s) (ho:0≤o∧o≤1000) (ht:0≤t∧t≤1000) (hi:i.op=30→0≤i.a∧i.a≤1000) :
  Calls Tryz.prog 117 #[.pointer (some ⟨B,0,none⟩),.agg #[.int .i64 i.op,.int .i64 i.a,.int .i64 i.b],.int .i64 f,.int .i64 s,.int .i64 o,.int .i64 t] w (Ret w (.int .i64 (ZpI l (scV bv) i f s o t))):=by
 have hob:Bl o:=by unfold Bl;omega
 have htb:Bl t:=by unfold Bl;omega
 obtain ⟨q,hq⟩:∃ q,q=ZpI l (scV bv) i f s o t:=⟨_,rfl⟩
 rw [←hq]
 obtain ⟨op,a,b⟩:=i
 dsimp only at hi
 unfold ZpI at hq
 dsimp only at hq
 have HQ:=Zh hq
 obtain ⟨w0,hw0⟩:∃ w0,w0=w.alloc (.cells #[.int .i64 op,.int .i64 a,.int .i64 b] 42):=⟨_,rfl⟩
 have HB:=Zh (show Below w.heap.size w w0 by rw [hw0];exact bE)
 have HX:=Zh (show Blk w0 w.heap.size #[.int .i64 op,.int .i64 a,.int .i64 b] 42 by rw [hw0];exact Blk.new _ _ _)
 have HT:=Zh (H.tb.old HB.out)
 have HBz:=Zh (show Below w0.heap.size w0 w0 by exact bE)
 have HW:=Zh hw0
 clear hw0 H hq
 go_enter Tryz.func117,Tryz.ntmps117
 go_upto_region 1 with fail
 rw [←HW.out]
 have x0:=HX.out.cell 0 (v:=.int .i64 op) rfl
 have x1:=HX.out.cell 1 (v:=.int .i64 a) rfl
 have x4:=HT.out.cell 4 (v:=.int .i64 bv) rfl
 have x5:=HT.out.cell 5 (v:=.bool l) rfl
 by_cases h30:op=30
 ·subst h30
  have hi2:=hi rfl
  cases l with
  | true=>
   go_wp2
   go_ret
   exact ZcT (ZcY (by rw [HQ.out];rfl)) (Zaf HB.out HBz.out)
  | false=>
   have hm0:-1000≤a*Zmu f t:=by
    have h1:-1≤Zmu f t:=by unfold Zmu Zmt Bl at *;omega
    have h2:=Int.mul_le_mul_of_nonneg_left h1 hi2.1
    omega
   have hm1:a*Zmu f t≤1000000001000:=by
    by_cases h0:0≤Zmu f t
    ·exact Int.le_trans (Int.mul_le_mul hi2.2 (show Zmu f t≤1000000001 by unfold Zmu Zmt;omega) h0 (by decide)) (by decide)
    ·have:=Int.mul_nonpos_of_nonneg_of_nonpos hi2.1 (show Zmu f t≤0 by omega)
     omega
   have hm2:-1000≤Zmv a (Zmu f t)∧Zmv a (Zmu f t)≤1000000001:=by unfold Zmv Zmt;omega
   have HMu:=Zh (And.intro (And.intro hm0 hm1) hm2)
   clear hm0 hm1 hm2
   go_upto_region 10 with fail
   refine rO (Cs [(⟨w.heap.size,1,none⟩,.int .i64 a)]) (oL [0,1,2,3,4,105,106,107,8]) ⟨x1,trivial⟩ ?_
   clear x0 x1 x4 x5
   repeat refine pO ?_
   refine oO fun Kv hK=>?_
   go_simp
   refine (ZpZ f t _ (by unfold Bl at hf;omega) (by omega)).mono ?_
   rintro e w1 ⟨rfl,hb1⟩
   have HB1:=Zh (Zaf (Below.refl w0.heap.size w0).drew hb1)
   refine hK _ _ ⟨⟨(HX.out.old HB1.out).cell 1 (v:=.int .i64 a) rfl,trivial⟩,?_⟩
   clear hK Kv hb1
   repeat refine pO ?_
   refine oO fun Kv hK=>?_
   go_simp
   refine (Zp0 a (Zmu f t) _ HMu.out.1.1 HMu.out.1.2).mono ?_
   rintro e w2 ⟨rfl,hb2⟩
   have HB2:=Zh (Zaf HB1.out hb2)
   refine hK _ _ ⟨⟨(HX.out.old HB2.out).cell 1 (v:=.int .i64 a) rfl,trivial⟩,?_⟩
   clear hK Kv hb2
   repeat refine pO ?_
   refine oO fun Kv hK=>?_
   go_simp
   refine (ZpZ o (Zmv a (Zmu f t)) _ (by omega) (by have:=HMu.out.2;omega)).mono ?_
   rintro e w3 ⟨rfl,hb3⟩
   have HB3:=Zh (Zaf HB2.out hb3)
   refine hK _ _ ⟨⟨(HX.out.old HB3.out).cell 1 (v:=.int .i64 a) rfl,trivial⟩,?_⟩
   clear hK Kv hb3
   repeat refine pO ?_
   refine Zd5 ?_
   go_wp2
   go_ret
   exact ZcT (ZcY (by rw [HQ.out];rfl)) (Zaf HB.out HB3.out)
 ·go_wp2_with (first
   | (go_at_call 162;refine (Zp1 _ _ _ (by (repeat (first|assumption|apply ZpM|apply Zqb|apply Zqc))) (by (repeat (first|assumption|apply ZpM|apply Zqb|apply Zqc)))).mono ?_;rintro e wn ⟨rfl,hbn⟩;have HBz:=Zh (Zaf HBz.out hbn);clear hbn x0 x1 x4 x5;have x0:=(HX.out.old HBz.out).cell 0 (v:=.int .i64 op) rfl;have x1:=(HX.out.old HBz.out).cell 1 (v:=.int .i64 a) rfl;have x4:=(HT.out.old HBz.out).cell 4 (v:=.int .i64 bv) rfl;have x5:=(HT.out.old HBz.out).cell 5 (v:=.bool l) rfl)
   | (go_at_call 163;refine (Zp2 _ _ _).mono ?_;rintro e wn ⟨rfl,hbn⟩;have HBz:=Zh (Zaf HBz.out hbn);clear hbn x0 x1 x4 x5;have x0:=(HX.out.old HBz.out).cell 0 (v:=.int .i64 op) rfl;have x1:=(HX.out.old HBz.out).cell 1 (v:=.int .i64 a) rfl;have x4:=(HT.out.old HBz.out).cell 4 (v:=.int .i64 bv) rfl;have x5:=(HT.out.old HBz.out).cell 5 (v:=.bool l) rfl)
   | (go_at_call 66;refine (ZpZ _ _ _ (by unfold Bl Zmu Zmt at *;omega) (by unfold Bl Zmu Zmt at *;omega)).mono ?_;rintro e wn ⟨rfl,hbn⟩;have HBz:=Zh (Zaf HBz.out hbn);clear hbn x0 x1 x4 x5;have x0:=(HX.out.old HBz.out).cell 0 (v:=.int .i64 op) rfl;have x1:=(HX.out.old HBz.out).cell 1 (v:=.int .i64 a) rfl;have x4:=(HT.out.old HBz.out).cell 4 (v:=.int .i64 bv) rfl;have x5:=(HT.out.old HBz.out).cell 5 (v:=.bool l) rfl))
  all_goals
   go_ret
   refine ZcT (ZcY ?_) (Zaf HB.out HBz.out)
   rw [HQ.out]
   unfold scV
   grind
end
section
open Go.RowKit
theorem Zqe {l:List Int}{k:Nat} (h:k<l.length):l.getD k 0∈l:=by
 have:l.getD k 0=l[k]:=by simp [h]
 rw [this]
 exact List.getElem_mem _
def Zqf (L:List Int):Int→Int:=fun t=>L.getD t.toNat 0
def Zqg (l:Bool) (T:Int→Int) (ts:List Int) (j:Nat):Int:=(ts.take j).foldl (fun a t=>ZpG l a (T t)) (-1)
theorem Zqh {l:Bool}{T:Int→Int}{ts:List Int}{j:Nat} (hj:j<ts.length):Zqg l T ts (j+1)=ZpG l (Zqg l T ts j) (T (ts.getD j 0)):=by
 unfold Zqg
 rw [List.take_succ_eq_append_getElem hj,List.foldl_append]
 have hx:ts[j]=ts.getD j 0:=by simp [hj]
 rw [hx]
 rfl
theorem Zqi {m:Md} (h:Za1 m=true):m.cl.length≤10∧m.me.length≤16:=by
 have:=ZfJ h
 unfold ZaZ at this
 simp only [Bool.and_eq_true,decide_eq_true_eq] at this
 omega
theorem Zqj {w:World}{B g:Nat}{h:Hd}{m:Md}{bv:Int}{l:Bool}{L:List Int} (H:RT w B g h m bv l L) (hm:Za1 m=true) (i:In3) (h25:i.op=25→0≤i.a∧i.a<m.me.length) (h26:i.op=26→0≤i.a∧i.a<m.sel∧∀ t∈ZaN m i.a,0≤t∧t<m.me.length) :
  Calls Tryz.prog 115 #[.pointer (some ⟨B,0,none⟩),.agg #[.int .i64 i.op,.int .i64 i.a,.int .i64 i.b]] w (Ret w (.int .i64 (ZpH l m (Zqf L) i))):=by
 have HMe:=Zh (show m.me.length≤1000 by have:=(Zqi hm);omega)
 obtain ⟨q,hq⟩:∃ q,q=ZpH l m (Zqf L) i:=⟨_,rfl⟩
 rw [←hq]
 obtain ⟨op,ia,b⟩:=i
 unfold ZpH at hq
 dsimp only at h25 h26 hq
 have HQ:=Zh hq
 obtain ⟨w0,hw0⟩:∃ w0,w0=w.alloc (.cells #[.int .i64 op,.int .i64 ia,.int .i64 b] 42):=⟨_,rfl⟩
 have HB:=Zh (show Below w.heap.size w w0 by rw [hw0];exact bE)
 have HX:=Zh (show Blk w0 w.heap.size #[.int .i64 op,.int .i64 ia,.int .i64 b] 42 by rw [hw0];exact Blk.new _ _ _)
 have HT:=Zh (H.old HB.out)
 have HW:=Zh hw0
 have HMo:=Zh hm
 clear hw0 H hq hm
 go_enter Tryz.func115,Tryz.ntmps115
 go_upto_region 1 with fail
 rw [←HW.out]
 have x0:=HX.out.cell 0 (v:=.int .i64 op) rfl
 have x1:=HX.out.cell 1 (v:=.int .i64 ia) rfl
 by_cases e25:op=25
 ·subst e25
  obtain ⟨a0,a1⟩:=h25 rfl
  obtain ⟨a,rfl⟩:∃ a:Nat,ia=a:=⟨ia.toNat,by omega⟩
  have x6:=HT.out.tb.cell 6 (v:=.slice (some ⟨g,0,none⟩) m.me.length m.me.length) rfl
  have n0:=Zon HT.out.nb (k:=a) (by have:=HT.out.ln;omega)
  go_upto_region 2 with fail
  refine rO (Cs [(⟨w.heap.size,1,none⟩,.int .i64 a),(⟨B,6,none⟩,.slice (some ⟨g,0,none⟩) m.me.length m.me.length),(⟨g,a,none⟩,.int .i64 (L.getD a 0))]) (oL [0,1,2,3,4,5,6,7,8]) ⟨x1,x6,n0,trivial⟩ ?_
  clear x0 x1 x6 n0
  repeat refine pO ?_
  refine Zd5 ?_
  go_wp2
  go_ret
  exact ZcT (ZcY (by rw [HQ.out];unfold Zqf;simp)) (by have:=HB.out;exact bE)
 ·by_cases e26:op=26
  ·subst e26
   obtain ⟨a0,a1,a2⟩:=h26 rfl
   obtain ⟨a,rfl⟩:∃ a:Nat,ia=a:=⟨ia.toNat,by omega⟩
   have HTg:=Zh (fun w' hb=>Zjm m h a w' (HT.out.md.old (w':=w') hb) HMo.out a1)
   obtain ⟨ts,hts⟩:∃ ts,ts=ZaN m a:=⟨_,rfl⟩
   rw [←hts] at HTg HQ a2
   have HA2:=Zh a2
   have HLn:=Zh (show ts.length≤1000 by rw [hts];have:=ZdG m a;have:=(Zqi HMo.out);omega)
   have x2:=HT.out.tb.cell 0 (v:=.slice h.co m.cl.length h.cc) rfl
   have x3:=HT.out.tb.cell 1 (v:=.slice h.so m.st.length h.sc) rfl
   have x4:=HT.out.tb.cell 2 (v:=.slice h.eo m.me.length h.ec) rfl
   have x5:=HT.out.tb.cell 3 (v:=.int .i64 m.sel) rfl
   clear a2 hts
   go_upto_region 5 with fail
   have HCs:=Zh (show Cs [(⟨w.heap.size,1,none⟩,.int .i64 a),(⟨B,0,none⟩,.slice h.co m.cl.length h.cc),(⟨B,1,none⟩,.slice h.so m.st.length h.sc),(⟨B,2,none⟩,.slice h.eo m.me.length h.ec),(⟨B,3,none⟩,.int .i64 m.sel)] w0 from ⟨x1,x2,x3,x4,x5,trivial⟩)
   refine rO (Cs [(⟨w.heap.size,1,none⟩,.int .i64 a),(⟨B,0,none⟩,.slice h.co m.cl.length h.cc),(⟨B,1,none⟩,.slice h.so m.st.length h.sc),(⟨B,2,none⟩,.slice h.eo m.me.length h.ec),(⟨B,3,none⟩,.int .i64 m.sel)]) (oL [0,1,2,3,4,5,106,7,8,9,10,11]) ⟨x1,x2,x3,x4,x5,trivial⟩ ?_
   clear x0 x1 x2 x3 x4 x5
   repeat refine pO ?_
   refine oO fun Kv hK=>?_
   go_simp
   refine (HTg.out _ (Below.refl _ _).drew).mono ?_
   rintro e w1 ⟨⟨tao,tc,rfl,htr⟩,hb1⟩
   have HB1:=Zh (Zaf (Below.refl w0.heap.size w0).drew hb1)
   have HTr:=Zh htr
   refine hK _ _ ⟨Cs.keeps (Znv.of HB1.out) HCs.out,?_⟩
   clear hK Kv hb1 htr
   repeat refine pO ?_
   refine Zd5 ?_
   go_wp2
   have HT1:=Zh (HT.out.old HB1.out)
   go_loopw [7,8] (fun bs j wr=>∃ n:Nat,n≤ts.length∧j=.int .i64 n∧bs=.int .i64 (Zqg l (Zqf L) ts n)∧Hid (Below w1.heap.size w1 wr)) (fun _ j _=>ts.length-(intOf j).toNat)
   case atStart=>exact ⟨0,Nat.zero_le _,rfl,rfl,by exact bE⟩
   case round=>
    obtain ⟨n,hn,rfl,rfl,HBr⟩:=hrel
    rename World=>wo
    by_cases hnl:n<ts.length
    ·have hnl2:(n:Int) < ts.length:=by omega
     have hwn:IntKind.i64.wrap ((n:Int)+1)=((n+1:Nat):Int):=IntWalk.i64_in _ (by have:=HLn.out;omega)
     obtain ⟨ad,rfl,t0⟩:=ZaB (HTr.out.old HBr.out) hnl
     obtain ⟨t,ht⟩:∃ t,t=ts.getD n 0:=⟨_,rfl⟩
     rw [←ht] at t0
     have htm:=HA2.out t (by rw [ht];exact Zqe hnl)
     have HS:=Zh (Zqh (l:=l) (T:=Zqf L) hnl)
     rw [←ht] at HS
     obtain ⟨bs,hbs⟩:∃ bs,bs=Zqg l (Zqf L) ts n:=⟨_,rfl⟩
     rw [←hbs] at HS ⊢
     clear hbs ht
     obtain ⟨tn,rfl⟩:∃ tn:Nat,t=tn:=⟨t.toNat,by omega⟩
     obtain ⟨x,hx⟩:∃ x,x=Zqf L tn:=⟨_,rfl⟩
     have HT2:=Zh (HT1.out.old HBr.out)
     have x6:=HT2.out.tb.cell 6 (v:=.slice (some ⟨g,0,none⟩) m.me.length m.me.length) rfl
     have n0:=Zon HT2.out.nb (k:=tn) (by have:=HT.out.ln;omega)
     rw [show L.getD tn 0=x by rw [hx];unfold Zqf;rw [Int.toNat_natCast]] at n0
     rw [←hx] at HS
     clear hx
     go_upto_region 10 with fail
     refine rO (Cs [(⟨B,6,none⟩,.slice (some ⟨g,0,none⟩) m.me.length m.me.length),(ad.add n,.int .i64 tn),(⟨g,tn,none⟩,.int .i64 x)]) (oL [0,1,2,3,4,5,6,7,8,9,10]) ⟨x6,t0,n0,trivial⟩ ?_
     clear x6 t0 n0
     repeat refine pO ?_
     refine Zd5 ?_
     have x5:=(show Blk wo.drew B _ _ from HT2.out.tb).cell 5 (v:=.bool l) rfl
     go_wp2
     all_goals
      refine ⟨⟨n+1,by omega,rfl,?_,HBr.out.drew⟩,by simp [intOf];omega⟩
      rw [HS.out]
      unfold ZpG
      grind
    ·obtain rfl:n=ts.length:=by omega
     have hj5:¬ (ts.length:Int) < ts.length:=by omega
     go_wp2
     go_ret
     refine ZcT (ZcY ?_) (Zaf HB.out (Zaf HB1.out HBr.out))
     rw [HQ.out]
     unfold Zqg
     rw [List.take_length]
     simp
  ·go_wp2
   go_ret
   exact ZcT (ZcY (by rw [HQ.out,if_neg e25,if_pos e26])) HB.out
end
section
open Go.RowKit
def Pl (l:Bool) (n:Int):Prop:=(l=false→0≤n)∧Bl n
theorem Pl.of {l:Bool}{n:Int} (h:Bd n):Pl l n:=⟨fun _=>h.1,Bl.of h⟩
theorem Zqk {l:Bool}{a b:Int} (ha:Pl l a) (hb:Pl l b):Pl l (ZpE a b):=by
 refine ⟨fun q=>?_,ZpM ha.2 hb.2⟩
 have:=ha.1 q
 have:=hb.1 q
 unfold ZpE Zmu Zmt
 rw [if_neg (by omega)]
 omega
theorem Zql {l:Bool}{a b:Int} (ha:Bd a) (hb:Bd b):Pl l (Zmu a b):=Pl.of (ZnB ha hb)
theorem Zqm {l:Bool}{a n:Int} (ha:Bl a) (hn:Pl l n):Bl (ZpG l a n):=by
 unfold ZpG Pl Bl at *
 repeat' split
 all_goals omega
theorem Zqn {a n:Int} (hn:0≤n):0≤ZpG false a n:=by
 unfold ZpG
 repeat' split
 all_goals simp_all
 all_goals omega
theorem Zqo {l:Bool}{T:Int→Int}:∀ (ts:List Int) (a:Int),Bl a→(∀ t∈ts,Pl l (T t))→Bl (ts.foldl (fun a t=>ZpG l a (T t)) a)∧(l=false→(ts≠[]∨0≤a)→0≤ts.foldl (fun a t=>ZpG l a (T t)) a)
 | [],a,ha,_=>⟨ha,fun _ q=>by rcases q with q|q;exact absurd rfl q;exact q⟩
 | t :: ts,a,ha,h=>by
  have h1:=h t (by simp)
  obtain ⟨q1,q2⟩:=Zqo ts (ZpG l a (T t)) (Zqm ha h1) fun u hu=>h u (by simp [hu])
  refine ⟨q1,fun e _=>q2 e (.inr ?_)⟩
  subst e
  exact Zqn (h1.1 rfl)
structure RCx (bv:Int) (x:Ms) (l:Bool) (m:Md) (k:Nat) (L:List Int):Prop where
 hm:Za1 m=true
 hk:k<m.me.length
 sd:ZpR m (cdM m k)
 ow:Zp8 bv m x (cdM m k)
 wt:∀ i∈cdM m k,0≤x.wt i∧x.wt i≤1000
 tl:x.tl=tlV bv
 sc:x.sc=scV bv
 nu:∀ t,Pl l (Zqf L t)
section
variable {bv:Int}{x:Ms}{l:Bool}{m:Md}{k:Nat}{L:List Int} (H:RCx bv x l m k L)
include H
theorem RCx.ok:ZfM m k:=ZfN H.hm H.hk
theorem RCx.code:ZaV false (cdM m k)=0:=(ZoS H.hm default).code H.hk
theorem RCx.opd {i:In3} (hi:i∈cdM m k):ZfR m k i:=ZfS (H.ok.i i hi).1 (H.ok.i i hi).2
theorem RCx.called {i:In3} (hi:i∈cdM m k):Pl l (ZpH l m (Zqf L) i):=by
 unfold ZpH
 split
 ·exact H.nu _
 ·split
  ·exact Pl.of (by unfold Bd;omega)
  ·rename_i h26
   obtain ⟨q1,q2⟩:=Zqo (l:=l) (T:=Zqf L) (ZaN m i.a) (-1) (by unfold Bl;omega) fun t _=>H.nu t
   exact ⟨fun e=>q2 e (.inl (H.sd i hi (by omega))),q1⟩
theorem RCx.tlb:0≤x.tl∧x.tl≤1000:=by rw [H.tl];unfold tlV;split<;>omega
theorem RCx.pl {i:In3} (hi:i∈cdM m k):Pl l ((gR l x m (Zqf L)).pl i):=by
 have hc:=H.called hi
 have hw:=H.wt i hi
 show Pl l (if l=true∧i.op=28 then (-1:Int) else if ZpH l m (Zqf L) i=-1 then (-1:Int) else Zmu (x.wt i) (ZpH l m (Zqf L) i))
 generalize ZpH l m (Zqf L) i=c at *
 cases l with
 | true=>
  refine ⟨(fun q=>by cases q),?_⟩
  have:=hc.2
  unfold Bl Zmu Zmt at *
  repeat' split
  all_goals omega
 | false=>
  have h1:=hc.1 rfl
  have h2:=hc.2
  unfold Bl at h2
  rw [if_neg (fun q=>by cases q.1),if_neg (by omega)]
  exact Zql (by unfold Bd;omega) (by unfold Bd;omega)
theorem RCx.brk {i:In3} (hi:i∈cdM m k) {f s:Int} (hf:Pl l f) (hs:Pl l s):Pl l ((gR l x m (Zqf L)).brk i f s):=by
 have hw:=H.wt i hi
 have ht:=H.tlb
 have ho:Pl l (x.wt i):=Pl.of (by unfold Bd;omega)
 have htp:Pl l x.tl:=Pl.of (by unfold Bd;omega)
 have hob:Bd (x.wt i):=by unfold Bd;omega
 have htb:Bd x.tl:=by unfold Bd;omega
 show Pl l (ZpI l x.sc i f s (x.wt i) x.tl)
 unfold ZpI
 cases l with
 | true=>
  simp only [if_true]
  have hb:∀ n,Bl n→Pl true n:=fun n h=>⟨(fun q=>by cases q),h⟩
  have h1:=ZpM ho.2 (Zqb (ZpM hf.2 htp.2) (ZpM hs.2 htp.2))
  have h2:=ZpM ho.2 (ZpM hf.2 htp.2)
  repeat' split
  all_goals first|exact hb _ h1|exact hb _ h2|exact ho|exact Pl.of (by unfold Bd;omega)
 | false=>
  simp only [Bool.false_eq_true,if_false]
  have hfb:Bd f:=⟨hf.1 rfl,hf.2.2⟩
  have hsb:Bd s:=⟨hs.1 rfl,hs.2.2⟩
  have hmx:Pl false (max (ZpE f x.tl) (ZpE s x.tl)):=by
   rw [ZpK hfb htb,ZpK hsb htb];exact Pl.of (ZnD (ZnB hfb htb) (ZnB hsb htb))
  by_cases h29:i.op=29
  ·rw [if_pos h29];exact Zqk ho hmx
  ·rw [if_neg h29]
   by_cases h30:i.op=30
   ·rw [if_pos h30];exact Zql hob (ZnC ((H.opd hi).a0 (by omega)) (ZnB hfb htb))
   ·rw [if_neg h30]
    split
    ·exact Pl.of (by unfold Bd;omega)
    ·split
     ·exact Zql (ZnB hob (ZnB hfb htb)) hsb
     ·exact Zqk ho (Zqk hf htp)
theorem RCx.wa {a b:Nat} (hs:Seg (cdM m k) a b) {acc:Int} (ha:Pl l acc):Pl l (WA (gR l x m (Zqf L)) (cdM m k) a b acc):=
 (ZpJ (g:=gR l x m (Zqf L)) (g':=gR l x m (Zqf L)) hs (Pl.of (by unfold Bd;omega)) (fun _ _ h1 h2=>⟨rfl,Zqk h1 h2⟩) (fun i hi=>⟨rfl,H.pl hi⟩) (fun i hi f s hf hs=>⟨rfl,H.brk hi hf hs⟩) acc ha).2
end
end
section
open Go.RowKit
theorem Zqp:El Tryz.prog 22 63 4 72:=El.mk' (z:=.agg #[.string ⟨#[]⟩,.int .i64 0,.slice none 0 0,.slice none 0 0]) Tryz.underlying22 (by kernel_rfl) (by kernel_rfl) (by decide)
theorem Zqq:El Tryz.prog 24 38 7 112:=El.mk' (z:=.agg #[.string ⟨#[]⟩,.int .i64 0,.slice none 0 0,.slice none 0 0,.int .i64 0,.int .i64 0,.slice none 0 0]) Tryz.underlying24 (by kernel_rfl) (by kernel_rfl) (by decide)
theorem Zqr:El Tryz.prog 36 42 3 24:=El.mk' (z:=.agg #[.int .i64 0,.int .i64 0,.int .i64 0]) Tryz.underlying36 (by kernel_rfl) (by kernel_rfl) (by decide)
def Zqs {α β:Type} [Inhabited α] (l:List α) (f:Nat→β):Nat→List (α × β)
 | 0=>[]
 | k+1=>Zqs l f k++[(l.getD k default,f k)]
theorem Zqt {α β:Type} [Inhabited α] (l:List α) (f:Nat→β) (k:Nat):(Zqs l f k).length=k:=by
 induction k with
 | zero=>rfl
 | succ k ih=>simp [Zqs,ih]
theorem Zqu {α β:Type} [Inhabited α] (l:List α) {f g:Nat→β}:∀ k,(∀ i,i<k→f i=g i)→Zqs l f k=Zqs l g k
 | 0,_=>rfl
 | k+1,h=>by unfold Zqs;rw [Zqu l k fun i hi=>h i (by omega),h k (by omega)]
theorem Zqv {α β:Type} [Inhabited α] (l:List α) (f:Nat→β):∀ k i,i<k→(Zqs l f k)[i]?=some (l.getD i default,f i)
 | 0,_,h=>by omega
 | k+1,i,h=>by
  unfold Zqs
  by_cases hi:i<k
  ·rw [List.getElem?_append_left (by rw [Zqt];exact hi)];exact Zqv l f k i hi
  ·obtain rfl:i=k:=by omega
   rw [List.getElem?_append_right (by rw [Zqt];omega),Zqt];simp
theorem Zqw {α β:Type} [Inhabited α] (l:List α) (f:Nat→β):Zqs l f l.length=l.mapIdx fun i x=>(x,f i):=by
 refine List.ext_getElem? fun i=>?_
 by_cases hi:i<l.length
 ·rw [Zqv l f l.length i hi];simp [hi]
 ·rw [List.getElem?_eq_none (by rw [Zqt];omega),List.getElem?_eq_none (by simp;omega)]
structure Kp (ts:List TypeId) (N:Nat) (w w':World):Prop where
 bw:Below N w w'
 blk:∀ (k:Nat) (cur:Array Value) (e:TypeId),w.heap[k]?=some (Obj.cells cur e (0,0))→e ∉ ts→w'.heap[k]?=w.heap[k]?
theorem Kp.refl (ts:List TypeId) (N:Nat) (w:World):Kp ts N w w:=⟨Below.refl _ _,fun _ _ _ _ _=>rfl⟩
section
variable {ts:List TypeId}{N:Nat}
include ts N
theorem Kp.trans {a b c:World} (h:Kp ts N a b) (g:Kp ts N b c):Kp ts N a c:=
 ⟨h.bw.trans g.bw,fun k cur e hk h1=>(g.blk k cur e ((h.blk k cur e hk h1).trans hk) h1).trans (h.blk k cur e hk h1)⟩
theorem Kp.of {w w':World} (h:Below w.heap.size w w') (hN:N≤w.heap.size):Kp ts N w w':=
 ⟨h.mono hN,fun k cur e hk _=>h.block k (Array.getElem?_eq_some_iff.1 hk).1⟩
theorem Kp.set {w w':World} (h:Kp ts N w w') {b:Nat} {xs:Array Value} {t:TypeId} (hb:Blk w' b xs t) (ht:t∈ts) (hN:N≤b) (i:Nat) (v:Value):Kp ts N w (w'.setCell ⟨b,i,none⟩ v):=by
 refine h.trans ⟨(Below.refl N w').setCell (p:=⟨b,i,none⟩) hN v,fun k cur e hk h1=>?_⟩
 refine heap_setCell_other w' ⟨b,i,none⟩ k v ?_
 rintro rfl
 rw [show w'.heap[k]?=_ from hb] at hk
 cases hk
 exact h1 ht
theorem Kp.grown {w w':World} {base:Nat} {e:TypeId} {size:Nat} {v:Value} {n:Nat} {xs:List Value} (ho:w.ownsRow base e size v n xs) (hg:w.grownBy w' v.ownBlock) (hN:N≤base) (hs:N≤w.heap.size) (he:e∈ts):Kp ts N w w':=by
 refine ⟨(Below.refl N w).grown hg hs (fun k hk=>Nat.le_trans hN (ho.lt k hk).1),fun k cur e' hk h1=>hg.block k (Array.getElem?_eq_some_iff.1 hk).1 ?_⟩
 intro q
 rcases ho.2 with ⟨hv,_⟩|⟨g,c,cur',hv,_,hh,_⟩
 ·rw [hv] at q;cases q
 ·rw [hv] at q
  cases q
  rw [hk] at hh
  cases hh
  exact h1 he
theorem Kp.own {w w':World} (h:Kp ts N w w') {base:Nat} {e:TypeId} {size:Nat} {v:Value} {n:Nat} {xs:List Value} (ho:w.ownsRow base e size v n xs) (h1:e ∉ ts:=by decide):w'.ownsRow base e size v n xs:=by
 refine ZhH ho fun k hk=>?_
 rcases ho.2 with ⟨hv,_⟩|⟨g,c,cur',hv,_,hh,_⟩
 ·rw [hv] at hk;cases hk
 ·rw [hv] at hk
  cases hk
  exact h.blk g cur' e hh h1
end
theorem Zqx (w:World) (base:Nat) (e:TypeId) (size:Nat) (hb:base≤w.heap.size):(w.alloc (.cells #[] e)).ownsRow base e size (.slice (some ⟨w.heap.size,0,none⟩) 0 0) 0 []:=
 ⟨by simp,.inr ⟨w.heap.size,0,#[],rfl,hb,Blk.new w #[] e,Nat.le_refl _,Nat.zero_le _,by simp,by simp⟩⟩
structure CpC (w:World) (N:Nat) (c:CHd) (x:Cls):Prop where
 f:w.ownsRow N 35 2 (.slice c.fo x.f.length c.fc) x.f.length (Zak x.f)
 m:w.ownsRow N 3 1 (.slice c.mo x.m.length c.mc) x.m.length (Zak x.m)
structure CpM (w:World) (N:Nat) (c:MHd) (x:Mth):Prop where
 p:w.ownsRow N 35 2 (.slice c.po x.p.length c.pc) x.p.length (Zak x.p)
 l:w.ownsRow N 35 2 (.slice c.lo x.l.length c.lc) x.l.length (Zak x.l)
 k:w.ownsRow N 42 3 (.slice c.ko x.k.length c.kc) x.k.length (Zak x.k)
theorem CpC.kp {ts:List TypeId}{w w':World}{N B:Nat}{c:CHd}{x:Cls} (h:CpC w N c x) (hk:Kp ts B w w') (h1:35 ∉ ts:=by decide) (h2:3 ∉ ts:=by decide):CpC w' N c x:=⟨hk.own h.f h1,hk.own h.m h2⟩
theorem CpM.kp {ts:List TypeId}{w w':World}{N B:Nat}{c:MHd}{x:Mth} (h:CpM w N c x) (hk:Kp ts B w w') (h1:35 ∉ ts:=by decide) (h2:42 ∉ ts:=by decide):CpM w' N c x:=⟨hk.own h.p h1,hk.own h.l h1,hk.own h.k h2⟩
structure Zqy (w:World) (N:Nat) (h:Hd) (m:Md):Prop where
 cl:w.ownsRow N 63 4 (.slice h.co m.cl.length h.cc) m.cl.length (Zak (Zau h m))
 st:w.ownsRow N 35 2 (.slice h.so m.st.length h.sc) m.st.length (Zak m.st)
 me:w.ownsRow N 38 7 (.slice h.eo m.me.length h.ec) m.me.length (Zak (Zav h m))
 c:∀ i,i<m.cl.length→CpC w N (h.c i) (m.cl.getD i default)
 m:∀ i,i<m.me.length→CpM w N (h.e i) (m.me.getD i default)
structure Zqz (m:Md):Prop where
 cl:m.cl.length≤2000000
 st:m.st.length≤2000000
 me:m.me.length≤2000000
 c:∀ i,i<m.cl.length→(m.cl.getD i default).f.length≤2000000∧(m.cl.getD i default).m.length≤2000000
 m:∀ i,i<m.me.length→(m.me.getD i default).p.length≤2000000∧(m.me.getD i default).l.length≤2000000∧(m.me.getD i default).k.length≤2000000
theorem ZqA {w:World}{base:Nat}{e:TypeId}{size:Nat}{ao:Option Addr}{n cap:Nat}{xs:List Value} (h:w.ownsRow base e size (.slice ao n cap) n xs):n≤cap:=by
 rcases h.2 with ⟨hv,hn⟩|⟨g,c,cur,hv,_,_,hn,_⟩
 ·cases hv;omega
 ·cases hv;exact hn
theorem Zqy.at_ {w:World}{N:Nat}{h:Hd}{m:Md} (H:Zqy w N h m) (hs:Zqz m):Zay w h m where
 cl:=Zar.of_own (by rw [Zaw];exact H.cl)
 st:=Zar.of_own H.st
 me:=Zar.of_own (by rw [Zax];exact H.me)
 f i hi:=Zar.of_own (H.c i hi).f
 t i hi:=Zar.of_own (H.c i hi).m
 p i hi:=Zar.of_own (H.m i hi).p
 l i hi:=Zar.of_own (H.m i hi).l
 k i hi:=Zar.of_own (H.m i hi).k
 bf i hi:=ZqA (H.c i hi).f
 bm i hi:=by have:=hs.m i hi;omega
 bz:=by have:=hs.cl;have:=hs.st;have:=hs.me;omega
end
section
open Go.RowKit
theorem ZqB {w:World}{b base:Nat}{e:TypeId}{size:Nat} (hb:b=w.heap.size) (h:base≤w.heap.size):(w.alloc (.cells #[] e)).ownsRow base e size (.slice (some ⟨b,0,none⟩) 0 0) 0 []:=by subst hb;exact Zqx w base e size h
theorem ZqC {w w':World}{base:Nat}{e:TypeId}{size:Nat}{v:Value}{n:Nat}{xs:List Value} (h:w.ownsRow base e size v n xs) (hb:Below w.heap.size w w'):w'.ownsRow base e size v n xs:=ZhH h fun k hk=>hb.block k (h.lt k hk).2
section
variable {w:World}{base:Nat}{e:TypeId}{size:Nat}{v:Value}{n:Nat}{xs:List Value}(h:w.ownsRow base e size v n xs){b:Nat}{ys:Array Value}{t:TypeId}(hb:Blk w b ys t)(ht:e≠t)
include w base e size v n xs h b ys t hb ht
theorem ZqD:some b≠v.ownBlock:=by
 intro q
 rcases h.2 with ⟨hv,_⟩|⟨g,c,cur,hv,_,hg,_⟩
 ·rw [hv] at q;cases q
 ·rw [hv] at q
  have e':b=g:=Option.some.inj q
  subst e'
  rw [show w.heap[b]?=_ from hb] at hg
  cases hg
  exact ht rfl
theorem ZqE (i:Nat) (u:Value):(w.setCell ⟨b,i,none⟩ u).ownsRow base e size v n xs:=
 ownsRow_setCell_other h (fun q=>ZqD h hb ht q.symm) u
end
theorem ZqF {α:Type} [Cells α] {w:World}{ao:Option Addr}{cap:Nat}{l:List α} (h:Zar w ao cap l) (o:Obj):Zar (w.alloc o) ao cap l:=h.old ((Below.refl _ _).alloc (Nat.le_refl _) o)
theorem ZqG {w w8:World}{o:Obj}{base:Nat}{e:TypeId}{size:Nat}{v:Value}{n:Nat}{xs:List Value} (ho:w.ownsRow base e size v n xs) (hg:(w.alloc o).grownBy w8 v.ownBlock) {b:Nat}{ys:Array Value}{t:TypeId} (hb:Blk w b ys t) (ht:e≠t):Blk w8 b ys t:=Blk.grownV (hb.alloc o) hg (ZqD (ho.alloc o) (hb.alloc o) ht)
theorem ZqH {α β:Type} [Inhabited α] (l:List α) (f:Nat→β) (k:Nat):Zqs l f (k+1)=Zqs l f k++[(l.getD k default,f k)]:=rfl
theorem ZqI {wr w1 w3:World}{b N:Nat}{xs:Array Value}{t e:TypeId}{size n cap:Nat}{ao:Option Addr}{ys:List Value} (i:Nat) (hN:N≤wr.heap.size) (hbl:Below wr.heap.size wr w1) (hx:Blk w1 b xs t) (hb:wr.heap.size≤b)
  (ho:w3.ownsRow N e size (.slice ao (0+n) cap) (0+n) ([]++ys)) (hg:(w1.alloc (.cells #[] e)).grownBy w3 (Value.slice (some ⟨w1.heap.size,0,none⟩) 0 0).ownBlock) (ht:e≠t) :
  ∃ w4,w4=w3.setCell ⟨b,i,none⟩ (.slice ao n cap)∧RowKit.Hid (Below wr.heap.size wr w4)∧RowKit.Hid (Blk w4 b (xs.setIfInBounds i (.slice ao n cap)) t)∧RowKit.Hid (w4.ownsRow N e size (.slice ao n cap) n ys)∧RowKit.Hid (∀ {base':Nat}{e':TypeId}{size':Nat}{v':Value}{n':Nat}{ys':List Value},w1.ownsRow base' e' size' v' n' ys'→e'≠t→w4.ownsRow base' e' size' v' n' ys')∧w3.frozen? ⟨b,i,none⟩=false∧Blk w3 b xs t:=by
 have h13:Below w1.heap.size w1 w3:=ZcV (bal (Below.refl _ _) _) hg (fun j hj=>by cases hj;exact Nat.le_refl _)
 have hx3:Blk w3 b xs t:=hx.old h13
 rw [Nat.zero_add,List.nil_append] at ho
 exact ⟨_,rfl,ZcW (Zaf hbl h13) hb _,hx3.set i _,ZqE ho hx3 ht _ _,fun h1 h2=>ZqE (ZqC h1 h13) hx3 h2 _ _,hx3.frozen i,hx3⟩
def CpD (f:Nat→MHd) (k:Nat):Prop:=∀ i j,i<j→j<k→∀ a b,(f i).ko=some a→(f j).ko=some b→a.block≠b.block
theorem ZqJ {w:World}{base:Nat}{e:TypeId}{size:Nat}{ao:Option Addr}{n cap:Nat}{xs:List Value} (h:w.ownsRow base e size (.slice ao n cap) n xs):∀ a,ao=some a→base≤a.block∧a.block<w.heap.size:=fun a ha=>by
 subst ha
 exact h.lt a.block rfl
theorem ZqK {f:Nat→MHd}{k N:Nat}{x:MHd} (h:CpD f k) (hf:∀ i,i<k→∀ a,(f i).ko=some a→a.block<N) (hx:∀ b,x.ko=some b→N≤b.block):CpD (fun i=>if i=k then x else f i) (k+1):=fun i j hij hj a b ha hb=>by
 dsimp only at ha hb
 rw [if_neg (by omega)] at ha
 by_cases e:j=k
 ·rw [if_pos e] at hb
  have:=hf i (by omega) a ha
  have:=hx b hb
  omega
 ·rw [if_neg e] at hb
  exact h i j hij (by omega) a b ha hb
theorem ZqL (w:World) (h:Hd) (m:Md) (H:Zay w h m) (hs:Zqz m):Calls Tryz.prog 19 #[.agg #[.slice h.co m.cl.length h.cc,.slice h.so m.st.length h.sc,.slice h.eo m.me.length h.ec,.int .i64 m.sel]] w fun e w'=>∃ h':Hd,e=.returned (.agg #[.slice h'.co m.cl.length h'.cc,.slice h'.so m.st.length h'.sc,.slice h'.eo m.me.length h'.ec,.int .i64 m.sel])∧Zqy w' w.heap.size h' m∧Below w.heap.size w w'∧CpD h'.e m.me.length:=by
 have hX:=(Blk.new w #[.slice h.co m.cl.length h.cc,.slice h.so m.st.length h.sc,.slice h.eo m.me.length h.ec,.int .i64 m.sel] 26).alloc (.cells #[.slice none 0 0,.slice none 0 0,.slice none 0 0,.int .i64 0] 26)
 have hR:Blk ((w.alloc (.cells #[.slice h.co m.cl.length h.cc,.slice h.so m.st.length h.sc,.slice h.eo m.me.length h.ec,.int .i64 m.sel] 26)).alloc (.cells #[.slice none 0 0,.slice none 0 0,.slice none 0 0,.int .i64 0] 26)) (w.heap.size+1) #[.slice none 0 0,.slice none 0 0,.slice none 0 0,.int .i64 0] 26:=Blk.new' _ _ (by simp)
 have hb0:Below w.heap.size w ((w.alloc (.cells #[.slice h.co m.cl.length h.cc,.slice h.so m.st.length h.sc,.slice h.eo m.me.length h.ec,.int .i64 m.sel] 26)).alloc (.cells #[.slice none 0 0,.slice none 0 0,.slice none 0 0,.int .i64 0] 26)):=by exact bE
 have hs1:=hs.st
 have HM:=Zh H
 have HSm:=Zh hs
 clear H hs
 obtain ⟨co,cc,so,sc,eo,ec,hc,he⟩:=h
 dsimp only at hX hR hb0 HM ⊢
 have hsz:((w.alloc (.cells #[.slice co m.cl.length cc,.slice so m.st.length sc,.slice eo m.me.length ec,.int .i64 m.sel] 26)).alloc (.cells #[.slice none 0 0,.slice none 0 0,.slice none 0 0,.int .i64 0] 26)).heap.size=w.heap.size+2:=by simp
 obtain ⟨W0,hW0⟩:∃ W0,W0=(w.alloc (.cells #[.slice co m.cl.length cc,.slice so m.st.length sc,.slice eo m.me.length ec,.int .i64 m.sel] 26)).alloc (.cells #[.slice none 0 0,.slice none 0 0,.slice none 0 0,.int .i64 0] 26):=⟨_,rfl⟩
 rw [←hW0] at hX hR hb0 hsz
 have HX:=Zh hX
 have HR:=Zh hR
 have HB0:=Zh hb0
 have HSz:=Zh hsz
 have HW:=Zh hW0
 clear hX hR hb0 hsz hW0
 go_enter Tryz.func19,Tryz.ntmps19
 go_upto_region 1 with fail
 rw [←HW.out]
 rename_i K hK
 have key:∀ (OB:Nat) (wz:World) (u8 u9 u10 u11 u12 u13 u14:Value) (so':Option Addr) (sc':Nat),Below W0.heap.size W0 wz→OB≠w.heap.size→OB≠w.heap.size+1→w.heap.size≤OB→Blk wz OB #[.slice none 0 0,.slice so' m.st.length sc',.slice none 0 0,.int .i64 m.sel] 26→wz.ownsRow w.heap.size 35 2 (.slice so' m.st.length sc') m.st.length (Zak m.st)→K { tmps:=#[.agg #[.slice co m.cl.length cc,.slice so m.st.length sc,.slice eo m.me.length ec,.int .i64 m.sel],.pointer (some ⟨w.heap.size,0,none⟩),.pointer (some ⟨w.heap.size+1,0,none⟩),.pointer (some ⟨OB,0,none⟩),undef,undef,undef,undef,u8,u9,u10,u11,u12,u13,u14,undef,undef,undef,undef,undef,undef,undef,undef,undef,undef,undef,undef,undef,undef,undef,undef,undef,undef,undef,undef,undef,undef,undef,undef,undef,undef,undef,undef,undef,undef,undef,undef,undef,undef,undef,undef,undef,undef,undef,undef,undef,undef,undef,undef,undef,undef,undef,undef,undef,undef,undef,undef,undef,undef,undef,undef,undef,undef,undef,undef,undef,undef],defers:=[] } wz:=by
  intro OB wz u8 u9 u10 u11 u12 u13 u14 so' sc' hbz hne0 hne1 hle hob host
  refine hK _ _ ?_
  clear hK
  go_wp2_with fail
  go_loopw [4] (fun i wr=>∃ (k:Nat) (c':Nat→CHd) (co':Option Addr) (cc':Nat),k≤m.cl.length∧i=.int .i64 k∧Below w.heap.size w wr∧Blk wr w.heap.size #[.slice co m.cl.length cc,.slice so m.st.length sc,.slice eo m.me.length ec,.int .i64 m.sel] 26∧Blk wr (w.heap.size+1) #[.slice none 0 0,.slice none 0 0,.slice none 0 0,.int .i64 0] 26∧Blk wr OB #[.slice co' k cc',.slice so' m.st.length sc',.slice none 0 0,.int .i64 m.sel] 26∧wr.ownsRow w.heap.size 63 4 (.slice co' k cc') k (Zak (Zqs m.cl c' k))∧(∀ i,i<k→CpC wr w.heap.size (c' i) (m.cl.getD i default))∧wr.ownsRow w.heap.size 35 2 (.slice so' m.st.length sc') m.st.length (Zak m.st)) (fun i _=>m.cl.length-(intOf i).toNat)
  case atStart=>exact ⟨0,fun _=>default,none,0,by omega,rfl,Zaf HB0.out hbz,HX.out.old hbz,HR.out.old hbz,hob,World.ownsRow_nil _ _ _ _,fun i hi=>by omega,host⟩
  case round=>
   obtain ⟨k,c',co',cc',hk,rfl,hbw,hbx,hbr,hbo,hrow,hcp,hold⟩:=hrel
   have hN:w.heap.size≤wr.heap.size:=hbw.size
   have x0:=hbx.cell 0 (v:=.slice co m.cl.length cc) rfl
   have xl:=hbx.lt
   have HBw:=Zh hbw
   have HBx:=Zh hbx
   have HBr:=Zh hbr
   have HBo:=Zh hbo
   have HRow:=Zh hrow
   have HCp:=Zh hcp
   have HOl:=Zh hold
   clear hbw hbx hbr hbo hrow hcp hold
   by_cases hkl:k<m.cl.length
   ·obtain ⟨ad,had,d0,d1,d2,d3⟩:=(HM.out.old HBw.out).cls hkl
    dsimp only at had
    subst had
    have hkn:(k:Int) < m.cl.length:=by omega
    have hwr:IntKind.i64.wrap ((k:Int)+1)=k+1:=IntWalk.i64_in _ (by have:=HSm.out.cl;omega)
    have hsz:=HSm.out.c k hkl
    have hr2:=(HM.out.old HBw.out).f k hkl
    have hr3:=(HM.out.old HBw.out).t k hkl
    dsimp only at hr2 hr3 d0 d1 d2 d3
    have hxk:m.cl.getD k default=m.cl.getD k default:=rfl
    generalize hxe:m.cl.getD k default=x at d0 d1 d2 d3 hsz hr2 hr3
    have HXe:=Zh hxe
    generalize hc k=y at d0 d1 d2 d3 hr2 hr3
    obtain ⟨nm,sp,fl,ml⟩:=x
    obtain ⟨fo,fc,mo,mc⟩:=y
    dsimp only at d0 d1 d2 d3 hsz hr2 hr3
    have HR2:=Zh hr2
    have HR3:=Zh hr3
    clear hxe hxk hr2 hr3
    go_upto_region 6 with fail
    have hx1:=Blk.new wr #[.string nm,.int .i64 sp,.slice fo fl.length fc,.slice mo ml.length mc] 63
    have hb1:Below wr.heap.size wr (wr.alloc (.cells #[.string nm,.int .i64 sp,.slice fo fl.length fc,.slice mo ml.length mc] 63)):=by exact bE
    have hz1:(wr.alloc (.cells #[.string nm,.int .i64 sp,.slice fo fl.length fc,.slice mo ml.length mc] 63)).heap.size=wr.heap.size+1:=by simp
    generalize wr.alloc _=w1 at hx1 hb1 hz1 ⊢
    obtain ⟨B,hB⟩:∃ B,B=wr.heap.size:=⟨_,rfl⟩
    have hBl:wr.heap.size≤B:=by omega
    rw [←hB] at hx1 ⊢
    have HBl:=Zh hBl
    have HB1:=Zh hb1
    have HX1:=Zh hx1
    clear hx1 hb1 hz1 hB hBl d0 d1 d2 d3 x0
    have y2:=HX1.out.cell 2 (v:=.slice fo fl.length fc) rfl
    have yl:=HX1.out.lt
    go_upto_region 7 with (at_builtin;refine Zaj rfl (.tmp 27) (.tmp 29) 23 rfl w.heap.size 35 2 16 Zff _ 0 [] rfl (ZqB rfl (Nat.le_trans hN HB1.out.size)) _ _ _ _ rfl (ZqF (Zar.old HR2.out HB1.out) _) (Zaq _) (by omega) (by unfold maxLen;omega) (by have:=HB1.out.size;simp;omega) ?_;intro ao2 ac2 w3 hown hg;obtain ⟨w4,hw4,HB2,HX2,HF2,HG2,hfz,hx3⟩:=ZqI 2 hN HB1.out HX1.out HBl.out hown hg (by decide);have z2:=hx3.cell 2 (v:=.slice fo fl.length fc) rfl;clear hown hg hx3)
    try simp only [Nat.zero_add]
    rw [←hw4]
    clear hw4 hfz yl y2 z2
    have y3:=HX2.out.cell 3 (v:=.slice mo ml.length mc) rfl
    have yl:=HX2.out.lt
    go_upto_region 8 with (at_builtin;refine Zaj rfl (.tmp 32) (.tmp 34) 29 rfl w.heap.size 3 1 8 Zcq _ 0 [] rfl (ZqB rfl (Nat.le_trans hN HB2.out.size)) _ _ _ _ rfl (ZqF (Zar.old HR3.out HB2.out) _) (Zaq _) (by omega) (by unfold maxLen;omega) (by have:=HB2.out.size;simp;omega) ?_;intro ao3 ac3 w3 hown hg;obtain ⟨w4,hw4,HB3,HX3,HF3,HG3,hfz,hx3⟩:=ZqI 3 hN HB2.out HX2.out HBl.out hown hg (by decide);have z3:=hx3.cell 3 (v:=.slice mo ml.length mc) rfl;clear hown hg hx3)
    try simp only [Nat.zero_add]
    rw [←hw4]
    clear hw4 hfz yl y3 z3
    have HE2:=Zh (HG3.out HF2.out (by decide))
    have HE3:=HF3
    have y0:=HX3.out.cell 0 (v:=.string nm) rfl
    have y1:=HX3.out.cell 1 (v:=.int .i64 sp) rfl
    have y2:=HX3.out.cell 2 (v:=.slice ao2 fl.length ac2) rfl
    have y3:=HX3.out.cell 3 (v:=.slice ao3 ml.length ac3) rfl
    have yl:=HX3.out.lt
    have hob4:=HBo.out.old HB3.out
    have o0:=hob4.cell 0 (v:=.slice co' k cc') rfl
    have ol:=hob4.lt
    have HO4:=Zh (ZqC HRow.out HB3.out)
    go_upto_region 4 with (at_builtin;refine Zaj rfl (.tmp 38) (.tmp 40) 22 rfl w.heap.size 63 4 72 Zqp _ k _ rfl (HO4.out.alloc _) _ 1 1 [.string nm,.int .i64 sp,.slice ao2 fl.length ac2,.slice ao3 ml.length ac3] rfl (ZdL (Blk.new' #[.string nm,.int .i64 sp,.slice ao2 fl.length ac2,.slice ao3 ml.length ac3] 63 (by simp)) rfl) (by intro u hu;simp only [List.mem_cons,List.not_mem_nil,or_false] at hu;rcases hu with rfl|rfl|rfl|rfl<;>rfl) (by have:=HSm.out.cl;omega) (by have:=HSm.out.cl;unfold maxLen;omega) (by have:=HB3.out.size;simp;omega) ?_;intro ro2 rc2 w8 hown8 hg8;have hob8:=ZqG HO4.out hg8 hob4 (by decide);have z0:=hob8.cell 0 (v:=.slice co' k cc') rfl;have zf:=hob8.frozen 0;have zl:=hob8.lt;have HO8:=Zh hown8;have HG8:=Zh hg8;have HB8:=Zh hob8;clear hown8 hg8 hob8)
    have hkp2:Kp [26,63] w.heap.size w4 (w8.setCell ⟨OB,0,none⟩ (.slice ro2 (k+1) rc2)):=((Kp.of (bal (Below.refl _ _) _) (Nat.le_trans hN HB3.out.size)).trans (Kp.grown (HO4.out.alloc _) HG8.out (Nat.le_refl _) (by have:=HB3.out.size;simp;omega) (by decide))).set HB8.out (by decide) hle 0 _
    have hkp:=(Kp.of HB3.out hN).trans hkp2
    have hA:=Blk.other (ZqG HO4.out HG8.out (HBx.out.old HB3.out) (by decide)) (a:=⟨OB,0,none⟩) hne0.symm (.slice ro2 (k+1) rc2)
    have hR:=Blk.other (ZqG HO4.out HG8.out (HBr.out.old HB3.out) (by decide)) (a:=⟨OB,0,none⟩) hne1.symm (.slice ro2 (k+1) rc2)
    have HK2:=Zh hkp2
    have HK:=Zh hkp
    have HA:=Zh hA
    have HR:=Zh hR
    clear hkp2 hkp hA hR y0 y1 y2 y3 o0 ol hob4 z0 zf zl yl
    go_wp2
    go_roundw
    case rel=>
     refine ⟨k+1,fun i=>if i=k then ⟨ao2,ac2,ao3,ac3⟩ else c' i,ro2,rc2,by omega,by go_num,HBw.out.trans HK.out.bw,HA.out,HR.out,HB8.out.set 0 _,?_,fun i hi=>?_,HK.out.own HOl.out⟩
     ·have h9:=ZqE HO8.out HB8.out (by decide) 0 (.slice ro2 (k+1) rc2)
      have e:Zak (Zqs m.cl (fun i=>if i=k then ⟨ao2,ac2,ao3,ac3⟩ else c' i) (k+1))=Zak (Zqs m.cl c' k)++[.string nm,.int .i64 sp,.slice ao2 fl.length ac2,.slice ao3 ml.length ac3]:=by
       rw [ZqH,Zan,Zao,Zqu m.cl (g:=c') k (fun i hi=>if_neg (by omega)),HXe.out,if_pos rfl]
       rfl
      rw [e]
      exact h9
     ·by_cases hik:i=k
      ·subst hik
       show CpC _ _ (if i=i then _ else _) _
       rw [if_pos rfl,HXe.out]
       exact (⟨HE2.out,HE3.out⟩:CpC w4 _ _ _).kp HK2.out
      ·show CpC _ _ (if i=k then _ else _) _
       rw [if_neg hik]
       exact (HCp.out i (by omega)).kp HK.out
    case measure=>simp [intOf];omega
   ·have hkn:¬ (k:Int) < m.cl.length:=by omega
    obtain rfl:k=m.cl.length:=by omega
    go_wp2_with fail
    go_loopw [6] (fun i wr=>∃ (k:Nat) (e':Nat→MHd) (eo':Option Addr) (ec':Nat),k≤m.me.length∧i=.int .i64 k∧Below w.heap.size w wr∧Blk wr w.heap.size #[.slice co m.cl.length cc,.slice so m.st.length sc,.slice eo m.me.length ec,.int .i64 m.sel] 26∧Blk wr (w.heap.size+1) #[.slice none 0 0,.slice none 0 0,.slice none 0 0,.int .i64 0] 26∧Blk wr OB #[.slice co' m.cl.length cc',.slice so' m.st.length sc',.slice eo' k ec',.int .i64 m.sel] 26∧wr.ownsRow w.heap.size 38 7 (.slice eo' k ec') k (Zak (Zqs m.me e' k))∧((∀ i,i<k→CpM wr w.heap.size (e' i) (m.me.getD i default))∧CpD e' k)∧wr.ownsRow w.heap.size 63 4 (.slice co' m.cl.length cc') m.cl.length (Zak (Zqs m.cl c' m.cl.length))∧(∀ i,i<m.cl.length→CpC wr w.heap.size (c' i) (m.cl.getD i default))∧wr.ownsRow w.heap.size 35 2 (.slice so' m.st.length sc') m.st.length (Zak m.st)) (fun i _=>m.me.length-(intOf i).toNat)
    case atStart=>exact ⟨0,fun _=>default,none,0,by omega,rfl,HBw.out,HBx.out,HBr.out,HBo.out,World.ownsRow_nil _ _ _ _,⟨fun i hi=>by omega,fun i j _ hj=>by omega⟩,HRow.out,HCp.out,HOl.out⟩
    case round=>
     obtain ⟨k,e',eo',ec',hk,rfl,hbw,hbx,hbr,hbo,hrow,hcp,hold⟩:=hrel
     have hN:w.heap.size≤wr.heap.size:=hbw.size
     have x0:=hbx.cell 2 (v:=.slice eo m.me.length ec) rfl
     have xl:=hbx.lt
     have HBw:=Zh hbw
     have HBx:=Zh hbx
     have HBr:=Zh hbr
     have HBo:=Zh hbo
     have HRow:=Zh hrow
     have HCp:=Zh hcp
     have HOl:=Zh hold
     clear hbw hbx hbr hbo hrow hcp hold
     by_cases hkl:k<m.me.length
     ·obtain ⟨ad,had,d0,d1,d2,d3,d4,d5,d6⟩:=(HM.out.old HBw.out).mth hkl
      dsimp only at had
      subst had
      have hkn:(k:Int) < m.me.length:=by omega
      have hwr:IntKind.i64.wrap ((k:Int)+1)=k+1:=IntWalk.i64_in _ (by have:=HSm.out.me;omega)
      have hsz:=HSm.out.m k hkl
      have hr2:=(HM.out.old HBw.out).p k hkl
      have hr3:=(HM.out.old HBw.out).l k hkl
      have hr6:=(HM.out.old HBw.out).k k hkl
      dsimp only at hr2 hr3 hr6 d0 d1 d2 d3 d4 d5 d6
      have hxk:m.me.getD k default=m.me.getD k default:=rfl
      generalize hxe:m.me.getD k default=x at d0 d1 d2 d3 d4 d5 d6 hsz hr2 hr3 hr6
      have HXe:=Zh hxe
      generalize he k=y at d0 d1 d2 d3 d4 d5 d6 hr2 hr3 hr6
      obtain ⟨nm,mc,pl,ll,⟨rk,rq⟩,kl⟩:=x
      obtain ⟨po,pc,lo,lc,ko,kc⟩:=y
      dsimp only at d0 d1 d2 d3 d4 d5 d6 hsz hr2 hr3 hr6
      have HR2:=Zh hr2
      have HR3:=Zh hr3
      have HR6:=Zh hr6
      clear hxe hxk hr2 hr3 hr6
      go_upto_region 13 with fail
      have hx1:=Blk.new wr #[.string nm,.int .i64 mc,.slice po pl.length pc,.slice lo ll.length lc,.int .i64 rk,.int .i64 rq,.slice ko kl.length kc] 38
      have hb1:Below wr.heap.size wr (wr.alloc (.cells #[.string nm,.int .i64 mc,.slice po pl.length pc,.slice lo ll.length lc,.int .i64 rk,.int .i64 rq,.slice ko kl.length kc] 38)):=by exact bE
      have hz1:(wr.alloc (.cells #[.string nm,.int .i64 mc,.slice po pl.length pc,.slice lo ll.length lc,.int .i64 rk,.int .i64 rq,.slice ko kl.length kc] 38)).heap.size=wr.heap.size+1:=by simp
      generalize wr.alloc _=w1 at hx1 hb1 hz1 ⊢
      obtain ⟨B,hB⟩:∃ B,B=wr.heap.size:=⟨_,rfl⟩
      have hBl:wr.heap.size≤B:=by omega
      rw [←hB] at hx1 ⊢
      have HBl:=Zh hBl
      have HB1:=Zh hb1
      have HX1:=Zh hx1
      clear hx1 hb1 hz1 hB hBl d0 d1 d2 d3 d4 d5 d6 x0
      have y2:=HX1.out.cell 2 (v:=.slice po pl.length pc) rfl
      have yl:=HX1.out.lt
      go_upto_region 14 with (at_builtin;refine Zaj rfl (.tmp 55) (.tmp 57) 23 rfl w.heap.size 35 2 16 Zff _ 0 [] rfl (ZqB rfl (Nat.le_trans hN HB1.out.size)) _ _ _ _ rfl (ZqF (Zar.old HR2.out HB1.out) _) (Zaq _) (by omega) (by unfold maxLen;omega) (by have:=HB1.out.size;simp;omega) ?_;intro ao2 ac2 w3 hown hg;obtain ⟨w4,hw4,HB2,HX2,HF2,HG2,hfz,hx3⟩:=ZqI 2 hN HB1.out HX1.out HBl.out hown hg (by decide);have z2:=hx3.cell 2 (v:=.slice po pl.length pc) rfl;clear hown hg hx3)
      try simp only [Nat.zero_add]
      rw [←hw4]
      clear hw4 hfz yl y2 z2
      have y3:=HX2.out.cell 3 (v:=.slice lo ll.length lc) rfl
      have yl:=HX2.out.lt
      go_upto_region 15 with (at_builtin;refine Zaj rfl (.tmp 60) (.tmp 62) 23 rfl w.heap.size 35 2 16 Zff _ 0 [] rfl (ZqB rfl (Nat.le_trans hN HB2.out.size)) _ _ _ _ rfl (ZqF (Zar.old HR3.out HB2.out) _) (Zaq _) (by omega) (by unfold maxLen;omega) (by have:=HB2.out.size;simp;omega) ?_;intro ao3 ac3 w3 hown hg;obtain ⟨w4,hw4,HB3,HX3,HF3,HG3,hfz,hx3⟩:=ZqI 3 hN HB2.out HX2.out HBl.out hown hg (by decide);have z3:=hx3.cell 3 (v:=.slice lo ll.length lc) rfl;clear hown hg hx3)
      try simp only [Nat.zero_add]
      rw [←hw4]
      clear hw4 hfz yl y3 z3
      have y6:=HX3.out.cell 6 (v:=.slice ko kl.length kc) rfl
      have yl:=HX3.out.lt
      go_upto_region 16 with (at_builtin;refine Zaj rfl (.tmp 65) (.tmp 67) 36 rfl wr.heap.size 42 3 24 Zqr _ 0 [] rfl (ZqB rfl HB3.out.size) _ _ _ _ rfl (ZqF (Zar.old HR6.out HB3.out) _) (Zaq _) (by omega) (by unfold maxLen;omega) (by have:=HB3.out.size;simp;omega) ?_;intro ao6 ac6 w3 hown hg;obtain ⟨w4,hw4,HB4,HX4,HF6,HG6,hfz,hx3⟩:=ZqI 6 (Nat.le_refl _) HB3.out HX3.out HBl.out hown hg (by decide);have z6:=hx3.cell 6 (v:=.slice ko kl.length kc) rfl;clear hown hg hx3)
      try simp only [Nat.zero_add]
      rw [←hw4]
      clear hw4 hfz yl y6 z6
      have HE2:=Zh (HG6.out (HG3.out HF2.out (by decide)) (by decide))
      have HE3:=Zh (HG6.out HF3.out (by decide))
      have HE6:=HF6
      have y0:=HX4.out.cell 0 (v:=.string nm) rfl
      have y1:=HX4.out.cell 1 (v:=.int .i64 mc) rfl
      have y2:=HX4.out.cell 2 (v:=.slice ao2 pl.length ac2) rfl
      have y3:=HX4.out.cell 3 (v:=.slice ao3 ll.length ac3) rfl
      have y4:=HX4.out.cell 4 (v:=.int .i64 rk) rfl
      have y5:=HX4.out.cell 5 (v:=.int .i64 rq) rfl
      have y6:=HX4.out.cell 6 (v:=.slice ao6 kl.length ac6) rfl
      have yl:=HX4.out.lt
      have hob4:=HBo.out.old HB4.out
      have o0:=hob4.cell 2 (v:=.slice eo' k ec') rfl
      have ol:=hob4.lt
      have HO4:=Zh (ZqC HRow.out HB4.out)
      go_upto_region 11 with (at_builtin;refine Zaj rfl (.tmp 71) (.tmp 73) 24 rfl w.heap.size 38 7 112 Zqq _ k _ rfl (HO4.out.alloc _) _ 1 1 [.string nm,.int .i64 mc,.slice ao2 pl.length ac2,.slice ao3 ll.length ac3,.int .i64 rk,.int .i64 rq,.slice ao6 kl.length ac6] rfl (ZdL (Blk.new' #[.string nm,.int .i64 mc,.slice ao2 pl.length ac2,.slice ao3 ll.length ac3,.int .i64 rk,.int .i64 rq,.slice ao6 kl.length ac6] 38 (by simp)) rfl) (by intro u hu;simp only [List.mem_cons,List.not_mem_nil,or_false] at hu;rcases hu with rfl|rfl|rfl|rfl|rfl|rfl|rfl<;>rfl) (by have:=HSm.out.me;omega) (by have:=HSm.out.me;unfold maxLen;omega) (by have:=HB4.out.size;simp;omega) ?_;intro ro2 rc2 w8 hown8 hg8;have hob8:=ZqG HO4.out hg8 hob4 (by decide);have z0:=hob8.cell 2 (v:=.slice eo' k ec') rfl;have zf:=hob8.frozen 2;have zl:=hob8.lt;have HO8:=Zh hown8;have HG8:=Zh hg8;have HB8:=Zh hob8;clear hown8 hg8 hob8)
      have hkp2:Kp [26,38] w.heap.size w4 (w8.setCell ⟨OB,2,none⟩ (.slice ro2 (k+1) rc2)):=((Kp.of (bal (Below.refl _ _) _) (Nat.le_trans hN HB4.out.size)).trans (Kp.grown (HO4.out.alloc _) HG8.out (Nat.le_refl _) (by have:=HB4.out.size;simp;omega) (by decide))).set HB8.out (by decide) hle 2 _
      have hkp:=(Kp.of HB4.out hN).trans hkp2
      have hA:=Blk.other (ZqG HO4.out HG8.out (HBx.out.old HB4.out) (by decide)) (a:=⟨OB,2,none⟩) hne0.symm (.slice ro2 (k+1) rc2)
      have hR:=Blk.other (ZqG HO4.out HG8.out (HBr.out.old HB4.out) (by decide)) (a:=⟨OB,2,none⟩) hne1.symm (.slice ro2 (k+1) rc2)
      have HK2:=Zh hkp2
      have HK:=Zh hkp
      have HA:=Zh hA
      have HR:=Zh hR
      clear hkp2 hkp hA hR y0 y1 y2 y3 y4 y5 y6 o0 ol hob4 z0 zf zl yl
      go_wp2
      go_roundw
      case rel=>
       refine ⟨k+1,fun i=>if i=k then ⟨ao2,ac2,ao3,ac3,ao6,ac6⟩ else e' i,ro2,rc2,by omega,by go_num,HBw.out.trans HK.out.bw,HA.out,HR.out,HB8.out.set 2 _,?_,⟨fun i hi=>?_,ZqK HCp.out.2 (fun i hi a ha=>(ZqJ (HCp.out.1 i hi).k a ha).2) fun b hb=>(ZqJ HE6.out b hb).1⟩,HK.out.own HOl.out.1,fun i hi=>(HOl.out.2.1 i hi).kp HK.out,HK.out.own HOl.out.2.2⟩
       ·have h9:=ZqE HO8.out HB8.out (by decide) 2 (.slice ro2 (k+1) rc2)
        have e:Zak (Zqs m.me (fun i=>if i=k then ⟨ao2,ac2,ao3,ac3,ao6,ac6⟩ else e' i) (k+1))=Zak (Zqs m.me e' k)++[.string nm,.int .i64 mc,.slice ao2 pl.length ac2,.slice ao3 ll.length ac3,.int .i64 rk,.int .i64 rq,.slice ao6 kl.length ac6]:=by
         rw [ZqH,Zan,Zao,Zqu m.me (g:=e') k (fun i hi=>if_neg (by omega)),HXe.out,if_pos rfl]
         rfl
        rw [e]
        exact h9
       ·by_cases hik:i=k
        ·subst hik
         show CpM _ _ (if i=i then _ else _) _
         rw [if_pos rfl,HXe.out]
         exact (⟨HE2.out,HE3.out,Zed HE6.out hN⟩:CpM w4 _ _ _).kp HK2.out
        ·show CpM _ _ (if i=k then _ else _) _
         rw [if_neg hik]
         exact (HCp.out.1 i (by omega)).kp HK.out
      case measure=>simp [intOf];omega
     ·have hkn:¬ (k:Int) < m.me.length:=by omega
      obtain rfl:k=m.me.length:=by omega
      have hbo:=HBo.out
      have hbr:=HBr.out
      have o0:=hbo.cell 0 (v:=.slice co' m.cl.length cc') rfl
      have o1:=hbo.cell 1 (v:=.slice so' m.st.length sc') rfl
      have o2:=hbo.cell 2 (v:=.slice eo' m.me.length ec') rfl
      have o3:=hbo.cell 3 (v:=.int .i64 m.sel) rfl
      have r0:=hbr.cell 0 (v:=.slice none 0 0) rfl
      have r1:=hbr.cell 1 (v:=.slice none 0 0) rfl
      have r2:=hbr.cell 2 (v:=.slice none 0 0) rfl
      have r3:=hbr.cell 3 (v:=.int .i64 0) rfl
      have f0:=hbr.frozen 0
      have f1:=hbr.frozen 1
      have f2:=hbr.frozen 2
      have f3:=hbr.frozen 3
      have hl:=hbr.lt
      have hk:=(((((Kp.refl [26] w.heap.size wr).set hbr (by decide) (Nat.le_succ _) 0 (.slice co' m.cl.length cc')).set (hbr.set 0 _) (by decide) (Nat.le_succ _) 1 (.slice so' m.st.length sc')).set ((hbr.set 0 _).set 1 _) (by decide) (Nat.le_succ _) 2 (.slice eo' m.me.length ec')).set (((hbr.set 0 _).set 1 _).set 2 _) (by decide) (Nat.le_succ _) 3 (.int .i64 m.sel))
      have HKf:=Zh hk
      clear hbo hbr hk
      go_wp2
      refine bodyPost_ret (v:=.agg #[.slice co' m.cl.length cc',.slice so' m.st.length sc',.slice eo' m.me.length ec',.int .i64 m.sel]) (by simp [results,Tryz.results19,go_sem,r0,r1,r2,r3]) rfl ?_
      refine ⟨⟨co',cc',so',sc',eo',ec',c',e'⟩,rfl,⟨?_,HKf.out.own HOl.out.2.2,?_,fun i hi=>(HOl.out.2.1 i hi).kp HKf.out,fun i hi=>(HCp.out.1 i hi).kp HKf.out⟩,HBw.out.trans HKf.out.bw,HCp.out.2⟩
      ·have h9:=HKf.out.own HOl.out.1
       rw [Zqw] at h9
       exact h9
      ·have h9:=HKf.out.own HRow.out
       rw [Zqw] at h9
       exact h9
 clear hK
 have HS:=Zh (show ∀ w',Below W0.heap.size W0 w'→Cs [(⟨w.heap.size,1,none⟩,.slice so m.st.length sc),(⟨w.heap.size,3,none⟩,.int .i64 m.sel)] w' from fun w' hb=>⟨(HX.out.old hb).cell 1 rfl,(HX.out.old hb).cell 3 rfl,trivial⟩)
 refine rO (Cs [(⟨w.heap.size,1,none⟩,.slice so m.st.length sc),(⟨w.heap.size,3,none⟩,.int .i64 m.sel)]) (.plain 0 (.plain 1 (.plain 3 (.plain 4 (.two 2 7 (.two 5 7 (oL [6,107,108]) (oL [105,6,108])) (oL [102,105,6,108])))))) (HS.out _ (Below.drew (Below.refl _ _))) ?_
 repeat refine pO ?_
 have hd0:Below W0.heap.size W0 W0.drew:=Below.drew (Below.refl _ _)
 have HDz:=Zh (show W0.drew.heap.size=W0.heap.size from rfl)
 generalize W0.drew=w1 at hd0 HDz ⊢
 refine Zd4 (Zd2 _ (by rfl) (by rfl) fun Kv hK=>?_) (Zd2 _ (by rfl) (by rfl) fun Kv hK=>?_)
 ·go_simp
  have hb2:Below W0.heap.size W0 (w1.alloc (.cells #[] 35)):=bal hd0 _
  have ho2:(w1.alloc (.cells #[] 35)).ownsRow w.heap.size 35 2 (.slice (some ⟨w1.heap.size,0,none⟩) 0 0) 0 []:=ZqB rfl (by have:=HDz.out;have:=HSz.out;omega)
  have HZ2:=Zh (show (w1.alloc (.cells #[] 35)).heap.size=w1.heap.size+1 by simp)
  refine hK _ _ ⟨HS.out _ hb2,?_⟩
  clear hK Kv
  generalize w1.alloc _=w2 at hb2 ho2 HZ2 ⊢
  generalize w1.heap.size=g at ho2 HZ2 HDz ⊢
  refine Zd4 (Zd2 _ (by rfl) (by rfl) fun Kv hK=>?_) (Zd2 _ (by rfl) (by rfl) fun Kv hK=>?_)
  ·refine Zej (.tmp 10) (.tmp 12) 23 rfl w.heap.size 35 2 16 Zff _ 0 [] rfl ho2 _ _ _ _ rfl (Zar.old HM.out.st (Zaf HB0.out hb2)) (Zaq _) (by omega) (by unfold maxLen;omega) (by have:=HSz.out;have:=(hb2).size;omega) ?_
   intro ao ac w3 hown hg
   rw [Nat.zero_add,List.nil_append] at hown
   have hb3:Below W0.heap.size W0 w3:=ZcV hb2 hg (fun j hj=>by cases hj;show W0.heap.size≤g;have:=HDz.out;omega)
   refine hK _ _ ⟨HS.out _ hb3,?_⟩
   clear hK Kv hg
   repeat refine pO ?_
   refine oO fun Kv hK=>?_
   go_simp
   have hb4:Below W0.heap.size W0 (w3.alloc (.cells #[.slice none 0 0,.slice none 0 0,.slice none 0 0,.int .i64 0] 26)):=bal hb3 _
   have hz4:=Blk.new w3 #[.slice none 0 0,.slice none 0 0,.slice none 0 0,.int .i64 0] 26
   have ho4:=hown.alloc (.cells #[.slice none 0 0,.slice none 0 0,.slice none 0 0,.int .i64 0] 26)
   have hle0:W0.heap.size≤w3.heap.size:=hb3.size
   refine hK _ _ ⟨HS.out _ hb4,?_⟩
   clear hK Kv
   generalize w3.alloc _=w4 at hb4 hz4 ho4 ⊢
   generalize w3.heap.size=OB at hz4 hle0 ⊢
   have z0:=hz4.cell 0 (v:=.slice none 0 0) rfl
   have f0:=hz4.frozen 0
   have z1:=hz4.cell 1 (v:=.slice none 0 0) rfl
   have f1:=hz4.frozen 1
   have z2:=hz4.cell 2 (v:=.slice none 0 0) rfl
   have f2:=hz4.frozen 2
   have z3:=hz4.cell 3 (v:=.int .i64 0) rfl
   have f3:=hz4.frozen 3
   have zl:=hz4.lt
   refine oO fun Kv hK=>?_
   go_simp
   refine hK _ _ ⟨HS.out _ (ZcW (ZcW (ZcW (ZcW hb4 hle0 _) hle0 _) hle0 _) hle0 _),?_⟩
   refine Zd5 ?_
   exact key OB _ _ _ _ _ _ _ _ ao ac (ZcW (ZcW (ZcW (ZcW hb4 hle0 _) hle0 _) hle0 _) hle0 _) (by have:=HSz.out;omega) (by have:=HSz.out;omega) (by have:=HSz.out;omega) ((((hz4.set 0 (.slice none 0 0)).set 1 (.slice ao m.st.length ac)).set 2 (.slice none 0 0)).set 3 (.int .i64 m.sel)) (ZqE (ZqE (ZqE (ZqE ho4 hz4 (by decide) 0 (.slice none 0 0)) (hz4.set 0 (.slice none 0 0)) (by decide) 1 (.slice ao m.st.length ac)) ((hz4.set 0 (.slice none 0 0)).set 1 (.slice ao m.st.length ac)) (by decide) 2 (.slice none 0 0)) (((hz4.set 0 (.slice none 0 0)).set 1 (.slice ao m.st.length ac)).set 2 (.slice none 0 0)) (by decide) 3 (.int .i64 m.sel))
  ·go_simp
   have hb4:Below W0.heap.size W0 (w2.alloc (.cells #[.slice none 0 0,.slice none 0 0,.slice none 0 0,.int .i64 0] 26)):=bal hb2 _
   have hz4:=Blk.new w2 #[.slice none 0 0,.slice none 0 0,.slice none 0 0,.int .i64 0] 26
   have ho4:=ho2.alloc (.cells #[.slice none 0 0,.slice none 0 0,.slice none 0 0,.int .i64 0] 26)
   have hle0:W0.heap.size≤w2.heap.size:=hb2.size
   have HNe:=Zh (show g≠w2.heap.size by have:=HZ2.out;omega)
   refine hK _ _ ⟨HS.out _ hb4,?_⟩
   clear hK Kv
   generalize w2.alloc _=w4 at hb4 hz4 ho4 ⊢
   generalize w2.heap.size=OB at hz4 hle0 HNe ⊢
   refine oO fun Kv hK=>?_
   refine Zej (.tmp 10) (.tmp 12) 23 rfl w.heap.size 35 2 16 Zff _ 0 [] rfl ho4 _ _ _ _ rfl (Zar.old HM.out.st (Zaf HB0.out hb4)) (Zaq _) (by omega) (by unfold maxLen;omega) (by have:=HSz.out;have:=(hb4).size;omega) ?_
   intro ao ac w5 hown hg
   rw [Nat.zero_add,List.nil_append] at hown
   have hb5:Below W0.heap.size W0 w5:=ZcV hb4 hg (fun j hj=>by cases hj;show W0.heap.size≤g;have:=HDz.out;omega)
   have hz5:=Blk.grownV hz4 hg (ZqD ho4 hz4 (by decide))
   exact kC0
 ·go_simp
  have hb2:Below W0.heap.size W0 (w1.alloc (.cells #[.slice none 0 0,.slice none 0 0,.slice none 0 0,.int .i64 0] 26)):=bal hd0 _
  have hz2:=Blk.new w1 #[.slice none 0 0,.slice none 0 0,.slice none 0 0,.int .i64 0] 26
  have hle0:W0.heap.size≤w1.heap.size:=hd0.size
  refine hK _ _ ⟨HS.out _ hb2,?_⟩
  clear hK Kv
  generalize w1.alloc _=w2 at hb2 hz2 ⊢
  generalize w1.heap.size=OB at hz2 hle0 ⊢
  refine oO fun Kv hK=>?_
  go_simp
  have hb3:Below W0.heap.size W0 (w2.alloc (.cells #[] 35)):=bal hb2 _
  have ho3:(w2.alloc (.cells #[] 35)).ownsRow w.heap.size 35 2 (.slice (some ⟨w2.heap.size,0,none⟩) 0 0) 0 []:=ZqB rfl (by have:=hb2.size;have:=HSz.out;omega)
  have hz3:=hz2.alloc (.cells #[] 35)
  have hg9:=hb2.size
  refine hK _ _ ⟨HS.out _ hb3,?_⟩
  clear hK Kv
  generalize w2.alloc _=w3 at hb3 hz3 ho3 ⊢
  generalize w2.heap.size=g at ho3 hg9 ⊢
  refine oO fun Kv hK=>?_
  refine Zej (.tmp 10) (.tmp 12) 23 rfl w.heap.size 35 2 16 Zff _ 0 [] rfl ho3 _ _ _ _ rfl (Zar.old HM.out.st (Zaf HB0.out hb3)) (Zaq _) (by omega) (by unfold maxLen;omega) (by have:=HSz.out;have:=(hb3).size;omega) ?_
  intro ao ac w5 hown hg
  rw [Nat.zero_add,List.nil_append] at hown
  have hb5:Below W0.heap.size W0 w5:=ZcV hb3 hg (fun j hj=>by cases hj;exact hg9)
  have hz5:=Blk.grownV hz3 hg (ZqD ho3 hz3 (by decide))
  exact kC0
theorem ZqM (w:World) (h:Hd) (m:Md) (H:Zay w h m) (hs:Zqz m):Calls Tryz.prog 19 #[.agg #[.slice h.co m.cl.length h.cc,.slice h.so m.st.length h.sc,.slice h.eo m.me.length h.ec,.int .i64 m.sel]] w fun e w'=>∃ h':Hd,e=.returned (.agg #[.slice h'.co m.cl.length h'.cc,.slice h'.so m.st.length h'.sc,.slice h'.eo m.me.length h'.ec,.int .i64 m.sel])∧Zqy w' w.heap.size h' m∧Below w.heap.size w w':=
 (ZqL w h m H hs).mono fun e w' ⟨h',h1,h2,h3,h4⟩=>⟨h',h1,h2,h3⟩
end
section
open Go.RowKit
end
end Go.Proofs.YtfkbfjhocmbneaaGreat
