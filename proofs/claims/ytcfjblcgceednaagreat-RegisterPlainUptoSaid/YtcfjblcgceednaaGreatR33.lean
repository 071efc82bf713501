/- Joined texts. The first: bound.times: how often, noted in an array. -/
import Derived.Test.YtcfjblcgceednaaGreatR31
set_option linter.all false
set_option linter.unusedVariables false
set_option linter.unusedSimpArgs false
set_option maxRecDepth 100000
set_option maxHeartbeats 16000000
namespace Go.Proofs.YtcfjblcgceednaaGreat
section
open Go.RowKit
abbrev Zp1 (L:List Int):Array Value:=(L.map (Value.int .i64)).toArray
theorem Zp2 {w:World}{g k:Nat}{L:List Int}{t:TypeId} (h:Blk w g (Zp1 L) t) (v:Int):Blk (w.setCell ⟨g,k,none⟩ (.int .i64 v)) g (Zp1 (L.set k v)) t:=by
 have:=h.set k (.int .i64 v)
 simpa [Zp1,List.map_set] using this
theorem Zp3 {w:World}{g k:Nat}{L:List Int}{t:TypeId} (h:Blk w g (Zp1 L) t) (hk:k<L.length):w.cell? ⟨g,k,none⟩=some (.int .i64 (L.getD k 0)):=h.cell k (by simp [Zp1,hk])
theorem Zp4 (L:List Int) (p:Nat) (v:Int) (hp:p<L.length) (i:Nat):(L.set p v).getD i 0=if i=p then v else L.getD i 0:=by
 rw [List.getD_eq_getElem?_getD,List.getElem?_set]
 by_cases h:i=p
 ·subst h;simp [hp]
 ·rw [if_neg (fun e=>h e.symm),if_neg h,←List.getD_eq_getElem?_getD]
end
section
open Go.RowKit
def Zp5 (a b:Int):Int:=if a=-1∨b=-1 then -1 else ZmS a b
def Zp6 (a b:Int):Int:=if a=-1∨(b≠-1∧b<a) then b else a
def Zp7 (l:Bool) (a n:Int):Int:=if n=-1 then a else if a=-1∨(l=true∧n<a)∨(l=false∧a<n) then n else a
def Zp8 (l:Bool) (m:Md) (T:Int→Int) (i:In3):Int:=if i.op=25 then T i.a else if i.op≠26 then 0 else (ZaN m i.a).foldl (fun a t=>Zp7 l a (T t)) (-1)
def Zp9 (l sc:Bool) (i:In3) (f s o t:Int):Int:=
 if i.op=29 then (if l=true then Zp5 o (Zp6 (Zp5 f t) (Zp5 s t)) else Zp5 o (max (Zp5 f t) (Zp5 s t)))
 else if i.op=30 then (if l=true then o else ZmS o (ZmT i.a (ZmS f t)))
 else if i.op=32∧sc=true then 0
 else if i.op=33 then (if l=true then Zp5 o (Zp6 (Zp5 f t) (Zp5 s t)) else ZmS (ZmS o (ZmS f t)) s)
 else Zp5 o (Zp5 f t)
def gR (l:Bool) (x:Ms) (m:Md) (T:Int→Int):Wg where
 plus:=Zp5
 pl i:=if l=true∧i.op=28 then -1 else if Zp8 l m T i=-1 then -1 else ZmS (x.wt i) (Zp8 l m T i)
 brk i f s:=Zp9 l x.sc i f s (x.wt i) x.tl
theorem Zqa {g g':Wg}{l:List In3}{P:Int→Prop}{a b:Nat} (hs:Seg l a b) (h0:P 0) (hp:∀ a b,P a→P b→g.plus a b=g'.plus a b∧P (g.plus a b)) (hl:∀ i∈l,g.pl i=g'.pl i∧P (g.pl i))
  (hb:∀ i∈l,∀ f s,P f→P s→g.brk i f s=g'.brk i f s∧P (g.brk i f s)):∀ acc,P acc→WA g l a b acc=WA g' l a b acc∧P (WA g l a b acc):=by
 have hm:∀ k,k<l.length→l.getD k default∈l:=fun k hk=>ZfU _ hk
 induction hs with
 | nil a h=>intro acc hacc;rw [Zmv,Zmv];exact ⟨rfl,hacc⟩
 |pl a b q1 q2 q3 q4 q5 ih=>
  intro acc hacc
  rw [Zmw q2 q5,Zmw q2 q5]
  obtain ⟨e1,p1⟩:=hl _ (hm a q1)
  obtain ⟨e2,p2⟩:=hp _ _ hacc p1
  obtain ⟨e3,p3⟩:=ih _ p2
  exact ⟨by rw [e3,e2,e1],p3⟩
 |one a en b q1 q2 q3 i1 i2=>
  intro acc hacc
  rw [Zmx q1 q2 q3,Zmx q1 q2 q3]
  obtain ⟨e0,p0⟩:=i1 0 h0
  obtain ⟨e1,p1⟩:=hb _ (hm a q1.1) _ 0 p0 h0
  obtain ⟨e2,p2⟩:=hp _ _ hacc p1
  obtain ⟨e3,p3⟩:=i2 _ p2
  exact ⟨by rw [e3,e2,e1,e0],p3⟩
 |two a n en b q1 q2 q3 q4 i1 i2 i3=>
  intro acc hacc
  rw [Zmy q1 q2 q3 q4,Zmy q1 q2 q3 q4]
  obtain ⟨e0,p0⟩:=i1 0 h0
  obtain ⟨e9,p9⟩:=i2 0 h0
  obtain ⟨e1,p1⟩:=hb _ (hm a q1.1) _ _ p0 p9
  obtain ⟨e2,p2⟩:=hp _ _ hacc p1
  obtain ⟨e3,p3⟩:=i3 _ p2
  exact ⟨by rw [e3,e2,e1,e0,e9],p3⟩
theorem Zqb {a b:Int} (ha:Bd a) (hb:Bd b):Zp5 a b=ZmS a b:=by unfold Zp5;rw [if_neg (by unfold Bd at *;omega)]
theorem Zqc {a b:Int} (ha:Bl a) (hb:Bl b):Zp5 a b=ZmX a b:=by
 unfold Zp5 ZmX Bl at *
 by_cases h:a=-1∨b=-1
 ·rw [if_pos h,if_pos (by omega)]
 ·rw [if_neg h,if_neg (by omega)]
theorem Zqd {a b:Int} (ha:Bl a) (hb:Bl b):Bl (Zp5 a b):=Zqc ha hb▸ZpZ ha hb
theorem Zqe {a b:Int} (ha:Bl a) (hb:Bl b):Zp6 a b=ZmY a b:=by
 unfold Zp6 ZmY Bl at *
 repeat' split
 all_goals omega
theorem Zqf {T:Int→Int}{l:List Int} (hn:l≠[]) (h:∀ t∈l,Bd (T t)):l.foldl (fun a t=>Zp7 false a (T t)) (-1)=ZmW T l:=by
 have hg:∀ (l:List Int) (a:Int),Bd a→(∀ t∈l,Bd (T t))→l.foldl (fun a t=>Zp7 false a (T t)) a=l.foldl (fun a t=>max a (T t)) a:=by
  intro l
  induction l with
  | nil=>intro a _ _;rfl
  |cons x r ih=>
   intro a ha h
   have hx:=h x (by simp)
   have e:Zp7 false a (T x)=max a (T x):=by
    unfold Zp7 Bd at *
    rw [if_neg (by omega)]
    split<;>simp_all<;>omega
   rw [List.foldl_cons,List.foldl_cons,e]
   exact ih _ (Zog ha hx) fun t ht=>h t (by simp [ht])
 cases l with
 | nil=>exact absurd rfl hn
 |cons x r=>
  have hx:=h x (by simp)
  have e:Zp7 false (-1) (T x)=T x:=by unfold Zp7 Bd at *;rw [if_neg (by omega),if_pos (.inl rfl)]
  unfold ZmW
  rw [List.foldl_cons,List.foldl_cons,e,show max 0 (T x)=T x by unfold Bd at hx;omega]
  exact hg r _ hx fun t ht=>h t (by simp [ht])
def Zqg (m:Md) (l:List In3):Prop:=∀ i∈l,i.op=26→ZaN m i.a≠[]
section
variable {x:Ms}{m:Md}{T T':Int→Int}{l:List In3}{k:Nat} (hv:∀ i∈l,ZaQ false i=true∧ZaW m k i=true) (hsd:Zqg m l)
include hv hsd
theorem Zqh (hw:∀ i∈l,0≤x.wt i∧x.wt i≤1000) (ht:0≤x.tl∧x.tl≤1000) (h32:x.sc=true→∀ i∈l,i.op=32→x.wt i=0) (hT:∀ t:Int,0≤t→t<k→T t=T' t) (hT':∀ t,Bd (T' t)) {a b:Nat} (hs:Seg l a b) :
  ∀ acc,Bd acc→WA (gR false x m T) l a b acc=WA (gW x m T') l a b acc∧Bd (WA (gR false x m T) l a b acc):=by
 have h0:Bd 0:=by unfold Bd;omega
 have ha:∀ i∈l,i.op≠1→0≤i.a:=fun i hi=>(ZfS (hv i hi).1 (hv i hi).2).a0
 refine Zqa hs h0 (fun a b ha hb=>by rw [show (gR false x m T).plus a b=Zp5 a b from rfl,Zqb ha hb];exact ⟨rfl,Zoe ha hb⟩) (fun i hi=>?_) (fun i hi f s hf hs=>?_)
 ·have hb:=Zoi (m:=m) hw ht hT' ha i hi
  have hwi:=hw i hi
  have ho:=ZfS (hv i hi).1 (hv i hi).2
  have hbw:Bd (x.wt i):=by unfold Bd;omega
  have hc:Zp8 false m T i=if i.op=25 then T' i.a else if i.op=26 then ZmW T' (ZaN m i.a) else 0:=by
   unfold Zp8
   by_cases h25:i.op=25
   ·rw [if_pos h25,if_pos h25]
    exact hT _ (ho.a0 (by omega)) (ho.o25 h25).1
   ·rw [if_neg h25,if_neg h25]
    by_cases h26:i.op=26
    ·rw [if_neg (by omega),if_pos h26,←Zqf (hsd i hi h26) fun t _=>hT' t]
     have:∀ (L:List Int),(∀ t∈L,T t=T' t)→∀ a,L.foldl (fun a t=>Zp7 false a (T t)) a=L.foldl (fun a t=>Zp7 false a (T' t)) a:=by
      intro L
      induction L with
      | nil=>intro _ a;rfl
      | cons x r ih=>intro h a;rw [List.foldl_cons,List.foldl_cons,h x (by simp)];exact ih (fun t ht=>h t (by simp [ht])) _
     exact this _ (fun t ht=>hT _ (ZfT ht) ((ho.o26 h26).2 t ht)) _
    ·rw [if_pos h26,if_neg h26]
  have hcb:Bd (Zp8 false m T i):=by
   rw [hc]
   split
   ·exact hT' _
   ·split
    ·exact Zoh fun t _=>hT' t
    ·exact h0
  have e:(gR false x m T).pl i=ZmS (x.wt i) (Zp8 false m T i):=by
   show (if false=true∧i.op=28 then (-1:Int) else if Zp8 false m T i=-1 then (-1:Int) else ZmS (x.wt i) (Zp8 false m T i))=_
   rw [if_neg (by simp),if_neg (by unfold Bd at hcb;omega)]
  refine ⟨?_,by rw [e];exact Zoe hbw hcb⟩
  rw [e,hc]
  show _=if i.op=25 then _ else if i.op=26 then _ else _
  split
  ·rfl
  ·split
   ·rfl
   ·unfold ZmS ZmR;omega
 ·have hwi:=hw i hi
  have hbw:Bd (x.wt i):=by unfold Bd;omega
  have htl:Bd x.tl:=by unfold Bd;omega
  have hb:=Zoj (m:=m) hw ht hT' ha i hi f s hf hs
  have e:(gR false x m T).brk i f s=(gW x m T').brk i f s:=by
   show Zp9 false x.sc i f s (x.wt i) x.tl=if i.op=29 then _ else if i.op=30 then _ else if i.op=32∧x.sc=true then _ else if i.op=33 then _ else _
   unfold Zp9
   simp only [Bool.false_eq_true,if_false]
   rw [Zqb hf htl,Zqb hs htl,Zqb hbw (Zog (Zoe hf htl) (Zoe hs htl)),Zqb hbw (Zoe hf htl)]
   by_cases h29:i.op=29
   ·rw [if_pos h29,if_pos h29]
   ·rw [if_neg h29,if_neg h29]
    by_cases h30:i.op=30
    ·rw [if_pos h30,if_pos h30]
    ·rw [if_neg h30,if_neg h30]
     by_cases hsc:i.op=32∧x.sc=true
     ·rw [if_pos hsc,if_pos hsc,h32 hsc.2 i hi hsc.1]
     ·rw [if_neg hsc,if_neg hsc]
      by_cases h33:i.op=33
      ·rw [if_pos h33,if_pos h33]
       unfold ZmS ZmR Bd at *
       omega
      ·rw [if_neg h33,if_neg h33]
  exact ⟨e,e▸hb⟩
end
theorem Zqi {l:Bool}{x:Ms}{m:Md}{T:Int→Int}{c:List In3}{a b:Nat} (hs:Seg c a b):WA (gR l x m T) c a b (-1)=-1:=by
 have hp:∀ n,(gR l x m T).plus (-1) n=-1:=fun n=>by show Zp5 (-1) n=-1;unfold Zp5;rw [if_pos (.inl rfl)]
 induction hs with
 | nil a h=>rw [Zmv]
 | pl a b q1 q2 q3 q4 q5 ih=>rw [Zmw q2 q5,hp];exact ih
 | one a en b q1 q2 q3 i1 i2=>rw [Zmx q1 q2 q3,hp];exact i2
 | two a n en b q1 q2 q3 q4 i1 i2 i3=>rw [Zmy q1 q2 q3 q4,hp];exact i3
end
section
open Go.RowKit
theorem Zqj {s t:List Br × Nat}{i:In3} (h:ZaS s i=some t) (hs:s.1.length≤s.2):t.1.length≤t.2:=by
 obtain ⟨S,D⟩:=s
 unfold ZaS at h
 split at h
 ·cases h;simp;omega
 ·split at h
  ·cases S with
   | nil=>cases h
   |cons b r=>
    dsimp only at h
    split at h
    ·cases h;simp at hs ⊢;omega
    ·cases h
  ·split at h
   ·cases S with
    | nil=>cases h
    |cons b r=>
     dsimp only at h
     split at h
     ·cases h
     ·cases h;simp at hs ⊢;omega
   ·cases h;exact hs
theorem Zqk:∀ (l:List In3) (s t:List Br × Nat),ZaT s l=some t→s.1.length≤s.2→t.1.length≤t.2
 | [],s,t,h,hs=>by cases h;exact hs
 |i :: l,s,t,h,hs=>by
  unfold ZaT at h
  split at h
  ·cases h
  ·rename_i u hu
   exact Zqk l u t h (Zqj hu hs)
theorem Zql {l:List In3} (hv:ZaU l=true) {k:Nat} (h:Za8 l k):False:=by
 unfold ZaU at hv
 split at hv
 ·cases hv
 ·rename_i st d hf
  simp only [Bool.and_eq_true,List.isEmpty_iff] at hv
  obtain ⟨rfl,_⟩:=hv
  rw [←List.take_append_drop k l,Za2] at hf
  cases h1:ZaT ([],0) (l.take k) with
  | none=>rw [h1] at hf;cases hf
  |some t=>
   rw [h1] at hf
   obtain ⟨S,D⟩:=t
   exact h S D (Zqk _ _ _ h1 (Nat.le_refl _)) _ hf rfl
theorem Zqm (l:List In3) (ao:Option Addr) (cap:Nat) (w:World) (hl:Zar w ao cap l) (hv:ZaV false l=0) {k en:Nat}{alt:Int} (hm:Mat l k alt en) :
    Calls Tryz.prog 165 #[.slice ao l.length cap,.int .i64 k] w (Ret w (.tuple #[.int .i64 alt,.int .i64 en,.int .i64 0])):=by
 have hcl:=(ZmF hv).1
 have hk:=hm.1
 have hk2:(k:Int) < l.length:=by omega
 have HC:=Zh (ZgK l ao cap false w hl)
 rw [hv] at HC
 have hop:ZaR (l.getD k default).op=true:=hm.2.1
 have HB:=Zh (fun w' hb=>ZgH l ao cap w' (Zar.old hl (w':=w') hb) (by omega) l.length (ZgI l ao cap w' (Zar.old hl hb) (by omega) l.length) k hk (by omega) hop)
 have HL:=Zh (fun w' hb=>ZaA (Zar.old hl (w':=w') hb) hk)
 have HM:=Zh hm
 have HN:=Zh (ZmF hv).2.2
 obtain ⟨op,ho⟩:∃ o,o=(l.getD k default).op:=⟨_,rfl⟩
 rw [←ho] at hop HL
 have HOp:=Zh hop
 clear ho hop hl hv hm
 go_enter Tryz.func165,Tryz.ntmps165
 go_wp2_with (first
   | (go_at_call 181;refine HC.out.mono ?_;rintro e w1 ⟨rfl,hb1⟩;have HB1:=Zh hb1;obtain ⟨ad,rfl,o0,-,-⟩:=HL.out _ hb1;clear hb1)
   | (go_at_call 151;refine (ZeO _ _).mono ?_;rintro e w2 ⟨rfl,rfl⟩;rw [HOp.out])
   | (go_at_call 225;refine (HB.out _ HB1.out).mono ?_;rintro e w3 ⟨hbr,rfl⟩
      obtain ⟨alt',en',d',rfl,hm'⟩:∃ (alt':Int) (en' d':Nat),e=.returned (.tuple #[.int .i64 alt',.int .i64 en',.int .i64 d'])∧Mat l k alt' en':=by
        rcases hbr with ⟨alt',n',d',e1,-,-,-,hm'⟩|⟨-,hst⟩
        · exact ⟨alt',n',d',e1,hm'⟩
        · exact (Zql HN.out hst).elim
      obtain ⟨rfl,rfl⟩:=Prod.mk.inj ((Zmn HM.out).symm.trans (Zmn hm'))))
 go_ret3
 exact ZcT rfl HB1.out
theorem Zqn (a b:Int) (w:World) (ha:-2000≤a∧a≤1000000001) (hb:-2000≤b∧b≤1000000001):Calls Tryz.prog 166 #[.int .i64 a,.int .i64 b] w (Ret w (.int .i64 (ZmS a b))):=by
 obtain ⟨a0,a1⟩:=ha
 obtain ⟨b0,b1⟩:=hb
 generalize hq:ZmS a b=q
 have HQ:=Zh hq
 clear hq
 go_enter Tryz.func166,Tryz.ntmps166
 exact j7
theorem Zqo (a b:Int) (w:World) (h1:-1000≤a*b) (h2:a*b≤1000000001000):Calls Tryz.prog 352 #[.int .i64 a,.int .i64 b] w (Ret w (.int .i64 (ZmT a b))):=by
 have h3:IntKind.i64.wrap (a*b)=a*b:=IntWalk.i64_in _ (by omega)
 have H3:=Zh h3
 generalize hq:ZmT a b=q
 have HQ:=Zh hq
 clear hq
 go_enter Tryz.func352,Tryz.ntmps352
 exact j8
theorem Zqp (a b:Int) (w:World) (ha:Bl a) (hb:Bl b):Calls Tryz.prog 350 #[.int .i64 a,.int .i64 b] w (Ret w (.int .i64 (Zp5 a b))):=by
 obtain ⟨a0,a1⟩:=ha
 obtain ⟨b0,b1⟩:=hb
 generalize hq:Zp5 a b=q
 have HQ:=Zh hq
 clear hq
 go_enter Tryz.func350,Tryz.ntmps350
 go_wp2_with (go_at_call 166;refine (Zqn a b _ ⟨by omega,a1⟩ ⟨by omega,b1⟩).mono ?_;rintro e w1 ⟨rfl,hb1⟩)
 all_goals
  go_ret
  refine ZcT (ZcY ?_) bE
  rw [←HQ.out]
  unfold Zp5
  grind
theorem Zqq (a b:Int) (w:World):Calls Tryz.prog 351 #[.int .i64 a,.int .i64 b] w (Ret w (.int .i64 (Zp6 a b))):=by
 generalize hq:Zp6 a b=q
 have HQ:=Zh hq
 clear hq
 go_enter Tryz.func351,Tryz.ntmps351
 go_wp2
 all_goals
  go_ret
  refine ZcT (ZcY ?_) bE
  rw [←HQ.out]
  unfold Zp6
  grind
theorem Zqr (n:Int) (w:World):Calls Tryz.prog 96 #[.int .i64 n] w (Zhf w (.int .i64 (if 1000000000<n then 0 else n)) (.int .i64 (if 1000000000<n then 6 else 0))):=by
 by_cases h:1000000000<n
 all_goals
  first|rw [if_pos h,if_pos h]|rw [if_neg h,if_neg h]
  go_enter Tryz.func96,Tryz.ntmps96
  go_wp2
  go_ret2
  exact Zhg rfl rfl bE
end
end Go.Proofs.YtcfjblcgceednaaGreat
