/- Joined texts. The first: The reference's weights, and that they are the program's. -/
import Derived.Test.YtfkbfjhocmbneaaGreatG29
set_option linter.all false
set_option linter.unusedVariables false
set_option linter.unusedSimpArgs false
set_option maxHeartbeats 4000000
namespace Go.Proofs.YtfkbfjhocmbneaaGreat
section
open Go.RowKit
def ZpE (a b:Int):Int:=if a=-1∨b=-1 then -1 else Zmu a b
def ZpF (a b:Int):Int:=if a=-1∨(b≠-1∧b<a) then b else a
def ZpG (l:Bool) (a n:Int):Int:=if n=-1 then a else if a=-1∨(l=true∧n<a)∨(l=false∧a<n) then n else a
def ZpH (l:Bool) (m:Md) (T:Int→Int) (i:In3):Int:=if i.op=25 then T i.a else if i.op≠26 then 0 else (ZaN m i.a).foldl (fun a t=>ZpG l a (T t)) (-1)
def ZpI (l sc:Bool) (i:In3) (f s o t:Int):Int:=
 if i.op=29 then (if l=true then ZpE o (ZpF (ZpE f t) (ZpE s t)) else ZpE o (max (ZpE f t) (ZpE s t)))
 else if i.op=30 then (if l=true then o else Zmu o (Zmv i.a (Zmu f t)))
 else if i.op=32∧sc=true then 0
 else if i.op=33 then (if l=true then ZpE o (ZpF (ZpE f t) (ZpE s t)) else Zmu (Zmu o (Zmu f t)) s)
 else ZpE o (ZpE f t)
def gR (l:Bool) (x:Ms) (m:Md) (T:Int→Int):Wg where
 plus:=ZpE
 pl i:=if l=true∧i.op=28 then -1 else if ZpH l m T i=-1 then -1 else Zmu (x.wt i) (ZpH l m T i)
 brk i f s:=ZpI l x.sc i f s (x.wt i) x.tl
theorem ZpJ {g g':Wg}{l:List In3}{P:Int→Prop}{a b:Nat} (hs:Seg l a b) (h0:P 0) (hp:∀ a b,P a→P b→g.plus a b=g'.plus a b∧P (g.plus a b)) (hl:∀ i∈l,g.pl i=g'.pl i∧P (g.pl i))
  (hb:∀ i∈l,∀ f s,P f→P s→g.brk i f s=g'.brk i f s∧P (g.brk i f s)):∀ acc,P acc→WA g l a b acc=WA g' l a b acc∧P (WA g l a b acc):=by
 have hm:∀ k,k<l.length→l.getD k default∈l:=fun k hk=>ZfU _ hk
 induction hs with
 | nil a h=>intro acc hacc;rw [Zml,Zml];exact ⟨rfl,hacc⟩
 |pl a b q1 q2 q3 q4 q5 ih=>
  intro acc hacc
  rw [Zmm q2 q5,Zmm q2 q5]
  obtain ⟨e1,p1⟩:=hl _ (hm a q1)
  obtain ⟨e2,p2⟩:=hp _ _ hacc p1
  obtain ⟨e3,p3⟩:=ih _ p2
  exact ⟨by rw [e3,e2,e1],p3⟩
 |one a en b q1 q2 q3 i1 i2=>
  intro acc hacc
  rw [Zmn q1 q2 q3,Zmn q1 q2 q3]
  obtain ⟨e0,p0⟩:=i1 0 h0
  obtain ⟨e1,p1⟩:=hb _ (hm a q1.1) _ 0 p0 h0
  obtain ⟨e2,p2⟩:=hp _ _ hacc p1
  obtain ⟨e3,p3⟩:=i2 _ p2
  exact ⟨by rw [e3,e2,e1,e0],p3⟩
 |two a n en b q1 q2 q3 q4 i1 i2 i3=>
  intro acc hacc
  rw [Zmo q1 q2 q3 q4,Zmo q1 q2 q3 q4]
  obtain ⟨e0,p0⟩:=i1 0 h0
  obtain ⟨e9,p9⟩:=i2 0 h0
  obtain ⟨e1,p1⟩:=hb _ (hm a q1.1) _ _ p0 p9
  obtain ⟨e2,p2⟩:=hp _ _ hacc p1
  obtain ⟨e3,p3⟩:=i3 _ p2
  exact ⟨by rw [e3,e2,e1,e0,e9],p3⟩
theorem ZpK {a b:Int} (ha:Bd a) (hb:Bd b):ZpE a b=Zmu a b:=by unfold ZpE;rw [if_neg (by unfold Bd at *;omega)]
theorem ZpL {a b:Int} (ha:Bl a) (hb:Bl b):ZpE a b=Zmz a b:=by
 unfold ZpE Zmz Bl at *
 by_cases h:a=-1∨b=-1
 ·rw [if_pos h,if_pos (by omega)]
 ·rw [if_neg h,if_neg (by omega)]
theorem ZpM {a b:Int} (ha:Bl a) (hb:Bl b):Bl (ZpE a b):=ZpL ha hb▸ZoU ha hb
theorem ZpN {a b:Int} (ha:Bl a) (hb:Bl b):ZpF a b=ZmA a b:=by
 unfold ZpF ZmA Bl at *
 repeat' split
 all_goals omega
theorem ZpO {T:Int→Int}{l:List Int} (hn:l≠[]) (h:∀ t∈l,Bd (T t)):l.foldl (fun a t=>ZpG false a (T t)) (-1)=Zmy T l:=by
 have hg:∀ (l:List Int) (a:Int),Bd a→(∀ t∈l,Bd (T t))→l.foldl (fun a t=>ZpG false a (T t)) a=l.foldl (fun a t=>max a (T t)) a:=by
  intro l
  induction l with
  | nil=>intro a _ _;rfl
  |cons x r ih=>
   intro a ha h
   have hx:=h x (by simp)
   have e:ZpG false a (T x)=max a (T x):=by
    unfold ZpG Bd at *
    rw [if_neg (by omega)]
    split<;>simp_all<;>omega
   rw [List.foldl_cons,List.foldl_cons,e]
   exact ih _ (ZnD ha hx) fun t ht=>h t (by simp [ht])
 cases l with
 | nil=>exact absurd rfl hn
 |cons x r=>
  have hx:=h x (by simp)
  have e:ZpG false (-1) (T x)=T x:=by unfold ZpG Bd at *;rw [if_neg (by omega),if_pos (.inl rfl)]
  unfold Zmy
  rw [List.foldl_cons,List.foldl_cons,e,show max 0 (T x)=T x by unfold Bd at hx;omega]
  exact hg r _ hx fun t ht=>h t (by simp [ht])
def ZpP (m:Md) (l:List In3):Prop:=∀ i∈l,i.op=26→ZaN m i.a≠[]
section
variable {x:Ms}{m:Md}{T T':Int→Int}{l:List In3}{k:Nat} (hv:∀ i∈l,ZaQ false i=true∧ZaW m k i=true) (hsd:ZpP m l)
include hv hsd
theorem ZpQ (hw:∀ i∈l,0≤x.wt i∧x.wt i≤1000) (ht:0≤x.tl∧x.tl≤1000) (h32:x.sc=true→∀ i∈l,i.op=32→x.wt i=0) (hT:∀ t:Int,0≤t→t<k→T t=T' t) (hT':∀ t,Bd (T' t)) {a b:Nat} (hs:Seg l a b) :
  ∀ acc,Bd acc→WA (gR false x m T) l a b acc=WA (gW x m T') l a b acc∧Bd (WA (gR false x m T) l a b acc):=by
 have h0:Bd 0:=by unfold Bd;omega
 have ha:∀ i∈l,i.op≠1→0≤i.a:=fun i hi=>(ZfS (hv i hi).1 (hv i hi).2).a0
 refine ZpJ hs h0 (fun a b ha hb=>by rw [show (gR false x m T).plus a b=ZpE a b from rfl,ZpK ha hb];exact ⟨rfl,ZnB ha hb⟩) (fun i hi=>?_) (fun i hi f s hf hs=>?_)
 ·have hb:=ZnF (m:=m) hw ht hT' ha i hi
  have hwi:=hw i hi
  have ho:=ZfS (hv i hi).1 (hv i hi).2
  have hbw:Bd (x.wt i):=by unfold Bd;omega
  have hc:ZpH false m T i=if i.op=25 then T' i.a else if i.op=26 then Zmy T' (ZaN m i.a) else 0:=by
   unfold ZpH
   by_cases h25:i.op=25
   ·rw [if_pos h25,if_pos h25]
    exact hT _ (ho.a0 (by omega)) (ho.o25 h25).1
   ·rw [if_neg h25,if_neg h25]
    by_cases h26:i.op=26
    ·rw [if_neg (by omega),if_pos h26,←ZpO (hsd i hi h26) fun t _=>hT' t]
     have:∀ (L:List Int),(∀ t∈L,T t=T' t)→∀ a,L.foldl (fun a t=>ZpG false a (T t)) a=L.foldl (fun a t=>ZpG false a (T' t)) a:=by
      intro L
      induction L with
      | nil=>intro _ a;rfl
      | cons x r ih=>intro h a;rw [List.foldl_cons,List.foldl_cons,h x (by simp)];exact ih (fun t ht=>h t (by simp [ht])) _
     exact this _ (fun t ht=>hT _ (ZfT ht) ((ho.o26 h26).2 t ht)) _
    ·rw [if_pos h26,if_neg h26]
  have hcb:Bd (ZpH false m T i):=by
   rw [hc]
   split
   ·exact hT' _
   ·split
    ·exact ZnE fun t _=>hT' t
    ·exact h0
  have e:(gR false x m T).pl i=Zmu (x.wt i) (ZpH false m T i):=by
   show (if false=true∧i.op=28 then (-1:Int) else if ZpH false m T i=-1 then (-1:Int) else Zmu (x.wt i) (ZpH false m T i))=_
   rw [if_neg (by simp),if_neg (by unfold Bd at hcb;omega)]
  refine ⟨?_,by rw [e];exact ZnB hbw hcb⟩
  rw [e,hc]
  show _=if i.op=25 then _ else if i.op=26 then _ else _
  split
  ·rfl
  ·split
   ·rfl
   ·unfold Zmu Zmt;omega
 ·have hwi:=hw i hi
  have hbw:Bd (x.wt i):=by unfold Bd;omega
  have htl:Bd x.tl:=by unfold Bd;omega
  have hb:=ZnG (m:=m) hw ht hT' ha i hi f s hf hs
  have e:(gR false x m T).brk i f s=(gW x m T').brk i f s:=by
   show ZpI false x.sc i f s (x.wt i) x.tl=if i.op=29 then _ else if i.op=30 then _ else if i.op=32∧x.sc=true then _ else if i.op=33 then _ else _
   unfold ZpI
   simp only [Bool.false_eq_true,if_false]
   rw [ZpK hf htl,ZpK hs htl,ZpK hbw (ZnD (ZnB hf htl) (ZnB hs htl)),ZpK hbw (ZnB hf htl)]
   by_cases h29:i.op=29
   ·rw [if_pos h29,if_pos h29]
   ·rw [if_neg h29,if_neg h29]
    by_cases h30:i.op=30
    ·rw [if_pos h30,if_pos h30]
    ·rw [if_neg h30,if_neg h30]
     by_cases hsc:i.op=32∧x.sc=true
     ·rw [if_pos hsc,if_pos hsc,h32 hsc.2 i hi hsc.1]
     ·rw [if_neg hsc,if_neg hsc]
      by_cases h33:i.op=33
      ·rw [if_pos h33,if_pos h33]
       unfold Zmu Zmt Bd at *
       omega
      ·rw [if_neg h33,if_neg h33]
  exact ⟨e,e▸hb⟩
end
theorem ZpR {l:Bool}{x:Ms}{m:Md}{T:Int→Int}{c:List In3}{a b:Nat} (hs:Seg c a b):WA (gR l x m T) c a b (-1)=-1:=by
 have hp:∀ n,(gR l x m T).plus (-1) n=-1:=fun n=>by show ZpE (-1) n=-1;unfold ZpE;rw [if_pos (.inl rfl)]
 induction hs with
 | nil a h=>rw [Zml]
 | pl a b q1 q2 q3 q4 q5 ih=>rw [Zmm q2 q5,hp];exact ih
 | one a en b q1 q2 q3 i1 i2=>rw [Zmn q1 q2 q3,hp];exact i2
 | two a n en b q1 q2 q3 q4 i1 i2 i3=>rw [Zmo q1 q2 q3 q4,hp];exact i3
end
section
open Go.RowKit
theorem ZpS {s t:List Br × Nat}{i:In3} (h:ZaS s i=some t) (hs:s.1.length≤s.2):t.1.length≤t.2:=by
 obtain ⟨S,D⟩:=s
 unfold ZaS at h
 split at h
 ·cases h;simp;omega
 ·split at h
  ·cases S with
   | nil=>cases h
   |cons b r=>
    dsimp only at h
    split at h
    ·cases h;simp at hs ⊢;omega
    ·cases h
  ·split at h
   ·cases S with
    | nil=>cases h
    |cons b r=>
     dsimp only at h
     split at h
     ·cases h
     ·cases h;simp at hs ⊢;omega
   ·cases h;exact hs
theorem ZpT:∀ (l:List In3) (s t:List Br × Nat),ZaT s l=some t→s.1.length≤s.2→t.1.length≤t.2
 | [],s,t,h,hs=>by cases h;exact hs
 |i :: l,s,t,h,hs=>by
  unfold ZaT at h
  split at h
  ·cases h
  ·rename_i u hu
   exact ZpT l u t h (ZpS hu hs)
theorem ZpU {l:List In3} (hv:ZaU l=true) {k:Nat} (h:Za8 l k):False:=by
 unfold ZaU at hv
 split at hv
 ·cases hv
 ·rename_i st d hf
  simp only [Bool.and_eq_true,List.isEmpty_iff] at hv
  obtain ⟨rfl,_⟩:=hv
  rw [←List.take_append_drop k l,Za2] at hf
  cases h1:ZaT ([],0) (l.take k) with
  | none=>rw [h1] at hf;cases hf
  |some t=>
   rw [h1] at hf
   obtain ⟨S,D⟩:=t
   exact h S D (ZpT _ _ _ h1 (Nat.le_refl _)) _ hf rfl
theorem ZpV (l:List In3) (ao:Option Addr) (cap:Nat) (w:World) (hl:Zar w ao cap l) (hv:ZaV false l=0) {k en:Nat}{alt:Int} (hm:Mat l k alt en) :
    Calls Tryz.prog 47 #[.slice ao l.length cap,.int .i64 k] w (Ret w (.tuple #[.int .i64 alt,.int .i64 en,.int .i64 0])):=by
 have hcl:=(Znj hv).1
 have hk:=hm.1
 have hk2:(k:Int) < l.length:=by omega
 have HC:=Zh (ZgK l ao cap false w hl)
 rw [hv] at HC
 have hop:ZaR (l.getD k default).op=true:=hm.2.1
 have HB:=Zh (fun w' hb=>ZgH l ao cap w' (Zar.old hl (w':=w') hb) (by omega) l.length (ZgI l ao cap w' (Zar.old hl hb) (by omega) l.length) k hk (by omega) hop)
 have HL:=Zh (fun w' hb=>ZaA (Zar.old hl (w':=w') hb) hk)
 have HM:=Zh hm
 have HN:=Zh (Znj hv).2.2
 obtain ⟨op,ho⟩:∃ o,o=(l.getD k default).op:=⟨_,rfl⟩
 rw [←ho] at hop HL
 have HOp:=Zh hop
 clear ho hop hl hv hm
 go_enter Tryz.func47,Tryz.ntmps47
 go_wp2_with (first
   | (go_at_call 53;refine HC.out.mono ?_;rintro e w1 ⟨rfl,hb1⟩;have HB1:=Zh hb1;obtain ⟨ad,rfl,o0,-,-⟩:=HL.out _ hb1;clear hb1)
   | (go_at_call 81;refine (ZeO _ _).mono ?_;rintro e w2 ⟨rfl,rfl⟩;rw [HOp.out])
   | (go_at_call 82;refine (HB.out _ HB1.out).mono ?_;rintro e w3 ⟨hbr,rfl⟩
      obtain ⟨alt',en',d',rfl,hm'⟩:∃ (alt':Int) (en' d':Nat),e=.returned (.tuple #[.int .i64 alt',.int .i64 en',.int .i64 d'])∧Mat l k alt' en':=by
        rcases hbr with ⟨alt',n',d',e1,-,-,-,hm'⟩|⟨-,hst⟩
        · exact ⟨alt',n',d',e1,hm'⟩
        · exact (ZpU HN.out hst).elim
      obtain ⟨rfl,rfl⟩:=Prod.mk.inj ((Zmd HM.out).symm.trans (Zmd hm'))))
 go_ret3
 exact ZcT rfl HB1.out
theorem ZpW (a b:Int) (w:World) (ha:-2000≤a∧a≤1000000001) (hb:-2000≤b∧b≤1000000001):Calls Tryz.prog 66 #[.int .i64 a,.int .i64 b] w (Ret w (.int .i64 (Zmu a b))):=by
 obtain ⟨a0,a1⟩:=ha
 obtain ⟨b0,b1⟩:=hb
 generalize hq:Zmu a b=q
 have HQ:=Zh hq
 clear hq
 go_enter Tryz.func66,Tryz.ntmps66
 go_wp2
 all_goals
  go_ret
  exact ZcT (ZcY (by rw [←HQ.out];unfold Zmu Zmt;omega)) bE
theorem ZpX (a b:Int) (w:World) (h1:-1000≤a*b) (h2:a*b≤1000000001000):Calls Tryz.prog 48 #[.int .i64 a,.int .i64 b] w (Ret w (.int .i64 (Zmv a b))):=by
 have h3:IntKind.i64.wrap (a*b)=a*b:=IntWalk.i64_in _ (by omega)
 have H3:=Zh h3
 generalize hq:Zmv a b=q
 have HQ:=Zh hq
 clear hq
 go_enter Tryz.func48,Tryz.ntmps48
 go_wp2
 all_goals
  go_ret
  exact ZcT (ZcY (by rw [←HQ.out];unfold Zmv Zmt;omega)) bE
theorem ZpY (a b:Int) (w:World) (ha:Bl a) (hb:Bl b):Calls Tryz.prog 162 #[.int .i64 a,.int .i64 b] w (Ret w (.int .i64 (ZpE a b))):=by
 obtain ⟨a0,a1⟩:=ha
 obtain ⟨b0,b1⟩:=hb
 generalize hq:ZpE a b=q
 have HQ:=Zh hq
 clear hq
 go_enter Tryz.func162,Tryz.ntmps162
 go_wp2_with (go_at_call 66;refine (ZpW a b _ ⟨by omega,a1⟩ ⟨by omega,b1⟩).mono ?_;rintro e w1 ⟨rfl,hb1⟩)
 all_goals
  go_ret
  refine ZcT (ZcY ?_) bE
  rw [←HQ.out]
  unfold ZpE
  grind
theorem ZpZ (a b:Int) (w:World):Calls Tryz.prog 163 #[.int .i64 a,.int .i64 b] w (Ret w (.int .i64 (ZpF a b))):=by
 generalize hq:ZpF a b=q
 have HQ:=Zh hq
 clear hq
 go_enter Tryz.func163,Tryz.ntmps163
 go_wp2
 all_goals
  go_ret
  refine ZcT (ZcY ?_) bE
  rw [←HQ.out]
  unfold ZpF
  grind
theorem Zp0 (n:Int) (w:World):Calls Tryz.prog 59 #[.int .i64 n] w (Zhf w (.int .i64 (if 1000000000<n then 0 else n)) (.int .i64 (if 1000000000<n then 6 else 0))):=by
 by_cases h:1000000000<n
 all_goals
  first|rw [if_pos h,if_pos h]|rw [if_neg h,if_neg h]
  go_enter Tryz.func59,Tryz.ntmps59
  go_wp2
  go_ret2
  exact Zhg rfl rfl bE
end
section
open Go.RowKit
theorem Zp1 (m:Md) (h:Hd) (w:World) (H:Zay w h m):Calls Tryz.prog 61 #[.agg #[.slice h.co m.cl.length h.cc,.slice h.so m.st.length h.sc,.slice h.eo m.me.length h.ec,.int .i64 m.sel]] w (Ret w (.int .i64 (if (Zl6 m).2.2=0 then 0 else 1))):=by
 have HC:=Zh (fun w' hb=>Zji m h w' (H.old (w':=w') hb))
 have HV:=Zh (fun w' hb=>Zma w' h m (H.old (w':=w') hb))
 have hmv:Za1 m=false→(Zl6 m).2.2=1:=fun q=>by unfold Zl6;rw [if_neg (by rw [q];decide)]
 obtain ⟨q,hq⟩:∃ q:Int,q=if (Zl6 m).2.2=0 then 0 else 1:=⟨_,rfl⟩
 rw [←hq]
 obtain ⟨⟨z0,z1,z2⟩,hz⟩:∃ z,z=Zl6 m:=⟨_,rfl⟩
 rw [←hz] at HV hq hmv
 dsimp only at hq hmv
 have HQ:=Zh hq
 have HB0:=Zh (show Below w.heap.size w (w.alloc (.cells #[.slice h.co m.cl.length h.cc,.slice h.so m.st.length h.sc,.slice h.eo m.me.length h.ec,.int .i64 m.sel] 26)) by exact bE)
 have HX0:=Zh (Blk.new w #[.slice h.co m.cl.length h.cc,.slice h.so m.st.length h.sc,.slice h.eo m.me.length h.ec,.int .i64 m.sel] 26)
 rcases hm:Za1 m with _|_
 ·have e1:q=1:=by rw [hq,hmv hm];rfl
  have HE:=Zh e1
  rw [hm] at HC
  clear H hz hq hm hmv e1
  go_enter Tryz.func61,Tryz.ntmps61
  go_wp2_with (go_at_call 94;refine (HC.out _ HB0.out).mono ?_;rintro e w1 ⟨rfl,hb1⟩)
  go_ret
  exact ZcT (ZcY HE.out.symm) (Zaf HB0.out hb1)
 ·rw [hm] at HC
  clear H hz hq hm hmv
  go_enter Tryz.func61,Tryz.ntmps61
  go_wp2_with (first
   | (go_at_call 94;refine (HC.out _ HB0.out).mono ?_;rintro e w1 ⟨rfl,hb1⟩;have HB1:=Zh (Zaf HB0.out hb1);have HX1:=Zh (HX0.out.old hb1);have x0:=HX1.out.cell 0 (v:=.slice h.co m.cl.length h.cc) rfl;have x1:=HX1.out.cell 1 (v:=.slice h.so m.st.length h.sc) rfl;have x2:=HX1.out.cell 2 (v:=.slice h.eo m.me.length h.ec) rfl;have x3:=HX1.out.cell 3 (v:=.int .i64 m.sel) rfl;clear hb1)
   | (go_at_call 95;refine (HV.out _ HB1.out).mono ?_;rintro e w2 ⟨rfl,hb2⟩;have HB2:=Zh (Zaf HB1.out hb2);clear hb2))
  all_goals
   go_ret
   refine ZcT (ZcY ?_) HB2.out
   rw [HQ.out]
   grind
theorem Zp2 (m:Md) (h:Hd) (k:Int) (w:World) (H:Zay w h m):Calls Tryz.prog 46 #[.agg #[.slice h.co m.cl.length h.cc,.slice h.so m.st.length h.sc,.slice h.eo m.me.length h.ec,.int .i64 m.sel],.int .i64 k] w (Ret w (.int .i64 (if ZoO m k=true then 0 else 1))):=by
 have HF:=Zh (fun w' hb=>Zp1 m h w' (H.old (w':=w') hb))
 obtain ⟨q,hq⟩:∃ q:Int,q=if ZoO m k=true then 0 else 1:=⟨_,rfl⟩
 rw [←hq]
 obtain ⟨z,hz⟩:∃ z:Int,z=if (Zl6 m).2.2=0 then 0 else 1:=⟨_,rfl⟩
 have hq2:q=if z=0∧0≤k∧k<m.me.length then 0 else 1:=by
  rw [hq,hz]
  unfold ZoO inV
  by_cases h1:(Zl6 m).2.2=0
  ·simp [h1]
  ·simp [h1]
 rw [←hz] at HF
 have HZ:=Zh (show z=0∨z=1 by rw [hz];split<;>simp)
 have HQ:=Zh hq2
 have HB0:=Zh (show Below w.heap.size w (w.alloc (.cells #[.slice h.co m.cl.length h.cc,.slice h.so m.st.length h.sc,.slice h.eo m.me.length h.ec,.int .i64 m.sel] 26)) by exact bE)
 have HX0:=Zh (Blk.new w #[.slice h.co m.cl.length h.cc,.slice h.so m.st.length h.sc,.slice h.eo m.me.length h.ec,.int .i64 m.sel] 26)
 clear H hq hz hq2
 go_enter Tryz.func46,Tryz.ntmps46
 go_wp2_with (go_at_call 61;refine (HF.out _ HB0.out).mono ?_;rintro e w1 ⟨rfl,hb1⟩;have x2:=(HX0.out.old hb1).cell 2 (v:=.slice h.eo m.me.length h.ec) rfl;have HB1:=Zh (Zaf HB0.out hb1);clear hb1)
 all_goals
  go_ret
  refine ZcT (ZcY ?_) HB1.out
  have:=HZ.out
  rw [HQ.out]
  grind
def rcV (k:Int) (a:Int):Int:=if k=8∨k=18∨k=19∨k=23∨k=28 then 3 else if k=9 then 8 else if k=14 then 12 else if k=15∨k=16 then 4+a else if k=17∨k=21∨k=22∨k=24∨k=27∨k=30∨k=31∨k=33 then 2 else if k=20∨k=25∨k=32 then 4 else if k=26 then 6 else 1
theorem Zp3 {i:In3} (h:ZaQ false i=true):Zmw i=rcV i.op i.a:=by
 have hop:=Znf h
 obtain ⟨op,a,b⟩:=i
 dsimp only at hop ⊢
 obtain ⟨k,rfl⟩:∃ k:Nat,op=k:=⟨op.toNat,by omega⟩
 have hk:k<36:=by omega
 have h1:∀ k,k<36→((opC.getD k 0:Nat):Int)=rcV k 0:=by decide
 unfold Zmw
 rw [Int.toNat_natCast,h1 k hk]
 unfold rcV
 grind
theorem Zp4 (i:In3) (w:World) (hv:ZaQ false i=true):Calls Tryz.prog 16 #[.agg #[.int .i64 i.op,.int .i64 i.a,.int .i64 i.b]] w (Zhf w (.int .i64 (Zmw i)) (.int .i64 0)):=by
 have hop:=Znf hv
 have hla:=ZoF hv
 have HV:=Zh (fun w'=>Zgy i false w')
 rw [hv] at HV
 obtain ⟨q,hq⟩:∃ q,q=Zmw i:=⟨_,rfl⟩
 rw [←hq]
 rw [Zp3 hv] at hq
 obtain ⟨op,a,b⟩:=i
 dsimp only at hop HV hla hq
 have HQ:=Zh hq
 have HLa:=Zh hla
 have HX:=Zh (Blk.new w #[.int .i64 op,.int .i64 a,.int .i64 b] 42)
 have HB0:=Zh (show Below w.heap.size w (w.alloc (.cells #[.int .i64 op,.int .i64 a,.int .i64 b] 42)) by exact bE)
 have hwa:op=15∨op=16→IntKind.i64.wrap (4+a)=4+a:=fun h=>IntWalk.i64_in _ (by have:=hla h;omega)
 clear hq hv hla
 go_enter Tryz.func16,Tryz.ntmps16
 go_wp2_with (first
  | (go_at_call 49;refine (HV.out _).mono ?_;rintro e w1 ⟨rfl,hb1⟩;have HX1:=Zh (HX.out.old hb1);have HB1:=Zh (Zaf HB0.out hb1);have x0:=HX1.out.cell 0 (v:=.int .i64 op) rfl;have x1:=HX1.out.cell 1 (v:=.int .i64 a) rfl;clear hb1))
 all_goals
  go_ret2
  refine Zhg (ZcY ?_) rfl HB1.out
  rw [HQ.out]
  unfold rcV
  have hwb:op=15∨op=16→wrap64 (4+a)=4+a:=fun q=>by have:=HLa.out q;unfold wrap64;omega
  grind
end
section
open Go.RowKit
structure RT (w:World) (B g:Nat) (h:Hd) (m:Md) (bv:Int) (l:Bool) (L:List Int):Prop where
 tb:Blk w B #[.slice h.co m.cl.length h.cc,.slice h.so m.st.length h.sc,.slice h.eo m.me.length h.ec,.int .i64 m.sel,.int .i64 bv,.bool l,.slice (some ⟨g,0,none⟩) m.me.length m.me.length] 90
 nb:Blk w g (Zol L) 3
 md:Zay w h m
 ln:L.length=m.me.length
theorem RT.old {w w':World}{B g:Nat}{h:Hd}{m:Md}{bv:Int}{l:Bool}{L:List Int} (H:RT w B g h m bv l L) (hb:Below w.heap.size w w'):RT w' B g h m bv l L:=⟨H.tb.old hb,H.nb.old hb,H.md.old hb,H.ln⟩
def tlV (bv:Int):Int:=if bv=0 then 1 else 0
def scV (bv:Int):Bool:=decide (bv≠0)&&decide (bv≠4)
def Zp5 (bv:Int) (m:Md) (x:Ms) (c:List In3):Prop:=∀ i∈c,∀ w h,Zay w h m→Calls Tryz.prog 116 #[.agg #[.slice h.co m.cl.length h.cc,.slice h.so m.st.length h.sc,.slice h.eo m.me.length h.ec,.int .i64 m.sel],.agg #[.int .i64 i.op,.int .i64 i.a,.int .i64 i.b],.int .i64 bv] w (Ret w (.int .i64 (x.wt i)))
theorem Zp6 {m:Md}{c:List In3} (hv:∀ i∈c,ZaQ false i=true):Zp5 0 m Zmx c:=fun i hi w h H=>by
 have HC:=Zh (fun w'=>Zp4 i w' (hv i hi))
 obtain ⟨q,hq⟩:∃ q,q=Zmw i:=⟨_,rfl⟩
 rw [←hq] at HC
 rw [show Zmx.wt i=q from hq.symm]
 clear hq hi
 obtain ⟨op,a,b⟩:=i
 go_enter Tryz.func116,Tryz.ntmps116
 go_wp2_with (go_at_call 16;refine (HC.out _).mono ?_;rintro e w1 ⟨rfl,hb1⟩)
 go_ret
 exact ZcT rfl bE
theorem Zp7 {w:World}{B g:Nat}{h:Hd}{m:Md}{bv:Int}{l:Bool}{L:List Int} (H:RT w B g h m bv l L):Calls Tryz.prog 118 #[.pointer (some ⟨B,0,none⟩)] w (Ret w (.int .i64 (tlV bv))):=by
 have x4:=H.tb.cell 4 (v:=.int .i64 bv) rfl
 have hl:=H.tb.lt
 obtain ⟨q,hq⟩:∃ q,q=tlV bv:=⟨_,rfl⟩
 rw [←hq]
 unfold tlV at hq
 have HQ:=Zh hq
 clear hq H
 go_enter Tryz.func118,Tryz.ntmps118
 go_wp2
 all_goals
  go_ret
  refine ZcT (ZcY ?_) bE
  rw [HQ.out]
  grind
theorem Zp8 {a b:Int} (ha:Bl a) (hb:Bl b):Bl (ZpF a b):=ZpN ha hb▸ZoV ha hb
theorem Zp9 {a b:Int} (ha:Bl a) (hb:Bl b):Bl (max a b):=by unfold Bl at *;omega
theorem Zqa {w:World}{B g:Nat}{h:Hd}{m:Md}{bv:Int}{l:Bool}{L:List Int} (H:RT w B g h m bv l L) (i:In3) (f s o t:Int) (hf:Bl f) (hs:Bl s) (ho:0≤o∧o≤1000) (ht:0≤t∧t≤1000) (hi:i.op=30→0≤i.a∧i.a≤1000) :
  Calls Tryz.prog 117 #[.pointer (some ⟨B,0,none⟩),.agg #[.int .i64 i.op,.int .i64 i.a,.int .i64 i.b],.int .i64 f,.int .i64 s,.int .i64 o,.int .i64 t] w (Ret w (.int .i64 (ZpI l (scV bv) i f s o t))):=by
 have hob:Bl o:=by unfold Bl;omega
 have htb:Bl t:=by unfold Bl;omega
 obtain ⟨q,hq⟩:∃ q,q=ZpI l (scV bv) i f s o t:=⟨_,rfl⟩
 rw [←hq]
 obtain ⟨op,a,b⟩:=i
 dsimp only at hi
 unfold ZpI at hq
 dsimp only at hq
 have HQ:=Zh hq
 obtain ⟨w0,hw0⟩:∃ w0,w0=w.alloc (.cells #[.int .i64 op,.int .i64 a,.int .i64 b] 42):=⟨_,rfl⟩
 have HB:=Zh (show Below w.heap.size w w0 by rw [hw0];exact bE)
 have HX:=Zh (show Blk w0 w.heap.size #[.int .i64 op,.int .i64 a,.int .i64 b] 42 by rw [hw0];exact Blk.new _ _ _)
 have HT:=Zh (H.tb.old HB.out)
 have HBz:=Zh (show Below w0.heap.size w0 w0 by exact bE)
 have HW:=Zh hw0
 clear hw0 H hq
 go_enter Tryz.func117,Tryz.ntmps117
 go_upto_region 1 with fail
 rw [←HW.out]
 have x0:=HX.out.cell 0 (v:=.int .i64 op) rfl
 have x1:=HX.out.cell 1 (v:=.int .i64 a) rfl
 have x4:=HT.out.cell 4 (v:=.int .i64 bv) rfl
 have x5:=HT.out.cell 5 (v:=.bool l) rfl
 by_cases h30:op=30
 ·subst h30
  have hi2:=hi rfl
  cases l with
  |true=>
   go_wp2
   go_ret
   exact ZcT (ZcY (by rw [HQ.out];rfl)) (Zaf HB.out HBz.out)
  |false=>
   have hm0:-1000≤a*Zmu f t:=by
    have h1:-1≤Zmu f t:=by unfold Zmu Zmt Bl at *;omega
    have h2:=Int.mul_le_mul_of_nonneg_left h1 hi2.1
    omega
   have hm1:a*Zmu f t≤1000000001000:=by
    by_cases h0:0≤Zmu f t
    ·exact Int.le_trans (Int.mul_le_mul hi2.2 (show Zmu f t≤1000000001 by unfold Zmu Zmt;omega) h0 (by decide)) (by decide)
    ·have:=Int.mul_nonpos_of_nonneg_of_nonpos hi2.1 (show Zmu f t≤0 by omega)
     omega
   have hm2:-1000≤Zmv a (Zmu f t)∧Zmv a (Zmu f t)≤1000000001:=by unfold Zmv Zmt;omega
   have HMu:=Zh (And.intro (And.intro hm0 hm1) hm2)
   clear hm0 hm1 hm2
   go_upto_region 10 with fail
   refine rO (Cs [(⟨w.heap.size,1,none⟩,.int .i64 a)]) (oL [0,1,2,3,4,105,106,107,8]) ⟨x1,trivial⟩ ?_
   clear x0 x1 x4 x5
   repeat refine pO ?_
   refine oO fun Kv hK=>?_
   go_simp
   refine (ZpW f t _ (by unfold Bl at hf;omega) (by omega)).mono ?_
   rintro e w1 ⟨rfl,hb1⟩
   have HB1:=Zh (Zaf (Below.refl w0.heap.size w0).drew hb1)
   refine hK _ _ ⟨⟨(HX.out.old HB1.out).cell 1 (v:=.int .i64 a) rfl,trivial⟩,?_⟩
   clear hK Kv hb1
   repeat refine pO ?_
   refine oO fun Kv hK=>?_
   go_simp
   refine (ZpX a (Zmu f t) _ HMu.out.1.1 HMu.out.1.2).mono ?_
   rintro e w2 ⟨rfl,hb2⟩
   have HB2:=Zh (Zaf HB1.out hb2)
   refine hK _ _ ⟨⟨(HX.out.old HB2.out).cell 1 (v:=.int .i64 a) rfl,trivial⟩,?_⟩
   clear hK Kv hb2
   repeat refine pO ?_
   refine oO fun Kv hK=>?_
   go_simp
   refine (ZpW o (Zmv a (Zmu f t)) _ (by omega) (by have:=HMu.out.2;omega)).mono ?_
   rintro e w3 ⟨rfl,hb3⟩
   have HB3:=Zh (Zaf HB2.out hb3)
   refine hK _ _ ⟨⟨(HX.out.old HB3.out).cell 1 (v:=.int .i64 a) rfl,trivial⟩,?_⟩
   clear hK Kv hb3
   repeat refine pO ?_
   refine Zd5 ?_
   go_wp2
   go_ret
   exact ZcT (ZcY (by rw [HQ.out];rfl)) (Zaf HB.out HB3.out)
 ·go_wp2_with (first
   | (go_at_call 162;refine (ZpY _ _ _ (by (repeat (first|assumption|apply ZpM|apply Zp8|apply Zp9))) (by (repeat (first|assumption|apply ZpM|apply Zp8|apply Zp9)))).mono ?_;rintro e wn ⟨rfl,hbn⟩;have HBz:=Zh (Zaf HBz.out hbn);clear hbn x0 x1 x4 x5;have x0:=(HX.out.old HBz.out).cell 0 (v:=.int .i64 op) rfl;have x1:=(HX.out.old HBz.out).cell 1 (v:=.int .i64 a) rfl;have x4:=(HT.out.old HBz.out).cell 4 (v:=.int .i64 bv) rfl;have x5:=(HT.out.old HBz.out).cell 5 (v:=.bool l) rfl)
   | (go_at_call 163;refine (ZpZ _ _ _).mono ?_;rintro e wn ⟨rfl,hbn⟩;have HBz:=Zh (Zaf HBz.out hbn);clear hbn x0 x1 x4 x5;have x0:=(HX.out.old HBz.out).cell 0 (v:=.int .i64 op) rfl;have x1:=(HX.out.old HBz.out).cell 1 (v:=.int .i64 a) rfl;have x4:=(HT.out.old HBz.out).cell 4 (v:=.int .i64 bv) rfl;have x5:=(HT.out.old HBz.out).cell 5 (v:=.bool l) rfl)
   | (go_at_call 66;refine (ZpW _ _ _ (by unfold Bl Zmu Zmt at *;omega) (by unfold Bl Zmu Zmt at *;omega)).mono ?_;rintro e wn ⟨rfl,hbn⟩;have HBz:=Zh (Zaf HBz.out hbn);clear hbn x0 x1 x4 x5;have x0:=(HX.out.old HBz.out).cell 0 (v:=.int .i64 op) rfl;have x1:=(HX.out.old HBz.out).cell 1 (v:=.int .i64 a) rfl;have x4:=(HT.out.old HBz.out).cell 4 (v:=.int .i64 bv) rfl;have x5:=(HT.out.old HBz.out).cell 5 (v:=.bool l) rfl))
  all_goals
   go_ret
   refine ZcT (ZcY ?_) (Zaf HB.out HBz.out)
   rw [HQ.out]
   unfold scV
   grind
end
section
open Go.RowKit
theorem Zqb {l:List Int}{k:Nat} (h:k<l.length):l.getD k 0∈l:=by
 have:l.getD k 0=l[k]:=by simp [h]
 rw [this]
 exact List.getElem_mem _
def Zqc (L:List Int):Int→Int:=fun t=>L.getD t.toNat 0
def Zqd (l:Bool) (T:Int→Int) (ts:List Int) (j:Nat):Int:=(ts.take j).foldl (fun a t=>ZpG l a (T t)) (-1)
theorem Zqe {l:Bool}{T:Int→Int}{ts:List Int}{j:Nat} (hj:j<ts.length):Zqd l T ts (j+1)=ZpG l (Zqd l T ts j) (T (ts.getD j 0)):=by
 unfold Zqd
 rw [List.take_succ_eq_append_getElem hj,List.foldl_append]
 have hx:ts[j]=ts.getD j 0:=by simp [hj]
 rw [hx]
 rfl
theorem Zqf {m:Md} (h:Za1 m=true):m.cl.length≤10∧m.me.length≤16:=by
 have:=ZfJ h
 unfold ZaZ at this
 simp only [Bool.and_eq_true,decide_eq_true_eq] at this
 omega
theorem Zqg {w:World}{B g:Nat}{h:Hd}{m:Md}{bv:Int}{l:Bool}{L:List Int} (H:RT w B g h m bv l L) (hm:Za1 m=true) (i:In3) (h25:i.op=25→0≤i.a∧i.a<m.me.length) (h26:i.op=26→0≤i.a∧i.a<m.sel∧∀ t∈ZaN m i.a,0≤t∧t<m.me.length) :
  Calls Tryz.prog 115 #[.pointer (some ⟨B,0,none⟩),.agg #[.int .i64 i.op,.int .i64 i.a,.int .i64 i.b]] w (Ret w (.int .i64 (ZpH l m (Zqc L) i))):=by
 have HMe:=Zh (show m.me.length≤1000 by have:=(Zqf hm);omega)
 obtain ⟨q,hq⟩:∃ q,q=ZpH l m (Zqc L) i:=⟨_,rfl⟩
 rw [←hq]
 obtain ⟨op,ia,b⟩:=i
 unfold ZpH at hq
 dsimp only at h25 h26 hq
 have HQ:=Zh hq
 obtain ⟨w0,hw0⟩:∃ w0,w0=w.alloc (.cells #[.int .i64 op,.int .i64 ia,.int .i64 b] 42):=⟨_,rfl⟩
 have HB:=Zh (show Below w.heap.size w w0 by rw [hw0];exact bE)
 have HX:=Zh (show Blk w0 w.heap.size #[.int .i64 op,.int .i64 ia,.int .i64 b] 42 by rw [hw0];exact Blk.new _ _ _)
 have HT:=Zh (H.old HB.out)
 have HW:=Zh hw0
 have HMo:=Zh hm
 clear hw0 H hq hm
 go_enter Tryz.func115,Tryz.ntmps115
 go_upto_region 1 with fail
 rw [←HW.out]
 have x0:=HX.out.cell 0 (v:=.int .i64 op) rfl
 have x1:=HX.out.cell 1 (v:=.int .i64 ia) rfl
 by_cases e25:op=25
 ·subst e25
  obtain ⟨a0,a1⟩:=h25 rfl
  obtain ⟨a,rfl⟩:∃ a:Nat,ia=a:=⟨ia.toNat,by omega⟩
  have x6:=HT.out.tb.cell 6 (v:=.slice (some ⟨g,0,none⟩) m.me.length m.me.length) rfl
  have n0:=Zon HT.out.nb (k:=a) (by have:=HT.out.ln;omega)
  go_upto_region 2 with fail
  refine rO (Cs [(⟨w.heap.size,1,none⟩,.int .i64 a),(⟨B,6,none⟩,.slice (some ⟨g,0,none⟩) m.me.length m.me.length),(⟨g,a,none⟩,.int .i64 (L.getD a 0))]) (oL [0,1,2,3,4,5,6,7,8]) ⟨x1,x6,n0,trivial⟩ ?_
  clear x0 x1 x6 n0
  repeat refine pO ?_
  refine Zd5 ?_
  go_wp2
  go_ret
  exact ZcT (ZcY (by rw [HQ.out];unfold Zqc;simp)) (by have:=HB.out;exact bE)
 ·by_cases e26:op=26
  ·subst e26
   obtain ⟨a0,a1,a2⟩:=h26 rfl
   obtain ⟨a,rfl⟩:∃ a:Nat,ia=a:=⟨ia.toNat,by omega⟩
   have HTg:=Zh (fun w' hb=>Zjm m h a w' (HT.out.md.old (w':=w') hb) HMo.out a1)
   obtain ⟨ts,hts⟩:∃ ts,ts=ZaN m a:=⟨_,rfl⟩
   rw [←hts] at HTg HQ a2
   have HA2:=Zh a2
   have HLn:=Zh (show ts.length≤1000 by rw [hts];have:=ZdG m a;have:=(Zqf HMo.out);omega)
   have x2:=HT.out.tb.cell 0 (v:=.slice h.co m.cl.length h.cc) rfl
   have x3:=HT.out.tb.cell 1 (v:=.slice h.so m.st.length h.sc) rfl
   have x4:=HT.out.tb.cell 2 (v:=.slice h.eo m.me.length h.ec) rfl
   have x5:=HT.out.tb.cell 3 (v:=.int .i64 m.sel) rfl
   clear a2 hts
   go_upto_region 5 with fail
   have HCs:=Zh (show Cs [(⟨w.heap.size,1,none⟩,.int .i64 a),(⟨B,0,none⟩,.slice h.co m.cl.length h.cc),(⟨B,1,none⟩,.slice h.so m.st.length h.sc),(⟨B,2,none⟩,.slice h.eo m.me.length h.ec),(⟨B,3,none⟩,.int .i64 m.sel)] w0 from ⟨x1,x2,x3,x4,x5,trivial⟩)
   refine rO (Cs [(⟨w.heap.size,1,none⟩,.int .i64 a),(⟨B,0,none⟩,.slice h.co m.cl.length h.cc),(⟨B,1,none⟩,.slice h.so m.st.length h.sc),(⟨B,2,none⟩,.slice h.eo m.me.length h.ec),(⟨B,3,none⟩,.int .i64 m.sel)]) (oL [0,1,2,3,4,5,106,7,8,9,10,11]) ⟨x1,x2,x3,x4,x5,trivial⟩ ?_
   clear x0 x1 x2 x3 x4 x5
   repeat refine pO ?_
   refine oO fun Kv hK=>?_
   go_simp
   refine (HTg.out _ (Below.refl _ _).drew).mono ?_
   rintro e w1 ⟨⟨tao,tc,rfl,htr⟩,hb1⟩
   have HB1:=Zh (Zaf (Below.refl w0.heap.size w0).drew hb1)
   have HTr:=Zh htr
   refine hK _ _ ⟨Cs.keeps (Znv.of HB1.out) HCs.out,?_⟩
   clear hK Kv hb1 htr
   repeat refine pO ?_
   refine Zd5 ?_
   go_wp2
   have HT1:=Zh (HT.out.old HB1.out)
   go_loopw [7,8] (fun bs j wr=>∃ n:Nat,n≤ts.length∧j=.int .i64 n∧bs=.int .i64 (Zqd l (Zqc L) ts n)∧Hid (Below w1.heap.size w1 wr)) (fun _ j _=>ts.length-(intOf j).toNat)
   case atStart=>exact ⟨0,Nat.zero_le _,rfl,rfl,by exact bE⟩
   case round=>
    obtain ⟨n,hn,rfl,rfl,HBr⟩:=hrel
    rename World=>wo
    by_cases hnl:n<ts.length
    ·have hnl2:(n:Int) < ts.length:=by omega
     have hwn:IntKind.i64.wrap ((n:Int)+1)=((n+1:Nat):Int):=IntWalk.i64_in _ (by have:=HLn.out;omega)
     obtain ⟨ad,rfl,t0⟩:=ZaB (HTr.out.old HBr.out) hnl
     obtain ⟨t,ht⟩:∃ t,t=ts.getD n 0:=⟨_,rfl⟩
     rw [←ht] at t0
     have htm:=HA2.out t (by rw [ht];exact Zqb hnl)
     have HS:=Zh (Zqe (l:=l) (T:=Zqc L) hnl)
     rw [←ht] at HS
     obtain ⟨bs,hbs⟩:∃ bs,bs=Zqd l (Zqc L) ts n:=⟨_,rfl⟩
     rw [←hbs] at HS ⊢
     clear hbs ht
     obtain ⟨tn,rfl⟩:∃ tn:Nat,t=tn:=⟨t.toNat,by omega⟩
     obtain ⟨x,hx⟩:∃ x,x=Zqc L tn:=⟨_,rfl⟩
     have HT2:=Zh (HT1.out.old HBr.out)
     have x6:=HT2.out.tb.cell 6 (v:=.slice (some ⟨g,0,none⟩) m.me.length m.me.length) rfl
     have n0:=Zon HT2.out.nb (k:=tn) (by have:=HT.out.ln;omega)
     rw [show L.getD tn 0=x by rw [hx];unfold Zqc;rw [Int.toNat_natCast]] at n0
     rw [←hx] at HS
     clear hx
     go_upto_region 10 with fail
     refine rO (Cs [(⟨B,6,none⟩,.slice (some ⟨g,0,none⟩) m.me.length m.me.length),(ad.add n,.int .i64 tn),(⟨g,tn,none⟩,.int .i64 x)]) (oL [0,1,2,3,4,5,6,7,8,9,10]) ⟨x6,t0,n0,trivial⟩ ?_
     clear x6 t0 n0
     repeat refine pO ?_
     refine Zd5 ?_
     have x5:=(show Blk wo.drew B _ _ from HT2.out.tb).cell 5 (v:=.bool l) rfl
     go_wp2
     all_goals
      refine ⟨⟨n+1,by omega,rfl,?_,HBr.out.drew⟩,by simp [intOf];omega⟩
      rw [HS.out]
      unfold ZpG
      grind
    ·obtain rfl:n=ts.length:=by omega
     have hj5:¬ (ts.length:Int) < ts.length:=by omega
     go_wp2
     go_ret
     refine ZcT (ZcY ?_) (Zaf HB.out (Zaf HB1.out HBr.out))
     rw [HQ.out]
     unfold Zqd
     rw [List.take_length]
     simp
  ·go_wp2
   go_ret
   exact ZcT (ZcY (by rw [HQ.out,if_neg e25,if_pos e26])) HB.out
end
section
open Go.RowKit
def Pl (l:Bool) (n:Int):Prop:=(l=false→0≤n)∧Bl n
theorem Pl.of {l:Bool}{n:Int} (h:Bd n):Pl l n:=⟨fun _=>h.1,Bl.of h⟩
theorem Zqh {l:Bool}{a b:Int} (ha:Pl l a) (hb:Pl l b):Pl l (ZpE a b):=by
 refine ⟨fun q=>?_,ZpM ha.2 hb.2⟩
 have:=ha.1 q
 have:=hb.1 q
 unfold ZpE Zmu Zmt
 rw [if_neg (by omega)]
 omega
theorem Zqi {l:Bool}{a b:Int} (ha:Bd a) (hb:Bd b):Pl l (Zmu a b):=Pl.of (ZnB ha hb)
theorem Zqj {l:Bool}{a n:Int} (ha:Bl a) (hn:Pl l n):Bl (ZpG l a n):=by
 unfold ZpG Pl Bl at *
 repeat' split
 all_goals omega
theorem Zqk {a n:Int} (hn:0≤n):0≤ZpG false a n:=by
 unfold ZpG
 repeat' split
 all_goals simp_all
 all_goals omega
theorem Zql {l:Bool}{T:Int→Int}:∀ (ts:List Int) (a:Int),Bl a→(∀ t∈ts,Pl l (T t))→Bl (ts.foldl (fun a t=>ZpG l a (T t)) a)∧(l=false→(ts≠[]∨0≤a)→0≤ts.foldl (fun a t=>ZpG l a (T t)) a)
 | [],a,ha,_=>⟨ha,fun _ q=>by rcases q with q|q;exact absurd rfl q;exact q⟩
 |t :: ts,a,ha,h=>by
  have h1:=h t (by simp)
  obtain ⟨q1,q2⟩:=Zql ts (ZpG l a (T t)) (Zqj ha h1) fun u hu=>h u (by simp [hu])
  refine ⟨q1,fun e _=>q2 e (.inr ?_)⟩
  subst e
  exact Zqk (h1.1 rfl)
structure RCx (bv:Int) (x:Ms) (l:Bool) (m:Md) (k:Nat) (L:List Int):Prop where
 hm:Za1 m=true
 hk:k<m.me.length
 sd:ZpP m (cdM m k)
 ow:Zp5 bv m x (cdM m k)
 wt:∀ i∈cdM m k,0≤x.wt i∧x.wt i≤1000
 tl:x.tl=tlV bv
 sc:x.sc=scV bv
 nu:∀ t,Pl l (Zqc L t)
section
variable {bv:Int}{x:Ms}{l:Bool}{m:Md}{k:Nat}{L:List Int} (H:RCx bv x l m k L)
include H
theorem RCx.ok:ZfM m k:=ZfN H.hm H.hk
theorem RCx.code:ZaV false (cdM m k)=0:=(ZoS H.hm default).code H.hk
theorem RCx.opd {i:In3} (hi:i∈cdM m k):ZfR m k i:=ZfS (H.ok.i i hi).1 (H.ok.i i hi).2
theorem RCx.called {i:In3} (hi:i∈cdM m k):Pl l (ZpH l m (Zqc L) i):=by
 unfold ZpH
 split
 ·exact H.nu _
 ·split
  ·exact Pl.of (by unfold Bd;omega)
  ·rename_i h26
   obtain ⟨q1,q2⟩:=Zql (l:=l) (T:=Zqc L) (ZaN m i.a) (-1) (by unfold Bl;omega) fun t _=>H.nu t
   exact ⟨fun e=>q2 e (.inl (H.sd i hi (by omega))),q1⟩
theorem RCx.tlb:0≤x.tl∧x.tl≤1000:=by rw [H.tl];unfold tlV;split<;>omega
theorem RCx.pl {i:In3} (hi:i∈cdM m k):Pl l ((gR l x m (Zqc L)).pl i):=by
 have hc:=H.called hi
 have hw:=H.wt i hi
 show Pl l (if l=true∧i.op=28 then (-1:Int) else if ZpH l m (Zqc L) i=-1 then (-1:Int) else Zmu (x.wt i) (ZpH l m (Zqc L) i))
 generalize ZpH l m (Zqc L) i=c at *
 cases l with
 |true=>
  refine ⟨(fun q=>by cases q),?_⟩
  have:=hc.2
  unfold Bl Zmu Zmt at *
  repeat' split
  all_goals omega
 |false=>
  have h1:=hc.1 rfl
  have h2:=hc.2
  unfold Bl at h2
  rw [if_neg (fun q=>by cases q.1),if_neg (by omega)]
  exact Zqi (by unfold Bd;omega) (by unfold Bd;omega)
theorem RCx.brk {i:In3} (hi:i∈cdM m k) {f s:Int} (hf:Pl l f) (hs:Pl l s):Pl l ((gR l x m (Zqc L)).brk i f s):=by
 have hw:=H.wt i hi
 have ht:=H.tlb
 have ho:Pl l (x.wt i):=Pl.of (by unfold Bd;omega)
 have htp:Pl l x.tl:=Pl.of (by unfold Bd;omega)
 have hob:Bd (x.wt i):=by unfold Bd;omega
 have htb:Bd x.tl:=by unfold Bd;omega
 show Pl l (ZpI l x.sc i f s (x.wt i) x.tl)
 unfold ZpI
 cases l with
 |true=>
  simp only [if_true]
  have hb:∀ n,Bl n→Pl true n:=fun n h=>⟨(fun q=>by cases q),h⟩
  have h1:=ZpM ho.2 (Zp8 (ZpM hf.2 htp.2) (ZpM hs.2 htp.2))
  have h2:=ZpM ho.2 (ZpM hf.2 htp.2)
  repeat' split
  all_goals first|exact hb _ h1|exact hb _ h2|exact ho|exact Pl.of (by unfold Bd;omega)
 |false=>
  simp only [Bool.false_eq_true,if_false]
  have hfb:Bd f:=⟨hf.1 rfl,hf.2.2⟩
  have hsb:Bd s:=⟨hs.1 rfl,hs.2.2⟩
  have hmx:Pl false (max (ZpE f x.tl) (ZpE s x.tl)):=by
   rw [ZpK hfb htb,ZpK hsb htb];exact Pl.of (ZnD (ZnB hfb htb) (ZnB hsb htb))
  by_cases h29:i.op=29
  ·rw [if_pos h29];exact Zqh ho hmx
  ·rw [if_neg h29]
   by_cases h30:i.op=30
   ·rw [if_pos h30];exact Zqi hob (ZnC ((H.opd hi).a0 (by omega)) (ZnB hfb htb))
   ·rw [if_neg h30]
    split
    ·exact Pl.of (by unfold Bd;omega)
    ·split
     ·exact Zqi (ZnB hob (ZnB hfb htb)) hsb
     ·exact Zqh ho (Zqh hf htp)
theorem RCx.wa {a b:Nat} (hs:Seg (cdM m k) a b) {acc:Int} (ha:Pl l acc):Pl l (WA (gR l x m (Zqc L)) (cdM m k) a b acc):=
 (ZpJ (g:=gR l x m (Zqc L)) (g':=gR l x m (Zqc L)) hs (Pl.of (by unfold Bd;omega)) (fun _ _ h1 h2=>⟨rfl,Zqh h1 h2⟩) (fun i hi=>⟨rfl,H.pl hi⟩) (fun i hi f s hf hs=>⟨rfl,H.brk hi hf hs⟩) acc ha).2
end
end
section
open Go.RowKit
theorem Zqm {m:Md}{lo:List Ty}{i:In3}{s:Ps} (h:(ZeC m lo i s).1=0) (h26:i.op=26):ZaN m i.a≠[]:=fun e=>by
 unfold ZeC at h
 rw [if_neg (by omega),if_neg (by omega)] at h
 have hp:∀ l,ZeB m lo i l=none:=fun l=>by
  unfold ZeB Zew
  simp [h26,e]
 simp only [hp] at h
 split at h<;>simp at h
theorem Zqn {m:Md}{lo:List Ty}{r:Ty}:∀ (l:List In3) (n:Nat) (s:Ps),(ZeE m lo r n l s).2.2=0→ZpP m l
 | [],_,_,_=>fun i hi=>by simp at hi
 |i :: l,n,s,h=>by
  unfold ZeE at h
  by_cases h1:(ZeC m lo i s).1=0
  ·rw [if_pos h1] at h
   dsimp only at h
   intro j hj
   rcases List.mem_cons.1 hj with rfl|hj
   ·exact Zqm h1
   ·refine Zqn (lo:=lo) (r:=r) l (n+1) (ZeC m lo i s).2 ?_ j hj
    split at h
    ·assumption
    ·exact h
  ·rw [if_neg h1] at h
   exact absurd h h1
theorem Zqo {m:Md}:∀ (n k:Nat),(Zl5 m n k).2.2=0→∀ j,k≤j→j<k+n→(ZeG m j).2.2=0
 | 0,k,_,j,h1,h2=>by omega
 |n+1,k,h,j,h1,h2=>by
  unfold Zl5 at h
  by_cases h3:(ZeG m k).2.2=0
  ·rw [if_pos h3] at h
   by_cases e:j=k
   ·subst e;exact h3
   ·exact Zqo n (k+1) h j (by omega) (by omega)
  ·rw [if_neg h3] at h
   exact absurd h h3
theorem Zqp {m:Md} (h:(Zl6 m).2.2=0):Za1 m=true∧∀ k,k<m.me.length→ZpP m (cdM m k):=by
 unfold Zl6 at h
 by_cases hm:Za1 m=true
 ·rw [if_pos hm] at h
  exact ⟨hm,fun k hk=>Zqn _ _ _ (Zqo _ _ h k (Nat.zero_le _) (by omega))⟩
 ·rw [if_neg hm] at h
  exact absurd h (by decide)
section
variable {x:Ms}{m:Md} (hm:Za1 m=true) (hsd:∀ k,k<m.me.length→ZpP m (cdM m k))
include hm hsd
theorem Zqq (hw:∀ k,k<m.me.length→∀ i∈cdM m k,0≤x.wt i∧x.wt i≤1000) (ht:0≤x.tl∧x.tl≤1000) (h32:x.sc=true→∀ k,k<m.me.length→∀ i∈cdM m k,i.op=32→x.wt i=0):∀ n k,k<n→k<m.me.length→ZmD (gR false x m) m k=ZmD (gW x m) m k
 | 0,k,hn,_=>by omega
 |n+1,k,hn,hk=>by
  have hok:=ZfN hm hk
  rw [ZoJ hm x hk,ZoH]
  refine (ZpQ (k:=k) (fun i hi=>hok.i i hi) (hsd k hk) (hw k hk) ht (fun q=>h32 q k hk) (T':=fun t=>ZmD (gW x m) m t.toNat) (fun t h0 h1=>?_) (fun t=>?_) (Zmg hok.n) 0 (by unfold Bd;omega)).1
  ·rw [ZmF _ _ (by omega)]
   exact Zqq hw ht h32 n _ (by omega) (by omega)
  ·exact ZoI hm (x:=x) hw ht (t.toNat+1) _ (by omega)
end
def Zqr (g:Wg) (l:List In3) (p:Nat):Int × Nat:=
 if ZaR (l.getD p default).op=true then
  (g.brk (l.getD p default) (WA g l (p+1) (if (mtV l p).1<0 then (mtV l p).2 else (mtV l p).1.toNat) 0) (if (mtV l p).1<0 then 0 else WA g l ((mtV l p).1.toNat+1) (mtV l p).2 0),(mtV l p).2+1)
 else (g.pl (l.getD p default),p+1)
theorem Zqs {g:Wg}{l:List In3}{p b:Nat} (h:Seg l p b) (hp:p<b):p<(Zqr g l p).2∧(Zqr g l p).2≤b∧Seg l (Zqr g l p).2 b∧∀ acc,WA g l p b acc=WA g l (Zqr g l p).2 b (g.plus acc (Zqr g l p).1):=by
 rcases Zno h with e|⟨_,h2,h3,h4,h5⟩|⟨en,h1,h2,h3,h4,h5⟩|⟨n,en,h1,h2,h3,h4,h5,h6,h7⟩
 ·omega
 ·have e:Zqr g l p=(g.pl (l.getD p default),p+1):=by unfold Zqr;rw [if_neg (by rw [h2];decide)]
  rw [e]
  exact ⟨Nat.lt_succ_self _,hp,h5,fun acc=>Zmm h2 h5⟩
 ·have e:Zqr g l p=(g.brk (l.getD p default) (WA g l (p+1) en 0) 0,en+1):=by unfold Zqr;rw [if_pos (show _=true from h1.2.1),Zmd h1];rfl
  rw [e]
  exact ⟨by dsimp only;omega,by dsimp only;omega,h5,fun acc=>Zmn h1 h4 h5⟩
 ·have e:Zqr g l p=(g.brk (l.getD p default) (WA g l (p+1) n 0) (WA g l (n+1) en 0),en+1):=by
   unfold Zqr
   rw [if_pos (show _=true from h1.2.1),Zmd h1]
   dsimp only
   rw [if_neg (by omega),if_neg (by omega),Int.toNat_natCast]
  rw [e]
  exact ⟨by dsimp only;omega,by dsimp only;omega,h7,fun acc=>Zmo h1 h5 h6 h7⟩
end
section
open Go.RowKit
theorem Zqt {m:Md} (hm:Za1 m=true) {lo:List Ty} (hlo:∀ t∈lo,Zfi m t) {k:Nat} (hk:k<m.me.length) (r:Ty):∀ (l:List In3) (n:Nat) (s:Ps),(∀ i∈l,ZfR m k i∧0≤i.op∧i.op<36)→Wf m s l→(∀ t∈(ZeE m lo r n l s).1,Zfj m t)∧(ZeE m lo r n l s).1.length≤l.length+1
 |[],n,s,_,hw=>by
  unfold ZeE
  split
  ·exact ⟨fun t ht=>by rw [List.mem_singleton.1 ht];exact hw.stk,by simp⟩
  ·exact ⟨fun t ht=>(by cases ht),by simp⟩
 |i :: l,n,s,hi,hw=>by
  unfold ZeE
  split
  ·rename_i h0
   obtain ⟨q1,q2⟩:=hi i List.mem_cons_self
   obtain ⟨a1,a2⟩:=Zqt hm hlo hk r l (n+1) _ (fun j hj=>hi j (List.mem_cons_of_mem _ hj)) (Zgo hm hlo hk q2 q1 hw h0)
   dsimp only
   split
   ·refine ⟨fun t ht=>?_,by simp;omega⟩
    rcases List.mem_cons.1 ht with rfl|ht
    ·exact hw.stk
    ·exact a1 t ht
   ·exact ⟨fun t ht=>(by cases ht),by simp⟩
  ·exact ⟨fun t ht=>(by cases ht),by simp⟩
theorem Zqu (m:Md) (k:Int):(∀ t∈(ZeH m k).1,Zfj m t)∧(ZeH m k).1.length≤121:=by
 unfold ZeH
 split
 ·rename_i h
  obtain ⟨hm,h0,h1⟩:=h
  have hk:k.toNat<m.me.length:=by omega
  have hmt:=ZfN hm hk
  obtain ⟨a,b⟩:=Zqt hm (ZfO hm hk) hk (m.me.getD k.toNat default).r (m.me.getD k.toNat default).k 0 ⟨[],[]⟩ (fun i hi=>⟨ZfS (hmt.i i hi).1 (hmt.i i hi).2,ZfQ (hmt.i i hi).1⟩) (Zfo hmt.n)
  have:=hmt.z.2.2
  exact ⟨a,by unfold ZeG;omega⟩
 ·exact ⟨fun t ht=>(by cases ht),by simp⟩
theorem ZjK.rows {w:World}{N:Nat}{so:Option Addr}{sc:Nat}{rows:List SH}{m:Md}{k:Int} (H:ZjI w N so sc rows (ZeH m k).1):rows.length≤121:=by rw [H.len];exact (Zqu m k).2
end
end Go.Proofs.YtfkbfjhocmbneaaGreat
