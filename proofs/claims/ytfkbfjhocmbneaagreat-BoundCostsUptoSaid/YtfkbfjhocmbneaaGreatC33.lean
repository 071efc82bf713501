/- Joined texts. The first: A copied module of which one method is given other code. -/
import Derived.Test.YtfkbfjhocmbneaaGreatC30
import Derived.Test.YtfkbfjhocmbneaaGreatC31
set_option linter.all false
set_option linter.unusedVariables false
set_option linter.unusedSimpArgs false
namespace Go.Proofs.YtfkbfjhocmbneaaGreat
section
open Go.RowKit
section
variable {w:World}{base:Nat}{e:TypeId}{size g n cap:Nat}{xs:List Value}(h:w.ownsRow base e size (.slice (some ⟨g,0,none⟩) n cap) n xs)(j:Nat)
include w base e size g n cap xs h j
theorem Zry (v:Value):(w.setCell ⟨g,j,none⟩ v).ownsRow base e size (.slice (some ⟨g,0,none⟩) n cap) n (xs.set j v):=by
 obtain ⟨h1,h2⟩:=h
 rcases h2 with ⟨hv,_⟩|⟨g',c,cur,hv,hb,hg,hn,hm,hs,ht⟩
 ·cases hv
 ·cases hv
  refine ⟨by rw [List.length_set];exact h1,.inr ⟨g,cap,cur.setIfInBounds j v,rfl,hb,heap_setCell_same w g j cur e v hg,hn,hm,by rw [Array.size_setIfInBounds];exact hs,?_⟩⟩
  rw [←ht,Array.toList_setIfInBounds,List.take_set]
theorem Zrz:w.frozen? ⟨g,j,none⟩=false:=by
 rcases h.2 with ⟨hv,_⟩|⟨g',c,cur,hv,hb,hg,_⟩
 ·cases hv
 ·cases hv;exact frozen_of_row w g j cur e hg
end
theorem ZrA {α:Type} [Cells α] (v:Value) (x:α) (j:Nat):∀ (l:List α) (i:Nat) (hi:i<l.length),j<Cells.n α→Cells.cells x=(Cells.cells l[i]).set j v→Zak (l.set i x)=(Zak l).set (i*Cells.n α+j) v
 | [],i,hi,_,_=>by cases hi
 | y :: l,0,hi,hj,h=>by
  simp only [List.set_cons_zero,Zak,List.flatMap_cons,Nat.zero_mul,Nat.zero_add]
  rw [List.set_append_left _ _ (by rw [Cells.len];exact hj),h]
  rfl
 | y :: l,i+1,hi,hj,h=>by
  have ih:=ZrA v x j l i (by simpa using hi) hj h
  simp only [List.set_cons_succ,Zak,List.flatMap_cons] at ih ⊢
  rw [List.set_append_right _ _ (by rw [Cells.len,Nat.succ_mul];omega),ih,Cells.len]
  congr 2
  rw [Nat.succ_mul];omega
theorem ZrB (g n:Nat):(⟨g,0,none⟩:Addr).add n=⟨g,n,none⟩:=by unfold Addr.add;split<;>simp_all
def ZrC (m:Md) (kk:Nat) (l:List In3):Md:=⟨m.cl,m.st,m.me.set kk { m.me.getD kk default with k:=l },m.sel⟩
def ZrD (h:Hd) (kk:Nat) (ao:Option Addr) (cap:Nat):Hd:={ h with e:=fun i=>if i=kk then { h.e kk with ko:=ao,kc:=cap } else h.e i }
theorem ZrE {m:Md}{kk:Nat} (hk:kk<m.me.length) (l:List In3) (j:Nat):(ZrC m kk l).me.getD j default=if j=kk then { m.me.getD kk default with k:=l } else m.me.getD j default:=by
 unfold ZrC
 dsimp only
 by_cases h:j=kk
 ·subst h
  rw [if_pos rfl,List.getD_eq_getElem?_getD,List.getElem?_set_self hk]
  rfl
 ·rw [if_neg h,List.getD_eq_getElem?_getD,List.getElem?_set_ne (fun q=>h q.symm),List.getD_eq_getElem?_getD]
theorem ZrF {h:Hd}{m:Md}{kk:Nat} (hk:kk<m.me.length) (l:List In3) (ao:Option Addr) (cap:Nat):Zav (ZrD h kk ao cap) (ZrC m kk l)=(Zav h m).set kk ({ m.me.getD kk default with k:=l },{ h.e kk with ko:=ao,kc:=cap }):=by
 refine List.ext_getElem? fun i=>?_
 simp only [Zav,ZrC,ZrD,List.getElem?_mapIdx,List.getElem?_set,List.length_mapIdx]
 by_cases q:kk=i
 ·subst q
  simp [hk]
 ·rw [if_neg q,if_neg q]
  cases m.me[i]? with
  | none=>rfl
  | some y=>simp [show ¬ i=kk from fun e=>q e.symm]
theorem Zqy.code {w:World}{N:Nat}{h:Hd}{m:Md} (H:Zqy w N h m) {kk:Nat} (hk:kk<m.me.length) {ao:Option Addr}{cap:Nat}{l:List In3} (ho:w.ownsRow N 42 3 (.slice ao l.length cap) l.length (Zak l)) :
  ∃ g,h.eo=some ⟨g,0,none⟩∧N≤g∧w.frozen? ⟨g,kk*7+6,none⟩=false∧Below N w (w.setCell ⟨g,kk*7+6,none⟩ (.slice ao l.length cap))∧(∀ {b:Nat}{xs:Array Value}{t:TypeId},Blk w b xs t→t≠38→Blk (w.setCell ⟨g,kk*7+6,none⟩ (.slice ao l.length cap)) b xs t)∧Zqy (w.setCell ⟨g,kk*7+6,none⟩ (.slice ao l.length cap)) N (ZrD h kk ao cap) (ZrC m kk l):=by
 obtain ⟨g,hg⟩:=Zai H.me (by omega)
 have hme:=H.me
 rw [hg] at hme
 have hN:=(hme.lt g rfl).1
 obtain ⟨c,cur,hcur⟩:∃ (c:Nat) (cur:Array Value),Blk w g cur 38:=by
  rcases hme.2 with ⟨hv,_⟩|⟨g',c,cur,hv,hb,hgg,_⟩
  ·cases hv
  ·cases hv;exact ⟨0,cur,hgg⟩
 have hkp:Kp [38] N w (w.setCell ⟨g,kk*7+6,none⟩ (.slice ao l.length cap)):=(Kp.refl _ N w).set hcur (by decide) hN _ _
 refine ⟨g,hg,hN,Zrz hme _,hkp.bw,fun {b xs t} hb ht=>Blk.other hb (fun q=>?_) _,?_⟩
 ·have q':b=g:=q
  subst q'
  have:=(show w.heap[b]?=_ from hb).symm.trans hcur
  cases this
  exact ht rfl
 ·refine ⟨hkp.own H.cl,hkp.own H.st,?_,fun i hi=>(H.c i hi).kp hkp,fun i hi=>?_⟩
  ·have h9:=Zry hme (kk*7+6) (.slice ao l.length cap)
   rw [ZrF hk,ZrA (.slice ao l.length cap) _ 6 (Zav h m) kk (by rw [Zax];exact hk) (by decide) (by simp [Zav,hk];rfl)]
   show World.ownsRow _ N _ 7 (.slice h.eo (ZrC m kk l).me.length h.ec) (ZrC m kk l).me.length _
   rw [show (ZrC m kk l).me.length=m.me.length by simp [ZrC],hg]
   exact h9
  ·have hi':i<m.me.length:=by simpa [ZrC] using hi
   rw [ZrE hk]
   show CpM _ N (if i=kk then _ else _) _
   by_cases q:i=kk
   ·subst q
    rw [if_pos rfl,if_pos rfl]
    have h9:=(H.m i hk).kp hkp
    exact ⟨h9.p,h9.l,hkp.own ho⟩
   ·rw [if_neg q,if_neg q]
    exact (H.m i hi').kp hkp
end
section
open Go.RowKit
theorem Zqy.old {w w':World}{N:Nat}{h:Hd}{m:Md} (H:Zqy w N h m) (hb:Below w.heap.size w w'):Zqy w' N h m:=
 have hk:Kp [] 0 w w':=Kp.of hb (Nat.zero_le _)
 ⟨hk.own H.cl,hk.own H.st,hk.own H.me,fun i hi=>(H.c i hi).kp hk,fun i hi=>(H.m i hi).kp hk⟩
attribute [local go_sem] ZrB
end
section
open Go.RowKit
def Rl (x y:Int):Prop:=x=-1∨(0≤x∧x≤y)
theorem ZrG {x y x' y':Int} (h:Rl x y) (h':Rl x' y') (hy:0≤y) (hy':0≤y'):Rl (Zmz x x') (Zmu y y'):=by
 unfold Rl Zmz Zmu Zmt at *
 split<;>omega
theorem ZrH {x:Int} (h:0≤x):Rl x x:=.inr ⟨h,Int.le_refl _⟩
theorem ZrI {x y z:Int} (h:Rl x y) (hz:y≤z):Rl x z:=by unfold Rl at *;omega
theorem ZrJ {x y x' y' z:Int} (h:Rl x y) (h':Rl x' y') (hz:y≤z) (hz':y'≤z):Rl (ZmA x x') z:=by
 unfold Rl ZmA at *
 repeat' split
 all_goals omega
theorem ZrK {T T':Int→Int}{l:List Int} (h:∀ t,Rl (T t) (T' t)) (hT':∀ t,0≤T' t) (hne:l≠[]):Rl (ZmB T l) (Zmy T' l):=by
 have key:∀ (l:List Int) (a b:Int),Rl a b→Rl (l.foldl (fun a t=>ZmA a (T t)) a) (l.foldl (fun a t=>max a (T' t)) b):=by
  intro l
  induction l with
  | nil=>intro a b h;exact h
  | cons x r ih=>intro a b hab;exact ih _ _ (ZrJ hab (h x) (by dsimp only;omega) (by dsimp only;omega))
 cases l with
 | nil=>exact absurd rfl hne
 | cons x r=>
  unfold ZmB Zmy
  dsimp only
  rw [List.foldl_cons,List.foldl_cons]
  exact key r _ _ (ZrJ (h x) (h x) (by omega) (by omega))
section
variable {m:Md}{T T':Int→Int}{c:List In3} (hw:∀ i∈c,0≤Zmw i∧Zmw i≤1000) (hT:∀ t,Bd (T' t)) (hR:∀ t,Rl (T t) (T' t)) (ha:∀ i∈c,i.op≠1→0≤i.a) (hsd:ZpR m c)
include hw hT hR ha hsd
theorem ZrL {a b:Nat} (hs:Seg c a b):∀ x y,Rl x y→Bd y→Rl (WA (gL m T) c a b x) (WA (gW Zmx m T') c a b y):=by
 have hmem:∀ k,k<c.length→c.getD k default∈c:=fun k hk=>ZfU _ hk
 have hp1:∀ a b,(gW Zmx m T').plus a b=Zmu a b:=fun _ _=>rfl
 have hp2:∀ a b,(gL m T).plus a b=Zmz a b:=fun _ _=>rfl
 have h0:Bd 0:=by unfold Bd;omega
 have r0:Rl 0 0:=ZrH (Int.le_refl _)
 have hpl:=ZnF (x:=Zmx) (m:=m) hw (by decide) hT ha
 have hbr:=ZnG (x:=Zmx) (m:=m) hw (by decide) hT ha
 have hwa:∀ {a b:Nat},Seg c a b→Bd (WA (gW Zmx m T') c a b 0):=fun h=>ZnH (x:=Zmx) (m:=m) hw (by decide) hT ha h 0 h0
 have rpl:∀ i∈c,Rl ((gL m T).pl i) ((gW Zmx m T').pl i):=fun i hi=>by
  have hc:=hw i hi
  show Rl (if i.op=25 then Zmz (Zmw i) (T i.a) else if i.op=26 then Zmz (Zmw i) (ZmB T (ZaN m i.a)) else if i.op=28 then -1 else Zmw i) (if i.op=25 then Zmu (Zmw i) (T' i.a) else if i.op=26 then Zmu (Zmw i) (Zmy T' (ZaN m i.a)) else Zmw i)
  by_cases h25:i.op=25
  ·rw [if_pos h25,if_pos h25];exact ZrG (ZrH hc.1) (hR _) hc.1 (hT _).1
  ·rw [if_neg h25,if_neg h25]
   by_cases h26:i.op=26
   ·rw [if_pos h26,if_pos h26]
    exact ZrG (ZrH hc.1) (ZrK hR (fun t=>(hT t).1) (hsd i hi h26)) hc.1 (ZnE fun t _=>hT t).1
   ·rw [if_neg h26,if_neg h26]
    split
    ·exact .inl rfl
    ·exact ZrH hc.1
 have rbr:∀ i∈c,∀ f s f' s',Rl f f'→Rl s s'→Bd f'→Bd s'→Rl ((gL m T).brk i f s) ((gW Zmx m T').brk i f' s'):=fun i hi f s f' s' hf hs bf bs=>by
  have hc:=hw i hi
  show Rl (if i.op=29∨i.op=33 then Zmz (Zmw i) (Zmz (ZmA f s) 1) else if i.op=30 then Zmw i else Zmz (Zmw i) (Zmz f 1)) (if i.op=29 then Zmu (Zmw i) (max (Zmu f' 1) (Zmu s' 1)) else if i.op=30 then Zmu (Zmw i) (Zmv i.a (Zmu f' 1)) else if i.op=32∧false=true then _ else if i.op=33 then Zmu (Zmw i) (Zmu (Zmu f' 1) s') else Zmu (Zmw i) (Zmu f' 1))
  have ba:∀ {z},Bd z→Bd (Zmu z 1):=fun h=>ZnB h (by unfold Bd;omega)
  rw [if_neg (show ¬ (i.op=32∧false=true) by simp)]
  by_cases h29:i.op=29
  ·rw [if_pos (.inl h29),if_pos h29]
   have:=ba (z:=max f' s') (ZnD bf bs)
   refine ZrG (ZrH hc.1) (ZrI (ZrG (y:=max f' s') (ZrJ hf hs (by omega) (by omega)) (ZrH (by decide:(0:Int)≤1)) (by unfold Bd at bf;omega) (by decide)) ?_) hc.1 (by unfold Bd at bf bs;unfold Zmu Zmt;omega)
   unfold Zmu;omega
  ·rw [if_neg h29]
   by_cases h30:i.op=30
   ·rw [if_neg (by omega),if_pos h30,if_pos h30]
    have h1:=ZnC (ha i hi (by omega)) (ba bf)
    refine .inr ⟨hc.1,?_⟩
    unfold Bd at h1
    unfold Zmu Zmt at *
    omega
   ·rw [if_neg h30,if_neg h30]
    by_cases h33:i.op=33
    ·rw [if_pos (.inr h33),if_pos h33]
     refine ZrG (ZrH hc.1) (ZrI (ZrG (y:=max f' s') (ZrJ hf hs (by omega) (by omega)) (ZrH (by decide:(0:Int)≤1)) (by unfold Bd at bf;omega) (by decide)) ?_) hc.1 (by unfold Bd at bf bs;unfold Zmu Zmt;omega)
     unfold Bd at bf bs
     unfold Zmu
     omega
    ·rw [if_neg (by omega),if_neg h33]
     exact ZrG (ZrH hc.1) (ZrG hf (ZrH (by decide:(0:Int)≤1)) bf.1 (by decide)) hc.1 (ba bf).1
 induction hs with
 | nil a h=>intro x y h _;rw [Zml,Zml];exact h
 | pl a b q1 q2 q3 q4 q5 ih=>
  intro x y h hy
  have hp:=hpl _ (hmem a q1)
  rw [Zmm q2 q5,Zmm q2 q5,hp1,hp2]
  exact ih _ _ (ZrG h (rpl _ (hmem a q1)) hy.1 hp.1) (ZnB hy hp)
 | one a en b q1 q2 q3 i1 i2=>
  intro x y h hy
  have hp:=hbr _ (hmem a q1.1) _ _ (hwa q2) h0
  rw [Zmn q1 q2 q3,Zmn q1 q2 q3,hp1,hp2]
  exact i2 _ _ (ZrG h (rbr _ (hmem a q1.1) _ _ _ _ (i1 _ _ r0 h0) r0 (hwa q2) h0) hy.1 hp.1) (ZnB hy hp)
 | two a n en b q1 q2 q3 q4 i1 i2 i3=>
  intro x y h hy
  have hp:=hbr _ (hmem a q1.1) _ _ (hwa q2) (hwa q3)
  rw [Zmo q1 q2 q3 q4,Zmo q1 q2 q3 q4,hp1,hp2]
  exact i3 _ _ (ZrG h (rbr _ (hmem a q1.1) _ _ _ _ (i1 _ _ r0 h0) (i2 _ _ r0 h0) (hwa q2) (hwa q3)) hy.1 hp.1) (ZnB hy hp)
end
theorem ZrM {m:Md} (hm:Za1 m=true) (hsd:∀ k,k<m.me.length→ZpR m (cdM m k)):∀ n k,k<n→k<m.me.length→Rl (ZmD (gL m) m k) (ZmD (gW Zmx m) m k)
 | 0,k,hn,_=>by omega
 | n+1,k,hn,hk=>by
  have hok:=ZfN hm hk
  have h0:Bd 0:=by unfold Bd;omega
  rw [ZoH,ZoH]
  refine ZrL (fun i hi=>ZoD (hok.i i hi).1) (fun t=>?_) (fun t=>?_) (fun i hi=>(ZfS (hok.i i hi).1 (hok.i i hi).2).a0) (hsd k hk) (Zmg hok.n) 0 0 (ZrH (Int.le_refl _)) h0
  ·by_cases hj:t.toNat<k
   ·rw [ZmF _ _ hj]
    exact ZoI hm (x:=Zmx) (fun k hk i hi=>ZoD ((ZfN hm hk).i i hi).1) (by decide) (t.toNat+1) _ (by omega)
   ·rw [List.getD_eq_getElem?_getD,List.getElem?_eq_none (by rw [ZmE];omega)]
    exact h0
  ·by_cases hj:t.toNat<k
   ·rw [ZmF _ _ hj,ZmF _ _ hj]
    exact ZrM hm hsd n _ (by omega) (by omega)
   ·rw [List.getD_eq_getElem?_getD,List.getD_eq_getElem?_getD,List.getElem?_eq_none (by rw [ZmE];omega),List.getElem?_eq_none (by rw [ZmE];omega)]
    exact ZrH (Int.le_refl _)
end
end Go.Proofs.YtfkbfjhocmbneaaGreat
