/- Joined texts. The first: How often an instruction is done at most: by the loops around it. -/
import Derived.Test.YtfkbfjhocmbneaaGreatG16
import Derived.Test.YtfkbfjhocmbneaaGreatG17
import Derived.Test.YtfkbfjhocmbneaaGreatG3
import Derived.Test.YtfkbfjhocmbneaaGreatG14
import Derived.Test.YtfkbfjhocmbneaaGreatG8
set_option linter.all false
set_option linter.unusedVariables false
set_option linter.unusedSimpArgs false
set_option maxRecDepth 100000
set_option maxHeartbeats 16000000
namespace Go.Proofs.YtfkbfjhocmbneaaGreat
theorem j1{p:Prop}(h:p:=by
 go_wp2_with (first
  | (go_at_call 46;refine HA.out.mono ?_;rintro e w1 ⟨rfl,hb1⟩;have HB1:=Lib.hid (bthen HB0.out hb1);have HX1:=Lib.hid (HX0.out.old hb1);have x0:=HX1.out.cell 0 (v:=.slice h.co m.cl.length h.cc) rfl;have x1:=HX1.out.cell 1 (v:=.slice h.so m.st.length h.sc) rfl;have x2:=HX1.out.cell 2 (v:=.slice h.eo m.me.length h.ec) rfl;have x3:=HX1.out.cell 3 (v:=.int .i64 m.sel) rfl;clear hb1)
  | (go_at_call 55;refine (HT.out _ HB1.out).mono ?_;rintro e w2 ⟨⟨B,g,rfl,hR⟩,hb2⟩;have HB2:=Lib.hid (bthen HB1.out hb2);have t6:=hR.tb.cell 6 (v:=.slice (some ⟨g,0,none⟩) m.me.length m.me.length) rfl;have lB:=hR.tb.lt;have n0:=arr_cell hR.nb (k:=k) (by rw [tabV_len];exact hkl);rw [HV.out] at n0;clear hb2 hR x0 x1 x2 x3)
  | (go_at_call 59;refine (rtold_any v _).mono ?_;rintro e w3 ⟨rfl,hb3⟩;rw [←HE.out.1,←HE.out.2]))
 go_ret2
 exact ret2_ok rfl rfl (bthen HB2.out hb3)):p:=h
theorem j9{p:Prop}(h:p:=by
 by_cases e:j=en
 ·subst e;rw [if_pos rfl,if_pos (.inr (.inl rfl))]
 ·rw [if_neg e]
  by_cases e:j=p
  ·subst e;rw [if_pos rfl,if_pos (.inl rfl)]
  ·rw [if_neg e,if_neg (by omega)]):p:=h
section
def tmS (l:List In3) (i:Nat) (acc:Int) (k:Nat):Int:=if (l.getD k default).op=30∧i≤(mtV l k).2 then mulV (l.getD k default).a acc else acc
def tmV (l:List In3) (i:Nat):Int:=(List.range i).foldl (tmS l i) 1
def tmB (l:List In3) (a i:Nat):Int:=(List.range a).foldl (tmS l i) 1
theorem tmB_succ (l:List In3) (a i:Nat):tmB l (a+1) i=tmS l i (tmB l a i) a:=by unfold tmB;rw [List.range_succ,List.foldl_append];rfl
theorem seg_ends {l:List In3}{a b:Nat} (h:Seg l a b):∀ k,a≤k→k<b→opensV (l.getD k default).op=true→(mtV l k).2<b:=by
 induction h with
 | nil a h=>intro k h1 h2;omega
 | pl a b h1 h2 h3 h4 h5 ih=>
  intro k q1 q2 q3
  by_cases e:k=a
  ·subst e;rw [h2] at q3;cases q3
  ·exact ih k (by omega) q2 q3
 | one a en b h1 h2 h3 i1 i2=>
  intro k q1 q2 q3
  have:=(seg_le h3).1
  by_cases e:k=a
  ·subst e;rw [mt_of h1];dsimp only;omega
  ·by_cases e2:k<en
   ·have:=i1 k (by omega) e2 q3;omega
   ·by_cases e3:k=en
    ·subst e3;rw [opens_not (.inr h1.2.2.2.1)] at q3;cases q3
    ·exact i2 k (by omega) q2 q3
 | two a n en b h1 h2 h3 h4 i1 i2 i3=>
  intro k q1 q2 q3
  have:=(seg_le h3).1
  have:=(seg_le h4).1
  obtain ⟨_,_,_,h35,hx⟩:=h1
  by_cases e:k=a
  ·subst e;rw [mt_of ⟨‹_›,‹_›,‹_›,h35,hx⟩];dsimp only;omega
  ·by_cases e2:k<n
   ·have:=i1 k (by omega) e2 q3;omega
   ·by_cases e3:k=n
    ·rcases hx with ⟨hx,_⟩|⟨n2,hx,_,h34,_⟩
     ·omega
     ·obtain rfl:n=n2:=by omega
      subst e3;rw [opens_not (.inl h34)] at q3;cases q3
    ·by_cases e4:k<en
     ·have:=i2 k (by omega) e4 q3;omega
     ·by_cases e5:k=en
      ·subst e5;rw [opens_not (.inr h35)] at q3;cases q3
      ·exact i3 k (by omega) q2 q3
theorem tmB_skip {l:List In3}{a b i:Nat} (h:Seg l a b) (hi:b≤i):tmB l b i=tmB l a i:=by
 have hle:=(seg_le h).1
 have:∀ d,a+d≤b→tmB l (a+d) i=tmB l a i:=by
  intro d
  induction d with
  | zero=>intro _;rfl
  | succ d ih=>
   intro hd
   rw [←Nat.add_assoc,tmB_succ,ih (by omega)]
   unfold tmS
   by_cases ho:(l.getD (a+d) default).op=30
   ·have:=seg_ends h (a+d) (by omega) (by omega) (by rw [ho];decide)
    rw [if_neg (by omega)]
   ·rw [if_neg (fun q=>ho q.1)]
 have:=this (b-a) (by omega)
 rwa [show a+(b-a)=b by omega] at this
def Enc (l:List In3) (a b:Nat) (often:Int):Prop:=∀ i,a≤i→i<b→tmB l a i=often
theorem Enc.next {l:List In3}{a p b:Nat}{often:Int} (h:Enc l a b often) (hs:Seg l a p):Enc l p b often:=fun i h1 h2=>by
 have:=(seg_le hs).1
 rw [tmB_skip hs h1]
 exact h i (by omega) h2
theorem Enc.here {l:List In3}{p b:Nat}{often:Int} (h:Enc l p b often) (hb:p<b):tmV l p=often:=h p (Nat.le_refl _) hb
def innV (i:In3) (often:Int):Int:=if i.op=30 then mulV i.a often else often
theorem enc_step {l:List In3}{p b i:Nat}{often:Int} (h:Enc l p b often) (h1:p<i) (h2:i≤(mtV l p).2) (h3:i<b):tmB l (p+1) i=innV (l.getD p default) often:=by
 rw [tmB_succ,h i (by omega) h3]
 unfold tmS innV
 by_cases ho:(l.getD p default).op=30
 ·rw [if_pos ⟨ho,h2⟩,if_pos ho]
 ·rw [if_neg (fun q=>ho q.1),if_neg ho]
section
variable {l:List In3}{p b en:Nat}{often:Int} (h:Enc l p b often) (hb:en<b)
include h hb
theorem enc_first {alt:Int}{q:Nat} (hm:Mat l p alt en) (hq:q≤en):Enc l (p+1) q (innV (l.getD p default) often):=fun i h1 h2=>enc_step h (by omega) (by rw [mt_of hm];dsimp only;omega) (by omega)
theorem enc_end {alt:Int}{q:Nat} (hm:Mat l p alt en) (hs:Seg l (p+1) q) (hq:q≤en) {r:Nat} (h1:q≤r) (h2:r≤en):tmB l q r=innV (l.getD p default) often:=by
 have:=(seg_le hs).1
 rw [tmB_skip hs h1]
 exact enc_step h (by omega) (by rw [mt_of hm];dsimp only;omega) (by omega)
theorem tm_end1 (hm:Mat l p (-1) en) (hs:Seg l (p+1) en):tmV l en=innV (l.getD p default) often:=enc_end h hb hm hs (Nat.le_refl _) (Nat.le_refl _) (Nat.le_refl _)
section
variable {n:Nat}(hm:Mat l p n en)(hs:Seg l (p+1) n)
include n hm hs
theorem tm_else (hne:n<en):tmV l n=often:=by
 have:=enc_end h hb hm hs (by omega) (Nat.le_refl _) (by omega)
 rw [show tmV l n=tmB l n n from rfl,this]
 unfold innV
 rw [if_neg]
 rcases hm.2.2.2.2 with ⟨q,_⟩|⟨n2,q,_,_,q2,_⟩
 ·omega
 ·omega
theorem enc_second (hne:n<en):Enc l (n+1) en (innV (l.getD p default) often):=fun i h1 h2=>by
 have h34:(l.getD n default).op=34:=by
  rcases hm.2.2.2.2 with ⟨q,_⟩|⟨n2,q,_,h34,_⟩
  ·omega
  ·obtain rfl:n=n2:=by omega
   exact h34
 rw [tmB_succ]
 have:tmS l i (tmB l n i) n=tmB l n i:=by unfold tmS;rw [if_neg (by omega)]
 rw [this]
 exact enc_end h hb hm hs (by omega) (by omega) (by omega)
theorem tm_end2 (hs2:Seg l (n+1) en):tmV l en=innV (l.getD p default) often:=by
 have hne:=(seg_le hs2).1
 rw [show tmV l en=tmB l en en from rfl,tmB_skip hs2 (Nat.le_refl _),tmB_succ]
 have h34:(l.getD n default).op=34:=by
  rcases hm.2.2.2.2 with ⟨q,_⟩|⟨n2,q,_,h34,_⟩
  ·omega
  ·obtain rfl:n=n2:=by omega
   exact h34
 have:tmS l en (tmB l n en) n=tmB l n en:=by unfold tmS;rw [if_neg (by omega)]
 rw [this]
 exact enc_end h hb hm hs (by omega) (by omega) (by omega)
end
end
theorem enc_all (l:List In3) (b:Nat):Enc l 0 b 1:=fun i _ _=>rfl
theorem innV_bd {i:In3}{o:Int} (ha:i.op=30→0≤i.a) (ho:Bd o):Bd (innV i o):=by
 unfold innV
 split
 ·exact mulV_bd (ha ‹_›) ho
 ·exact ho
end
section
open Go.RowKit
abbrev arrI (L:List Int):Array Value:=(L.map (Value.int .i64)).toArray
theorem blk_setI {w:World}{g k:Nat}{L:List Int}{t:TypeId} (h:Blk w g (arrI L) t) (v:Int):Blk (w.setCell ⟨g,k,none⟩ (.int .i64 v)) g (arrI (L.set k v)) t:=by
 have:=h.set k (.int .i64 v)
 simpa [arrI,List.map_set] using this
theorem arr_cell {w:World}{g k:Nat}{L:List Int}{t:TypeId} (h:Blk w g (arrI L) t) (hk:k<L.length):w.cell? ⟨g,k,none⟩=some (.int .i64 (L.getD k 0)):=h.cell k (by simp [arrI,hk])
theorem row_updG {α:Type} [Cells α] {w w':World}{g:Nat}{ao:Option Addr}{c:Nat}{L:List α} (h:RowAt w ao c L) (hu:Upd g g w w') (hne:Lie (·≠g) ao):RowAt w' ao c L:=
 ⟨h.1,h.2.1,fun j u hu'=>by
  obtain ⟨a,ha,hc⟩:=h.2.2 j u hu'
  exact ⟨a,ha,(World.cell?_of_block (w:=w) (hu.block _ (cell_lt hc) (by rw [add_block];exact hne a ha) (by rw [add_block];exact hne a ha))).trans hc⟩⟩
theorem Nds.updG {w w':World}{l:List In3}{g a b:Nat}{r:List VN} (h:Nds w l (·≠g) a b r) (hu:Upd g g w w'):Nds w' l (·≠g) a b r:=h.keep fun _ _ _ h1 h2=>⟨row_updG h1 hu h2,h2⟩
def TmPost (w:World) (l:List In3) (g:Nat) (L:List Int) (a b:Nat):Ending→World→Prop:=fun e w'=>∃ (v:Value) (L':List Int),e=.returned v∧Upd g g w w'∧Blk w' g (arrI L') 3∧L'.length=L.length∧∀ i,L'.getD i 0=if a≤i∧i<b then tmV l i else L.getD i 0
def TimesC (l:List In3) (ao:Option Addr) (cap g a b:Nat):Prop:=∀ w ro rc rows L often,RowAt w ao cap l→RowAt w ro rc rows→Lie (·≠g) ro→Nds w l (·≠g) a b rows→Blk w g (arrI L) 3→L.length=l.length→Bd often→Enc l a b often →
 Calls Tryz.prog 43 #[.slice ao l.length cap,.slice ro rows.length rc,.int .i64 often,.slice (some ⟨g,0,none⟩) l.length l.length] w (TmPost w l g L a b)
theorem multiply_gen (a b:Int) (w:World) (h1:0≤a*b) (h2:a*b≤1000000001000):Calls Tryz.prog 77 #[.int .i64 a,.int .i64 b] w (Ret w (.int .i64 (mulV a b))):=by
 exact j6
theorem mul_rng {a b:Int} (ha:Bd a) (h0:0≤b) (h1:b≤1000):0≤a*b∧a*b≤1000000001000:=
 ⟨Int.mul_nonneg ha.1 h0,Int.le_trans (Int.mul_le_mul ha.2 h1 h0 (by decide)) (by decide)⟩
theorem nds_at {w:World}{l:List In3}{P:Nat→Prop}{p b:Nat}{y:VN}{r:List VN} (h:Nds w l P p b (y :: r)):y.at_=p∧p<l.length∧p<b:=by
 cases h with
 | pl _ _ _ h1 h2 h3 h4 h5=>exact ⟨rfl,h1,by have:=h5.le;omega⟩
 | one _ en _ fo fc F _ h1 h2 h3 h4 h5=>exact ⟨rfl,h1.1,by have:=h5.le;have:=mat_lt h1;omega⟩
 | two _ n en _ fo so fc sc F S _ h1 h2 h3 h4 h5 h6 h7 h8=>exact ⟨rfl,h1.1,by have:=h8.le;have:=mat_lt h1;omega⟩
theorem getD_setI (L:List Int) (p:Nat) (v:Int) (hp:p<L.length) (i:Nat):(L.set p v).getD i 0=if i=p then v else L.getD i 0:=by
 rw [List.getD_eq_getElem?_getD,List.getElem?_set]
 by_cases h:i=p
 ·subst h;simp [hp]
 ·rw [if_neg (fun e=>h e.symm),if_neg h,←List.getD_eq_getElem?_getD]
theorem nds_split {w:World}{l:List In3}{P:Nat→Prop}{p b:Nat}{y:VN}{r:List VN} (h:Nds w l P p b (y :: r)):(y.en=-1∧Seg l p (p+1)∧Nds w l P (p+1) b r) ∨
  ∃ (en q q2:Nat) (F S:List VN),y.en=en∧Mat l p y.alt en∧y.fn=F.length∧y.sn=S.length∧RowAt w y.fo y.fc F∧Lie P y.fo∧Nds w l P (p+1) q F∧RowAt w y.so y.sc S∧Lie P y.so∧Nds w l P q2 en S∧Nds w l P (en+1) b r∧p<q∧q≤en∧p<q2∧q2≤en∧en<l.length∧en<b∧Seg l p (en+1)∧((y.alt=-1∧q=en∧q2=en)∨(y.alt=q∧q2=q+1∧q<en)):=by
 cases h with
 | pl _ _ _ h1 h2 h3 h4 h5=>exact .inl ⟨rfl,.pl _ _ h1 h2 h3 h4 (.nil _ (by omega)),h5⟩
 | one _ en _ fo fc F _ h1 h2 h3 h4 h5=>
  have:=h5.le
  have:=h4.le
  have:=mat_lt h1
  have:=h1.2.2.1
  exact .inr ⟨en,en,en,F,[],rfl,h1,rfl,rfl,h2,h3,h4,RowAt.nil _,fun _ e=>by simp at e,.nil _ (by omega),h5,by omega,Nat.le_refl _,by omega,Nat.le_refl _,by omega,by omega,.one _ _ _ h1 h4.seg (.nil _ (by omega)),.inl ⟨rfl,rfl,rfl⟩⟩
 | two _ n en _ fo so fc sc F S _ h1 h2 h3 h4 h5 h6 h7 h8=>
  have:=h8.le
  have:=h4.le
  have:=h7.le
  have:=mat_lt h1
  have:=h1.2.2.1
  exact .inr ⟨en,n,n+1,F,S,rfl,h1,rfl,rfl,h2,h3,h4,h5,h6,h7,h8,by omega,by omega,by omega,by omega,by omega,by omega,.two _ _ _ _ h1 h4.seg h7.seg (.nil _ (by omega)),.inr ⟨rfl,rfl,by omega⟩⟩
theorem tm_br {l:List In3}{p b en q q2:Nat}{alt often:Int}{S1:Seg l (p+1) q}{S2:Seg l q2 en} (h:Enc l p b often) (hb:en<b) (hm:Mat l p alt en) (hx:(alt=-1∧q=en∧q2=en)∨(alt=q∧q2=q+1∧q<en)) :
  Enc l (p+1) q (innV (l.getD p default) often)∧Enc l q2 en (innV (l.getD p default) often)∧tmV l en=innV (l.getD p default) often∧(alt=q→tmV l q=often):=by
 rcases hx with ⟨rfl,rfl,rfl⟩|⟨rfl,rfl,hq⟩
 ·exact ⟨enc_first h hb hm (Nat.le_refl _),fun i _ _=>by omega,tm_end1 h hb hm S1,fun e=>by omega⟩
 ·exact ⟨enc_first h hb hm (by omega),enc_second h hb hm S1 hq,tm_end2 h hb hm S1 S2,fun _=>tm_else h hb hm S1 hq⟩
theorem mulV_comm (a b:Int):mulV a b=mulV b a:=by unfold mulV;rw [Int.mul_comm]
theorem tm_arr {l:List In3}{L L1 L5 L6:List Int}{a p en q q2:Nat}{alt:Int} (hp:p<L1.length) (he:en<L1.length) (h1:∀ i,L1.getD i 0=if a≤i∧i<p then tmV l i else L.getD i 0) (hap:a≤p)
  (hx:(alt=-1∧q=en∧q2=en)∨(alt=q∧q2=q+1∧q<en)) (hpq:p<q)
  (h5:∀ i,L5.getD i 0=if p+1≤i∧i<q then tmV l i else (if 0≤alt then ((L1.set p (tmV l p)).set en (tmV l en)).set q (tmV l q) else (L1.set p (tmV l p)).set en (tmV l en)).getD i 0)
  (h6:∀ i,L6.getD i 0=if q2≤i∧i<en then tmV l i else L5.getD i 0) (i:Nat):L6.getD i 0=if a≤i∧i<en+1 then tmV l i else L.getD i 0:=by
 have hs:∀ j,((L1.set p (tmV l p)).set en (tmV l en)).getD j 0=if j=en then tmV l en else if j=p then tmV l p else L1.getD j 0:=fun j=>by
  rw [getD_setI _ _ _ (by simpa using he),getD_setI _ _ _ hp]
 have hz:∀ j,(if 0≤alt then ((L1.set p (tmV l p)).set en (tmV l en)).set q (tmV l q) else (L1.set p (tmV l p)).set en (tmV l en)).getD j 0=if j=p∨j=en∨0≤alt∧j=q then tmV l j else L1.getD j 0:=fun j=>by
  by_cases h0:0≤alt
  ·rw [if_pos h0,getD_setI _ _ _ (by simp;omega),hs]
   by_cases e:j=q
   ·subst e;rw [if_pos rfl,if_pos (.inr (.inr ⟨h0,rfl⟩))]
   ·rw [if_neg e]
    exact j9
  ·rw [if_neg h0,hs]
   exact j9
 rw [h6,h5,hz,h1]
 repeat' split
 all_goals first|rfl|omega
theorem times_of (l:List In3) (ao:Option Addr) (cap g a b:Nat) (hc:0<l.length→Lie (·≠g) ao) (hv:codeE false l=0) (ih:∀ a' b',a<a'→b' < b→TimesC l ao cap g a' b'):TimesC l ao cap g a b:=by
  intro w ro rc rows L often hco hr hro hnd hb hL hbo hen
  have hlen:=(code_ok hv).1
  have hall:=(code_ok hv).2.1
  have hle:=hnd.le
  have HCo:=Lib.hid hco
  have HR:=Lib.hid hr
  have HRo:=Lib.hid hro
  have HD:=Lib.hid hnd
  have HB:=Lib.hid hb
  have HE:=Lib.hid hen
  have HBo:=Lib.hid hbo
  have HC:=Lib.hid hc
  have HI:=Lib.hid ih
  have HAll:=Lib.hid hall
  have HLl:=Lib.hid hL
  have hrl:rows.length≤120:=by omega
  clear hco hr hro hnd hb hen hbo hc hv ih hall hL
  go_enter Tryz.func43,Tryz.ntmps43
  go_wp2
  go_loopw [13] (fun i wr=>∃ (j p:Nat) (L1:List Int),i=.int .i64 j∧j≤rows.length∧Hid (a≤p∧p≤b∧Nds wr l (·≠g) p b (rows.drop j)∧Enc l p b often)∧Hid (Upd g g w wr)∧Hid (Blk wr g (arrI L1) 3)∧Hid (L1.length=L.length∧∀ i,L1.getD i 0=if a≤i∧i<p then tmV l i else L.getD i 0)) (fun i _=>rows.length-(intOf i).toNat)
  case atStart=>exact ⟨0,a,L,rfl,Nat.zero_le _,⟨Nat.le_refl _,by omega,HD.out,HE.out⟩,Upd.refl _ _ _,HB.out,rfl,fun i=>by rw [if_neg (by omega)]⟩
  case round=>
    obtain ⟨j,p,L1,rfl,hj,HS,HU,HB1,HL1⟩:=hrel
    by_cases hjl:j<rows.length
    · obtain ⟨hap,hpb,hnd,hen⟩:=HS.out
      have hdr:rows.drop j=rows.getD j default :: rows.drop (j+1):=by
        rw [List.drop_eq_getElem_cons hjl];simp [hjl]
      rw [hdr] at hnd
      obtain ⟨ad,rfl,c0,c1,c2,c3,c4⟩:=row_vn (row_updG HR.out HU.out HRo.out) hjl
      obtain ⟨y,hy⟩:∃ y,y=rows.getD j default:=⟨_,rfl⟩
      rw [←hy] at hnd c0 c1 c2 c3 c4
      have hjl2:(j:Int) < rows.length:=by omega
      have hwj:IntKind.i64.wrap ((j:Int)+1)=((j+1:Nat):Int):=IntWalk.i64_in _ (by omega)
      have hlL:=HLl.out
      have hl1:=HL1.out.1
      have l0:=cell_lt c0
      have lg:=HB1.out.lt
      clear hy hdr
      obtain ⟨hya,hpl,hpb2⟩:=nds_at hnd
      obtain ⟨ya,yl,ye,yf,yfn,yfc,ys,ysn,ysc⟩:=y
      dsimp only at hya c0 c1 c2 c3 c4
      subst hya
      rename World=>wo
      have htp:=hen.here hpb2
      have hg0:=arr_cell HB1.out (k:=p) (by omega)
      have hgf:=HB1.out.frozen p
      obtain ⟨w2,hw2⟩:∃ w2,w2=wo.alloc (.cells #[.int .i64 p,.int .i64 yl,.int .i64 ye,.slice yf yfn yfc,.slice ys ysn ysc] 112):=⟨_,rfl⟩
      have HX2:=Lib.hid (show Blk w2 wo.heap.size #[.int .i64 p,.int .i64 yl,.int .i64 ye,.slice yf yfn yfc,.slice ys ysn ysc] 112 by rw [hw2];exact Blk.new _ _ _)
      have HB2:=Lib.hid (show Blk w2 g (arrI L1) 3 by rw [hw2];exact HB1.out.alloc _)
      have HU2:=Lib.hid (show Upd g g wo w2 by rw [hw2];exact (Upd.refl g g wo).alloc _)
      have HW2:=Lib.hid hw2
      have HD2:=Lib.hid hnd
      have HEn:=Lib.hid hen
      have HTp:=Lib.hid htp
      clear hw2 hnd hen htp hg0 hgf
      go_upto_region 3 with fail
      rw [←HW2.out]
      clear c0 c1 c2 c3 c4 l0
      have x0:=HX2.out.cell 0 (v:=.int .i64 p) rfl
      have g0:=arr_cell HB2.out (k:=p) (by omega)
      have f0:=HB2.out.frozen p
      have hpn:(p:Int) < l.length:=by omega
      go_upto_region 4 with fail
      obtain ⟨w3,hw3⟩:∃ w3,w3=w2.setCell ⟨g,p,none⟩ (.int .i64 often):=⟨_,rfl⟩
      have HX3:=Lib.hid (show Blk w3 wo.heap.size #[.int .i64 p,.int .i64 yl,.int .i64 ye,.slice yf yfn yfc,.slice ys ysn ysc] 112 by rw [hw3];exact HX2.out.other (a:=⟨g,p,none⟩) (by show wo.heap.size≠g;omega) _)
      have HB3:=Lib.hid (show Blk w3 g (arrI (L1.set p (tmV l p))) 3 by rw [hw3,HTp.out];exact blk_setI HB2.out _)
      have HU3:=Lib.hid (show Upd g g wo w3 by rw [hw3];exact HU2.out.set p _)
      rw [←hw3]
      clear x0 g0 f0 hw3
      have x2:=HX3.out.cell 2 (v:=.int .i64 ye) rfl
      rcases nds_split HD2.out with ⟨hye,hsg,hnr⟩|⟨en,q,q2,F,S,hye,hm,hfn,hsn,hrF,hlF,hnF,hrS,hlS,hnS,hnr,hpq,hqe,hpq2,hqe2,hel,heb,hsg,hx⟩
      · dsimp only at hye
        subst hye
        have HNr:=Lib.hid hnr
        have HSg:=Lib.hid hsg
        clear hnr hsg
        as_aux_lemma=>
        go_wp2
        refine ⟨⟨j+1,p+1,L1.set p (tmV l p),rfl,hjl,⟨by omega,by omega,(HNr.out.updG HU3.out),HEn.out.next HSg.out⟩,HU.out.trans HU3.out,HB3.out,by rw [List.length_set];exact HL1.out.1,fun i=>?_⟩,by simp [intOf];omega⟩
        rw [getD_setI _ _ _ (by omega),HL1.out.2]
        by_cases e2:i=p
        · subst e2;rw [if_pos rfl,if_pos (by omega)]
        · rw [if_neg e2]
          by_cases e4:a≤i∧i<p
          · rw [if_pos e4,if_pos (by omega)]
          · rw [if_neg e4,if_neg (by omega)]
      · dsimp only at hye hm hfn hsn hrF hlF hrS hlS hx
        subst hye hfn hsn
        have hee:¬ (en:Int) < 0:=by omega
        obtain ⟨inn,hinn⟩:∃ n,n=innV (l.getD p default) often:=⟨_,rfl⟩
        have HBr:=Lib.hid (tm_br (S1:=hnF.seg) (S2:=hnS.seg) HEn.out heb hm hx)
        rw [←hinn] at HBr
        have HInn:=Lib.hid hinn
        have HM:=Lib.hid hm
        have HF:=Lib.hid (And.intro hrF (And.intro hlF hnF))
        have HS2:=Lib.hid (And.intro hrS (And.intro hlS hnS))
        have HNr:=Lib.hid hnr
        have HSg:=Lib.hid hsg
        have HXx:=Lib.hid hx
        clear hm hrF hlF hnF hrS hlS hnS hnr hsg hx hinn
        have hop:insnV false (l.getD p default)=true:=List.all_eq_true.1 HAll.out _ (getD_mem _ hpl)
        obtain ⟨ca,hca,o0,o1,o2⟩:=row_in (row_updG (HCo.out) (HU.out.trans HU3.out) (HC.out (by omega))) hpl
        subst hca
        obtain ⟨i,hi⟩:∃ i,i=l.getD p default:=⟨_,rfl⟩
        have HI0:=Lib.hid hi
        rw [←hi] at o0 o1 o2 hop HInn
        clear hi
        obtain ⟨op,ia,ib⟩:=i
        dsimp only at o0 o1 o2
        clear o2
        have hpl2:(p:Int) < l.length:=by omega
        have x0:=HX3.out.cell 0 (v:=.int .i64 p) rfl
        go_upto_region 6 with fail
        by_cases h30:op=30
        all_goals first
          | (subst h30
             have hia:=loop_bd hop rfl
             have hin:inn=mulV often ia:=by rw [HInn.out,mulV_comm];rfl
             have HMu:=Lib.hid (fun w=>multiply_gen often ia w (mul_rng HBo.out hia.1 hia.2).1 (mul_rng HBo.out hia.1 hia.2).2)
             rw [←hin] at HMu
             have hbi:=Lib.hid (show Bd inn by rw [hin,mulV_comm];exact mulV_bd hia.1 HBo.out)
             clear hin hia
             go_upto_region 8 with (go_at_call 77;refine (HMu.out _).mono ?_;rintro e w4 ⟨rfl,hb4⟩;have HB4:=Lib.hid hb4;clear hb4 o0 o1 x0 x2))
          | (have e9:inn=often:=by rw [HInn.out];unfold innV;rw [if_neg h30]
             subst e9
             have hbi:=HBo
             go_upto_region 8 with fail
             obtain ⟨w4,hw4⟩:∃ w4,w4=w3:=⟨_,rfl⟩
             have HB4:=Lib.hid (show Below w3.heap.size w3 w4 by rw [hw4];exact bE)
             rw [←hw4]
             clear o0 o1 x0 x2 hw4)
        all_goals
          have hen2:(en:Int) < l.length:=by omega
          have hsl:(L1.set p (tmV l p)).length=L.length:=by rw [List.length_set];exact hl1
          have HX4:=Lib.hid (HX3.out.old HB4.out)
          have HA4:=Lib.hid (HB3.out.old HB4.out)
          have x2:=HX4.out.cell 2 (v:=.int .i64 en) rfl
          have g0:=arr_cell HA4.out (k:=en) (by omega)
          have f0:=HA4.out.frozen en
          go_upto_region 9 with fail
          obtain ⟨w5,hw5⟩:∃ w5,w5=w4.setCell ⟨g,en,none⟩ (.int .i64 inn):=⟨_,rfl⟩
          have HX5:=Lib.hid (show Blk w5 wo.heap.size #[.int .i64 p,.int .i64 yl,.int .i64 en,.slice yf F.length yfc,.slice ys S.length ysc] 112 by rw [hw5];exact HX4.out.other (a:=⟨g,en,none⟩) (by show wo.heap.size≠g;omega) _)
          have HA5:=Lib.hid (show Blk w5 g (arrI ((L1.set p (tmV l p)).set en (tmV l en))) 3 by rw [hw5,HBr.out.2.2.1];exact blk_setI HA4.out _)
          have HU5:=Lib.hid (show Upd g g wo w5 by rw [hw5];exact (HU3.out.bel HB4.out).set en _)
          rw [←hw5]
          clear x2 g0 f0 hw5
          have x1:=HX5.out.cell 1 (v:=.int .i64 yl) rfl
          have hqi:∀ L5 L6:List Int,_→_→∀ i,_:=fun L5 L6=>tm_arr (l:=l) (L:=L) (L1:=L1) (L5:=L5) (L6:=L6) (a:=a) (p:=p) (en:=en) (q:=q) (q2:=q2) (alt:=yl) (by omega) (by omega) HL1.out.2 hap HXx.out hpq
          have HQi:=Lib.hid hqi
          clear hqi
          have hyc:yl=q∧q<en∨yl=-1:=HXx.out.elim (fun q=>.inr q.1) (fun q=>.inl ⟨q.1,q.2.2⟩)
          obtain ⟨L4,hl4⟩:∃ L4,L4=if 0≤yl then ((L1.set p (tmV l p)).set en (tmV l en)).set q (tmV l q) else (L1.set p (tmV l p)).set en (tmV l en):=⟨_,rfl⟩
          rw [←hl4] at HQi
          have HL4:=Lib.hid hl4
          have hl4n:L4.length=L.length:=by rw [hl4];split<;>simp [hl1]
          clear hl4
          rcases hyc with ⟨rfl,hqe3⟩|rfl
        all_goals first
          | (have hq2:(q:Int) < l.length:=by omega
             have hgl:((L1.set p (tmV l p)).set en (tmV l en)).length=L.length:=by simp [hl1]
             have g0:=arr_cell HA5.out (k:=q) (by omega)
             have f0:=HA5.out.frozen q
             go_upto_region 11 with fail
             obtain ⟨w6,hw6⟩:∃ w6,w6=w5.setCell ⟨g,q,none⟩ (.int .i64 (tmV l q)):=⟨_,rfl⟩
             have HX6:=Lib.hid (show Blk w6 wo.heap.size #[.int .i64 p,.int .i64 q,.int .i64 en,.slice yf F.length yfc,.slice ys S.length ysc] 112 by rw [hw6];exact HX5.out.other (a:=⟨g,q,none⟩) (by show wo.heap.size≠g;omega) _)
             have HA6:=Lib.hid (show Blk w6 g (arrI L4) 3 by rw [hw6,HL4.out,if_pos (by omega)];exact blk_setI HA5.out _)
             have HU6:=Lib.hid (show Upd g g wo w6 by rw [hw6];exact HU5.out.set q _)
             rw [HBr.out.2.2.2 rfl] at hw6
             rw [←hw6]
             clear g0 f0 hw6 x1 hq2)
          | (go_upto_region 11 with fail
             have HX6:=HX5
             have HA6:=Lib.hid (show Blk w5 g (arrI L4) 3 by rw [HL4.out,if_neg (by omega)];exact HA5.out)
             have HU6:=HU5
             obtain ⟨w6,hw6⟩:∃ w6,w6=w5:=⟨_,rfl⟩
             rw [←hw6] at HX6 HA6 HU6 ⊢
             clear hw6 x1)
        all_goals
          have x3:=HX6.out.cell 3 (v:=.slice yf F.length yfc) rfl
          have hT:=HI.out (p+1) q (by omega) (by omega) w6 yf yfc F L4 inn (row_updG HCo.out (HU.out.trans HU6.out) (HC.out (by omega))) (row_updG HF.out.1 HU6.out HF.out.2.1) HF.out.2.1 (HF.out.2.2.updG HU6.out) HA6.out (hl4n.trans hlL) hbi HBr.out.1
          have HT:=Lib.hid hT
          clear hT
          go_upto_region 12 with (go_at_call 43;refine HT.out.mono ?_;rintro e w7 ⟨v7,L5,rfl,hu7,hb7,hl5,hq5⟩;have HU7:=Lib.hid (HU6.out.trans hu7);have HA7:=Lib.hid hb7;have HL5:=Lib.hid (And.intro hl5 hq5);have HX7:=Lib.hid (show Blk w7 wo.heap.size #[.int .i64 p,.int .i64 _,.int .i64 en,.slice yf F.length yfc,.slice ys S.length ysc] 112 from (hu7.block _ HX6.out.lt (by omega) (by omega)).trans HX6.out);clear hu7 hb7 hl5 hq5 x3)
          have hl5n:L5.length=L.length:=HL5.out.1.trans hl4n
          have hT:=HI.out q2 en (by omega) (by omega) w7 ys ysc S L5 inn (row_updG HCo.out (HU.out.trans HU7.out) (HC.out (by omega))) (row_updG HS2.out.1 HU7.out HS2.out.2.1) HS2.out.2.1 (HS2.out.2.2.updG HU7.out) HA7.out (hl5n.trans hlL) hbi HBr.out.2.1
          have HT:=Lib.hid hT
          clear hT
          have x4:=HX7.out.cell 4 (v:=.slice ys S.length ysc) rfl
          go_wp2_with (go_at_call 43;refine HT.out.mono ?_;rintro e w8 ⟨v8,L6,rfl,hu8,hb8,hl6,hq6⟩;have HU8:=Lib.hid (HU7.out.trans hu8);have HA8:=Lib.hid hb8;have HL6:=Lib.hid (And.intro hl6 hq6);clear hu8 hb8 hl6 hq6 x4)
          exact ⟨⟨j+1,en+1,L6,rfl,hjl,⟨by omega,by omega,HNr.out.updG HU8.out,HEn.out.next HSg.out⟩,HU.out.trans HU8.out,HA8.out,HL6.out.1.trans hl5n,HQi.out L5 L6 HL5.out.2 HL6.out.2⟩,by simp [intOf];omega⟩
    · obtain rfl:j=rows.length:=by omega
      have hj5:¬ (rows.length:Int) < rows.length:=by omega
      go_wp2
      go_end0
      obtain ⟨h1,h2,hnd,-⟩:=HS.out
      rw [List.drop_eq_nil_iff.2 (Nat.le_refl _)] at hnd
      cases hnd with
      | nil _ _=>exact ⟨_,L1,rfl,HU.out,HB1.out,HL1.out.1,HL1.out.2⟩
theorem times_any {l:List In3} (ao:Option Addr) (cap g:Nat) (hc:0<l.length→Lie (·≠g) ao) (hv:codeE false l=0):∀ n a b:Nat,b-a≤n→TimesC l ao cap g a b
 | 0,a,b,hn=>times_of l ao cap g a b hc hv fun a' b' h1 h2=>by
  have:∀ a b:Nat,b<a→TimesC l ao cap g a b:=fun a b h w ro rc rows L often h1 h2 h3 h4=>by have:=h4.le;omega
  exact this _ _ (by omega)
 | n+1,a,b,hn=>times_of l ao cap g a b hc hv fun a' b' h1 h2=>times_any ao cap g hc hv n a' b' (by omega)
end
section
open Go.RowKit
theorem arrI_row {w:World}{g:Nat}{L:List Int}{t:TypeId} (h:Blk w g (arrI L) t):RowAt w (some ⟨g,0,none⟩) L.length L:=by
 have hf:flatR L=L.map (Value.int .i64):=by
  clear h
  induction L with
  | nil=>rfl
  | cons x r ih=>show Value.int .i64 x :: flatR r=_;rw [ih];rfl
 refine ⟨flatR_length _,(fun e=>by cases e),fun j u hu=>⟨_,rfl,?_⟩⟩
 have hj:(0:Nat)+j=j:=Nat.zero_add j
 show w.cell? ((⟨g,0,none⟩:Addr).add j)=some u
 rw [hf] at hu
 have:((⟨g,0,none⟩:Addr).add j)=⟨g,j,none⟩:=by
  unfold Addr.add
  split
  ·rename_i h0;rw [h0]
  ·simp
 rw [this]
 exact h.cell j (by simpa [arrI] using hu)
def Fnd (L:List Int) (v:Int) (W:World):Ending→World→Prop:=fun e w'=>(∃ n:Int,e=.returned (.int .i64 n)∧(0≤n↔v∈L))∧Below W.heap.size W w'
section
variable (L:List Int)(ao:Option Addr)(cap:Nat)(v:Int)(w:World)(hr:RowAt w ao cap L)(hl:L.length≤4096)
include L ao cap v w hr hl
theorem sindex_any:Calls Tryz.prog 80 #[.slice ao L.length cap,.int .i64 v] w (Fnd L v w):=by
 have HR:=Lib.hid hr
 clear hr
 go_enter Tryz.func80,Tryz.ntmps80
 go_wp2
 go_loopw [8] (fun i wr=>∃ k:Nat,k≤L.length∧i=.int .i64 k∧Hid (Below w.heap.size w wr)∧Hid (∀ j,j<k→L.getD j 0≠v)) (fun i _=>L.length-(intOf i).toNat)
 case atStart=>exact ⟨0,Nat.zero_le _,rfl,by exact bE,fun j h=>by omega⟩
 case round=>
  obtain ⟨k,hk,rfl,HB,HN⟩:=hrel
  by_cases hkl:k<L.length
  ·obtain ⟨ad,rfl,c0⟩:=row_int (HR.out.old HB.out) hkl
   have hkl2:(k:Int) < L.length:=by omega
   have hwk:IntKind.i64.wrap ((k:Int)+1)=((k+1:Nat):Int):=IntWalk.i64_in _ (by omega)
   obtain ⟨x,hx⟩:∃ x,x=L.getD k 0:=⟨_,rfl⟩
   rw [←hx] at c0
   have HX:=Lib.hid hx
   clear hx
   by_cases he:v=x
   ·subst he
    go_wp2
    go_ret
    refine ⟨⟨k,rfl,fun _=>?_,fun _=>by omega⟩,HB.out⟩
    rw [HX.out]
    have:L.getD k 0=L[k]:=by simp [hkl]
    rw [this]
    exact List.getElem_mem _
   ·go_wp2
    exact ⟨⟨k+1,by omega,rfl,HB.out,fun j hj e=>by
     by_cases h2:j=k
     ·subst h2;rw [←HX.out] at e;exact he e.symm
     ·exact HN.out j (by omega) e⟩,by simp [intOf];omega⟩
  ·obtain rfl:k=L.length:=by omega
   have hj5:¬ (L.length:Int) < L.length:=by omega
   go_wp2
   go_ret
   refine ⟨⟨-1,rfl,fun h=>by omega,fun hm=>?_⟩,HB.out⟩
   obtain ⟨j,hj,e⟩:=List.getElem_of_mem hm
   exact absurd (show L.getD j 0=v by simp [hj,e]) (HN.out j hj)
theorem scontains_any:Calls Tryz.prog 45 #[.slice ao L.length cap,.int .i64 v] w (Ret w (.bool (decide (v∈L)))):=by
 have HR:=Lib.hid hr
 clear hr
 go_enter Tryz.func45,Tryz.ntmps45
 go_wp2_with (go_at_call 80;refine (sindex_any L ao cap v _ HR.out hl).mono ?_;rintro e w1 ⟨⟨n,rfl,hn⟩,hb⟩)
 go_ret
 exact ret_ok rfl hb
end
def timesL (l:List In3):List Int:=(List.range l.length).map (tmV l)
def timesE (m:Md) (k:Int):List Int × Int:=if readyV m k=true then (if hugeV∈timesL (cdM m k.toNat) then ([],6) else (timesL (cdM m k.toNat),0)) else ([],1)
theorem timesL_of {l:List In3}{L:List Int} (hn:L.length=l.length) (h:∀ i,L.getD i 0=if 0≤i∧i<l.length then tmV l i else 0):L=timesL l:=by
 refine List.ext_getElem (by simp [timesL,hn]) fun i h1 h2=>?_
 have:=h i
 rw [if_pos (by omega)] at this
 simp [timesL,←this,h1]
theorem btimes_any (m:Md) (h:Hd) (k:Int) (w:World) (H:ModAt w h m):Calls Tryz.prog 13 #[.agg #[.slice h.co m.cl.length h.cc,.slice h.so m.st.length h.sc,.slice h.eo m.me.length h.ec,.int .i64 m.sel],.int .i64 k] w (RetRow2N w (timesE m k).1 (timesE m k).2):=by
 have hb0:Below w.heap.size w (w.alloc (.cells #[.slice h.co m.cl.length h.cc,.slice h.so m.st.length h.sc,.slice h.eo m.me.length h.ec,.int .i64 m.sel] 26)):=by exact bE
 have HA:=Lib.hid (basked_any m h k _ (H.old hb0))
 have HB0:=Lib.hid hb0
 have HX0:=Lib.hid (Blk.new w #[.slice h.co m.cl.length h.cc,.slice h.so m.st.length h.sc,.slice h.eo m.me.length h.ec,.int .i64 m.sel] 26)
 have HH:=Lib.hid H
 rcases hq:readyV m k with _|_
 · rw [hq] at HA
   have e1:timesE m k=([],1):=by unfold timesE;rw [hq];rfl
   rw [e1]
   clear hb0 H hq e1
   go_enter Tryz.func13,Tryz.ntmps13
   go_wp2_with (go_at_call 42;refine HA.out.mono ?_;rintro e w1 ⟨rfl,hb1⟩)
   go_ret2
   exact ⟨⟨none,0,rfl,RowAt.nil _,fun _ e=>by cases e⟩,bthen HB0.out hb1⟩
 · rw [hq] at HA
   obtain ⟨hm,hk0,hk1⟩:=readyV_yes hq
   obtain ⟨k,rfl⟩:∃ d:Nat,k=d:=⟨k.toNat,by omega⟩
   have hkl:k<m.me.length:=by omega
   have e1:timesE m k=if hugeV∈timesL (cdM m k) then ([],6) else (timesL (cdM m k),0):=by unfold timesE;rw [hq,if_pos rfl,Int.toNat_natCast]
   obtain ⟨⟨r1,r2⟩,hz⟩:∃ z,z=timesE m k:=⟨_,rfl⟩
   rw [←hz]
   have HZ:=Lib.hid (hz.trans e1)
   clear e1 hz
   have hcv:codeE false (cdM m k)=0:=(cost_wkr hm w).code hkl
   have hcl:(cdM m k).length≤120:=(mth_ok hm hkl).z.2.2
   have hsg:=seg_of (mth_ok hm hkl).n
   have HP:=Lib.hid (fun w' hb=>bparts_any (cdM m k) (h.e k).ko (h.e k).kc hcv (cdM m k).length 0 (cdM m k).length w' (by omega) (RowAt.old (H.k k hkl) (w':=w') hb) hsg)
   obtain ⟨ea,he,-,-,-,-,-,-,e6⟩:=H.mth hkl
   rw [show (m.me.getD k default).k.length=(cdM m k).length from rfl] at e6
   have HE6:=Lib.hid e6
   have HEa:=Lib.hid he
   have hkl2:(k:Int) < m.me.length:=by omega
   have hmk:=run_make_row' (P:=Tryz.prog) 29 3 (.int .i64 0) 8 Tryz.underlying29 (by kernel_rfl) rfl .i64 .i64 (cdM m k).length (by omega) (by omega)
   rw [made_repV] at hmk
   have hko:=H.k k hkl
   have HKo:=Lib.hid hko
   have hkb:0<(cdM m k).length→Lie (· < w.heap.size) (h.e k).ko:=fun h0 ad e=>by
     obtain ⟨ad',e',c0,_⟩:=row_in (l:=cdM m k) hko (i:=0) h0
     rw [e] at e'
     cases e'
     have:=cell_lt c0
     rwa [add_block] at this
   have HCv:=Lib.hid hcv
   clear hb0 H hq hm hsg e6 he hko hcv
   go_enter Tryz.func13,Tryz.ntmps13
   go_upto_region 4 with (go_at_call 42;refine HA.out.mono ?_;rintro e w1 ⟨rfl,hb1⟩;have HB1:=Lib.hid (bthen HB0.out hb1);have HX1:=Lib.hid (HX0.out.old hb1);clear hb1)
   have x2:=HX1.out.cell 2 (v:=.slice h.eo m.me.length h.ec) rfl
   rw [HEa.out] at x2
   have e6:=(HB1.out.cell (cell_lt HE6.out)).trans HE6.out
   go_upto_region 5 with fail
   clear x2 e6
   go_upto_region 6 with fail
   clear hmk
   obtain ⟨g,hg⟩:∃ g,g=w1.heap.size:=⟨_,rfl⟩
   obtain ⟨w2,hw2⟩:∃ w2,w2=w1.alloc (Obj.cells (Array.replicate (cdM m k).length (Value.int IntKind.i64 0)) 3):=⟨_,rfl⟩
   have HA2:=Lib.hid (show Blk w2 g (arrI (List.replicate (cdM m k).length 0)) 3 by rw [hw2,hg];have:=Blk.new w1 (Array.replicate (cdM m k).length (Value.int IntKind.i64 0)) 3;unfold arrI;rw [List.map_replicate,List.toArray_replicate];exact this)
   have HB2:=Lib.hid (show Below w.heap.size w w2 by rw [hw2];exact bal HB1.out _)
   have HG:=Lib.hid (show w.heap.size≤g∧g<w2.heap.size by rw [hw2,hg];exact ⟨HB1.out.size,by simp⟩)
   rw [←hw2,←hg]
   clear hg hw2
   go_upto_region 7 with (first
     | (go_at_call 44;refine (HP.out _ HB2.out).mono ?_;rintro e w3 ⟨ro,rc,rows,rfl,hown,hnd,hb3⟩;have HB3:=Lib.hid (bthen HB2.out hb3);have HA3:=Lib.hid (HA2.out.old hb3)
        have HR3:=Lib.hid (And.intro (RowAt.of_own hown) (And.intro (show Lie (·≠g) ro from fun ad e=>by have:=own_lie hown ad e;have:=HG.out;omega) (hnd.weak (Q:=(·≠g)) fun j hj=>by have:=HG.out;omega)));clear hown hnd hb3)
     | (go_at_call 43
        refine (times_any (h.e k).ko (h.e k).kc g (fun h0 ad e=>by have:=hkb h0 ad e;have:=HG.out;omega) HCv.out _ 0 (cdM m k).length (Nat.le_refl _) w3 ro rc rows (List.replicate (cdM m k).length 0) 1 (HKo.out.old HB3.out) HR3.out.1 HR3.out.2.1 HR3.out.2.2 HA3.out (by simp) (by unfold Bd;omega) (enc_all _ _)).mono ?_
        rintro e w4 ⟨v4,L,rfl,hu4,hb4,hl4,hq4⟩
        have HB4:=Lib.hid (hu4.below HB3.out (Nat.le_refl _) HG.out.1 HG.out.1)
        have HL:=Lib.hid (timesL_of (l:=cdM m k) (L:=L) (by simpa using hl4) fun i=>by rw [hq4];split<;>first|rfl|(simp [List.getD_eq_getElem?_getD,List.getElem?_replicate];split<;>rfl))
        have HA4:=Lib.hid hb4
        clear hu4 hb4 hl4 hq4))
   have hL:=HL.out
   have hLl:L.length=(cdM m k).length:=by rw [hL];simp [timesL]
   have HR4:=Lib.hid (arrI_row HA4.out)
   rw [hLl] at HR4
   have hC:=fun w' (hb:Below w4.heap.size w4 w')=>scontains_any L (some ⟨g,0,none⟩) L.length 1000000001 w' (RowAt.old (arrI_row HA4.out) hb) (by omega)
   rw [hLl] at hC
   have HC:=Lib.hid hC
   have HLl:=Lib.hid hLl
   clear hL hC hLl
   by_cases hin:hugeV∈L
   · obtain ⟨rfl,rfl⟩:=Prod.mk.inj (HZ.out.trans (by rw [←HL.out,if_pos hin]))
     have hin2:(1000000001:Int)∈L:=hin
     go_wp2_with (go_at_call 45;refine (HC.out _ (Below.refl _ _)).mono ?_;rintro e w5 ⟨rfl,hb5⟩;rw [decide_eq_true hin2])
     go_ret2
     exact ⟨⟨none,0,rfl,RowAt.nil _,fun _ e=>by cases e⟩,bthen HB4.out hb5⟩
   · obtain ⟨e1,e2⟩:=Prod.mk.inj (HZ.out.trans (by rw [←HL.out,if_neg hin]))
     subst e2
     have HE1:=Lib.hid e1
     clear e1
     have hin2:¬ (1000000001:Int)∈L:=hin
     go_wp2_with (go_at_call 45;refine (HC.out _ (Below.refl _ _)).mono ?_;rintro e w5 ⟨rfl,hb5⟩;rw [decide_eq_false hin2])
     go_ret2
     rw [HE1.out]
     exact ⟨⟨some ⟨g,0,none⟩,L.length,by rw [HLl.out];rfl,RowAt.old (arrI_row HA4.out) hb5,fun a e=>by cases e;exact HG.out.1⟩,bthen HB4.out hb5⟩
end
section
open Go.RowKit
structure RT (w:World) (B g:Nat) (h:Hd) (m:Md) (bv:Int) (l:Bool) (L:List Int):Prop where
 tb:Blk w B #[.slice h.co m.cl.length h.cc,.slice h.so m.st.length h.sc,.slice h.eo m.me.length h.ec,.int .i64 m.sel,.int .i64 bv,.bool l,.slice (some ⟨g,0,none⟩) m.me.length m.me.length] 90
 nb:Blk w g (arrI L) 3
 md:ModAt w h m
 ln:L.length=m.me.length
theorem RT.old {w w':World}{B g:Nat}{h:Hd}{m:Md}{bv:Int}{l:Bool}{L:List Int} (H:RT w B g h m bv l L) (hb:Below w.heap.size w w'):RT w' B g h m bv l L:=⟨H.tb.old hb,H.nb.old hb,H.md.old hb,H.ln⟩
def tlV (bv:Int):Int:=if bv=0 then 1 else 0
def scV (bv:Int):Bool:=decide (bv≠0)&&decide (bv≠4)
def OwnC (bv:Int) (m:Md) (x:Ms) (c:List In3):Prop:=∀ i∈c,∀ w h,ModAt w h m→Calls Tryz.prog 116 #[.agg #[.slice h.co m.cl.length h.cc,.slice h.so m.st.length h.sc,.slice h.eo m.me.length h.ec,.int .i64 m.sel],.agg #[.int .i64 i.op,.int .i64 i.a,.int .i64 i.b],.int .i64 bv] w (Ret w (.int .i64 (x.wt i)))
theorem own_cost {m:Md}{c:List In3} (hv:∀ i∈c,insnV false i=true):OwnC 0 m byCost c:=fun i hi w h H=>by
 have HC:=Lib.hid (fun w'=>rCost_any i w' (hv i hi))
 obtain ⟨q,hq⟩:∃ q,q=costV i:=⟨_,rfl⟩
 rw [←hq] at HC
 rw [show byCost.wt i=q from hq.symm]
 clear hq hi
 obtain ⟨op,a,b⟩:=i
 go_enter Tryz.func116,Tryz.ntmps116
 go_wp2_with (go_at_call 16;refine (HC.out _).mono ?_;rintro e w1 ⟨rfl,hb1⟩)
 go_ret
 exact ret_ok rfl bE
theorem rtail_any {w:World}{B g:Nat}{h:Hd}{m:Md}{bv:Int}{l:Bool}{L:List Int} (H:RT w B g h m bv l L):Calls Tryz.prog 118 #[.pointer (some ⟨B,0,none⟩)] w (Ret w (.int .i64 (tlV bv))):=by
 have x4:=H.tb.cell 4 (v:=.int .i64 bv) rfl
 have hl:=H.tb.lt
 obtain ⟨q,hq⟩:∃ q,q=tlV bv:=⟨_,rfl⟩
 rw [←hq]
 unfold tlV at hq
 have HQ:=Lib.hid hq
 clear hq H
 go_enter Tryz.func118,Tryz.ntmps118
 go_wp2
 all_goals
  go_ret
  refine ret_ok (int_eq ?_) bE
  rw [HQ.out]
  grind
theorem lesserR_bl {a b:Int} (ha:Bl a) (hb:Bl b):Bl (lesserR a b):=lesserR_light ha hb▸lightV_bl ha hb
theorem max_bl {a b:Int} (ha:Bl a) (hb:Bl b):Bl (max a b):=by unfold Bl at *;omega
theorem rbracket_any {w:World}{B g:Nat}{h:Hd}{m:Md}{bv:Int}{l:Bool}{L:List Int} (H:RT w B g h m bv l L) (i:In3) (f s o t:Int) (hf:Bl f) (hs:Bl s) (ho:0≤o∧o≤1000) (ht:0≤t∧t≤1000) (hi:i.op=30→0≤i.a∧i.a≤1000) :
  Calls Tryz.prog 117 #[.pointer (some ⟨B,0,none⟩),.agg #[.int .i64 i.op,.int .i64 i.a,.int .i64 i.b],.int .i64 f,.int .i64 s,.int .i64 o,.int .i64 t] w (Ret w (.int .i64 (brkR l (scV bv) i f s o t))):=by
 have hob:Bl o:=by unfold Bl;omega
 have htb:Bl t:=by unfold Bl;omega
 obtain ⟨q,hq⟩:∃ q,q=brkR l (scV bv) i f s o t:=⟨_,rfl⟩
 rw [←hq]
 obtain ⟨op,a,b⟩:=i
 dsimp only at hi
 unfold brkR at hq
 dsimp only at hq
 have HQ:=Lib.hid hq
 obtain ⟨w0,hw0⟩:∃ w0,w0=w.alloc (.cells #[.int .i64 op,.int .i64 a,.int .i64 b] 42):=⟨_,rfl⟩
 have HB:=Lib.hid (show Below w.heap.size w w0 by rw [hw0];exact bE)
 have HX:=Lib.hid (show Blk w0 w.heap.size #[.int .i64 op,.int .i64 a,.int .i64 b] 42 by rw [hw0];exact Blk.new _ _ _)
 have HT:=Lib.hid (H.tb.old HB.out)
 have HBz:=Lib.hid (show Below w0.heap.size w0 w0 by exact bE)
 have HW:=Lib.hid hw0
 clear hw0 H hq
 go_enter Tryz.func117,Tryz.ntmps117
 go_upto_region 1 with fail
 rw [←HW.out]
 have x0:=HX.out.cell 0 (v:=.int .i64 op) rfl
 have x1:=HX.out.cell 1 (v:=.int .i64 a) rfl
 have x4:=HT.out.cell 4 (v:=.int .i64 bv) rfl
 have x5:=HT.out.cell 5 (v:=.bool l) rfl
 by_cases h30:op=30
 ·subst h30
  have hi2:=hi rfl
  cases l with
  | true=>
   go_wp2
   go_ret
   exact ret_ok (int_eq (by rw [HQ.out];rfl)) (bthen HB.out HBz.out)
  | false=>
   have hm0:-1000≤a*addV f t:=by
    have h1:-1≤addV f t:=by unfold addV hugeV Bl at *;omega
    have h2:=Int.mul_le_mul_of_nonneg_left h1 hi2.1
    omega
   have hm1:a*addV f t≤1000000001000:=by
    by_cases h0:0≤addV f t
    ·exact Int.le_trans (Int.mul_le_mul hi2.2 (show addV f t≤1000000001 by unfold addV hugeV;omega) h0 (by decide)) (by decide)
    ·have:=Int.mul_nonpos_of_nonneg_of_nonpos hi2.1 (show addV f t≤0 by omega)
     omega
   have hm2:-1000≤mulV a (addV f t)∧mulV a (addV f t)≤1000000001:=by unfold mulV hugeV;omega
   have HMu:=Lib.hid (And.intro (And.intro hm0 hm1) hm2)
   clear hm0 hm1 hm2
   go_upto_region 10 with fail
   refine rO (Cs [(⟨w.heap.size,1,none⟩,.int .i64 a)]) (oL [0,1,2,3,4,105,106,107,8]) ⟨x1,trivial⟩ ?_
   clear x0 x1 x4 x5
   repeat refine pO ?_
   refine oO fun Kv hK=>?_
   go_simp
   refine (rAdd_any f t _ (by unfold Bl at hf;omega) (by omega)).mono ?_
   rintro e w1 ⟨rfl,hb1⟩
   have HB1:=Lib.hid (bthen (Below.refl w0.heap.size w0).drew hb1)
   refine hK _ _ ⟨⟨(HX.out.old HB1.out).cell 1 (v:=.int .i64 a) rfl,trivial⟩,?_⟩
   clear hK Kv hb1
   repeat refine pO ?_
   refine oO fun Kv hK=>?_
   go_simp
   refine (rtimes_any a (addV f t) _ HMu.out.1.1 HMu.out.1.2).mono ?_
   rintro e w2 ⟨rfl,hb2⟩
   have HB2:=Lib.hid (bthen HB1.out hb2)
   refine hK _ _ ⟨⟨(HX.out.old HB2.out).cell 1 (v:=.int .i64 a) rfl,trivial⟩,?_⟩
   clear hK Kv hb2
   repeat refine pO ?_
   refine oO fun Kv hK=>?_
   go_simp
   refine (rAdd_any o (mulV a (addV f t)) _ (by omega) (by have:=HMu.out.2;omega)).mono ?_
   rintro e w3 ⟨rfl,hb3⟩
   have HB3:=Lib.hid (bthen HB2.out hb3)
   refine hK _ _ ⟨⟨(HX.out.old HB3.out).cell 1 (v:=.int .i64 a) rfl,trivial⟩,?_⟩
   clear hK Kv hb3
   repeat refine pO ?_
   refine wpMixO_done ?_
   go_wp2
   go_ret
   exact ret_ok (int_eq (by rw [HQ.out];rfl)) (bthen HB.out HB3.out)
 ·go_wp2_with (first
   | (go_at_call 162;refine (rplus_any _ _ _ (by (repeat (first|assumption|apply plusR_bl|apply lesserR_bl|apply max_bl))) (by (repeat (first|assumption|apply plusR_bl|apply lesserR_bl|apply max_bl)))).mono ?_;rintro e wn ⟨rfl,hbn⟩;have HBz:=Lib.hid (bthen HBz.out hbn);clear hbn x0 x1 x4 x5;have x0:=(HX.out.old HBz.out).cell 0 (v:=.int .i64 op) rfl;have x1:=(HX.out.old HBz.out).cell 1 (v:=.int .i64 a) rfl;have x4:=(HT.out.old HBz.out).cell 4 (v:=.int .i64 bv) rfl;have x5:=(HT.out.old HBz.out).cell 5 (v:=.bool l) rfl)
   | (go_at_call 163;refine (rlesser_any _ _ _).mono ?_;rintro e wn ⟨rfl,hbn⟩;have HBz:=Lib.hid (bthen HBz.out hbn);clear hbn x0 x1 x4 x5;have x0:=(HX.out.old HBz.out).cell 0 (v:=.int .i64 op) rfl;have x1:=(HX.out.old HBz.out).cell 1 (v:=.int .i64 a) rfl;have x4:=(HT.out.old HBz.out).cell 4 (v:=.int .i64 bv) rfl;have x5:=(HT.out.old HBz.out).cell 5 (v:=.bool l) rfl)
   | (go_at_call 66;refine (rAdd_any _ _ _ (by unfold Bl addV hugeV at *;omega) (by unfold Bl addV hugeV at *;omega)).mono ?_;rintro e wn ⟨rfl,hbn⟩;have HBz:=Lib.hid (bthen HBz.out hbn);clear hbn x0 x1 x4 x5;have x0:=(HX.out.old HBz.out).cell 0 (v:=.int .i64 op) rfl;have x1:=(HX.out.old HBz.out).cell 1 (v:=.int .i64 a) rfl;have x4:=(HT.out.old HBz.out).cell 4 (v:=.int .i64 bv) rfl;have x5:=(HT.out.old HBz.out).cell 5 (v:=.bool l) rfl))
  all_goals
   go_ret
   refine ret_ok (int_eq ?_) (bthen HB.out HBz.out)
   rw [HQ.out]
   unfold scV
   grind
end
section
open Go.RowKit
theorem getD_memI {l:List Int}{k:Nat} (h:k<l.length):l.getD k 0∈l:=by
 have:l.getD k 0=l[k]:=by simp [h]
 rw [this]
 exact List.getElem_mem _
def numT (L:List Int):Int→Int:=fun t=>L.getD t.toNat 0
def bstR (l:Bool) (T:Int→Int) (ts:List Int) (j:Nat):Int:=(ts.take j).foldl (fun a t=>bestR l a (T t)) (-1)
theorem bstR_succ {l:Bool}{T:Int→Int}{ts:List Int}{j:Nat} (hj:j<ts.length):bstR l T ts (j+1)=bestR l (bstR l T ts j) (T (ts.getD j 0)):=by
 unfold bstR
 rw [List.take_succ_eq_append_getElem hj,List.foldl_append]
 have hx:ts[j]=ts.getD j 0:=by simp [hj]
 rw [hx]
 rfl
theorem mod_sz {m:Md} (h:modV m=true):m.cl.length≤10∧m.me.length≤16:=by
 have:=modV_sizes h
 unfold sizesV at this
 simp only [Bool.and_eq_true,decide_eq_true_eq] at this
 omega
theorem rcalled_any {w:World}{B g:Nat}{h:Hd}{m:Md}{bv:Int}{l:Bool}{L:List Int} (H:RT w B g h m bv l L) (hm:modV m=true) (i:In3) (h25:i.op=25→0≤i.a∧i.a<m.me.length) (h26:i.op=26→0≤i.a∧i.a<m.sel∧∀ t∈tgtV m i.a,0≤t∧t<m.me.length) :
  Calls Tryz.prog 115 #[.pointer (some ⟨B,0,none⟩),.agg #[.int .i64 i.op,.int .i64 i.a,.int .i64 i.b]] w (Ret w (.int .i64 (calledR l m (numT L) i))):=by
 have HMe:=Lib.hid (show m.me.length≤1000 by have:=(mod_sz hm);omega)
 obtain ⟨q,hq⟩:∃ q,q=calledR l m (numT L) i:=⟨_,rfl⟩
 rw [←hq]
 obtain ⟨op,ia,b⟩:=i
 unfold calledR at hq
 dsimp only at h25 h26 hq
 have HQ:=Lib.hid hq
 obtain ⟨w0,hw0⟩:∃ w0,w0=w.alloc (.cells #[.int .i64 op,.int .i64 ia,.int .i64 b] 42):=⟨_,rfl⟩
 have HB:=Lib.hid (show Below w.heap.size w w0 by rw [hw0];exact bE)
 have HX:=Lib.hid (show Blk w0 w.heap.size #[.int .i64 op,.int .i64 ia,.int .i64 b] 42 by rw [hw0];exact Blk.new _ _ _)
 have HT:=Lib.hid (H.old HB.out)
 have HW:=Lib.hid hw0
 have HMo:=Lib.hid hm
 clear hw0 H hq hm
 go_enter Tryz.func115,Tryz.ntmps115
 go_upto_region 1 with fail
 rw [←HW.out]
 have x0:=HX.out.cell 0 (v:=.int .i64 op) rfl
 have x1:=HX.out.cell 1 (v:=.int .i64 ia) rfl
 by_cases e25:op=25
 ·subst e25
  obtain ⟨a0,a1⟩:=h25 rfl
  obtain ⟨a,rfl⟩:∃ a:Nat,ia=a:=⟨ia.toNat,by omega⟩
  have x6:=HT.out.tb.cell 6 (v:=.slice (some ⟨g,0,none⟩) m.me.length m.me.length) rfl
  have n0:=arr_cell HT.out.nb (k:=a) (by have:=HT.out.ln;omega)
  go_upto_region 2 with fail
  refine rO (Cs [(⟨w.heap.size,1,none⟩,.int .i64 a),(⟨B,6,none⟩,.slice (some ⟨g,0,none⟩) m.me.length m.me.length),(⟨g,a,none⟩,.int .i64 (L.getD a 0))]) (oL [0,1,2,3,4,5,6,7,8]) ⟨x1,x6,n0,trivial⟩ ?_
  clear x0 x1 x6 n0
  repeat refine pO ?_
  refine wpMixO_done ?_
  go_wp2
  go_ret
  exact ret_ok (int_eq (by rw [HQ.out];unfold numT;simp)) (by have:=HB.out;exact bE)
 ·by_cases e26:op=26
  ·subst e26
   obtain ⟨a0,a1,a2⟩:=h26 rfl
   obtain ⟨a,rfl⟩:∃ a:Nat,ia=a:=⟨ia.toNat,by omega⟩
   have HTg:=Lib.hid (fun w' hb=>rTargets_yes m h a w' (HT.out.md.old (w':=w') hb) HMo.out a1)
   obtain ⟨ts,hts⟩:∃ ts,ts=tgtV m a:=⟨_,rfl⟩
   rw [←hts] at HTg HQ a2
   have HA2:=Lib.hid a2
   have HLn:=Lib.hid (show ts.length≤1000 by rw [hts];have:=tgtV_len m a;have:=(mod_sz HMo.out);omega)
   have x2:=HT.out.tb.cell 0 (v:=.slice h.co m.cl.length h.cc) rfl
   have x3:=HT.out.tb.cell 1 (v:=.slice h.so m.st.length h.sc) rfl
   have x4:=HT.out.tb.cell 2 (v:=.slice h.eo m.me.length h.ec) rfl
   have x5:=HT.out.tb.cell 3 (v:=.int .i64 m.sel) rfl
   clear a2 hts
   go_upto_region 5 with fail
   have HCs:=Lib.hid (show Cs [(⟨w.heap.size,1,none⟩,.int .i64 a),(⟨B,0,none⟩,.slice h.co m.cl.length h.cc),(⟨B,1,none⟩,.slice h.so m.st.length h.sc),(⟨B,2,none⟩,.slice h.eo m.me.length h.ec),(⟨B,3,none⟩,.int .i64 m.sel)] w0 from ⟨x1,x2,x3,x4,x5,trivial⟩)
   refine rO (Cs [(⟨w.heap.size,1,none⟩,.int .i64 a),(⟨B,0,none⟩,.slice h.co m.cl.length h.cc),(⟨B,1,none⟩,.slice h.so m.st.length h.sc),(⟨B,2,none⟩,.slice h.eo m.me.length h.ec),(⟨B,3,none⟩,.int .i64 m.sel)]) (oL [0,1,2,3,4,5,106,7,8,9,10,11]) ⟨x1,x2,x3,x4,x5,trivial⟩ ?_
   clear x0 x1 x2 x3 x4 x5
   repeat refine pO ?_
   refine oO fun Kv hK=>?_
   go_simp
   refine (HTg.out _ (Below.refl _ _).drew).mono ?_
   rintro e w1 ⟨⟨tao,tc,rfl,htr⟩,hb1⟩
   have HB1:=Lib.hid (bthen (Below.refl w0.heap.size w0).drew hb1)
   have HTr:=Lib.hid htr
   refine hK _ _ ⟨Cs.keeps (Keeps.of HB1.out) HCs.out,?_⟩
   clear hK Kv hb1 htr
   repeat refine pO ?_
   refine wpMixO_done ?_
   go_wp2
   have HT1:=Lib.hid (HT.out.old HB1.out)
   go_loopw [7,8] (fun bs j wr=>∃ n:Nat,n≤ts.length∧j=.int .i64 n∧bs=.int .i64 (bstR l (numT L) ts n)∧Hid (Below w1.heap.size w1 wr)) (fun _ j _=>ts.length-(intOf j).toNat)
   case atStart=>exact ⟨0,Nat.zero_le _,rfl,rfl,by exact bE⟩
   case round=>
    obtain ⟨n,hn,rfl,rfl,HBr⟩:=hrel
    rename World=>wo
    by_cases hnl:n<ts.length
    ·have hnl2:(n:Int) < ts.length:=by omega
     have hwn:IntKind.i64.wrap ((n:Int)+1)=((n+1:Nat):Int):=IntWalk.i64_in _ (by have:=HLn.out;omega)
     obtain ⟨ad,rfl,t0⟩:=row_int (HTr.out.old HBr.out) hnl
     obtain ⟨t,ht⟩:∃ t,t=ts.getD n 0:=⟨_,rfl⟩
     rw [←ht] at t0
     have htm:=HA2.out t (by rw [ht];exact getD_memI hnl)
     have HS:=Lib.hid (bstR_succ (l:=l) (T:=numT L) hnl)
     rw [←ht] at HS
     obtain ⟨bs,hbs⟩:∃ bs,bs=bstR l (numT L) ts n:=⟨_,rfl⟩
     rw [←hbs] at HS ⊢
     clear hbs ht
     obtain ⟨tn,rfl⟩:∃ tn:Nat,t=tn:=⟨t.toNat,by omega⟩
     obtain ⟨x,hx⟩:∃ x,x=numT L tn:=⟨_,rfl⟩
     have HT2:=Lib.hid (HT1.out.old HBr.out)
     have x6:=HT2.out.tb.cell 6 (v:=.slice (some ⟨g,0,none⟩) m.me.length m.me.length) rfl
     have n0:=arr_cell HT2.out.nb (k:=tn) (by have:=HT.out.ln;omega)
     rw [show L.getD tn 0=x by rw [hx];unfold numT;rw [Int.toNat_natCast]] at n0
     rw [←hx] at HS
     clear hx
     go_upto_region 10 with fail
     refine rO (Cs [(⟨B,6,none⟩,.slice (some ⟨g,0,none⟩) m.me.length m.me.length),(ad.add n,.int .i64 tn),(⟨g,tn,none⟩,.int .i64 x)]) (oL [0,1,2,3,4,5,6,7,8,9,10]) ⟨x6,t0,n0,trivial⟩ ?_
     clear x6 t0 n0
     repeat refine pO ?_
     refine wpMixO_done ?_
     have x5:=(show Blk wo.drew B _ _ from HT2.out.tb).cell 5 (v:=.bool l) rfl
     go_wp2
     all_goals
      refine ⟨⟨n+1,by omega,rfl,?_,HBr.out.drew⟩,by simp [intOf];omega⟩
      rw [HS.out]
      unfold bestR
      grind
    ·obtain rfl:n=ts.length:=by omega
     have hj5:¬ (ts.length:Int) < ts.length:=by omega
     go_wp2
     go_ret
     refine ret_ok (int_eq ?_) (bthen HB.out (bthen HB1.out HBr.out))
     rw [HQ.out]
     unfold bstR
     rw [List.take_length]
     simp
  ·go_wp2
   go_ret
   exact ret_ok (int_eq (by rw [HQ.out,if_neg e25,if_pos e26])) HB.out
end
section
open Go.RowKit
def Pl (l:Bool) (n:Int):Prop:=(l=false→0≤n)∧Bl n
theorem Pl.of {l:Bool}{n:Int} (h:Bd n):Pl l n:=⟨fun _=>h.1,Bl.of h⟩
theorem plusR_pl {l:Bool}{a b:Int} (ha:Pl l a) (hb:Pl l b):Pl l (plusR a b):=by
 refine ⟨fun q=>?_,plusR_bl ha.2 hb.2⟩
 have:=ha.1 q
 have:=hb.1 q
 unfold plusR addV hugeV
 rw [if_neg (by omega)]
 omega
theorem addV_pl {l:Bool}{a b:Int} (ha:Bd a) (hb:Bd b):Pl l (addV a b):=Pl.of (addV_bd ha hb)
theorem bestR_pl {l:Bool}{a n:Int} (ha:Bl a) (hn:Pl l n):Bl (bestR l a n):=by
 unfold bestR Pl Bl at *
 repeat' split
 all_goals omega
theorem bestR_nn {a n:Int} (hn:0≤n):0≤bestR false a n:=by
 unfold bestR
 repeat' split
 all_goals simp_all
 all_goals omega
theorem fold_pl {l:Bool}{T:Int→Int}:∀ (ts:List Int) (a:Int),Bl a→(∀ t∈ts,Pl l (T t))→Bl (ts.foldl (fun a t=>bestR l a (T t)) a)∧(l=false→(ts≠[]∨0≤a)→0≤ts.foldl (fun a t=>bestR l a (T t)) a)
 | [],a,ha,_=>⟨ha,fun _ q=>by rcases q with q|q;exact absurd rfl q;exact q⟩
 | t :: ts,a,ha,h=>by
  have h1:=h t (by simp)
  obtain ⟨q1,q2⟩:=fold_pl ts (bestR l a (T t)) (bestR_pl ha h1) fun u hu=>h u (by simp [hu])
  refine ⟨q1,fun e _=>q2 e (.inr ?_)⟩
  subst e
  exact bestR_nn (h1.1 rfl)
structure RCx (bv:Int) (x:Ms) (l:Bool) (m:Md) (k:Nat) (L:List Int):Prop where
 hm:modV m=true
 hk:k<m.me.length
 sd:SendV m (cdM m k)
 ow:OwnC bv m x (cdM m k)
 wt:∀ i∈cdM m k,0≤x.wt i∧x.wt i≤1000
 tl:x.tl=tlV bv
 sc:x.sc=scV bv
 nu:∀ t,Pl l (numT L t)
section
variable {bv:Int}{x:Ms}{l:Bool}{m:Md}{k:Nat}{L:List Int} (H:RCx bv x l m k L)
include H
theorem RCx.ok:MthOk m k:=mth_ok H.hm H.hk
theorem RCx.code:codeE false (cdM m k)=0:=(cost_wkr H.hm default).code H.hk
theorem RCx.opd {i:In3} (hi:i∈cdM m k):OpdOk m k i:=opd_ok (H.ok.i i hi).1 (H.ok.i i hi).2
theorem RCx.called {i:In3} (hi:i∈cdM m k):Pl l (calledR l m (numT L) i):=by
 unfold calledR
 split
 ·exact H.nu _
 ·split
  ·exact Pl.of (by unfold Bd;omega)
  ·rename_i h26
   obtain ⟨q1,q2⟩:=fold_pl (l:=l) (T:=numT L) (tgtV m i.a) (-1) (by unfold Bl;omega) fun t _=>H.nu t
   exact ⟨fun e=>q2 e (.inl (H.sd i hi (by omega))),q1⟩
theorem RCx.tlb:0≤x.tl∧x.tl≤1000:=by rw [H.tl];unfold tlV;split<;>omega
theorem RCx.pl {i:In3} (hi:i∈cdM m k):Pl l ((gR l x m (numT L)).pl i):=by
 have hc:=H.called hi
 have hw:=H.wt i hi
 show Pl l (if l=true∧i.op=28 then (-1:Int) else if calledR l m (numT L) i=-1 then (-1:Int) else addV (x.wt i) (calledR l m (numT L) i))
 generalize calledR l m (numT L) i=c at *
 cases l with
 | true=>
  refine ⟨(fun q=>by cases q),?_⟩
  have:=hc.2
  unfold Bl addV hugeV at *
  repeat' split
  all_goals omega
 | false=>
  have h1:=hc.1 rfl
  have h2:=hc.2
  unfold Bl at h2
  rw [if_neg (fun q=>by cases q.1),if_neg (by omega)]
  exact addV_pl (by unfold Bd;omega) (by unfold Bd;omega)
theorem RCx.brk {i:In3} (hi:i∈cdM m k) {f s:Int} (hf:Pl l f) (hs:Pl l s):Pl l ((gR l x m (numT L)).brk i f s):=by
 have hw:=H.wt i hi
 have ht:=H.tlb
 have ho:Pl l (x.wt i):=Pl.of (by unfold Bd;omega)
 have htp:Pl l x.tl:=Pl.of (by unfold Bd;omega)
 have hob:Bd (x.wt i):=by unfold Bd;omega
 have htb:Bd x.tl:=by unfold Bd;omega
 show Pl l (brkR l x.sc i f s (x.wt i) x.tl)
 unfold brkR
 cases l with
 | true=>
  simp only [if_true]
  have hb:∀ n,Bl n→Pl true n:=fun n h=>⟨(fun q=>by cases q),h⟩
  have h1:=plusR_bl ho.2 (lesserR_bl (plusR_bl hf.2 htp.2) (plusR_bl hs.2 htp.2))
  have h2:=plusR_bl ho.2 (plusR_bl hf.2 htp.2)
  repeat' split
  all_goals first|exact hb _ h1|exact hb _ h2|exact ho|exact Pl.of (by unfold Bd;omega)
 | false=>
  simp only [Bool.false_eq_true,if_false]
  have hfb:Bd f:=⟨hf.1 rfl,hf.2.2⟩
  have hsb:Bd s:=⟨hs.1 rfl,hs.2.2⟩
  have hmx:Pl false (max (plusR f x.tl) (plusR s x.tl)):=by
   rw [plusR_add hfb htb,plusR_add hsb htb];exact Pl.of (max_bd (addV_bd hfb htb) (addV_bd hsb htb))
  by_cases h29:i.op=29
  ·rw [if_pos h29];exact plusR_pl ho hmx
  ·rw [if_neg h29]
   by_cases h30:i.op=30
   ·rw [if_pos h30];exact addV_pl hob (mulV_bd ((H.opd hi).a0 (by omega)) (addV_bd hfb htb))
   ·rw [if_neg h30]
    split
    ·exact Pl.of (by unfold Bd;omega)
    ·split
     ·exact addV_pl (addV_bd hob (addV_bd hfb htb)) hsb
     ·exact plusR_pl ho (plusR_pl hf htp)
theorem RCx.wa {a b:Nat} (hs:Seg (cdM m k) a b) {acc:Int} (ha:Pl l acc):Pl l (WA (gR l x m (numT L)) (cdM m k) a b acc):=
 (WA_same (g:=gR l x m (numT L)) (g':=gR l x m (numT L)) hs (Pl.of (by unfold Bd;omega)) (fun _ _ h1 h2=>⟨rfl,plusR_pl h1 h2⟩) (fun i hi=>⟨rfl,H.pl hi⟩) (fun i hi f s hf hs=>⟨rfl,H.brk hi hf hs⟩) acc ha).2
end
end
section
open Go.RowKit
abbrev GR (x:Ms) (l:Bool) (m:Md) (L:List Int):Wg:=gR l x m (numT L)
def PartC (B g:Nat) (h:Hd) (bv:Int) (x:Ms) (l:Bool) (m:Md) (k:Nat) (L:List Int) (a b:Nat):Prop:=∀ w,RT w B g h m bv l L →
 Calls Tryz.prog 56 #[.pointer (some ⟨B,0,none⟩),.slice (h.e k).ko (cdM m k).length (h.e k).kc,.int .i64 a,.int .i64 b] w (Ret w (.int .i64 (WA (GR x l m L) (cdM m k) a b 0)))
theorem seg_open {c:List In3}{p b:Nat} (hs:p=b∨(p<b∧opensV (c.getD p default).op=false∧(c.getD p default).op≠34∧(c.getD p default).op≠35∧Seg c (p+1) b) ∨
  (∃ en:Nat,Mat c p (-1) en∧p<en∧en<b∧Seg c (p+1) en∧Seg c (en+1) b)∨∃ n en:Nat,Mat c p n en∧p<n∧n<en∧en<b∧Seg c (p+1) n∧Seg c (n+1) en∧Seg c (en+1) b) (hp:p<b) (ho:opensV (c.getD p default).op=true) :
  ∃ (alt:Int) (en q:Nat),Mat c p alt en∧p<q∧q≤en∧en<c.length∧Seg c (p+1) q∧((alt=-1∧q=en)∨(alt=q∧q<en∧Seg c (q+1) en)):=by
 rcases hs with e|⟨_,h2,_⟩|⟨en,h1,h2,h3,h4,h5⟩|⟨n,en,h1,h2,h3,h4,h5,h6,h7⟩
 ·omega
 ·rw [ho] at h2;cases h2
 ·exact ⟨-1,en,en,h1,h2,Nat.le_refl _,h1.2.2.1,h4,.inl ⟨rfl,rfl⟩⟩
 ·exact ⟨n,en,n,h1,h2,by omega,h1.2.2.1,h5,.inr ⟨rfl,h3,h6⟩⟩
theorem rone_of {B g:Nat}{h:Hd}{bv:Int}{x:Ms}{l:Bool}{m:Md}{k:Nat}{L:List Int} (X:RCx bv x l m k L) {p b:Nat} (hs:Seg (cdM m k) p b) (hpb:p<b) (ih:∀ a' b',p<a'→Seg (cdM m k) a' b'→PartC B g h bv x l m k L a' b') (w:World) (H:RT w B g h m bv l L) :
    Calls Tryz.prog 89 #[.pointer (some ⟨B,0,none⟩),.slice (h.e k).ko (cdM m k).length (h.e k).kc,.int .i64 p] w (Ret2 w (.int .i64 (oneV (GR x l m L) (cdM m k) p).1) (.int .i64 ((oneV (GR x l m L) (cdM m k) p).2:Int))):=by
 have hp:p<(cdM m k).length:=by have:=(seg_le hs).2;omega
 have hp2:(p:Int) < (cdM m k).length:=by omega
 have hcl:(cdM m k).length≤120:=X.ok.z.2.2
 have hwp:IntKind.i64.wrap ((p:Int)+1)=((p+1:Nat):Int):=IntWalk.i64_in _ (by omega)
 have hko:=H.md.k k X.hk
 obtain ⟨ca,hca,o0,o1,o2⟩:=row_in (l:=cdM m k) hko hp
 have him:(cdM m k).getD p default∈cdM m k:=getD_mem _ hp
 obtain ⟨⟨q1,q2⟩,hq⟩:∃ q,q=oneV (GR x l m L) (cdM m k) p:=⟨_,rfl⟩
 rw [←hq]
 dsimp only
 have HD:=Lib.hid (X.opd him)
 have HWt:=Lib.hid (X.wt _ him)
 have HOw:=Lib.hid (fun w' (hH:ModAt w' h m)=>X.ow _ him w' h hH)
 have HCp:=Lib.hid (X.called him)
 have HTg:=Lib.hid (show ∀ t∈tgtV m ((cdM m k).getD p default).a,0≤t from fun t ht=>tgt_nn ht)
 have HIv:=Lib.hid (X.ok.i _ him).1
 have hpl:(GR x l m L).pl ((cdM m k).getD p default)=if l=true∧((cdM m k).getD p default).op=28 then (-1:Int) else if calledR l m (numT L) ((cdM m k).getD p default)=-1 then (-1:Int) else addV (x.wt ((cdM m k).getD p default)) (calledR l m (numT L) ((cdM m k).getD p default)):=rfl
 unfold oneV at hq
 rw [hpl] at hq
 have hsg:=seg_open (seg_cases hs) hpb
 obtain ⟨i,hi⟩:∃ i,i=(cdM m k).getD p default:=⟨_,rfl⟩
 rw [←hi] at o0 o1 o2 hq HD HWt HOw HCp HTg HIv hsg
 have HIi:=Lib.hid hi
 obtain ⟨op,ia,ib⟩:=i
 dsimp only at o0 o1 o2 hq
 obtain ⟨cv,hcv⟩:∃ c,c=calledR l m (numT L) ⟨op,ia,ib⟩:=⟨_,rfl⟩
 have HCa:=Lib.hid (fun w' hR=>rcalled_any (w:=w') (B:=B) (g:=g) (h:=h) (bv:=bv) (l:=l) (L:=L) hR X.hm ⟨op,ia,ib⟩ (fun e=>⟨HD.out.a0 (by dsimp only at e ⊢;omega),by have:=(HD.out.o25 e).1;have:=X.hk;omega⟩) (fun e=>⟨HD.out.a0 (by dsimp only at e ⊢;omega),(HD.out.o26 e).1,fun t ht=>⟨HTg.out t ht,by have:=(HD.out.o26 e).2 t ht;have:=X.hk;omega⟩⟩))
 rw [←hcv] at HCa HCp hq
 obtain ⟨wt,hwt⟩:∃ n,n=x.wt ⟨op,ia,ib⟩:=⟨_,rfl⟩
 rw [←hwt] at HWt HOw hq
 have HWq:=Lib.hid hwt
 obtain ⟨w0,hw0⟩:∃ w0,w0=w.alloc (.cells #[.int .i64 op,.int .i64 ia,.int .i64 ib] 42):=⟨_,rfl⟩
 have HB:=Lib.hid (show Below w.heap.size w w0 by rw [hw0];exact bE)
 have HX:=Lib.hid (show Blk w0 w.heap.size #[.int .i64 op,.int .i64 ia,.int .i64 ib] 42 by rw [hw0];exact Blk.new _ _ _)
 have HT:=Lib.hid (H.old HB.out)
 have HW:=Lib.hid hw0
 have HIh:=Lib.hid (show ∀ a' b',p<a'→Seg (cdM m k) a' b'→∀ w',RT w' B g h m bv l L→Calls Tryz.prog 56 #[.pointer (some ⟨B,0,none⟩),.slice (some ca) (cdM m k).length (h.e k).kc,.int .i64 a',.int .i64 b'] w' (Ret w' (.int .i64 (WA (GR x l m L) (cdM m k) a' b' 0))) from fun a' b' h1 h2 w' hR=>by have:=ih a' b' h1 h2 w' hR;rwa [hca] at this)
 have HKo:=Lib.hid (show ∀ w',RT w' B g h m bv l L→RowAt w' (some ca) (h.e k).kc (cdM m k) from fun w' hR=>by have:=hR.md.k k X.hk;rwa [hca] at this)
 have HXc:=Lib.hid X
 have HSg:=Lib.hid hsg
 rw [hca]
 clear hw0 H hi hwt hcv hs hsg hko him hpl ih X
 go_enter Tryz.func89,Tryz.ntmps89
 go_upto_region 2 with fail
 rw [←HW.out]
 clear o0 o1 o2
 have x0:=HX.out.cell 0 (v:=.int .i64 op) rfl
 rcases ho:opensV op with _|_
 · rw [ho,if_neg (by decide)] at hq
   obtain ⟨e1,rfl⟩:=Prod.mk.inj hq
   have HO:=Lib.hid ho
   have HE1:=Lib.hid e1
   clear hq e1 ho HIh HSg
   have t5:=HT.out.tb.cell 5 (v:=.bool l) rfl
   have x1:=HX.out.cell 1 (v:=.int .i64 ia) rfl
   have x2:=HX.out.cell 2 (v:=.int .i64 ib) rfl
   by_cases hth:l=true∧op=28
   · obtain ⟨rfl,rfl⟩:=hth
     go_wp2_with (go_at_call 81;refine (ropens_any _ _).mono ?_;rintro e w2 ⟨rfl,rfl⟩;rw [HO.out])
     go_ret2
     exact ret2_ok (int_eq (by rw [HE1.out];simp)) (int_eq (by omega)) HB.out
   · rw [if_neg hth] at HE1
     have hth2:l=true→¬ op=28:=fun a b=>hth ⟨a,b⟩
     have HTh:=Lib.hid hth2
     clear hth hth2
     go_upto_region 5 with (go_at_call 81;refine (ropens_any _ _).mono ?_;rintro e w2 ⟨rfl,rfl⟩;rw [HO.out])
     all_goals first
       | (exfalso;rename_i e1 e2;simp at e2;exact HTh.out e1 e2)
       | skip
     all_goals
       clear t5
       have t0:=HT.out.tb.cell 0 (v:=.slice h.co m.cl.length h.cc) rfl
       go_upto_region 6 with (go_at_call 115;refine (HCa.out _ HT.out).mono ?_;rintro e w1 ⟨rfl,hb1⟩;have HB1:=Lib.hid hb1;clear hb1 x0 x1 x2 t0)
       have HX1:=Lib.hid (HX.out.old HB1.out)
       have HT1:=Lib.hid (HT.out.old HB1.out)
       by_cases hc1:cv=-1
       · rw [if_pos hc1] at HE1
         go_wp2
         go_ret2
         exact ret2_ok (int_eq HE1.out.symm) (int_eq (by omega)) (bthen HB.out HB1.out)
       · rw [if_neg hc1] at HE1
         have HCs:=Lib.hid (show Cs [(⟨B,0,none⟩,.slice h.co m.cl.length h.cc),(⟨B,1,none⟩,.slice h.so m.st.length h.sc),(⟨B,2,none⟩,.slice h.eo m.me.length h.ec),(⟨B,3,none⟩,.int .i64 m.sel),(⟨B,4,none⟩,.int .i64 bv),(⟨w.heap.size,0,none⟩,.int .i64 op),(⟨w.heap.size,1,none⟩,.int .i64 ia),(⟨w.heap.size,2,none⟩,.int .i64 ib)] w1 from ⟨HT1.out.tb.cell 0 rfl,HT1.out.tb.cell 1 rfl,HT1.out.tb.cell 2 rfl,HT1.out.tb.cell 3 rfl,HT1.out.tb.cell 4 rfl,HX1.out.cell 0 rfl,HX1.out.cell 1 rfl,HX1.out.cell 2 rfl,trivial⟩)
         go_upto_region 8 with fail
         refine rO (Cs [(⟨B,0,none⟩,.slice h.co m.cl.length h.cc),(⟨B,1,none⟩,.slice h.so m.st.length h.sc),(⟨B,2,none⟩,.slice h.eo m.me.length h.ec),(⟨B,3,none⟩,.int .i64 m.sel),(⟨B,4,none⟩,.int .i64 bv),(⟨w.heap.size,0,none⟩,.int .i64 op),(⟨w.heap.size,1,none⟩,.int .i64 ia),(⟨w.heap.size,2,none⟩,.int .i64 ib)]) (oL [0,1,2,3,4,5,6,7,8,10,12,13,109,111,14,15]) HCs.out ?_
         repeat refine pO ?_
         refine oO fun Kv hK=>?_
         go_simp
         refine (HOw.out _ (HT1.out.md.old (Below.refl _ _).drew)).mono ?_
         rintro e w2 ⟨rfl,hb2⟩
         have HB2:=Lib.hid (bthen (Below.refl w1.heap.size w1).drew hb2)
         refine hK _ _ ⟨Cs.keeps (Keeps.of HB2.out) HCs.out,?_⟩
         clear hK Kv hb2
         repeat refine pO ?_
         refine oO fun Kv hK=>?_
         go_simp
         refine (rAdd_any wt cv _ (by have:=HWt.out;omega) (by have:=HCp.out.2;unfold Bl at this;omega)).mono ?_
         rintro e w3 ⟨rfl,hb3⟩
         have HB3:=Lib.hid (bthen HB2.out hb3)
         refine hK _ _ ⟨Cs.keeps (Keeps.of HB3.out) HCs.out,?_⟩
         clear hK Kv hb3
         repeat refine pO ?_
         refine wpMixO_done ?_
         go_wp2
         go_ret2
         exact ret2_ok (int_eq HE1.out.symm) (int_eq (by omega)) (bthen HB.out (bthen HB1.out HB3.out))
 · rw [ho,if_pos rfl] at hq
   obtain ⟨alt,en,q,hmt,hpq,hqe,hel,hs1,hcase⟩:=HSg.out ho
   rw [mt_of hmt] at hq
   obtain ⟨f,hf⟩:∃ f,f=WA (GR x l m L) (cdM m k) (p+1) q 0:=⟨_,rfl⟩
   obtain ⟨s,hs⟩:∃ s,s=if alt=-1 then 0 else WA (GR x l m L) (cdM m k) (q+1) en 0:=⟨_,rfl⟩
   have hq':(q1,q2)=((GR x l m L).brk ⟨op,ia,ib⟩ f s,en+1):=by
     rw [hq,hf,hs]
     rcases hcase with ⟨rfl,rfl⟩|⟨rfl,h1,h2⟩
     · rfl
     · dsimp only
       rw [if_neg (by omega),if_neg (by omega),if_neg (by omega),Int.toNat_natCast]
   obtain ⟨e1,rfl⟩:=Prod.mk.inj hq'
   have HPf:=Lib.hid (show Pl l f by rw [hf];exact HXc.out.wa hs1 (Pl.of (by unfold Bd;omega)))
   have HPs:=Lib.hid (show Pl l s by
     rw [hs]
     rcases hcase with ⟨rfl,rfl⟩|⟨rfl,h1,h2⟩
     · exact Pl.of (by unfold Bd;omega)
     · rw [if_neg (by omega)];exact HXc.out.wa h2 (Pl.of (by unfold Bd;omega)))
   have HE1:=Lib.hid (show q1=brkR l (scV bv) ⟨op,ia,ib⟩ f s wt (tlV bv) by rw [e1,←HXc.out.tl,←HXc.out.sc,HWq.out];rfl)
   have HPt:=Lib.hid (show ∀ w',RT w' B g h m bv l L→Calls Tryz.prog 56 #[.pointer (some ⟨B,0,none⟩),.slice (some ca) (cdM m k).length (h.e k).kc,.int .i64 ((p+1:Nat):Int),.int .i64 q] w' (Ret w' (.int .i64 f)) from fun w' hR=>by have:=HIh.out (p+1) q (by omega) hs1 w' hR;rwa [←hf] at this)
   have HO:=Lib.hid ho
   have HMt:=Lib.hid (rMatch_ok (cdM m k) (some ca) (h.e k).kc w0 (HKo.out _ HT.out) HXc.out.code hmt)
   have hen:IntKind.i64.wrap ((en:Int)+1)=((en+1:Nat):Int):=IntWalk.i64_in _ (by omega)
   have HSs:=Lib.hid hs
   clear hq hq' e1 ho hmt hf hs HSg
   rcases hcase with ⟨rfl,rfl⟩|⟨rfl,hq1,hq2⟩
   all_goals
     go_upto_region 10 with (first
       | (go_at_call 81;refine (ropens_any _ _).mono ?_;rintro e w2 ⟨rfl,rfl⟩;rw [HO.out])
       | (go_at_call 47;refine HMt.out.mono ?_;rintro e w1 ⟨rfl,hb1⟩;have HB1:=Lib.hid hb1;clear hb1 x0))
     have HT1:=Lib.hid (HT.out.old HB1.out)
     have HX1:=Lib.hid (HX.out.old HB1.out)
     go_upto_region 14 with (go_at_call 56;refine (HPt.out _ HT1.out).mono ?_;rintro e w2 ⟨rfl,hb2⟩;have HB2:=Lib.hid (bthen HB1.out hb2);clear hb2)
     have HT2:=Lib.hid (HT.out.old HB2.out)
     have HX2:=Lib.hid (HX.out.old HB2.out)
   all_goals first
     | (have hss:s=0:=by have:=HSs.out;simpa using this
        subst hss
        obtain ⟨w3,hw3⟩:∃ w3,w3=w2:=⟨_,rfl⟩
        have HB3:=Lib.hid (show Below w0.heap.size w0 w3 by rw [hw3];exact HB2.out)
        go_upto_region 16 with fail
        rw [←hw3]
        clear hw3)
     | (have HPu:=Lib.hid (HIh.out (q+1) en (by omega) hq2 w2 HT2.out)
        have hss:=HSs.out
        rw [if_neg (by omega)] at hss
        rw [←hss] at HPu
        clear hss
        go_upto_region 16 with (go_at_call 56;refine HPu.out.mono ?_;rintro e w3 ⟨rfl,hb3⟩;have HB3:=Lib.hid (bthen HB2.out hb3);clear hb3))
   all_goals
     have HT3:=Lib.hid (HT.out.old HB3.out)
     have HX3:=Lib.hid (HX.out.old HB3.out)
     have HCs:=Lib.hid (show Cs [(⟨B,0,none⟩,.slice h.co m.cl.length h.cc),(⟨B,1,none⟩,.slice h.so m.st.length h.sc),(⟨B,2,none⟩,.slice h.eo m.me.length h.ec),(⟨B,3,none⟩,.int .i64 m.sel),(⟨B,4,none⟩,.int .i64 bv),(⟨w.heap.size,0,none⟩,.int .i64 op),(⟨w.heap.size,1,none⟩,.int .i64 ia),(⟨w.heap.size,2,none⟩,.int .i64 ib)] w3 from ⟨HT3.out.tb.cell 0 rfl,HT3.out.tb.cell 1 rfl,HT3.out.tb.cell 2 rfl,HT3.out.tb.cell 3 rfl,HT3.out.tb.cell 4 rfl,HX3.out.cell 0 rfl,HX3.out.cell 1 rfl,HX3.out.cell 2 rfl,trivial⟩)
     refine rO (Cs [(⟨B,0,none⟩,.slice h.co m.cl.length h.cc),(⟨B,1,none⟩,.slice h.so m.st.length h.sc),(⟨B,2,none⟩,.slice h.eo m.me.length h.ec),(⟨B,3,none⟩,.int .i64 m.sel),(⟨B,4,none⟩,.int .i64 bv),(⟨w.heap.size,0,none⟩,.int .i64 op),(⟨w.heap.size,1,none⟩,.int .i64 ia),(⟨w.heap.size,2,none⟩,.int .i64 ib)]) (oL [0,1,2,3,4,5,6,7,8,9,10,11,12,14,17,18,113,115,116,19,20]) HCs.out ?_
     repeat refine pO ?_
     refine oO fun Kv hK=>?_
     go_simp
     refine (HOw.out _ (HT3.out.md.old (Below.refl _ _).drew)).mono ?_
     rintro e w4 ⟨rfl,hb4⟩
     have HB4:=Lib.hid (bthen (Below.refl w3.heap.size w3).drew hb4)
     refine hK _ _ ⟨Cs.keeps (Keeps.of HB4.out) HCs.out,?_⟩
     clear hK Kv hb4
     repeat refine pO ?_
     refine oO fun Kv hK=>?_
     go_simp
     refine (rtail_any (HT3.out.old HB4.out)).mono ?_
     rintro e w5 ⟨rfl,hb5⟩
     have HB5:=Lib.hid (bthen HB4.out hb5)
     refine hK _ _ ⟨Cs.keeps (Keeps.of HB5.out) HCs.out,?_⟩
     clear hK Kv hb5
     repeat refine pO ?_
     refine oO fun Kv hK=>?_
     go_simp
     refine (rbracket_any (HT3.out.old HB5.out) ⟨op,ia,ib⟩ f _ wt (tlV bv) HPf.out.2 HPs.out.2 HWt.out (by unfold tlV;split<;>omega) (fun e=>loop_bd HIv.out e)).mono ?_
     rintro e w6 ⟨rfl,hb6⟩
     have HB6:=Lib.hid (bthen HB5.out hb6)
     refine hK _ _ ⟨Cs.keeps (Keeps.of HB6.out) HCs.out,?_⟩
     clear hK Kv hb6
     repeat refine pO ?_
     refine wpMixO_done ?_
     go_wp2
     go_ret2
     exact ret2_ok (int_eq HE1.out.symm) (int_eq (by omega)) (bthen HB.out (bthen HB3.out HB6.out))
end
section
open Go.RowKit
theorem RCx.one {bv:Int}{x:Ms}{l:Bool}{m:Md}{k:Nat}{L:List Int} (X:RCx bv x l m k L) {p b:Nat} (hs:Seg (cdM m k) p b) (hp:p<b):Pl l (oneV (GR x l m L) (cdM m k) p).1:=by
 have hm:∀ k',k' < (cdM m k).length→(cdM m k).getD k' default∈cdM m k:=fun k' hk=>getD_mem _ hk
 have h0:Pl l 0:=Pl.of (by unfold Bd;omega)
 have hpl:p<(cdM m k).length:=by have:=(seg_le hs).2;omega
 rcases seg_cases hs with e|⟨_,h2,h3,h4,h5⟩|⟨en,h1,h2,h3,h4,h5⟩|⟨n,en,h1,h2,h3,h4,h5,h6,h7⟩
 ·omega
 ·unfold oneV
  rw [if_neg (by rw [h2];decide)]
  exact X.pl (hm p hpl)
 ·unfold oneV
  rw [if_pos (show _=true from h1.2.1),mt_of h1]
  exact X.brk (hm p hpl) (X.wa h4 h0) h0
 ·unfold oneV
  rw [if_pos (show _=true from h1.2.1),mt_of h1]
  dsimp only
  rw [if_neg (by omega),if_neg (by omega),Int.toNat_natCast]
  exact X.brk (hm p hpl) (X.wa h5 h0) (X.wa h6 h0)
theorem rpart_of {B g:Nat}{h:Hd}{bv:Int}{x:Ms}{l:Bool}{m:Md}{k:Nat}{L:List Int} (X:RCx bv x l m k L) {a b:Nat} (hs:Seg (cdM m k) a b) (ih:∀ a' b',a<a'→Seg (cdM m k) a' b'→PartC B g h bv x l m k L a' b'):PartC B g h bv x l m k L a b:=by
 intro w H
 have hle:=seg_le hs
 have hcl:(cdM m k).length≤120:=X.ok.z.2.2
 have HO:=Lib.hid (show ∀ p,a≤p→p<b→Seg (cdM m k) p b→∀ w',RT w' B g h m bv l L→_ from fun p h1 h2 h3 w' hR=>rone_of X h3 h2 (fun a' b' h4 h5=>ih a' b' (by omega) h5) w' hR)
 have HR:=Lib.hid H
 have HX:=Lib.hid X
 have HS:=Lib.hid hs
 clear H X hs ih
 go_enter Tryz.func56,Tryz.ntmps56
 go_wp2
 go_loopw [9,10] (fun s i wr=>∃ (p:Nat) (sv:Int),i=.int .i64 p∧s=.int .i64 sv∧Hid (a≤p∧p≤b∧Seg (cdM m k) p b)∧Hid (0≤sv∧Pl l sv)∧Hid (WA (GR x l m L) (cdM m k) a b 0=WA (GR x l m L) (cdM m k) p b sv)∧Hid (Below w.heap.size w wr)) (fun _ i _=>b-(intOf i).toNat)
 case atStart=>exact ⟨a,0,rfl,rfl,⟨Nat.le_refl _,hle.1,HS.out⟩,⟨by omega,Pl.of (by unfold Bd;omega)⟩,rfl,by exact bE⟩
 case round=>
  obtain ⟨p,sv,rfl,rfl,HP,HSv,HWa,HB⟩:=hrel
  rename World=>wo
  by_cases hpb:p<b
  ·have hpb2:(p:Int) < b:=by omega
   obtain ⟨s1,s2,s3,s4⟩:=item_step (g:=GR x l m L) HP.out.2.2 hpb
   have hv:=HX.out.one HP.out.2.2 hpb
   have HOn:=Lib.hid (HO.out p HP.out.1 hpb HP.out.2.2 _ (HR.out.old HB.out))
   have HW2:=Lib.hid (HWa.out.trans (s4 sv))
   obtain ⟨⟨v,nx⟩,hq⟩:∃ q,q=oneV (GR x l m L) (cdM m k) p:=⟨_,rfl⟩
   rw [←hq] at HOn HW2 hv s1 s2 s3
   dsimp only at hv s1 s2 s3
   have HV:=Lib.hid hv
   have HN:=Lib.hid (And.intro s1 (And.intro s2 s3))
   clear hq hv s1 s2 s3 s4
   by_cases hv1:v=-1
   ·subst hv1
    go_wp2_with (go_at_call 89;refine HOn.out.mono ?_;rintro e w1 ⟨rfl,hb1⟩)
    go_ret
    refine ret_ok (int_eq ?_) (bthen HB.out hb1)
    rw [HW2.out,show (GR x l m L).plus sv (-1)=-1 by show plusR sv (-1)=-1;unfold plusR;rw [if_pos (.inr rfl)]]
    exact (WA_gone HN.out.2.2).symm
   ·go_wp2_with (first
     | (go_at_call 89;refine HOn.out.mono ?_;rintro e w1 ⟨rfl,hb1⟩;have HB1:=Lib.hid (bthen HB.out hb1);clear hb1)
     | (go_at_call 66;refine (rAdd_any sv v _ (by have:=HSv.out.2.2;unfold Bl at this;omega) (by have:=HV.out.2;unfold Bl at this;omega)).mono ?_;rintro e w2 ⟨rfl,hb2⟩;have HB2:=Lib.hid (bthen HB1.out hb2);clear hb2))
    have h1:=HSv.out.2.2
    have h2:=HV.out.2
    unfold Bl at h1 h2
    have h3:=HSv.out.1
    have hps:plusR sv v=addV sv v:=plusR_add ⟨h3,h1.2⟩ ⟨by omega,h2.2⟩
    have hbd:Bd (addV sv v):=addV_bd ⟨h3,h1.2⟩ ⟨by omega,h2.2⟩
    refine ⟨⟨nx,addV sv v,rfl,rfl,⟨by have:=HP.out.1;have:=HN.out.1;omega,HN.out.2.1,HN.out.2.2⟩,⟨hbd.1,Pl.of hbd⟩,HW2.out.trans (by rw [←hps];rfl),HB2.out⟩,?_⟩
    have:=HN.out.1
    have:=HN.out.2.1
    simp [intOf]
    omega
  ·obtain rfl:p=b:=by have:=HP.out.2.1;omega
   go_wp2
   go_ret
   exact ret_ok (int_eq (by rw [HWa.out,WA_nil])) HB.out
theorem rpart_any {B g:Nat}{h:Hd}{bv:Int}{x:Ms}{l:Bool}{m:Md}{k:Nat}{L:List Int} (X:RCx bv x l m k L):∀ (n a b:Nat),(cdM m k).length-a≤n→Seg (cdM m k) a b→PartC B g h bv x l m k L a b
 | 0,a,b,hn,hs=>rpart_of X hs fun a' b' h1 h2=>by have:=seg_le hs;have:=seg_le h2;omega
 | n+1,a,b,hn,hs=>rpart_of X hs fun a' b' h1 h2=>by
  by_cases hz:a'≤(cdM m k).length
  ·exact rpart_any X n a' b' (by omega) h2
  ·have:=seg_le h2;omega
end
section
open Go.RowKit
theorem cell_updG {w w':World}{g:Nat}{a:Addr}{v:Value} (h:w.cell? a=some v) (hu:Upd g g w w') (hne:a.block≠g):w'.cell? a=some v:=
 (World.cell?_of_block (w:=w) (hu.block _ (cell_lt h) hne hne)).trans h
def tabZ (G:(Int→Int)→Wg) (m:Md) (k:Nat):List Int:=tabV G m k++List.replicate (m.me.length-k) 0
theorem tabZ_len {G:(Int→Int)→Wg}{m:Md}{k:Nat} (hk:k≤m.me.length):(tabZ G m k).length=m.me.length:=by unfold tabZ;simp [tabV_len];omega
theorem tabZ_num {G:(Int→Int)→Wg}{m:Md}{k:Nat}:numT (tabZ G m k)=fun t=>(tabV G m k).getD t.toNat 0:=by
 funext t
 unfold numT tabZ
 by_cases h:t.toNat<(tabV G m k).length
 ·rw [List.getD_eq_getElem?_getD,List.getElem?_append_left h,←List.getD_eq_getElem?_getD]
 ·rw [List.getD_eq_getElem?_getD,List.getElem?_append_right (by omega),List.getD_eq_getElem?_getD,List.getElem?_eq_none (l:=tabV G m k) (by omega),List.getElem?_replicate]
  split<;>rfl
theorem tabZ_succ {G:(Int→Int)→Wg}{m:Md}{k:Nat} (hk:k<m.me.length):(tabZ G m k).set k (mthW G m k)=tabZ G m (k+1):=by
 unfold tabZ
 rw [List.set_append_right _ _ (by rw [tabV_len];omega),tabV_len,Nat.sub_self,show m.me.length-k=(m.me.length-(k+1))+1 by omega,List.replicate_succ,List.set_cons_zero]
 have:tabV G m (k+1)=tabV G m k++[mthW G m k]:=by
  rw [mthW_def]
  rfl
 rw [this,List.append_assoc]
 rfl
structure MCx (bv:Int) (x:Ms) (m:Md):Prop where
 hm:modV m=true
 sd:∀ k,k<m.me.length→SendV m (cdM m k)
 ow:∀ k,k<m.me.length→OwnC bv m x (cdM m k)
 wt:∀ k,k<m.me.length→∀ i∈cdM m k,0≤x.wt i∧x.wt i≤1000
 tl:x.tl=tlV bv
 sc:x.sc=scV bv
theorem MCx.at {bv:Int}{x:Ms}{m:Md} (X:MCx bv x m) {l:Bool}{k:Nat}{L:List Int} (hk:k<m.me.length) (hn:∀ t,Pl l (numT L t)):RCx bv x l m k L:=⟨X.hm,hk,X.sd k hk,X.ow k hk,X.wt k hk,X.tl,X.sc,hn⟩
theorem mcx_cost {m:Md} (h:(moduleV m).2.2=0):MCx 0 byCost m:=
 have hk:=mod_ok h
 ⟨hk.1,hk.2,fun k h2=>own_cost fun i hi=>((mth_ok hk.1 h2).i i hi).1,fun k h2 i hi=>costV_bd ((mth_ok hk.1 h2).i i hi).1,rfl,rfl⟩
def TabR (W:World) (h:Hd) (m:Md) (bv:Int) (l:Bool) (L:List Int):Ending→World→Prop:=fun e w'=>(∃ B g,e=.returned (.pointer (some ⟨B,0,none⟩))∧RT w' B g h m bv l L)∧Below W.heap.size W w'
theorem rtables_any {bv:Int}{x:Ms}{m:Md} (X:MCx bv x m) (l:Bool) (h:Hd) (w:World) (H:ModAt w h m):Calls Tryz.prog 55 #[.agg #[.slice h.co m.cl.length h.cc,.slice h.so m.st.length h.sc,.slice h.eo m.me.length h.ec,.int .i64 m.sel],.int .i64 bv,.bool l] w (TabR w h m bv l (tabV (gR l x m) m m.me.length)):=by
 have hsz:=(mod_sz X.hm).2
 have hmk:=run_make_row' (P:=Tryz.prog) 29 3 (.int .i64 0) 8 Tryz.underlying29 (by kernel_rfl) rfl .i64 .i64 m.me.length (by omega) (by omega)
 rw [made_repV] at hmk
 obtain ⟨w0,hw0⟩:∃ w0,w0=w.alloc (.cells #[.slice h.co m.cl.length h.cc,.slice h.so m.st.length h.sc,.slice h.eo m.me.length h.ec,.int .i64 m.sel] 26):=⟨_,rfl⟩
 have HB:=Lib.hid (show Below w.heap.size w w0 by rw [hw0];exact bE)
 have HX:=Lib.hid (show Blk w0 w.heap.size #[.slice h.co m.cl.length h.cc,.slice h.so m.st.length h.sc,.slice h.eo m.me.length h.ec,.int .i64 m.sel] 26 by rw [hw0];exact Blk.new _ _ _)
 have HM:=Lib.hid (H.old HB.out)
 have HW:=Lib.hid hw0
 have HXc:=Lib.hid X
 clear hw0 H X
 go_enter Tryz.func55,Tryz.ntmps55
 go_upto_region 1 with fail
 rw [←HW.out]
 refine rO (Cs [(⟨w.heap.size,0,none⟩,.slice h.co m.cl.length h.cc),(⟨w.heap.size,1,none⟩,.slice h.so m.st.length h.sc),(⟨w.heap.size,2,none⟩,.slice h.eo m.me.length h.ec),(⟨w.heap.size,3,none⟩,.int .i64 m.sel)]) (oL [0,1,2,3,4,5,106,7,108,9]) ⟨HX.out.cell 0 rfl,HX.out.cell 1 rfl,HX.out.cell 2 rfl,HX.out.cell 3 rfl,trivial⟩ ?_
 repeat refine pO ?_
 refine oO fun Kv hK=>?_
 go_simp
 refine hK _ _ ⟨Cs.keeps (Keeps.of bE) (show Cs _ w0 from ⟨HX.out.cell 0 rfl,HX.out.cell 1 rfl,HX.out.cell 2 rfl,HX.out.cell 3 rfl,trivial⟩),?_⟩
 clear hK Kv
 repeat refine pO ?_
 refine oO fun Kv hK=>?_
 go_simp
 refine hK _ _ ⟨Cs.keeps (Keeps.of bE) (show Cs _ w0 from ⟨HX.out.cell 0 rfl,HX.out.cell 1 rfl,HX.out.cell 2 rfl,HX.out.cell 3 rfl,trivial⟩),?_⟩
 clear hK Kv
 repeat refine pO ?_
 refine wpMixO_done ?_
 go_wp2
 clear hmk
 obtain ⟨w2,hw2⟩:∃ w2,w2=((w0.alloc (Obj.cells (Array.replicate m.me.length (Value.int IntKind.i64 0)) 3)).alloc (Obj.cells #[Value.slice h.co m.cl.length h.cc,Value.slice h.so m.st.length h.sc,Value.slice h.eo m.me.length h.ec,Value.int IntKind.i64 m.sel,Value.int IntKind.i64 bv,Value.bool l,Value.slice (some { block:=w0.heap.size,off:=0 }) m.me.length m.me.length] 90)).drew:=⟨_,rfl⟩
 rw [←hw2]
 obtain ⟨g,hg⟩:∃ g,g=w0.heap.size:=⟨_,rfl⟩
 obtain ⟨B,hBq⟩:∃ B,B=w0.heap.size+1:=⟨_,rfl⟩
 have HB2:=Lib.hid (show Below w0.heap.size w0 w2 by rw [hw2];exact bE)
 have HR2:=Lib.hid (show RT w2 B g h m bv l (tabZ (gR l x m) m 0) from by
  rw [hw2,hg,hBq]
  refine ⟨?_,?_,HM.out.old bE,tabZ_len (Nat.zero_le _)⟩
  ·exact Blk.drew (Blk.new' _ _ (by simp))
  ·have:arrI (tabZ (gR l x m) m 0)=Array.replicate m.me.length (Value.int IntKind.i64 0):=by unfold arrI tabZ tabV;rw [List.nil_append,Nat.sub_zero,List.map_replicate,List.toArray_replicate]
   rw [this]
   exact Blk.drew ((Blk.new w0 _ _).alloc _))
 have HG:=Lib.hid (show w0.heap.size≤g∧B≠g∧w.heap.size<g by rw [hg,hBq];have:=HX.out.lt;omega)
 rw [←hBq,←hg]
 clear hw2 hg hBq
 go_loopw [8] (fun i wr=>∃ k:Nat,k≤m.me.length∧i=.int .i64 k∧Hid (RT wr B g h m bv l (tabZ (gR l x m) m k))∧Hid (∀ t,Pl l (numT (tabZ (gR l x m) m k) t))∧Hid (Upd g g w2 wr)) (fun i _=>m.me.length-(intOf i).toNat)
 case atStart=>
  refine ⟨0,Nat.zero_le _,rfl,HR2.out,fun t=>?_,Upd.refl _ _ _⟩
  rw [tabZ_num]
  unfold tabV
  exact Pl.of (by show Bd (([]:List Int).getD _ 0);simp [Bd])
 case round=>
  obtain ⟨k,hk,rfl,HR,HN,HU⟩:=hrel
  rename World=>wo
  by_cases hkl:k<m.me.length
  ·have hkl2:(k:Int) < m.me.length:=by omega
   have hwk:IntKind.i64.wrap ((k:Int)+1)=((k+1:Nat):Int):=IntWalk.i64_in _ (by omega)
   have X:=HXc.out.at (l:=l) (L:=tabZ (gR l x m) m k) hkl HN.out
   have HP:=Lib.hid (rpart_any (B:=B) (g:=g) (h:=h) X (cdM m k).length 0 (cdM m k).length (by omega) (seg_of X.ok.n))
   obtain ⟨ea,he,-,-,-,-,-,-,e6⟩:=HM.out.mth hkl
   rw [show (m.me.getD k default).k.length=(cdM m k).length from rfl] at e6
   have HBo:=Lib.hid (HU.out.below HB2.out (Nat.le_refl _) HG.out.1 HG.out.1)
   have hel:=Nat.lt_of_lt_of_le (cell_lt e6) HG.out.1
   have e6:=(HBo.out.cell (cell_lt e6)).trans e6
   have x2:=(HX.out.old HBo.out).cell 2 (v:=.slice h.eo m.me.length h.ec) rfl
   rw [he] at x2
   have HEl:=Lib.hid hel
   have HEa:=Lib.hid he
   clear hel he
   have t6:=HR.out.tb.cell 6 (v:=.slice (some ⟨g,0,none⟩) m.me.length m.me.length) rfl
   have X2:=Lib.hid X
   clear X
   go_upto_region 5 with fail
   have HCs:=Lib.hid (show Cs [(⟨B,6,none⟩,.slice (some ⟨g,0,none⟩) m.me.length m.me.length),(⟨w.heap.size,2,none⟩,.slice (some ea) m.me.length h.ec),(⟨(ea.add (k*7)).block,(ea.add (k*7)).off+6,none⟩,.slice (h.e k).ko (cdM m k).length (h.e k).kc)] wo from ⟨t6,x2,e6,trivial⟩)
   refine rO (Cs [(⟨B,6,none⟩,.slice (some ⟨g,0,none⟩) m.me.length m.me.length),(⟨w.heap.size,2,none⟩,.slice (some ea) m.me.length h.ec),(⟨(ea.add (k*7)).block,(ea.add (k*7)).off+6,none⟩,.slice (h.e k).ko (cdM m k).length (h.e k).kc)]) (oL [0,1,2,3,4,5,6,7,8,9,10,11,12,13,14,15,16,17,18,119,20,121]) ⟨t6,x2,e6,trivial⟩ ?_
   clear t6 x2 e6
   repeat refine pO ?_
   refine oO fun Kv hK=>?_
   go_simp
   refine (HP.out _ (HR.out.old (Below.refl _ _).drew)).mono ?_
   rintro e w3 ⟨rfl,hb3⟩
   have HB3:=Lib.hid (bthen (Below.refl wo.heap.size wo).drew hb3)
   have HR3:=Lib.hid (HR.out.old HB3.out)
   have HCs3:=Lib.hid (Cs.keeps (Keeps.of HB3.out) HCs.out)
   refine hK _ _ ⟨HCs3.out,?_⟩
   clear hK Kv hb3
   repeat refine pO ?_
   refine oO fun Kv hK=>?_
   have g0:=arr_cell HR3.out.nb (k:=k) (by rw [tabZ_len hk];exact hkl)
   have f0:=HR3.out.nb.frozen k
   go_simp
   obtain ⟨v,hv⟩:∃ v,v=WA (GR x l m (tabZ (gR l x m) m k)) (cdM m k) 0 (cdM m k).length 0:=⟨_,rfl⟩
   rw [←hv]
   obtain ⟨w4,hw4⟩:∃ w4,w4=w3.setCell ⟨g,k,none⟩ (.int .i64 v):=⟨_,rfl⟩
   have hu4:Upd g g w3 w4:=by rw [hw4];exact (Upd.refl g g w3).set k _
   have hvm:v=mthW (gR l x m) m k:=by rw [hv,mthW_def];show WA (gR l x m (numT _)) _ _ _ _=_;rw [tabZ_num]
   have HVP:=Lib.hid (show Pl l v by rw [hv];exact X2.out.wa (seg_of X2.out.ok.n) (Pl.of (by unfold Bd;omega)))
   have HU4:=Lib.hid ((HU.out.bel HB3.out).trans hu4)
   have HR4:=Lib.hid (show RT w4 B g h m bv l (tabZ (gR l x m) m (k+1)) from by
    refine ⟨?_,?_,HM.out.old (HU4.out.below HB2.out (Nat.le_refl _) HG.out.1 HG.out.1),tabZ_len hkl⟩
    ·rw [hw4];exact HR3.out.tb.other (a:=⟨g,k,none⟩) HG.out.2.1 _
    ·rw [hw4,←tabZ_succ hkl,←hvm];exact blk_setI HR3.out.nb _)
   rw [←hw4]
   refine hK _ _ ⟨⟨cell_updG HCs3.out.1 hu4 HG.out.2.1,cell_updG HCs3.out.2.1 hu4 (by have:=HG.out.2.2;dsimp only;omega),cell_updG HCs3.out.2.2.1 hu4 (by have:=HEl.out;omega),trivial⟩,?_⟩
   clear hK Kv g0 f0 hw4 hu4 hv
   have HVm:=Lib.hid hvm
   clear hvm
   refine wpMixO_done ?_
   go_wp2
   refine ⟨⟨k+1,hkl,rfl,HR4.out,fun t=>?_,HU4.out⟩,by simp [intOf];omega⟩
   rw [←tabZ_succ hkl,←HVm.out]
   unfold numT
   rw [getD_setI _ _ _ (by rw [tabZ_len hk];exact hkl)]
   split
   ·exact HVP.out
   ·exact HN.out t
  ·obtain rfl:k=m.me.length:=by omega
   have hj5:¬ (m.me.length:Int) < m.me.length:=by omega
   have x2:=(HX.out.old (HU.out.below HB2.out (Nat.le_refl _) HG.out.1 HG.out.1)).cell 2 (v:=.slice h.eo m.me.length h.ec) rfl
   go_wp2
   go_ret
   have hz:tabZ (gR l x m) m m.me.length=tabV (gR l x m) m m.me.length:=by unfold tabZ;simp
   exact ⟨⟨B,g,rfl,hz▸HR.out⟩,bthen HB.out (HU.out.below HB2.out (Nat.le_refl _) HG.out.1 HG.out.1)⟩
end
section
open Go.RowKit
theorem ready_mod {m:Md}{k:Int} (h:readyV m k=true):(moduleV m).2.2=0:=by
 unfold readyV at h
 simp only [Bool.and_eq_true,decide_eq_true_eq] at h
 exact h.1
theorem low_mth {m:Md}{k:Nat} (h:(moduleV m).2.2=0) (hk:k<m.me.length):mthW (gR true byCost m) m k=mthW (gL m) m k:=tab_low (mod_ok h).1 (mod_ok h).2 (k+1) k (by omega) hk
theorem most_mth {m:Md}{k:Nat} (h:(moduleV m).2.2=0) (hk:k<m.me.length):mthW (gR false byCost m) m k=mthW (gW byCost m) m k:=
 tab_most (mod_ok h).1 (mod_ok h).2 (mcx_cost h).wt (by decide) (fun q=>by cases q) (k+1) k (by omega) hk
section
variable (m:Md) (h:Hd) (k:Int) (w:World) (H:ModAt w h m)
include H
theorem rWorst_any:Calls Tryz.prog 25 #[.agg #[.slice h.co m.cl.length h.cc,.slice h.so m.st.length h.sc,.slice h.eo m.me.length h.ec,.int .i64 m.sel],.int .i64 k] w (Ret2 w (.int .i64 (worstE m k).1) (.int .i64 (worstE m k).2)):=by
 have HB0:=Lib.hid (show Below w.heap.size w (w.alloc (.cells #[.slice h.co m.cl.length h.cc,.slice h.so m.st.length h.sc,.slice h.eo m.me.length h.ec,.int .i64 m.sel] 26)) by exact bE)
 have HA:=Lib.hid (rReady_any m h k _ (H.old HB0.out))
 obtain ⟨r1,hr1⟩:∃ r,r=(worstE m k).1:=⟨_,rfl⟩
 obtain ⟨r2,hr2⟩:∃ r,r=(worstE m k).2:=⟨_,rfl⟩
 rw [←hr1,←hr2]
 have HX0:=Lib.hid (Blk.new w #[.slice h.co m.cl.length h.cc,.slice h.so m.st.length h.sc,.slice h.eo m.me.length h.ec,.int .i64 m.sel] 26)
 have HH:=Lib.hid H
 rcases hq:readyV m k with _|_
 ·rw [hq] at HA
  have e1:r1=0:=by rw [hr1];unfold worstE;rw [hq];rfl
  have e2:r2=1:=by rw [hr2];unfold worstE;rw [hq];rfl
  have HE:=Lib.hid (And.intro e1 e2)
  clear H hr1 hr2 hq e1 e2
  go_enter Tryz.func25,Tryz.ntmps25
  go_wp2_with (go_at_call 46;refine HA.out.mono ?_;rintro e w1 ⟨rfl,hb1⟩)
  exact j7
 ·rw [hq] at HA
  have hmo:=ready_mod hq
  obtain ⟨hm,hk0,hk1⟩:=readyV_yes hq
  obtain ⟨k,rfl⟩:∃ d:Nat,k=d:=⟨k.toNat,by omega⟩
  have hkl:k<m.me.length:=by omega
  have hkl2:(k:Int) < m.me.length:=by omega
  obtain ⟨v,hv⟩:∃ v,v=mthW (gW byCost m) m k:=⟨_,rfl⟩
  have e1:r1=if 1000000000<v then 0 else v:=by rw [hr1,hv];unfold worstE;rw [hq,if_pos rfl,Int.toNat_natCast];split<;>rfl
  have e2:r2=if 1000000000<v then 6 else 0:=by rw [hr2,hv];unfold worstE;rw [hq,if_pos rfl,Int.toNat_natCast];split<;>rfl
  have HE:=Lib.hid (And.intro e1 e2)
  have HT:=Lib.hid (fun w' hb=>rtables_any (mcx_cost hmo) false h w' (HH.out.old (w':=w') hb))
  have HV:=Lib.hid (show (tabV (gR false byCost m) m m.me.length).getD k 0=v by rw [tabV_get _ _ hkl,most_mth hmo hkl,hv])
  clear H hr1 hr2 hq e1 e2 hv hm hmo
  go_enter Tryz.func25,Tryz.ntmps25
  exact j1
theorem rLeast_any:Calls Tryz.prog 26 #[.agg #[.slice h.co m.cl.length h.cc,.slice h.so m.st.length h.sc,.slice h.eo m.me.length h.ec,.int .i64 m.sel],.int .i64 k] w (Ret2 w (.int .i64 (leastE m k).1) (.int .i64 (leastE m k).2)):=by
 have HB0:=Lib.hid (show Below w.heap.size w (w.alloc (.cells #[.slice h.co m.cl.length h.cc,.slice h.so m.st.length h.sc,.slice h.eo m.me.length h.ec,.int .i64 m.sel] 26)) by exact bE)
 have HA:=Lib.hid (rReady_any m h k _ (H.old HB0.out))
 obtain ⟨r1,hr1⟩:∃ r,r=(leastE m k).1:=⟨_,rfl⟩
 obtain ⟨r2,hr2⟩:∃ r,r=(leastE m k).2:=⟨_,rfl⟩
 rw [←hr1,←hr2]
 have HX0:=Lib.hid (Blk.new w #[.slice h.co m.cl.length h.cc,.slice h.so m.st.length h.sc,.slice h.eo m.me.length h.ec,.int .i64 m.sel] 26)
 have HH:=Lib.hid H
 rcases hq:readyV m k with _|_
 ·rw [hq] at HA
  have e1:r1=0:=by rw [hr1];unfold leastE;rw [hq];rfl
  have e2:r2=1:=by rw [hr2];unfold leastE;rw [hq];rfl
  have HE:=Lib.hid (And.intro e1 e2)
  clear H hr1 hr2 hq e1 e2
  go_enter Tryz.func26,Tryz.ntmps26
  go_wp2_with (go_at_call 46;refine HA.out.mono ?_;rintro e w1 ⟨rfl,hb1⟩)
  exact j7
 ·rw [hq] at HA
  have hmo:=ready_mod hq
  obtain ⟨hm,hk0,hk1⟩:=readyV_yes hq
  obtain ⟨k,rfl⟩:∃ d:Nat,k=d:=⟨k.toNat,by omega⟩
  have hkl:k<m.me.length:=by omega
  have hkl2:(k:Int) < m.me.length:=by omega
  obtain ⟨v,hv⟩:∃ v,v=mthW (gL m) m k:=⟨_,rfl⟩
  have hbl:Bl v:=hv▸mthW_bl hm (k+1) k (by omega)
  have e1:r1=if v<0 then 0 else if 1000000000<v then 0 else v:=by rw [hr1,hv];unfold leastE;rw [hq,if_pos rfl,Int.toNat_natCast];split;(· rfl);split<;>rfl
  have e2:r2=if v<0 then 3 else if 1000000000<v then 6 else 0:=by rw [hr2,hv];unfold leastE;rw [hq,if_pos rfl,Int.toNat_natCast];split;(· rfl);split<;>rfl
  have HE:=Lib.hid (And.intro e1 e2)
  have HT:=Lib.hid (fun w' hb=>rtables_any (mcx_cost hmo) true h w' (HH.out.old (w':=w') hb))
  have HV:=Lib.hid (show (tabV (gR true byCost m) m m.me.length).getD k 0=v by rw [tabV_get _ _ hkl,low_mth hmo hkl,hv])
  have HBl:=Lib.hid hbl
  clear H hr1 hr2 hq e1 e2 hv hm hmo hbl
  go_enter Tryz.func26,Tryz.ntmps26
  by_cases hv1:v=-1
  ·rw [if_pos (by omega),if_pos (by omega)] at HE
   go_wp2_with (first
    | (go_at_call 46;refine HA.out.mono ?_;rintro e w1 ⟨rfl,hb1⟩;have HB1:=Lib.hid (bthen HB0.out hb1);have HX1:=Lib.hid (HX0.out.old hb1);have x0:=HX1.out.cell 0 (v:=.slice h.co m.cl.length h.cc) rfl;have x1:=HX1.out.cell 1 (v:=.slice h.so m.st.length h.sc) rfl;have x2:=HX1.out.cell 2 (v:=.slice h.eo m.me.length h.ec) rfl;have x3:=HX1.out.cell 3 (v:=.int .i64 m.sel) rfl;clear hb1)
    | (go_at_call 55;refine (HT.out _ HB1.out).mono ?_;rintro e w2 ⟨⟨B,g,rfl,hR⟩,hb2⟩;have HB2:=Lib.hid (bthen HB1.out hb2);have t6:=hR.tb.cell 6 (v:=.slice (some ⟨g,0,none⟩) m.me.length m.me.length) rfl;have lB:=hR.tb.lt;have n0:=arr_cell hR.nb (k:=k) (by rw [tabV_len];exact hkl);rw [HV.out] at n0;clear hb2 hR x0 x1 x2 x3))
   go_ret2
   exact ret2_ok (int_eq HE.out.1.symm) (int_eq HE.out.2.symm) HB2.out
  ·have hv2:¬ v<0:=by have:=HBl.out.1;omega
   rw [if_neg hv2,if_neg hv2] at HE
   exact j1
end
end
section
open Go.RowKit
theorem seg_mat {l:List In3}{a b:Nat} (h:Seg l a b):∀ k,a≤k→k<b→opensV (l.getD k default).op=true→∃ alt en,Mat l k alt en:=by
 induction h with
 | nil a h=>intro k h1 h2;omega
 | pl a b h1 h2 h3 h4 h5 ih=>
  intro k q1 q2 q3
  by_cases e:k=a
  ·subst e;rw [h2] at q3;cases q3
  ·exact ih k (by omega) q2 q3
 | one a en b h1 h2 h3 i1 i2=>
  intro k q1 q2 q3
  by_cases e:k=a
  ·subst e;exact ⟨_,_,h1⟩
  ·by_cases e2:k<en
   ·exact i1 k (by omega) e2 q3
   ·by_cases e3:k=en
    ·subst e3;rw [opens_not (.inr h1.2.2.2.1)] at q3;cases q3
    ·exact i2 k (by omega) q2 q3
 | two a n en b h1 h2 h3 h4 i1 i2 i3=>
  intro k q1 q2 q3
  have hm:=h1
  obtain ⟨_,_,_,h35,hx⟩:=h1
  by_cases e:k=a
  ·subst e;exact ⟨_,_,hm⟩
  ·by_cases e2:k<n
   ·exact i1 k (by omega) e2 q3
   ·by_cases e3:k=n
    ·rcases hx with ⟨hx,_⟩|⟨n2,hx,_,h34,_⟩
     ·omega
     ·obtain rfl:n=n2:=by omega
      subst e3;rw [opens_not (.inl h34)] at q3;cases q3
    ·by_cases e4:k<en
     ·exact i2 k (by omega) e4 q3
     ·by_cases e5:k=en
      ·subst e5;rw [opens_not (.inr h35)] at q3;cases q3
      ·exact i3 k (by omega) q2 q3
theorem tmS_bd {l:List In3}{i k:Nat}{acc:Int} (ha:(l.getD k default).op=30→0≤(l.getD k default).a) (h:Bd acc):Bd (tmS l i acc k):=by
 unfold tmS
 split
 ·exact mulV_bd (ha (by omega)) h
 ·exact h
theorem tmB_bd {l:List In3} (ha:∀ k,k<l.length→(l.getD k default).op=30→0≤(l.getD k default).a) (i:Nat):∀ a,a≤l.length→Bd (tmB l a i)
 | 0,_=>by unfold tmB Bd;simp
 | a+1,h=>by rw [tmB_succ];exact tmS_bd (ha a (by omega)) (tmB_bd ha i a (by omega))
theorem rTimes_any (m:Md) (h:Hd) (k:Int) (w:World) (H:ModAt w h m):Calls Tryz.prog 14 #[.agg #[.slice h.co m.cl.length h.cc,.slice h.so m.st.length h.sc,.slice h.eo m.me.length h.ec,.int .i64 m.sel],.int .i64 k] w (RetRow2N w (timesE m k).1 (timesE m k).2):=by
 have HB0:=Lib.hid (show Below w.heap.size w (w.alloc (.cells #[.slice h.co m.cl.length h.cc,.slice h.so m.st.length h.sc,.slice h.eo m.me.length h.ec,.int .i64 m.sel] 26)) by exact bE)
 have HA:=Lib.hid (rReady_any m h k _ (H.old HB0.out))
 have HX0:=Lib.hid (Blk.new w #[.slice h.co m.cl.length h.cc,.slice h.so m.st.length h.sc,.slice h.eo m.me.length h.ec,.int .i64 m.sel] 26)
 have HH:=Lib.hid H
 rcases hq:readyV m k with _|_
 ·rw [hq] at HA
  have e1:timesE m k=([],1):=by unfold timesE;rw [hq];rfl
  rw [e1]
  clear H hq e1
  go_enter Tryz.func14,Tryz.ntmps14
  go_wp2_with (go_at_call 46;refine HA.out.mono ?_;rintro e w1 ⟨rfl,hb1⟩)
  go_ret2
  exact ⟨⟨none,0,rfl,RowAt.nil _,fun _ e=>by cases e⟩,bthen HB0.out hb1⟩
 ·rw [hq] at HA
  obtain ⟨hm,hk0,hk1⟩:=readyV_yes hq
  obtain ⟨k,rfl⟩:∃ d:Nat,k=d:=⟨k.toNat,by omega⟩
  have hkl:k<m.me.length:=by omega
  have e1:timesE m k=if hugeV∈timesL (cdM m k) then ([],6) else (timesL (cdM m k),0):=by unfold timesE;rw [hq,if_pos rfl,Int.toNat_natCast]
  obtain ⟨⟨r1,r2⟩,hz⟩:∃ z,z=timesE m k:=⟨_,rfl⟩
  rw [←hz]
  have HZ:=Lib.hid (hz.trans e1)
  clear e1 hz
  have HCv:=Lib.hid (show codeE false (cdM m k)=0 from (cost_wkr hm w).code hkl)
  have hcl:(cdM m k).length≤120:=(mth_ok hm hkl).z.2.2
  have HSg:=Lib.hid (show Seg (cdM m k) 0 (cdM m k).length from seg_of (mth_ok hm hkl).n)
  have HIv:=Lib.hid (show ∀ j,j<(cdM m k).length→insnV false ((cdM m k).getD j default)=true from fun j hj=>((mth_ok hm hkl).i _ (getD_mem _ hj)).1)
  obtain ⟨ea,he,-,-,-,-,-,-,e6⟩:=H.mth hkl
  rw [show (m.me.getD k default).k.length=(cdM m k).length from rfl] at e6
  have HE6:=Lib.hid e6
  have HEa:=Lib.hid he
  have hkl2:(k:Int) < m.me.length:=by omega
  have hmk:=run_make_row' (P:=Tryz.prog) 29 3 (.int .i64 0) 8 Tryz.underlying29 (by kernel_rfl) rfl .i64 .i64 (cdM m k).length (by omega) (by omega)
  rw [made_repV] at hmk
  have HKo:=Lib.hid (show RowAt w (h.e k).ko (h.e k).kc (cdM m k) from H.k k hkl)
  have HKb:=Lib.hid (show 0<(cdM m k).length→Lie (· < w.heap.size) (h.e k).ko from fun h0 ad e=>by
   obtain ⟨ad',e',c0,_⟩:=row_in HKo.out (i:=0) h0
   rw [e] at e'
   cases e'
   have:=cell_lt c0
   rwa [add_block] at this)
  clear H hq hm e6 he
  go_enter Tryz.func14,Tryz.ntmps14
  go_upto_region 4 with (go_at_call 46;refine HA.out.mono ?_;rintro e w1 ⟨rfl,hb1⟩;have HB1:=Lib.hid (bthen HB0.out hb1);have HX1:=Lib.hid (HX0.out.old hb1);clear hb1)
  have x2:=HX1.out.cell 2 (v:=.slice h.eo m.me.length h.ec) rfl
  rw [HEa.out] at x2
  have e6:=(HB1.out.cell (cell_lt HE6.out)).trans HE6.out
  go_upto_region 5 with fail
  clear x2 e6
  go_upto_region 6 with fail
  clear hmk
  obtain ⟨c,hc⟩:∃ c,c=cdM m k:=⟨_,rfl⟩
  rw [←hc] at HZ HCv hcl HSg HIv HKo HKb ⊢
  clear HA HE6 hc
  obtain ⟨ko,hko⟩:∃ o,o=(h.e k).ko:=⟨_,rfl⟩
  obtain ⟨kc,hkc⟩:∃ o,o=(h.e k).kc:=⟨_,rfl⟩
  rw [←hkc] at HKo ⊢
  rw [←hko] at HKo HKb ⊢
  clear hko hkc
  obtain ⟨g,hg⟩:∃ g,g=w1.heap.size:=⟨_,rfl⟩
  obtain ⟨w2,hw2⟩:∃ w2,w2=w1.alloc (Obj.cells (Array.replicate c.length (Value.int IntKind.i64 0)) 3):=⟨_,rfl⟩
  have HA2:=Lib.hid (show Blk w2 g (arrI (List.replicate c.length 0)) 3 by rw [hw2,hg];have:=Blk.new w1 (Array.replicate c.length (Value.int IntKind.i64 0)) 3;unfold arrI;rw [List.map_replicate,List.toArray_replicate];exact this)
  have HB2:=Lib.hid (show Below w.heap.size w w2 by rw [hw2];exact bal HB1.out _)
  have HG:=Lib.hid (show w.heap.size≤g∧g<w2.heap.size by rw [hw2,hg];exact ⟨HB1.out.size,by simp⟩)
  rw [←hw2,←hg]
  clear hg hw2
  have HA30:=Lib.hid (show ∀ j,j<c.length→(c.getD j default).op=30→0≤(c.getD j default).a∧(c.getD j default).a≤1000 from fun j hj e=>by
   exact loop_bd (op:=(c.getD j default).op) (a:=(c.getD j default).a) (b:=(c.getD j default).b) (HIv.out j hj) e)
  go_wp2
  go_loopw [9] (fun i wr=>∃ (n:Nat) (L1:List Int),n≤c.length∧i=.int .i64 n∧Hid (Upd g g w2 wr)∧Hid (Blk wr g (arrI L1) 3)∧Hid (L1.length=c.length∧∀ j,j<n→L1.getD j 0=tmV c j)) (fun i _=>c.length-(intOf i).toNat)
  case atStart=>exact ⟨0,List.replicate c.length 0,Nat.zero_le _,rfl,Upd.refl _ _ _,HA2.out,by simp,fun j hj=>by omega⟩
  case round=>
   obtain ⟨n,L1,hn,rfl,HU,HA1,HL1⟩:=hrel
   rename World=>wo
   by_cases hnl:n<c.length
   ·have hnl2:(n:Int) < c.length:=by omega
    have hwn:IntKind.i64.wrap ((n:Int)+1)=((n+1:Nat):Int):=IntWalk.i64_in _ (by omega)
    have hL1:=HL1.out.1
    have g0:=arr_cell HA1.out (k:=n) (by omega)
    have f0:=HA1.out.frozen n
    go_upto_region 10 with fail
    obtain ⟨w3,hw3⟩:∃ w3,w3=wo.setCell ⟨g,n,none⟩ (.int .i64 1):=⟨_,rfl⟩
    have HA3:=Lib.hid (show Blk w3 g (arrI (L1.set n 1)) 3 by rw [hw3];exact blk_setI HA1.out _)
    have HU3:=Lib.hid (show Upd g g w2 w3 by rw [hw3];exact HU.out.set n _)
    rw [←hw3]
    clear g0 f0 hw3
    go_wp2
    go_loopw [10] (fun i wr=>∃ (q:Nat) (L2:List Int),q≤n∧i=.int .i64 q∧Hid (Upd g g w2 wr)∧Hid (Blk wr g (arrI L2) 3)∧Hid (L2.length=c.length∧(∀ j,j<n→L2.getD j 0=tmV c j)∧L2.getD n 0=tmB c q n)) (fun i _=>n-(intOf i).toNat)
    case atStart=>
     refine ⟨0,L1.set n 1,Nat.zero_le _,rfl,HU3.out,HA3.out,by rw [List.length_set];exact hL1,fun j hj=>?_,?_⟩
     ·rw [getD_setI _ _ _ (by omega),if_neg (by omega)];exact HL1.out.2 j hj
     ·rw [getD_setI _ _ _ (by omega),if_pos rfl];rfl
    case round=>
     obtain ⟨q,L2,hq,rfl,HU4,HA4,HL4⟩:=hrel
     rename World=>wi
     by_cases hqn:q<n
     ·have hqn2:(q:Int) < n:=by omega
      have hql:q<c.length:=by omega
      have hql2:(q:Int) < c.length:=by omega
      have hwq:IntKind.i64.wrap ((q:Int)+1)=((q+1:Nat):Int):=IntWalk.i64_in _ (by omega)
      have HRw:=Lib.hid (row_updG (HKo.out.old HB2.out) HU4.out (fun ad e=>by have:=HKb.out (by omega) ad e;have:=HG.out;omega))
      obtain ⟨ca,hca,o0,o1,-⟩:=row_in HRw.out hql
      have hstep:=tmB_succ c q n
      unfold tmS at hstep
      have HMt:=Lib.hid (fun alt en (hm:Mat c q alt en)=>rMatch_ok c ko kc wi HRw.out HCv.out hm)
      rw [hca] at HMt
      subst hca
      have ha30:=HA30.out q hql
      have hsm:=seg_mat HSg.out q (Nat.zero_le _) hql
      obtain ⟨i,hi⟩:∃ i,i=c.getD q default:=⟨_,rfl⟩
      rw [←hi] at o0 o1 ha30 hstep hsm
      obtain ⟨op,ia,ib⟩:=i
      dsimp only at o0 o1 ha30 hstep hsm
      have HSt:=Lib.hid hstep
      have HSm:=Lib.hid hsm
      clear hi hstep hsm
      by_cases h30:op=30
      ·subst h30
       obtain ⟨a0,a1⟩:=ha30 rfl
       obtain ⟨alt,en,hmt⟩:=HSm.out (by decide)
       have hmq:=HMt.out alt en hmt
       rw [mt_of hmt] at HSt
       dsimp only at HSt
       have HMq:=Lib.hid hmq
       clear HMt HSm hmt hmq
       by_cases hen:n≤en
       ·have hen2:(n:Int)≤en:=by omega
        rw [if_pos ⟨rfl,hen⟩] at HSt
        obtain ⟨acc,hacc⟩:∃ a,a=tmB c q n:=⟨_,rfl⟩
        rw [←hacc] at HSt
        have HAb:=Lib.hid (show Bd acc from hacc▸tmB_bd (fun j hj e=>(HA30.out j hj e).1) n q (by omega))
        have HAc:=Lib.hid (HL4.out.2.2.trans hacc.symm)
        clear hacc
        go_upto_region 16 with (go_at_call 47;refine HMq.out.mono ?_;rintro e w4 ⟨rfl,hb4⟩;have HB4:=Lib.hid hb4;clear hb4)
        have HA5:=Lib.hid (HA4.out.old HB4.out)
        have o1:=(HB4.out.cell (cell_lt o1)).trans o1
        have g0:=arr_cell HA5.out (k:=n) (by have:=HL4.out.1;omega)
        rw [HAc.out] at g0
        have HCs:=Lib.hid (show Cs [(⟨(ca.add (q*3)).block,(ca.add (q*3)).off+1,none⟩,.int .i64 ia),(⟨g,n,none⟩,.int .i64 acc)] w4 from ⟨o1,g0,trivial⟩)
        refine rE (Cs [(⟨(ca.add (q*3)).block,(ca.add (q*3)).off+1,none⟩,.int .i64 ia),(⟨g,n,none⟩,.int .i64 acc)]) 13 (oL [0,1,2,3,4,5,6,7,8,9,10,111,12]) ⟨o1,g0,trivial⟩ ?_
        clear o0 o1 g0
        repeat refine pE ?_
        refine oE fun Kv hK=>?_
        go_simp
        refine (rtimes_any ia acc _ (by have:=(mul_rng HAb.out a0 a1).1;rw [Int.mul_comm];omega) (by have:=(mul_rng HAb.out a0 a1).2;rw [Int.mul_comm];omega)).mono ?_
        rintro e w5 ⟨rfl,hb5⟩
        have HB5:=Lib.hid (bthen (Below.refl w4.heap.size w4).drew hb5)
        refine hK _ _ ⟨Cs.keeps (Keeps.of HB5.out) HCs.out,?_⟩
        clear hK Kv hb5
        repeat refine pE ?_
        refine sE fun Kv hK=>?_
        have HA6:=Lib.hid (HA5.out.old HB5.out)
        have g0:=arr_cell HA6.out (k:=n) (by have:=HL4.out.1;omega)
        have f0:=HA6.out.frozen n
        go_simp
        refine hK _ _ ?_
        clear hK Kv g0 f0
        have HA7:=Lib.hid (blk_setI (k:=n) HA6.out (mulV ia acc))
        have HU7:=Lib.hid (((HU4.out.bel HB4.out).bel HB5.out).set n (.int .i64 (mulV ia acc)))
        go_wp2
        refine ⟨⟨q+1,L2.set n (mulV ia acc),hqn,rfl,HU7.out,HA7.out,by rw [List.length_set];exact HL4.out.1,fun j hj=>?_,?_⟩,by simp [intOf];omega⟩
        ·rw [getD_setI _ _ _ (by have:=HL4.out.1;omega),if_neg (by omega)];exact HL4.out.2.1 j hj
        ·rw [getD_setI _ _ _ (by have:=HL4.out.1;omega),if_pos rfl];exact HSt.out.symm
       ·have hen2:¬ (n:Int)≤en:=by omega
        rw [if_neg (by omega)] at HSt
        go_wp2_with (go_at_call 47;refine HMq.out.mono ?_;rintro e w4 ⟨rfl,hb4⟩;have HB4:=Lib.hid hb4;clear hb4 o0 o1)
        exact ⟨⟨q+1,L2,hqn,rfl,HU4.out.bel HB4.out,HA4.out.old HB4.out,HL4.out.1,HL4.out.2.1,HL4.out.2.2.trans HSt.out.symm⟩,by simp [intOf];omega⟩
      ·rw [if_neg (fun e=>h30 e.1)] at HSt
       go_wp2
       exact ⟨⟨q+1,L2,hqn,rfl,HU4.out,HA4.out,HL4.out.1,HL4.out.2.1,HL4.out.2.2.trans HSt.out.symm⟩,by simp [intOf];omega⟩
     ·obtain rfl:q=n:=by omega
      have hj5:¬ (q:Int) < q:=by omega
      go_wp2
      refine ⟨⟨q+1,L2,hnl,rfl,HU4.out,HA4.out,HL4.out.1,fun j hj=>?_⟩,by simp [intOf];omega⟩
      by_cases e:j=q
      ·subst e;exact HL4.out.2.2
      ·exact HL4.out.2.1 j (by omega)
   ·obtain rfl:n=c.length:=by omega
    have hj5:¬ (c.length:Int) < c.length:=by omega
    go_wp2
    have hLt:=timesL_of (l:=c) (L:=L1) HL1.out.1 fun i=>by
     by_cases h:i<c.length
     ·rw [if_pos ⟨Nat.zero_le _,h⟩];exact HL1.out.2 i h
     ·rw [if_neg (by omega),List.getD_eq_getElem?_getD,List.getElem?_eq_none (by have:=HL1.out.1;omega)];rfl
    rw [←hLt] at HZ
    have HBw:=Lib.hid (HU.out.below HB2.out (Nat.le_refl _) HG.out.1 HG.out.1)
    have hbd:∀ i,i<c.length→Bd (L1.getD i 0):=fun i hi=>by rw [HL1.out.2 i hi];exact tmB_bd (fun j hj e=>(HA30.out j hj e).1) i i (by omega)
    have HBd:=Lib.hid hbd
    clear hLt hbd
    go_loopw [14] (fun i wr=>∃ n:Nat,n≤c.length∧i=.int .i64 n∧Hid (Below wo.heap.size wo wr)∧Hid (∀ j,j<n→L1.getD j 0≠hugeV)) (fun i _=>c.length-(intOf i).toNat)
    case atStart=>exact ⟨0,Nat.zero_le _,rfl,by exact bE,fun j h=>by omega⟩
    case round=>
     obtain ⟨n,hn,rfl,HBr,HN⟩:=hrel
     rename World=>wi
     by_cases hnl:n<c.length
     ·have hnl2:(n:Int) < c.length:=by omega
      have hwn:IntKind.i64.wrap ((n:Int)+1)=((n+1:Nat):Int):=IntWalk.i64_in _ (by omega)
      have g0:=arr_cell (HA1.out.old HBr.out) (k:=n) (by have:=HL1.out.1;omega)
      have hb:=HBd.out n hnl
      obtain ⟨v,hv⟩:∃ v,v=L1.getD n 0:=⟨_,rfl⟩
      rw [←hv] at g0 hb
      have HV:=Lib.hid hv
      clear hv
      by_cases hv1:v=1000000001
      ·subst hv1
       have hin:hugeV∈L1:=by
        have h1:=HV.out
        have:L1.getD n 0=L1[n]'(by have:=HL1.out.1;omega):=by simp [show n<L1.length by have:=HL1.out.1;omega]
        rw [this] at h1
        rw [show hugeV=1000000001 from rfl,h1]
        exact List.getElem_mem _
       obtain ⟨rfl,rfl⟩:=Prod.mk.inj (HZ.out.trans (by rw [if_pos hin]))
       go_wp2
       go_ret2
       exact ⟨⟨none,0,rfl,RowAt.nil _,fun _ e=>by cases e⟩,bthen HBw.out HBr.out⟩
      ·have hv2:¬ v > 1000000000:=by unfold Bd at hb;omega
       have hv3:¬ 1000000000<v:=hv2
       go_wp2
       exact ⟨⟨n+1,hnl,rfl,HBr.out,fun j hj e=>by
        by_cases h2:j=n
        ·subst h2;rw [←HV.out] at e;exact hv1 e
        ·exact HN.out j (by omega) e⟩,by simp [intOf];omega⟩
     ·obtain rfl:n=c.length:=by omega
      have hj6:¬ (c.length:Int) < c.length:=by omega
      go_wp2
      go_ret2
      have hin:¬ hugeV∈L1:=fun hm=>by
       obtain ⟨j,hj,e⟩:=List.getElem_of_mem hm
       exact HN.out j (by have:=HL1.out.1;omega) (by simp [hj,e])
      obtain ⟨e1,e2⟩:=Prod.mk.inj (HZ.out.trans (by rw [if_neg hin]))
      rw [e1,e2]
      exact ⟨⟨some ⟨g,0,none⟩,L1.length,by rw [HL1.out.1];rfl,RowAt.old (arrI_row HA1.out) HBr.out,fun a e=>by cases e;exact HG.out.1⟩,bthen HBw.out HBr.out⟩
end
end Go.Proofs.YtfkbfjhocmbneaaGreat
