/- Joined texts. The first: How often an instruction is done at most: by the loops around it. -/
import Derived.Test.YtfkbfjhocmbneaaGreatT16
import Derived.Test.YtfkbfjhocmbneaaGreatT17
import Derived.Test.YtfkbfjhocmbneaaGreatG3
import Derived.Test.YtfkbfjhocmbneaaGreatG14
import Derived.Test.YtfkbfjhocmbneaaGreatG8
set_option linter.all false
set_option linter.unusedVariables false
set_option linter.unusedSimpArgs false
set_option maxRecDepth 100000
set_option maxHeartbeats 16000000
namespace Go.Proofs.YtfkbfjhocmbneaaGreat
theorem j8{p:Prop}(h:p:=by
 by_cases e:j=en
 ·subst e;rw [if_pos rfl,if_pos (.inr (.inl rfl))]
 ·rw [if_neg e]
  by_cases e:j=p
  ·subst e;rw [if_pos rfl,if_pos (.inl rfl)]
  ·rw [if_neg e,if_neg (by omega)]):p:=h
section
def tmS (l:List In3) (i:Nat) (acc:Int) (k:Nat):Int:=if (l.getD k default).op=30∧i≤(mtV l k).2 then mulV (l.getD k default).a acc else acc
def tmV (l:List In3) (i:Nat):Int:=(List.range i).foldl (tmS l i) 1
def tmB (l:List In3) (a i:Nat):Int:=(List.range a).foldl (tmS l i) 1
theorem tmB_succ (l:List In3) (a i:Nat):tmB l (a+1) i=tmS l i (tmB l a i) a:=by unfold tmB;rw [List.range_succ,List.foldl_append];rfl
theorem seg_ends {l:List In3}{a b:Nat} (h:Seg l a b):∀ k,a≤k→k<b→opensV (l.getD k default).op=true→(mtV l k).2<b:=by
 induction h with
 | nil a h=>intro k h1 h2;omega
 | pl a b h1 h2 h3 h4 h5 ih=>
  intro k q1 q2 q3
  by_cases e:k=a
  ·subst e;rw [h2] at q3;cases q3
  ·exact ih k (by omega) q2 q3
 | one a en b h1 h2 h3 i1 i2=>
  intro k q1 q2 q3
  have:=(seg_le h3).1
  by_cases e:k=a
  ·subst e;rw [mt_of h1];dsimp only;omega
  ·by_cases e2:k<en
   ·have:=i1 k (by omega) e2 q3;omega
   ·by_cases e3:k=en
    ·subst e3;rw [opens_not (.inr h1.2.2.2.1)] at q3;cases q3
    ·exact i2 k (by omega) q2 q3
 | two a n en b h1 h2 h3 h4 i1 i2 i3=>
  intro k q1 q2 q3
  have:=(seg_le h3).1
  have:=(seg_le h4).1
  obtain ⟨_,_,_,h35,hx⟩:=h1
  by_cases e:k=a
  ·subst e;rw [mt_of ⟨‹_›,‹_›,‹_›,h35,hx⟩];dsimp only;omega
  ·by_cases e2:k<n
   ·have:=i1 k (by omega) e2 q3;omega
   ·by_cases e3:k=n
    ·rcases hx with ⟨hx,_⟩|⟨n2,hx,_,h34,_⟩
     ·omega
     ·obtain rfl:n=n2:=by omega
      subst e3;rw [opens_not (.inl h34)] at q3;cases q3
    ·by_cases e4:k<en
     ·have:=i2 k (by omega) e4 q3;omega
     ·by_cases e5:k=en
      ·subst e5;rw [opens_not (.inr h35)] at q3;cases q3
      ·exact i3 k (by omega) q2 q3
theorem tmB_skip {l:List In3}{a b i:Nat} (h:Seg l a b) (hi:b≤i):tmB l b i=tmB l a i:=by
 have hle:=(seg_le h).1
 have:∀ d,a+d≤b→tmB l (a+d) i=tmB l a i:=by
  intro d
  induction d with
  | zero=>intro _;rfl
  | succ d ih=>
   intro hd
   rw [←Nat.add_assoc,tmB_succ,ih (by omega)]
   unfold tmS
   by_cases ho:(l.getD (a+d) default).op=30
   ·have:=seg_ends h (a+d) (by omega) (by omega) (by rw [ho];decide)
    rw [if_neg (by omega)]
   ·rw [if_neg (fun q=>ho q.1)]
 have:=this (b-a) (by omega)
 rwa [show a+(b-a)=b by omega] at this
def Enc (l:List In3) (a b:Nat) (often:Int):Prop:=∀ i,a≤i→i<b→tmB l a i=often
theorem Enc.next {l:List In3}{a p b:Nat}{often:Int} (h:Enc l a b often) (hs:Seg l a p):Enc l p b often:=fun i h1 h2=>by
 have:=(seg_le hs).1
 rw [tmB_skip hs h1]
 exact h i (by omega) h2
theorem Enc.here {l:List In3}{p b:Nat}{often:Int} (h:Enc l p b often) (hb:p<b):tmV l p=often:=h p (Nat.le_refl _) hb
def innV (i:In3) (often:Int):Int:=if i.op=30 then mulV i.a often else often
theorem enc_step {l:List In3}{p b i:Nat}{often:Int} (h:Enc l p b often) (h1:p<i) (h2:i≤(mtV l p).2) (h3:i<b):tmB l (p+1) i=innV (l.getD p default) often:=by
 rw [tmB_succ,h i (by omega) h3]
 unfold tmS innV
 by_cases ho:(l.getD p default).op=30
 ·rw [if_pos ⟨ho,h2⟩,if_pos ho]
 ·rw [if_neg (fun q=>ho q.1),if_neg ho]
section
variable {l:List In3}{p b en:Nat}{often:Int} (h:Enc l p b often) (hb:en<b)
include h hb
theorem enc_first {alt:Int}{q:Nat} (hm:Mat l p alt en) (hq:q≤en):Enc l (p+1) q (innV (l.getD p default) often):=fun i h1 h2=>enc_step h (by omega) (by rw [mt_of hm];dsimp only;omega) (by omega)
theorem enc_end {alt:Int}{q:Nat} (hm:Mat l p alt en) (hs:Seg l (p+1) q) (hq:q≤en) {r:Nat} (h1:q≤r) (h2:r≤en):tmB l q r=innV (l.getD p default) often:=by
 have:=(seg_le hs).1
 rw [tmB_skip hs h1]
 exact enc_step h (by omega) (by rw [mt_of hm];dsimp only;omega) (by omega)
theorem tm_end1 (hm:Mat l p (-1) en) (hs:Seg l (p+1) en):tmV l en=innV (l.getD p default) often:=enc_end h hb hm hs (Nat.le_refl _) (Nat.le_refl _) (Nat.le_refl _)
section
variable {n:Nat}(hm:Mat l p n en)(hs:Seg l (p+1) n)
include n hm hs
theorem tm_else (hne:n<en):tmV l n=often:=by
 have:=enc_end h hb hm hs (by omega) (Nat.le_refl _) (by omega)
 rw [show tmV l n=tmB l n n from rfl,this]
 unfold innV
 rw [if_neg]
 rcases hm.2.2.2.2 with ⟨q,_⟩|⟨n2,q,_,_,q2,_⟩
 ·omega
 ·omega
theorem enc_second (hne:n<en):Enc l (n+1) en (innV (l.getD p default) often):=fun i h1 h2=>by
 have h34:(l.getD n default).op=34:=by
  rcases hm.2.2.2.2 with ⟨q,_⟩|⟨n2,q,_,h34,_⟩
  ·omega
  ·obtain rfl:n=n2:=by omega
   exact h34
 rw [tmB_succ]
 have:tmS l i (tmB l n i) n=tmB l n i:=by unfold tmS;rw [if_neg (by omega)]
 rw [this]
 exact enc_end h hb hm hs (by omega) (by omega) (by omega)
theorem tm_end2 (hs2:Seg l (n+1) en):tmV l en=innV (l.getD p default) often:=by
 have hne:=(seg_le hs2).1
 rw [show tmV l en=tmB l en en from rfl,tmB_skip hs2 (Nat.le_refl _),tmB_succ]
 have h34:(l.getD n default).op=34:=by
  rcases hm.2.2.2.2 with ⟨q,_⟩|⟨n2,q,_,h34,_⟩
  ·omega
  ·obtain rfl:n=n2:=by omega
   exact h34
 have:tmS l en (tmB l n en) n=tmB l n en:=by unfold tmS;rw [if_neg (by omega)]
 rw [this]
 exact enc_end h hb hm hs (by omega) (by omega) (by omega)
end
end
theorem enc_all (l:List In3) (b:Nat):Enc l 0 b 1:=fun i _ _=>rfl
end
section
open Go.RowKit
abbrev arrI (L:List Int):Array Value:=(L.map (Value.int .i64)).toArray
theorem blk_setI {w:World}{g k:Nat}{L:List Int}{t:TypeId} (h:Blk w g (arrI L) t) (v:Int):Blk (w.setCell ⟨g,k,none⟩ (.int .i64 v)) g (arrI (L.set k v)) t:=by
 have:=h.set k (.int .i64 v)
 simpa [arrI,List.map_set] using this
theorem arr_cell {w:World}{g k:Nat}{L:List Int}{t:TypeId} (h:Blk w g (arrI L) t) (hk:k<L.length):w.cell? ⟨g,k,none⟩=some (.int .i64 (L.getD k 0)):=h.cell k (by simp [arrI,hk])
theorem row_updG {α:Type} [Cells α] {w w':World}{g:Nat}{ao:Option Addr}{c:Nat}{L:List α} (h:RowAt w ao c L) (hu:Upd g g w w') (hne:Lie (·≠g) ao):RowAt w' ao c L:=
 ⟨h.1,h.2.1,fun j u hu'=>by
  obtain ⟨a,ha,hc⟩:=h.2.2 j u hu'
  exact ⟨a,ha,(World.cell?_of_block (w:=w) (hu.block _ (cell_lt hc) (by rw [add_block];exact hne a ha) (by rw [add_block];exact hne a ha))).trans hc⟩⟩
theorem Nds.updG {w w':World}{l:List In3}{g a b:Nat}{r:List VN} (h:Nds w l (·≠g) a b r) (hu:Upd g g w w'):Nds w' l (·≠g) a b r:=h.keep fun _ _ _ h1 h2=>⟨row_updG h1 hu h2,h2⟩
def TmPost (w:World) (l:List In3) (g:Nat) (L:List Int) (a b:Nat):Ending→World→Prop:=fun e w'=>∃ (v:Value) (L':List Int),e=.returned v∧Upd g g w w'∧Blk w' g (arrI L') 3∧L'.length=L.length∧∀ i,L'.getD i 0=if a≤i∧i<b then tmV l i else L.getD i 0
def TimesC (l:List In3) (ao:Option Addr) (cap g a b:Nat):Prop:=∀ w ro rc rows L often,RowAt w ao cap l→RowAt w ro rc rows→Lie (·≠g) ro→Nds w l (·≠g) a b rows→Blk w g (arrI L) 3→L.length=l.length→Bd often→Enc l a b often →
 Calls Tryz.prog 43 #[.slice ao l.length cap,.slice ro rows.length rc,.int .i64 often,.slice (some ⟨g,0,none⟩) l.length l.length] w (TmPost w l g L a b)
theorem multiply_gen (a b:Int) (w:World) (h1:0≤a*b) (h2:a*b≤1000000001000):Calls Tryz.prog 77 #[.int .i64 a,.int .i64 b] w (Ret w (.int .i64 (mulV a b))):=by
 exact j5
theorem mul_rng {a b:Int} (ha:Bd a) (h0:0≤b) (h1:b≤1000):0≤a*b∧a*b≤1000000001000:=
 ⟨Int.mul_nonneg ha.1 h0,Int.le_trans (Int.mul_le_mul ha.2 h1 h0 (by decide)) (by decide)⟩
theorem nds_at {w:World}{l:List In3}{P:Nat→Prop}{p b:Nat}{y:VN}{r:List VN} (h:Nds w l P p b (y :: r)):y.at_=p∧p<l.length∧p<b:=by
 cases h with
 | pl _ _ _ h1 h2 h3 h4 h5=>exact ⟨rfl,h1,by have:=h5.le;omega⟩
 | one _ en _ fo fc F _ h1 h2 h3 h4 h5=>exact ⟨rfl,h1.1,by have:=h5.le;have:=mat_lt h1;omega⟩
 | two _ n en _ fo so fc sc F S _ h1 h2 h3 h4 h5 h6 h7 h8=>exact ⟨rfl,h1.1,by have:=h8.le;have:=mat_lt h1;omega⟩
theorem getD_setI (L:List Int) (p:Nat) (v:Int) (hp:p<L.length) (i:Nat):(L.set p v).getD i 0=if i=p then v else L.getD i 0:=by
 rw [List.getD_eq_getElem?_getD,List.getElem?_set]
 by_cases h:i=p
 ·subst h;simp [hp]
 ·rw [if_neg (fun e=>h e.symm),if_neg h,←List.getD_eq_getElem?_getD]
theorem nds_split {w:World}{l:List In3}{P:Nat→Prop}{p b:Nat}{y:VN}{r:List VN} (h:Nds w l P p b (y :: r)):(y.en=-1∧Seg l p (p+1)∧Nds w l P (p+1) b r) ∨
  ∃ (en q q2:Nat) (F S:List VN),y.en=en∧Mat l p y.alt en∧y.fn=F.length∧y.sn=S.length∧RowAt w y.fo y.fc F∧Lie P y.fo∧Nds w l P (p+1) q F∧RowAt w y.so y.sc S∧Lie P y.so∧Nds w l P q2 en S∧Nds w l P (en+1) b r∧p<q∧q≤en∧p<q2∧q2≤en∧en<l.length∧en<b∧Seg l p (en+1)∧((y.alt=-1∧q=en∧q2=en)∨(y.alt=q∧q2=q+1∧q<en)):=by
 cases h with
 | pl _ _ _ h1 h2 h3 h4 h5=>exact .inl ⟨rfl,.pl _ _ h1 h2 h3 h4 (.nil _ (by omega)),h5⟩
 | one _ en _ fo fc F _ h1 h2 h3 h4 h5=>
  have:=h5.le
  have:=h4.le
  have:=mat_lt h1
  have:=h1.2.2.1
  exact .inr ⟨en,en,en,F,[],rfl,h1,rfl,rfl,h2,h3,h4,RowAt.nil _,fun _ e=>by simp at e,.nil _ (by omega),h5,by omega,Nat.le_refl _,by omega,Nat.le_refl _,by omega,by omega,.one _ _ _ h1 h4.seg (.nil _ (by omega)),.inl ⟨rfl,rfl,rfl⟩⟩
 | two _ n en _ fo so fc sc F S _ h1 h2 h3 h4 h5 h6 h7 h8=>
  have:=h8.le
  have:=h4.le
  have:=h7.le
  have:=mat_lt h1
  have:=h1.2.2.1
  exact .inr ⟨en,n,n+1,F,S,rfl,h1,rfl,rfl,h2,h3,h4,h5,h6,h7,h8,by omega,by omega,by omega,by omega,by omega,by omega,.two _ _ _ _ h1 h4.seg h7.seg (.nil _ (by omega)),.inr ⟨rfl,rfl,by omega⟩⟩
theorem tm_br {l:List In3}{p b en q q2:Nat}{alt often:Int}{S1:Seg l (p+1) q}{S2:Seg l q2 en} (h:Enc l p b often) (hb:en<b) (hm:Mat l p alt en) (hx:(alt=-1∧q=en∧q2=en)∨(alt=q∧q2=q+1∧q<en)) :
  Enc l (p+1) q (innV (l.getD p default) often)∧Enc l q2 en (innV (l.getD p default) often)∧tmV l en=innV (l.getD p default) often∧(alt=q→tmV l q=often):=by
 rcases hx with ⟨rfl,rfl,rfl⟩|⟨rfl,rfl,hq⟩
 ·exact ⟨enc_first h hb hm (Nat.le_refl _),fun i _ _=>by omega,tm_end1 h hb hm S1,fun e=>by omega⟩
 ·exact ⟨enc_first h hb hm (by omega),enc_second h hb hm S1 hq,tm_end2 h hb hm S1 S2,fun _=>tm_else h hb hm S1 hq⟩
theorem mulV_comm (a b:Int):mulV a b=mulV b a:=by unfold mulV;rw [Int.mul_comm]
theorem tm_arr {l:List In3}{L L1 L5 L6:List Int}{a p en q q2:Nat}{alt:Int} (hp:p<L1.length) (he:en<L1.length) (h1:∀ i,L1.getD i 0=if a≤i∧i<p then tmV l i else L.getD i 0) (hap:a≤p)
  (hx:(alt=-1∧q=en∧q2=en)∨(alt=q∧q2=q+1∧q<en)) (hpq:p<q)
  (h5:∀ i,L5.getD i 0=if p+1≤i∧i<q then tmV l i else (if 0≤alt then ((L1.set p (tmV l p)).set en (tmV l en)).set q (tmV l q) else (L1.set p (tmV l p)).set en (tmV l en)).getD i 0)
  (h6:∀ i,L6.getD i 0=if q2≤i∧i<en then tmV l i else L5.getD i 0) (i:Nat):L6.getD i 0=if a≤i∧i<en+1 then tmV l i else L.getD i 0:=by
 have hs:∀ j,((L1.set p (tmV l p)).set en (tmV l en)).getD j 0=if j=en then tmV l en else if j=p then tmV l p else L1.getD j 0:=fun j=>by
  rw [getD_setI _ _ _ (by simpa using he),getD_setI _ _ _ hp]
 have hz:∀ j,(if 0≤alt then ((L1.set p (tmV l p)).set en (tmV l en)).set q (tmV l q) else (L1.set p (tmV l p)).set en (tmV l en)).getD j 0=if j=p∨j=en∨0≤alt∧j=q then tmV l j else L1.getD j 0:=fun j=>by
  by_cases h0:0≤alt
  ·rw [if_pos h0,getD_setI _ _ _ (by simp;omega),hs]
   by_cases e:j=q
   ·subst e;rw [if_pos rfl,if_pos (.inr (.inr ⟨h0,rfl⟩))]
   ·rw [if_neg e]
    exact j8
  ·rw [if_neg h0,hs]
   exact j8
 rw [h6,h5,hz,h1]
 repeat' split
 all_goals first|rfl|omega
theorem times_of (l:List In3) (ao:Option Addr) (cap g a b:Nat) (hc:0<l.length→Lie (·≠g) ao) (hv:codeE false l=0) (ih:∀ a' b',a<a'→b' < b→TimesC l ao cap g a' b'):TimesC l ao cap g a b:=by
  intro w ro rc rows L often hco hr hro hnd hb hL hbo hen
  have hlen:=(code_ok hv).1
  have hall:=(code_ok hv).2.1
  have hle:=hnd.le
  have HCo:=Lib.hid hco
  have HR:=Lib.hid hr
  have HRo:=Lib.hid hro
  have HD:=Lib.hid hnd
  have HB:=Lib.hid hb
  have HE:=Lib.hid hen
  have HBo:=Lib.hid hbo
  have HC:=Lib.hid hc
  have HI:=Lib.hid ih
  have HAll:=Lib.hid hall
  have HLl:=Lib.hid hL
  have hrl:rows.length≤120:=by omega
  clear hco hr hro hnd hb hen hbo hc hv ih hall hL
  go_enter Tryz.func43,Tryz.ntmps43
  go_wp2
  go_loopw [13] (fun i wr=>∃ (j p:Nat) (L1:List Int),i=.int .i64 j∧j≤rows.length∧Hid (a≤p∧p≤b∧Nds wr l (·≠g) p b (rows.drop j)∧Enc l p b often)∧Hid (Upd g g w wr)∧Hid (Blk wr g (arrI L1) 3)∧Hid (L1.length=L.length∧∀ i,L1.getD i 0=if a≤i∧i<p then tmV l i else L.getD i 0)) (fun i _=>rows.length-(intOf i).toNat)
  case atStart=>exact ⟨0,a,L,rfl,Nat.zero_le _,⟨Nat.le_refl _,by omega,HD.out,HE.out⟩,Upd.refl _ _ _,HB.out,rfl,fun i=>by rw [if_neg (by omega)]⟩
  case round=>
    obtain ⟨j,p,L1,rfl,hj,HS,HU,HB1,HL1⟩:=hrel
    by_cases hjl:j<rows.length
    · obtain ⟨hap,hpb,hnd,hen⟩:=HS.out
      have hdr:rows.drop j=rows.getD j default :: rows.drop (j+1):=by
        rw [List.drop_eq_getElem_cons hjl];simp [hjl]
      rw [hdr] at hnd
      obtain ⟨ad,rfl,c0,c1,c2,c3,c4⟩:=row_vn (row_updG HR.out HU.out HRo.out) hjl
      obtain ⟨y,hy⟩:∃ y,y=rows.getD j default:=⟨_,rfl⟩
      rw [←hy] at hnd c0 c1 c2 c3 c4
      have hjl2:(j:Int) < rows.length:=by omega
      have hwj:IntKind.i64.wrap ((j:Int)+1)=((j+1:Nat):Int):=IntWalk.i64_in _ (by omega)
      have hlL:=HLl.out
      have hl1:=HL1.out.1
      have l0:=cell_lt c0
      have lg:=HB1.out.lt
      clear hy hdr
      obtain ⟨hya,hpl,hpb2⟩:=nds_at hnd
      obtain ⟨ya,yl,ye,yf,yfn,yfc,ys,ysn,ysc⟩:=y
      dsimp only at hya c0 c1 c2 c3 c4
      subst hya
      rename World=>wo
      have htp:=hen.here hpb2
      have hg0:=arr_cell HB1.out (k:=p) (by omega)
      have hgf:=HB1.out.frozen p
      obtain ⟨w2,hw2⟩:∃ w2,w2=wo.alloc (.cells #[.int .i64 p,.int .i64 yl,.int .i64 ye,.slice yf yfn yfc,.slice ys ysn ysc] 112):=⟨_,rfl⟩
      have HX2:=Lib.hid (show Blk w2 wo.heap.size #[.int .i64 p,.int .i64 yl,.int .i64 ye,.slice yf yfn yfc,.slice ys ysn ysc] 112 by rw [hw2];exact Blk.new _ _ _)
      have HB2:=Lib.hid (show Blk w2 g (arrI L1) 3 by rw [hw2];exact HB1.out.alloc _)
      have HU2:=Lib.hid (show Upd g g wo w2 by rw [hw2];exact (Upd.refl g g wo).alloc _)
      have HW2:=Lib.hid hw2
      have HD2:=Lib.hid hnd
      have HEn:=Lib.hid hen
      have HTp:=Lib.hid htp
      clear hw2 hnd hen htp hg0 hgf
      go_upto_region 3 with fail
      rw [←HW2.out]
      clear c0 c1 c2 c3 c4 l0
      have x0:=HX2.out.cell 0 (v:=.int .i64 p) rfl
      have g0:=arr_cell HB2.out (k:=p) (by omega)
      have f0:=HB2.out.frozen p
      have hpn:(p:Int) < l.length:=by omega
      go_upto_region 4 with fail
      obtain ⟨w3,hw3⟩:∃ w3,w3=w2.setCell ⟨g,p,none⟩ (.int .i64 often):=⟨_,rfl⟩
      have HX3:=Lib.hid (show Blk w3 wo.heap.size #[.int .i64 p,.int .i64 yl,.int .i64 ye,.slice yf yfn yfc,.slice ys ysn ysc] 112 by rw [hw3];exact HX2.out.other (a:=⟨g,p,none⟩) (by show wo.heap.size≠g;omega) _)
      have HB3:=Lib.hid (show Blk w3 g (arrI (L1.set p (tmV l p))) 3 by rw [hw3,HTp.out];exact blk_setI HB2.out _)
      have HU3:=Lib.hid (show Upd g g wo w3 by rw [hw3];exact HU2.out.set p _)
      rw [←hw3]
      clear x0 g0 f0 hw3
      have x2:=HX3.out.cell 2 (v:=.int .i64 ye) rfl
      rcases nds_split HD2.out with ⟨hye,hsg,hnr⟩|⟨en,q,q2,F,S,hye,hm,hfn,hsn,hrF,hlF,hnF,hrS,hlS,hnS,hnr,hpq,hqe,hpq2,hqe2,hel,heb,hsg,hx⟩
      · dsimp only at hye
        subst hye
        have HNr:=Lib.hid hnr
        have HSg:=Lib.hid hsg
        clear hnr hsg
        as_aux_lemma=>
        go_wp2
        refine ⟨⟨j+1,p+1,L1.set p (tmV l p),rfl,hjl,⟨by omega,by omega,(HNr.out.updG HU3.out),HEn.out.next HSg.out⟩,HU.out.trans HU3.out,HB3.out,by rw [List.length_set];exact HL1.out.1,fun i=>?_⟩,by simp [intOf];omega⟩
        rw [getD_setI _ _ _ (by omega),HL1.out.2]
        by_cases e2:i=p
        · subst e2;rw [if_pos rfl,if_pos (by omega)]
        · rw [if_neg e2]
          by_cases e4:a≤i∧i<p
          · rw [if_pos e4,if_pos (by omega)]
          · rw [if_neg e4,if_neg (by omega)]
      · dsimp only at hye hm hfn hsn hrF hlF hrS hlS hx
        subst hye hfn hsn
        have hee:¬ (en:Int) < 0:=by omega
        obtain ⟨inn,hinn⟩:∃ n,n=innV (l.getD p default) often:=⟨_,rfl⟩
        have HBr:=Lib.hid (tm_br (S1:=hnF.seg) (S2:=hnS.seg) HEn.out heb hm hx)
        rw [←hinn] at HBr
        have HInn:=Lib.hid hinn
        have HM:=Lib.hid hm
        have HF:=Lib.hid (And.intro hrF (And.intro hlF hnF))
        have HS2:=Lib.hid (And.intro hrS (And.intro hlS hnS))
        have HNr:=Lib.hid hnr
        have HSg:=Lib.hid hsg
        have HXx:=Lib.hid hx
        clear hm hrF hlF hnF hrS hlS hnS hnr hsg hx hinn
        have hop:insnV false (l.getD p default)=true:=List.all_eq_true.1 HAll.out _ (getD_mem _ hpl)
        obtain ⟨ca,hca,o0,o1,o2⟩:=row_in (row_updG (HCo.out) (HU.out.trans HU3.out) (HC.out (by omega))) hpl
        subst hca
        obtain ⟨i,hi⟩:∃ i,i=l.getD p default:=⟨_,rfl⟩
        have HI0:=Lib.hid hi
        rw [←hi] at o0 o1 o2 hop HInn
        clear hi
        obtain ⟨op,ia,ib⟩:=i
        dsimp only at o0 o1 o2
        clear o2
        have hpl2:(p:Int) < l.length:=by omega
        have x0:=HX3.out.cell 0 (v:=.int .i64 p) rfl
        go_upto_region 6 with fail
        by_cases h30:op=30
        all_goals first
          | (subst h30
             have hia:=loop_bd hop rfl
             have hin:inn=mulV often ia:=by rw [HInn.out,mulV_comm];rfl
             have HMu:=Lib.hid (fun w=>multiply_gen often ia w (mul_rng HBo.out hia.1 hia.2).1 (mul_rng HBo.out hia.1 hia.2).2)
             rw [←hin] at HMu
             have hbi:=Lib.hid (show Bd inn by rw [hin,mulV_comm];exact mulV_bd hia.1 HBo.out)
             clear hin hia
             go_upto_region 8 with (go_at_call 77;refine (HMu.out _).mono ?_;rintro e w4 ⟨rfl,hb4⟩;have HB4:=Lib.hid hb4;clear hb4 o0 o1 x0 x2))
          | (have e9:inn=often:=by rw [HInn.out];unfold innV;rw [if_neg h30]
             subst e9
             have hbi:=HBo
             go_upto_region 8 with fail
             obtain ⟨w4,hw4⟩:∃ w4,w4=w3:=⟨_,rfl⟩
             have HB4:=Lib.hid (show Below w3.heap.size w3 w4 by rw [hw4];exact bE)
             rw [←hw4]
             clear o0 o1 x0 x2 hw4)
        all_goals
          have hen2:(en:Int) < l.length:=by omega
          have hsl:(L1.set p (tmV l p)).length=L.length:=by rw [List.length_set];exact hl1
          have HX4:=Lib.hid (HX3.out.old HB4.out)
          have HA4:=Lib.hid (HB3.out.old HB4.out)
          have x2:=HX4.out.cell 2 (v:=.int .i64 en) rfl
          have g0:=arr_cell HA4.out (k:=en) (by omega)
          have f0:=HA4.out.frozen en
          go_upto_region 9 with fail
          obtain ⟨w5,hw5⟩:∃ w5,w5=w4.setCell ⟨g,en,none⟩ (.int .i64 inn):=⟨_,rfl⟩
          have HX5:=Lib.hid (show Blk w5 wo.heap.size #[.int .i64 p,.int .i64 yl,.int .i64 en,.slice yf F.length yfc,.slice ys S.length ysc] 112 by rw [hw5];exact HX4.out.other (a:=⟨g,en,none⟩) (by show wo.heap.size≠g;omega) _)
          have HA5:=Lib.hid (show Blk w5 g (arrI ((L1.set p (tmV l p)).set en (tmV l en))) 3 by rw [hw5,HBr.out.2.2.1];exact blk_setI HA4.out _)
          have HU5:=Lib.hid (show Upd g g wo w5 by rw [hw5];exact (HU3.out.bel HB4.out).set en _)
          rw [←hw5]
          clear x2 g0 f0 hw5
          have x1:=HX5.out.cell 1 (v:=.int .i64 yl) rfl
          have hqi:∀ L5 L6:List Int,_→_→∀ i,_:=fun L5 L6=>tm_arr (l:=l) (L:=L) (L1:=L1) (L5:=L5) (L6:=L6) (a:=a) (p:=p) (en:=en) (q:=q) (q2:=q2) (alt:=yl) (by omega) (by omega) HL1.out.2 hap HXx.out hpq
          have HQi:=Lib.hid hqi
          clear hqi
          have hyc:yl=q∧q<en∨yl=-1:=HXx.out.elim (fun q=>.inr q.1) (fun q=>.inl ⟨q.1,q.2.2⟩)
          obtain ⟨L4,hl4⟩:∃ L4,L4=if 0≤yl then ((L1.set p (tmV l p)).set en (tmV l en)).set q (tmV l q) else (L1.set p (tmV l p)).set en (tmV l en):=⟨_,rfl⟩
          rw [←hl4] at HQi
          have HL4:=Lib.hid hl4
          have hl4n:L4.length=L.length:=by rw [hl4];split<;>simp [hl1]
          clear hl4
          rcases hyc with ⟨rfl,hqe3⟩|rfl
        all_goals first
          | (have hq2:(q:Int) < l.length:=by omega
             have hgl:((L1.set p (tmV l p)).set en (tmV l en)).length=L.length:=by simp [hl1]
             have g0:=arr_cell HA5.out (k:=q) (by omega)
             have f0:=HA5.out.frozen q
             go_upto_region 11 with fail
             obtain ⟨w6,hw6⟩:∃ w6,w6=w5.setCell ⟨g,q,none⟩ (.int .i64 (tmV l q)):=⟨_,rfl⟩
             have HX6:=Lib.hid (show Blk w6 wo.heap.size #[.int .i64 p,.int .i64 q,.int .i64 en,.slice yf F.length yfc,.slice ys S.length ysc] 112 by rw [hw6];exact HX5.out.other (a:=⟨g,q,none⟩) (by show wo.heap.size≠g;omega) _)
             have HA6:=Lib.hid (show Blk w6 g (arrI L4) 3 by rw [hw6,HL4.out,if_pos (by omega)];exact blk_setI HA5.out _)
             have HU6:=Lib.hid (show Upd g g wo w6 by rw [hw6];exact HU5.out.set q _)
             rw [HBr.out.2.2.2 rfl] at hw6
             rw [←hw6]
             clear g0 f0 hw6 x1 hq2)
          | (go_upto_region 11 with fail
             have HX6:=HX5
             have HA6:=Lib.hid (show Blk w5 g (arrI L4) 3 by rw [HL4.out,if_neg (by omega)];exact HA5.out)
             have HU6:=HU5
             obtain ⟨w6,hw6⟩:∃ w6,w6=w5:=⟨_,rfl⟩
             rw [←hw6] at HX6 HA6 HU6 ⊢
             clear hw6 x1)
        all_goals
          have x3:=HX6.out.cell 3 (v:=.slice yf F.length yfc) rfl
          have hT:=HI.out (p+1) q (by omega) (by omega) w6 yf yfc F L4 inn (row_updG HCo.out (HU.out.trans HU6.out) (HC.out (by omega))) (row_updG HF.out.1 HU6.out HF.out.2.1) HF.out.2.1 (HF.out.2.2.updG HU6.out) HA6.out (hl4n.trans hlL) hbi HBr.out.1
          have HT:=Lib.hid hT
          clear hT
          go_upto_region 12 with (go_at_call 43;refine HT.out.mono ?_;rintro e w7 ⟨v7,L5,rfl,hu7,hb7,hl5,hq5⟩;have HU7:=Lib.hid (HU6.out.trans hu7);have HA7:=Lib.hid hb7;have HL5:=Lib.hid (And.intro hl5 hq5);have HX7:=Lib.hid (show Blk w7 wo.heap.size #[.int .i64 p,.int .i64 _,.int .i64 en,.slice yf F.length yfc,.slice ys S.length ysc] 112 from (hu7.block _ HX6.out.lt (by omega) (by omega)).trans HX6.out);clear hu7 hb7 hl5 hq5 x3)
          have hl5n:L5.length=L.length:=HL5.out.1.trans hl4n
          have hT:=HI.out q2 en (by omega) (by omega) w7 ys ysc S L5 inn (row_updG HCo.out (HU.out.trans HU7.out) (HC.out (by omega))) (row_updG HS2.out.1 HU7.out HS2.out.2.1) HS2.out.2.1 (HS2.out.2.2.updG HU7.out) HA7.out (hl5n.trans hlL) hbi HBr.out.2.1
          have HT:=Lib.hid hT
          clear hT
          have x4:=HX7.out.cell 4 (v:=.slice ys S.length ysc) rfl
          go_wp2_with (go_at_call 43;refine HT.out.mono ?_;rintro e w8 ⟨v8,L6,rfl,hu8,hb8,hl6,hq6⟩;have HU8:=Lib.hid (HU7.out.trans hu8);have HA8:=Lib.hid hb8;have HL6:=Lib.hid (And.intro hl6 hq6);clear hu8 hb8 hl6 hq6 x4)
          exact ⟨⟨j+1,en+1,L6,rfl,hjl,⟨by omega,by omega,HNr.out.updG HU8.out,HEn.out.next HSg.out⟩,HU.out.trans HU8.out,HA8.out,HL6.out.1.trans hl5n,HQi.out L5 L6 HL5.out.2 HL6.out.2⟩,by simp [intOf];omega⟩
    · obtain rfl:j=rows.length:=by omega
      have hj5:¬ (rows.length:Int) < rows.length:=by omega
      go_wp2
      go_end0
      obtain ⟨h1,h2,hnd,-⟩:=HS.out
      rw [List.drop_eq_nil_iff.2 (Nat.le_refl _)] at hnd
      cases hnd with
      | nil _ _=>exact ⟨_,L1,rfl,HU.out,HB1.out,HL1.out.1,HL1.out.2⟩
theorem times_any {l:List In3} (ao:Option Addr) (cap g:Nat) (hc:0<l.length→Lie (·≠g) ao) (hv:codeE false l=0):∀ n a b:Nat,b-a≤n→TimesC l ao cap g a b
 | 0,a,b,hn=>times_of l ao cap g a b hc hv fun a' b' h1 h2=>by
  have:∀ a b:Nat,b<a→TimesC l ao cap g a b:=fun a b h w ro rc rows L often h1 h2 h3 h4=>by have:=h4.le;omega
  exact this _ _ (by omega)
 | n+1,a,b,hn=>times_of l ao cap g a b hc hv fun a' b' h1 h2=>times_any ao cap g hc hv n a' b' (by omega)
end
section
open Go.RowKit
theorem arrI_row {w:World}{g:Nat}{L:List Int}{t:TypeId} (h:Blk w g (arrI L) t):RowAt w (some ⟨g,0,none⟩) L.length L:=by
 have hf:flatR L=L.map (Value.int .i64):=by
  clear h
  induction L with
  | nil=>rfl
  | cons x r ih=>show Value.int .i64 x :: flatR r=_;rw [ih];rfl
 refine ⟨flatR_length _,(fun e=>by cases e),fun j u hu=>⟨_,rfl,?_⟩⟩
 have hj:(0:Nat)+j=j:=Nat.zero_add j
 show w.cell? ((⟨g,0,none⟩:Addr).add j)=some u
 rw [hf] at hu
 have:((⟨g,0,none⟩:Addr).add j)=⟨g,j,none⟩:=by
  unfold Addr.add
  split
  ·rename_i h0;rw [h0]
  ·simp
 rw [this]
 exact h.cell j (by simpa [arrI] using hu)
def Fnd (L:List Int) (v:Int) (W:World):Ending→World→Prop:=fun e w'=>(∃ n:Int,e=.returned (.int .i64 n)∧(0≤n↔v∈L))∧Below W.heap.size W w'
section
variable (L:List Int)(ao:Option Addr)(cap:Nat)(v:Int)(w:World)(hr:RowAt w ao cap L)(hl:L.length≤4096)
include L ao cap v w hr hl
theorem sindex_any:Calls Tryz.prog 80 #[.slice ao L.length cap,.int .i64 v] w (Fnd L v w):=by
 have HR:=Lib.hid hr
 clear hr
 go_enter Tryz.func80,Tryz.ntmps80
 go_wp2
 go_loopw [8] (fun i wr=>∃ k:Nat,k≤L.length∧i=.int .i64 k∧Hid (Below w.heap.size w wr)∧Hid (∀ j,j<k→L.getD j 0≠v)) (fun i _=>L.length-(intOf i).toNat)
 case atStart=>exact ⟨0,Nat.zero_le _,rfl,by exact bE,fun j h=>by omega⟩
 case round=>
  obtain ⟨k,hk,rfl,HB,HN⟩:=hrel
  by_cases hkl:k<L.length
  ·obtain ⟨ad,rfl,c0⟩:=row_int (HR.out.old HB.out) hkl
   have hkl2:(k:Int) < L.length:=by omega
   have hwk:IntKind.i64.wrap ((k:Int)+1)=((k+1:Nat):Int):=IntWalk.i64_in _ (by omega)
   obtain ⟨x,hx⟩:∃ x,x=L.getD k 0:=⟨_,rfl⟩
   rw [←hx] at c0
   have HX:=Lib.hid hx
   clear hx
   by_cases he:v=x
   ·subst he
    go_wp2
    go_ret
    refine ⟨⟨k,rfl,fun _=>?_,fun _=>by omega⟩,HB.out⟩
    rw [HX.out]
    have:L.getD k 0=L[k]:=by simp [hkl]
    rw [this]
    exact List.getElem_mem _
   ·go_wp2
    exact ⟨⟨k+1,by omega,rfl,HB.out,fun j hj e=>by
     by_cases h2:j=k
     ·subst h2;rw [←HX.out] at e;exact he e.symm
     ·exact HN.out j (by omega) e⟩,by simp [intOf];omega⟩
  ·obtain rfl:k=L.length:=by omega
   have hj5:¬ (L.length:Int) < L.length:=by omega
   go_wp2
   go_ret
   refine ⟨⟨-1,rfl,fun h=>by omega,fun hm=>?_⟩,HB.out⟩
   obtain ⟨j,hj,e⟩:=List.getElem_of_mem hm
   exact absurd (show L.getD j 0=v by simp [hj,e]) (HN.out j hj)
theorem scontains_any:Calls Tryz.prog 45 #[.slice ao L.length cap,.int .i64 v] w (Ret w (.bool (decide (v∈L)))):=by
 have HR:=Lib.hid hr
 clear hr
 go_enter Tryz.func45,Tryz.ntmps45
 go_wp2_with (go_at_call 80;refine (sindex_any L ao cap v _ HR.out hl).mono ?_;rintro e w1 ⟨⟨n,rfl,hn⟩,hb⟩)
 go_ret
 exact ret_ok rfl hb
end
def timesL (l:List In3):List Int:=(List.range l.length).map (tmV l)
def timesE (m:Md) (k:Int):List Int × Int:=if readyV m k=true then (if hugeV∈timesL (cdM m k.toNat) then ([],6) else (timesL (cdM m k.toNat),0)) else ([],1)
theorem timesL_of {l:List In3}{L:List Int} (hn:L.length=l.length) (h:∀ i,L.getD i 0=if 0≤i∧i<l.length then tmV l i else 0):L=timesL l:=by
 refine List.ext_getElem (by simp [timesL,hn]) fun i h1 h2=>?_
 have:=h i
 rw [if_pos (by omega)] at this
 simp [timesL,←this,h1]
theorem btimes_any (m:Md) (h:Hd) (k:Int) (w:World) (H:ModAt w h m):Calls Tryz.prog 13 #[.agg #[.slice h.co m.cl.length h.cc,.slice h.so m.st.length h.sc,.slice h.eo m.me.length h.ec,.int .i64 m.sel],.int .i64 k] w (RetRow2N w (timesE m k).1 (timesE m k).2):=by
 have hb0:Below w.heap.size w (w.alloc (.cells #[.slice h.co m.cl.length h.cc,.slice h.so m.st.length h.sc,.slice h.eo m.me.length h.ec,.int .i64 m.sel] 26)):=by exact bE
 have HA:=Lib.hid (basked_any m h k _ (H.old hb0))
 have HB0:=Lib.hid hb0
 have HX0:=Lib.hid (Blk.new w #[.slice h.co m.cl.length h.cc,.slice h.so m.st.length h.sc,.slice h.eo m.me.length h.ec,.int .i64 m.sel] 26)
 have HH:=Lib.hid H
 rcases hq:readyV m k with _|_
 · rw [hq] at HA
   have e1:timesE m k=([],1):=by unfold timesE;rw [hq];rfl
   rw [e1]
   clear hb0 H hq e1
   go_enter Tryz.func13,Tryz.ntmps13
   go_wp2_with (go_at_call 42;refine HA.out.mono ?_;rintro e w1 ⟨rfl,hb1⟩)
   go_ret2
   exact ⟨⟨none,0,rfl,RowAt.nil _,fun _ e=>by cases e⟩,bthen HB0.out hb1⟩
 · rw [hq] at HA
   obtain ⟨hm,hk0,hk1⟩:=readyV_yes hq
   obtain ⟨k,rfl⟩:∃ d:Nat,k=d:=⟨k.toNat,by omega⟩
   have hkl:k<m.me.length:=by omega
   have e1:timesE m k=if hugeV∈timesL (cdM m k) then ([],6) else (timesL (cdM m k),0):=by unfold timesE;rw [hq,if_pos rfl,Int.toNat_natCast]
   obtain ⟨⟨r1,r2⟩,hz⟩:∃ z,z=timesE m k:=⟨_,rfl⟩
   rw [←hz]
   have HZ:=Lib.hid (hz.trans e1)
   clear e1 hz
   have hcv:codeE false (cdM m k)=0:=(cost_wkr hm w).code hkl
   have hcl:(cdM m k).length≤120:=(mth_ok hm hkl).z.2.2
   have hsg:=seg_of (mth_ok hm hkl).n
   have HP:=Lib.hid (fun w' hb=>bparts_any (cdM m k) (h.e k).ko (h.e k).kc hcv (cdM m k).length 0 (cdM m k).length w' (by omega) (RowAt.old (H.k k hkl) (w':=w') hb) hsg)
   obtain ⟨ea,he,-,-,-,-,-,-,e6⟩:=H.mth hkl
   rw [show (m.me.getD k default).k.length=(cdM m k).length from rfl] at e6
   have HE6:=Lib.hid e6
   have HEa:=Lib.hid he
   have hkl2:(k:Int) < m.me.length:=by omega
   have hmk:=run_make_row' (P:=Tryz.prog) 29 3 (.int .i64 0) 8 Tryz.underlying29 (by kernel_rfl) rfl .i64 .i64 (cdM m k).length (by omega) (by omega)
   rw [made_repV] at hmk
   have hko:=H.k k hkl
   have HKo:=Lib.hid hko
   have hkb:0<(cdM m k).length→Lie (· < w.heap.size) (h.e k).ko:=fun h0 ad e=>by
     obtain ⟨ad',e',c0,_⟩:=row_in (l:=cdM m k) hko (i:=0) h0
     rw [e] at e'
     cases e'
     have:=cell_lt c0
     rwa [add_block] at this
   have HCv:=Lib.hid hcv
   clear hb0 H hq hm hsg e6 he hko hcv
   go_enter Tryz.func13,Tryz.ntmps13
   go_upto_region 4 with (go_at_call 42;refine HA.out.mono ?_;rintro e w1 ⟨rfl,hb1⟩;have HB1:=Lib.hid (bthen HB0.out hb1);have HX1:=Lib.hid (HX0.out.old hb1);clear hb1)
   have x2:=HX1.out.cell 2 (v:=.slice h.eo m.me.length h.ec) rfl
   rw [HEa.out] at x2
   have e6:=(HB1.out.cell (cell_lt HE6.out)).trans HE6.out
   go_upto_region 5 with fail
   clear x2 e6
   go_upto_region 6 with fail
   clear hmk
   obtain ⟨g,hg⟩:∃ g,g=w1.heap.size:=⟨_,rfl⟩
   obtain ⟨w2,hw2⟩:∃ w2,w2=w1.alloc (Obj.cells (Array.replicate (cdM m k).length (Value.int IntKind.i64 0)) 3):=⟨_,rfl⟩
   have HA2:=Lib.hid (show Blk w2 g (arrI (List.replicate (cdM m k).length 0)) 3 by rw [hw2,hg];have:=Blk.new w1 (Array.replicate (cdM m k).length (Value.int IntKind.i64 0)) 3;unfold arrI;rw [List.map_replicate,List.toArray_replicate];exact this)
   have HB2:=Lib.hid (show Below w.heap.size w w2 by rw [hw2];exact bal HB1.out _)
   have HG:=Lib.hid (show w.heap.size≤g∧g<w2.heap.size by rw [hw2,hg];exact ⟨HB1.out.size,by simp⟩)
   rw [←hw2,←hg]
   clear hg hw2
   go_upto_region 7 with (first
     | (go_at_call 44;refine (HP.out _ HB2.out).mono ?_;rintro e w3 ⟨ro,rc,rows,rfl,hown,hnd,hb3⟩;have HB3:=Lib.hid (bthen HB2.out hb3);have HA3:=Lib.hid (HA2.out.old hb3)
        have HR3:=Lib.hid (And.intro (RowAt.of_own hown) (And.intro (show Lie (·≠g) ro from fun ad e=>by have:=own_lie hown ad e;have:=HG.out;omega) (hnd.weak (Q:=(·≠g)) fun j hj=>by have:=HG.out;omega)));clear hown hnd hb3)
     | (go_at_call 43
        refine (times_any (h.e k).ko (h.e k).kc g (fun h0 ad e=>by have:=hkb h0 ad e;have:=HG.out;omega) HCv.out _ 0 (cdM m k).length (Nat.le_refl _) w3 ro rc rows (List.replicate (cdM m k).length 0) 1 (HKo.out.old HB3.out) HR3.out.1 HR3.out.2.1 HR3.out.2.2 HA3.out (by simp) (by unfold Bd;omega) (enc_all _ _)).mono ?_
        rintro e w4 ⟨v4,L,rfl,hu4,hb4,hl4,hq4⟩
        have HB4:=Lib.hid (hu4.below HB3.out (Nat.le_refl _) HG.out.1 HG.out.1)
        have HL:=Lib.hid (timesL_of (l:=cdM m k) (L:=L) (by simpa using hl4) fun i=>by rw [hq4];split<;>first|rfl|(simp [List.getD_eq_getElem?_getD,List.getElem?_replicate];split<;>rfl))
        have HA4:=Lib.hid hb4
        clear hu4 hb4 hl4 hq4))
   have hL:=HL.out
   have hLl:L.length=(cdM m k).length:=by rw [hL];simp [timesL]
   have HR4:=Lib.hid (arrI_row HA4.out)
   rw [hLl] at HR4
   have hC:=fun w' (hb:Below w4.heap.size w4 w')=>scontains_any L (some ⟨g,0,none⟩) L.length 1000000001 w' (RowAt.old (arrI_row HA4.out) hb) (by omega)
   rw [hLl] at hC
   have HC:=Lib.hid hC
   have HLl:=Lib.hid hLl
   clear hL hC hLl
   by_cases hin:hugeV∈L
   · obtain ⟨rfl,rfl⟩:=Prod.mk.inj (HZ.out.trans (by rw [←HL.out,if_pos hin]))
     have hin2:(1000000001:Int)∈L:=hin
     go_wp2_with (go_at_call 45;refine (HC.out _ (Below.refl _ _)).mono ?_;rintro e w5 ⟨rfl,hb5⟩;rw [decide_eq_true hin2])
     go_ret2
     exact ⟨⟨none,0,rfl,RowAt.nil _,fun _ e=>by cases e⟩,bthen HB4.out hb5⟩
   · obtain ⟨e1,e2⟩:=Prod.mk.inj (HZ.out.trans (by rw [←HL.out,if_neg hin]))
     subst e2
     have HE1:=Lib.hid e1
     clear e1
     have hin2:¬ (1000000001:Int)∈L:=hin
     go_wp2_with (go_at_call 45;refine (HC.out _ (Below.refl _ _)).mono ?_;rintro e w5 ⟨rfl,hb5⟩;rw [decide_eq_false hin2])
     go_ret2
     rw [HE1.out]
     exact ⟨⟨some ⟨g,0,none⟩,L.length,by rw [HLl.out];rfl,RowAt.old (arrI_row HA4.out) hb5,fun a e=>by cases e;exact HG.out.1⟩,bthen HB4.out hb5⟩
end
section
open Go.RowKit
structure RT (w:World) (B g:Nat) (h:Hd) (m:Md) (bv:Int) (l:Bool) (L:List Int):Prop where
 tb:Blk w B #[.slice h.co m.cl.length h.cc,.slice h.so m.st.length h.sc,.slice h.eo m.me.length h.ec,.int .i64 m.sel,.int .i64 bv,.bool l,.slice (some ⟨g,0,none⟩) m.me.length m.me.length] 90
 nb:Blk w g (arrI L) 3
 md:ModAt w h m
 ln:L.length=m.me.length
theorem RT.old {w w':World}{B g:Nat}{h:Hd}{m:Md}{bv:Int}{l:Bool}{L:List Int} (H:RT w B g h m bv l L) (hb:Below w.heap.size w w'):RT w' B g h m bv l L:=⟨H.tb.old hb,H.nb.old hb,H.md.old hb,H.ln⟩
def tlV (bv:Int):Int:=if bv=0 then 1 else 0
def scV (bv:Int):Bool:=decide (bv≠0)&&decide (bv≠4)
def OwnC (bv:Int) (m:Md) (x:Ms) (c:List In3):Prop:=∀ i∈c,∀ w h,ModAt w h m→Calls Tryz.prog 116 #[.agg #[.slice h.co m.cl.length h.cc,.slice h.so m.st.length h.sc,.slice h.eo m.me.length h.ec,.int .i64 m.sel],.agg #[.int .i64 i.op,.int .i64 i.a,.int .i64 i.b],.int .i64 bv] w (Ret w (.int .i64 (x.wt i)))
theorem lesserR_bl {a b:Int} (ha:Bl a) (hb:Bl b):Bl (lesserR a b):=lesserR_light ha hb▸lightV_bl ha hb
end
section
open Go.RowKit
def numT (L:List Int):Int→Int:=fun t=>L.getD t.toNat 0
end
section
open Go.RowKit
def Pl (l:Bool) (n:Int):Prop:=(l=false→0≤n)∧Bl n
theorem Pl.of {l:Bool}{n:Int} (h:Bd n):Pl l n:=⟨fun _=>h.1,Bl.of h⟩
theorem plusR_pl {l:Bool}{a b:Int} (ha:Pl l a) (hb:Pl l b):Pl l (plusR a b):=by
 refine ⟨fun q=>?_,plusR_bl ha.2 hb.2⟩
 have:=ha.1 q
 have:=hb.1 q
 unfold plusR addV hugeV
 rw [if_neg (by omega)]
 omega
theorem addV_pl {l:Bool}{a b:Int} (ha:Bd a) (hb:Bd b):Pl l (addV a b):=Pl.of (addV_bd ha hb)
theorem bestR_pl {l:Bool}{a n:Int} (ha:Bl a) (hn:Pl l n):Bl (bestR l a n):=by
 unfold bestR Pl Bl at *
 repeat' split
 all_goals omega
theorem bestR_nn {a n:Int} (hn:0≤n):0≤bestR false a n:=by
 unfold bestR
 repeat' split
 all_goals simp_all
 all_goals omega
theorem fold_pl {l:Bool}{T:Int→Int}:∀ (ts:List Int) (a:Int),Bl a→(∀ t∈ts,Pl l (T t))→Bl (ts.foldl (fun a t=>bestR l a (T t)) a)∧(l=false→(ts≠[]∨0≤a)→0≤ts.foldl (fun a t=>bestR l a (T t)) a)
 | [],a,ha,_=>⟨ha,fun _ q=>by rcases q with q|q;exact absurd rfl q;exact q⟩
 | t :: ts,a,ha,h=>by
  have h1:=h t (by simp)
  obtain ⟨q1,q2⟩:=fold_pl ts (bestR l a (T t)) (bestR_pl ha h1) fun u hu=>h u (by simp [hu])
  refine ⟨q1,fun e _=>q2 e (.inr ?_)⟩
  subst e
  exact bestR_nn (h1.1 rfl)
structure RCx (bv:Int) (x:Ms) (l:Bool) (m:Md) (k:Nat) (L:List Int):Prop where
 hm:modV m=true
 hk:k<m.me.length
 sd:SendV m (cdM m k)
 ow:OwnC bv m x (cdM m k)
 wt:∀ i∈cdM m k,0≤x.wt i∧x.wt i≤1000
 tl:x.tl=tlV bv
 sc:x.sc=scV bv
 nu:∀ t,Pl l (numT L t)
section
variable {bv:Int}{x:Ms}{l:Bool}{m:Md}{k:Nat}{L:List Int} (H:RCx bv x l m k L)
include H
theorem RCx.ok:MthOk m k:=mth_ok H.hm H.hk
theorem RCx.code:codeE false (cdM m k)=0:=(cost_wkr H.hm default).code H.hk
theorem RCx.opd {i:In3} (hi:i∈cdM m k):OpdOk m k i:=opd_ok (H.ok.i i hi).1 (H.ok.i i hi).2
theorem RCx.called {i:In3} (hi:i∈cdM m k):Pl l (calledR l m (numT L) i):=by
 unfold calledR
 split
 ·exact H.nu _
 ·split
  ·exact Pl.of (by unfold Bd;omega)
  ·rename_i h26
   obtain ⟨q1,q2⟩:=fold_pl (l:=l) (T:=numT L) (tgtV m i.a) (-1) (by unfold Bl;omega) fun t _=>H.nu t
   exact ⟨fun e=>q2 e (.inl (H.sd i hi (by omega))),q1⟩
theorem RCx.tlb:0≤x.tl∧x.tl≤1000:=by rw [H.tl];unfold tlV;split<;>omega
theorem RCx.pl {i:In3} (hi:i∈cdM m k):Pl l ((gR l x m (numT L)).pl i):=by
 have hc:=H.called hi
 have hw:=H.wt i hi
 show Pl l (if l=true∧i.op=28 then (-1:Int) else if calledR l m (numT L) i=-1 then (-1:Int) else addV (x.wt i) (calledR l m (numT L) i))
 generalize calledR l m (numT L) i=c at *
 cases l with
 | true=>
  refine ⟨(fun q=>by cases q),?_⟩
  have:=hc.2
  unfold Bl addV hugeV at *
  repeat' split
  all_goals omega
 | false=>
  have h1:=hc.1 rfl
  have h2:=hc.2
  unfold Bl at h2
  rw [if_neg (fun q=>by cases q.1),if_neg (by omega)]
  exact addV_pl (by unfold Bd;omega) (by unfold Bd;omega)
theorem RCx.brk {i:In3} (hi:i∈cdM m k) {f s:Int} (hf:Pl l f) (hs:Pl l s):Pl l ((gR l x m (numT L)).brk i f s):=by
 have hw:=H.wt i hi
 have ht:=H.tlb
 have ho:Pl l (x.wt i):=Pl.of (by unfold Bd;omega)
 have htp:Pl l x.tl:=Pl.of (by unfold Bd;omega)
 have hob:Bd (x.wt i):=by unfold Bd;omega
 have htb:Bd x.tl:=by unfold Bd;omega
 show Pl l (brkR l x.sc i f s (x.wt i) x.tl)
 unfold brkR
 cases l with
 | true=>
  simp only [if_true]
  have hb:∀ n,Bl n→Pl true n:=fun n h=>⟨(fun q=>by cases q),h⟩
  have h1:=plusR_bl ho.2 (lesserR_bl (plusR_bl hf.2 htp.2) (plusR_bl hs.2 htp.2))
  have h2:=plusR_bl ho.2 (plusR_bl hf.2 htp.2)
  repeat' split
  all_goals first|exact hb _ h1|exact hb _ h2|exact ho|exact Pl.of (by unfold Bd;omega)
 | false=>
  simp only [Bool.false_eq_true,if_false]
  have hfb:Bd f:=⟨hf.1 rfl,hf.2.2⟩
  have hsb:Bd s:=⟨hs.1 rfl,hs.2.2⟩
  have hmx:Pl false (max (plusR f x.tl) (plusR s x.tl)):=by
   rw [plusR_add hfb htb,plusR_add hsb htb];exact Pl.of (max_bd (addV_bd hfb htb) (addV_bd hsb htb))
  by_cases h29:i.op=29
  ·rw [if_pos h29];exact plusR_pl ho hmx
  ·rw [if_neg h29]
   by_cases h30:i.op=30
   ·rw [if_pos h30];exact addV_pl hob (mulV_bd ((H.opd hi).a0 (by omega)) (addV_bd hfb htb))
   ·rw [if_neg h30]
    split
    ·exact Pl.of (by unfold Bd;omega)
    ·split
     ·exact addV_pl (addV_bd hob (addV_bd hfb htb)) hsb
     ·exact plusR_pl ho (plusR_pl hf htp)
theorem RCx.wa {a b:Nat} (hs:Seg (cdM m k) a b) {acc:Int} (ha:Pl l acc):Pl l (WA (gR l x m (numT L)) (cdM m k) a b acc):=
 (WA_same (g:=gR l x m (numT L)) (g':=gR l x m (numT L)) hs (Pl.of (by unfold Bd;omega)) (fun _ _ h1 h2=>⟨rfl,plusR_pl h1 h2⟩) (fun i hi=>⟨rfl,H.pl hi⟩) (fun i hi f s hf hs=>⟨rfl,H.brk hi hf hs⟩) acc ha).2
end
end
section
open Go.RowKit
abbrev GR (x:Ms) (l:Bool) (m:Md) (L:List Int):Wg:=gR l x m (numT L)
end
section
open Go.RowKit
theorem RCx.one {bv:Int}{x:Ms}{l:Bool}{m:Md}{k:Nat}{L:List Int} (X:RCx bv x l m k L) {p b:Nat} (hs:Seg (cdM m k) p b) (hp:p<b):Pl l (oneV (GR x l m L) (cdM m k) p).1:=by
 have hm:∀ k',k' < (cdM m k).length→(cdM m k).getD k' default∈cdM m k:=fun k' hk=>getD_mem _ hk
 have h0:Pl l 0:=Pl.of (by unfold Bd;omega)
 have hpl:p<(cdM m k).length:=by have:=(seg_le hs).2;omega
 rcases seg_cases hs with e|⟨_,h2,h3,h4,h5⟩|⟨en,h1,h2,h3,h4,h5⟩|⟨n,en,h1,h2,h3,h4,h5,h6,h7⟩
 ·omega
 ·unfold oneV
  rw [if_neg (by rw [h2];decide)]
  exact X.pl (hm p hpl)
 ·unfold oneV
  rw [if_pos (show _=true from h1.2.1),mt_of h1]
  exact X.brk (hm p hpl) (X.wa h4 h0) h0
 ·unfold oneV
  rw [if_pos (show _=true from h1.2.1),mt_of h1]
  dsimp only
  rw [if_neg (by omega),if_neg (by omega),Int.toNat_natCast]
  exact X.brk (hm p hpl) (X.wa h5 h0) (X.wa h6 h0)
end
section
open Go.RowKit
structure MCx (bv:Int) (x:Ms) (m:Md):Prop where
 hm:modV m=true
 sd:∀ k,k<m.me.length→SendV m (cdM m k)
 ow:∀ k,k<m.me.length→OwnC bv m x (cdM m k)
 wt:∀ k,k<m.me.length→∀ i∈cdM m k,0≤x.wt i∧x.wt i≤1000
 tl:x.tl=tlV bv
 sc:x.sc=scV bv
theorem MCx.at {bv:Int}{x:Ms}{m:Md} (X:MCx bv x m) {l:Bool}{k:Nat}{L:List Int} (hk:k<m.me.length) (hn:∀ t,Pl l (numT L t)):RCx bv x l m k L:=⟨X.hm,hk,X.sd k hk,X.ow k hk,X.wt k hk,X.tl,X.sc,hn⟩
end
section
open Go.RowKit
theorem ready_mod {m:Md}{k:Int} (h:readyV m k=true):(moduleV m).2.2=0:=by
 unfold readyV at h
 simp only [Bool.and_eq_true,decide_eq_true_eq] at h
 exact h.1
section
variable (m:Md) (h:Hd) (k:Int) (w:World) (H:ModAt w h m)
include H
end
end
section
open Go.RowKit
theorem tmS_bd {l:List In3}{i k:Nat}{acc:Int} (ha:(l.getD k default).op=30→0≤(l.getD k default).a) (h:Bd acc):Bd (tmS l i acc k):=by
 unfold tmS
 split
 ·exact mulV_bd (ha (by omega)) h
 ·exact h
theorem tmB_bd {l:List In3} (ha:∀ k,k<l.length→(l.getD k default).op=30→0≤(l.getD k default).a) (i:Nat):∀ a,a≤l.length→Bd (tmB l a i)
 | 0,_=>by unfold tmB Bd;simp
 | a+1,h=>by rw [tmB_succ];exact tmS_bd (ha a (by omega)) (tmB_bd ha i a (by omega))
end
end Go.Proofs.YtfkbfjhocmbneaaGreat
