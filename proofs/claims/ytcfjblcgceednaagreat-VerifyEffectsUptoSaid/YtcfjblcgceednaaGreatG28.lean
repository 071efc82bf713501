/- bound.times: how often, noted in an array. -/
import Derived.Test.YtcfjblcgceednaaGreatG22
import Derived.Test.YtcfjblcgceednaaGreatG27
set_option linter.all false
set_option linter.unusedVariables false
set_option linter.unusedSimpArgs false
set_option maxRecDepth 100000
set_option maxHeartbeats 16000000
namespace Go.Proofs.YtcfjblcgceednaaGreat
theorem j6{p:Prop}(h:p:=by
 by_cases e:j=en
 ·subst e;rw [if_pos rfl,if_pos (.inr (.inl rfl))]
 ·rw [if_neg e]
  by_cases e:j=p
  ·subst e;rw [if_pos rfl,if_pos (.inl rfl)]
  ·rw [if_neg e,if_neg (by omega)]):p:=h
section
open Go.RowKit
abbrev Zov (L:List Int):Array Value:=(L.map (Value.int .i64)).toArray
theorem Zow {w:World}{g k:Nat}{L:List Int}{t:TypeId} (h:Blk w g (Zov L) t) (v:Int):Blk (w.setCell ⟨g,k,none⟩ (.int .i64 v)) g (Zov (L.set k v)) t:=by
 have:=h.set k (.int .i64 v)
 simpa [Zov,List.map_set] using this
theorem Zox {w:World}{g k:Nat}{L:List Int}{t:TypeId} (h:Blk w g (Zov L) t) (hk:k<L.length):w.cell? ⟨g,k,none⟩=some (.int .i64 (L.getD k 0)):=h.cell k (by simp [Zov,hk])
theorem Zoy {α:Type} [Cells α] {w w':World}{g:Nat}{ao:Option Addr}{c:Nat}{L:List α} (h:Zar w ao c L) (hu:Upd g g w w') (hne:Lie (·≠g) ao):Zar w' ao c L:=
 ⟨h.1,h.2.1,fun j u hu'=>by
  obtain ⟨a,ha,hc⟩:=h.2.2 j u hu'
  exact ⟨a,ha,(World.cell?_of_block (w:=w) (hu.block _ (Zac hc) (by rw [Zag];exact hne a ha) (by rw [Zag];exact hne a ha))).trans hc⟩⟩
theorem Nds.updG {w w':World}{l:List In3}{g a b:Nat}{r:List VN} (h:Nds w l (·≠g) a b r) (hu:Upd g g w w'):Nds w' l (·≠g) a b r:=h.keep fun _ _ _ h1 h2=>⟨Zoy h1 hu h2,h2⟩
def Zoz (w:World) (l:List In3) (g:Nat) (L:List Int) (a b:Nat):Ending→World→Prop:=fun e w'=>∃ (v:Value) (L':List Int),e=.returned v∧Upd g g w w'∧Blk w' g (Zov L') 3∧L'.length=L.length∧∀ i,L'.getD i 0=if a≤i∧i<b then tmV l i else L.getD i 0
def ZoA (l:List In3) (ao:Option Addr) (cap g a b:Nat):Prop:=∀ w ro rc rows L often,Zar w ao cap l→Zar w ro rc rows→Lie (·≠g) ro→Nds w l (·≠g) a b rows→Blk w g (Zov L) 3→L.length=l.length→Bd often→Enc l a b often →
 Calls Tryz.prog 157 #[.slice ao l.length cap,.slice ro rows.length rc,.int .i64 often,.slice (some ⟨g,0,none⟩) l.length l.length] w (Zoz w l g L a b)
theorem ZoB (a b:Int) (w:World) (h1:0≤a*b) (h2:a*b≤1000000001000):Calls Tryz.prog 219 #[.int .i64 a,.int .i64 b] w (Ret w (.int .i64 (ZmF a b))):=by
 exact j4
theorem ZoC {a b:Int} (ha:Bd a) (h0:0≤b) (h1:b≤1000):0≤a*b∧a*b≤1000000001000:=
 ⟨Int.mul_nonneg ha.1 h0,Int.le_trans (Int.mul_le_mul ha.2 h1 h0 (by decide)) (by decide)⟩
theorem ZoD {w:World}{l:List In3}{P:Nat→Prop}{p b:Nat}{y:VN}{r:List VN} (h:Nds w l P p b (y :: r)):y.at_=p∧p<l.length∧p<b:=by
 cases h with
 | pl _ _ _ h1 h2 h3 h4 h5=>exact ⟨rfl,h1,by have:=h5.le;omega⟩
 | one _ en _ fo fc F _ h1 h2 h3 h4 h5=>exact ⟨rfl,h1.1,by have:=h5.le;have:=ZbI h1;omega⟩
 | two _ n en _ fo so fc sc F S _ h1 h2 h3 h4 h5 h6 h7 h8=>exact ⟨rfl,h1.1,by have:=h8.le;have:=ZbI h1;omega⟩
theorem ZoE (L:List Int) (p:Nat) (v:Int) (hp:p<L.length) (i:Nat):(L.set p v).getD i 0=if i=p then v else L.getD i 0:=by
 rw [List.getD_eq_getElem?_getD,List.getElem?_set]
 by_cases h:i=p
 ·subst h;simp [hp]
 ·rw [if_neg (fun e=>h e.symm),if_neg h,←List.getD_eq_getElem?_getD]
theorem ZoF {w:World}{l:List In3}{P:Nat→Prop}{p b:Nat}{y:VN}{r:List VN} (h:Nds w l P p b (y :: r)):(y.en=-1∧Seg l p (p+1)∧Nds w l P (p+1) b r) ∨
  ∃ (en q q2:Nat) (F S:List VN),y.en=en∧Mat l p y.alt en∧y.fn=F.length∧y.sn=S.length∧Zar w y.fo y.fc F∧Lie P y.fo∧Nds w l P (p+1) q F∧Zar w y.so y.sc S∧Lie P y.so∧Nds w l P q2 en S∧Nds w l P (en+1) b r∧p<q∧q≤en∧p<q2∧q2≤en∧en<l.length∧en<b∧Seg l p (en+1)∧((y.alt=-1∧q=en∧q2=en)∨(y.alt=q∧q2=q+1∧q<en)):=by
 cases h with
 | pl _ _ _ h1 h2 h3 h4 h5=>exact .inl ⟨rfl,.pl _ _ h1 h2 h3 h4 (.nil _ (by omega)),h5⟩
 | one _ en _ fo fc F _ h1 h2 h3 h4 h5=>
  have:=h5.le
  have:=h4.le
  have:=ZbI h1
  have:=h1.2.2.1
  exact .inr ⟨en,en,en,F,[],rfl,h1,rfl,rfl,h2,h3.1,h4,Zar.nil _,fun _ e=>by simp at e,.nil _ (by omega),h5,by omega,Nat.le_refl _,by omega,Nat.le_refl _,by omega,by omega,.one _ _ _ h1 h4.seg (.nil _ (by omega)),.inl ⟨rfl,rfl,rfl⟩⟩
 | two _ n en _ fo so fc sc F S _ h1 h2 h3 h4 h5 h6 h7 h8=>
  have:=h8.le
  have:=h4.le
  have:=h7.le
  have:=ZbI h1
  have:=h1.2.2.1
  exact .inr ⟨en,n,n+1,F,S,rfl,h1,rfl,rfl,h2,h3.1,h4,h5,h6.1,h7,h8,by omega,by omega,by omega,by omega,by omega,by omega,.two _ _ _ _ h1 h4.seg h7.seg (.nil _ (by omega)),.inr ⟨rfl,rfl,by omega⟩⟩
theorem ZoG {l:List In3}{p b en q q2:Nat}{alt often:Int}{S1:Seg l (p+1) q}{S2:Seg l q2 en} (h:Enc l p b often) (hb:en<b) (hm:Mat l p alt en) (hx:(alt=-1∧q=en∧q2=en)∨(alt=q∧q2=q+1∧q<en)) :
  Enc l (p+1) q (Zom (l.getD p default) often)∧Enc l q2 en (Zom (l.getD p default) often)∧tmV l en=Zom (l.getD p default) often∧(alt=q→tmV l q=often):=by
 rcases hx with ⟨rfl,rfl,rfl⟩|⟨rfl,rfl,hq⟩
 ·exact ⟨Zoo h hb hm (Nat.le_refl _),fun i _ _=>by omega,Zoq h hb hm S1,fun e=>by omega⟩
 ·exact ⟨Zoo h hb hm (by omega),Zos h hb hm S1 hq,Zot h hb hm S1 S2,fun _=>Zor h hb hm S1 hq⟩
theorem ZoH (a b:Int):ZmF a b=ZmF b a:=by unfold ZmF;rw [Int.mul_comm]
theorem ZoI {l:List In3}{L L1 L5 L6:List Int}{a p en q q2:Nat}{alt:Int} (hp:p<L1.length) (he:en<L1.length) (h1:∀ i,L1.getD i 0=if a≤i∧i<p then tmV l i else L.getD i 0) (hap:a≤p)
  (hx:(alt=-1∧q=en∧q2=en)∨(alt=q∧q2=q+1∧q<en)) (hpq:p<q)
  (h5:∀ i,L5.getD i 0=if p+1≤i∧i<q then tmV l i else (if 0≤alt then ((L1.set p (tmV l p)).set en (tmV l en)).set q (tmV l q) else (L1.set p (tmV l p)).set en (tmV l en)).getD i 0)
  (h6:∀ i,L6.getD i 0=if q2≤i∧i<en then tmV l i else L5.getD i 0) (i:Nat):L6.getD i 0=if a≤i∧i<en+1 then tmV l i else L.getD i 0:=by
 have hs:∀ j,((L1.set p (tmV l p)).set en (tmV l en)).getD j 0=if j=en then tmV l en else if j=p then tmV l p else L1.getD j 0:=fun j=>by
  rw [ZoE _ _ _ (by simpa using he),ZoE _ _ _ hp]
 have hz:∀ j,(if 0≤alt then ((L1.set p (tmV l p)).set en (tmV l en)).set q (tmV l q) else (L1.set p (tmV l p)).set en (tmV l en)).getD j 0=if j=p∨j=en∨0≤alt∧j=q then tmV l j else L1.getD j 0:=fun j=>by
  by_cases h0:0≤alt
  ·rw [if_pos h0,ZoE _ _ _ (by simp;omega),hs]
   by_cases e:j=q
   ·subst e;rw [if_pos rfl,if_pos (.inr (.inr ⟨h0,rfl⟩))]
   ·rw [if_neg e]
    exact j6
  ·rw [if_neg h0,hs]
   exact j6
 rw [h6,h5,hz,h1]
 repeat' split
 all_goals first|rfl|omega
theorem ZoJ (l:List In3) (ao:Option Addr) (cap g a b:Nat) (hc:0<l.length→Lie (·≠g) ao) (hv:ZaV false l=0) (ih:∀ a' b',a<a'→b' < b→ZoA l ao cap g a' b'):ZoA l ao cap g a b:=by
  intro w ro rc rows L often hco hr hro hnd hb hL hbo hen
  have hlen:=(Znt hv).1
  have hall:=(Znt hv).2.1
  have hle:=hnd.le
  have HCo:=Zh hco
  have HR:=Zh hr
  have HRo:=Zh hro
  have HD:=Zh hnd
  have HB:=Zh hb
  have HE:=Zh hen
  have HBo:=Zh hbo
  have HC:=Zh hc
  have HI:=Zh ih
  have HAll:=Zh hall
  have HLl:=Zh hL
  have hrl:rows.length≤120:=by omega
  clear hco hr hro hnd hb hen hbo hc hv ih hall hL
  go_enter Tryz.func157,Tryz.ntmps157
  go_wp2
  go_loopw [13] (fun i wr=>∃ (j p:Nat) (L1:List Int),i=.int .i64 j∧j≤rows.length∧Hid (a≤p∧p≤b∧Nds wr l (·≠g) p b (rows.drop j)∧Enc l p b often)∧Hid (Upd g g w wr)∧Hid (Blk wr g (Zov L1) 3)∧Hid (L1.length=L.length∧∀ i,L1.getD i 0=if a≤i∧i<p then tmV l i else L.getD i 0)) (fun i _=>rows.length-(intOf i).toNat)
  case atStart=>exact ⟨0,a,L,rfl,Nat.zero_le _,⟨Nat.le_refl _,by omega,HD.out,HE.out⟩,Upd.refl _ _ _,HB.out,rfl,fun i=>by rw [if_neg (by omega)]⟩
  case round=>
    obtain ⟨j,p,L1,rfl,hj,HS,HU,HB1,HL1⟩:=hrel
    by_cases hjl:j<rows.length
    · obtain ⟨hap,hpb,hnd,hen⟩:=HS.out
      have hdr:rows.drop j=rows.getD j default :: rows.drop (j+1):=by
        rw [List.drop_eq_getElem_cons hjl];simp [hjl]
      rw [hdr] at hnd
      obtain ⟨ad,rfl,c0,c1,c2,c3,c4⟩:=ZnW (Zoy HR.out HU.out HRo.out) hjl
      obtain ⟨y,hy⟩:∃ y,y=rows.getD j default:=⟨_,rfl⟩
      rw [←hy] at hnd c0 c1 c2 c3 c4
      have hjl2:(j:Int) < rows.length:=by omega
      have hwj:IntKind.i64.wrap ((j:Int)+1)=((j+1:Nat):Int):=IntWalk.i64_in _ (by omega)
      have hlL:=HLl.out
      have hl1:=HL1.out.1
      have l0:=Zac c0
      have lg:=HB1.out.lt
      clear hy hdr
      obtain ⟨hya,hpl,hpb2⟩:=ZoD hnd
      obtain ⟨ya,yl,ye,yf,yfn,yfc,ys,ysn,ysc⟩:=y
      dsimp only at hya c0 c1 c2 c3 c4
      subst hya
      rename World=>wo
      have htp:=hen.here hpb2
      have hg0:=Zox HB1.out (k:=p) (by omega)
      have hgf:=HB1.out.frozen p
      obtain ⟨w2,hw2⟩:∃ w2,w2=wo.alloc (.cells #[.int .i64 p,.int .i64 yl,.int .i64 ye,.slice yf yfn yfc,.slice ys ysn ysc] 193):=⟨_,rfl⟩
      have HX2:=Zh (show Blk w2 wo.heap.size #[.int .i64 p,.int .i64 yl,.int .i64 ye,.slice yf yfn yfc,.slice ys ysn ysc] 193 by rw [hw2];exact Blk.new _ _ _)
      have HB2:=Zh (show Blk w2 g (Zov L1) 3 by rw [hw2];exact HB1.out.alloc _)
      have HU2:=Zh (show Upd g g wo w2 by rw [hw2];exact (Upd.refl g g wo).alloc _)
      have HW2:=Zh hw2
      have HD2:=Zh hnd
      have HEn:=Zh hen
      have HTp:=Zh htp
      clear hw2 hnd hen htp hg0 hgf
      go_upto_region 3 with fail
      rw [←HW2.out]
      clear c0 c1 c2 c3 c4 l0
      have x0:=HX2.out.cell 0 (v:=.int .i64 p) rfl
      have g0:=Zox HB2.out (k:=p) (by omega)
      have f0:=HB2.out.frozen p
      have hpn:(p:Int) < l.length:=by omega
      go_upto_region 4 with fail
      obtain ⟨w3,hw3⟩:∃ w3,w3=w2.setCell ⟨g,p,none⟩ (.int .i64 often):=⟨_,rfl⟩
      have HX3:=Zh (show Blk w3 wo.heap.size #[.int .i64 p,.int .i64 yl,.int .i64 ye,.slice yf yfn yfc,.slice ys ysn ysc] 193 by rw [hw3];exact HX2.out.other (a:=⟨g,p,none⟩) (by show wo.heap.size≠g;omega) _)
      have HB3:=Zh (show Blk w3 g (Zov (L1.set p (tmV l p))) 3 by rw [hw3,HTp.out];exact Zow HB2.out _)
      have HU3:=Zh (show Upd g g wo w3 by rw [hw3];exact HU2.out.set p _)
      rw [←hw3]
      clear x0 g0 f0 hw3
      have x2:=HX3.out.cell 2 (v:=.int .i64 ye) rfl
      rcases ZoF HD2.out with ⟨hye,hsg,hnr⟩|⟨en,q,q2,F,S,hye,hm,hfn,hsn,hrF,hlF,hnF,hrS,hlS,hnS,hnr,hpq,hqe,hpq2,hqe2,hel,heb,hsg,hx⟩
      · dsimp only at hye
        subst hye
        have HNr:=Zh hnr
        have HSg:=Zh hsg
        clear hnr hsg
        as_aux_lemma=>
        go_wp2
        refine ⟨⟨j+1,p+1,L1.set p (tmV l p),rfl,hjl,⟨by omega,by omega,(HNr.out.updG HU3.out),HEn.out.next HSg.out⟩,HU.out.trans HU3.out,HB3.out,by rw [List.length_set];exact HL1.out.1,fun i=>?_⟩,by simp [intOf];omega⟩
        rw [ZoE _ _ _ (by omega),HL1.out.2]
        by_cases e2:i=p
        · subst e2;rw [if_pos rfl,if_pos (by omega)]
        · rw [if_neg e2]
          by_cases e4:a≤i∧i<p
          · rw [if_pos e4,if_pos (by omega)]
          · rw [if_neg e4,if_neg (by omega)]
      · dsimp only at hye hm hfn hsn hrF hlF hrS hlS hx
        subst hye hfn hsn
        have hee:¬ (en:Int) < 0:=by omega
        obtain ⟨inn,hinn⟩:∃ n,n=Zom (l.getD p default) often:=⟨_,rfl⟩
        have HBr:=Zh (ZoG (S1:=hnF.seg) (S2:=hnS.seg) HEn.out heb hm hx)
        rw [←hinn] at HBr
        have HInn:=Zh hinn
        have HM:=Zh hm
        have HF:=Zh (And.intro hrF (And.intro hlF hnF))
        have HS2:=Zh (And.intro hrS (And.intro hlS hnS))
        have HNr:=Zh hnr
        have HSg:=Zh hsg
        have HXx:=Zh hx
        clear hm hrF hlF hnF hrS hlS hnS hnr hsg hx hinn
        have hop:ZaQ false (l.getD p default)=true:=List.all_eq_true.1 HAll.out _ (ZfU _ hpl)
        obtain ⟨ca,hca,o0,o1,o2⟩:=ZaA (Zoy (HCo.out) (HU.out.trans HU3.out) (HC.out (by omega))) hpl
        subst hca
        obtain ⟨i,hi⟩:∃ i,i=l.getD p default:=⟨_,rfl⟩
        have HI0:=Zh hi
        rw [←hi] at o0 o1 o2 hop HInn
        clear hi
        obtain ⟨op,ia,ib⟩:=i
        dsimp only at o0 o1 o2
        clear o2
        have hpl2:(p:Int) < l.length:=by omega
        have x0:=HX3.out.cell 0 (v:=.int .i64 p) rfl
        go_upto_region 6 with fail
        by_cases h30:op=30
        all_goals first
          | (subst h30
             have hia:=Zog hop rfl
             have hin:inn=ZmF often ia:=by rw [HInn.out,ZoH];rfl
             have HMu:=Zh (fun w=>ZoB often ia w (ZoC HBo.out hia.1 hia.2).1 (ZoC HBo.out hia.1 hia.2).2)
             rw [←hin] at HMu
             have hbi:=Zh (show Bd inn by rw [hin,ZoH];exact ZnM hia.1 HBo.out)
             clear hin hia
             go_upto_region 8 with (go_at_call 219;refine (HMu.out _).mono ?_;rintro e w4 ⟨rfl,hb4⟩;have HB4:=Zh hb4;clear hb4 o0 o1 x0 x2))
          | (have e9:inn=often:=by rw [HInn.out];unfold Zom;rw [if_neg h30]
             subst e9
             have hbi:=HBo
             go_upto_region 8 with fail
             obtain ⟨w4,hw4⟩:∃ w4,w4=w3:=⟨_,rfl⟩
             have HB4:=Zh (show Below w3.heap.size w3 w4 by rw [hw4];exact bE)
             rw [←hw4]
             clear o0 o1 x0 x2 hw4)
        all_goals
          have hen2:(en:Int) < l.length:=by omega
          have hsl:(L1.set p (tmV l p)).length=L.length:=by rw [List.length_set];exact hl1
          have HX4:=Zh (HX3.out.old HB4.out)
          have HA4:=Zh (HB3.out.old HB4.out)
          have x2:=HX4.out.cell 2 (v:=.int .i64 en) rfl
          have g0:=Zox HA4.out (k:=en) (by omega)
          have f0:=HA4.out.frozen en
          go_upto_region 9 with fail
          obtain ⟨w5,hw5⟩:∃ w5,w5=w4.setCell ⟨g,en,none⟩ (.int .i64 inn):=⟨_,rfl⟩
          have HX5:=Zh (show Blk w5 wo.heap.size #[.int .i64 p,.int .i64 yl,.int .i64 en,.slice yf F.length yfc,.slice ys S.length ysc] 193 by rw [hw5];exact HX4.out.other (a:=⟨g,en,none⟩) (by show wo.heap.size≠g;omega) _)
          have HA5:=Zh (show Blk w5 g (Zov ((L1.set p (tmV l p)).set en (tmV l en))) 3 by rw [hw5,HBr.out.2.2.1];exact Zow HA4.out _)
          have HU5:=Zh (show Upd g g wo w5 by rw [hw5];exact (HU3.out.bel HB4.out).set en _)
          rw [←hw5]
          clear x2 g0 f0 hw5
          have x1:=HX5.out.cell 1 (v:=.int .i64 yl) rfl
          have hqi:∀ L5 L6:List Int,_→_→∀ i,_:=fun L5 L6=>ZoI (l:=l) (L:=L) (L1:=L1) (L5:=L5) (L6:=L6) (a:=a) (p:=p) (en:=en) (q:=q) (q2:=q2) (alt:=yl) (by omega) (by omega) HL1.out.2 hap HXx.out hpq
          have HQi:=Zh hqi
          clear hqi
          have hyc:yl=q∧q<en∨yl=-1:=HXx.out.elim (fun q=>.inr q.1) (fun q=>.inl ⟨q.1,q.2.2⟩)
          obtain ⟨L4,hl4⟩:∃ L4,L4=if 0≤yl then ((L1.set p (tmV l p)).set en (tmV l en)).set q (tmV l q) else (L1.set p (tmV l p)).set en (tmV l en):=⟨_,rfl⟩
          rw [←hl4] at HQi
          have HL4:=Zh hl4
          have hl4n:L4.length=L.length:=by rw [hl4];split<;>simp [hl1]
          clear hl4
          rcases hyc with ⟨rfl,hqe3⟩|rfl
        all_goals first
          | (have hq2:(q:Int) < l.length:=by omega
             have hgl:((L1.set p (tmV l p)).set en (tmV l en)).length=L.length:=by simp [hl1]
             have g0:=Zox HA5.out (k:=q) (by omega)
             have f0:=HA5.out.frozen q
             go_upto_region 11 with fail
             obtain ⟨w6,hw6⟩:∃ w6,w6=w5.setCell ⟨g,q,none⟩ (.int .i64 (tmV l q)):=⟨_,rfl⟩
             have HX6:=Zh (show Blk w6 wo.heap.size #[.int .i64 p,.int .i64 q,.int .i64 en,.slice yf F.length yfc,.slice ys S.length ysc] 193 by rw [hw6];exact HX5.out.other (a:=⟨g,q,none⟩) (by show wo.heap.size≠g;omega) _)
             have HA6:=Zh (show Blk w6 g (Zov L4) 3 by rw [hw6,HL4.out,if_pos (by omega)];exact Zow HA5.out _)
             have HU6:=Zh (show Upd g g wo w6 by rw [hw6];exact HU5.out.set q _)
             rw [HBr.out.2.2.2 rfl] at hw6
             rw [←hw6]
             clear g0 f0 hw6 x1 hq2)
          | (go_upto_region 11 with fail
             have HX6:=HX5
             have HA6:=Zh (show Blk w5 g (Zov L4) 3 by rw [HL4.out,if_neg (by omega)];exact HA5.out)
             have HU6:=HU5
             obtain ⟨w6,hw6⟩:∃ w6,w6=w5:=⟨_,rfl⟩
             rw [←hw6] at HX6 HA6 HU6 ⊢
             clear hw6 x1)
        all_goals
          have x3:=HX6.out.cell 3 (v:=.slice yf F.length yfc) rfl
          have hT:=HI.out (p+1) q (by omega) (by omega) w6 yf yfc F L4 inn (Zoy HCo.out (HU.out.trans HU6.out) (HC.out (by omega))) (Zoy HF.out.1 HU6.out HF.out.2.1) HF.out.2.1 (HF.out.2.2.updG HU6.out) HA6.out (hl4n.trans hlL) hbi HBr.out.1
          have HT:=Zh hT
          clear hT
          go_upto_region 12 with (go_at_call 157;refine HT.out.mono ?_;rintro e w7 ⟨v7,L5,rfl,hu7,hb7,hl5,hq5⟩;have HU7:=Zh (HU6.out.trans hu7);have HA7:=Zh hb7;have HL5:=Zh (And.intro hl5 hq5);have HX7:=Zh (show Blk w7 wo.heap.size #[.int .i64 p,.int .i64 _,.int .i64 en,.slice yf F.length yfc,.slice ys S.length ysc] 193 from (hu7.block _ HX6.out.lt (by omega) (by omega)).trans HX6.out);clear hu7 hb7 hl5 hq5 x3)
          have hl5n:L5.length=L.length:=HL5.out.1.trans hl4n
          have hT:=HI.out q2 en (by omega) (by omega) w7 ys ysc S L5 inn (Zoy HCo.out (HU.out.trans HU7.out) (HC.out (by omega))) (Zoy HS2.out.1 HU7.out HS2.out.2.1) HS2.out.2.1 (HS2.out.2.2.updG HU7.out) HA7.out (hl5n.trans hlL) hbi HBr.out.2.1
          have HT:=Zh hT
          clear hT
          have x4:=HX7.out.cell 4 (v:=.slice ys S.length ysc) rfl
          go_wp2_with (go_at_call 157;refine HT.out.mono ?_;rintro e w8 ⟨v8,L6,rfl,hu8,hb8,hl6,hq6⟩;have HU8:=Zh (HU7.out.trans hu8);have HA8:=Zh hb8;have HL6:=Zh (And.intro hl6 hq6);clear hu8 hb8 hl6 hq6 x4)
          exact ⟨⟨j+1,en+1,L6,rfl,hjl,⟨by omega,by omega,HNr.out.updG HU8.out,HEn.out.next HSg.out⟩,HU.out.trans HU8.out,HA8.out,HL6.out.1.trans hl5n,HQi.out L5 L6 HL5.out.2 HL6.out.2⟩,by simp [intOf];omega⟩
    · obtain rfl:j=rows.length:=by omega
      have hj5:¬ (rows.length:Int) < rows.length:=by omega
      go_wp2
      go_end0
      obtain ⟨h1,h2,hnd,-⟩:=HS.out
      rw [List.drop_eq_nil_iff.2 (Nat.le_refl _)] at hnd
      cases hnd with
      | nil _ _=>exact ⟨_,L1,rfl,HU.out,HB1.out,HL1.out.1,HL1.out.2⟩
theorem ZoK {l:List In3} (ao:Option Addr) (cap g:Nat) (hc:0<l.length→Lie (·≠g) ao) (hv:ZaV false l=0):∀ n a b:Nat,b-a≤n→ZoA l ao cap g a b
 | 0,a,b,hn=>ZoJ l ao cap g a b hc hv fun a' b' h1 h2=>by
  have:∀ a b:Nat,b<a→ZoA l ao cap g a b:=fun a b h w ro rc rows L often h1 h2 h3 h4=>by have:=h4.le;omega
  exact this _ _ (by omega)
 | n+1,a,b,hn=>ZoJ l ao cap g a b hc hv fun a' b' h1 h2=>ZoK ao cap g hc hv n a' b' (by omega)
end
end Go.Proofs.YtcfjblcgceednaaGreat
