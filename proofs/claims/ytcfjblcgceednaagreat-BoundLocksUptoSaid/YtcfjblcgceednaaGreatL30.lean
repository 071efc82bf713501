import Derived.Test.YtcfjblcgceednaaGreatL28
import Derived.Test.YtcfjblcgceednaaGreatL29
set_option linter.all false
set_option maxRecDepth 100000
set_option maxHeartbeats 16000000
namespace Go.Proofs.YtcfjblcgceednaaGreat
theorem j13{p:Prop}(h:p:=by
 by_cases e:j=en
 ·subst e;rw [if_pos rfl,if_pos (.inr (.inl rfl))]
 ·rw [if_neg e];by_cases e:j=p
  ·subst e;rw [if_pos rfl,if_pos (.inl rfl)]
  ·rw [if_neg e,if_neg (by omega)]):p:=h
section
open Go.RowKit
abbrev ZpN (L:List Int):Array Value:=(L.map (Value.int .i64)).toArray
theorem ZpO {w:World}{g k:Nat}{L:List Int}{t:TypeId} (h:Blk w g (ZpN L) t) (v:Int):Blk (w.setCell ⟨g,k,none⟩ (.int .i64 v)) g (ZpN (L.set k v)) t:=by have:=h.set k (.int .i64 v);simpa [ZpN,List.map_set] using this
theorem ZpP {w:World}{g k:Nat}{L:List Int}{t:TypeId} (h:Blk w g (ZpN L) t) (hk:k<L.length):w.cell? ⟨g,k,none⟩=some (.int .i64 (L.getD k 0)):=h.cell k (by simp [ZpN,hk])
theorem ZpQ {α:Type} [Cells α] {w w':World}{g:Nat}{d:Option Addr}{c:Nat}{L:List α} (h:Zar w d c L) (p:Upd g g w w') (b:Lie (·≠g) d):Zar w' d c L:=
 ⟨h.1,h.2.1,fun j u n=>by
  obtain ⟨a,e,o⟩:=h.2.2 j u n
  exact ⟨a,e,(World.cell?_of_block (w:=w) (p.block _ (Zac o) (by rw [Zag];exact b a e) (by rw [Zag];exact b a e))).trans o⟩⟩
theorem Nds.updG {w w':World}{l:List In3}{g a b:Nat}{r:List VN} (h:Nds w l (·≠g) a b r) (hu:Upd g g w w'):Nds w' l (·≠g) a b r:=h.keep fun _ _ _ d c=>⟨ZpQ d hu c,c⟩
def ZpR (w:World) (l:List In3) (g:Nat) (L:List Int) (a b:Nat):Ending→World→Prop:=fun e w'=>∃ (v:Value) (L':List Int),e=.returned v∧Upd g g w w'∧Blk w' g (ZpN L') 3∧L'.length=L.length∧∀ i,L'.getD i 0=if a≤i∧i<b then tmV l i else L.getD i 0
def ZpS (l:List In3) (ao:Option Addr) (cap g a b:Nat):Prop:=∀ w ro rc rows L often,Zar w ao cap l→Zar w ro rc rows→Lie (·≠g) ro→Nds w l (·≠g) a b rows→Blk w g (ZpN L) 3→L.length=l.length→Bd often→Enc l a b often →
 Calls Tryz.prog 157 #[.slice ao l.length cap,.slice ro rows.length rc,.int .i64 often,.slice (some ⟨g,0,none⟩) l.length l.length] w (ZpR w l g L a b)
theorem ZpT (a b:Int) (w:World) (c:0≤a*b) (d:a*b≤1000000001000):Calls Tryz.prog 219 #[.int .i64 a,.int .i64 b] w (Ret w (.int .i64 (ZmT a b))):=by exact j9
theorem ZpU {a b:Int} (d:Bd a) (c:0≤b) (e:b≤1000):0≤a*b∧a*b≤1000000001000:=
 ⟨Int.mul_nonneg d.1 c,Int.le_trans (Int.mul_le_mul d.2 e c (by decide)) (by decide)⟩
theorem ZpV {w:World}{l:List In3}{P:Nat→Prop}{p b:Nat}{y:VN}{r:List VN} (h:Nds w l P p b (y :: r)):y.at_=p∧p<l.length∧p<b:=by
 cases h with
 | pl _ _ _ h1 h2 h3 h4 h5=>exact ⟨rfl,h1,by have:=h5.le;omega⟩
 | one _ en _ fo fc F _ h1 h2 h3 h4 h5=>exact ⟨rfl,h1.1,by have:=h5.le;have:=ZbI h1;omega⟩
 | two _ n en _ fo so fc sc F S _ h1 h2 h3 h4 h5 h6 h7 h8=>exact ⟨rfl,h1.1,by have:=h8.le;have:=ZbI h1;omega⟩
theorem ZpW (L:List Int) (p:Nat) (v:Int) (a:p<L.length) (i:Nat):(L.set p v).getD i 0=if i=p then v else L.getD i 0:=by
 rw [List.getD_eq_getElem?_getD,List.getElem?_set];by_cases h:i=p
 ·subst h;simp [a]
 ·rw [if_neg (fun e=>h e.symm),if_neg h,←List.getD_eq_getElem?_getD]
theorem ZpX {w:World}{l:List In3}{P:Nat→Prop}{p b:Nat}{y:VN}{r:List VN} (h:Nds w l P p b (y :: r)):(y.en=-1∧Seg l p (p+1)∧Nds w l P (p+1) b r) ∨
  ∃ (en q q2:Nat) (F S:List VN),y.en=en∧Mat l p y.alt en∧y.fn=F.length∧y.sn=S.length∧Zar w y.fo y.fc F∧Lie P y.fo∧Nds w l P (p+1) q F∧Zar w y.so y.sc S∧Lie P y.so∧Nds w l P q2 en S∧Nds w l P (en+1) b r∧p<q∧q≤en∧p<q2∧q2≤en∧en<l.length∧en<b∧Seg l p (en+1)∧((y.alt=-1∧q=en∧q2=en)∨(y.alt=q∧q2=q+1∧q<en)):=by
 cases h with
 | pl _ _ _ h1 h2 h3 h4 h5=>exact .inl ⟨rfl,.pl _ _ h1 h2 h3 h4 (.nil _ (by omega)),h5⟩
 |one _ en _ fo fc F _ h1 h2 h3 h4 h5=>
  have:=h5.le;have:=h4.le;have:=ZbI h1;have:=h1.2.2.1;exact .inr ⟨en,en,en,F,[],rfl,h1,rfl,rfl,h2,h3.1,h4,Zar.nil _,fun _ e=>by simp at e,.nil _ (by omega),h5,by omega,Nat.le_refl _,by omega,Nat.le_refl _,by omega,by omega,.one _ _ _ h1 h4.seg (.nil _ (by omega)),.inl ⟨rfl,rfl,rfl⟩⟩
 |two _ n en _ fo so fc sc F S _ h1 h2 h3 h4 h5 h6 h7 h8=>
  have:=h8.le;have:=h4.le;have:=h7.le;have:=ZbI h1;have:=h1.2.2.1;exact .inr ⟨en,n,n+1,F,S,rfl,h1,rfl,rfl,h2,h3.1,h4,h5,h6.1,h7,h8,by omega,by omega,by omega,by omega,by omega,by omega,.two _ _ _ _ h1 h4.seg h7.seg (.nil _ (by omega)),.inr ⟨rfl,rfl,by omega⟩⟩
theorem ZpY {l:List In3}{p b en q q2:Nat}{alt a:Int}{S1:Seg l (p+1) q}{S2:Seg l q2 en} (h:Enc l p b a) (c:en<b) (d:Mat l p alt en) (j:(alt=-1∧q=en∧q2=en)∨(alt=q∧q2=q+1∧q<en)) :
  Enc l (p+1) q (Zo1 (l.getD p default) a)∧Enc l q2 en (Zo1 (l.getD p default) a)∧tmV l en=Zo1 (l.getD p default) a∧(alt=q→tmV l q=a):=by
 rcases j with ⟨rfl,rfl,rfl⟩|⟨rfl,rfl,g⟩
 ·exact ⟨Zo3 h c d (Nat.le_refl _),fun i _ _=>by omega,Zo5 h c d S1,fun e=>by omega⟩
 ·exact ⟨Zo3 h c d (by omega),Zo7 h c d S1 g,Zo8 h c d S1 S2,fun _=>Zo6 h c d S1 g⟩
theorem ZpZ (a b:Int):ZmT a b=ZmT b a:=by unfold ZmT;rw [Int.mul_comm]
theorem Zp0 {l:List In3}{L L1 L5 L6:List Int}{a p en q q2:Nat}{alt:Int} (r:p<L1.length) (o:en<L1.length) (c:∀ i,L1.getD i 0=if a≤i∧i<p then tmV l i else L.getD i 0) (n:a≤p)
  (x:(alt=-1∧q=en∧q2=en)∨(alt=q∧q2=q+1∧q<en)) (u:p<q)
  (d:∀ i,L5.getD i 0=if p+1≤i∧i<q then tmV l i else (if 0≤alt then ((L1.set p (tmV l p)).set en (tmV l en)).set q (tmV l q) else (L1.set p (tmV l p)).set en (tmV l en)).getD i 0)
  (g:∀ i,L6.getD i 0=if q2≤i∧i<en then tmV l i else L5.getD i 0) (i:Nat):L6.getD i 0=if a≤i∧i<en+1 then tmV l i else L.getD i 0:=by
 have b:∀ j,((L1.set p (tmV l p)).set en (tmV l en)).getD j 0=if j=en then tmV l en else if j=p then tmV l p else L1.getD j 0:=fun j=>by rw [ZpW _ _ _ (by simpa using o),ZpW _ _ _ r]
 have v:∀ j,(if 0≤alt then ((L1.set p (tmV l p)).set en (tmV l en)).set q (tmV l q) else (L1.set p (tmV l p)).set en (tmV l en)).getD j 0=if j=p∨j=en∨0≤alt∧j=q then tmV l j else L1.getD j 0:=fun j=>by
  by_cases h0:0≤alt
  ·rw [if_pos h0,ZpW _ _ _ (by simp;omega),b];by_cases e:j=q
   ·subst e;rw [if_pos rfl,if_pos (.inr (.inr ⟨h0,rfl⟩))]
   ·rw [if_neg e];exact j13
  ·rw [if_neg h0,b];exact j13
 rw [g,d,v,c]
 repeat' split
 all_goals first|rfl|omega
theorem Zp1 (l:List In3) (ao:Option Addr) (aZ g a b:Nat) (hc:0<l.length→Lie (·≠g) ao) (hv:ZaV false l=0) (ih:∀ a' b',a<a'→b' < b→ZpS l ao aZ g a' b'):ZpS l ao aZ g a b:=by
  intro w ro rc c L d a6 hr bi o hb hL a5 B;have b8:=(ZmF hv).1;have ae:=(ZmF hv).2.1;have cu:=o.le;have ap:=Zh a6;have HR:=Zh hr;have bD:=Zh bi;have HD:=Zh o;have HB:=Zh hb;have HE:=Zh B;have W:=Zh a5;have HC:=Zh hc;have HI:=Zh ih;have aN:=Zh ae;have bC:=Zh hL;have cy:c.length≤120:=by omega
  clear a6 hr bi o hb B a5 hc hv ih ae hL;go_enter Tryz.func157,Tryz.ntmps157;go_wp2
  go_loopw [13] (fun i wr=>∃ (j p:Nat) (L1:List Int),i=.int .i64 j∧j≤c.length∧Hid (a≤p∧p≤b∧Nds wr l (·≠g) p b (c.drop j)∧Enc l p b d)∧Hid (Upd g g w wr)∧Hid (Blk wr g (ZpN L1) 3)∧Hid (L1.length=L.length∧∀ i,L1.getD i 0=if a≤i∧i<p then tmV l i else L.getD i 0)) (fun i _=>c.length-(intOf i).toNat)
  case atStart=>exact ⟨0,a,L,rfl,Nat.zero_le _,⟨Nat.le_refl _,by omega,HD.out,HE.out⟩,Upd.refl _ _ _,HB.out,rfl,fun i=>by rw [if_neg (by omega)]⟩
  case round=>
    obtain ⟨j,p,L1,rfl,hj,HS,HU,E,z⟩:=hrel;by_cases hjl:j<c.length
    · obtain ⟨bP,cv,o,B⟩:=HS.out;have a7:c.drop j=c.getD j default :: c.drop (j+1):=by rw [List.drop_eq_getElem_cons hjl];simp [hjl]
      rw [a7] at o;obtain ⟨ad,rfl,c0,c1,c2,c3,c4⟩:=ZnW (ZpQ HR.out HU.out bD.out) hjl;obtain ⟨y,hy⟩:∃ y,y=c.getD j default:=⟨_,rfl⟩;rw [←hy] at o c0 c1 c2 c3 c4;have b7:(j:Int) < c.length:=by omega
      have cA:IntKind.i64.wrap ((j:Int)+1)=((j+1:Nat):Int):=IntWalk.i64_in _ (by omega);have bb:=bC.out;have aA:=z.out.1;have l0:=Zac c0;have lg:=E.out.lt;clear hy a7;obtain ⟨bm,be,bd⟩:=ZpV o;obtain ⟨ya,yl,ye,yf,aJ,u,ys,aK,x⟩:=y;dsimp only at bm c0 c1 c2 c3 c4;subst bm;rename World=>wo;have bk:=B.here bd;have bS:=ZpP E.out (k:=p) (by omega);have bT:=E.out.frozen p;obtain ⟨w2,O⟩:∃ w2,w2=wo.alloc (.cells #[.int .i64 p,.int .i64 yl,.int .i64 ye,.slice yf aJ u,.slice ys aK x] 193):=⟨_,rfl⟩;have aW:=Zh (show Blk w2 wo.heap.size #[.int .i64 p,.int .i64 yl,.int .i64 ye,.slice yf aJ u,.slice ys aK x] 193 by rw [O];exact Blk.new _ _ _);have an:=Zh (show Blk w2 g (ZpN L1) 3 by rw [O];exact E.out.alloc _);have bH:=Zh (show Upd g g wo w2 by rw [O];exact (Upd.refl g g wo).alloc _);have bI:=Zh O;have bB:=Zh o;have aq:=Zh B;have bG:=Zh bk;clear O o B bk bS bT
      go_upto_region 3 with fail
      rw [←bI.out];clear c0 c1 c2 c3 c4 l0;have x0:=aW.out.cell 0 (v:=.int .i64 p) rfl;have g0:=ZpP an.out (k:=p) (by omega);have f0:=an.out.frozen p;have cw:(p:Int) < l.length:=by omega
      go_upto_region 4 with fail
      obtain ⟨w3,P⟩:∃ w3,w3=w2.setCell ⟨g,p,none⟩ (.int .i64 d):=⟨_,rfl⟩;have aw:=Zh (show Blk w3 wo.heap.size #[.int .i64 p,.int .i64 yl,.int .i64 ye,.slice yf aJ u,.slice ys aK x] 193 by rw [P];exact aW.out.other (a:=⟨g,p,none⟩) (by show wo.heap.size≠g;omega) _);have aO:=Zh (show Blk w3 g (ZpN (L1.set p (tmV l p))) 3 by rw [P,bG.out];exact ZpO an.out _);have Y:=Zh (show Upd g g wo w3 by rw [P];exact bH.out.set p _);rw [←P];clear x0 g0 f0 P;have x2:=aw.out.cell 2 (v:=.int .i64 ye) rfl;rcases ZpX bB.out with ⟨R,N,K⟩|⟨en,q,q2,F,S,R,hm,a8,bj,aF,aB,aD,aG,aC,aE,K,bV,cx,cb,cc,cr,bR,N,hx⟩
      · dsimp only at R;subst R;have ar:=Zh K;have au:=Zh N;clear K N
        as_aux_lemma=>
        go_wp2;refine ⟨⟨j+1,p+1,L1.set p (tmV l p),rfl,hjl,⟨by omega,by omega,(ar.out.updG Y.out),aq.out.next au.out⟩,HU.out.trans Y.out,aO.out,by rw [List.length_set];exact z.out.1,fun i=>?_⟩,by simp [intOf];omega⟩;rw [ZpW _ _ _ (by omega),z.out.2];by_cases e2:i=p
        · subst e2;rw [if_pos rfl,if_pos (by omega)]
        · rw [if_neg e2];by_cases e4:a≤i∧i<p
          · rw [if_pos e4,if_pos (by omega)]
          · rw [if_neg e4,if_neg (by omega)]
      · dsimp only at R hm a8 bj aF aB aG aC hx;subst R a8 bj;have cq:¬ (en:Int) < 0:=by omega
        obtain ⟨D,J⟩:∃ n,n=Zo1 (l.getD p default) d:=⟨_,rfl⟩;have G:=Zh (ZpY (S1:=aD.seg) (S2:=aE.seg) aq.out bR hm hx);rw [←J] at G;have H:=Zh J;have Hj:=Zh hm;have HF:=Zh (And.intro aF (And.intro aB aD));have X:=Zh (And.intro aG (And.intro aC aE));have ar:=Zh K;have au:=Zh N;have aY:=Zh hx;clear hm aF aB aD aG aC aE K N hx J;have bc:ZaQ false (l.getD p default)=true:=List.all_eq_true.1 aN.out _ (ZfU _ be);obtain ⟨ca,bQ,o0,o1,o2⟩:=ZaA (ZpQ (ap.out) (HU.out.trans Y.out) (HC.out (by omega))) be;subst bQ;obtain ⟨i,hi⟩:∃ i,i=l.getD p default:=⟨_,rfl⟩;have cn:=Zh hi;rw [←hi] at o0 o1 o2 bc H;clear hi;obtain ⟨op,ia,ib⟩:=i;dsimp only at o0 o1 o2;clear o2;have b9:(p:Int) < l.length:=by omega
        have x0:=aw.out.cell 0 (v:=.int .i64 p) rfl
        go_upto_region 6 with fail
        by_cases h30:op=30
        all_goals first
          | (subst h30
             have C:=ZoC bc rfl;have az:D=ZmT d ia:=by rw [H.out,ZpZ];rfl
             have aS:=Zh (fun w=>ZpT d ia w (ZpU W.out C.1 C.2).1 (ZpU W.out C.1 C.2).2);rw [←az] at aS;have ay:=Zh (show Bd D by rw [az,ZpZ];exact ZnG C.1 W.out);clear az C
             go_upto_region 8 with (go_at_call 219;refine (aS.out _).mono ?_;rintro e w4 ⟨rfl,a2⟩;have V:=Zh a2;clear a2 o0 o1 x0 x2))
          | (have e9:D=d:=by rw [H.out];unfold Zo1;rw [if_neg h30]
             subst e9;have ay:=W
             go_upto_region 8 with fail
             obtain ⟨w4,aI⟩:∃ w4,w4=w3:=⟨_,rfl⟩;have V:=Zh (show Below w3.heap.size w3 w4 by rw [aI];exact bE);rw [←aI];clear o0 o1 x0 x2 aI)
        all_goals
          have b6:(en:Int) < l.length:=by omega
          have cz:(L1.set p (tmV l p)).length=L.length:=by rw [List.length_set];exact aA
          have aX:=Zh (aw.out.old V.out);have al:=Zh (aO.out.old V.out);have x2:=aX.out.cell 2 (v:=.int .i64 en) rfl;have g0:=ZpP al.out (k:=en) (by omega);have f0:=al.out.frozen en
          go_upto_region 9 with fail
          obtain ⟨w5,Q⟩:∃ w5,w5=w4.setCell ⟨g,en,none⟩ (.int .i64 D):=⟨_,rfl⟩;have ax:=Zh (show Blk w5 wo.heap.size #[.int .i64 p,.int .i64 yl,.int .i64 en,.slice yf F.length u,.slice ys S.length x] 193 by rw [Q];exact aX.out.other (a:=⟨g,en,none⟩) (by show wo.heap.size≠g;omega) _);have U:=Zh (show Blk w5 g (ZpN ((L1.set p (tmV l p)).set en (tmV l en))) 3 by rw [Q,G.out.2.2.1];exact ZpO al.out _);have aU:=Zh (show Upd g g wo w5 by rw [Q];exact (Y.out.bel V.out).set en _);rw [←Q];clear x2 g0 f0 Q;have x1:=ax.out.cell 1 (v:=.int .i64 yl) rfl;have bh:∀ L5 L6:List Int,_→_→∀ i,_:=fun L5 L6=>Zp0 (l:=l) (L:=L) (L1:=L1) (L5:=L5) (L6:=L6) (a:=a) (p:=p) (en:=en) (q:=q) (q2:=q2) (alt:=yl) (by omega) (by omega) z.out.2 bP aY.out bV;have aT:=Zh bh;clear bh;have bX:yl=q∧q<en∨yl=-1:=aY.out.elim (fun q=>.inr q.1) (fun q=>.inl ⟨q.1,q.2.2⟩);obtain ⟨L4,aa⟩:∃ L4,L4=if 0≤yl then ((L1.set p (tmV l p)).set en (tmV l en)).set q (tmV l q) else (L1.set p (tmV l p)).set en (tmV l en):=⟨_,rfl⟩;rw [←aa] at aT;have aP:=Zh aa;have af:L4.length=L.length:=by rw [aa];split<;>simp [aA]
          clear aa;rcases bX with ⟨rfl,cd⟩|rfl
        all_goals first
          | (have bW:(q:Int) < l.length:=by omega
             have cs:((L1.set p (tmV l p)).set en (tmV l en)).length=L.length:=by simp [aA]
             have g0:=ZpP U.out (k:=q) (by omega);have f0:=U.out.frozen q
             go_upto_region 11 with fail
             obtain ⟨w6,r⟩:∃ w6,w6=w5.setCell ⟨g,q,none⟩ (.int .i64 (tmV l q)):=⟨_,rfl⟩;have I:=Zh (show Blk w6 wo.heap.size #[.int .i64 p,.int .i64 q,.int .i64 en,.slice yf F.length u,.slice ys S.length x] 193 by rw [r];exact ax.out.other (a:=⟨g,q,none⟩) (by show wo.heap.size≠g;omega) _);have am:=Zh (show Blk w6 g (ZpN L4) 3 by rw [r,aP.out,if_pos (by omega)];exact ZpO U.out _);have A:=Zh (show Upd g g wo w6 by rw [r];exact aU.out.set q _);rw [G.out.2.2.2 rfl] at r;rw [←r];clear g0 f0 r x1 bW)
          | (go_upto_region 11 with fail
             have I:=ax;have am:=Zh (show Blk w5 g (ZpN L4) 3 by rw [aP.out,if_neg (by omega)];exact U.out);have A:=aU;obtain ⟨w6,r⟩:∃ w6,w6=w5:=⟨_,rfl⟩;rw [←r] at I am A ⊢;clear r x1)
        all_goals
          have x3:=I.out.cell 3 (v:=.slice yf F.length u) rfl;have hT:=HI.out (p+1) q (by omega) (by omega) w6 yf u F L4 D (ZpQ ap.out (HU.out.trans A.out) (HC.out (by omega))) (ZpQ HF.out.1 A.out HF.out.2.1) HF.out.2.1 (HF.out.2.2.updG A.out) am.out (af.trans bb) ay G.out.1;have HT:=Zh hT;clear hT
          go_upto_region 12 with (go_at_call 157;refine HT.out.mono ?_;rintro e w7 ⟨v7,L5,rfl,aH,a3,a9,bf⟩;have Z:=Zh (A.out.trans aH);have bx:=Zh a3;have aQ:=Zh (And.intro a9 bf);have bJ:=Zh (show Blk w7 wo.heap.size #[.int .i64 p,.int .i64 _,.int .i64 en,.slice yf F.length u,.slice ys S.length x] 193 from (aH.block _ I.out.lt (by omega) (by omega)).trans I.out);clear aH a3 a9 bf x3)
          have ag:L5.length=L.length:=aQ.out.1.trans af;have hT:=HI.out q2 en (by omega) (by omega) w7 ys x S L5 D (ZpQ ap.out (HU.out.trans Z.out) (HC.out (by omega))) (ZpQ X.out.1 Z.out X.out.2.1) X.out.2.1 (X.out.2.2.updG Z.out) bx.out (ag.trans bb) ay G.out.2.1;have HT:=Zh hT;clear hT;have x4:=bJ.out.cell 4 (v:=.slice ys S.length x) rfl
          go_wp2_with (go_at_call 157;refine HT.out.mono ?_;rintro e w8 ⟨v8,L6,rfl,bl,a4,ba,bg⟩;have aV:=Zh (Z.out.trans bl);have bz:=Zh a4;have aR:=Zh (And.intro ba bg);clear bl a4 ba bg x4)
          exact ⟨⟨j+1,en+1,L6,rfl,hjl,⟨by omega,by omega,ar.out.updG aV.out,aq.out.next au.out⟩,HU.out.trans aV.out,bz.out,aR.out.1.trans ag,aT.out L5 L6 aQ.out.2 aR.out.2⟩,by simp [intOf];omega⟩
    · obtain rfl:j=c.length:=by omega
      have ct:¬ (c.length:Int) < c.length:=by omega
      go_wp2;go_end0;obtain ⟨h1,h2,o,-⟩:=HS.out;rw [List.drop_eq_nil_iff.2 (Nat.le_refl _)] at o;cases o with
      | nil _ _=>exact ⟨_,L1,rfl,HU.out,E.out,z.out.1,z.out.2⟩
theorem Zp2 {l:List In3} (d:Option Addr) (c g:Nat) (e:0<l.length→Lie (·≠g) d) (hv:ZaV false l=0):∀ n a b:Nat,b-a≤n→ZpS l d c g a b
 |0,a,b,hn=>Zp1 l d c g a b e hv fun o p q r=>by
  have:∀ a b:Nat,b<a→ZpS l d c g a b:=fun a b h w z y u L j q r x v=>by have:=v.le;omega
  exact this _ _ (by omega)
 | n+1,a,b,hn=>Zp1 l d c g a b e hv fun o p q r=>Zp2 d c g e hv n o p (by omega)
end
section
open Go.RowKit
theorem Zp3 {m:Md} (hv:Za1 m=true) {k:Nat} (hk:k<m.me.length) {t:Int} (h:t∈Zn8 m k):0≤t∧t<k:=by
 unfold Zn8 Zn7 at h;rw [Zdw,List.take_length] at h;obtain ⟨i,c,a⟩:=List.mem_flatMap.1 h;have b:=ZfS ((ZfN hv hk).i i c).1 ((ZfN hv hk).i i c).2;unfold Zn6 at a;by_cases h25:i.op=25
 ·rw [if_pos h25,List.mem_singleton] at a;subst a;exact ⟨b.a0 (by omega),(b.o25 h25).1⟩
 ·rw [if_neg h25] at a;by_cases h26:i.op=26
  ·rw [if_pos h26] at a;exact ⟨ZfT a,(b.o26 h26).2 t a⟩
  ·rw [if_neg h26] at a;cases a
theorem Zp4 {m:Md} (hv:Za1 m=true) {k:Nat} (hk:k<m.me.length):(Zn8 m k).length≤1200:=by have b:=ZdA (Zn7 m (cdM m k) (cdM m k).length);have c:=Zob (Zin hv).1 (cdM m k) _ (Nat.le_refl _);have a:=(ZfN hv hk).z.2.2;have d:(cdM m k).length≤120:=a;unfold Zn8;omega
inductive Rch (m:Md) (k:Nat):Nat→Prop
 | refl:Rch m k k
 | step (i j:Nat):Rch m k i→(j:Int)∈Zn8 m i→Rch m k j
theorem Rch.le {m:Md} (hv:Za1 m=true) {k:Nat} (hk:k<m.me.length) {j:Nat} (h:Rch m k j):j≤k:=by
 induction h with
 | refl=>exact Nat.le_refl _
 | step i j h1 h2 ih=>have:=Zp3 hv (by omega) h2;omega
theorem Rch.inv {m:Md}{k j:Nat} (h:Rch m k j):j=k∨∃ i,Rch m k i∧(j:Int)∈Zn8 m i:=by
 cases h with
 | refl=>exact .inl rfl
 | step i _ h1 h2=>exact .inr ⟨i,h1,h2⟩
def MkP (m:Md) (k:Nat) (L:List Bool) (q:Nat):Prop:=L.length=m.me.length∧∀ j,j<m.me.length→(L.getD j false=true↔j=k∨∃ i,q≤i∧Rch m k i∧(j:Int)∈Zn8 m i)
section
variable {m:Md}(hv:Za1 m=true){k:Nat}(hk:k<m.me.length)
include m hv k hk
theorem MkP.start:MkP m k ((List.replicate m.me.length false).set k true) (k+1):=by
 refine ⟨by simp,fun j a=>?_⟩;constructor
 ·intro h
  left
  by_cases e:j=k
  ·exact e
  ·rw [List.getD_eq_getElem?_getD,List.getElem?_set_ne (fun q=>e q.symm)] at h;simp [a] at h
 ·rintro (h|⟨i,c,b,-⟩)
  ·subst h;simp [List.getD_eq_getElem?_getD,a]
  ·have:=b.le hv hk;omega
theorem MkP.here {L:List Bool} {q:Nat} (hq:q<m.me.length) (H:MkP m k L (q+1)):L.getD q false=true↔Rch m k q:=by
 rw [H.2 q hq];constructor
 ·rintro (h|⟨i,-,a,b⟩)
  ·subst h;exact .refl
  ·exact .step i q a b
 ·intro h;rcases h.inv with h|⟨i,h1,a⟩
  ·exact .inl h
  ·have:=h1.le hv hk;have:=Zp3 hv (show i<m.me.length by omega) a;exact .inr ⟨i,by omega,h1,a⟩
theorem MkP.skip {L:List Bool} {q:Nat} (hq:q<m.me.length) (H:MkP m k L (q+1)) (h:¬ L.getD q false=true):MkP m k L q:=by
 refine ⟨H.1,fun j d=>?_⟩;rw [H.2 j d];constructor
 ·rintro (h|⟨i,b,a⟩)
  ·exact .inl h
  ·exact .inr ⟨i,by omega,a⟩
 ·rintro (a|⟨i,b,a,c⟩)
  ·exact .inl a
  ·refine .inr ⟨i,?_,a,c⟩;by_cases e:i=q
   ·subst e;exact absurd ((H.here hv hk hq).2 a) h
   ·omega
theorem MkP.add {L L':List Bool} {q:Nat} (hq:q<m.me.length) (H:MkP m k L (q+1)) (h:L.getD q false=true) (hl:L'.length=m.me.length) (hL:∀ j,j<m.me.length→(L'.getD j false=true↔L.getD j false=true∨(j:Int)∈Zn8 m q)):MkP m k L' q:=by
 have g:=(H.here hv hk hq).1 h;refine ⟨hl,fun j c=>?_⟩;rw [hL j c,H.2 j c];constructor
 ·rintro ((h|⟨i,d,a⟩)|h)
  ·exact .inl h
  ·exact .inr ⟨i,by omega,a⟩
  ·exact .inr ⟨q,Nat.le_refl _,g,h⟩
 ·rintro (a|⟨i,d,a,b⟩)
  ·exact .inl (.inl a)
  ·by_cases e:i=q
   ·subst e;exact .inr b
   ·exact .inl (.inr ⟨i,by omega,a,b⟩)
end
theorem MkP.done {m:Md}{k:Nat}{L:List Bool} (H:MkP m k L 0) {j:Nat} (hj:j<m.me.length):L.getD j false=true↔Rch m k j:=by
 rw [H.2 j hj];constructor
 ·rintro (h|⟨i,-,a,b⟩)
  ·subst h;exact .refl
  ·exact .step i j a b
 ·intro h;rcases h.inv with h|⟨i,h1,a⟩
  ·exact .inl h
  ·exact .inr ⟨i,Nat.zero_le _,h1,a⟩
end
section
theorem Zp5 {l:List In3}{a b:Nat} (h:Seg l a b):∀ p,a≤p→p<b→ZaR (l.getD p default).op=true→∃ alt en,Mat l p alt en∧Seg l (p+1) (if alt<0 then en else alt.toNat)∧en<b:=by
 induction h with
 | nil a h=>intro p o d;omega
 |pl a b q1 q2 q3 q4 q5 ih=>
  intro p o d c;by_cases e:p=a
  ·subst e;rw [q2] at c;cases c
  ·exact ih p (by omega) d c
 |one a en b q1 q2 q3 i1 i2=>
  intro p o d c;have r:=(Zmo q3).1;by_cases e:p=a
  ·subst e;exact ⟨-1,en,q1,by rw [if_pos (by decide)];exact q2,by omega⟩
  ·by_cases e2:p<en
   ·obtain ⟨x,y,z,j,v⟩:=i1 p (by omega) e2 c;exact ⟨x,y,z,j,by omega⟩
   ·by_cases e3:p=en
    ·subst e3;rw [q1.2.2.2.1] at c;exact absurd c (by decide)
    ·exact i2 p (by omega) d c
 |two a n en b q1 q2 q3 q4 i1 i2 i3=>
  intro p o d c;have r:=(Zmo q4).1;have u:=(Zmo q3).1;have g:(l.getD n default).op=34:=by
   obtain ⟨_,_,_,_,A⟩:=q1;rcases A with ⟨q,_⟩|⟨x,q,_,B,_⟩
   ·omega
   ·obtain rfl:n=x:=by omega
    exact B
  by_cases e:p=a
  ·subst e;exact ⟨n,en,q1,by rw [if_neg (by omega),Int.toNat_natCast];exact q2,by omega⟩
  ·by_cases e2:p<n
   ·obtain ⟨x,y,z,j,v⟩:=i1 p (by omega) e2 c;exact ⟨x,y,z,j,by omega⟩
   ·by_cases e3:p=n
    ·subst e3;rw [g] at c;exact absurd c (by decide)
    ·by_cases e4:p<en
     ·obtain ⟨x,y,z,j,v⟩:=i2 p (by omega) e4 c;exact ⟨x,y,z,j,by omega⟩
     ·by_cases e5:p=en
      ·subst e5;rw [q1.2.2.2.1] at c;exact absurd c (by decide)
      ·exact i3 p (by omega) d c
theorem Zp6 {l:List In3} (h:Seg l 0 l.length) {p:Nat} (g:p<l.length) (e:(l.getD p default).op=31):∃ en,Mat l p (-1) en∧Seg l (p+1) en:=by
 obtain ⟨a,en,b,c,_⟩:=Zp5 h p (Nat.zero_le _) g (by rw [e];decide);have:a=-1:=by
  obtain ⟨_,_,_,_,d⟩:=b;rcases d with ⟨q,_⟩|⟨_,_,_,_,q,_⟩
  ·exact q
  ·omega
 subst this;rw [if_pos (by decide)] at c;exact ⟨en,b,c⟩
def gC (m:Md):Wg:=gT ZmV m (Zm1 (gW ZmV m) m)
def Zp7 (m:Md) (lock:Int) (k:Nat):Int:=Zpo (gC m) (cdM m k) lock 0 (cdM m k).length
section
variable {m:Md} (hv:Za1 m=true) {k:Nat} (hk:k<m.me.length)
include hv
theorem Zp8 (k:Nat) (hk:k<m.me.length):∀ i∈cdM m k,0≤ZmU i∧ZmU i≤1000:=fun i a=>ZoH ((ZfN hv hk).i i a).1
theorem Zp9 (t:Nat):Bd (Zm1 (gW ZmV m) m t):=ZoM hv (x:=ZmV) (fun k hk i a=>Zp8 hv k hk i a) (by decide) (t+1) t (by omega)
include hk
theorem Zqa:∀ i∈cdM m k,i.op≠1→0≤i.a:=fun i a=>(ZfS ((ZfN hv hk).i i a).1 ((ZfN hv hk).i i a).2).a0
theorem Zqb {a b:Nat} (h:Seg (cdM m k) a b) {acc:Int} (c:Bd acc):Bd (WA (gC m) (cdM m k) a b acc):=
 ZnL (x:=ZmV) (m:=m) (Zp8 hv k hk) (by decide) (fun t=>Zp9 hv t.toNat) (Zqa hv hk) h acc c
theorem Zqc (lock:Int) {p:Nat} (b:p<(cdM m k).length):Bd (lkV (gC m) (cdM m k) lock p):=by
 unfold lkV;split
 ·rename_i q;obtain ⟨d,a,c⟩:=Zp6 (l:=cdM m k) (Zmq (ZfN hv hk).n) b q.1;rw [Zmn a];exact ZnF (Zqb hv hk c (by unfold Bd;omega)) (by unfold Bd;omega)
 ·unfold Bd;omega
theorem Zqd (lock:Int) (a:Nat):∀ n,a+n≤(cdM m k).length→Bd (Zpn (gC m) (cdM m k) lock a n)
 | 0,_=>by show Bd 0;unfold Bd;omega
 | n+1,h=>ZnH (Zqd lock a n (by omega)) (Zqc hv hk lock (by omega))
theorem Zqe (lock:Int):Bd (Zp7 m lock k):=Zqd hv hk lock 0 _ (by omega)
theorem Zqf (lock:Int):0<Zp7 m lock k↔∃ i∈cdM m k,i.op=31∧i.a=lock:=by
 have c:∀ n,n≤(cdM m k).length→(0<Zpn (gC m) (cdM m k) lock 0 n↔∃ p,p<n∧((cdM m k).getD p default).op=31∧((cdM m k).getD p default).a=lock):=by
  intro n
  induction n with
  | zero=>intro _;exact ⟨fun h=>absurd h (by show ¬ (0:Int) < 0;omega),fun ⟨p,h,_⟩=>by omega⟩
  |succ n ih=>
   intro v;have d:0<lkV (gC m) (cdM m k) lock (0+n)↔((cdM m k).getD n default).op=31∧((cdM m k).getD n default).a=lock:=by
    rw [Nat.zero_add];unfold lkV;constructor
    ·intro h;split at h
     ·assumption
     ·omega
    ·intro q;rw [if_pos q];obtain ⟨u,o,r⟩:=Zp6 (l:=cdM m k) (Zmq (ZfN hv hk).n) (show n<(cdM m k).length by omega) q.1;rw [Zmn o];dsimp only;have:=Zqb hv hk r (acc:=0) (by unfold Bd;omega);unfold ZmS ZmR Bd at *;omega
   show 0<max _ _↔_;constructor
   ·intro h;rcases Int.le_total (Zpn (gC m) (cdM m k) lock 0 n) (lkV (gC m) (cdM m k) lock (0+n)) with q|q
    ·exact ⟨n,by omega,d.1 (by omega)⟩
    ·obtain ⟨p,g,a⟩:=(ih (by omega)).1 (by omega);exact ⟨p,by omega,a⟩
   ·rintro ⟨p,g,a⟩;by_cases e:p=n
    ·subst e;have:=d.2 a;omega
    ·have:=(ih (by omega)).2 ⟨p,by omega,a⟩;omega
 unfold Zp7 Zpo;rw [Nat.sub_zero,c _ (Nat.le_refl _)];constructor
 ·rintro ⟨p,b,h⟩;exact ⟨_,ZfU default b,h⟩
 ·rintro ⟨i,j,h⟩;obtain ⟨p,b,rfl⟩:=List.mem_iff_getElem.1 j;exact ⟨p,b,by rw [List.getD_eq_getElem?_getD,List.getElem?_eq_getElem b];exact h⟩
theorem Zqg (lock:Int) (j:∀ i∈cdM m k,i.op=30→i.a≠0):Zp7 m lock k≤Zm1 (gW ZmV m) m k:=by
 have b:Bd 0:=by unfold Bd;omega
 have a:=Zmq (ZfN hv hk).n;have g:=(ZpH (m:=m) (T:=fun t=>Zm1 (gW ZmV m) m t.toNat) (Zp8 hv k hk) (fun t=>Zp9 hv t.toNat) (Zqa hv hk) j a 0 b).2;rw [ZoN hv ZmV hk];have c:∀ n,n≤(cdM m k).length→Zpn (gC m) (cdM m k) lock 0 n≤WA (gT ZmV m (Zm1 (gW ZmV m) m)) (cdM m k) 0 (cdM m k).length 0:=by
  intro n
  induction n with
  | zero=>intro _;exact (Zqb hv hk a b).1
  |succ n ih=>
   intro o;refine Int.max_le.2 ⟨ih (by omega),?_⟩;rw [Nat.zero_add];unfold lkV;split
   ·rename_i q;obtain ⟨e,d,_⟩:=Zp6 (l:=cdM m k) a (show n<(cdM m k).length by omega) q.1;rw [Zmn d];exact (g n (Nat.zero_le _) (show n<(cdM m k).length by omega)).2 e d
   ·exact (Zqb hv hk a b).1
 unfold Zp7 Zpo;rw [Nat.sub_zero];exact c _ (Nat.le_refl _)
theorem Zqh {j:Nat} (d:(j:Int)∈Zn8 m k) (v:∀ i∈cdM m k,i.op=30→i.a≠0):Zm1 (gW ZmV m) m j≤Zm1 (gW ZmV m) m k:=by
 have o:Bd 0:=by unfold Bd;omega
 have q:=Zmq (ZfN hv hk).n;have r:=(ZpH (m:=m) (T:=fun t=>Zm1 (gW ZmV m) m t.toNat) (Zp8 hv k hk) (fun t=>Zp9 hv t.toNat) (Zqa hv hk) v q 0 o).2;unfold Zn8 Zn7 at d;rw [Zdw,List.take_length] at d;obtain ⟨i,g,a⟩:=List.mem_flatMap.1 d;obtain ⟨p,n,rfl⟩:=List.mem_iff_getElem.1 g;have u:(cdM m k)[p]=(cdM m k).getD p default:=by simp [n]
 have b:=Zp8 hv k hk _ g;have e:=Zp9 hv j;rw [u] at a b;have c:=r p (Nat.zero_le _) n;rw [ZoN hv ZmV hk];unfold Zn6 at a;by_cases h25:((cdM m k).getD p default).op=25
 ·rw [if_pos h25,List.mem_singleton] at a;refine Int.le_trans ?_ (c.1 (by rw [h25];decide) (by omega) (by omega));show _≤(if ((cdM m k).getD p default).op=25 then ZmS (ZmU _) (Zm1 (gW ZmV m) m _) else _);rw [if_pos h25,←a,Int.toNat_natCast];exact ZpD (Int.le_refl _) b.1 e
 ·rw [if_neg h25] at a;by_cases h26:((cdM m k).getD p default).op=26
  ·rw [if_pos h26] at a;refine Int.le_trans ?_ (c.1 (by rw [h26];decide) (by omega) (by omega));show _≤(if ((cdM m k).getD p default).op=25 then _ else if ((cdM m k).getD p default).op=26 then ZmS (ZmU _) (ZmW (fun t=>Zm1 (gW ZmV m) m t.toNat) _) else _);rw [if_neg h25,if_pos h26];have:=ZpI (T:=fun t=>Zm1 (gW ZmV m) m t.toNat) a;rw [Int.toNat_natCast] at this;exact ZpD this b.1 (ZnI fun t _=>Zp9 hv t.toNat)
  ·rw [if_neg h26] at a;cases a
end
theorem Zqi {m:Md} (hv:Za1 m=true) {k:Nat} (hk:k<m.me.length) (a:∀ j,Rch m k j→∀ i∈cdM m j,i.op=30→i.a≠0) {j:Nat} (h:Rch m k j):Zm1 (gW ZmV m) m j≤Zm1 (gW ZmV m) m k:=by
 induction h with
 | refl=>exact Int.le_refl _
 | step i j hi hj ih=>exact Int.le_trans (Zqh hv (by have:=hi.le hv hk;omega) hj (a i hi)) ih
def Zqj (m:Md) (lock:Int) (L:List Int):Int:=L.foldl (fun a k=>max a (Zp7 m lock k.toNat)) 0
theorem Zqk (m:Md) (lock:Int) (L:List Int) (k:Int):Zqj m lock (L++[k])=max (Zqj m lock L) (Zp7 m lock k.toNat):=by unfold Zqj;rw [List.foldl_append];rfl
theorem Zql {m:Md}{lock c:Int} (d:0≤c):∀ {L:List Int},(∀ k∈L,Zp7 m lock k.toNat≤c)→Zqj m lock L≤c:=by
 intro L h;unfold Zqj;have:∀ (L:List Int) (a:Int),a≤c→(∀ k∈L,Zp7 m lock k.toNat≤c)→L.foldl (fun a k=>max a (Zp7 m lock k.toNat)) a≤c:=by
  intro L
  induction L with
  | nil=>intro a b _;exact b
  | cons x r ih=>intro a b h;exact ih _ (Int.max_le.2 ⟨b,h x (by simp)⟩) fun k hk=>h k (by simp [hk])
 exact this L 0 d h
theorem Zqm {m:Md}{lock:Int}{L:List Int}:0<Zqj m lock L↔∃ k∈L,0<Zp7 m lock k.toNat:=by
 have:∀ (L:List Int) (a:Int),0<L.foldl (fun a k=>max a (Zp7 m lock k.toNat)) a↔0<a∨∃ k∈L,0<Zp7 m lock k.toNat:=by
  intro L
  induction L with
  | nil=>intro a;simp
  |cons x r ih=>
   intro a;rw [List.foldl_cons,ih];constructor
   ·rintro (h|⟨k,b,c⟩)
    ·rcases Int.le_total a (Zp7 m lock x.toNat) with q|q
     ·exact .inr ⟨x,by simp,by omega⟩
     ·exact .inl (by omega)
    ·exact .inr ⟨k,by simp [b],c⟩
   ·rintro (h|⟨k,b,c⟩)
    ·exact .inl (by omega)
    ·rcases List.mem_cons.1 b with rfl|b
     ·exact .inl (by omega)
     ·exact .inr ⟨k,b,c⟩
 unfold Zqj;rw [this L 0];simp
end
section
open Go.RowKit
def Bl (n:Int):Prop:=-1≤n∧n≤1000000001
theorem Bl.of {n:Int} (h:Bd n):Bl n:=by unfold Bd at h;unfold Bl;omega
theorem Zqn {a b:Int} (c:Bl a) (d:Bl b):Bl (ZmX a b):=by unfold Bl ZmX ZmS ZmR at *;split<;>omega
theorem Zqo {a b:Int} (c:Bl a) (d:Bl b):Bl (ZmY a b):=by
 unfold Bl ZmY at *
 repeat' split
 all_goals omega
theorem Zqp (a b:Int) (w:World) (d:Bl a) (g:Bl b):Calls Tryz.prog 292 #[.int .i64 a,.int .i64 b] w (Ret w (.int .i64 (ZmX a b))):=by
 obtain ⟨q,c⟩:∃ q,q=ZmX a b:=⟨_,rfl⟩;rw [←c];have j:=Zh c;unfold Bl at d g;obtain ⟨o,r⟩:=d;obtain ⟨u,v⟩:=g;clear c;go_enter Tryz.func292,Tryz.ntmps292
 go_wp2_with (go_at_call 160;refine (ZnQ a b _ ⟨by omega,by omega⟩ ⟨by omega,by omega⟩).mono ?_;rintro e x ⟨rfl,n⟩)
 all_goals
  go_ret;refine ZcT (ZcY ?_) bE;rw [j.out];unfold ZmX;grind
theorem Zqq (a b:Int) (w:World):Calls Tryz.prog 294 #[.int .i64 a,.int .i64 b] w (Ret w (.int .i64 (ZmY a b))):=by
 obtain ⟨q,c⟩:∃ q,q=ZmY a b:=⟨_,rfl⟩;rw [←c];have d:=Zh c;clear c;go_enter Tryz.func294,Tryz.ntmps294;go_wp2
 all_goals
  go_ret;refine ZcT (ZcY ?_) bE;rw [d.out];unfold ZmY;grind
def gLT (m:Md) (T:Nat→Int):Wg:=gL m fun t=>T t.toNat
section
variable {m:Md}{T:Nat→Int}{i:In3}{f s:Int}
theorem Zqr (q:i.op=25):(gLT m T).pl i=ZmX (ZmU i) (T i.a.toNat):=if_pos q
theorem Zqs (q:i.op=26):(gLT m T).pl i=ZmX (ZmU i) (ZmZ (fun t=>T t.toNat) (ZaN m i.a)):=(if_neg (by omega)).trans (if_pos q)
theorem Zqt (q:i.op=28):(gLT m T).pl i=-1:=(if_neg (by omega)).trans ((if_neg (by omega)).trans (if_pos q))
theorem Zqu (q:i.op≠25) (q2:i.op≠26) (a:i.op≠28):(gLT m T).pl i=ZmU i:=(if_neg q).trans ((if_neg q2).trans (if_neg a))
theorem Zqv (q:i.op=29∨i.op=33):(gLT m T).brk i f s=ZmX (ZmU i) (ZmX (ZmY f s) 1):=if_pos q
theorem Zqw (q:i.op=30):(gLT m T).brk i f s=ZmU i:=(if_neg (by omega)).trans (if_pos q)
theorem Zqx (q:i.op=31∨i.op=32):(gLT m T).brk i f s=ZmX (ZmU i) (ZmX f 1):=(if_neg (by omega)).trans (if_neg (by omega))
end
theorem Zqy {T:Int→Int}{l:List Int} (h:∀ t,Bl (T t)):Bl (ZmZ T l):=by
 have:∀ (l:List Int) (a:Int),Bl a→Bl (l.foldl (fun a t=>ZmY a (T t)) a):=by
  intro l
  induction l with
  | nil=>intro a b;exact b
  | cons x r ih=>intro a b;exact ih _ (Zqo b (h x))
 unfold ZmZ;refine this _ _ ?_;cases l with
 | nil=>show Bl 0;unfold Bl;omega
 | cons x r=>exact h x
structure Lkr (m:Md) (T:Nat→Int):Prop where
 hm:Za1 m=true
 bd:∀ k,Bl (T k)
 eq:∀ k,k<m.me.length→T k=WA (gLT m T) (cdM m k) 0 (cdM m k).length 0
section
variable {m:Md}{T:Int→Int}{l:List In3} (hv:∀ i∈l,ZaQ false i=true) (hT:∀ t,Bl (T t))
include hv hT
theorem Zqz:∀ i∈l,Bl ((gL m T).pl i):=fun i b=>by
 have a:Bl (ZmU i):=by have:=ZoH (hv i b);unfold Bl;omega
 show Bl (if i.op=25 then _ else if i.op=26 then _ else if i.op=28 then _ else _);split
 ·exact Zqn a (hT _)
 ·split
  ·exact Zqn a (Zqy hT)
  ·split
   ·unfold Bl;omega
   ·exact a
theorem ZqA:∀ i∈l,∀ f s,Bl f→Bl s→Bl ((gL m T).brk i f s):=fun i d f s c e=>by
 have a:Bl (ZmU i):=by have:=ZoH (hv i d);unfold Bl;omega
 have b:Bl 1:=by unfold Bl;omega
 show Bl (if i.op=29∨i.op=33 then _ else if i.op=30 then _ else _);split
 ·exact Zqn a (Zqn (Zqo c e) b)
 ·split
  ·exact a
  ·exact Zqn a (Zqn c b)
theorem ZqB {a b:Nat} (o:Seg l a b):∀ acc,Bl acc→Bl (WA (gL m T) l a b acc):=by
 have g:∀ k,k<l.length→l.getD k default∈l:=fun k hk=>ZfU _ hk;have j:=Zqz (m:=m) hv hT;have d:=ZqA (m:=m) hv hT;have e:Bl 0:=by unfold Bl;omega
 induction o with
 | nil a h=>intro acc c;rw [Zmv];exact c
 | pl a b q1 q2 q3 q4 q5 ih=>intro acc c;rw [Zmw q2 q5];exact ih _ (Zqn c (j _ (g a q1)))
 | one a en b q1 q2 q3 i1 i2=>intro acc c;rw [Zmx q1 q2 q3];exact i2 _ (Zqn c (d _ (g a q1.1) _ _ (i1 _ e) e))
 | two a n en b q1 q2 q3 q4 i1 i2 i3=>intro acc c;rw [Zmy q1 q2 q3 q4];exact i3 _ (Zqn c (d _ (g a q1.1) _ _ (i1 _ e) (i2 _ e)))
end
def ZqC (M:Nat) (h:Hd) (m:Md) (T:Nat→Int) (k:Nat):Prop:=∀ w Q,Zay w h m→KnM T w M Q→Calls Tryz.prog 156 #[.agg #[.slice h.co m.cl.length h.cc,.slice h.so m.st.length h.sc,.slice h.eo m.me.length h.ec,.int .i64 m.sel,.map (some M)],.int .i64 k] w (ZnE w M T (fun j=>Q j∨j<k+1) (T k))
def ZqD (M:Nat) (h:Hd) (m:Md) (T:Nat→Int) (k a b:Nat):Prop:=∀ w Q ro rc rows,Zay w h m→KnM T w M Q→Zar w ro rc rows→Nds w (cdM m k) (fun _=>True) a b rows →
 Calls Tryz.prog 218 #[.agg #[.slice h.co m.cl.length h.cc,.slice h.so m.st.length h.sc,.slice h.eo m.me.length h.ec,.int .i64 m.sel,.map (some M)],.int .i64 k,.slice ro rows.length rc] w (ZnE w M T (fun j=>Q j∨j<k) (WA (gLT m T) (cdM m k) a b 0))
section
variable {M:Nat}{h:Hd}{m:Md}{T:Nat→Int}{k:Nat}
theorem Lkr.ok (H:Lkr m T) (hk:k<m.me.length):ZfM m k:=ZfN H.hm hk
theorem Lkr.code (H:Lkr m T) (hk:k<m.me.length):ZaV false (cdM m k)=0:=by have hm:=H.ok hk;unfold ZaV cdM;exact j19
theorem ZqE (HW:Lkr m T) (hk:k<m.me.length) (hl:ZqD M h m T k 0 (cdM m k).length):ZqC M h m T k:=by
 intro w Q H I;have ap:k<16:=by have:=(Zin HW.hm).2.1;omega
 obtain ⟨K,D,B,z,Y,ab⟩:=I.look;have b:=z k;have hT:=HW.eq k hk;have HH:=Zh H;have aj:=Zh I;have HL:=Zh hl;have HO:=Zh (B.alloc (.cells #[.slice h.co m.cl.length h.cc,.slice h.so m.st.length h.sc,.slice h.eo m.me.length h.ec,.int .i64 m.sel,.map (some M)] 190));have ak:=Zh (ab k);have ag:=Zh (Y k);have x:=Zh HW;have F:=Zh (Blk.new w #[.slice h.co m.cl.length h.cc,.slice h.so m.st.length h.sc,.slice h.eo m.me.length h.ec,.int .i64 m.sel,.map (some M)] 190);clear H hl B z ab Y HW I;by_cases hkK:k∈K
 ·rw [decide_eq_true hkK] at b;have E:=Zh b;clear b;go_enter Tryz.func156,Tryz.ntmps156
  go_wp2_with (at_lookup;refine wpList_lookup_own_ok_int _ rfl _ _ 69 rfl 3 3 .i64 Zn1 Tryz.underlying69 Tryz.underlying3 (Zn2 _) M K.length D rfl HO.out _ _ rfl (Zn4 (by omega)) ?_;intro c hc ac;rw [E.out])
  go_ret;have:=ag.out hkK;rw [this] at hc;cases hc;exact ⟨rfl,Upd.of bE,(aj.out.old bE).weak fun _ h=>.inl h⟩
 ·rw [decide_eq_false hkK] at b;have E:=Zh b;have W:=Zh (ak.out hkK);obtain ⟨U,y⟩:∃ U,U=w.alloc (.cells #[.slice h.co m.cl.length h.cc,.slice h.so m.st.length h.sc,.slice h.eo m.me.length h.ec,.int .i64 m.sel,.map (some M)] 190):=⟨_,rfl⟩;have V:=Zh (show Below w.heap.size w U by rw [y];exact bE);rw [←y] at F;have am:=Zh y;have L:=HH.out.old V.out;obtain ⟨R,he,-,-,-,-,-,-,e6⟩:=L.mth hk;have O:=F.out.cell 2 (v:=.slice h.eo m.me.length h.ec) rfl;rw [he] at O;have aa:=L.k k hk;have HP:=Zh (fun w' hb=>ZmQ (cdM m k) (h.e k).ko (h.e k).kc (x.out.code hk) (cdM m k).length 0 (cdM m k).length w' (by omega) (Zar.old aa (w':=w') hb) (Zmq (x.out.ok hk).n));rw [show (m.me.getD k default).k.length=(cdM m k).length from rfl] at e6;have az:=Zh (show (cdM m k).length≤120 from (x.out.ok hk).z.2.2);have aC:(k:Int) < m.me.length:=by omega
  have C:=Zh (show Cs [(⟨w.heap.size,0,none⟩,.slice h.co m.cl.length h.cc),(⟨w.heap.size,1,none⟩,.slice h.so m.st.length h.sc),(⟨w.heap.size,2,none⟩,.slice (some R) m.me.length h.ec),(⟨w.heap.size,3,none⟩,.int .i64 m.sel),(⟨w.heap.size,4,none⟩,.map (some M)),(⟨(R.add (k*7)).block,(R.add (k*7)).off+6,none⟩,.slice (h.e k).ko (cdM m k).length (h.e k).kc)] U from ⟨F.out.cell 0 rfl,F.out.cell 1 rfl,O,F.out.cell 3 rfl,F.out.cell 4 rfl,e6,trivial⟩);have ai:=Zh he;clear aa b y L e6 O he;go_enter Tryz.func156,Tryz.ntmps156
  go_upto_region 4 with (at_lookup;refine wpList_lookup_own_ok_int _ rfl _ _ 69 rfl 3 3 .i64 Zn1 Tryz.underlying69 Tryz.underlying3 (Zn2 _) M K.length D rfl HO.out _ _ rfl (Zn4 (by omega)) ?_;intro c hc ac;rw [E.out])
  clear hc ac;rw [←am.out];refine rO (Cs [(⟨w.heap.size,0,none⟩,.slice h.co m.cl.length h.cc),(⟨w.heap.size,1,none⟩,.slice h.so m.st.length h.sc),(⟨w.heap.size,2,none⟩,.slice (some R) m.me.length h.ec),(⟨w.heap.size,3,none⟩,.int .i64 m.sel),(⟨w.heap.size,4,none⟩,.map (some M)),(⟨(R.add (k*7)).block,(R.add (k*7)).off+6,none⟩,.slice (h.e k).ko (cdM m k).length (h.e k).kc)]) (oL [0,1,2,3,4,5,6,7,8,9,10,11,12,13,14,15,16,117,118,19]) C.out ?_
  repeat refine pO ?_
  refine oO fun Kv X=>?_;go_simp;refine (HP.out _ (Below.refl _ _).drew).mono ?_;rintro e w2 ⟨ro,rc,ad,rfl,r,A,Z⟩;have g:=Zh (Zaf (Below.refl U.heap.size U).drew Z);have u:=Zh (Zaf V.out g.out);have al:=Zh (Zar.of_own r);have ah:=Zh (A.weak (Q:=fun _=>True) fun _ _=>trivial);refine X _ _ ⟨Cs.keeps (Znz.of g.out) C.out,?_⟩;clear X Kv r A Z;refine oO fun Kv X=>?_;go_simp;have J:=HL.out w2 (fun j=>Q j∧j≠k) ro rc ad (HH.out.old u.out) (W.out.old u.out) al.out ah.out;rw [ai.out] at J;refine J.mono ?_;clear J;rintro e w3 ⟨rfl,N,hn3⟩;have G:=(Znz.of g.out).trans (Znz.upd (W.out.old u.out).map N);have HU3:=Zh ((Upd.of u.out).trans N);refine X _ _ ⟨Cs.keeps G C.out,?_⟩;have x4:=G _ _ (F.out.cell 4 (v:=.map (some M)) rfl);clear X Kv N G
  repeat refine pO ?_
  refine Zd5 ?_;rw [←hT];obtain ⟨n,D3,hown3,ax,hput⟩:=hn3.put (k:=k) (by omega) ap;have HO3:=Zh hown3;have HPt:=Zh hput;have aq:=x.out.bd k;unfold Bl at aq;exact j3
end
end
