import Derived.Test.YtcfjblcgceednaaGreatL30
set_option linter.all false
set_option maxRecDepth 100000
set_option maxHeartbeats 16000000
namespace Go.Proofs.YtcfjblcgceednaaGreat
theorem j1{p:Prop}(h:p:=by
 go_wp2_with (go_at_call 292;refine (Zqp sv _ _ HIt.out.2.1 HXb.out).mono ?_;rintro e wE ⟨rfl,hbE⟩;have HBe:=Zh hbE;clear hbE)
 obtain ⟨q1,q2,q3,q4,q5⟩:=HIt.out;exact ⟨⟨j+1,p',ZmX sv v,rfl,by rw [HXv.out],hjl,⟨by omega,q4,Zqn q2 (HXv.out▸HXb.out),q1.keeps (HKz.out.trans (Znz.of HBe.out)),HWa.out⟩,HUz.out.bel HBe.out,HNz.out.old HBe.out⟩,by simp [intOf];omega⟩):p:=h
theorem j4{p:Prop}(h:p:=by
 clear hz
 go_wp2_with (first
  | (go_at_call 156;refine HMt.out.mono ?_;rintro e w8 ⟨rfl,hu8,hn8⟩;have HU8:=Zh (HV.out.trans hu8);have HN8:=Zh (hn8.weak (R:=fun j=>Q j∨j<k) fun q hq=>hq.elim id fun e=>.inr (by omega));clear hu8 hn8)
  | (go_at_call 294;refine (Zqq _ _ _).mono ?_;rintro e w9 ⟨rfl,hb9⟩))
 exact ⟨⟨j2+1,rfl,by rw [HSn.out];rfl,hjl3,HU8.out.bel hb9,HN8.out.old hb9⟩,by simp [intOf];omega⟩):p:=h
section
open Go.RowKit
def Zry (T:Int→Int) (l:List Int) (j:Nat):Int:=if j=0 then 0 else (l.take j).foldl (fun a t=>ZmY a (T t)) (T (l.getD 0 0))
theorem Zrz (T:Int→Int) (l:List Int):Zry T l l.length=ZmZ T l:=by
 unfold Zry ZmZ;rw [List.take_length];cases l with
 | nil=>rfl
 | cons x r=>rfl
theorem ZrA {T:Int→Int}{l:List Int}{j:Nat} (a:j<l.length):Zry T l (j+1)=ZmY (if j=0 then T (l.getD j 0) else Zry T l j) (T (l.getD j 0)):=by
 unfold Zry;rw [if_neg (by omega),List.take_succ_eq_append_getElem a,List.foldl_append];have b:l[j]=l.getD j 0:=by simp [a]
 by_cases h0:j=0
 ·subst h0;rw [if_pos rfl,b];rfl
 ·rw [if_neg h0,if_neg h0,b];rfl
section
variable {M:Nat}{h:Hd}{m:Md}{T:Nat→Int}{k:Nat}
theorem ZrB (HW:Lkr m T) (hk:k<m.me.length) (hm:∀ j,j<k→ZqC M h m T j) {a b:Nat} (bG:∀ a' b',a<a'→b' < b→ZqD M h m T k a' b'):ZqD M h m T k a b:=by
 intro w Q ro rc g H bF hr D;have cw:=D.le;have cV:g.length≤120:=by have:(cdM m k).length≤120:=(HW.ok hk).z.2.2;omega
 obtain ⟨w1,aG⟩:∃ w1,w1=w.alloc (.cells #[.slice h.co m.cl.length h.cc,.slice h.so m.st.length h.sc,.slice h.eo m.me.length h.ec,.int .i64 m.sel,.map (some M)] 190):=⟨_,rfl⟩;have HB1:=Zh (show Below w.heap.size w w1 by rw [aG];exact bE);have HX:=Zh (show Blk w1 w.heap.size #[.slice h.co m.cl.length h.cc,.slice h.so m.st.length h.sc,.slice h.eo m.me.length h.ec,.int .i64 m.sel,.map (some M)] 190 by rw [aG];exact Blk.new _ _ _);have cj:=Zh aG;have aJ:=Zh (H.old HB1.out);have Z:=Zh (bF.old HB1.out);have ce:=Zh (Zar.old hr HB1.out);have bh:=Zh (D.old HB1.out);obtain ⟨ea,he,-,-,-,-,-,-,e6⟩:=aJ.out.mth hk;rw [show (m.me.getD k default).k.length=(cdM m k).length from rfl] at e6;obtain ⟨ko,a4⟩:∃ o,o=(h.e k).ko:=⟨_,rfl⟩;obtain ⟨kc,bD⟩:∃ o,o=(h.e k).kc:=⟨_,rfl⟩;rw [←a4,←bD] at e6;have cc:=Zh a4;clear a4 bD;have bd:=HX.out.cell 2 (v:=.slice h.eo m.me.length h.ec) rfl;rw [he] at bd;have lz:=Zac e6;have lx:=Zac bd;dsimp only at lz lx;have di:(k:Int) < m.me.length:=by omega
 have Hj:=Zh hm;have bn:=Zh bG;have A:=Zh HW;have db:=Zh he;clear aG H bF hr D cw hm bG HW he;go_enter Tryz.func218,Tryz.ntmps218
 go_upto_region 2 with fail
 rw [←cj.out];go_wp2;clear e6 bd
 go_loopw [7,28] (fun s i wr=>∃ (j p:Nat) (sv:Int),i=.int .i64 j∧s=.int .i64 sv∧j≤g.length∧Hid (a≤p∧p≤b∧Bl sv∧Nds wr (cdM m k) (fun _=>True) p b (g.drop j)∧WA (gLT m T) (cdM m k) a b 0=WA (gLT m T) (cdM m k) p b sv)∧Hid (Upd M M w1 wr)∧Hid (KnM T wr M fun j=>Q j∨j<k)) (fun _ i _=>g.length-(intOf i).toNat)
 case atStart=>exact ⟨0,a,0,rfl,rfl,Nat.zero_le _,⟨Nat.le_refl _,by have:=bh.out.le;omega,by unfold Bl;omega,bh.out,rfl⟩,Upd.refl _ _ _,Z.out.weak fun _ h=>.inl h⟩
 case round=>
  obtain ⟨j,p,sv,rfl,rfl,hj,HS,HU,HN⟩:=hrel;rename World=>wo;by_cases hjl:j<g.length
  ·have G:=Znz.upd Z.out.map HU.out;obtain ⟨bw,bH,bM,D,aH⟩:=HS.out;have bB:g.drop j=g.getD j default :: g.drop (j+1):=by rw [List.drop_eq_getElem_cons hjl];simp [hjl]
   rw [bB] at D;obtain ⟨p',a3,aL,cB,cA,ab⟩:=ZnO D (gLT m T);obtain ⟨ad,rfl,c0,c1,c2,c3,c4⟩:=ZnW (ZnA ce.out G) hjl;obtain ⟨y,hy⟩:∃ y,y=g.getD j default:=⟨_,rfl⟩;rw [←hy] at a3 ab c0 c1 c2 c3 c4;obtain ⟨bO,hp,ax⟩:=ZoD a3 (gLT m T);obtain ⟨ya,yl,ye,yf,ay,V,ys,az,W⟩:=y;dsimp only at bO ax c0 c1 c2 c3 c4;subst bO;have bp:=Zh (aJ.out.keeps G);have cl:=Zh (show Blk wo w.heap.size #[.slice h.co m.cl.length h.cc,.slice h.so m.st.length h.sc,.slice h.eo m.me.length h.ec,.int .i64 m.sel,.map (some M)] 190 from (HU.out.block _ HX.out.lt (ZnC HX.out Z.out.map) (ZnC HX.out Z.out.map)).trans HX.out);obtain ⟨ca,bA,o0,o1,o2⟩:=ZaA (l:=cdM m k) (bp.out.k k hk) hp;rw [←cc.out] at bA;subst bA;have a0:(cdM m k).getD p default∈cdM m k:=ZfU _ hp;have af:=((A.out.ok hk).i _ a0).1;have ba:=ZfS af ((A.out.ok hk).i _ a0).2;obtain ⟨i,hi⟩:∃ i,i=(cdM m k).getD p default:=⟨_,rfl⟩;rw [←hi] at o0 o1 o2 ax af ba;obtain ⟨u,ia,ib⟩:=i;dsimp only at o0 o1 o2;obtain ⟨v,hv⟩:∃ v,v=ZnN (gLT m T) (cdM m k) p ⟨p,yl,ye,yf,ay,V,ys,az,W⟩:=⟨_,rfl⟩;rw [←hv] at ax ab;obtain ⟨cv,aF⟩:∃ c,c=ZmU ⟨u,ia,ib⟩:=⟨_,rfl⟩;have cq:=ZoH af;rw [←aF] at cq;have bg:=Zh (fun w'=>ZoO ⟨u,ia,ib⟩ w' af);rw [←aF] at bg;have ae:=Zh aF;have aB:=Zh ba;have aR:=Zh ax;have HIt:=Zh (And.intro aL (And.intro bM (And.intro cB (And.intro cA bw))));have HWa:=Zh (aH.trans (ab sv));have dd:=Zh (ZnU af);have bz:Bl cv:=by unfold Bl;omega
   have B:=Zh bz;have dc:=Zh G;have l0:=Zac c0;have l1:=Zac o0;have dn:(p:Int) < (cdM m k).length:=by omega
   have cT:(j:Int) < g.length:=by omega
   have dq:IntKind.i64.wrap ((j:Int)+1)=((j+1:Nat):Int):=IntWalk.i64_in _ (by omega);obtain ⟨w5,aw⟩:∃ w5,w5=(wo.alloc (.cells #[.int .i64 p,.int .i64 yl,.int .i64 ye,.slice yf ay V,.slice ys az W] 193)).alloc (.cells #[.int .i64 u,.int .i64 ia,.int .i64 ib] 78):=⟨_,rfl⟩;have b7:=Zh (show Below wo.heap.size wo w5 by rw [aw];exact bE);have cm:=Zh (show Blk w5 wo.heap.size #[.int .i64 p,.int .i64 yl,.int .i64 ye,.slice yf ay V,.slice ys az W] 193 by rw [aw];exact (Blk.new wo _ _).alloc _);have aA:=Zh (show Blk w5 (wo.heap.size+1) #[.int .i64 u,.int .i64 ia,.int .i64 ib] 78 by rw [aw];exact Blk.new' (w:=wo.alloc (.cells #[.int .i64 p,.int .i64 yl,.int .i64 ye,.slice yf ay V,.slice ys az W] 193)) _ _ (by simp));have ck:=Zh aw;clear a3 D aL aH ab hy bB hv bM hi a0 af ba aF ax aw bw bH bz G
   go_upto_region 7 with fail
   rw [←ck.out];clear c0 c1 c2 c3 c4 o0 o1 o2 l0 l1;have i0:=aA.out.cell 0 (v:=.int .i64 u) rfl;have i1:=aA.out.cell 1 (v:=.int .i64 ia) rfl;have i2:=aA.out.cell 2 (v:=.int .i64 ib) rfl
   go_upto_region 8 with (go_at_call 158;refine (bg.out _).mono ?_;rintro e w6 ⟨rfl,aE⟩;have aj:=Zh (Zaf b7.out aE);have bv:=Zh (cm.out.old aE);have bk:=Zh (aA.out.old aE);clear i0 i1 i2 aE)
   have n:=Zh (HN.out.old aj.out);have E:=Zh (bp.out.old aj.out);have K:=Zh (cl.out.old aj.out);have Y:=Zh (HU.out.bel aj.out);have C:=Zh (Znz.of aj.out);have i0:=bk.out.cell 0 (v:=.int .i64 u) rfl;have i1:=bk.out.cell 1 (v:=.int .i64 ia) rfl;have x3:=bv.out.cell 3 (v:=.slice yf ay V) rfl;have x4:=bv.out.cell 4 (v:=.slice ys az W) rfl;have b0:=K.out.cell 0 (v:=.slice h.co m.cl.length h.cc) rfl;have b1:=K.out.cell 1 (v:=.slice h.so m.st.length h.sc) rfl;have b2:=K.out.cell 2 (v:=.slice h.eo m.me.length h.ec) rfl;have b3:=K.out.cell 3 (v:=.int .i64 m.sel) rfl;have b4:=K.out.cell 4 (v:=.map (some M)) rfl
   go_upto_region 9 with fail
   clear i0;have aM:ZaR u=false→v=(gLT m T).pl ⟨u,ia,ib⟩:=fun q=>by
    rcases aR.out with ⟨_,_,r⟩|⟨_,_,_,_,_,_,_,_,_,_,r,_⟩
    ·exact r
    ·rw [show ZaR (In3.op ⟨u,ia,ib⟩)=ZaR u from rfl,q] at r;cases r
   have aC:=Zh aM;clear aM;by_cases h25:u=25
   ·subst h25
    as_aux_lemma=>
    have ha:=(aB.out.o25 rfl).1;have aZ:=aB.out.a0 (by simp);dsimp only at ha aZ;obtain ⟨t,rfl⟩:∃ t:Nat,ia=t:=⟨ia.toNat,by omega⟩;have HMt:=Zh (Hj.out t (by omega) w6 _ E.out n.out);have HXv:=Zh (show v=ZmX cv (T t) by rw [aC.out (by decide),Zqr rfl,ae.out];rfl);have HXb:=Zh (Zqn B.out (A.out.bd t))
    go_upto_region 31 with (first
     | (go_at_call 156;refine HMt.out.mono ?_;rintro e w7 ⟨rfl,I,N⟩;have ch:=Zh (Y.out.trans I);have al:=Zh (N.weak (R:=fun j=>Q j∨j<k) fun q hq=>hq.elim id fun e=>.inr (by omega));have cb:=Zh (C.out.trans (Znz.upd n.out.map I));clear I N)
     | (go_at_call 292;refine (Zqp cv _ _ B.out (A.out.bd t)).mono ?_;rintro e w8 ⟨rfl,x⟩;have HUz:=Zh (ch.out.bel x);have HNz:=Zh (al.out.old x);have HKz:=Zh (cb.out.trans (Znz.of x));clear x))
    exact j1
   by_cases h26:u=26
   ·subst h26
    as_aux_lemma=>
    obtain ⟨ha,bb⟩:=aB.out.o26 rfl;have aZ:=aB.out.a0 (by simp);dsimp only at ha aZ bb;obtain ⟨s,rfl⟩:∃ j:Nat,ia=j:=⟨ia.toNat,by omega⟩;have bs:=Zh (Zir m h s w6 E.out A.out.hm ha);have bu:=Zh bb;have cx:=Nat.le_trans (ZdG m s) (Zin A.out.hm).1;have bt:=Zh (fun t (ht:t∈ZaN m s)=>ZfT ht);obtain ⟨U,bc⟩:∃ U,U=ZaN m s:=⟨_,rfl⟩;rw [←bc] at bs bu cx bt;have cg:=Zh bc;clear ha bb bc
    go_upto_region 14 with (go_at_call 293;refine bs.out.mono ?_;rintro e w7 ⟨⟨ao,dg,rfl,bJ⟩,bx⟩;have cf:=Zh bJ;have z:=Zh bx;clear bJ bx)
    go_wp2_with fail
    have c0:=Znz.of z.out _ _ b0;have c1:=Znz.of z.out _ _ b1;have c2:=Znz.of z.out _ _ b2;have c3:=Znz.of z.out _ _ b3;have c4:=Znz.of z.out _ _ b4;have b9:=Zh (show Cs [(⟨w.heap.size,0,none⟩,.slice h.co m.cl.length h.cc),(⟨w.heap.size,1,none⟩,.slice h.so m.st.length h.sc),(⟨w.heap.size,2,none⟩,.slice h.eo m.me.length h.ec),(⟨w.heap.size,3,none⟩,.int .i64 m.sel),(⟨w.heap.size,4,none⟩,.map (some M))] w7 from ⟨c0,c1,c2,c3,c4,trivial⟩);clear c0 c1 c2 c3 c4
    go_loopw [15,61] (fun mo i wr=>∃ (j2:Nat),i=.int .i64 j2∧mo=.int .i64 (Zry (fun t=>T t.toNat) U j2)∧j2≤U.length∧Hid (Upd M M w7 wr)∧Hid (KnM T wr M fun j=>Q j∨j<k)) (fun _ i _=>U.length-(intOf i).toNat)
    case atStart=>exact ⟨0,rfl,rfl,Nat.zero_le _,Upd.refl _ _ _,n.out.old z.out⟩
    case round=>
     obtain ⟨j2,rfl,rfl,dh,HV,bl⟩:=hrel;by_cases hjl3:j2<U.length
     ·have G:=Znz.upd (n.out.old z.out).map HV.out;obtain ⟨df,rfl,t0⟩:=ZaB (ZnA cf.out G) hjl3;have au:U.getD j2 0∈U:=ZfU _ hjl3;have h1:=bu.out _ au;have h2:=bt.out _ au;have av:=ZrA (T:=fun t=>T t.toNat) hjl3;obtain ⟨tj,bN⟩:∃ t,t=U.getD j2 0:=⟨_,rfl⟩;rw [←bN] at t0 h1 h2 av;obtain ⟨t,rfl⟩:∃ d:Nat,tj=d:=⟨tj.toNat,by omega⟩;have HMt:=Zh (Hj.out t (by omega) wr (fun j=>Q j∨j<k) ((E.out.old z.out).keeps G) bl.out);have HSn:=Zh av;have cU:(j2:Int) < U.length:=by omega
      have dp:t<k:=by omega
      have c9:IntKind.i64.wrap ((j2:Int)+1)=((j2+1:Nat):Int):=IntWalk.i64_in _ (by omega);obtain ⟨c0,c1,c2,c3,c4,-⟩:=Cs.keeps G b9.out;obtain ⟨lp,a6⟩:∃ l,l=Zry (fun t=>T t.toNat) U j2:=⟨_,rfl⟩;rw [←a6] at HSn;rw [←a6];clear av au h1 h2 bN G a6;by_cases hz:j2=0
      ·have cD:((j2:Int) == 0)=true:=by simp [hz]
       have HZ:=Zh hz;rw [if_pos hz] at HSn;exact j4
      ·have cD:((j2:Int) == 0)=false:=by simp [hz]
       have HZ:=Zh hz;rw [if_neg hz] at HSn;exact j4
     ·obtain rfl:j2=U.length:=by omega
      have cu:¬ (U.length:Int) < U.length:=by omega
      rw [Zrz];have HXv:=Zh (show v=ZmX cv (ZmZ (fun t=>T t.toNat) U) by rw [aC.out (by decide),Zqs rfl,ae.out,cg.out]);have a5:Bl (ZmZ (fun t=>T t.toNat) U):=Zqy fun t=>A.out.bd _;have HXb:=Zh (Zqn B.out a5);have bm:=Zh a5;obtain ⟨lt,a7⟩:∃ l,l=ZmZ (fun t=>T t.toNat) U:=⟨_,rfl⟩;rw [←a7] at HXv HXb bm;rw [←a7];clear a5 a7
      go_upto_region 31 with (go_at_call 292;refine (Zqp cv lt _ B.out bm.out).mono ?_;rintro e w8 ⟨rfl,x⟩;have HUz:=Zh (((Y.out.bel z.out).trans HV.out).bel x);have HNz:=Zh (bl.out.old x);have HKz:=Zh (((C.out.trans (Znz.of z.out)).trans (Znz.upd (n.out.old z.out).map HV.out)).trans (Znz.of x));clear x)
      exact j1
   have hb1:Bl 1:=by unfold Bl;omega
   by_cases ho:ZaR u=true
   ·rcases aR.out with ⟨_,r,_⟩|⟨en,F,S,a1,aT,a2,aU,cC,cs,bC,cy,⟨ct,bK,a8,cZ,cQ⟩,⟨av,bL,a9,c5,cR⟩,aa⟩
    ·exact absurd (ho.symm.trans r) (by decide)
    subst cC ct av;have bI:p'≤b:=HIt.out.2.2.2.1;have cz:a≤p:=HIt.out.2.2.2.2;have L:=ZqB (m:=m) (T:=fun t=>T t.toNat) (fun i hi=>((A.out.ok hk).i i hi).1) (fun t=>A.out.bd _) a8.seg 0 (by unfold Bl;omega);have ar:=ZqB (m:=m) (T:=fun t=>T t.toNat) (fun i hi=>((A.out.ok hk).i i hi).1) (fun t=>A.out.bd _) a9.seg 0 (by unfold Bl;omega);have aQ:=Zh (show ∀ w' Q',Zay w' h m→KnM T w' M Q'→Znz wo w'→_ from fun w' Q' hH J hk=>bn.out a1 aT (by omega) (by omega) w' Q' yf V F hH J (ZnA bK hk) (a8.keeps hk));have bo:=Zh (show ∀ w' Q',Zay w' h m→KnM T w' M Q'→Znz wo w'→_ from fun w' Q' hH J hk=>bn.out a2 aU (by omega) (by omega) w' Q' ys W S hH J (ZnA bL hk) (a9.keeps hk))
    change Bl (WA (gLT m T) (cdM m k) a1 aT 0) at L
    change Bl (WA (gLT m T) (cdM m k) a2 aU 0) at ar
    obtain ⟨f,hf⟩:∃ f,f=WA (gLT m T) (cdM m k) a1 aT 0:=⟨_,rfl⟩;obtain ⟨s,hs⟩:∃ f,f=WA (gLT m T) (cdM m k) a2 aU 0:=⟨_,rfl⟩;rw [←hf] at L aQ aa;rw [←hs] at ar bo aa;have am:=Zh aa;have cX:29≤u∧u≤33:=by have:=ho;unfold ZaR inI at this;simpa using this
    clear hf hs aa bK a8 bL a9 bC cy cs ho bI cz aR;by_cases h29:u=29∨u=33
    ·rcases h29 with h29|h29<;>subst h29
     all_goals
      as_aux_lemma=>
      go_upto_region 25 with fail
      have ac:=Zh (show Cs [(⟨w.heap.size,0,none⟩,.slice h.co m.cl.length h.cc),(⟨w.heap.size,1,none⟩,.slice h.so m.st.length h.sc),(⟨w.heap.size,2,none⟩,.slice h.eo m.me.length h.ec),(⟨w.heap.size,3,none⟩,.int .i64 m.sel),(⟨w.heap.size,4,none⟩,.map (some M)),(⟨wo.heap.size,3,none⟩,.slice yf F.length V),(⟨wo.heap.size,4,none⟩,.slice ys S.length W)] w6 from ⟨b0,b1,b2,b3,b4,x3,x4,trivial⟩);refine rO (Cs [(⟨w.heap.size,0,none⟩,.slice h.co m.cl.length h.cc),(⟨w.heap.size,1,none⟩,.slice h.so m.st.length h.sc),(⟨w.heap.size,2,none⟩,.slice h.eo m.me.length h.ec),(⟨w.heap.size,3,none⟩,.int .i64 m.sel),(⟨w.heap.size,4,none⟩,.map (some M)),(⟨wo.heap.size,3,none⟩,.slice yf F.length V),(⟨wo.heap.size,4,none⟩,.slice ys S.length W)]) (oL [0,1,2,3,4,6,7,8,9,105,110,111,112,113,14]) ac.out ?_;clear b0 b1 b2 b3 b4 x3 x4
      repeat refine pO ?_
      refine oO fun Kv J=>?_;go_simp;refine (aQ.out _ _ (E.out.old (Below.refl _ _).drew) (n.out.eq rfl) C.out).mono ?_;rintro e w7 ⟨rfl,I,N⟩;have X:=Zh ((Upd.refl M M w6).drew.trans I);have al:=Zh (N.weak (R:=fun j=>Q j∨j<k) fun q hq=>hq.elim id .inr);refine J _ _ ⟨Cs.keeps (Znz.upd n.out.map X.out) ac.out,?_⟩;clear J Kv I N
      repeat refine pO ?_
      refine oO fun Kv J=>?_;go_simp;refine (bo.out _ _ (E.out.keeps (Znz.upd n.out.map X.out)) al.out (C.out.trans (Znz.upd n.out.map X.out))).mono ?_;rintro e w8 ⟨rfl,hu8,hn8⟩;have bi:=Zh (X.out.trans hu8);have HN8:=Zh (hn8.weak (R:=fun j=>Q j∨j<k) fun q hq=>hq.elim id .inr);refine J _ _ ⟨Cs.keeps (Znz.upd n.out.map bi.out) ac.out,?_⟩;clear J Kv hu8 hn8
      repeat refine pO ?_
      refine oO fun Kv J=>?_;go_simp;refine (Zqq f s _).mono ?_;rintro e w9 ⟨rfl,hb9⟩;have bj:=Zh (bi.out.bel hb9);have cd:=Zh (HN8.out.old hb9);refine J _ _ ⟨Cs.keeps (Znz.upd n.out.map bj.out) ac.out,?_⟩;clear J Kv hb9
      repeat refine pO ?_
      refine oO fun Kv J=>?_;go_simp;refine (Zqp (ZmY f s) 1 _ (Zqo L ar) hb1).mono ?_;rintro e dz ⟨rfl,ap⟩;have aI:=Zh (bj.out.bel ap);have bq:=Zh (cd.out.old ap);refine J _ _ ⟨Cs.keeps (Znz.upd n.out.map aI.out) ac.out,?_⟩;clear J Kv ap
      repeat refine pO ?_
      refine oO fun Kv J=>?_;go_simp;refine (Zqp cv _ _ B.out (Zqn (Zqo L ar) hb1)).mono ?_;rintro e dA ⟨rfl,aq⟩;have ak:=Zh (aI.out.bel aq);have br:=Zh (bq.out.old aq);refine J _ _ ⟨Cs.keeps (Znz.upd n.out.map ak.out) ac.out,?_⟩;clear J Kv aq
      repeat refine pO ?_
      refine Zd5 ?_;have HXv:=Zh (show v=ZmX cv (ZmX (ZmY f s) 1) by rw [am.out,Zqv (by simp),ae.out]);have HXb:=Zh (Zqn B.out (Zqn (Zqo L ar) hb1));have HUz:=Zh (Y.out.trans ak.out);have HNz:=br;have HKz:=Zh (C.out.trans (Znz.upd n.out.map ak.out))
      go_wp2_with (go_at_call 292;refine (Zqp sv _ _ HIt.out.2.1 HXb.out).mono ?_;rintro e wE ⟨rfl,hbE⟩;have HBe:=Zh hbE;clear hbE)
      obtain ⟨q1,q2,q3,q4,q5⟩:=HIt.out;exact ⟨⟨j+1,p',ZmX sv v,rfl,by rw [HXv.out],hjl,⟨by omega,q4,Zqn q2 (HXv.out▸HXb.out),q1.keeps (HKz.out.trans (Znz.of HBe.out)),HWa.out⟩,HUz.out.bel HBe.out,HNz.out.old HBe.out⟩,by simp [intOf];omega⟩
    by_cases h30:u=30
    ·subst h30
     as_aux_lemma=>
     have HXv:=Zh (show v=cv by rw [am.out,Zqw rfl,ae.out]);have HXb:=B;have HUz:=Y;have HNz:=n;have HKz:=C;exact j1
    ·rcases (show u=31∨u=32 by omega) with h31|h31<;>subst h31
     all_goals
      as_aux_lemma=>
      have HXv:=Zh (show v=ZmX cv (ZmX f 1) by rw [am.out,Zqx (by simp),ae.out]);have HXb:=Zh (Zqn B.out (Zqn L hb1))
      go_upto_region 28 with fail
      clear i1 x4
      go_wp2_with fail
      refine (aQ.out _ _ E.out n.out C.out).mono ?_;rintro e w7 ⟨rfl,I,N⟩;have X:=Zh I;have al:=Zh (N.weak (R:=fun j=>Q j∨j<k) fun q hq=>hq.elim id .inr);clear I N b0 b1 b2 b3 b4 x3
      go_wp2_with fail
      refine (Zqp f 1 _ L hb1).mono ?_;rintro e w8 ⟨rfl,x⟩;have b8:=Zh x;clear x
      go_wp2_with fail
      refine (Zqp cv _ _ B.out (Zqn L hb1)).mono ?_;rintro e w9 ⟨rfl,hb9⟩;have aP:=Zh (Zaf b8.out hb9);clear hb9
      go_upto_region 31 with fail
      have HUz:=Zh ((Y.out.trans X.out).bel aP.out);have HNz:=Zh (al.out.old aP.out);have HKz:=Zh ((C.out.trans (Znz.upd n.out.map X.out)).trans (Znz.of aP.out))
      go_wp2_with (go_at_call 292;refine (Zqp sv _ _ HIt.out.2.1 HXb.out).mono ?_;rintro e wE ⟨rfl,hbE⟩;have HBe:=Zh hbE;clear hbE)
      obtain ⟨q1,q2,q3,q4,q5⟩:=HIt.out;exact ⟨⟨j+1,p',ZmX sv v,rfl,by rw [HXv.out],hjl,⟨by omega,q4,Zqn q2 (HXv.out▸HXb.out),q1.keeps (HKz.out.trans (Znz.of HBe.out)),HWa.out⟩,HUz.out.bel HBe.out,HNz.out.old HBe.out⟩,by simp [intOf];omega⟩
   ·have O:ZaR u=false:=by simpa using ho
    have dj:¬ u=29:=by have:=O;unfold ZaR inI at this;simp at this;omega
    have dk:¬ u=33:=by have:=O;unfold ZaR inI at this;simp at this;omega
    have dl:¬ u=31:=by have:=O;unfold ZaR inI at this;simp at this;omega
    have dm:¬ u=32:=by have:=O;unfold ZaR inI at this;simp at this;omega
    by_cases h28:u=28
    ·subst h28
     as_aux_lemma=>
     have HXv:=Zh (show v=-1 by rw [aC.out O,Zqt rfl]);have HXb:=Zh (show Bl (-1) by unfold Bl;omega);have HUz:=Y;have HNz:=n;have HKz:=C;clear ho O;exact j1
    ·have HXv:=Zh (show v=cv by rw [aC.out O,Zqu h25 h26 h28,ae.out]);have HXb:=B;have HUz:=Y;have HNz:=n;have HKz:=C;clear ho O;exact j1
  ·obtain rfl:j=g.length:=by omega
   have cu:¬ (g.length:Int) < g.length:=by omega
   go_wp2;go_ret;obtain ⟨-,-,-,D,aH⟩:=HS.out;rw [List.drop_eq_nil_iff.2 (Nat.le_refl _)] at D;cases D with
   | nil _ _=>exact ⟨by rw [aH,Zmv];rfl,(Upd.of HB1.out).trans HU.out,HN.out⟩
end
end
section
open Go.RowKit
section
variable {M:Nat}{h:Hd}{m:Md}{T:Nat→Int}{k:Nat}
theorem ZrC (c:Lkr m T) (d:k<m.me.length) (e:∀ j,j<k→ZqC M h m T j):∀ (n a b:Nat),b-a≤n→ZqD M h m T k a b
 | 0,a,b,hn=>ZrB c d e fun f g l o w Q r q i _ _ _ p=>by have:=p.le;omega
 | n+1,a,b,hn=>ZrB c d e fun f g l o=>ZrC c d e n f g (by omega)
theorem ZrD (a:Lkr m T):∀ (n k:Nat),k<n→k<m.me.length→ZqC M h m T k
 | 0,k,hn,_=>by omega
 | n+1,k,hn,hk=>ZqE a hk (ZrC a hk (fun j b=>ZrD a n j (by omega) (by omega)) (cdM m k).length 0 (cdM m k).length (by omega))
end
theorem ZrE {m:Md} (b:Za1 m=true):∀ (n k:Nat),k<n→Bl (Zm1 (gL m) m k)
 | 0,k,hn=>by omega
 |n+1,k,hn=>by
  have a:Bl 0:=by unfold Bl;omega
  rw [ZoL];by_cases hk:k<m.me.length
  ·refine ZqB (fun i c=>((ZfN b hk).i i c).1) (fun t=>?_) (Zmq (ZfN b hk).n) 0 a;by_cases hj:t.toNat<k
   ·rw [Zm3 _ _ hj];exact ZrE b n _ (by omega)
   ·rw [List.getD_eq_getElem?_getD,List.getElem?_eq_none (by rw [Zm2];omega)];exact a
  ·rw [ZoK (by omega)];show Bl (WA _ _ 0 0 0);rw [Zmv];exact a
theorem ZrF {m:Md} (b:Za1 m=true) {k:Nat} (a:k<m.me.length):Zm1 (gL m) m k=WA (gLT m (Zm1 (gL m) m)) (cdM m k) 0 (cdM m k).length 0:=by
 refine Zm5 (Zmq (ZfN b a).n) (fun _ _=>rfl) (fun _ _=>rfl) (fun i c=>?_);have ho:=ZfS ((ZfN b a).i i c).1 ((ZfN b a).i i c).2;show (if i.op=25 then ZmX (ZmU i) _ else if i.op=26 then ZmX (ZmU i) _ else _)=if i.op=25 then ZmX (ZmU i) _ else if i.op=26 then ZmX (ZmU i) _ else _;by_cases h25:i.op=25
 ·exact j16
 ·rw [if_neg h25,if_neg h25];by_cases h26:i.op=26
  ·rw [if_pos h26,if_pos h26];congr 1;refine Zm7 fun t d=>?_;have:=(ho.o26 h26).2 t d;have:=ZfT d;rw [Zm3 _ _ (by omega)]
  ·rw [if_neg h26,if_neg h26]
theorem ZrG {m:Md} (a:Za1 m=true):Lkr m (Zm1 (gL m) m):=⟨a,fun k=>ZrE a (k+1) k (by omega),fun k b=>ZrF a b⟩
def ZrH (m:Md) (k:Int):Int × Int:=if ZoS m k=true then (if Zm1 (gL m) m k.toNat<0 then (0,3) else if 1000000000<Zm1 (gL m) m k.toNat then (0,6) else (Zm1 (gL m) m k.toNat,0)) else (0,1)
theorem ZrI (m:Md) (h:Hd) (k:Int) (w:World) (H:Zay w h m):Calls Tryz.prog 98 #[.agg (HM.mk h m),.int .i64 k] w (Zhf w (.int .i64 (ZrH m k).1) (.int .i64 (ZrH m k).2)):=by
 have u:=@run_makeMap Tryz.prog;have g:Below w.heap.size w (w.alloc (.cells (HM.mk h m) 26)):=by exact bE
 have HA:=Zh (ZoU m h k _ (H.old g));obtain ⟨A,a⟩:∃ r,r=(ZrH m k).1:=⟨_,rfl⟩;obtain ⟨B,b⟩:∃ r,r=(ZrH m k).2:=⟨_,rfl⟩;rw [←a,←b];have HB0:=Zh g;have q:=Zh (Blk.new w (HM.mk h m) 26);have C:=Zh H;rcases hq:ZoS m k with _|_
 ·rw [hq] at HA;have i:A=0:=by rw [a];unfold ZrH;rw [hq];rfl
  have j:B=1:=by rw [b];unfold ZrH;rw [hq];rfl
  have HE:=Zh (And.intro i j);clear g H a b hq i j u;go_enter Tryz.func98,Tryz.ntmps98;exact j7
 ·rw [hq] at HA;obtain ⟨z,F,G⟩:=ZoT hq;obtain ⟨k,rfl⟩:∃ d:Nat,k=d:=⟨k.toNat,by omega⟩;have t:k<m.me.length:=by omega
  obtain ⟨v,n⟩:∃ v,v=Zm1 (gL m) m k:=⟨_,rfl⟩;have i:A=if v<0 then 0 else if 1000000000<v then 0 else v:=by rw [a,n];unfold ZrH;rw [hq,if_pos rfl,Int.toNat_natCast];split;rfl;split<;>rfl
  have j:B=if v<0 then 3 else if 1000000000<v then 6 else 0:=by rw [b,n];unfold ZrH;rw [hq,if_pos rfl,Int.toNat_natCast];split;rfl;split<;>rfl
  have HE:=Zh (And.intro i j);have D:=Zh (fun M=>ZrD (M:=M) (h:=h) (ZrG z) (k+1) k (by omega) t);have E:=Zh n;clear g H a b hq i j n z;go_enter Tryz.func98,Tryz.ntmps98;by_cases hneg:v<0
  all_goals
   go_wp2_with (first
    | (go_at_call 100;refine HA.out.mono ?_;rintro e w1 ⟨rfl,hb1⟩;have c:=Zh (Zaf HB0.out hb1);have f:=Zh (q.out.old hb1);have K:=f.out.cell 0 (v:=.slice h.co m.cl.length h.cc) rfl;have L:=f.out.cell 1 (v:=.slice h.so m.st.length h.sc) rfl;have N:=f.out.cell 2 (v:=.slice h.eo m.me.length h.ec) rfl;have O:=f.out.cell 3 (v:=.int .i64 m.sel) rfl;clear hb1)
    | (go_at_call 156;refine (D.out w1.heap.size _ _ (C.out.old (by have:=c.out;exact bE)) (KnM.made _ w1)).mono ?_;rintro e I ⟨rfl,l,x⟩;rw [←E.out];have o:=Zh l;clear l x)
    | (go_at_call 105;refine (ZnS _ _).mono ?_;rintro e J ⟨rfl,s⟩))
   all_goals
    go_ret2;exact Zhg (ZcY (by rw [HE.out.1];grind)) (ZcY (by rw [HE.out.2];grind)) (by
     have y:=o.out.below (bal c.out _) (Nat.le_refl _) c.out.size c.out.size
     first|exact y|exact Zaf y s)
end
section
open Go.RowKit
def ZrJ (B M:Nat) (h:Hd) (m:Md) (lock:Int) (k a b:Nat):Prop:=∀ w Q ro rc rows,ZnD w B M h m ZoP false (Zm1 (gW ZmV m) m) Q→Zar w ro rc rows→Nds w (cdM m k) (fun _=>True) a b rows →
 Calls Tryz.prog 103 #[ZQ.p B,.int .i64 k,.int .i64 lock,.slice ro rows.length rc] w (ZnE w M (Zm1 (gW ZmV m) m) (fun j=>Q j∨j<k) (Zpo (gC m) (cdM m k) lock a b))
theorem ZrK {w:World}{l:List In3}{p a b:Nat}{y:VN} (H:ZnM w l p y a) (r:a≤b) (g:Wg):y.at_=p∧p<l.length∧∃ (F S:List VN) (c d f i:Nat),(y.fn=F.length∧Zar w y.fo y.fc F∧Nds w l (fun _=>True) c d F∧p<c∧d≤a)∧(y.sn=S.length∧Zar w y.so y.sc S∧Nds w l (fun _=>True) f i S∧p<f∧i≤a) ∧
  ((l.getD p default).op=31→c=p+1∧(mtV l p).2=d)∧∀ lock,Zpo g l lock p b=max (max (max (max 0 (lkV g l lock p)) (Zpo g l lock c d)) (Zpo g l lock f i)) (Zpo g l lock a b):=by
 cases H with
 |pl h1 h2=>
  refine ⟨rfl,h1,[],[],p+1,p+1,p+1,p+1,⟨rfl,Zar.nil _,.nil _ (by omega),by omega,by omega⟩,⟨rfl,Zar.nil _,.nil _ (by omega),by omega,by omega⟩,fun q=>?_,fun lock=>?_⟩
  ·rw [q] at h2;exact absurd h2 (by decide)
  ·have:=Zps (g:=g) (l:=l) (lock:=lock) (p+1) b;rw [Zpy h2 (by omega),Zpx (fun e=>by rw [e] at h2;exact absurd h2 (by decide)),Zpr];omega
 |one en fo fc F h1 h2 h3=>
  have o:=ZbI h1;refine ⟨rfl,h1.1,F,[],p+1,en,en,en,⟨rfl,h2,h3,by omega,by omega⟩,⟨rfl,Zar.nil _,.nil _ (by have:=h1.2.2.1;omega),by omega,by omega⟩,fun q=>⟨rfl,by rw [Zmn h1]⟩,fun lock=>?_⟩;have:=Zps (g:=g) (l:=l) (lock:=lock) (p+1) en;rw [ZpA h1 (by omega),Zpr];omega
 |two n en fo so fc sc F S h1 h2 h3 j h5=>
  have:=(h3.le).1;have:=(h5.le).1;refine ⟨rfl,h1.1,F,S,p+1,n,n+1,en,⟨rfl,h2,h3,by omega,by omega⟩,⟨rfl,j,h5,by omega,by omega⟩,fun q=>?_,fun lock=>?_⟩
  ·obtain ⟨_,_,_,_,j⟩:=h1;rcases j with ⟨e,_⟩|⟨_,_,_,_,e,_⟩<;>omega
  ·rw [ZpB h1 (by omega) (by omega)]
theorem ZrL {B M:Nat}{h:Hd}{m:Md} (hv:Za1 m=true) {k:Nat} (hk:k<m.me.length) (lock:Int) {a b:Nat} (ih:∀ a' b',b'-a' < b-a→ZrJ B M h m lock k a' b'):ZrJ B M h m lock k a b:=by
 intro w Q ro rc f H hr r;have cL:=r.le;have hc:(cdM m k).length≤120:=(ZfN hv hk).z.2.2;have cq:f.length≤120:=by omega
 have av:=Zh ih;have HV:=Zh hv;have HH:=Zh H;have HR:=Zh hr;have HD:=Zh r;have cK:(k:Int) < m.me.length:=by omega
 clear H hr r ih hv;go_enter Tryz.func103,Tryz.ntmps103;go_wp2
 go_loopw [9,15] (fun s i wr=>∃ (j p:Nat) (sv:Int),i=.int .i64 j∧s=.int .i64 sv∧j≤f.length∧Hid (a≤p∧0≤sv∧Nds wr (cdM m k) (fun _=>True) p b (f.drop j)∧Zpo (gC m) (cdM m k) lock a b=max sv (Zpo (gC m) (cdM m k) lock p b))∧Hid (Upd M M w wr)∧Hid (KnM (Zm1 (gW ZmV m) m) wr M fun j=>Q j∨j<k)) (fun _ i _=>f.length-(intOf i).toNat)
 case atStart=>exact ⟨0,a,0,rfl,rfl,Nat.zero_le _,⟨Nat.le_refl _,Int.le_refl _,HD.out,by have:=Zps (g:=gC m) (l:=cdM m k) (lock:=lock) a b;omega⟩,Upd.refl _ _ _,HH.out.kn.weak fun _ h=>.inl h⟩
 case round=>
  obtain ⟨j,p,sv,rfl,rfl,hj,HS,HU,HN⟩:=hrel;rename World=>wr;have au:=Zh (HH.out.next HU.out HN.out);by_cases hjl:j<f.length
  ·obtain ⟨bu,aF,r,al⟩:=HS.out;have bx:f.drop j=f.getD j default :: f.drop (j+1):=by rw [List.drop_eq_getElem_cons hjl];simp [hjl]
   rw [bx] at r;obtain ⟨p',a7,aM,bG,ba,-⟩:=ZnO r (gC m);obtain ⟨ad,rfl,c0,c1,c2,c3,c4⟩:=ZnW (ZnA HR.out (HH.out.keeps HU.out)) hjl;obtain ⟨y,hy⟩:∃ y,y=f.getD j default:=⟨_,rfl⟩;rw [←hy] at a7 c0 c1 c2 c3 c4;obtain ⟨bK,bF,F,S,a1,b1,a2,b2,⟨bz,bb,bC,aN,aK⟩,⟨bI,bc,bD,aO,aL⟩,aa,aP⟩:=ZrK a7 ba (gC m);obtain ⟨ya,yl,ye,yf,cU,u,ys,cV,D⟩:=y;dsimp only at bK bz bI bb bc c0 c1 c2 c3 c4;subst bK bz bI;rw [aP lock] at al;obtain ⟨ea,he,-,-,-,-,-,-,e6⟩:=au.out.md.mth hk;rw [show (m.me.getD k default).k.length=(cdM m k).length from rfl] at e6;have d2:=au.out.wk.cell 2 (v:=.slice h.eo m.me.length h.ec) rfl;rw [he] at d2;obtain ⟨A,bw,o0,o1,o2⟩:=ZaA (l:=cdM m k) (au.out.md.k k hk) bF;rw [bw] at e6;have cd:(cdM m k).getD p default∈cdM m k:=ZfU _ bF;obtain ⟨i,hi⟩:∃ i,i=(cdM m k).getD p default:=⟨_,rfl⟩;rw [←hi] at o0 o1 o2;have aV:=Zh (show ∀ q:Int,lkV (gC m) (cdM m k) lock p=q→True from fun _ _=>trivial);clear aV bw he;obtain ⟨op,ia,ib⟩:=i;dsimp only at o0 o1 o2;have cr:(p:Int) < (cdM m k).length:=by omega
   have l0:=Zac c0;have l1:=Zac o0;have l2:=Zac d2;have l3:=Zac e6;dsimp only at l2 l3;have cp:(j:Int) < f.length:=by omega
   have cM:IntKind.i64.wrap ((j:Int)+1)=((j+1:Nat):Int):=IntWalk.i64_in _ (by omega)
   -- ROUND
   obtain ⟨N,hN⟩:∃ N,N=wr.heap.size:=⟨_,rfl⟩;obtain ⟨w4,aG⟩:∃ w4,w4=wr.alloc (.cells #[.int .i64 p,.int .i64 yl,.int .i64 ye,.slice yf F.length u,.slice ys S.length D] 193):=⟨_,rfl⟩;have a3:Below wr.heap.size wr w4:=by rw [aG];exact bE
   have ay:=Zh (show Blk w4 N #[.int .i64 p,.int .i64 yl,.int .i64 ye,.slice yf F.length u,.slice ys S.length D] 193 by rw [aG];exact Blk.new' _ _ hN);have br:=Zh (And.intro hN aG);have bX:=Zh (show Cs [(⟨B,2,none⟩,.slice (some ea) m.me.length h.ec),(⟨(ea.add (k*7)).block,(ea.add (k*7)).off+6,none⟩,.slice (some A) (cdM m k).length (h.e k).kc),(A.add (p*3),.int .i64 op),(⟨(A.add (p*3)).block,(A.add (p*3)).off+1,none⟩,.int .i64 ia),(⟨(A.add (p*3)).block,(A.add (p*3)).off+2,none⟩,.int .i64 ib)] wr from ⟨d2,e6,o0,o1,o2,trivial⟩);have b3:=Zh (show wr.heap.size≤N∧B<N∧(ea.add (k*7)).block<N∧(A.add (p*3)).block<N by rw [hN];exact ⟨Nat.le_refl _,by omega,by omega,by omega⟩);have Z:=Znz.of a3;have a5:Cs [(⟨B,2,none⟩,.slice (some ea) m.me.length h.ec),(⟨(ea.add (k*7)).block,(ea.add (k*7)).off+6,none⟩,.slice (some A) (cdM m k).length (h.e k).kc),(A.add (p*3),.int .i64 op),(⟨(A.add (p*3)).block,(A.add (p*3)).off+1,none⟩,.int .i64 ia),(⟨(A.add (p*3)).block,(A.add (p*3)).off+2,none⟩,.int .i64 ib),(⟨N,0,none⟩,.int .i64 p)] w4:=⟨Z _ _ d2,Z _ _ e6,Z _ _ o0,Z _ _ o1,Z _ _ o2,ay.out.cell 0 rfl,trivial⟩;have bh:=Zh a3;have bj:=Zh a5;clear aG hN a3 Z
   go_upto_region 5 with fail
   rw [←br.out.1,←br.out.2];refine rO (Cs [(⟨B,2,none⟩,.slice (some ea) m.me.length h.ec),(⟨(ea.add (k*7)).block,(ea.add (k*7)).off+6,none⟩,.slice (some A) (cdM m k).length (h.e k).kc),(A.add (p*3),.int .i64 op),(⟨(A.add (p*3)).block,(A.add (p*3)).off+1,none⟩,.int .i64 ia),(⟨(A.add (p*3)).block,(A.add (p*3)).off+2,none⟩,.int .i64 ib),(⟨N,0,none⟩,.int .i64 p)]) (oL [0,1,2,3,4,5,6,7,8,9,10,11,12,113,114]) a5 ?_;clear a5 d2 e6 o0 o1 o2 c0 c1 c2 c3 c4
   repeat refine pO ?_
   refine oO fun Kv E=>?_;go_simp;obtain ⟨I,hI⟩:∃ I,I=w4.heap.size:=⟨_,rfl⟩;obtain ⟨w5,aH⟩:∃ w5,w5=(w4.alloc (.cells #[.int .i64 0,.int .i64 0,.int .i64 0] 78)).drew:=⟨_,rfl⟩;rw [←hI,←aH];have aB:Below w4.heap.size w4 w5:=by rw [aH];exact bE
   have z:=Zh (show Blk w5 I #[.int .i64 0,.int .i64 0,.int .i64 0] 78 by rw [aH];exact (Blk.new' _ _ hI).drew);have bs:=Zh (ay.out.old aB);have bi:=Zh (Zaf bh.out aB);have bm:=Zh (show N<I by have h1:=ay.out.lt;rw [hI];exact h1);refine E _ _ ⟨Cs.keeps (Znz.of aB) bj.out,?_⟩;clear E Kv aH hI aB ay bh bj;have f0:=z.out.frozen 0;have f1:=z.out.frozen 1;have f2:=z.out.frozen 2;have z0:=z.out.cell 0 (v:=.int .i64 0) rfl;have z1:=z.out.cell 1 (v:=.int .i64 0) rfl;have z2:=z.out.cell 2 (v:=.int .i64 0) rfl;have cb:=z.out.lt;refine oO fun Kv E=>?_;go_simp;obtain ⟨w6,an⟩:∃ w6,w6=((w5.setCell ⟨I,0,none⟩ (.int .i64 op)).setCell ⟨I,1,none⟩ (.int .i64 ia)).setCell ⟨I,2,none⟩ (.int .i64 ib):=⟨_,rfl⟩;rw [←an];have aE:N≠I:=Nat.ne_of_lt bm.out;have X:wr.heap.size≤I:=Nat.le_trans b3.out.1 (Nat.le_of_lt bm.out);have bl:=Zh (show Blk w6 I #[.int .i64 op,.int .i64 ia,.int .i64 ib] 78 by rw [an];exact ((z.out.set 0 (.int .i64 op)).set 1 (.int .i64 ia)).set 2 (.int .i64 ib));have ah:=Zh (show Blk w6 N #[.int .i64 p,.int .i64 yl,.int .i64 ye,.slice yf F.length u,.slice ys S.length D] 193 by rw [an];exact ((bs.out.other (a:=⟨I,0,none⟩) aE _).other (a:=⟨I,1,none⟩) aE _).other (a:=⟨I,2,none⟩) aE _);have x:=Zh (show Below wr.heap.size wr w6 by rw [an];exact ZcW (j:=2) (ZcW (j:=1) (ZcW (j:=0) bi.out X _) X _) X _);clear an aE X z0 z1 z2 f0 f1 f2 cb z bs bi;obtain ⟨y0,y1,y2,y3,y4,-⟩:=Cs.keeps (Znz.of x.out) bX.out;refine E _ _ ⟨⟨y0,y1,y2,y3,y4,ah.out.cell 0 rfl,trivial⟩,?_⟩;clear E Kv y0 y1 y2 y3 y4
   refine Zd5 ?_;have i0:=bl.out.cell 0 (v:=.int .i64 op) rfl;have i1:=bl.out.cell 1 (v:=.int .i64 ia) rfl;have Y:=Zh (au.out.old x.out);have bq:=Zh (HU.out.trans (Upd.of x.out));have K:=Zh (And.intro (bb.old x.out) (bC.keeps (Znz.of x.out)));have ax:=Zh (And.intro (bc.old x.out) (bD.keeps (Znz.of x.out)));have bo:=Zh al;have n:=Zh (And.intro aN (And.intro aK (And.intro aO (And.intro aL (And.intro bG (And.intro ba (And.intro bu aF)))))));have bn:=Zh aM;have aV:=Zh aa;have aT:=Zh hi;clear bb bC bc bD al aN aK aO aL bG ba bu aF aM aa hi cd a7 r bx aP hy;obtain ⟨lv,a9⟩:∃ lv,lv=lkV (gC m) (cdM m k) lock p:=⟨_,rfl⟩;have aw:=Zh a9;have am:=bo.out;rw [←a9] at am;have bp:=Zh am;clear a9 am bo;by_cases hl:op=31∧ia=lock
   ·obtain ⟨rfl,a8⟩:=hl;have a8:=a8.symm;subst a8;have aa:=aV.out (by rw [←aT.out]);have aD:lv=ZmS (WA (gC m) (cdM m k) a1 b1 0) 1:=by rw [aw.out];unfold lkV;rw [←aT.out,if_pos ⟨rfl,rfl⟩,aa.2,aa.1]
    have bZ:=Zh aD;have bH:=K.out.2.seg;have a4:=Zqb HV.out hk bH (acc:=0) (by unfold Bd;omega);obtain ⟨fv,a6⟩:∃ v,v=WA (gC m) (cdM m k) a1 b1 0:=⟨_,rfl⟩;rw [←a6] at a4;have bW:=Zh a4;have bk:=Zh a6;have HL:=Zh (ZoF (B:=B) (M:=M) (h:=h) (ZoW HV.out w6) hk (fun j hj=>ZoG (ZoW HV.out w6) (j+1) j (by omega) (by omega)) (b1-a1) a1 b1 (Nat.le_refl _) w6 (fun j=>Q j∨j<k) _ _ _ Y.out (Znz.refl _) K.out.1 K.out.2);have n3:=ah.out.cell 3 (v:=.slice yf F.length u) rfl;clear aa aD bH a4 a6
    go_upto_region 8 with (first
     | (go_at_call 161;refine HL.out.mono ?_;rintro e w7 ⟨rfl,bJ,bB⟩;rw [show WA (gT ZmV m (Zm1 (gW ZmV m) m)) (cdM m k) a1 b1 0=fv from bk.out.symm];have b0:=Zh (bB.weak (R:=fun j=>Q j∨j<k) fun _ h=>h.elim id .inr);have aY:=Zh bJ;clear bJ bB)
     | (go_at_call 160;refine (ZnQ _ _ _ bW.out ⟨by omega,by omega⟩).mono ?_;rintro e w8 ⟨rfl,bv⟩;have aQ:=Zh bv;clear bv))
    rw [show ZmS fv 1=lv by rw [bZ.out,bk.out]];have aC:=(Znz.upd Y.out.kn.map aY.out).trans (Znz.of aQ.out);have aS:=Zh ((Y.out.next aY.out b0.out).old aQ.out);have b4:=Zh (bq.out.trans (aY.out.bel aQ.out));have af:=Zh (show Cs [(⟨N,3,none⟩,.slice yf F.length u),(⟨N,4,none⟩,.slice ys S.length D)] w8 from ⟨aC _ _ n3,aC _ _ (ah.out.cell 4 rfl),trivial⟩);have J:=Zh aC;clear aC n3 i0 i1;refine rO (Cs [(⟨N,3,none⟩,.slice yf F.length u),(⟨N,4,none⟩,.slice ys S.length D)]) (oL [0,1,2,3,4,5,7,8,9,10,11,106,112,13,14]) af.out ?_
    repeat refine pO ?_
    refine oO fun Kv E=>?_;go_simp;refine (av.out a1 b1 (by have:=n.out;omega) _ (fun j=>Q j∨j<k) _ _ _ (aS.out.drew) (ZnA K.out.1 J.out) (K.out.2.keeps J.out)).mono ?_;rintro e wA ⟨rfl,C,aj⟩;have aW:=Zh (aj.weak (R:=fun j=>Q j∨j<k) fun _ h=>h.elim id .inr);have L:=Znz.upd (aS.out.drew).kn.map C;have aZ:=Zh (b4.out.drew.trans C);have ae:=Zh ((aS.out.drew).next C aW.out);have ac:=Zh (Cs.keeps L (show Cs [(⟨N,3,none⟩,.slice yf F.length u),(⟨N,4,none⟩,.slice ys S.length D)] w8.drew from af.out));have G:=Zh (J.out.trans (show Znz w8 wA from L));refine E _ _ ⟨ac.out,?_⟩;clear E Kv C aj L;refine oO fun Kv E=>?_;go_simp;refine (av.out a2 b2 (by have:=n.out;omega) _ (fun j=>Q j∨j<k) _ _ _ ae.out (ZnA ax.out.1 G.out) (ax.out.2.keeps G.out)).mono ?_;rintro e wB ⟨rfl,U,ak⟩;have aX:=Zh (ak.weak (R:=fun j=>Q j∨j<k) fun _ h=>h.elim id .inr);have O:=Znz.upd ae.out.kn.map U;have a0:=Zh (aZ.out.trans U);have aR:=Zh (Cs.keeps O ac.out);have aU:=Zh (G.out.trans O);refine E _ _ ⟨aR.out,?_⟩;clear E Kv U ak O;obtain ⟨v1,V⟩:∃ v,v=Zpo (gC m) (cdM m k) lock a1 b1:=⟨_,rfl⟩;obtain ⟨v2,W⟩:∃ v,v=Zpo (gC m) (cdM m k) lock a2 b2:=⟨_,rfl⟩;rw [←V,←W];have ag:=Zh (And.intro V W);clear V W
    repeat refine pO ?_
    refine Zd5 ?_;go_wp2;refine ⟨⟨j+1,p',_,rfl,rfl,hjl,⟨by have:=n.out;omega,?_,bn.out.keeps ((Znz.of x.out).trans aU.out),?_⟩,a0.out,aX.out⟩,by simp [intOf];omega⟩
    ·have h1:=n.out.2.2.2.2.2.2.2;have h2:=aw.out
     (repeat' split)<;>omega
    ·rw [bp.out,←ag.out.1,←ag.out.2];have h1:=n.out.2.2.2.2.2.2.2;have h2:=aw.out
     (repeat' split)<;>omega
   ·have aD:lv=0:=by rw [aw.out];unfold lkV;rw [←aT.out,if_neg hl]
    subst aD;have cH:(op == 31&&ia == lock)=false:=by
     cases h1:(op == 31)<;>cases h2:(ia == lock)<;>simp_all
    have af:=Zh (show Cs [(⟨N,3,none⟩,.slice yf F.length u),(⟨N,4,none⟩,.slice ys S.length D)] w6 from ⟨ah.out.cell 3 rfl,ah.out.cell 4 rfl,trivial⟩);have J:=Zh (Znz.refl w6)
    go_upto_region 8 with fail
    all_goals
     refine rO (Cs [(⟨N,3,none⟩,.slice yf F.length u),(⟨N,4,none⟩,.slice ys S.length D)]) (oL [0,1,2,3,4,5,7,8,9,10,11,106,112,13,14]) af.out ?_
     repeat refine pO ?_
     refine oO fun Kv E=>?_;go_simp;refine (av.out a1 b1 (by have:=n.out;omega) _ (fun j=>Q j∨j<k) _ _ _ (Y.out.drew) (ZnA K.out.1 J.out) (K.out.2.keeps J.out)).mono ?_;rintro e wA ⟨rfl,C,aj⟩;have aW:=Zh (aj.weak (R:=fun j=>Q j∨j<k) fun _ h=>h.elim id .inr);have L:=Znz.upd (Y.out.drew).kn.map C;have aZ:=Zh (bq.out.drew.trans C);have ae:=Zh ((Y.out.drew).next C aW.out);have ac:=Zh (Cs.keeps L (show Cs [(⟨N,3,none⟩,.slice yf F.length u),(⟨N,4,none⟩,.slice ys S.length D)] w6.drew from af.out));have G:=Zh (J.out.trans (show Znz w6 wA from L));refine E _ _ ⟨ac.out,?_⟩;clear E Kv C aj L;refine oO fun Kv E=>?_;go_simp;refine (av.out a2 b2 (by have:=n.out;omega) _ (fun j=>Q j∨j<k) _ _ _ ae.out (ZnA ax.out.1 G.out) (ax.out.2.keeps G.out)).mono ?_;rintro e wB ⟨rfl,U,ak⟩;have aX:=Zh (ak.weak (R:=fun j=>Q j∨j<k) fun _ h=>h.elim id .inr);have O:=Znz.upd ae.out.kn.map U;have a0:=Zh (aZ.out.trans U);have aR:=Zh (Cs.keeps O ac.out);have aU:=Zh (G.out.trans O);refine E _ _ ⟨aR.out,?_⟩;clear E Kv U ak O;obtain ⟨v1,V⟩:∃ v,v=Zpo (gC m) (cdM m k) lock a1 b1:=⟨_,rfl⟩;obtain ⟨v2,W⟩:∃ v,v=Zpo (gC m) (cdM m k) lock a2 b2:=⟨_,rfl⟩;rw [←V,←W];have ag:=Zh (And.intro V W);clear V W
     repeat refine pO ?_
     refine Zd5 ?_;go_wp2;refine ⟨⟨j+1,p',_,rfl,rfl,hjl,⟨by have:=n.out;omega,?_,bn.out.keeps ((Znz.of x.out).trans aU.out),?_⟩,a0.out,aX.out⟩,by simp [intOf];omega⟩
     ·have h1:=n.out.2.2.2.2.2.2.2
      skip
      (repeat' split)<;>omega
     ·rw [bp.out,←ag.out.1,←ag.out.2];have h1:=n.out.2.2.2.2.2.2.2
      skip
      (repeat' split)<;>omega
  ·have cJ:¬ (j:Int) < f.length:=by omega
   go_wp2;go_ret;obtain ⟨-,aF,r,al⟩:=HS.out;rw [List.drop_eq_nil_iff.2 (by omega)] at r;cases r with
   | nil _ _=>exact ⟨by rw [al,Zpr,Int.max_eq_left aF];rfl,HU.out,HN.out⟩
theorem ZrM {B M:Nat}{h:Hd}{m:Md} (d:Za1 m=true) {k:Nat} (c:k<m.me.length) (lock:Int):∀ (n a b:Nat),b-a<n→ZrJ B M h m lock k a b
 | 0,a,b,hn=>by omega
 | n+1,a,b,hn=>ZrL d c lock fun e f g=>ZrM d c lock n e f (by omega)
end
