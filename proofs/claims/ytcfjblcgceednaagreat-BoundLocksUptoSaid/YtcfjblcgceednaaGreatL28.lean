import Derived.Test.YtcfjblcgceednaaGreatL26
import Derived.Test.YtcfjblcgceednaaGreatG23
set_option linter.all false
set_option maxRecDepth 100000
set_option maxHeartbeats 16000000
namespace Go.Proofs.YtcfjblcgceednaaGreat
theorem j7{p:Prop}(h:p:=by
 go_wp2_with (go_at_call 100;refine HA.out.mono ?_;rintro e w1 ⟨rfl,hb1⟩)
 exact j22):p:=h
theorem j12{p:Prop}(h:p:=by
 simp only [ZaQ,Bool.and_eq_true] at h;have:=h.1.1.2;rcases ho with rfl|rfl
 ·unfold inR at this;simp [opA,ZaO,ZaP,inI] at this;omega
 ·unfold inR at this;simp [opA,ZaO,ZaP,inI] at this;omega):p:=h
theorem j15{p:Prop}(h:p:=by
 subst ho;simp only [ZaQ,Bool.and_eq_true] at h;have:=h.1.1.2;unfold inR at this;simp [opA,ZaO,ZaP,inI] at this;omega):p:=h
theorem j16{p:Prop}(h:p:=by
 rw [if_pos h25,if_pos h25];have:=(ho.o25 h25).1;have:=ho.a0 (by omega);dsimp only;rw [Zm3 _ _ (by omega)]):p:=h
theorem j22{p:Prop}(h:p:=by
 go_ret2;exact Zhg (ZcY HE.out.1.symm) (ZcY HE.out.2.symm) (Zaf HB0.out hb1)):p:=h
section
open Go.RowKit
section
variable {x:Ms}{B M:Nat}{h:Hd}{m:Md}{T:Nat→Int}{g:Nat}{caps:Array Value}{W0:World}{k:Nat}
section
variable {i:In3}{f s:Int}
theorem Zos (q:i.op=25):(gT x m T).pl i=ZmS (x.wt i) (T i.a.toNat):=if_pos q
theorem Zot (q:i.op=26):(gT x m T).pl i=ZmS (x.wt i) (ZmW (fun t=>T t.toNat) (ZaN m i.a)):=(if_neg (by omega)).trans (if_pos q)
theorem Zou (q:i.op≠25) (q2:i.op≠26):(gT x m T).pl i=x.wt i:=(if_neg q).trans (if_neg q2)
theorem Zov (q:i.op=29):(gT x m T).brk i f s=ZmS (x.wt i) (max (ZmS f x.tl) (ZmS s x.tl)):=if_pos q
theorem Zow (q:i.op=30):(gT x m T).brk i f s=ZmS (x.wt i) (ZmT i.a (ZmS f x.tl)):=(if_neg (by omega)).trans (if_pos q)
theorem Zox (q:i.op=31∨i.op=32∧x.sc=false):(gT x m T).brk i f s=ZmS (x.wt i) (ZmS f x.tl):=(if_neg (by omega)).trans ((if_neg (by omega)).trans ((if_neg (by rcases q with q|q;omega;simp [q.2])).trans (if_neg (by omega))))
theorem Zoy (q:i.op=32) (q2:x.sc=true):(gT x m T).brk i f s=x.wt i:=(if_neg (by omega)).trans ((if_neg (by omega)).trans (if_pos ⟨q,q2⟩))
theorem Zoz (q:i.op=33):(gT x m T).brk i f s=ZmS (x.wt i) (ZmS (ZmS f x.tl) s):=(if_neg (by omega)).trans ((if_neg (by omega)).trans ((if_neg (by omega)).trans (if_pos q)))
end
theorem ZoA {T:Int→Int}{l:List Int}{j:Nat} (a:j<l.length):ZmW T (l.take (j+1))=max (ZmW T (l.take j)) (T (l.getD j 0)):=by rw [List.take_succ_eq_append_getElem a];unfold ZmW;rw [List.foldl_append];simp [a]
theorem ZoB {w w':World}{M:Nat}{T:Nat→Int}{Q:Nat→Prop}{a b:Int} (e:a=b) (d:Upd M M w w') (c:KnM T w' M Q):ZnE w M T Q b (.returned (.int .i64 a)) w':=⟨by rw [e],d,c⟩
theorem ZoC {op a b:Int} (h:ZaQ false ⟨op,a,b⟩=true) (ho:op=30):0≤a∧a≤1000:=by exact j15
theorem ZoD {w:World}{l:List In3}{p j:Nat}{y:VN} (H:ZnM w l p y j) (G:Wg):y.at_=p∧p<l.length∧((y.en=-1∧ZaR (l.getD p default).op=false∧ZnN G l p y=G.pl (l.getD p default)) ∨
  ∃ (en:Nat) (F S:List VN) (a d c e:Nat),y.en=en∧en<l.length∧(l.getD en default).op=35∧ZaR (l.getD p default).op=true∧(y.fn=F.length∧Zar w y.fo y.fc F∧Nds w l (fun _=>True) a d F∧p<a∧d<j)∧(y.sn=S.length∧Zar w y.so y.sc S∧Nds w l (fun _=>True) c e S∧p<c∧e<j) ∧
   ZnN G l p y=G.brk (l.getD p default) (WA G l a d 0) (WA G l c e 0)):=by
 cases H with
 | pl h1 h2=>exact ⟨rfl,h1,.inl ⟨rfl,h2,by unfold ZnN;rw [if_neg (by rw [h2];decide)]⟩⟩
 |one en fo fc F h1 h2 h3=>
  have q:=ZbI h1;refine ⟨rfl,h1.1,.inr ⟨en,F,[],p+1,en,en,en,rfl,h1.2.2.1,h1.2.2.2.1,h1.2.1,⟨rfl,h2,h3,by omega,by omega⟩,⟨rfl,Zar.nil _,.nil _ (by have:=h1.2.2.1;omega),by omega,by omega⟩,?_⟩⟩;unfold ZnN;rw [if_pos (show ZaR (l.getD p default).op=true from h1.2.1),Zmv];dsimp only;rw [if_pos (show (-1:Int) < 0 by decide),if_pos (show (-1:Int) < 0 by decide),Int.toNat_natCast]
 |two n en fo so fc sc F S h1 h2 h3 h4 h5=>
  have:=(h3.le).1;have:=(h5.le).1;refine ⟨rfl,h1.1,.inr ⟨en,F,S,p+1,n,n+1,en,rfl,h1.2.2.1,h1.2.2.2.1,h1.2.1,⟨rfl,h2,h3,by omega,by omega⟩,⟨rfl,h4,h5,by omega,by omega⟩,?_⟩⟩;have o:¬ (n:Int) < 0:=by omega
  unfold ZnN;rw [if_pos (show ZaR (l.getD p default).op=true from h1.2.1)];dsimp only;rw [if_neg o,if_neg o,Int.toNat_natCast,Int.toNat_natCast]
theorem ZoE (HW:Wkr x m T g caps W0) (hk:k<m.me.length) (hm:∀ j,j<k→ZnX x B M h m T g caps W0 j) {p p':Nat}{y:VN} (bZ:∀ a b,p<a→b<p'→ZnY x B M h m T g caps W0 k a b):ZnZ x B M h m T g caps W0 k p y p':=by
 intro w Q H bY bX;obtain ⟨cc,hp,a0⟩:=ZoD bX (gT x m T);obtain ⟨ya,yl,ye,yf,a4,N,ys,a5,X⟩:=y;dsimp only at cc a0 ⊢;subst cc;clear bX;obtain ⟨ea,he,-,-,-,-,-,-,e6⟩:=H.md.mth hk;have c2:=H.wk.cell 2 (v:=.slice h.eo m.me.length h.ec) rfl;rw [he] at c2;have c4:=H.wk.cell 4 (v:=.func (Fn.func g) #[] caps) rfl;rw [show (m.me.getD k default).k.length=(cdM m k).length from rfl] at e6;obtain ⟨ca,bo,o0,o1,o2⟩:=ZaA (l:=cdM m k) (H.md.k k hk) hp;rw [bo] at e6;have cx:=Zh bo;clear bo;have aK:(cdM m k).getD p default∈cdM m k:=ZfU _ hp;have bt:=HW.opd hk aK;have bz:=HW.wt k hk _ aK;have aX:=((HW.ok hk).i _ aK).1;have ba:=Zh (HW.fn k hk _ aK);have bH:=Zh aX;obtain ⟨i,hi⟩:∃ i,i=(cdM m k).getD p default:=⟨_,rfl⟩;rw [←hi] at o0 o1 o2 bt bz ba a0 aX bH;obtain ⟨W,ia,ib⟩:=i;dsimp only at o0 o1 o2;have bu:=ZnU aX;dsimp only at bu;obtain ⟨v,hv⟩:∃ v,v=x.wt ⟨W,ia,ib⟩:=⟨_,rfl⟩;rw [←hv] at bz;rw [←hv] at ba;have cf:=HW.cf;have HV:=Zh hv;have aV:=Zh bt;have ac:=Zh HW;have Hj:=Zh hm;have HH:=Zh H;have HK:=Zh bY;have dA:(p:Int) < (cdM m k).length:=by omega
 have dw:(k:Int) < m.me.length:=by omega
 have l0:=Zac o0;have l2:=Zac c2;have lz:=Zac e6;dsimp only at l2 lz;obtain ⟨dB,dC⟩:=bz;obtain ⟨w2,aP⟩:∃ w2,w2=(w.alloc (.cells #[.int .i64 p,.int .i64 yl,.int .i64 ye,.slice yf a4 N,.slice ys a5 X] 193)).alloc (.cells #[.int .i64 W,.int .i64 ia,.int .i64 ib] 78):=⟨_,rfl⟩;have a9:=Zh (show Below w.heap.size w w2 by rw [aP];exact bE);have cI:=Zh (show Blk w2 w.heap.size #[.int .i64 p,.int .i64 yl,.int .i64 ye,.slice yf a4 N,.slice ys a5 X] 193 by rw [aP];exact (Blk.new w _ _).alloc _);have aT:=Zh (show Blk w2 (w.heap.size+1) #[.int .i64 W,.int .i64 ia,.int .i64 ib] 78 by rw [aP];exact Blk.new' (w:=w.alloc (.cells #[.int .i64 p,.int .i64 yl,.int .i64 ye,.slice yf a4 N,.slice ys a5 X] 193)) _ _ (by simp));have cH:=Zh aP;have ds:=Zh bu;have bi:=Zh a0;have bJ:=Zh bZ;obtain ⟨dH,b8⟩:∃ r,r=ZnN (gT x m T) (cdM m k) p ⟨p,yl,ye,yf,a4,N,ys,a5,X⟩:=⟨_,rfl⟩;rw [←b8] at bi ⊢;have dr:=Zh hi;clear HW hm H bY hv bt aK aX he aP hi bu a0 bZ b8;go_enter Tryz.func223,Tryz.ntmps223
 go_upto_region 3 with fail
 rw [←cH.out];have bm:Cs [(⟨B,4,none⟩,.func (Fn.func g) #[] caps),(⟨w.heap.size+1,0,none⟩,.int .i64 W),(⟨w.heap.size+1,1,none⟩,.int .i64 ia),(⟨w.heap.size+1,2,none⟩,.int .i64 ib)] w2:=⟨Znz.of a9.out _ _ c4,aT.out.cell 0 rfl,aT.out.cell 1 rfl,aT.out.cell 2 rfl,trivial⟩;have cy:=Zh bm;refine rO (Cs [(⟨B,4,none⟩,.func (Fn.func g) #[] caps),(⟨w.heap.size+1,0,none⟩,.int .i64 W),(⟨w.heap.size+1,1,none⟩,.int .i64 ia),(⟨w.heap.size+1,2,none⟩,.int .i64 ib)]) (oL [0,1,2,3,4,105,6]) bm ?_;clear bm c2 c4 o0 o1 o2 e6 l0 l2 lz
 repeat refine pO ?_
 refine oO fun I z=>?_;go_simp;refine (ba.out _ (HK.out.trans (Znz.of (a9.out.drew)))).mono ?_;rintro e w3 ⟨rfl,aH⟩;have av:=Zh (Zaf a9.out.drew aH);have bh:=Zh (cI.out.old (Zaf (Below.refl _ _).drew aH));have bb:=Zh (aT.out.old (Zaf (Below.refl _ _).drew aH));refine z _ _ ⟨Cs.keeps (Znz.of (Zaf (Below.refl _ _).drew aH)) cy.out,?_⟩;clear z I aH
 repeat refine pO ?_
 refine Zd5 ?_;have O:=Zh (HH.out.old av.out);have aU:=Zh (HK.out.trans (Znz.of av.out));have i0:=bb.out.cell 0 (v:=.int .i64 W) rfl;have i1:=bb.out.cell 1 (v:=.int .i64 ia) rfl;rcases bi.out with ⟨bA,ho,V⟩|⟨en,F,S,a1,b1,a2,b2,bA,bU,a7,ho,⟨cO,b6,br,b3,bS⟩,⟨aN,b7,bs,b4,bT⟩,V⟩
 ·subst bA;have ai:=Zh (And.intro ho V);clear ho V;have x2:=bh.out.cell 2 (v:=.int .i64 (-1)) rfl
  go_upto_region 8 with fail
  clear x2 i0;by_cases h25:W=25
  ·subst h25
   as_aux_lemma=>
   have ha:=(aV.out.o25 rfl).1;have bn:=aV.out.a0 (by simp);dsimp only at ha bn;obtain ⟨j,rfl⟩:∃ j:Nat,ia=j:=⟨ia.toNat,by omega⟩;have cQ:j<k:=by omega
   have bd:=Zh (Hj.out j cQ _ Q O.out aU.out)
   go_wp2_with (first
    | (go_at_call 110;refine bd.out.mono ?_;rintro e w4 ⟨rfl,cb,bq⟩;have ax:=Zh ((Upd.of av.out).trans cb);have u:=Zh bq;clear cb bq)
    | (go_at_call 160;refine (ZnQ _ _ _ ⟨by omega,by omega⟩ (ac.out.bd j)).mono ?_;rintro e w5 ⟨rfl,aJ⟩))
   go_ret;exact ZoB (by rw [ai.out.2,Zos rfl,HV.out];rfl) (ax.out.bel aJ) ((u.out.old aJ).weak fun q hq=>hq.imp id (by omega))
  by_cases h26:W=26
  ·subst h26
   as_aux_lemma=>
   obtain ⟨ha,bw⟩:=aV.out.o26 rfl;have bn:=aV.out.a0 (by simp);dsimp only at ha bn bw;obtain ⟨s,rfl⟩:∃ j:Nat,ia=j:=⟨ia.toNat,by omega⟩;have c0:=O.out.wk.cell 0 (v:=.slice h.co m.cl.length h.cc) rfl;have c1:=O.out.wk.cell 1 (v:=.slice h.so m.st.length h.sc) rfl;have c2:=O.out.wk.cell 2 (v:=.slice h.eo m.me.length h.ec) rfl;have c3:=O.out.wk.cell 3 (v:=.int .i64 m.sel) rfl;have bM:=Zh (Zir m h s w3.drew (O.out.md.old (Below.refl _ _).drew) ac.out.hm ha);have bO:=Zh bw;have cR:=Nat.le_trans (ZdG m s) (Zin ac.out.hm).1;have bN:=Zh (fun t (ht:t∈ZaN m s)=>ZfT ht);obtain ⟨tg,bx⟩:∃ tg,tg=ZaN m s:=⟨_,rfl⟩;rw [←bx] at bM bO cR bN;have cG:=Zh bx;clear ha bw bx
   go_upto_region 12 with fail
   refine rO (Cs [(⟨B,0,none⟩,.slice h.co m.cl.length h.cc),(⟨B,1,none⟩,.slice h.so m.st.length h.sc),(⟨B,2,none⟩,.slice h.eo m.me.length h.ec),(⟨B,3,none⟩,.int .i64 m.sel),(⟨w.heap.size+1,1,none⟩,.int .i64 s)]) (oL [0,1,2,3,4,5,106,7,8,9,10,11]) ⟨c0,c1,c2,c3,i1,trivial⟩ ?_
   repeat refine pO ?_
   refine oO fun I z=>?_;go_simp;refine bM.out.mono ?_;rintro e w4 ⟨⟨ao,du,rfl,b5⟩,aI⟩;have aj:=Zaf (Below.refl w3.heap.size w3).drew aI;have Z:=Zh (Zaf av.out aj);have cD:=Zh b5;have u:=Zh (O.out.old aj);have aa:=Zh (aU.out.trans (Znz.of aj));have az:=Znz.of aj;refine z _ _ ⟨⟨az _ _ c0,az _ _ c1,az _ _ c2,az _ _ c3,az _ _ i1,trivial⟩,?_⟩;clear z I aI aj b5 az c0 c1 c2 c3 i1
   repeat refine pO ?_
   refine Zd5 ?_;have bR:∀ l:List Int,Bd (ZmW (fun t=>T t.toNat) l):=fun l=>ZnI fun t _=>ac.out.bd _;have cF:=Zh bR;clear bR
   go_wp2_with fail
   go_loopw [11,73] (fun mo i wr=>∃ (j:Nat) (mv:Int),i=.int .i64 j∧mo=.int .i64 mv∧j≤tg.length∧Hid (mv=ZmW (fun t=>T t.toNat) (tg.take j))∧Hid (Upd M M w wr)∧Hid (Upd M M w4 wr)∧Hid (KnM T wr M fun j=>Q j∨j<k)) (fun _ i _=>tg.length-(intOf i).toNat)
   case atStart=>exact ⟨0,0,rfl,rfl,Nat.zero_le _,rfl,Upd.of Z.out,Upd.refl _ _ _,u.out.kn.weak fun _ q=>.inl q⟩
   case round=>
    obtain ⟨j,mv,rfl,rfl,hj,bK,HU,ax,bI⟩:=hrel;by_cases hjl:j<tg.length
    ·obtain ⟨ad,rfl,t0⟩:=ZaB (ZnA cD.out (u.out.keeps ax.out)) hjl;have aL:tg.getD j 0∈tg:=ZfU _ hjl;have h1:=bO.out _ aL;have h2:=bN.out _ aL;have aN:=ZoA (T:=fun t=>T t.toNat) hjl;obtain ⟨tj,b9⟩:∃ t,t=tg.getD j 0:=⟨_,rfl⟩;rw [←b9] at t0 h1 h2 aN;obtain ⟨t,rfl⟩:∃ d:Nat,tj=d:=⟨tj.toNat,by omega⟩;have cS:t<k:=by omega
     have bd:=Zh (Hj.out t cS _ (fun j=>Q j∨j<k) (u.out.next ax.out bI.out) (aa.out.trans (u.out.keeps ax.out)));have cE:=Zh aN;have dg:(j:Int) < tg.length:=by omega
     have dD:IntKind.i64.wrap ((j:Int)+1)=((j+1:Nat):Int):=IntWalk.i64_in _ (by omega);clear aN aL h1 h2 b9
     go_wp2_with (go_at_call 110;refine bd.out.mono ?_;rintro e w5 ⟨rfl,G,C⟩;have ay:=Zh G;have cC:=Zh C;clear G C)
     exact ⟨⟨j+1,max mv (T t),rfl,rfl,hjl,by rw [cE.out,←bK.out];rfl,HU.out.trans ay.out,ax.out.trans ay.out,cC.out.weak fun q hq=>hq.elim id fun e=>.inr (by omega)⟩,by simp [intOf];omega⟩
    ·obtain rfl:j=tg.length:=by omega
     have aY:=bK.out;rw [List.take_length] at aY;have bp:=cF.out tg;rw [←aY] at bp;have cA:=Zh bp;have cB:=Zh aY;have dv:¬ (tg.length:Int) < tg.length:=by omega
     clear aY bp
     go_wp2_with (go_at_call 160;refine (ZnQ _ _ _ ⟨by omega,by omega⟩ cA.out).mono ?_;rintro e w5 ⟨rfl,aJ⟩)
     go_ret;exact ZoB (by rw [ai.out.2,Zot rfl,HV.out,cB.out,cG.out]) (HU.out.bel aJ) (bI.out.old aJ)
  have dx:¬ W=29:=by have:=ai.out.1;unfold ZaR inI at this;simp at this;omega
  have dy:¬ W=30:=by have:=ai.out.1;unfold ZaR inI at this;simp at this;omega
  have dz:¬ W=31:=by have:=ai.out.1;unfold ZaR inI at this;simp at this;omega
  have bq:¬ W=32:=by have:=ai.out.1;unfold ZaR inI at this;simp at this;omega
  have C:¬ W=33:=by have:=ai.out.1;unfold ZaR inI at this;simp at this;omega
  go_wp2;go_ret;exact ZoB (by rw [ai.out.2,Zou h25 h26,HV.out]) (.of av.out) (O.out.kn.weak fun _ q=>.inl q)
 ·subst bA cO aN;obtain ⟨dt,a6,q0,q1,q2⟩:=ZaA (l:=cdM m k) (O.out.md.k k hk) bU;rw [cx.out] at a6;cases a6;have a8:(cdM m k).getD en default∈cdM m k:=ZfU _ bU;have aD:=Zh (ac.out.fn k hk _ a8);have bv:=ac.out.te _ a7;obtain ⟨i2,bV⟩:∃ i,i=(cdM m k).getD en default:=⟨_,rfl⟩;rw [←bV] at q0 q1 q2 aD bv;rw [bv] at aD;obtain ⟨ch,cd,cg⟩:=i2;dsimp only at q0 q1 q2;have hF:=ac.out.bdW hk br.seg (acc:=0) (by unfold Bd;omega);have hS:=ac.out.bdW hk bs.seg (acc:=0) (by unfold Bd;omega);have aw:=Zh (show ∀ w' Q',ZnD w' B M h m (.func (Fn.func g) #[] caps) x.sc T Q'→Znz W0 w'→Znz w w'→_ from fun w' Q' hH z hk=>bJ.out a1 b1 b3 bS w' Q' yf N F hH z (ZnA b6 hk) (br.keeps hk));have bc:=Zh (show ∀ w' Q',ZnD w' B M h m (.func (Fn.func g) #[] caps) x.sc T Q'→Znz W0 w'→Znz w w'→_ from fun w' Q' hH z hk=>bJ.out a2 b2 b4 bT w' Q' ys X S hH z (ZnA b7 hk) (bs.keeps hk));obtain ⟨f,hf⟩:∃ f,f=WA (gT x m T) (cdM m k) a1 b1 0:=⟨_,rfl⟩;obtain ⟨s,hs⟩:∃ f,f=WA (gT x m T) (cdM m k) a2 b2 0:=⟨_,rfl⟩;rw [←hf] at hF aw V;rw [←hs] at hS bc V;have J:=hF;have aq:=hS;have E:Bd x.tl:=by have:=ac.out.tl;unfold Bd;omega
  have ak:Bd v:=by unfold Bd;omega
  have Y:=Zh V;have ar:29≤W∧W≤33:=by have:=ho;unfold ZaR inI at this;simpa using this
  have bL:=Zh ar;have cv:=Zh (And.intro J (And.intro aq (And.intro E ak)));have dh:(en:Int) < (cdM m k).length:=by omega
  clear hF hS hf hs bv bV a8 a7 ho b6 br b7 bs V ar J aq E ak bi;have x2:=bh.out.cell 2 (v:=.int .i64 en) rfl;have de:(0:Int)≤en:=by omega
  have bQ:=O.out.wk.cell 4 (v:=.func (Fn.func g) #[] caps) rfl
  go_upto_region 6 with fail
  have bl:Cs [(⟨B,4,none⟩,.func (Fn.func g) #[] caps),(⟨w.heap.size,2,none⟩,.int .i64 en),((ca.add (en*3)),.int .i64 ch),(⟨(ca.add (en*3)).block,(ca.add (en*3)).off+1,none⟩,.int .i64 cd),(⟨(ca.add (en*3)).block,(ca.add (en*3)).off+2,none⟩,.int .i64 cg)] w3:=⟨bQ,x2,q0,q1,q2,trivial⟩;have cw:=Zh bl;refine rO (Cs [(⟨B,4,none⟩,.func (Fn.func g) #[] caps),(⟨w.heap.size,2,none⟩,.int .i64 en),((ca.add (en*3)),.int .i64 ch),(⟨(ca.add (en*3)).block,(ca.add (en*3)).off+1,none⟩,.int .i64 cd),(⟨(ca.add (en*3)).block,(ca.add (en*3)).off+2,none⟩,.int .i64 cg)]) (oL [0,1,2,3,4,5,6,7,8,109,10]) bl ?_;clear bl bQ x2 q0 q1 q2 i0 i1
  repeat refine pO ?_
  refine oO fun I z=>?_;go_simp;refine (aD.out _ (aU.out.trans (Znz.of ((Below.refl _ _).drew)))).mono ?_;rintro e w4 ⟨rfl,aI⟩;have R:=Zaf (Below.refl w3.heap.size w3).drew aI;have Z:=Zh (Zaf av.out R);have bP:=Zh (bh.out.old R);have bG:=Zh (bb.out.old R);have u:=Zh (O.out.old R);have aa:=Zh (aU.out.trans (Znz.of R));have an:=Zh (Znz.of Z.out);refine z _ _ ⟨Cs.keeps (Znz.of R) cw.out,?_⟩;clear z I aI R
  repeat refine pO ?_
  refine Zd5 ?_;have i0:=bG.out.cell 0 (v:=.int .i64 W) rfl;have i1:=bG.out.cell 1 (v:=.int .i64 ia) rfl;have x3:=bP.out.cell 3 (v:=.slice yf F.length N) rfl;have x4:=bP.out.cell 4 (v:=.slice ys S.length X) rfl;have c5:=u.out.wk.cell 5 (v:=.bool x.sc) rfl;have ar:=bL.out;have cz:=Zh (show W=30→0≤ia∧ia≤1000 from fun q=>ZoC bH.out q)
  go_upto_region 8 with fail
  clear i0;obtain ⟨J,aq,E,ak⟩:=cv.out
  -- <ways>
  by_cases h29:W=29
  ·subst h29
   as_aux_lemma=>
   have A:=Zh (show Cs [(⟨w.heap.size,3,none⟩,.slice yf F.length N),(⟨w.heap.size,4,none⟩,.slice ys S.length X)] w4 from ⟨x3,x4,trivial⟩)
   go_upto_region 20 with fail
   refine rO (Cs [(⟨w.heap.size,3,none⟩,.slice yf F.length N),(⟨w.heap.size,4,none⟩,.slice ys S.length X)]) (oL [0,1,2,3,4,6,8,9,10,11,13,105,107,112,114,15,116,17]) A.out ?_;have K:=Zh ((Upd.refl M M w4).drew)
   repeat refine pO ?_
   refine oO fun I z=>?_;go_simp;refine (aw.out _ _ (u.out.next K.out (u.out.kn.eq rfl)) (aa.out.trans (u.out.keeps K.out)) (an.out.trans (u.out.keeps K.out))).mono ?_;rintro e w5 ⟨rfl,G,C⟩;have af:=Zh (K.out.trans G);have ab:=Zh C;refine z _ _ ⟨Cs.keeps (u.out.keeps af.out) A.out,?_⟩;clear z I G C
   repeat refine pO ?_
   refine oO fun I z=>?_;go_simp;refine (ZnQ f x.tl _ J E).mono ?_;rintro e w6 ⟨rfl,D⟩;have L:=Zh (af.out.bel D);have aE:=Zh (ab.out.old D);refine z _ _ ⟨Cs.keeps (u.out.keeps L.out) A.out,?_⟩;clear z I D
   repeat refine pO ?_
   refine oO fun I z=>?_;go_simp;refine (bc.out _ _ (u.out.next L.out aE.out) (aa.out.trans (u.out.keeps L.out)) (an.out.trans (u.out.keeps L.out))).mono ?_;rintro e w7 ⟨rfl,aO,aM⟩;have ag:=Zh (L.out.trans aO);have aF:=Zh aM;refine z _ _ ⟨Cs.keeps (u.out.keeps ag.out) A.out,?_⟩;clear z I aO aM
   repeat refine pO ?_
   refine oO fun I z=>?_;go_simp;refine (ZnQ s x.tl _ aq E).mono ?_;rintro e w8 ⟨rfl,U⟩;have ah:=Zh (ag.out.bel U);have aG:=Zh (aF.out.old U);refine z _ _ ⟨Cs.keeps (u.out.keeps ah.out) A.out,?_⟩;clear z I U
   repeat refine pO ?_
   refine oO fun I z=>?_;go_simp;refine (ZnQ v _ _ ak (ZnH (ZnF J E) (ZnF aq E))).mono ?_;rintro e w9 ⟨rfl,ap⟩;have aC:=Zh (ah.out.bel ap);have be:=Zh (aG.out.old ap);refine z _ _ ⟨Cs.keeps (u.out.keeps aC.out) A.out,?_⟩;clear z I ap
   repeat refine pO ?_
   refine Zd5 ?_;go_wp2;go_ret;exact ZoB (by rw [Y.out,Zov rfl,←HV.out]) ((Upd.of Z.out).trans aC.out) (be.out.weak fun q hq=>hq.elim id .inr)
  by_cases h30:W=30
  ·subst h30
   as_aux_lemma=>
   have A:=Zh (show Cs [(⟨w.heap.size,3,none⟩,.slice yf F.length N),(⟨w.heap.size+1,1,none⟩,.int .i64 ia)] w4 from ⟨x3,i1,trivial⟩);have bW:=cz.out rfl
   go_upto_region 22 with fail
   refine rO (Cs [(⟨w.heap.size,3,none⟩,.slice yf F.length N),(⟨w.heap.size+1,1,none⟩,.int .i64 ia)]) (oL [0,1,2,3,4,5,6,8,107,109,110,111,12]) A.out ?_;have K:=Zh ((Upd.refl M M w4).drew)
   repeat refine pO ?_
   refine oO fun I z=>?_;go_simp;refine (aw.out _ _ (u.out.next K.out (u.out.kn.eq rfl)) (aa.out.trans (u.out.keeps K.out)) (an.out.trans (u.out.keeps K.out))).mono ?_;rintro e w5 ⟨rfl,G,C⟩;have af:=Zh (K.out.trans G);have ab:=Zh C;refine z _ _ ⟨Cs.keeps (u.out.keeps af.out) A.out,?_⟩;clear z I G C
   repeat refine pO ?_
   refine oO fun I z=>?_;go_simp;refine (ZnQ f x.tl _ J E).mono ?_;rintro e w6 ⟨rfl,D⟩;have L:=Zh (af.out.bel D);have aE:=Zh (ab.out.old D);refine z _ _ ⟨Cs.keeps (u.out.keeps L.out) A.out,?_⟩;clear z I D
   repeat refine pO ?_
   refine oO fun I z=>?_;go_simp;refine (ZnR ia _ _ bW (ZnF J E)).mono ?_;rintro e w7 ⟨rfl,ae⟩;have ag:=Zh (L.out.bel ae);have aF:=Zh (aE.out.old ae);refine z _ _ ⟨Cs.keeps (u.out.keeps ag.out) A.out,?_⟩;clear z I ae
   repeat refine pO ?_
   refine oO fun I z=>?_;go_simp;refine (ZnQ v _ _ ak (ZnG bW.1 (ZnF J E))).mono ?_;rintro e w8 ⟨rfl,U⟩;have ah:=Zh (ag.out.bel U);have aG:=Zh (aF.out.old U);refine z _ _ ⟨Cs.keeps (u.out.keeps ah.out) A.out,?_⟩;clear z I U
   repeat refine pO ?_
   refine Zd5 ?_;go_wp2;go_ret;exact ZoB (by rw [Y.out,Zow rfl,←HV.out]) ((Upd.of Z.out).trans ah.out) (aG.out.weak fun q hq=>hq)
  by_cases h31:W=31
  ·subst h31
   as_aux_lemma=>
   go_wp2_with (first
    | (go_at_call 161;refine (aw.out _ _ u.out aa.out an.out).mono ?_;rintro e w5 ⟨rfl,G,C⟩;have ay:=Zh ((Upd.of Z.out).trans G);have ab:=Zh C;clear G C)
    | (go_at_call 160;first|(refine (ZnQ f x.tl _ J E).mono ?_;rintro e w6 ⟨rfl,D⟩;have aB:=Zh D;clear D)|(refine (ZnQ v _ _ ak (ZnF J E)).mono ?_;rintro e w7 ⟨rfl,ae⟩)))
   go_ret;exact ZoB (by rw [Y.out,Zox (.inl rfl),←HV.out]) ((ay.out.bel aB.out).bel ae) ((ab.out.old aB.out).old ae)
  by_cases h32:W=32
  ·subst h32
   as_aux_lemma=>
   rcases hsc:x.sc with _|_
   ·rw [hsc] at c5;have bf:=Zh hsc;clear hsc
    go_wp2_with (first
     | (go_at_call 161;refine (aw.out _ _ u.out aa.out an.out).mono ?_;rintro e w5 ⟨rfl,G,C⟩;have ay:=Zh ((Upd.of Z.out).trans G);have ab:=Zh C;clear G C)
     | (go_at_call 160;first|(refine (ZnQ f x.tl _ J E).mono ?_;rintro e w6 ⟨rfl,D⟩;have aB:=Zh D;clear D)|(refine (ZnQ v _ _ ak (ZnF J E)).mono ?_;rintro e w7 ⟨rfl,ae⟩)))
    go_ret;exact ZoB (by rw [Y.out,Zox (.inr ⟨rfl,bf.out⟩),←HV.out]) ((ay.out.bel aB.out).bel ae) ((ab.out.old aB.out).old ae)
   ·rw [hsc] at c5;have bf:=Zh hsc;clear hsc;go_wp2;go_ret;exact ZoB (by rw [Y.out,Zoy rfl bf.out,←HV.out]) (.of Z.out) (u.out.kn.weak fun _ q=>.inl q)
  obtain rfl:W=33:=by have:=ar;omega
  have A:=Zh (show Cs [(⟨w.heap.size,3,none⟩,.slice yf F.length N),(⟨w.heap.size,4,none⟩,.slice ys S.length X)] w4 from ⟨x3,x4,trivial⟩)
  go_upto_region 30 with fail
  refine rO (Cs [(⟨w.heap.size,3,none⟩,.slice yf F.length N),(⟨w.heap.size,4,none⟩,.slice ys S.length X)]) (oL [0,1,2,3,4,6,8,9,10,11,105,107,112,113,114,15]) A.out ?_;have K:=Zh ((Upd.refl M M w4).drew)
  repeat refine pO ?_
  refine oO fun I z=>?_;go_simp;refine (aw.out _ _ (u.out.next K.out (u.out.kn.eq rfl)) (aa.out.trans (u.out.keeps K.out)) (an.out.trans (u.out.keeps K.out))).mono ?_;rintro e w5 ⟨rfl,G,C⟩;have af:=Zh (K.out.trans G);have ab:=Zh C;refine z _ _ ⟨Cs.keeps (u.out.keeps af.out) A.out,?_⟩;clear z I G C
  repeat refine pO ?_
  refine oO fun I z=>?_;go_simp;refine (ZnQ f x.tl _ J E).mono ?_;rintro e w6 ⟨rfl,D⟩;have L:=Zh (af.out.bel D);have aE:=Zh (ab.out.old D);refine z _ _ ⟨Cs.keeps (u.out.keeps L.out) A.out,?_⟩;clear z I D
  repeat refine pO ?_
  refine oO fun I z=>?_;go_simp;refine (bc.out _ _ (u.out.next L.out aE.out) (aa.out.trans (u.out.keeps L.out)) (an.out.trans (u.out.keeps L.out))).mono ?_;rintro e w7 ⟨rfl,aO,aM⟩;have ag:=Zh (L.out.trans aO);have aF:=Zh aM;refine z _ _ ⟨Cs.keeps (u.out.keeps ag.out) A.out,?_⟩;clear z I aO aM
  repeat refine pO ?_
  refine oO fun I z=>?_;go_simp;refine (ZnQ _ s _ (ZnF J E) aq).mono ?_;rintro e w8 ⟨rfl,U⟩;have ah:=Zh (ag.out.bel U);have aG:=Zh (aF.out.old U);refine z _ _ ⟨Cs.keeps (u.out.keeps ah.out) A.out,?_⟩;clear z I U
  repeat refine pO ?_
  refine oO fun I z=>?_;go_simp;refine (ZnQ v _ _ ak (ZnF (ZnF J E) aq)).mono ?_;rintro e w9 ⟨rfl,ap⟩;have aC:=Zh (ah.out.bel ap);have be:=Zh (aG.out.old ap);refine z _ _ ⟨Cs.keeps (u.out.keeps aC.out) A.out,?_⟩;clear z I ap
  repeat refine pO ?_
  refine Zd5 ?_;go_wp2;go_ret;exact ZoB (by rw [Y.out,Zoz rfl,←HV.out]) ((Upd.of Z.out).trans aC.out) (be.out.weak fun q hq=>hq.elim id .inr)
  -- </ways>
end
end
section
open Go.RowKit
section
variable {x:Ms}{B M:Nat}{h:Hd}{m:Md}{T:Nat→Int}{g:Nat}{caps:Array Value}{W0:World}{k:Nat}
theorem ZoF (c:Wkr x m T g caps W0) (d:k<m.me.length) (hm:∀ j,j<k→ZnX x B M h m T g caps W0 j):∀ (n a b:Nat),b-a≤n→ZnY x B M h m T g caps W0 k a b
 | 0,a,b,hn=>Zn0 c d fun p y u q r t=>by omega
 | n+1,a,b,hn=>Zn0 c d fun p y u q r t=>ZoE c d hm fun e o v z=>ZoF c d hm n e o (by omega)
theorem ZoG (a:Wkr x m T g caps W0):∀ (n k:Nat),k<n→k<m.me.length→ZnX x B M h m T g caps W0 k
 | 0,k,hn,_=>by omega
 | n+1,k,hn,hk=>Zn5 a hk (ZoF a hk (fun j c=>ZoG a n j (by omega) (by omega)) (cdM m k).length 0 (cdM m k).length (by omega))
end
theorem ZoH {i:In3} (h:ZaQ false i=true):0≤ZmU i∧ZmU i≤1000:=by
 have c:=ZnT i.op.toNat
 unfold ZmU;split
 ·rename_i ho;obtain ⟨d,a,b⟩:=i;dsimp only at ho ⊢;have:0≤a∧a≤48:=by exact j12
  dsimp only at c;omega
 ·omega
theorem ZoI (i:In3) (h:i.op=35):ZmU i=1:=by unfold ZmU;rw [h,if_neg (by omega)];rfl
theorem ZoJ {i:In3} (h:ZaQ false i=true) (ho:i.op=15∨i.op=16):0≤i.a∧i.a≤1000:=by obtain ⟨c,a,b⟩:=i;dsimp only at ho ⊢;exact j12
theorem ZoK {m:Md}{k:Nat} (h:m.me.length≤k):cdM m k=[]:=by unfold cdM;rw [List.getD_eq_getElem?_getD,List.getElem?_eq_none h];rfl
theorem ZoL (G:(Int→Int)→Wg) (m:Md) (k:Nat):Zm1 G m k=WA (G fun t=>(Zm0 G m k).getD t.toNat 0) (cdM m k) 0 (cdM m k).length 0:=by
 unfold Zm1
 conv=>lhs;unfold Zm0
 rw [List.getD_eq_getElem?_getD,List.getElem?_append_right (by rw [Zm2];omega),Zm2,Nat.sub_self];rfl
theorem ZoM {m:Md} (hm:Za1 m=true) {x:Ms} (e:∀ k,k<m.me.length→∀ i∈cdM m k,0≤x.wt i∧x.wt i≤1000) (d:0≤x.tl∧x.tl≤1000):∀ (n k:Nat),k<n→Bd (Zm1 (gW x m) m k)
 | 0,k,hn=>by omega
 |n+1,k,hn=>by
  have a:Bd 0:=by unfold Bd;omega
  rw [ZoL];by_cases hk:k<m.me.length
  ·refine ZnL (e k hk) d (fun t=>?_) (fun i c=>(ZfS ((ZfN hm hk).i i c).1 ((ZfN hm hk).i i c).2).a0) (Zmq (ZfN hm hk).n) 0 a;by_cases hj:t.toNat<k
   ·rw [Zm3 _ _ hj];exact ZoM hm e d n _ (by omega)
   ·rw [List.getD_eq_getElem?_getD,List.getElem?_eq_none (by rw [Zm2];omega)];exact a
  ·rw [ZoK (by omega)];show Bd (WA _ _ 0 0 0);rw [Zmv];exact a
theorem ZoN {m:Md} (hm:Za1 m=true) (x:Ms) {k:Nat} (a:k<m.me.length):Zm1 (gW x m) m k=WA (gT x m (Zm1 (gW x m) m)) (cdM m k) 0 (cdM m k).length 0:=by
 refine Zm5 (Zmq (ZfN hm a).n) (fun _ _=>rfl) (fun _ _=>rfl) (fun i c=>?_);have ho:=ZfS ((ZfN hm a).i i c).1 ((ZfN hm a).i i c).2;show (if i.op=25 then ZmS (x.wt i) _ else if i.op=26 then ZmS (x.wt i) _ else _)=if i.op=25 then ZmS (x.wt i) _ else if i.op=26 then ZmS (x.wt i) _ else _;by_cases h25:i.op=25
 ·exact j16
 ·rw [if_neg h25,if_neg h25];by_cases h26:i.op=26
  ·rw [if_pos h26,if_pos h26];congr 1;refine Zm6 fun t d=>?_;have:=(ho.o26 h26).2 t d;have:=ZfT d;rw [Zm3 _ _ (by omega)]
  ·rw [if_neg h26,if_neg h26]
theorem ZoO (i:In3) (w:World) (c:ZaQ false i=true):Calls Tryz.prog 158 #[ZI.i i] w (Ret w (.int .i64 (ZmU i))):=by
 have d:=Zh (fun o=>ZnV i o c (ZoJ c));clear c;obtain ⟨q,a,b⟩:=i;dsimp only at d ⊢;go_enter Tryz.func158,Tryz.ntmps158
 go_wp2_with (go_at_call 220;refine (d.out _).mono ?_;rintro e r ⟨rfl,j⟩)
 go_ret;exact ZcT rfl bE
theorem KnM.made (T:Nat→Int) (w:World):KnM T (w.alloc (.map #[] 0)) w.heap.size fun _=>False:=
 ⟨[],.map [],List.nodup_nil,fun k a=>by simp at a,World.ownsMap_made _ _ _ _,Maps.isMap_empty,fun k=>by simp [Maps.has],fun k a=>by simp at a⟩
def ZoP:Value:=.func (Fn.func 158) #[] #[]
def ZoQ (w:World) (h:Hd) (m:Md):Ending→World→Prop:=fun e w'=>∃ B M,e=.returned (.pointer (some ⟨B,0,none⟩))∧Below w.heap.size w w'∧w.heap.size≤M∧∀ T,ZnD w' B M h m ZoP false T fun _=>False
theorem ZoR (m:Md) (h:Hd) (w:World) (H:Zay w h m):Calls Tryz.prog 101 #[.agg (HM.mk h m)] w (ZoQ w h m):=by have c:=@run_makeMap Tryz.prog;have a:=Zh H;clear H;go_enter Tryz.func101,Tryz.ntmps101;go_wp2;go_ret;refine ⟨w.heap.size+1+1,w.heap.size+1,rfl,by exact bE,by omega,fun T=>⟨Blk.new' _ _ (by simp),a.out.old bE,?_⟩⟩;have:=KnM.made T (w.alloc (.cells (HM.mk h m) 26));rw [bls] at this;exact this.old bE
def ZoS (m:Md) (k:Int):Bool:=decide ((Zmg m).2.2=0)&&inV m.me.length k
theorem ZoT {m:Md}{k:Int} (h:ZoS m k=true):Za1 m=true∧0≤k∧k<m.me.length:=by
 unfold ZoS inV at h;simp only [Bool.and_eq_true,decide_eq_true_eq] at h;refine ⟨?_,h.2⟩;have:=h.1;unfold Zmg at this;split at this
 ·assumption
 ·simp at this
theorem ZoU (m:Md) (h:Hd) (k:Int) (w:World) (H:Zay w h m):Calls Tryz.prog 100 #[.agg (HM.mk h m),.int .i64 k] w (Ret w (.int .i64 (if ZoS m k=true then 0 else 1))):=by
 have t:=Zh (fun w' hb=>Zmj w' h m (H.old (w':=w') hb));obtain ⟨q,j⟩:∃ q:Int,q=if ZoS m k=true then 0 else 1:=⟨_,rfl⟩;rw [←j];obtain ⟨⟨D,E,F⟩,u⟩:∃ z,z=Zmg m:=⟨_,rfl⟩;unfold ZoS inV at j;rw [←u] at t j;have y:=Zh j;have d:Below w.heap.size w (w.alloc (.cells (HM.mk h m) 26)):=by exact bE
 have c:=Zh d;have r:=Zh (Blk.new w (HM.mk h m) 26);clear H u j d;go_enter Tryz.func100,Tryz.ntmps100
 go_wp2_with (go_at_call 82;refine (t.out _ c.out).mono ?_;rintro e A ⟨rfl,a⟩;have C:=(r.out.old a).cell 2 (v:=.slice h.eo m.me.length h.ec) rfl;have o:=Zh (Zaf c.out a);clear a)
 all_goals
  go_ret;refine ZcT (ZcY ?_) o.out;rw [y.out];grind
def ZoV (m:Md) (k:Int):Int × Int:=if ZoS m k=true then (if 1000000000<Zm1 (gW ZmV m) m k.toNat then (0,6) else (Zm1 (gW ZmV m) m k.toNat,0)) else (0,1)
theorem ZoW {m:Md} (hm:Za1 m=true) (W0:World):Wkr ZmV m (Zm1 (gW ZmV m) m) 158 #[] W0 where
 hm:=hm
 wt k a i c:=ZoH ((ZfN hm a).i i c).1
 tl:=by decide
 te:=ZoI
 bd k:=ZoM hm (x:=ZmV) (fun k a i c=>ZoH ((ZfN hm a).i i c).1) (by decide) (k+1) k (by omega)
 eq k a:=ZoN hm ZmV a
 cf A W:=by kernel_rfl
 fn k a i c w' _:=by have:=ZoO i w' ((ZfN hm a).i i c).1;rw [Array.append_empty];exact this
theorem ZoX (m:Md) (h:Hd) (k:Int) (w:World) (H:Zay w h m):Calls Tryz.prog 54 #[.agg (HM.mk h m),.int .i64 k] w (Zhf w (.int .i64 (ZoV m k).1) (.int .i64 (ZoV m k).2)):=by
 have o:Below w.heap.size w (w.alloc (.cells (HM.mk h m) 26)):=by exact bE
 have HA:=Zh (ZoU m h k _ (H.old o));obtain ⟨O,a⟩:∃ r,r=(ZoV m k).1:=⟨_,rfl⟩;obtain ⟨P,c⟩:∃ r,r=(ZoV m k).2:=⟨_,rfl⟩;rw [←a,←c];have HB0:=Zh o;have J:=Zh (Blk.new w (HM.mk h m) 26);have Q:=Zh H;rcases hq:ZoS m k with _|_
 ·rw [hq] at HA;have u:O=0:=by rw [a];unfold ZoV;rw [hq];rfl
  have y:P=1:=by rw [c];unfold ZoV;rw [hq];rfl
  have HE:=Zh (And.intro u y);clear o H a c hq u y;go_enter Tryz.func54,Tryz.ntmps54;exact j7
 ·rw [hq] at HA;obtain ⟨hm,U,V⟩:=ZoT hq;obtain ⟨k,rfl⟩:∃ d:Nat,k=d:=⟨k.toNat,by omega⟩;have L:k<m.me.length:=by omega
  obtain ⟨v,E⟩:∃ v,v=Zm1 (gW ZmV m) m k:=⟨_,rfl⟩;have u:O=if 1000000000<v then 0 else v:=by rw [a,E];unfold ZoV;rw [hq,if_pos rfl,Int.toNat_natCast];split<;>rfl
  have y:P=if 1000000000<v then 6 else 0:=by rw [c,E];unfold ZoV;rw [hq,if_pos rfl,Int.toNat_natCast];split<;>rfl
  have HE:=Zh (And.intro u y);have R:=Zh (fun B M W0=>ZoG (B:=B) (M:=M) (h:=h) (ZoW hm W0) (k+1) k (by omega) L);have S:=Zh E;clear o H a c hq u y E hm;go_enter Tryz.func54,Tryz.ntmps54
  go_wp2_with (first
   | (go_at_call 100;refine HA.out.mono ?_;rintro e w1 ⟨rfl,hb1⟩;have q:=Zh (Zaf HB0.out hb1);have j:=Zh (J.out.old hb1);have Z:=j.out.cell 0 (v:=.slice h.co m.cl.length h.cc) rfl;have x1:=j.out.cell 1 (v:=.slice h.so m.st.length h.sc) rfl;have x2:=j.out.cell 2 (v:=.slice h.eo m.me.length h.ec) rfl;have x3:=j.out.cell 3 (v:=.int .i64 m.sel) rfl;clear hb1)
   | (go_at_call 101;refine (ZoR m h _ (Q.out.old q.out)).mono ?_;rintro e W ⟨B,M,rfl,C,z,A⟩;have F:=Zh (Zaf q.out C);have t:=Zh (Nat.le_trans q.out.size z);clear z;have I:=Zh A;clear C A)
   | (go_at_call 110;refine (R.out B M W _ _ (I.out _) (Znz.refl _)).mono ?_;rintro e X ⟨rfl,D,N⟩;rw [←S.out];have G:=Zh D;clear D N)
   | (go_at_call 105;refine (ZnS _ _).mono ?_;rintro e Y ⟨rfl,K⟩;rw [←HE.out.1,←HE.out.2]))
  go_ret2;exact Zhg rfl rfl (Zaf (G.out.below F.out (Nat.le_refl _) t.out t.out) K)
end
section
def tmS (l:List In3) (i:Nat) (acc:Int) (k:Nat):Int:=if (l.getD k default).op=30∧i≤(mtV l k).2 then ZmT (l.getD k default).a acc else acc
def tmV (l:List In3) (i:Nat):Int:=(List.range i).foldl (tmS l i) 1
def tmB (l:List In3) (a i:Nat):Int:=(List.range a).foldl (tmS l i) 1
theorem ZoY (l:List In3) (a i:Nat):tmB l (a+1) i=tmS l i (tmB l a i) a:=by unfold tmB;rw [List.range_succ,List.foldl_append];rfl
theorem ZoZ {l:List In3}{a b:Nat} (h:Seg l a b):∀ k,a≤k→k<b→ZaR (l.getD k default).op=true→(mtV l k).2<b:=by
 induction h with
 | nil a h=>intro k d q;omega
 |pl a b d q h3 h4 h5 ih=>
  intro k u o c;by_cases e:k=a
  ·subst e;rw [q] at c;cases c
  ·exact ih k (by omega) o c
 |one a en b d q h3 i1 i2=>
  intro k u o c;have:=(Zmo h3).1;by_cases e:k=a
  ·subst e;rw [Zmn d];dsimp only;omega
  ·by_cases e2:k<en
   ·have:=i1 k (by omega) e2 c;omega
   ·by_cases e3:k=en
    ·subst e3;rw [Zbf (.inr d.2.2.2.1)] at c;cases c
    ·exact i2 k (by omega) o c
 |two a n en b d q h3 h4 i1 i2 i3=>
  intro k u o c;have:=(Zmo h3).1;have:=(Zmo h4).1;obtain ⟨_,_,_,j,r⟩:=d;by_cases e:k=a
  ·subst e;rw [Zmn ⟨‹_›,‹_›,‹_›,j,r⟩];dsimp only;omega
  ·by_cases e2:k<n
   ·have:=i1 k (by omega) e2 c;omega
   ·by_cases e3:k=n
    ·rcases r with ⟨r,_⟩|⟨v,r,_,t,_⟩
     ·omega
     ·obtain rfl:n=v:=by omega
      subst e3;rw [Zbf (.inl t)] at c;cases c
    ·by_cases e4:k<en
     ·have:=i2 k (by omega) e4 c;omega
     ·by_cases e5:k=en
      ·subst e5;rw [Zbf (.inr j)] at c;cases c
      ·exact i3 k (by omega) o c
theorem Zo0 {l:List In3}{a b i:Nat} (h:Seg l a b) (j:b≤i):tmB l b i=tmB l a i:=by
 have c:=(Zmo h).1;have:∀ d,a+d≤b→tmB l (a+d) i=tmB l a i:=by
  intro d
  induction d with
  | zero=>intro _;rfl
  |succ d ih=>
   intro e;rw [←Nat.add_assoc,ZoY,ih (by omega)];unfold tmS;by_cases ho:(l.getD (a+d) default).op=30
   ·have:=ZoZ h (a+d) (by omega) (by omega) (by rw [ho];decide);rw [if_neg (by omega)]
   ·rw [if_neg (fun q=>ho q.1)]
 have:=this (b-a) (by omega);rwa [show a+(b-a)=b by omega] at this
def Enc (l:List In3) (a b:Nat) (often:Int):Prop:=∀ i,a≤i→i<b→tmB l a i=often
theorem Enc.next {l:List In3}{a p b:Nat}{often:Int} (h:Enc l a b often) (hs:Seg l a p):Enc l p b often:=fun i c d=>by
 have:=(Zmo hs).1
 rw [Zo0 hs c]
 exact h i (by omega) d
theorem Enc.here {l:List In3}{p b:Nat}{often:Int} (h:Enc l p b often) (hb:p<b):tmV l p=often:=h p (Nat.le_refl _) hb
def Zo1 (i:In3) (often:Int):Int:=if i.op=30 then ZmT i.a often else often
theorem Zo2 {l:List In3}{p b i:Nat}{often:Int} (h:Enc l p b often) (d:p<i) (a:i≤(mtV l p).2) (c:i<b):tmB l (p+1) i=Zo1 (l.getD p default) often:=by
 rw [ZoY,h i (by omega) c];unfold tmS Zo1;by_cases ho:(l.getD p default).op=30
 ·rw [if_pos ⟨ho,a⟩,if_pos ho]
 ·rw [if_neg (fun q=>ho q.1),if_neg ho]
section
variable {l:List In3}{p b en:Nat}{often:Int} (h:Enc l p b often) (hb:en<b)
include h hb
theorem Zo3 {alt:Int}{q:Nat} (hm:Mat l p alt en) (d:q≤en):Enc l (p+1) q (Zo1 (l.getD p default) often):=fun i a c=>Zo2 h (by omega) (by rw [Zmn hm];dsimp only;omega) (by omega)
theorem Zo4 {alt:Int}{q:Nat} (hm:Mat l p alt en) (hs:Seg l (p+1) q) (d:q≤en) {r:Nat} (a:q≤r) (c:r≤en):tmB l q r=Zo1 (l.getD p default) often:=by have:=(Zmo hs).1;rw [Zo0 hs a];exact Zo2 h (by omega) (by rw [Zmn hm];dsimp only;omega) (by omega)
theorem Zo5 (hm:Mat l p (-1) en) (hs:Seg l (p+1) en):tmV l en=Zo1 (l.getD p default) often:=Zo4 h hb hm hs (Nat.le_refl _) (Nat.le_refl _) (Nat.le_refl _)
section
variable {n:Nat}(hm:Mat l p n en)(hs:Seg l (p+1) n)
include n hm hs
theorem Zo6 (a:n<en):tmV l n=often:=by
 have:=Zo4 h hb hm hs (by omega) (Nat.le_refl _) (by omega);rw [show tmV l n=tmB l n n from rfl,this];unfold Zo1;rw [if_neg];rcases hm.2.2.2.2 with ⟨q,_⟩|⟨c,q,_,_,d,_⟩
 ·omega
 ·omega
theorem Zo7 (c:n<en):Enc l (n+1) en (Zo1 (l.getD p default) often):=fun i e j=>by
 have a:(l.getD n default).op=34:=by
  rcases hm.2.2.2.2 with ⟨q,_⟩|⟨d,q,_,a,_⟩
  ·omega
  ·obtain rfl:n=d:=by omega
   exact a
 rw [ZoY];have:tmS l i (tmB l n i) n=tmB l n i:=by unfold tmS;rw [if_neg (by omega)]
 rw [this];exact Zo4 h hb hm hs (by omega) (by omega) (by omega)
theorem Zo8 (c:Seg l (n+1) en):tmV l en=Zo1 (l.getD p default) often:=by
 have d:=(Zmo c).1;rw [show tmV l en=tmB l en en from rfl,Zo0 c (Nat.le_refl _),ZoY];have a:(l.getD n default).op=34:=by
  rcases hm.2.2.2.2 with ⟨q,_⟩|⟨e,q,_,a,_⟩
  ·omega
  ·obtain rfl:n=e:=by omega
   exact a
 have:tmS l en (tmB l n en) n=tmB l n en:=by unfold tmS;rw [if_neg (by omega)]
 rw [this];exact Zo4 h hb hm hs (by omega) (by omega) (by omega)
end
end
theorem Zo9 (l:List In3) (b:Nat):Enc l 0 b 1:=fun i _ _=>rfl
end
section
open Go.RowKit
theorem Zpa {w:World}{b n:Nat}{D:DataW Unit} (h:w.ownsMap Tryz.prog 3 (plainElem Tryz.prog 4) b n D):w.ownsMap Tryz.prog 3 (plainElem Tryz.prog 4) b (Maps.size D) D:=by obtain ⟨a,c,d,e,j,rfl⟩:=h;refine ⟨a,c,d,e,?_,rfl⟩;show a.size≤List.length _;rw [length_sorted];simp
theorem Zpb {v:Value}{z:DataW Unit × List MemPlace} (h:plainElem (H:=Unit) Tryz.prog 4 v=some z):∃ b,v=.bool b∧z=(.lit (.bool b),[]):=by
 unfold plainElem at h;rw [show (Tryz.prog).underlying 4=some .bool from Tryz.underlying4] at h;cases v<;>simp at h
 exact ⟨_,rfl,h.symm⟩
def Zpc (w:World) (M:Nat) (K:List Nat):Prop:=K.Nodup∧(∀ k∈K,k<1000)∧∃ D:DataW Unit,w.ownsMap Tryz.prog 3 (plainElem Tryz.prog 4) M K.length D∧Maps.size D=K.length∧(∀ k:Nat,Maps.has D (.int .i64 k)=decide (k∈K))∧(∀ k:Nat,D.atKey (.int .i64 k) (.lit (.bool false))=.lit (.bool (decide (k∈K))))∧∀ kl,Maps.has D kl=true→∃ k:Nat,k∈K∧kl=.int .i64 k
def Zpd (k:Nat) (K:List Nat):List Nat:=if k∈K then K else k :: K
theorem Zpe {k j:Nat}{K:List Nat}:j∈Zpd k K↔j=k∨j∈K:=by
 unfold Zpd;split
 ·constructor
  ·exact .inr
  ·rintro (rfl|h)<;>assumption
 ·simp
theorem Zpc.made (w:World):Zpc (w.alloc (.map #[] 0)) w.heap.size []:=
 ⟨List.nodup_nil,fun _ h=>by simp at h,_,World.ownsMap_made _ _ _ _,rfl,fun k=>by simp [Maps.has],fun k=>rfl,fun a h=>by simp [Maps.has] at h⟩
theorem Zpc.map {w:World}{M:Nat}{K:List Nat} (H:Zpc w M K):IsMap w M:=by obtain ⟨_,_,D,⟨a,c,h,_⟩,_⟩:=H;exact ⟨a,c,h⟩
theorem Zpc.eq {w w':World}{M:Nat}{K:List Nat} (H:Zpc w M K) (h:w'.heap[M]?=w.heap[M]?):Zpc w' M K:=by obtain ⟨d,e,D,⟨a,c,j,o⟩,q⟩:=H;exact ⟨d,e,D,⟨a,c,h.trans j,o⟩,q⟩
theorem Zpc.old {w w':World}{M:Nat}{K:List Nat} (H:Zpc w M K) (hb:Below w.heap.size w w'):Zpc w' M K:=H.eq (hb.block M H.map.lt)
theorem Zpc.len {w:World}{M:Nat}{K:List Nat} (H:Zpc w M K):K.length≤1000:=ZnB 1000 K H.1 H.2.1
theorem Zpf (w:World):(zeroValue 4).run Tryz.prog w=.ok (.bool false) w:=by kernel_rfl
theorem Zpg {w:World}{e:Array Oper}{c:List Oper}{o:Oper}{a:Act}{Q:Exit→Act→World→Prop} (z:o.guard=none) (m x:Operand) (q:o.op=Op.lookup 152 m x false) {M:Nat}{K:List Nat} (hm:a.eval m=.map (some M)) (H:Zpc w M K) (k:Nat) (A:a.eval x=.int .i64 k) (N:k<1000)
  (y:wpList Tryz.prog e Q c (a.put o.dst (.bool (decide (k∈K)))) w):wpList Tryz.prog e Q (o :: c) a w:=by
 obtain ⟨F,G,D,t,I,J,u,L⟩:=H;refine wpList_plain z fun E j=>?_;obtain ⟨v,O,d,r⟩:=t.lookup Zn1 Tryz.underlying152 (Zpf w) (zd:=.lit (.bool false)) (zp:=[]) (plainElem_bool Tryz.underlying4 false) (Zn4 (k:=k) (by omega));rw [u k] at r;obtain ⟨b,rfl,C⟩:=Zpb r;have hb:decide (k∈K)=b:=by have h:=congrArg Prod.fst C;simpa using h
 subst hb;unfold Oper.wp;simp [execOp,q,hm,A,d,Result.andThen];exact j _ _ y
theorem Zpc.put {w:World}{M:Nat}{K:List Nat} (H:Zpc w M K) (k:Nat) (hk:k<1000):∃ w',(Instr.mapUpdate 152 (.map (some M)) (.int .i64 k) (.bool true)).run Tryz.prog w=.ok () w'∧Zpc w' M (Zpd k K)∧w.grownBy w' (some M):=by
 have J:=H.len;obtain ⟨r,z,D,t,A,u,C,E⟩:=H;obtain ⟨w',G,I,F⟩:=t.update Zn1 Tryz.underlying152 (by unfold maxLen;omega) (Zn4 (k:=k) (by omega)) (plainElem_bool Tryz.underlying4 true);refine ⟨w',G,?_,F⟩;have o:=t.tidy Zn1;have hs:=Maps.size_put (k:=.int .i64 k) o (.lit (.bool true));rw [u k] at hs;have c:Maps.size (D.put (.int .i64 k) (.lit (.bool true)))=(Zpd k K).length:=by
  rw [hs,A];unfold Zpd;by_cases e:k∈K
  ·rw [if_pos e];simp [e]
  ·rw [if_neg e];simp [e]
 refine ⟨?_,fun j d=>?_,_,by have:=Zpa I;rwa [c] at this,c,fun j=>?_,fun j=>?_,fun v a=>?_⟩
 ·unfold Zpd;split
  ·exact r
  ·rename_i e;exact List.nodup_cons.2 ⟨e,r⟩
 ·rcases Zpe.1 d with rfl|e
  ·exact hk
  ·exact z j e
 ·by_cases e:j=k
  ·subst e;rw [Maps.has_put_same (k:=.int .i64 j) o.isMap trivial];simp [Zpe]
  ·rw [Maps.has_put_other (by intro q;cases q;omega),u];simp [Zpe,e]
 ·by_cases e:j=k
  ·subst e;rw [Maps.atKey_put_same (k:=.int .i64 j) o.isMap trivial];simp [Zpe]
  ·rw [Maps.atKey_put_other (by intro q;cases q;omega),C];simp [Zpe,e]
 ·by_cases e:v=.int .i64 k
  ·exact ⟨k,Zpe.2 (.inl rfl),e⟩
  ·rw [Maps.has_put_other e] at a;obtain ⟨j,d,y⟩:=E v a;exact ⟨j,Zpe.2 (.inr d),y⟩
theorem Zph {w:World}{e:Array Oper}{c:List Oper}{o:Oper}{a:Act}{Q:Exit→Act→World→Prop} (t:o.guard=none) (m x v:Operand) (q:o.op=Op.mapUpdate 152 m x v) {M:Nat}{K:List Nat} (hm:a.eval m=.map (some M)) (H:Zpc w M K) (k:Nat) (z:a.eval x=.int .i64 k) (y:a.eval v=.bool true) (u:k<1000)
  (r:∀ w',Zpc w' M (Zpd k K)→w.grownBy w' (some M)→wpList Tryz.prog e Q c (a.put o.dst undef) w'):wpList Tryz.prog e Q (o :: c) a w:=by
 refine wpList_plain t fun D j=>?_;obtain ⟨w',d,A,C⟩:=H.put k u;unfold Oper.wp;simp [execOp,q,hm,z,y,d,Result.andThen];exact j _ _ (r w' A C)
theorem Zpi {w:World}{o:Oper}{a:Act}{Q:Exit→Act→World→Prop}{e:Act→World→Prop} (m x v:Operand) (d:o.op=Op.mapUpdate 152 m x v) {M:Nat}{K:List Nat} (hm:a.eval m=.map (some M)) (H:Zpc w M K) (k:Nat) (t:a.eval x=.int .i64 k) (r:a.eval v=.bool true) (q:k<1000)
  (j:∀ w',Zpc w' M (Zpd k K)→w.grownBy w' (some M)→e (a.put o.dst undef) w'):o.wp Tryz.prog a w e Q:=by
 obtain ⟨w',c,u,y⟩:=H.put k q;unfold Oper.wp;simp [execOp,d,hm,t,r,c,Result.andThen];exact j w' u y
end
section
open Go.RowKit
theorem Zpj (m:Md) (h:Hd) (w:World) (H:Zay w h m):Calls Tryz.prog 148 #[.agg (HM.mk h m)] w (Ret w (.int .i64 (if (Zmg m).2.2=0 then 0 else 1))):=by
 have u:=Zh (fun w' hb=>Zjj m h w' (H.old (w':=w') hb));have D:=Zh (fun w' hb=>Zmk w' h m (H.old (w':=w') hb));have c:Za1 m=false→(Zmg m).2.2=1:=fun q=>by unfold Zmg;rw [if_neg (by rw [q];decide)]
 obtain ⟨q,o⟩:∃ q:Int,q=if (Zmg m).2.2=0 then 0 else 1:=⟨_,rfl⟩;rw [←o];obtain ⟨⟨P,Q,R⟩,C⟩:∃ z,z=Zmg m:=⟨_,rfl⟩;rw [←C] at D o c;dsimp only at o c;have G:=Zh o;have d:=Zh (show Below w.heap.size w (w.alloc (.cells (HM.mk h m) 26)) by exact bE);have A:=Zh (Blk.new w (HM.mk h m) 26);rcases hm:Za1 m with _|_
 ·have E:q=1:=by rw [o,c hm];rfl
  have F:=Zh E;rw [hm] at u;clear H C o hm c E;go_enter Tryz.func148,Tryz.ntmps148
  go_wp2_with (go_at_call 60;refine (u.out _ d.out).mono ?_;rintro e I ⟨rfl,a⟩)
  go_ret;exact ZcT (ZcY F.out.symm) (Zaf d.out a)
 ·rw [hm] at u;clear H C o hm c;go_enter Tryz.func148,Tryz.ntmps148
  go_wp2_with (first
   | (go_at_call 60;refine (u.out _ d.out).mono ?_;rintro e I ⟨rfl,a⟩;have r:=Zh (Zaf d.out a);have j:=Zh (A.out.old a);have K:=j.out.cell 0 (v:=.slice h.co m.cl.length h.cc) rfl;have L:=j.out.cell 1 (v:=.slice h.so m.st.length h.sc) rfl;have N:=j.out.cell 2 (v:=.slice h.eo m.me.length h.ec) rfl;have O:=j.out.cell 3 (v:=.int .i64 m.sel) rfl;clear a)
   | (go_at_call 135;refine (D.out _ r.out).mono ?_;rintro e J ⟨rfl,t⟩;have y:=Zh (Zaf r.out t);clear t))
  all_goals
   go_ret;refine ZcT (ZcY ?_) y.out;rw [G.out];grind
theorem Zpk (m:Md) (h:Hd) (k:Int) (w:World) (H:Zay w h m):Calls Tryz.prog 87 #[.agg (HM.mk h m),.int .i64 k] w (Ret w (.int .i64 (if ZoS m k=true then 0 else 1))):=by
 have u:=Zh (fun w' hb=>Zpj m h w' (H.old (w':=w') hb));obtain ⟨q,t⟩:∃ q:Int,q=if ZoS m k=true then 0 else 1:=⟨_,rfl⟩;rw [←t];obtain ⟨z,j⟩:∃ z:Int,z=if (Zmg m).2.2=0 then 0 else 1:=⟨_,rfl⟩;have d:q=if z=0∧0≤k∧k<m.me.length then 0 else 1:=by
  rw [t,j];unfold ZoS inV;by_cases h1:(Zmg m).2.2=0
  ·simp [h1]
  ·simp [h1]
 rw [←j] at u;have A:=Zh (show z=0∨z=1 by rw [j];split<;>simp);have y:=Zh d;have c:=Zh (show Below w.heap.size w (w.alloc (.cells (HM.mk h m) 26)) by exact bE);have r:=Zh (Blk.new w (HM.mk h m) 26);clear H t j d;go_enter Tryz.func87,Tryz.ntmps87
 go_wp2_with (go_at_call 148;refine (u.out _ c.out).mono ?_;rintro e C ⟨rfl,a⟩;have D:=(r.out.old a).cell 2 (v:=.slice h.eo m.me.length h.ec) rfl;have o:=Zh (Zaf c.out a);clear a)
 all_goals
  go_ret;refine ZcT (ZcY ?_) o.out;have:=A.out;rw [y.out];grind
def rcV (k:Int) (a:Int):Int:=if k=8∨k=18∨k=19∨k=23∨k=28 then 3 else if k=9 then 8 else if k=14 then 12 else if k=15∨k=16 then 4+a else if k=17∨k=21∨k=22∨k=24∨k=27∨k=30∨k=31∨k=33 then 2 else if k=20∨k=25∨k=32 then 4 else if k=26 then 6 else 1
theorem Zpl {i:In3} (h:ZaQ false i=true):ZmU i=rcV i.op i.a:=by
 have c:=ZnU h;obtain ⟨d,a,b⟩:=i;dsimp only at c ⊢;obtain ⟨k,rfl⟩:∃ k:Nat,d=k:=⟨d.toNat,by omega⟩;have j:k<36:=by omega
 have e:∀ k,k<36→((opC.getD k 0:Nat):Int)=rcV k 0:=by decide
 unfold ZmU;rw [Int.toNat_natCast,e k j];unfold rcV;grind
theorem Zpm (i:In3) (w:World) (t:ZaQ false i=true):Calls Tryz.prog 214 #[ZI.i i] w (Zhf w (.int .i64 (ZmU i)) (.int .i64 0)):=by
 have C:=ZnU t;have c:=ZoJ t;have A:=Zh (fun H=>Zgy i false H);rw [t] at A;obtain ⟨q,r⟩:∃ q,q=ZmU i:=⟨_,rfl⟩;rw [←r];rw [Zpl t] at r;obtain ⟨j,a,b⟩:=i;dsimp only at C A c r;have D:=Zh r;have z:=Zh c;have E:=Zh (Blk.new w #[.int .i64 j,.int .i64 a,.int .i64 b] 78);have u:=Zh (show Below w.heap.size w (w.alloc (.cells #[.int .i64 j,.int .i64 a,.int .i64 b] 78)) by exact bE);have F:j=15∨j=16→IntKind.i64.wrap (4+a)=4+a:=fun h=>IntWalk.i64_in _ (by have:=c h;omega);clear r t c;go_enter Tryz.func214,Tryz.ntmps214
 go_wp2_with (first
  | (go_at_call 244;refine (A.out _).mono ?_;rintro e I ⟨rfl,d⟩;have o:=Zh (E.out.old d);have y:=Zh (Zaf u.out d);have J:=o.out.cell 0 (v:=.int .i64 j) rfl;have K:=o.out.cell 1 (v:=.int .i64 a) rfl;clear d))
 all_goals
  go_ret2;refine Zhg (ZcY ?_) rfl y.out;rw [D.out];unfold rcV;have G:j=15∨j=16→wrap64 (4+a)=4+a:=fun q=>by have:=z.out q;unfold wrap64;omega
  grind
end
