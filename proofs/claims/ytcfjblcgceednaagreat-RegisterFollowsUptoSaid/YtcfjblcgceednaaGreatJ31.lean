import Derived.Test.YtcfjblcgceednaaGreatJ28
import Derived.Test.YtcfjblcgceednaaGreatG23
set_option linter.all false
set_option maxRecDepth 100000
set_option maxHeartbeats 16000000
namespace Go.Proofs.YtcfjblcgceednaaGreat
theorem j13{p:Prop}(h:p:=by
 simp only [ZaQ,Bool.and_eq_true] at h;have:=h.1.1.2;rcases ho with rfl|rfl
 ·unfold inR at this;simp [opA,ZaO,ZaP,inI] at this;omega
 ·unfold inR at this;simp [opA,ZaO,ZaP,inI] at this;omega):p:=h
theorem j15{p:Prop}(h:p:=by
 go_ret2;exact Zhg (ZcY HE.out.1.symm) (ZcY HE.out.2.symm) (Zaf HB0.out hb1)):p:=h
theorem j21{p:Prop}(h:p:=by
 rw [if_pos h25,if_pos h25];have:=(ho.o25 h25).1;have:=ho.a0 (by omega);dsimp only;rw [Zm3 _ _ (by omega)]):p:=h
section
open Go.RowKit
section
variable {x:Ms}{B M:Nat}{h:Hd}{m:Md}{T:Nat→Int}{g:Nat}{caps:Array Value}{W0:World}{k:Nat}
section
variable {i:In3}{f s:Int}
theorem Zpr (q:i.op=25):(gT x m T).pl i=ZmS (x.wt i) (T i.a.toNat):=if_pos q
theorem Zps (q:i.op=26):(gT x m T).pl i=ZmS (x.wt i) (ZmW (fun t=>T t.toNat) (ZaN m i.a)):=(if_neg (by omega)).trans (if_pos q)
theorem Zpt (q:i.op≠25) (a:i.op≠26):(gT x m T).pl i=x.wt i:=(if_neg q).trans (if_neg a)
theorem Zpu (q:i.op=29):(gT x m T).brk i f s=ZmS (x.wt i) (max (ZmS f x.tl) (ZmS s x.tl)):=if_pos q
theorem Zpv (q:i.op=30):(gT x m T).brk i f s=ZmS (x.wt i) (ZmT i.a (ZmS f x.tl)):=(if_neg (by omega)).trans (if_pos q)
theorem Zpw (q:i.op=31∨i.op=32∧x.sc=false):(gT x m T).brk i f s=ZmS (x.wt i) (ZmS f x.tl):=(if_neg (by omega)).trans ((if_neg (by omega)).trans ((if_neg (by rcases q with q|q;omega;simp [q.2])).trans (if_neg (by omega))))
theorem Zpx (q:i.op=32) (a:x.sc=true):(gT x m T).brk i f s=x.wt i:=(if_neg (by omega)).trans ((if_neg (by omega)).trans (if_pos ⟨q,a⟩))
theorem Zpy (q:i.op=33):(gT x m T).brk i f s=ZmS (x.wt i) (ZmS (ZmS f x.tl) s):=(if_neg (by omega)).trans ((if_neg (by omega)).trans ((if_neg (by omega)).trans (if_pos q)))
end
theorem Zpz {T:Int→Int}{l:List Int}{j:Nat} (a:j<l.length):ZmW T (l.take (j+1))=max (ZmW T (l.take j)) (T (l.getD j 0)):=by rw [List.take_succ_eq_append_getElem a];unfold ZmW;rw [List.foldl_append];simp [a]
theorem ZpA {w w':World}{M:Nat}{T:Nat→Int}{Q:Nat→Prop}{a b:Int} (e:a=b) (d:Upd M M w w') (c:KnM T w' M Q):ZoC w M T Q b (.returned (.int .i64 a)) w':=⟨by rw [e],d,c⟩
theorem ZpB {op a b:Int} (h:ZaQ false ⟨op,a,b⟩=true) (c:op=30):0≤a∧a≤1000:=by subst c;simp only [ZaQ,Bool.and_eq_true] at h;have:=h.1.1.2;unfold inR at this;simp [opA,ZaO,ZaP,inI] at this;omega
theorem ZpC {w:World}{l:List In3}{p e:Nat}{y:VN} (H:ZoK w l p y e) (G:Wg):y.at_=p∧p<l.length∧((y.en=-1∧ZaR (l.getD p default).op=false∧ZoL G l p y=G.pl (l.getD p default)) ∨
  ∃ (en:Nat) (F S:List VN) (a c b d:Nat),y.en=en∧en<l.length∧(l.getD en default).op=35∧ZaR (l.getD p default).op=true∧(y.fn=F.length∧Zar w y.fo y.fc F∧Nds w l (fun _=>True) a c F∧p<a∧c<e)∧(y.sn=S.length∧Zar w y.so y.sc S∧Nds w l (fun _=>True) b d S∧p<b∧d<e) ∧
   ZoL G l p y=G.brk (l.getD p default) (WA G l a c 0) (WA G l b d 0)):=by
 cases H with
 | pl h1 h2=>exact ⟨rfl,h1,.inl ⟨rfl,h2,by unfold ZoL;rw [if_neg (by rw [h2];decide)]⟩⟩
 |one en fo fc F h1 h2 h3=>
  have o:=ZbI h1;refine ⟨rfl,h1.1,.inr ⟨en,F,[],p+1,en,en,en,rfl,h1.2.2.1,h1.2.2.2.1,h1.2.1,⟨rfl,h2,h3,by omega,by omega⟩,⟨rfl,Zar.nil _,.nil _ (by have:=h1.2.2.1;omega),by omega,by omega⟩,?_⟩⟩;unfold ZoL;rw [if_pos (show ZaR (l.getD p default).op=true from h1.2.1),Zmv];dsimp only;rw [if_pos (show (-1:Int) < 0 by decide),if_pos (show (-1:Int) < 0 by decide),Int.toNat_natCast]
 |two n en fo so fc sc F S h1 h2 h3 h4 h5=>
  have:=(h3.le).1;have:=(h5.le).1;refine ⟨rfl,h1.1,.inr ⟨en,F,S,p+1,n,n+1,en,rfl,h1.2.2.1,h1.2.2.2.1,h1.2.1,⟨rfl,h2,h3,by omega,by omega⟩,⟨rfl,h4,h5,by omega,by omega⟩,?_⟩⟩;have j:¬ (n:Int) < 0:=by omega
  unfold ZoL;rw [if_pos (show ZaR (l.getD p default).op=true from h1.2.1)];dsimp only;rw [if_neg j,if_neg j,Int.toNat_natCast,Int.toNat_natCast]
theorem ZpD (HW:Wkr x m T g caps W0) (hk:k<m.me.length) (hm:∀ j,j<k→ZoV x B M h m T g caps W0 j) {p p':Nat}{y:VN} (bZ:∀ a b,p<a→b<p'→ZoW x B M h m T g caps W0 k a b):ZoX x B M h m T g caps W0 k p y p':=by
 intro w Q H bY bX;obtain ⟨cc,hp,a0⟩:=ZpC bX (gT x m T);obtain ⟨ya,yl,ye,yf,a4,L,ys,a5,W⟩:=y;dsimp only at cc a0 ⊢;subst cc;clear bX;obtain ⟨ea,he,-,-,-,-,-,-,e6⟩:=H.md.mth hk;have c2:=H.wk.cell 2 (v:=.slice h.eo m.me.length h.ec) rfl;rw [he] at c2;have c4:=H.wk.cell 4 (v:=.func (Fn.func g) #[] caps) rfl;rw [show (m.me.getD k default).k.length=(cdM m k).length from rfl] at e6;obtain ⟨ca,bo,o0,o1,o2⟩:=ZaA (l:=cdM m k) (H.md.k k hk) hp;rw [bo] at e6;have cx:=Zh bo;clear bo;have aK:(cdM m k).getD p default∈cdM m k:=ZfU _ hp;have bt:=HW.opd hk aK;have bz:=HW.wt k hk _ aK;have aX:=((HW.ok hk).i _ aK).1;have ba:=Zh (HW.fn k hk _ aK);have bH:=Zh aX;obtain ⟨i,hi⟩:∃ i,i=(cdM m k).getD p default:=⟨_,rfl⟩;rw [←hi] at o0 o1 o2 bt bz ba a0 aX bH;obtain ⟨V,ia,ib⟩:=i;dsimp only at o0 o1 o2;have bu:=ZoS aX;dsimp only at bu;obtain ⟨v,hv⟩:∃ v,v=x.wt ⟨V,ia,ib⟩:=⟨_,rfl⟩;rw [←hv] at bz;rw [←hv] at ba;have cf:=HW.cf;have HV:=Zh hv;have aV:=Zh bt;have ab:=Zh HW;have Hj:=Zh hm;have HH:=Zh H;have HK:=Zh bY;have dC:(p:Int) < (cdM m k).length:=by omega
 have dy:(k:Int) < m.me.length:=by omega
 have l0:=Zac o0;have l2:=Zac c2;have lz:=Zac e6;dsimp only at l2 lz;obtain ⟨dD,dE⟩:=bz;obtain ⟨w2,aP⟩:∃ w2,w2=(w.alloc (.cells #[.int .i64 p,.int .i64 yl,.int .i64 ye,.slice yf a4 L,.slice ys a5 W] 193)).alloc (.cells #[.int .i64 V,.int .i64 ia,.int .i64 ib] 78):=⟨_,rfl⟩;have a9:=Zh (show Below w.heap.size w w2 by rw [aP];exact bE);have cI:=Zh (show Blk w2 w.heap.size #[.int .i64 p,.int .i64 yl,.int .i64 ye,.slice yf a4 L,.slice ys a5 W] 193 by rw [aP];exact (Blk.new w _ _).alloc _);have aT:=Zh (show Blk w2 (w.heap.size+1) #[.int .i64 V,.int .i64 ia,.int .i64 ib] 78 by rw [aP];exact Blk.new' (w:=w.alloc (.cells #[.int .i64 p,.int .i64 yl,.int .i64 ye,.slice yf a4 L,.slice ys a5 W] 193)) _ _ (by simp));have cH:=Zh aP;have du:=Zh bu;have bi:=Zh a0;have bJ:=Zh bZ;obtain ⟨dJ,b8⟩:∃ r,r=ZoL (gT x m T) (cdM m k) p ⟨p,yl,ye,yf,a4,L,ys,a5,W⟩:=⟨_,rfl⟩;rw [←b8] at bi ⊢;have dt:=Zh hi;clear HW hm H bY hv bt aK aX he aP hi bu a0 bZ b8;go_enter Tryz.func223,Tryz.ntmps223
 go_upto_region 3 with fail
 rw [←cH.out];have bm:Cs [(⟨B,4,none⟩,.func (Fn.func g) #[] caps),(⟨w.heap.size+1,0,none⟩,.int .i64 V),(⟨w.heap.size+1,1,none⟩,.int .i64 ia),(⟨w.heap.size+1,2,none⟩,.int .i64 ib)] w2:=⟨Zox.of a9.out _ _ c4,aT.out.cell 0 rfl,aT.out.cell 1 rfl,aT.out.cell 2 rfl,trivial⟩;have cy:=Zh bm;refine rO (Cs [(⟨B,4,none⟩,.func (Fn.func g) #[] caps),(⟨w.heap.size+1,0,none⟩,.int .i64 V),(⟨w.heap.size+1,1,none⟩,.int .i64 ia),(⟨w.heap.size+1,2,none⟩,.int .i64 ib)]) (oL [0,1,2,3,4,105,6]) bm ?_;clear bm c2 c4 o0 o1 o2 e6 l0 l2 lz
 repeat refine pO ?_
 refine oO fun G u=>?_;go_simp;refine (ba.out _ (HK.out.trans (Zox.of (a9.out.drew)))).mono ?_;rintro e w3 ⟨rfl,aH⟩;have av:=Zh (Zaf a9.out.drew aH);have bh:=Zh (cI.out.old (Zaf (Below.refl _ _).drew aH));have bb:=Zh (aT.out.old (Zaf (Below.refl _ _).drew aH));refine u _ _ ⟨Cs.keeps (Zox.of (Zaf (Below.refl _ _).drew aH)) cy.out,?_⟩;clear u G aH
 repeat refine pO ?_
 refine Zd5 ?_;have N:=Zh (HH.out.old av.out);have aU:=Zh (HK.out.trans (Zox.of av.out));have i0:=bb.out.cell 0 (v:=.int .i64 V) rfl;have i1:=bb.out.cell 1 (v:=.int .i64 ia) rfl;rcases bi.out with ⟨bA,ho,U⟩|⟨en,F,S,a1,b1,a2,b2,bA,bU,a7,ho,⟨cO,b6,br,b3,bS⟩,⟨aN,b7,bs,b4,bT⟩,U⟩
 ·subst bA;have ah:=Zh (And.intro ho U);clear ho U;have x2:=bh.out.cell 2 (v:=.int .i64 (-1)) rfl
  go_upto_region 8 with fail
  clear x2 i0;by_cases h25:V=25
  ·subst h25
   as_aux_lemma=>
   have ha:=(aV.out.o25 rfl).1;have bn:=aV.out.a0 (by simp);dsimp only at ha bn;obtain ⟨j,rfl⟩:∃ j:Nat,ia=j:=⟨ia.toNat,by omega⟩;have cQ:j<k:=by omega
   have bd:=Zh (Hj.out j cQ _ Q N.out aU.out)
   go_wp2_with (first
    | (go_at_call 110;refine bd.out.mono ?_;rintro e w4 ⟨rfl,cb,bq⟩;have ax:=Zh ((Upd.of av.out).trans cb);have n:=Zh bq;clear cb bq)
    | (go_at_call 160;refine (ZoO _ _ _ ⟨by omega,by omega⟩ (ab.out.bd j)).mono ?_;rintro e w5 ⟨rfl,aJ⟩))
   go_ret;exact ZpA (by rw [ah.out.2,Zpr rfl,HV.out];rfl) (ax.out.bel aJ) ((n.out.old aJ).weak fun q hq=>hq.imp id (by omega))
  by_cases h26:V=26
  ·subst h26
   as_aux_lemma=>
   obtain ⟨ha,bw⟩:=aV.out.o26 rfl;have bn:=aV.out.a0 (by simp);dsimp only at ha bn bw;obtain ⟨s,rfl⟩:∃ j:Nat,ia=j:=⟨ia.toNat,by omega⟩;have c0:=N.out.wk.cell 0 (v:=.slice h.co m.cl.length h.cc) rfl;have c1:=N.out.wk.cell 1 (v:=.slice h.so m.st.length h.sc) rfl;have c2:=N.out.wk.cell 2 (v:=.slice h.eo m.me.length h.ec) rfl;have c3:=N.out.wk.cell 3 (v:=.int .i64 m.sel) rfl;have bM:=Zh (Zir m h s w3.drew (N.out.md.old (Below.refl _ _).drew) ab.out.hm ha);have bO:=Zh bw;have cR:=Nat.le_trans (ZdG m s) (Zin ab.out.hm).1;have bN:=Zh (fun t (ht:t∈ZaN m s)=>ZfT ht);obtain ⟨tg,bx⟩:∃ tg,tg=ZaN m s:=⟨_,rfl⟩;rw [←bx] at bM bO cR bN;have cG:=Zh bx;clear ha bw bx
   go_upto_region 12 with fail
   refine rO (Cs [(⟨B,0,none⟩,.slice h.co m.cl.length h.cc),(⟨B,1,none⟩,.slice h.so m.st.length h.sc),(⟨B,2,none⟩,.slice h.eo m.me.length h.ec),(⟨B,3,none⟩,.int .i64 m.sel),(⟨w.heap.size+1,1,none⟩,.int .i64 s)]) (oL [0,1,2,3,4,5,106,7,8,9,10,11]) ⟨c0,c1,c2,c3,i1,trivial⟩ ?_
   repeat refine pO ?_
   refine oO fun G u=>?_;go_simp;refine bM.out.mono ?_;rintro e w4 ⟨⟨ao,dw,rfl,b5⟩,aI⟩;have aj:=Zaf (Below.refl w3.heap.size w3).drew aI;have Y:=Zh (Zaf av.out aj);have cD:=Zh b5;have n:=Zh (N.out.old aj);have Z:=Zh (aU.out.trans (Zox.of aj));have az:=Zox.of aj;refine u _ _ ⟨⟨az _ _ c0,az _ _ c1,az _ _ c2,az _ _ c3,az _ _ i1,trivial⟩,?_⟩;clear u G aI aj b5 az c0 c1 c2 c3 i1
   repeat refine pO ?_
   refine Zd5 ?_;have bR:∀ l:List Int,Bd (ZmW (fun t=>T t.toNat) l):=fun l=>ZoG fun t _=>ab.out.bd _;have cF:=Zh bR;clear bR
   go_wp2_with fail
   go_loopw [11,73] (fun mo i wr=>∃ (j:Nat) (mv:Int),i=.int .i64 j∧mo=.int .i64 mv∧j≤tg.length∧Hid (mv=ZmW (fun t=>T t.toNat) (tg.take j))∧Hid (Upd M M w wr)∧Hid (Upd M M w4 wr)∧Hid (KnM T wr M fun j=>Q j∨j<k)) (fun _ i _=>tg.length-(intOf i).toNat)
   case atStart=>exact ⟨0,0,rfl,rfl,Nat.zero_le _,rfl,Upd.of Y.out,Upd.refl _ _ _,n.out.kn.weak fun _ q=>.inl q⟩
   case round=>
    obtain ⟨j,mv,rfl,rfl,hj,bK,HU,ax,bI⟩:=hrel;by_cases hjl:j<tg.length
    ·obtain ⟨ad,rfl,t0⟩:=ZaB (Zoy cD.out (n.out.keeps ax.out)) hjl;have aL:tg.getD j 0∈tg:=ZfU _ hjl;have h1:=bO.out _ aL;have h2:=bN.out _ aL;have aN:=Zpz (T:=fun t=>T t.toNat) hjl;obtain ⟨tj,b9⟩:∃ t,t=tg.getD j 0:=⟨_,rfl⟩;rw [←b9] at t0 h1 h2 aN;obtain ⟨t,rfl⟩:∃ d:Nat,tj=d:=⟨tj.toNat,by omega⟩;have cS:t<k:=by omega
     have bd:=Zh (Hj.out t cS _ (fun j=>Q j∨j<k) (n.out.next ax.out bI.out) (Z.out.trans (n.out.keeps ax.out)));have cE:=Zh aN;have dg:(j:Int) < tg.length:=by omega
     have dF:IntKind.i64.wrap ((j:Int)+1)=((j+1:Nat):Int):=IntWalk.i64_in _ (by omega);clear aN aL h1 h2 b9
     go_wp2_with (go_at_call 110;refine bd.out.mono ?_;rintro e w5 ⟨rfl,E,A⟩;have ay:=Zh E;have cC:=Zh A;clear E A)
     exact ⟨⟨j+1,max mv (T t),rfl,rfl,hjl,by rw [cE.out,←bK.out];rfl,HU.out.trans ay.out,ax.out.trans ay.out,cC.out.weak fun q hq=>hq.elim id fun e=>.inr (by omega)⟩,by simp [intOf];omega⟩
    ·obtain rfl:j=tg.length:=by omega
     have aY:=bK.out;rw [List.take_length] at aY;have bp:=cF.out tg;rw [←aY] at bp;have cA:=Zh bp;have cB:=Zh aY;have dx:¬ (tg.length:Int) < tg.length:=by omega
     clear aY bp
     go_wp2_with (go_at_call 160;refine (ZoO _ _ _ ⟨by omega,by omega⟩ cA.out).mono ?_;rintro e w5 ⟨rfl,aJ⟩)
     go_ret;exact ZpA (by rw [ah.out.2,Zps rfl,HV.out,cB.out,cG.out]) (HU.out.bel aJ) (bI.out.old aJ)
  have dz:¬ V=29:=by have:=ah.out.1;unfold ZaR inI at this;simp at this;omega
  have dA:¬ V=30:=by have:=ah.out.1;unfold ZaR inI at this;simp at this;omega
  have dB:¬ V=31:=by have:=ah.out.1;unfold ZaR inI at this;simp at this;omega
  have bq:¬ V=32:=by have:=ah.out.1;unfold ZaR inI at this;simp at this;omega
  have A:¬ V=33:=by have:=ah.out.1;unfold ZaR inI at this;simp at this;omega
  go_wp2;go_ret;exact ZpA (by rw [ah.out.2,Zpt h25 h26,HV.out]) (.of av.out) (N.out.kn.weak fun _ q=>.inl q)
 ·subst bA cO aN;obtain ⟨dv,a6,q0,q1,q2⟩:=ZaA (l:=cdM m k) (N.out.md.k k hk) bU;rw [cx.out] at a6;cases a6;have a8:(cdM m k).getD en default∈cdM m k:=ZfU _ bU;have aD:=Zh (ab.out.fn k hk _ a8);have bv:=ab.out.te _ a7;obtain ⟨i2,bV⟩:∃ i,i=(cdM m k).getD en default:=⟨_,rfl⟩;rw [←bV] at q0 q1 q2 aD bv;rw [bv] at aD;obtain ⟨ch,cd,cg⟩:=i2;dsimp only at q0 q1 q2;have hF:=ab.out.bdW hk br.seg (acc:=0) (by unfold Bd;omega);have hS:=ab.out.bdW hk bs.seg (acc:=0) (by unfold Bd;omega);have aw:=Zh (show ∀ w' Q',ZoB w' B M h m (.func (Fn.func g) #[] caps) x.sc T Q'→Zox W0 w'→Zox w w'→_ from fun w' Q' hH u hk=>bJ.out a1 b1 b3 bS w' Q' yf L F hH u (Zoy b6 hk) (br.keeps hk));have bc:=Zh (show ∀ w' Q',ZoB w' B M h m (.func (Fn.func g) #[] caps) x.sc T Q'→Zox W0 w'→Zox w w'→_ from fun w' Q' hH u hk=>bJ.out a2 b2 b4 bT w' Q' ys W S hH u (Zoy b7 hk) (bs.keeps hk));obtain ⟨f,hf⟩:∃ f,f=WA (gT x m T) (cdM m k) a1 b1 0:=⟨_,rfl⟩;obtain ⟨s,hs⟩:∃ f,f=WA (gT x m T) (cdM m k) a2 b2 0:=⟨_,rfl⟩;rw [←hf] at hF aw U;rw [←hs] at hS bc U;have I:=hF;have aq:=hS;have D:Bd x.tl:=by have:=ab.out.tl;unfold Bd;omega
  have ak:Bd v:=by unfold Bd;omega
  have X:=Zh U;have ar:29≤V∧V≤33:=by have:=ho;unfold ZaR inI at this;simpa using this
  have bL:=Zh ar;have cv:=Zh (And.intro I (And.intro aq (And.intro D ak)));have dh:(en:Int) < (cdM m k).length:=by omega
  clear hF hS hf hs bv bV a8 a7 ho b6 br b7 bs U ar I aq D ak bi;have x2:=bh.out.cell 2 (v:=.int .i64 en) rfl;have de:(0:Int)≤en:=by omega
  have bQ:=N.out.wk.cell 4 (v:=.func (Fn.func g) #[] caps) rfl
  go_upto_region 6 with fail
  have bl:Cs [(⟨B,4,none⟩,.func (Fn.func g) #[] caps),(⟨w.heap.size,2,none⟩,.int .i64 en),((ca.add (en*3)),.int .i64 ch),(⟨(ca.add (en*3)).block,(ca.add (en*3)).off+1,none⟩,.int .i64 cd),(⟨(ca.add (en*3)).block,(ca.add (en*3)).off+2,none⟩,.int .i64 cg)] w3:=⟨bQ,x2,q0,q1,q2,trivial⟩;have cw:=Zh bl;refine rO (Cs [(⟨B,4,none⟩,.func (Fn.func g) #[] caps),(⟨w.heap.size,2,none⟩,.int .i64 en),((ca.add (en*3)),.int .i64 ch),(⟨(ca.add (en*3)).block,(ca.add (en*3)).off+1,none⟩,.int .i64 cd),(⟨(ca.add (en*3)).block,(ca.add (en*3)).off+2,none⟩,.int .i64 cg)]) (oL [0,1,2,3,4,5,6,7,8,109,10]) bl ?_;clear bl bQ x2 q0 q1 q2 i0 i1
  repeat refine pO ?_
  refine oO fun G u=>?_;go_simp;refine (aD.out _ (aU.out.trans (Zox.of ((Below.refl _ _).drew)))).mono ?_;rintro e w4 ⟨rfl,aI⟩;have O:=Zaf (Below.refl w3.heap.size w3).drew aI;have Y:=Zh (Zaf av.out O);have bP:=Zh (bh.out.old O);have bG:=Zh (bb.out.old O);have n:=Zh (N.out.old O);have Z:=Zh (aU.out.trans (Zox.of O));have an:=Zh (Zox.of Y.out);refine u _ _ ⟨Cs.keeps (Zox.of O) cw.out,?_⟩;clear u G aI O
  repeat refine pO ?_
  refine Zd5 ?_;have i0:=bG.out.cell 0 (v:=.int .i64 V) rfl;have i1:=bG.out.cell 1 (v:=.int .i64 ia) rfl;have x3:=bP.out.cell 3 (v:=.slice yf F.length L) rfl;have x4:=bP.out.cell 4 (v:=.slice ys S.length W) rfl;have c5:=n.out.wk.cell 5 (v:=.bool x.sc) rfl;have ar:=bL.out;have cz:=Zh (show V=30→0≤ia∧ia≤1000 from fun q=>ZpB bH.out q)
  go_upto_region 8 with fail
  clear i0;obtain ⟨I,aq,D,ak⟩:=cv.out
  -- <ways>
  by_cases h29:V=29
  ·subst h29
   as_aux_lemma=>
   have z:=Zh (show Cs [(⟨w.heap.size,3,none⟩,.slice yf F.length L),(⟨w.heap.size,4,none⟩,.slice ys S.length W)] w4 from ⟨x3,x4,trivial⟩)
   go_upto_region 20 with fail
   refine rO (Cs [(⟨w.heap.size,3,none⟩,.slice yf F.length L),(⟨w.heap.size,4,none⟩,.slice ys S.length W)]) (oL [0,1,2,3,4,6,8,9,10,11,13,105,107,112,114,15,116,17]) z.out ?_;have J:=Zh ((Upd.refl M M w4).drew)
   repeat refine pO ?_
   refine oO fun G u=>?_;go_simp;refine (aw.out _ _ (n.out.next J.out (n.out.kn.eq rfl)) (Z.out.trans (n.out.keeps J.out)) (an.out.trans (n.out.keeps J.out))).mono ?_;rintro e w5 ⟨rfl,E,A⟩;have ae:=Zh (J.out.trans E);have aa:=Zh A;refine u _ _ ⟨Cs.keeps (n.out.keeps ae.out) z.out,?_⟩;clear u G E A
   repeat refine pO ?_
   refine oO fun G u=>?_;go_simp;refine (ZoO f x.tl _ I D).mono ?_;rintro e w6 ⟨rfl,C⟩;have K:=Zh (ae.out.bel C);have aE:=Zh (aa.out.old C);refine u _ _ ⟨Cs.keeps (n.out.keeps K.out) z.out,?_⟩;clear u G C
   repeat refine pO ?_
   refine oO fun G u=>?_;go_simp;refine (bc.out _ _ (n.out.next K.out aE.out) (Z.out.trans (n.out.keeps K.out)) (an.out.trans (n.out.keeps K.out))).mono ?_;rintro e w7 ⟨rfl,aO,aM⟩;have af:=Zh (K.out.trans aO);have aF:=Zh aM;refine u _ _ ⟨Cs.keeps (n.out.keeps af.out) z.out,?_⟩;clear u G aO aM
   repeat refine pO ?_
   refine oO fun G u=>?_;go_simp;refine (ZoO s x.tl _ aq D).mono ?_;rintro e w8 ⟨rfl,R⟩;have ag:=Zh (af.out.bel R);have aG:=Zh (aF.out.old R);refine u _ _ ⟨Cs.keeps (n.out.keeps ag.out) z.out,?_⟩;clear u G R
   repeat refine pO ?_
   refine oO fun G u=>?_;go_simp;refine (ZoO v _ _ ak (ZoF (ZoD I D) (ZoD aq D))).mono ?_;rintro e w9 ⟨rfl,ap⟩;have aC:=Zh (ag.out.bel ap);have be:=Zh (aG.out.old ap);refine u _ _ ⟨Cs.keeps (n.out.keeps aC.out) z.out,?_⟩;clear u G ap
   repeat refine pO ?_
   refine Zd5 ?_;go_wp2;go_ret;exact ZpA (by rw [X.out,Zpu rfl,←HV.out]) ((Upd.of Y.out).trans aC.out) (be.out.weak fun q hq=>hq.elim id .inr)
  by_cases h30:V=30
  ·subst h30
   as_aux_lemma=>
   have z:=Zh (show Cs [(⟨w.heap.size,3,none⟩,.slice yf F.length L),(⟨w.heap.size+1,1,none⟩,.int .i64 ia)] w4 from ⟨x3,i1,trivial⟩);have bW:=cz.out rfl
   go_upto_region 22 with fail
   refine rO (Cs [(⟨w.heap.size,3,none⟩,.slice yf F.length L),(⟨w.heap.size+1,1,none⟩,.int .i64 ia)]) (oL [0,1,2,3,4,5,6,8,107,109,110,111,12]) z.out ?_;have J:=Zh ((Upd.refl M M w4).drew)
   repeat refine pO ?_
   refine oO fun G u=>?_;go_simp;refine (aw.out _ _ (n.out.next J.out (n.out.kn.eq rfl)) (Z.out.trans (n.out.keeps J.out)) (an.out.trans (n.out.keeps J.out))).mono ?_;rintro e w5 ⟨rfl,E,A⟩;have ae:=Zh (J.out.trans E);have aa:=Zh A;refine u _ _ ⟨Cs.keeps (n.out.keeps ae.out) z.out,?_⟩;clear u G E A
   repeat refine pO ?_
   refine oO fun G u=>?_;go_simp;refine (ZoO f x.tl _ I D).mono ?_;rintro e w6 ⟨rfl,C⟩;have K:=Zh (ae.out.bel C);have aE:=Zh (aa.out.old C);refine u _ _ ⟨Cs.keeps (n.out.keeps K.out) z.out,?_⟩;clear u G C
   repeat refine pO ?_
   refine oO fun G u=>?_;go_simp;refine (ZoP ia _ _ bW (ZoD I D)).mono ?_;rintro e w7 ⟨rfl,ac⟩;have af:=Zh (K.out.bel ac);have aF:=Zh (aE.out.old ac);refine u _ _ ⟨Cs.keeps (n.out.keeps af.out) z.out,?_⟩;clear u G ac
   repeat refine pO ?_
   refine oO fun G u=>?_;go_simp;refine (ZoO v _ _ ak (ZoE bW.1 (ZoD I D))).mono ?_;rintro e w8 ⟨rfl,R⟩;have ag:=Zh (af.out.bel R);have aG:=Zh (aF.out.old R);refine u _ _ ⟨Cs.keeps (n.out.keeps ag.out) z.out,?_⟩;clear u G R
   repeat refine pO ?_
   refine Zd5 ?_;go_wp2;go_ret;exact ZpA (by rw [X.out,Zpv rfl,←HV.out]) ((Upd.of Y.out).trans ag.out) (aG.out.weak fun q hq=>hq)
  by_cases h31:V=31
  ·subst h31
   as_aux_lemma=>
   go_wp2_with (first
    | (go_at_call 161;refine (aw.out _ _ n.out Z.out an.out).mono ?_;rintro e w5 ⟨rfl,E,A⟩;have ay:=Zh ((Upd.of Y.out).trans E);have aa:=Zh A;clear E A)
    | (go_at_call 160;first|(refine (ZoO f x.tl _ I D).mono ?_;rintro e w6 ⟨rfl,C⟩;have aB:=Zh C;clear C)|(refine (ZoO v _ _ ak (ZoD I D)).mono ?_;rintro e w7 ⟨rfl,ac⟩)))
   go_ret;exact ZpA (by rw [X.out,Zpw (.inl rfl),←HV.out]) ((ay.out.bel aB.out).bel ac) ((aa.out.old aB.out).old ac)
  by_cases h32:V=32
  ·subst h32
   as_aux_lemma=>
   rcases hsc:x.sc with _|_
   ·rw [hsc] at c5;have bf:=Zh hsc;clear hsc
    go_wp2_with (first
     | (go_at_call 161;refine (aw.out _ _ n.out Z.out an.out).mono ?_;rintro e w5 ⟨rfl,E,A⟩;have ay:=Zh ((Upd.of Y.out).trans E);have aa:=Zh A;clear E A)
     | (go_at_call 160;first|(refine (ZoO f x.tl _ I D).mono ?_;rintro e w6 ⟨rfl,C⟩;have aB:=Zh C;clear C)|(refine (ZoO v _ _ ak (ZoD I D)).mono ?_;rintro e w7 ⟨rfl,ac⟩)))
    go_ret;exact ZpA (by rw [X.out,Zpw (.inr ⟨rfl,bf.out⟩),←HV.out]) ((ay.out.bel aB.out).bel ac) ((aa.out.old aB.out).old ac)
   ·rw [hsc] at c5;have bf:=Zh hsc;clear hsc;go_wp2;go_ret;exact ZpA (by rw [X.out,Zpx rfl bf.out,←HV.out]) (.of Y.out) (n.out.kn.weak fun _ q=>.inl q)
  obtain rfl:V=33:=by have:=ar;omega
  have z:=Zh (show Cs [(⟨w.heap.size,3,none⟩,.slice yf F.length L),(⟨w.heap.size,4,none⟩,.slice ys S.length W)] w4 from ⟨x3,x4,trivial⟩)
  go_upto_region 30 with fail
  refine rO (Cs [(⟨w.heap.size,3,none⟩,.slice yf F.length L),(⟨w.heap.size,4,none⟩,.slice ys S.length W)]) (oL [0,1,2,3,4,6,8,9,10,11,105,107,112,113,114,15]) z.out ?_;have J:=Zh ((Upd.refl M M w4).drew)
  repeat refine pO ?_
  refine oO fun G u=>?_;go_simp;refine (aw.out _ _ (n.out.next J.out (n.out.kn.eq rfl)) (Z.out.trans (n.out.keeps J.out)) (an.out.trans (n.out.keeps J.out))).mono ?_;rintro e w5 ⟨rfl,E,A⟩;have ae:=Zh (J.out.trans E);have aa:=Zh A;refine u _ _ ⟨Cs.keeps (n.out.keeps ae.out) z.out,?_⟩;clear u G E A
  repeat refine pO ?_
  refine oO fun G u=>?_;go_simp;refine (ZoO f x.tl _ I D).mono ?_;rintro e w6 ⟨rfl,C⟩;have K:=Zh (ae.out.bel C);have aE:=Zh (aa.out.old C);refine u _ _ ⟨Cs.keeps (n.out.keeps K.out) z.out,?_⟩;clear u G C
  repeat refine pO ?_
  refine oO fun G u=>?_;go_simp;refine (bc.out _ _ (n.out.next K.out aE.out) (Z.out.trans (n.out.keeps K.out)) (an.out.trans (n.out.keeps K.out))).mono ?_;rintro e w7 ⟨rfl,aO,aM⟩;have af:=Zh (K.out.trans aO);have aF:=Zh aM;refine u _ _ ⟨Cs.keeps (n.out.keeps af.out) z.out,?_⟩;clear u G aO aM
  repeat refine pO ?_
  refine oO fun G u=>?_;go_simp;refine (ZoO _ s _ (ZoD I D) aq).mono ?_;rintro e w8 ⟨rfl,R⟩;have ag:=Zh (af.out.bel R);have aG:=Zh (aF.out.old R);refine u _ _ ⟨Cs.keeps (n.out.keeps ag.out) z.out,?_⟩;clear u G R
  repeat refine pO ?_
  refine oO fun G u=>?_;go_simp;refine (ZoO v _ _ ak (ZoD (ZoD I D) aq)).mono ?_;rintro e w9 ⟨rfl,ap⟩;have aC:=Zh (ag.out.bel ap);have be:=Zh (aG.out.old ap);refine u _ _ ⟨Cs.keeps (n.out.keeps aC.out) z.out,?_⟩;clear u G ap
  repeat refine pO ?_
  refine Zd5 ?_;go_wp2;go_ret;exact ZpA (by rw [X.out,Zpy rfl,←HV.out]) ((Upd.of Y.out).trans aC.out) (be.out.weak fun q hq=>hq.elim id .inr)
  -- </ways>
end
end
section
open Go.RowKit
section
variable {x:Ms}{B M:Nat}{h:Hd}{m:Md}{T:Nat→Int}{g:Nat}{caps:Array Value}{W0:World}{k:Nat}
theorem ZpE (c:Wkr x m T g caps W0) (d:k<m.me.length) (e:∀ j,j<k→ZoV x B M h m T g caps W0 j):∀ (n a b:Nat),b-a≤n→ZoW x B M h m T g caps W0 k a b
 | 0,a,b,hn=>ZoY c d fun p y u q r t=>by omega
 | n+1,a,b,hn=>ZoY c d fun p y u q r t=>ZpD c d e fun l o v z=>ZpE c d e n l o (by omega)
theorem ZpF (a:Wkr x m T g caps W0):∀ (n k:Nat),k<n→k<m.me.length→ZoV x B M h m T g caps W0 k
 | 0,k,hn,_=>by omega
 | n+1,k,hn,hk=>Zo3 a hk (ZpE a hk (fun j b=>ZpF a n j (by omega) (by omega)) (cdM m k).length 0 (cdM m k).length (by omega))
end
theorem ZpG {i:In3} (h:ZaQ false i=true):0≤ZmU i∧ZmU i≤1000:=by
 have c:=ZoR i.op.toNat
 unfold ZmU;split
 ·rename_i ho;obtain ⟨d,a,b⟩:=i;dsimp only at ho ⊢;have:0≤a∧a≤48:=by exact j13
  dsimp only at c;omega
 ·omega
theorem ZpH (i:In3) (h:i.op=35):ZmU i=1:=by unfold ZmU;rw [h,if_neg (by omega)];rfl
theorem ZpI {i:In3} (h:ZaQ false i=true) (ho:i.op=15∨i.op=16):0≤i.a∧i.a≤1000:=by obtain ⟨c,a,b⟩:=i;dsimp only at ho ⊢;exact j13
theorem ZpJ {m:Md}{k:Nat} (h:m.me.length≤k):cdM m k=[]:=by unfold cdM;rw [List.getD_eq_getElem?_getD,List.getElem?_eq_none h];rfl
theorem ZpK (G:(Int→Int)→Wg) (m:Md) (k:Nat):Zm1 G m k=WA (G fun t=>(Zm0 G m k).getD t.toNat 0) (cdM m k) 0 (cdM m k).length 0:=by
 unfold Zm1
 conv=>lhs;unfold Zm0
 rw [List.getD_eq_getElem?_getD,List.getElem?_append_right (by rw [Zm2];omega),Zm2,Nat.sub_self];rfl
theorem ZpL {m:Md} (a:Za1 m=true) {x:Ms} (e:∀ k,k<m.me.length→∀ i∈cdM m k,0≤x.wt i∧x.wt i≤1000) (d:0≤x.tl∧x.tl≤1000):∀ (n k:Nat),k<n→Bd (Zm1 (gW x m) m k)
 | 0,k,hn=>by omega
 |n+1,k,hn=>by
  have b:Bd 0:=by unfold Bd;omega
  rw [ZpK];by_cases hk:k<m.me.length
  ·refine ZoJ (e k hk) d (fun t=>?_) (fun i c=>(ZfS ((ZfN a hk).i i c).1 ((ZfN a hk).i i c).2).a0) (Zmq (ZfN a hk).n) 0 b;by_cases hj:t.toNat<k
   ·rw [Zm3 _ _ hj];exact ZpL a e d n _ (by omega)
   ·rw [List.getD_eq_getElem?_getD,List.getElem?_eq_none (by rw [Zm2];omega)];exact b
  ·rw [ZpJ (by omega)];show Bd (WA _ _ 0 0 0);rw [Zmv];exact b
theorem ZpM {m:Md} (b:Za1 m=true) (x:Ms) {k:Nat} (a:k<m.me.length):Zm1 (gW x m) m k=WA (gT x m (Zm1 (gW x m) m)) (cdM m k) 0 (cdM m k).length 0:=by
 refine Zm5 (Zmq (ZfN b a).n) (fun _ _=>rfl) (fun _ _=>rfl) (fun i c=>?_);have ho:=ZfS ((ZfN b a).i i c).1 ((ZfN b a).i i c).2;show (if i.op=25 then ZmS (x.wt i) _ else if i.op=26 then ZmS (x.wt i) _ else _)=if i.op=25 then ZmS (x.wt i) _ else if i.op=26 then ZmS (x.wt i) _ else _;by_cases h25:i.op=25
 ·exact j21
 ·rw [if_neg h25,if_neg h25];by_cases h26:i.op=26
  ·rw [if_pos h26,if_pos h26];congr 1;refine Zm6 fun t d=>?_;have:=(ho.o26 h26).2 t d;have:=ZfT d;rw [Zm3 _ _ (by omega)]
  ·rw [if_neg h26,if_neg h26]
theorem ZpN (i:In3) (w:World) (c:ZaQ false i=true):Calls Tryz.prog 158 #[ZI.i i] w (Ret w (.int .i64 (ZmU i))):=by
 have d:=Zh (fun l=>ZoT i l c (ZpI c));clear c;obtain ⟨n,a,b⟩:=i;dsimp only at d ⊢;go_enter Tryz.func158,Tryz.ntmps158
 go_wp2_with (go_at_call 220;refine (d.out _).mono ?_;rintro e o ⟨rfl,j⟩)
 go_ret;exact ZcT rfl bE
theorem KnM.made (T:Nat→Int) (w:World):KnM T (w.alloc (.map #[] 0)) w.heap.size fun _=>False:=
 ⟨[],.map [],List.nodup_nil,fun k a=>by simp at a,World.ownsMap_made _ _ _ _,Maps.isMap_empty,fun k=>by simp [Maps.has],fun k a=>by simp at a⟩
def ZpO:Value:=.func (Fn.func 158) #[] #[]
def ZpP (w:World) (h:Hd) (m:Md):Ending→World→Prop:=fun e w'=>∃ B M,e=.returned (.pointer (some ⟨B,0,none⟩))∧Below w.heap.size w w'∧w.heap.size≤M∧∀ T,ZoB w' B M h m ZpO false T fun _=>False
theorem ZpQ (m:Md) (h:Hd) (w:World) (H:Zay w h m):Calls Tryz.prog 101 #[.agg (HM.mk h m)] w (ZpP w h m):=by have b:=@run_makeMap Tryz.prog;have a:=Zh H;clear H;go_enter Tryz.func101,Tryz.ntmps101;go_wp2;go_ret;refine ⟨w.heap.size+1+1,w.heap.size+1,rfl,by exact bE,by omega,fun T=>⟨Blk.new' _ _ (by simp),a.out.old bE,?_⟩⟩;have:=KnM.made T (w.alloc (.cells (HM.mk h m) 26));rw [bls] at this;exact this.old bE
def ZpR (m:Md) (k:Int):Bool:=decide ((Zmg m).2.2=0)&&inV m.me.length k
theorem ZpS {m:Md}{k:Int} (h:ZpR m k=true):Za1 m=true∧0≤k∧k<m.me.length:=by
 unfold ZpR inV at h;simp only [Bool.and_eq_true,decide_eq_true_eq] at h;refine ⟨?_,h.2⟩;have:=h.1;unfold Zmg at this;split at this
 ·assumption
 ·simp at this
theorem ZpT (m:Md) (h:Hd) (k:Int) (w:World) (H:Zay w h m):Calls Tryz.prog 100 #[.agg (HM.mk h m),.int .i64 k] w (Ret w (.int .i64 (if ZpR m k=true then 0 else 1))):=by
 have n:=Zh (fun w' t=>Zmj w' h m (H.old (w':=w') t));obtain ⟨q,d⟩:∃ q:Int,q=if ZpR m k=true then 0 else 1:=⟨_,rfl⟩;rw [←d];obtain ⟨⟨A,C,D⟩,o⟩:∃ z,z=Zmg m:=⟨_,rfl⟩;unfold ZpR inV at d;rw [←o] at n d;have r:=Zh d;have c:Below w.heap.size w (w.alloc (.cells (HM.mk h m) 26)):=by exact bE
 have b:=Zh c;have l:=Zh (Blk.new w (HM.mk h m) 26);clear H o d c;go_enter Tryz.func100,Tryz.ntmps100
 go_wp2_with (go_at_call 82;refine (n.out _ b.out).mono ?_;rintro e u ⟨rfl,a⟩;have y:=(l.out.old a).cell 2 (v:=.slice h.eo m.me.length h.ec) rfl;have j:=Zh (Zaf b.out a);clear a)
 all_goals
  go_ret;refine ZcT (ZcY ?_) j.out;rw [r.out];grind
def ZpU (m:Md) (k:Int):Int × Int:=if ZpR m k=true then (if 1000000000<Zm1 (gW ZmV m) m k.toNat then (0,6) else (Zm1 (gW ZmV m) m k.toNat,0)) else (0,1)
theorem ZpV {m:Md} (hm:Za1 m=true) (W0:World):Wkr ZmV m (Zm1 (gW ZmV m) m) 158 #[] W0 where
 hm:=hm
 wt k a i b:=ZpG ((ZfN hm a).i i b).1
 tl:=by decide
 te:=ZpH
 bd k:=ZpL hm (x:=ZmV) (fun k a i b=>ZpG ((ZfN hm a).i i b).1) (by decide) (k+1) k (by omega)
 eq k a:=ZpM hm ZmV a
 cf A W:=by kernel_rfl
 fn k a i b w' _:=by have:=ZpN i w' ((ZfN hm a).i i b).1;rw [Array.append_empty];exact this
theorem ZpW (m:Md) (h:Hd) (k:Int) (w:World) (H:Zay w h m):Calls Tryz.prog 54 #[.agg (HM.mk h m),.int .i64 k] w (Zhf w (.int .i64 (ZpU m k).1) (.int .i64 (ZpU m k).2)):=by
 have j:Below w.heap.size w (w.alloc (.cells (HM.mk h m) 26)):=by exact bE
 have A:=Zh (ZpT m h k _ (H.old j));obtain ⟨N,a⟩:∃ r,r=(ZpU m k).1:=⟨_,rfl⟩;obtain ⟨O,b⟩:∃ r,r=(ZpU m k).2:=⟨_,rfl⟩;rw [←a,←b];have HB0:=Zh j;have G:=Zh (Blk.new w (HM.mk h m) 26);have P:=Zh H;rcases hq:ZpR m k with _|_
 ·rw [hq] at A;have o:N=0:=by rw [a];unfold ZpU;rw [hq];rfl
  have q:O=1:=by rw [b];unfold ZpU;rw [hq];rfl
  have HE:=Zh (And.intro o q);clear j H a b hq o q;go_enter Tryz.func54,Tryz.ntmps54
  go_wp2_with (go_at_call 100;refine A.out.mono ?_;rintro e V ⟨rfl,hb1⟩)
  exact j15
 ·rw [hq] at A;obtain ⟨L,S,U⟩:=ZpS hq;obtain ⟨k,rfl⟩:∃ d:Nat,k=d:=⟨k.toNat,by omega⟩;have J:k<m.me.length:=by omega
  obtain ⟨v,C⟩:∃ v,v=Zm1 (gW ZmV m) m k:=⟨_,rfl⟩;have o:N=if 1000000000<v then 0 else v:=by rw [a,C];unfold ZpU;rw [hq,if_pos rfl,Int.toNat_natCast];split<;>rfl
  have q:O=if 1000000000<v then 6 else 0:=by rw [b,C];unfold ZpU;rw [hq,if_pos rfl,Int.toNat_natCast];split<;>rfl
  have HE:=Zh (And.intro o q);have Q:=Zh (fun B M W0=>ZpF (B:=B) (M:=M) (h:=h) (ZpV L W0) (k+1) k (by omega) J);have R:=Zh C;clear j H a b hq o q C L;go_enter Tryz.func54,Tryz.ntmps54
  go_wp2_with (first
   | (go_at_call 100;refine A.out.mono ?_;rintro e V ⟨rfl,hb1⟩;have l:=Zh (Zaf HB0.out hb1);have c:=Zh (G.out.old hb1);have Z:=c.out.cell 0 (v:=.slice h.co m.cl.length h.cc) rfl;have x1:=c.out.cell 1 (v:=.slice h.so m.st.length h.sc) rfl;have x2:=c.out.cell 2 (v:=.slice h.eo m.me.length h.ec) rfl;have x3:=c.out.cell 3 (v:=.int .i64 m.sel) rfl;clear hb1)
   | (go_at_call 101;refine (ZpQ m h _ (P.out.old l.out)).mono ?_;rintro e W ⟨B,M,rfl,y,t,u⟩;have D:=Zh (Zaf l.out y);have n:=Zh (Nat.le_trans l.out.size t);clear t;have F:=Zh u;clear y u)
   | (go_at_call 110;refine (Q.out B M W _ _ (F.out _) (Zox.refl _)).mono ?_;rintro e X ⟨rfl,z,K⟩;rw [←R.out];have E:=Zh z;clear z K)
   | (go_at_call 105;refine (ZoQ _ _).mono ?_;rintro e Y ⟨rfl,I⟩;rw [←HE.out.1,←HE.out.2]))
  go_ret2;exact Zhg rfl rfl (Zaf (E.out.below D.out (Nat.le_refl _) n.out n.out) I)
end
section
open Go.RowKit
theorem ZpX (m:Md) (h:Hd) (w:World) (H:Zay w h m):Calls Tryz.prog 148 #[.agg (HM.mk h m)] w (Ret w (.int .i64 (if (Zmg m).2.2=0 then 0 else 1))):=by
 have o:=Zh (fun w' u=>Zjj m h w' (H.old (w':=w') u));have A:=Zh (fun w' u=>Zmk w' h m (H.old (w':=w') u));have b:Za1 m=false→(Zmg m).2.2=1:=fun q=>by unfold Zmg;rw [if_neg (by rw [q];decide)]
 obtain ⟨q,j⟩:∃ q:Int,q=if (Zmg m).2.2=0 then 0 else 1:=⟨_,rfl⟩;rw [←j];obtain ⟨⟨N,O,P⟩,y⟩:∃ z,z=Zmg m:=⟨_,rfl⟩;rw [←y] at A j b;dsimp only at j b;have E:=Zh j;have c:=Zh (show Below w.heap.size w (w.alloc (.cells (HM.mk h m) 26)) by exact bE);have t:=Zh (Blk.new w (HM.mk h m) 26);rcases hm:Za1 m with _|_
 ·have C:q=1:=by rw [j,b hm];rfl
  have D:=Zh C;rw [hm] at o;clear H y j hm b C;go_enter Tryz.func148,Tryz.ntmps148
  go_wp2_with (go_at_call 60;refine (o.out _ c.out).mono ?_;rintro e F ⟨rfl,a⟩)
  go_ret;exact ZcT (ZcY D.out.symm) (Zaf c.out a)
 ·rw [hm] at o;clear H y j hm b;go_enter Tryz.func148,Tryz.ntmps148
  go_wp2_with (first
   | (go_at_call 60;refine (o.out _ c.out).mono ?_;rintro e F ⟨rfl,a⟩;have l:=Zh (Zaf c.out a);have d:=Zh (t.out.old a);have I:=d.out.cell 0 (v:=.slice h.co m.cl.length h.cc) rfl;have J:=d.out.cell 1 (v:=.slice h.so m.st.length h.sc) rfl;have K:=d.out.cell 2 (v:=.slice h.eo m.me.length h.ec) rfl;have L:=d.out.cell 3 (v:=.int .i64 m.sel) rfl;clear a)
   | (go_at_call 135;refine (A.out _ l.out).mono ?_;rintro e G ⟨rfl,n⟩;have r:=Zh (Zaf l.out n);clear n))
  all_goals
   go_ret;refine ZcT (ZcY ?_) r.out;rw [E.out];grind
theorem ZpY (m:Md) (h:Hd) (k:Int) (w:World) (H:Zay w h m):Calls Tryz.prog 87 #[.agg (HM.mk h m),.int .i64 k] w (Ret w (.int .i64 (if ZpR m k=true then 0 else 1))):=by
 have o:=Zh (fun w' u=>ZpX m h w' (H.old (w':=w') u));obtain ⟨q,n⟩:∃ q:Int,q=if ZpR m k=true then 0 else 1:=⟨_,rfl⟩;rw [←n];obtain ⟨z,d⟩:∃ z:Int,z=if (Zmg m).2.2=0 then 0 else 1:=⟨_,rfl⟩;have c:q=if z=0∧0≤k∧k<m.me.length then 0 else 1:=by
  rw [n,d];unfold ZpR inV;by_cases h1:(Zmg m).2.2=0
  ·simp [h1]
  ·simp [h1]
 rw [←d] at o;have t:=Zh (show z=0∨z=1 by rw [d];split<;>simp);have r:=Zh c;have b:=Zh (show Below w.heap.size w (w.alloc (.cells (HM.mk h m) 26)) by exact bE);have l:=Zh (Blk.new w (HM.mk h m) 26);clear H n d c;go_enter Tryz.func87,Tryz.ntmps87
 go_wp2_with (go_at_call 148;refine (o.out _ b.out).mono ?_;rintro e y ⟨rfl,a⟩;have A:=(l.out.old a).cell 2 (v:=.slice h.eo m.me.length h.ec) rfl;have j:=Zh (Zaf b.out a);clear a)
 all_goals
  go_ret;refine ZcT (ZcY ?_) j.out;have:=t.out;rw [r.out];grind
def rcV (k:Int) (a:Int):Int:=if k=8∨k=18∨k=19∨k=23∨k=28 then 3 else if k=9 then 8 else if k=14 then 12 else if k=15∨k=16 then 4+a else if k=17∨k=21∨k=22∨k=24∨k=27∨k=30∨k=31∨k=33 then 2 else if k=20∨k=25∨k=32 then 4 else if k=26 then 6 else 1
theorem ZpZ {i:In3} (h:ZaQ false i=true):ZmU i=rcV i.op i.a:=by
 have c:=ZoS h;obtain ⟨d,a,b⟩:=i;dsimp only at c ⊢;obtain ⟨k,rfl⟩:∃ k:Nat,d=k:=⟨d.toNat,by omega⟩;have j:k<36:=by omega
 have e:∀ k,k<36→((opC.getD k 0:Nat):Int)=rcV k 0:=by decide
 unfold ZmU;rw [Int.toNat_natCast,e k j];unfold rcV;grind
theorem Zp0 (i:In3) (w:World) (o:ZaQ false i=true):Calls Tryz.prog 214 #[ZI.i i] w (Zhf w (.int .i64 (ZmU i)) (.int .i64 0)):=by
 have z:=ZoS o;have c:=ZpI o;have y:=Zh (fun F=>Zgy i false F);rw [o] at y;obtain ⟨q,n⟩:∃ q,q=ZmU i:=⟨_,rfl⟩;rw [←n];rw [ZpZ o] at n;obtain ⟨j,a,b⟩:=i;dsimp only at z y c n;have A:=Zh n;have u:=Zh c;have C:=Zh (Blk.new w #[.int .i64 j,.int .i64 a,.int .i64 b] 78);have r:=Zh (show Below w.heap.size w (w.alloc (.cells #[.int .i64 j,.int .i64 a,.int .i64 b] 78)) by exact bE);have D:j=15∨j=16→IntKind.i64.wrap (4+a)=4+a:=fun h=>IntWalk.i64_in _ (by have:=c h;omega);clear n o c;go_enter Tryz.func214,Tryz.ntmps214
 go_wp2_with (first
  | (go_at_call 244;refine (y.out _).mono ?_;rintro e G ⟨rfl,d⟩;have l:=Zh (C.out.old d);have t:=Zh (Zaf r.out d);have H:=l.out.cell 0 (v:=.int .i64 j) rfl;have I:=l.out.cell 1 (v:=.int .i64 a) rfl;clear d))
 all_goals
  go_ret2;refine Zhg (ZcY ?_) rfl t.out;rw [A.out];unfold rcV;have E:j=15∨j=16→wrap64 (4+a)=4+a:=fun q=>by have:=u.out q;unfold wrap64;omega
  grind
end
