/- Joined texts. The first: bound: a weigher's node. -/
import Derived.Test.YtfkbfjhocmbneaaGreatT16
import Derived.Test.YtfkbfjhocmbneaaGreatG15
import Derived.Test.YtfkbfjhocmbneaaGreatG2
set_option linter.all false
set_option linter.unusedVariables false
set_option linter.unusedSimpArgs false
set_option maxRecDepth 100000
set_option maxHeartbeats 16000000
namespace Go.Proofs.YtfkbfjhocmbneaaGreat
theorem j0{p:Prop}(h:p:=by
 go_wp2_with (go_at_call 122;refine (both_any sv _ _ HIt.out.2.1 HXb.out).mono ?_;rintro e wE ⟨rfl,hbE⟩;have HBe:=Lib.hid hbE;clear hbE)
 obtain ⟨q1,q2,q3,q4,q5⟩:=HIt.out
 exact ⟨⟨j+1,p',bothV sv v,rfl,by rw [HXv.out],hjl,⟨by omega,q4,bothV_bl q2 (HXv.out▸HXb.out),q1.keeps (HKz.out.trans (Keeps.of HBe.out)),HWa.out⟩,HUz.out.bel HBe.out,HNz.out.old HBe.out⟩,by simp [intOf];omega⟩):p:=h
theorem j4{p:Prop}(h:p:=by
 clear hz
 go_wp2_with (first
  | (go_at_call 58;refine HMt.out.mono ?_;rintro e w8 ⟨rfl,hu8,hn8⟩;have HU8:=Lib.hid (HV.out.trans hu8);have HN8:=Lib.hid (hn8.weak (R:=fun j=>Q j∨j<k) fun q hq=>hq.elim id fun e=>.inr (by omega));clear hu8 hn8)
  | (go_at_call 124;refine (lighter_any _ _ _).mono ?_;rintro e w9 ⟨rfl,hb9⟩))
 exact ⟨⟨j2+1,rfl,by rw [HSn.out];rfl,hjl3,HU8.out.bel hb9,HN8.out.old hb9⟩,by simp [intOf];omega⟩):p:=h
theorem j7{p:Prop}(h:p:=by
 simp only [insnV,Bool.and_eq_true] at h
 have:=h.1.1.2
 rcases ho with rfl|rfl
 ·unfold inR at this;simp [opA,mostV,poolR,inI] at this;omega
 ·unfold inR at this;simp [opA,mostV,poolR,inI] at this;omega):p:=h
theorem j9{p:Prop}(h:p:=by
 go_wp2_with (go_at_call 42;refine HA.out.mono ?_;rintro e w1 ⟨rfl,hb1⟩)
 go_ret2
 exact ret2_ok (int_eq HE.out.1.symm) (int_eq HE.out.2.symm) (bthen HB0.out hb1)):p:=h
theorem j10{p:Prop}(h:p:=by
 rw [if_pos h25,if_pos h25]
 have:=(ho.o25 h25).1
 have:=ho.a0 (by omega)
 dsimp only
 rw [tabV_get _ _ (by omega)]):p:=h
section
open Go.RowKit
section
variable {x:Ms}{B M:Nat}{h:Hd}{m:Md}{T:Nat→Int}{g:Nat}{caps:Array Value}{W0:World}{k:Nat}
section
variable {i:In3}{f s:Int}
theorem gT_25 (q:i.op=25):(gT x m T).pl i=addV (x.wt i) (T i.a.toNat):=if_pos q
theorem gT_26 (q:i.op=26):(gT x m T).pl i=addV (x.wt i) (mostT (fun t=>T t.toNat) (tgtV m i.a)):=(if_neg (by omega)).trans (if_pos q)
theorem gT_x (q:i.op≠25) (q2:i.op≠26):(gT x m T).pl i=x.wt i:=(if_neg q).trans (if_neg q2)
theorem gT_29 (q:i.op=29):(gT x m T).brk i f s=addV (x.wt i) (max (addV f x.tl) (addV s x.tl)):=if_pos q
theorem gT_30 (q:i.op=30):(gT x m T).brk i f s=addV (x.wt i) (mulV i.a (addV f x.tl)):=(if_neg (by omega)).trans (if_pos q)
theorem gT_31 (q:i.op=31∨i.op=32∧x.sc=false):(gT x m T).brk i f s=addV (x.wt i) (addV f x.tl):=(if_neg (by omega)).trans ((if_neg (by omega)).trans ((if_neg (by rcases q with q|q;omega;simp [q.2])).trans (if_neg (by omega))))
theorem gT_32 (q:i.op=32) (q2:x.sc=true):(gT x m T).brk i f s=x.wt i:=(if_neg (by omega)).trans ((if_neg (by omega)).trans (if_pos ⟨q,q2⟩))
theorem gT_33 (q:i.op=33):(gT x m T).brk i f s=addV (x.wt i) (addV (addV f x.tl) s):=(if_neg (by omega)).trans ((if_neg (by omega)).trans ((if_neg (by omega)).trans (if_pos q)))
end
theorem mostT_snoc {T:Int→Int}{l:List Int}{j:Nat} (hj:j<l.length):mostT T (l.take (j+1))=max (mostT T (l.take j)) (T (l.getD j 0)):=by
 rw [List.take_succ_eq_append_getElem hj]
 unfold mostT
 rw [List.foldl_append]
 simp [hj]
theorem w_ret {w w':World}{M:Nat}{T:Nat→Int}{Q:Nat→Prop}{a b:Int} (e:a=b) (hu:Upd M M w w') (hn:KnM T w' M Q):WPost w M T Q b (.returned (.int .i64 a)) w':=⟨by rw [e],hu,hn⟩
theorem loop_bd {op a b:Int} (h:insnV false ⟨op,a,b⟩=true) (ho:op=30):0≤a∧a≤1000:=by
 subst ho
 simp only [insnV,Bool.and_eq_true] at h
 have:=h.1.1.2
 unfold inR at this
 simp [opA,mostV,poolR,inI] at this
 omega
theorem item_cases {w:World}{l:List In3}{p p':Nat}{y:VN} (H:Item w l p y p') (G:Wg):y.at_=p∧p<l.length∧((y.en=-1∧opensV (l.getD p default).op=false∧itemW G l p y=G.pl (l.getD p default)) ∨
  ∃ (en:Nat) (F S:List VN) (a1 b1 a2 b2:Nat),y.en=en∧en<l.length∧(l.getD en default).op=35∧opensV (l.getD p default).op=true∧(y.fn=F.length∧RowAt w y.fo y.fc F∧Nds w l (fun _=>True) a1 b1 F∧p<a1∧b1<p')∧(y.sn=S.length∧RowAt w y.so y.sc S∧Nds w l (fun _=>True) a2 b2 S∧p<a2∧b2<p') ∧
   itemW G l p y=G.brk (l.getD p default) (WA G l a1 b1 0) (WA G l a2 b2 0)):=by
 cases H with
 | pl h1 h2=>exact ⟨rfl,h1,.inl ⟨rfl,h2,by unfold itemW;rw [if_neg (by rw [h2];decide)]⟩⟩
 | one en fo fc F h1 h2 h3=>
  have hpe:=mat_lt h1
  refine ⟨rfl,h1.1,.inr ⟨en,F,[],p+1,en,en,en,rfl,h1.2.2.1,h1.2.2.2.1,h1.2.1,⟨rfl,h2,h3,by omega,by omega⟩,⟨rfl,RowAt.nil _,.nil _ (by have:=h1.2.2.1;omega),by omega,by omega⟩,?_⟩⟩
  unfold itemW
  rw [if_pos (show opensV (l.getD p default).op=true from h1.2.1),WA_nil]
  dsimp only
  rw [if_pos (show (-1:Int) < 0 by decide),if_pos (show (-1:Int) < 0 by decide),Int.toNat_natCast]
 | two n en fo so fc sc F S h1 h2 h3 h4 h5=>
  have:=(h3.le).1
  have:=(h5.le).1
  refine ⟨rfl,h1.1,.inr ⟨en,F,S,p+1,n,n+1,en,rfl,h1.2.2.1,h1.2.2.2.1,h1.2.1,⟨rfl,h2,h3,by omega,by omega⟩,⟨rfl,h4,h5,by omega,by omega⟩,?_⟩⟩
  have hn:¬ (n:Int) < 0:=by omega
  unfold itemW
  rw [if_pos (show opensV (l.getD p default).op=true from h1.2.1)]
  dsimp only
  rw [if_neg hn,if_neg hn,Int.toNat_natCast,Int.toNat_natCast]
theorem wnode_of (HW:Wkr x m T g caps W0) (hk:k<m.me.length) (hm:∀ j,j<k→MethC x B M h m T g caps W0 j) {p p':Nat}{y:VN} (hlc:∀ a b,p<a→b<p'→ListC x B M h m T g caps W0 k a b):NodeC x B M h m T g caps W0 k p y p':=by
 intro w Q H hk0 hit
 obtain ⟨hya,hp,hyc⟩:=item_cases hit (gT x m T)
 obtain ⟨ya,yl,ye,yf,yfn,yfc,ys,ysn,ysc⟩:=y
 dsimp only at hya hyc ⊢
 subst hya
 clear hit
 obtain ⟨ea,he,-,-,-,-,-,-,e6⟩:=H.md.mth hk
 have c2:=H.wk.cell 2 (v:=.slice h.eo m.me.length h.ec) rfl
 rw [he] at c2
 have c4:=H.wk.cell 4 (v:=.func (Fn.func g) #[] caps) rfl
 rw [show (m.me.getD k default).k.length=(cdM m k).length from rfl] at e6
 obtain ⟨ca,hca,o0,o1,o2⟩:=row_in (l:=cdM m k) (H.md.k k hk) hp
 rw [hca] at e6
 have HCa:=Lib.hid hca
 clear hca
 have hin:(cdM m k).getD p default∈cdM m k:=getD_mem _ hp
 have hod:=HW.opd hk hin
 have hwt:=HW.wt k hk _ hin
 have hiv:=((HW.ok hk).i _ hin).1
 have HFn:=Lib.hid (HW.fn k hk _ hin)
 have HIv:=Lib.hid hiv
 obtain ⟨i,hi⟩:∃ i,i=(cdM m k).getD p default:=⟨_,rfl⟩
 rw [←hi] at o0 o1 o2 hod hwt HFn hyc hiv HIv
 obtain ⟨op,ia,ib⟩:=i
 dsimp only at o0 o1 o2
 have hop:=insnV_op hiv
 dsimp only at hop
 obtain ⟨v,hv⟩:∃ v,v=x.wt ⟨op,ia,ib⟩:=⟨_,rfl⟩
 rw [←hv] at hwt
 rw [←hv] at HFn
 have cf:=HW.cf
 have HV:=Lib.hid hv
 have HOd:=Lib.hid hod
 have HWk:=Lib.hid HW
 have HM:=Lib.hid hm
 have HH:=Lib.hid H
 have HK:=Lib.hid hk0
 have hpl:(p:Int) < (cdM m k).length:=by omega
 have hkl:(k:Int) < m.me.length:=by omega
 have l0:=cell_lt o0
 have l2:=cell_lt c2
 have lz:=cell_lt e6
 dsimp only at l2 lz
 obtain ⟨hw0,hw1⟩:=hwt
 obtain ⟨w2,hw2⟩:∃ w2,w2=(w.alloc (.cells #[.int .i64 p,.int .i64 yl,.int .i64 ye,.slice yf yfn yfc,.slice ys ysn ysc] 112)).alloc (.cells #[.int .i64 op,.int .i64 ia,.int .i64 ib] 42):=⟨_,rfl⟩
 have HB2:=Lib.hid (show Below w.heap.size w w2 by rw [hw2];exact bE)
 have HX2:=Lib.hid (show Blk w2 w.heap.size #[.int .i64 p,.int .i64 yl,.int .i64 ye,.slice yf yfn yfc,.slice ys ysn ysc] 112 by rw [hw2];exact (Blk.new w _ _).alloc _)
 have HI2:=Lib.hid (show Blk w2 (w.heap.size+1) #[.int .i64 op,.int .i64 ia,.int .i64 ib] 42 by rw [hw2];exact Blk.new' (w:=w.alloc (.cells #[.int .i64 p,.int .i64 yl,.int .i64 ye,.slice yf yfn yfc,.slice ys ysn ysc] 112)) _ _ (by simp))
 have HW2:=Lib.hid hw2
 have HOp:=Lib.hid hop
 have HYc:=Lib.hid hyc
 have HLc:=Lib.hid hlc
 obtain ⟨rw_,hrw⟩:∃ r,r=itemW (gT x m T) (cdM m k) p ⟨p,yl,ye,yf,yfn,yfc,ys,ysn,ysc⟩:=⟨_,rfl⟩
 rw [←hrw] at HYc ⊢
 have HHi:=Lib.hid hi
 clear HW hm H hk0 hv hod hin hiv he hw2 hi hop hyc hlc hrw
 go_enter Tryz.func114,Tryz.ntmps114
 go_upto_region 3 with fail
 rw [←HW2.out]
 have hCs:Cs [(⟨B,4,none⟩,.func (Fn.func g) #[] caps),(⟨w.heap.size+1,0,none⟩,.int .i64 op),(⟨w.heap.size+1,1,none⟩,.int .i64 ia),(⟨w.heap.size+1,2,none⟩,.int .i64 ib)] w2:=⟨Keeps.of HB2.out _ _ c4,HI2.out.cell 0 rfl,HI2.out.cell 1 rfl,HI2.out.cell 2 rfl,trivial⟩
 have HCs:=Lib.hid hCs
 refine rO (Cs [(⟨B,4,none⟩,.func (Fn.func g) #[] caps),(⟨w.heap.size+1,0,none⟩,.int .i64 op),(⟨w.heap.size+1,1,none⟩,.int .i64 ia),(⟨w.heap.size+1,2,none⟩,.int .i64 ib)]) (oL [0,1,2,3,4,105,6]) hCs ?_
 clear hCs c2 c4 o0 o1 o2 e6 l0 l2 lz
 repeat refine pO ?_
 refine oO fun Kv hK=>?_
 go_simp
 refine (HFn.out _ (HK.out.trans (Keeps.of (HB2.out.drew)))).mono ?_
 rintro e w3 ⟨rfl,hb3⟩
 have HB3:=Lib.hid (bthen HB2.out.drew hb3)
 have HX3:=Lib.hid (HX2.out.old (bthen (Below.refl _ _).drew hb3))
 have HI3:=Lib.hid (HI2.out.old (bthen (Below.refl _ _).drew hb3))
 refine hK _ _ ⟨Cs.keeps (Keeps.of (bthen (Below.refl _ _).drew hb3)) HCs.out,?_⟩
 clear hK Kv hb3
 repeat refine pO ?_
 refine wpMixO_done ?_
 have HN3:=Lib.hid (HH.out.old HB3.out)
 have HK3:=Lib.hid (HK.out.trans (Keeps.of HB3.out))
 have i0:=HI3.out.cell 0 (v:=.int .i64 op) rfl
 have i1:=HI3.out.cell 1 (v:=.int .i64 ia) rfl
 rcases HYc.out with ⟨hye,ho,hval⟩|⟨en,F,S,a1,b1,a2,b2,hye,hen,he35,ho,⟨hfn,hrF,hnF,hpa1,hbp1⟩,⟨hsn,hrS,hnS,hpa2,hbp2⟩,hval⟩
 ·subst hye
  have HO2:=Lib.hid (And.intro ho hval)
  clear ho hval
  have x2:=HX3.out.cell 2 (v:=.int .i64 (-1)) rfl
  go_upto_region 8 with fail
  clear x2 i0
  by_cases h25:op=25
  ·subst h25
   as_aux_lemma=>
   have ha:=(HOd.out.o25 rfl).1
   have ha0:=HOd.out.a0 (by simp)
   dsimp only at ha ha0
   obtain ⟨j,rfl⟩:∃ j:Nat,ia=j:=⟨ia.toNat,by omega⟩
   have hjk:j<k:=by omega
   have HMj:=Lib.hid (HM.out j hjk _ Q HN3.out HK3.out)
   go_wp2_with (first
    | (go_at_call 52;refine HMj.out.mono ?_;rintro e w4 ⟨rfl,hu4,hn4⟩;have HU4:=Lib.hid ((Upd.of HB3.out).trans hu4);have HN4:=Lib.hid hn4;clear hu4 hn4)
    | (go_at_call 97;refine (add_any _ _ _ ⟨by omega,by omega⟩ (HWk.out.bd j)).mono ?_;rintro e w5 ⟨rfl,hb5⟩))
   go_ret
   exact w_ret (by rw [HO2.out.2,gT_25 rfl,HV.out];rfl) (HU4.out.bel hb5) ((HN4.out.old hb5).weak fun q hq=>hq.imp id (by omega))
  by_cases h26:op=26
  ·subst h26
   as_aux_lemma=>
   obtain ⟨ha,htg⟩:=HOd.out.o26 rfl
   have ha0:=HOd.out.a0 (by simp)
   dsimp only at ha ha0 htg
   obtain ⟨s,rfl⟩:∃ j:Nat,ia=j:=⟨ia.toNat,by omega⟩
   have c0:=HN3.out.wk.cell 0 (v:=.slice h.co m.cl.length h.cc) rfl
   have c1:=HN3.out.wk.cell 1 (v:=.slice h.so m.st.length h.sc) rfl
   have c2:=HN3.out.wk.cell 2 (v:=.slice h.eo m.me.length h.ec) rfl
   have c3:=HN3.out.wk.cell 3 (v:=.int .i64 m.sel) rfl
   have HTg:=Lib.hid (lTargets_yes m h s w3.drew (HN3.out.md.old (Below.refl _ _).drew) HWk.out.hm ha)
   have HTt:=Lib.hid htg
   have hln:=Nat.le_trans (tgtV_len m s) (modV_size HWk.out.hm).1
   have HTn:=Lib.hid (fun t (ht:t∈tgtV m s)=>tgt_nn ht)
   obtain ⟨tg,htq⟩:∃ tg,tg=tgtV m s:=⟨_,rfl⟩
   rw [←htq] at HTg HTt hln HTn
   have HTq:=Lib.hid htq
   clear ha htg htq
   go_upto_region 12 with fail
   refine rO (Cs [(⟨B,0,none⟩,.slice h.co m.cl.length h.cc),(⟨B,1,none⟩,.slice h.so m.st.length h.sc),(⟨B,2,none⟩,.slice h.eo m.me.length h.ec),(⟨B,3,none⟩,.int .i64 m.sel),(⟨w.heap.size+1,1,none⟩,.int .i64 s)]) (oL [0,1,2,3,4,5,106,7,8,9,10,11]) ⟨c0,c1,c2,c3,i1,trivial⟩ ?_
   repeat refine pO ?_
   refine oO fun Kv hK=>?_
   go_simp
   refine HTg.out.mono ?_
   rintro e w4 ⟨⟨ao,cap,rfl,hr4⟩,hb4⟩
   have hb4':=bthen (Below.refl w3.heap.size w3).drew hb4
   have HB4:=Lib.hid (bthen HB3.out hb4')
   have HR4:=Lib.hid hr4
   have HN4:=Lib.hid (HN3.out.old hb4')
   have HK4:=Lib.hid (HK3.out.trans (Keeps.of hb4'))
   have hkk:=Keeps.of hb4'
   refine hK _ _ ⟨⟨hkk _ _ c0,hkk _ _ c1,hkk _ _ c2,hkk _ _ c3,hkk _ _ i1,trivial⟩,?_⟩
   clear hK Kv hb4 hb4' hr4 hkk c0 c1 c2 c3 i1
   repeat refine pO ?_
   refine wpMixO_done ?_
   have hTb:∀ l:List Int,Bd (mostT (fun t=>T t.toNat) l):=fun l=>mostT_bd fun t _=>HWk.out.bd _
   have HTb:=Lib.hid hTb
   clear hTb
   go_wp2_with fail
   go_loopw [11,73] (fun mo i wr=>∃ (j:Nat) (mv:Int),i=.int .i64 j∧mo=.int .i64 mv∧j≤tg.length∧Hid (mv=mostT (fun t=>T t.toNat) (tg.take j))∧Hid (Upd M M w wr)∧Hid (Upd M M w4 wr)∧Hid (KnM T wr M fun j=>Q j∨j<k)) (fun _ i _=>tg.length-(intOf i).toNat)
   case atStart=>exact ⟨0,0,rfl,rfl,Nat.zero_le _,rfl,Upd.of HB4.out,Upd.refl _ _ _,HN4.out.kn.weak fun _ q=>.inl q⟩
   case round=>
    obtain ⟨j,mv,rfl,rfl,hj,HMv,HU,HU4,HKn⟩:=hrel
    by_cases hjl:j<tg.length
    ·obtain ⟨ad,rfl,t0⟩:=row_int (row_keeps HR4.out (HN4.out.keeps HU4.out)) hjl
     have hmem:tg.getD j 0∈tg:=getD_mem _ hjl
     have h1:=HTt.out _ hmem
     have h2:=HTn.out _ hmem
     have hsn:=mostT_snoc (T:=fun t=>T t.toNat) hjl
     obtain ⟨tj,htj⟩:∃ t,t=tg.getD j 0:=⟨_,rfl⟩
     rw [←htj] at t0 h1 h2 hsn
     obtain ⟨t,rfl⟩:∃ d:Nat,tj=d:=⟨tj.toNat,by omega⟩
     have htk:t<k:=by omega
     have HMj:=Lib.hid (HM.out t htk _ (fun j=>Q j∨j<k) (HN4.out.next HU4.out HKn.out) (HK4.out.trans (HN4.out.keeps HU4.out)))
     have HSn:=Lib.hid hsn
     have hjl2:(j:Int) < tg.length:=by omega
     have hwj:IntKind.i64.wrap ((j:Int)+1)=((j+1:Nat):Int):=IntWalk.i64_in _ (by omega)
     clear hsn hmem h1 h2 htj
     go_wp2_with (go_at_call 52;refine HMj.out.mono ?_;rintro e w5 ⟨rfl,hu5,hn5⟩;have HU5:=Lib.hid hu5;have HN5:=Lib.hid hn5;clear hu5 hn5)
     exact ⟨⟨j+1,max mv (T t),rfl,rfl,hjl,by rw [HSn.out,←HMv.out];rfl,HU.out.trans HU5.out,HU4.out.trans HU5.out,HN5.out.weak fun q hq=>hq.elim id fun e=>.inr (by omega)⟩,by simp [intOf];omega⟩
    ·obtain rfl:j=tg.length:=by omega
     have hmv:=HMv.out
     rw [List.take_length] at hmv
     have hmb:=HTb.out tg
     rw [←hmv] at hmb
     have HMb:=Lib.hid hmb
     have HMq:=Lib.hid hmv
     have hj2:¬ (tg.length:Int) < tg.length:=by omega
     clear hmv hmb
     go_wp2_with (go_at_call 97;refine (add_any _ _ _ ⟨by omega,by omega⟩ HMb.out).mono ?_;rintro e w5 ⟨rfl,hb5⟩)
     go_ret
     exact w_ret (by rw [HO2.out.2,gT_26 rfl,HV.out,HMq.out,HTq.out]) (HU.out.bel hb5) (HKn.out.old hb5)
  have hn1:¬ op=29:=by have:=HO2.out.1;unfold opensV inI at this;simp at this;omega
  have hn2:¬ op=30:=by have:=HO2.out.1;unfold opensV inI at this;simp at this;omega
  have hn3:¬ op=31:=by have:=HO2.out.1;unfold opensV inI at this;simp at this;omega
  have hn4:¬ op=32:=by have:=HO2.out.1;unfold opensV inI at this;simp at this;omega
  have hn5:¬ op=33:=by have:=HO2.out.1;unfold opensV inI at this;simp at this;omega
  go_wp2
  go_ret
  exact w_ret (by rw [HO2.out.2,gT_x h25 h26,HV.out]) (.of HB3.out) (HN3.out.kn.weak fun _ q=>.inl q)
 ·subst hye hfn hsn
  obtain ⟨ca2,hca2,q0,q1,q2⟩:=row_in (l:=cdM m k) (HN3.out.md.k k hk) hen
  rw [HCa.out] at hca2
  cases hca2
  have hin2:(cdM m k).getD en default∈cdM m k:=getD_mem _ hen
  have HFn2:=Lib.hid (HWk.out.fn k hk _ hin2)
  have hte:=HWk.out.te _ he35
  obtain ⟨i2,hi2⟩:∃ i,i=(cdM m k).getD en default:=⟨_,rfl⟩
  rw [←hi2] at q0 q1 q2 HFn2 hte
  rw [hte] at HFn2
  obtain ⟨op2,ia2,ib2⟩:=i2
  dsimp only at q0 q1 q2
  have hF:=HWk.out.bdW hk hnF.seg (acc:=0) (by unfold Bd;omega)
  have hS:=HWk.out.bdW hk hnS.seg (acc:=0) (by unfold Bd;omega)
  have HLf:=Lib.hid (show ∀ w' Q',WsAt w' B M h m (.func (Fn.func g) #[] caps) x.sc T Q'→Keeps W0 w'→Keeps w w'→_ from fun w' Q' hH hK hk=>HLc.out a1 b1 hpa1 hbp1 w' Q' yf yfc F hH hK (row_keeps hrF hk) (hnF.keeps hk))
  have HLs:=Lib.hid (show ∀ w' Q',WsAt w' B M h m (.func (Fn.func g) #[] caps) x.sc T Q'→Keeps W0 w'→Keeps w w'→_ from fun w' Q' hH hK hk=>HLc.out a2 b2 hpa2 hbp2 w' Q' ys ysc S hH hK (row_keeps hrS hk) (hnS.keeps hk))
  obtain ⟨f,hf⟩:∃ f,f=WA (gT x m T) (cdM m k) a1 b1 0:=⟨_,rfl⟩
  obtain ⟨s,hs⟩:∃ f,f=WA (gT x m T) (cdM m k) a2 b2 0:=⟨_,rfl⟩
  rw [←hf] at hF HLf hval
  rw [←hs] at hS HLs hval
  have hbf:=hF
  have hbs:=hS
  have hbt:Bd x.tl:=by have:=HWk.out.tl;unfold Bd;omega
  have hbv:Bd v:=by unfold Bd;omega
  have HVal:=Lib.hid hval
  have hop5:29≤op∧op≤33:=by have:=ho;unfold opensV inI at this;simpa using this
  have HOpp:=Lib.hid hop5
  have HBd:=Lib.hid (And.intro hbf (And.intro hbs (And.intro hbt hbv)))
  have hle2:(en:Int) < (cdM m k).length:=by omega
  clear hF hS hf hs hte hi2 hin2 he35 ho hrF hnF hrS hnS hval hop5 hbf hbs hbt hbv HYc
  have x2:=HX3.out.cell 2 (v:=.int .i64 en) rfl
  have hen0:(0:Int)≤en:=by omega
  have c43:=HN3.out.wk.cell 4 (v:=.func (Fn.func g) #[] caps) rfl
  go_upto_region 6 with fail
  have hC3:Cs [(⟨B,4,none⟩,.func (Fn.func g) #[] caps),(⟨w.heap.size,2,none⟩,.int .i64 en),((ca.add (en*3)),.int .i64 op2),(⟨(ca.add (en*3)).block,(ca.add (en*3)).off+1,none⟩,.int .i64 ia2),(⟨(ca.add (en*3)).block,(ca.add (en*3)).off+2,none⟩,.int .i64 ib2)] w3:=⟨c43,x2,q0,q1,q2,trivial⟩
  have HC3:=Lib.hid hC3
  refine rO (Cs [(⟨B,4,none⟩,.func (Fn.func g) #[] caps),(⟨w.heap.size,2,none⟩,.int .i64 en),((ca.add (en*3)),.int .i64 op2),(⟨(ca.add (en*3)).block,(ca.add (en*3)).off+1,none⟩,.int .i64 ia2),(⟨(ca.add (en*3)).block,(ca.add (en*3)).off+2,none⟩,.int .i64 ib2)]) (oL [0,1,2,3,4,5,6,7,8,109,10]) hC3 ?_
  clear hC3 c43 x2 q0 q1 q2 i0 i1
  repeat refine pO ?_
  refine oO fun Kv hK=>?_
  go_simp
  refine (HFn2.out _ (HK3.out.trans (Keeps.of ((Below.refl _ _).drew)))).mono ?_
  rintro e w4 ⟨rfl,hb4⟩
  have hb34:=bthen (Below.refl w3.heap.size w3).drew hb4
  have HB4:=Lib.hid (bthen HB3.out hb34)
  have HX4:=Lib.hid (HX3.out.old hb34)
  have HI4:=Lib.hid (HI3.out.old hb34)
  have HN4:=Lib.hid (HN3.out.old hb34)
  have HK4:=Lib.hid (HK3.out.trans (Keeps.of hb34))
  have HKw:=Lib.hid (Keeps.of HB4.out)
  refine hK _ _ ⟨Cs.keeps (Keeps.of hb34) HC3.out,?_⟩
  clear hK Kv hb4 hb34
  repeat refine pO ?_
  refine wpMixO_done ?_
  have i0:=HI4.out.cell 0 (v:=.int .i64 op) rfl
  have i1:=HI4.out.cell 1 (v:=.int .i64 ia) rfl
  have x3:=HX4.out.cell 3 (v:=.slice yf F.length yfc) rfl
  have x4:=HX4.out.cell 4 (v:=.slice ys S.length ysc) rfl
  have c5:=HN4.out.wk.cell 5 (v:=.bool x.sc) rfl
  have hop5:=HOpp.out
  have HLp:=Lib.hid (show op=30→0≤ia∧ia≤1000 from fun q=>loop_bd HIv.out q)
  go_upto_region 8 with fail
  clear i0
  obtain ⟨hbf,hbs,hbt,hbv⟩:=HBd.out
  -- <ways>
  by_cases h29:op=29
  ·subst h29
   as_aux_lemma=>
   have HC4:=Lib.hid (show Cs [(⟨w.heap.size,3,none⟩,.slice yf F.length yfc),(⟨w.heap.size,4,none⟩,.slice ys S.length ysc)] w4 from ⟨x3,x4,trivial⟩)
   go_upto_region 20 with fail
   refine rO (Cs [(⟨w.heap.size,3,none⟩,.slice yf F.length yfc),(⟨w.heap.size,4,none⟩,.slice ys S.length ysc)]) (oL [0,1,2,3,4,6,8,9,10,11,13,105,107,112,114,15,116,17]) HC4.out ?_
   have HD4:=Lib.hid ((Upd.refl M M w4).drew)
   repeat refine pO ?_
   refine oO fun Kv hK=>?_
   go_simp
   refine (HLf.out _ _ (HN4.out.next HD4.out (HN4.out.kn.eq rfl)) (HK4.out.trans (HN4.out.keeps HD4.out)) (HKw.out.trans (HN4.out.keeps HD4.out))).mono ?_
   rintro e w5 ⟨rfl,hu5,hn5⟩
   have HD5:=Lib.hid (HD4.out.trans hu5)
   have HQ5:=Lib.hid hn5
   refine hK _ _ ⟨Cs.keeps (HN4.out.keeps HD5.out) HC4.out,?_⟩
   clear hK Kv hu5 hn5
   repeat refine pO ?_
   refine oO fun Kv hK=>?_
   go_simp
   refine (add_any f x.tl _ hbf hbt).mono ?_
   rintro e w6 ⟨rfl,hb6⟩
   have HD6:=Lib.hid (HD5.out.bel hb6)
   have HQ6:=Lib.hid (HQ5.out.old hb6)
   refine hK _ _ ⟨Cs.keeps (HN4.out.keeps HD6.out) HC4.out,?_⟩
   clear hK Kv hb6
   repeat refine pO ?_
   refine oO fun Kv hK=>?_
   go_simp
   refine (HLs.out _ _ (HN4.out.next HD6.out HQ6.out) (HK4.out.trans (HN4.out.keeps HD6.out)) (HKw.out.trans (HN4.out.keeps HD6.out))).mono ?_
   rintro e w7 ⟨rfl,hu7,hn7⟩
   have HD7:=Lib.hid (HD6.out.trans hu7)
   have HQ7:=Lib.hid hn7
   refine hK _ _ ⟨Cs.keeps (HN4.out.keeps HD7.out) HC4.out,?_⟩
   clear hK Kv hu7 hn7
   repeat refine pO ?_
   refine oO fun Kv hK=>?_
   go_simp
   refine (add_any s x.tl _ hbs hbt).mono ?_
   rintro e w8 ⟨rfl,hb8⟩
   have HD8:=Lib.hid (HD7.out.bel hb8)
   have HQ8:=Lib.hid (HQ7.out.old hb8)
   refine hK _ _ ⟨Cs.keeps (HN4.out.keeps HD8.out) HC4.out,?_⟩
   clear hK Kv hb8
   repeat refine pO ?_
   refine oO fun Kv hK=>?_
   go_simp
   refine (add_any v _ _ hbv (max_bd (addV_bd hbf hbt) (addV_bd hbs hbt))).mono ?_
   rintro e w9 ⟨rfl,hb9⟩
   have HD9:=Lib.hid (HD8.out.bel hb9)
   have HQ9:=Lib.hid (HQ8.out.old hb9)
   refine hK _ _ ⟨Cs.keeps (HN4.out.keeps HD9.out) HC4.out,?_⟩
   clear hK Kv hb9
   repeat refine pO ?_
   refine wpMixO_done ?_
   go_wp2
   go_ret
   exact w_ret (by rw [HVal.out,gT_29 rfl,←HV.out]) ((Upd.of HB4.out).trans HD9.out) (HQ9.out.weak fun q hq=>hq.elim id .inr)
  by_cases h30:op=30
  ·subst h30
   as_aux_lemma=>
   have HC4:=Lib.hid (show Cs [(⟨w.heap.size,3,none⟩,.slice yf F.length yfc),(⟨w.heap.size+1,1,none⟩,.int .i64 ia)] w4 from ⟨x3,i1,trivial⟩)
   have hia:=HLp.out rfl
   go_upto_region 22 with fail
   refine rO (Cs [(⟨w.heap.size,3,none⟩,.slice yf F.length yfc),(⟨w.heap.size+1,1,none⟩,.int .i64 ia)]) (oL [0,1,2,3,4,5,6,8,107,109,110,111,12]) HC4.out ?_
   have HD4:=Lib.hid ((Upd.refl M M w4).drew)
   repeat refine pO ?_
   refine oO fun Kv hK=>?_
   go_simp
   refine (HLf.out _ _ (HN4.out.next HD4.out (HN4.out.kn.eq rfl)) (HK4.out.trans (HN4.out.keeps HD4.out)) (HKw.out.trans (HN4.out.keeps HD4.out))).mono ?_
   rintro e w5 ⟨rfl,hu5,hn5⟩
   have HD5:=Lib.hid (HD4.out.trans hu5)
   have HQ5:=Lib.hid hn5
   refine hK _ _ ⟨Cs.keeps (HN4.out.keeps HD5.out) HC4.out,?_⟩
   clear hK Kv hu5 hn5
   repeat refine pO ?_
   refine oO fun Kv hK=>?_
   go_simp
   refine (add_any f x.tl _ hbf hbt).mono ?_
   rintro e w6 ⟨rfl,hb6⟩
   have HD6:=Lib.hid (HD5.out.bel hb6)
   have HQ6:=Lib.hid (HQ5.out.old hb6)
   refine hK _ _ ⟨Cs.keeps (HN4.out.keeps HD6.out) HC4.out,?_⟩
   clear hK Kv hb6
   repeat refine pO ?_
   refine oO fun Kv hK=>?_
   go_simp
   refine (multiply_any ia _ _ hia (addV_bd hbf hbt)).mono ?_
   rintro e w7 ⟨rfl,hb7⟩
   have HD7:=Lib.hid (HD6.out.bel hb7)
   have HQ7:=Lib.hid (HQ6.out.old hb7)
   refine hK _ _ ⟨Cs.keeps (HN4.out.keeps HD7.out) HC4.out,?_⟩
   clear hK Kv hb7
   repeat refine pO ?_
   refine oO fun Kv hK=>?_
   go_simp
   refine (add_any v _ _ hbv (mulV_bd hia.1 (addV_bd hbf hbt))).mono ?_
   rintro e w8 ⟨rfl,hb8⟩
   have HD8:=Lib.hid (HD7.out.bel hb8)
   have HQ8:=Lib.hid (HQ7.out.old hb8)
   refine hK _ _ ⟨Cs.keeps (HN4.out.keeps HD8.out) HC4.out,?_⟩
   clear hK Kv hb8
   repeat refine pO ?_
   refine wpMixO_done ?_
   go_wp2
   go_ret
   exact w_ret (by rw [HVal.out,gT_30 rfl,←HV.out]) ((Upd.of HB4.out).trans HD8.out) (HQ8.out.weak fun q hq=>hq)
  by_cases h31:op=31
  ·subst h31
   as_aux_lemma=>
   go_wp2_with (first
    | (go_at_call 87;refine (HLf.out _ _ HN4.out HK4.out HKw.out).mono ?_;rintro e w5 ⟨rfl,hu5,hn5⟩;have HU5:=Lib.hid ((Upd.of HB4.out).trans hu5);have HQ5:=Lib.hid hn5;clear hu5 hn5)
    | (go_at_call 97;first|(refine (add_any f x.tl _ hbf hbt).mono ?_;rintro e w6 ⟨rfl,hb6⟩;have HB6:=Lib.hid hb6;clear hb6)|(refine (add_any v _ _ hbv (addV_bd hbf hbt)).mono ?_;rintro e w7 ⟨rfl,hb7⟩)))
   go_ret
   exact w_ret (by rw [HVal.out,gT_31 (.inl rfl),←HV.out]) ((HU5.out.bel HB6.out).bel hb7) ((HQ5.out.old HB6.out).old hb7)
  by_cases h32:op=32
  ·subst h32
   as_aux_lemma=>
   rcases hsc:x.sc with _|_
   ·rw [hsc] at c5
    have HSc:=Lib.hid hsc
    clear hsc
    go_wp2_with (first
     | (go_at_call 87;refine (HLf.out _ _ HN4.out HK4.out HKw.out).mono ?_;rintro e w5 ⟨rfl,hu5,hn5⟩;have HU5:=Lib.hid ((Upd.of HB4.out).trans hu5);have HQ5:=Lib.hid hn5;clear hu5 hn5)
     | (go_at_call 97;first|(refine (add_any f x.tl _ hbf hbt).mono ?_;rintro e w6 ⟨rfl,hb6⟩;have HB6:=Lib.hid hb6;clear hb6)|(refine (add_any v _ _ hbv (addV_bd hbf hbt)).mono ?_;rintro e w7 ⟨rfl,hb7⟩)))
    go_ret
    exact w_ret (by rw [HVal.out,gT_31 (.inr ⟨rfl,HSc.out⟩),←HV.out]) ((HU5.out.bel HB6.out).bel hb7) ((HQ5.out.old HB6.out).old hb7)
   ·rw [hsc] at c5
    have HSc:=Lib.hid hsc
    clear hsc
    go_wp2
    go_ret
    exact w_ret (by rw [HVal.out,gT_32 rfl HSc.out,←HV.out]) (.of HB4.out) (HN4.out.kn.weak fun _ q=>.inl q)
  obtain rfl:op=33:=by have:=hop5;omega
  have HC4:=Lib.hid (show Cs [(⟨w.heap.size,3,none⟩,.slice yf F.length yfc),(⟨w.heap.size,4,none⟩,.slice ys S.length ysc)] w4 from ⟨x3,x4,trivial⟩)
  go_upto_region 30 with fail
  refine rO (Cs [(⟨w.heap.size,3,none⟩,.slice yf F.length yfc),(⟨w.heap.size,4,none⟩,.slice ys S.length ysc)]) (oL [0,1,2,3,4,6,8,9,10,11,105,107,112,113,114,15]) HC4.out ?_
  have HD4:=Lib.hid ((Upd.refl M M w4).drew)
  repeat refine pO ?_
  refine oO fun Kv hK=>?_
  go_simp
  refine (HLf.out _ _ (HN4.out.next HD4.out (HN4.out.kn.eq rfl)) (HK4.out.trans (HN4.out.keeps HD4.out)) (HKw.out.trans (HN4.out.keeps HD4.out))).mono ?_
  rintro e w5 ⟨rfl,hu5,hn5⟩
  have HD5:=Lib.hid (HD4.out.trans hu5)
  have HQ5:=Lib.hid hn5
  refine hK _ _ ⟨Cs.keeps (HN4.out.keeps HD5.out) HC4.out,?_⟩
  clear hK Kv hu5 hn5
  repeat refine pO ?_
  refine oO fun Kv hK=>?_
  go_simp
  refine (add_any f x.tl _ hbf hbt).mono ?_
  rintro e w6 ⟨rfl,hb6⟩
  have HD6:=Lib.hid (HD5.out.bel hb6)
  have HQ6:=Lib.hid (HQ5.out.old hb6)
  refine hK _ _ ⟨Cs.keeps (HN4.out.keeps HD6.out) HC4.out,?_⟩
  clear hK Kv hb6
  repeat refine pO ?_
  refine oO fun Kv hK=>?_
  go_simp
  refine (HLs.out _ _ (HN4.out.next HD6.out HQ6.out) (HK4.out.trans (HN4.out.keeps HD6.out)) (HKw.out.trans (HN4.out.keeps HD6.out))).mono ?_
  rintro e w7 ⟨rfl,hu7,hn7⟩
  have HD7:=Lib.hid (HD6.out.trans hu7)
  have HQ7:=Lib.hid hn7
  refine hK _ _ ⟨Cs.keeps (HN4.out.keeps HD7.out) HC4.out,?_⟩
  clear hK Kv hu7 hn7
  repeat refine pO ?_
  refine oO fun Kv hK=>?_
  go_simp
  refine (add_any _ s _ (addV_bd hbf hbt) hbs).mono ?_
  rintro e w8 ⟨rfl,hb8⟩
  have HD8:=Lib.hid (HD7.out.bel hb8)
  have HQ8:=Lib.hid (HQ7.out.old hb8)
  refine hK _ _ ⟨Cs.keeps (HN4.out.keeps HD8.out) HC4.out,?_⟩
  clear hK Kv hb8
  repeat refine pO ?_
  refine oO fun Kv hK=>?_
  go_simp
  refine (add_any v _ _ hbv (addV_bd (addV_bd hbf hbt) hbs)).mono ?_
  rintro e w9 ⟨rfl,hb9⟩
  have HD9:=Lib.hid (HD8.out.bel hb9)
  have HQ9:=Lib.hid (HQ8.out.old hb9)
  refine hK _ _ ⟨Cs.keeps (HN4.out.keeps HD9.out) HC4.out,?_⟩
  clear hK Kv hb9
  repeat refine pO ?_
  refine wpMixO_done ?_
  go_wp2
  go_ret
  exact w_ret (by rw [HVal.out,gT_33 rfl,←HV.out]) ((Upd.of HB4.out).trans HD9.out) (HQ9.out.weak fun q hq=>hq.elim id .inr)
  -- </ways>
end
end
section
open Go.RowKit
section
variable {x:Ms}{B M:Nat}{h:Hd}{m:Md}{T:Nat→Int}{g:Nat}{caps:Array Value}{W0:World}{k:Nat}
theorem wlists (HW:Wkr x m T g caps W0) (hk:k<m.me.length) (hm:∀ j,j<k→MethC x B M h m T g caps W0 j):∀ (n a b:Nat),b-a≤n→ListC x B M h m T g caps W0 k a b
 | 0,a,b,hn=>wlist_of HW hk fun p y p' h1 h2 h3=>by omega
 | n+1,a,b,hn=>wlist_of HW hk fun p y p' h1 h2 h3=>wnode_of HW hk hm fun a' b' h4 h5=>wlists HW hk hm n a' b' (by omega)
theorem wmeths (HW:Wkr x m T g caps W0):∀ (n k:Nat),k<n→k<m.me.length→MethC x B M h m T g caps W0 k
 | 0,k,hn,_=>by omega
 | n+1,k,hn,hk=>wmeth_of HW hk (wlists HW hk (fun j hj=>wmeths HW n j (by omega) (by omega)) (cdM m k).length 0 (cdM m k).length (by omega))
end
theorem costV_bd {i:In3} (h:insnV false i=true):0≤costV i∧costV i≤1000:=by
 have h1:=opC_le i.op.toNat
 unfold costV
 split
 ·rename_i ho
  obtain ⟨op,a,b⟩:=i
  dsimp only at ho ⊢
  have:0≤a∧a≤48:=by
   exact j7
  dsimp only at h1
  omega
 ·omega
theorem costV_end (i:In3) (h:i.op=35):costV i=1:=by
 unfold costV
 rw [h,if_neg (by omega)]
 rfl
theorem cost_len {i:In3} (h:insnV false i=true) (ho:i.op=15∨i.op=16):0≤i.a∧i.a≤1000:=by
 obtain ⟨op,a,b⟩:=i
 dsimp only at ho ⊢
 exact j7
theorem cd_out {m:Md}{k:Nat} (h:m.me.length≤k):cdM m k=[]:=by
 unfold cdM
 rw [List.getD_eq_getElem?_getD,List.getElem?_eq_none h]
 rfl
theorem mthW_def (G:(Int→Int)→Wg) (m:Md) (k:Nat):mthW G m k=WA (G fun t=>(tabV G m k).getD t.toNat 0) (cdM m k) 0 (cdM m k).length 0:=by
 unfold mthW
 conv=>lhs;unfold tabV
 rw [List.getD_eq_getElem?_getD,List.getElem?_append_right (by rw [tabV_len];omega),tabV_len,Nat.sub_self]
 rfl
theorem mthW_bd {m:Md} (hm:modV m=true) {x:Ms} (hw:∀ k,k<m.me.length→∀ i∈cdM m k,0≤x.wt i∧x.wt i≤1000) (ht:0≤x.tl∧x.tl≤1000):∀ (n k:Nat),k<n→Bd (mthW (gW x m) m k)
 | 0,k,hn=>by omega
 | n+1,k,hn=>by
  have h0:Bd 0:=by unfold Bd;omega
  rw [mthW_def]
  by_cases hk:k<m.me.length
  ·refine WA_bd (hw k hk) ht (fun t=>?_) (fun i hi=>(opd_ok ((mth_ok hm hk).i i hi).1 ((mth_ok hm hk).i i hi).2).a0) (seg_of (mth_ok hm hk).n) 0 h0
   by_cases hj:t.toNat<k
   ·rw [tabV_get _ _ hj]
    exact mthW_bd hm hw ht n _ (by omega)
   ·rw [List.getD_eq_getElem?_getD,List.getElem?_eq_none (by rw [tabV_len];omega)]
    exact h0
  ·rw [cd_out (by omega)]
   show Bd (WA _ _ 0 0 0)
   rw [WA_nil]
   exact h0
theorem mthW_gW {m:Md} (hm:modV m=true) (x:Ms) {k:Nat} (hk:k<m.me.length):mthW (gW x m) m k=WA (gT x m (mthW (gW x m) m)) (cdM m k) 0 (cdM m k).length 0:=by
 refine mthW_eq (seg_of (mth_ok hm hk).n) (fun _ _=>rfl) (fun _ _=>rfl) (fun i hi=>?_)
 have ho:=opd_ok ((mth_ok hm hk).i i hi).1 ((mth_ok hm hk).i i hi).2
 show (if i.op=25 then addV (x.wt i) _ else if i.op=26 then addV (x.wt i) _ else _)=if i.op=25 then addV (x.wt i) _ else if i.op=26 then addV (x.wt i) _ else _
 by_cases h25:i.op=25
 ·exact j10
 ·rw [if_neg h25,if_neg h25]
  by_cases h26:i.op=26
  ·rw [if_pos h26,if_pos h26]
   congr 1
   refine mostT_congr fun t ht=>?_
   have:=(ho.o26 h26).2 t ht
   have:=tgt_nn ht
   rw [tabV_get _ _ (by omega)]
  ·rw [if_neg h26,if_neg h26]
theorem bcost_any (i:In3) (w:World) (hv:insnV false i=true):Calls Tryz.prog 86 #[.agg #[.int .i64 i.op,.int .i64 i.a,.int .i64 i.b]] w (Ret w (.int .i64 (costV i))):=by
 have HC:=Lib.hid (fun w'=>cCost_any i w' hv (cost_len hv))
 clear hv
 obtain ⟨op,a,b⟩:=i
 dsimp only at HC ⊢
 go_enter Tryz.func86,Tryz.ntmps86
 go_wp2_with (go_at_call 113;refine (HC.out _).mono ?_;rintro e w1 ⟨rfl,hb1⟩)
 go_ret
 exact ret_ok rfl bE
theorem KnM.made (T:Nat→Int) (w:World):KnM T (w.alloc (.map #[] 0)) w.heap.size fun _=>False:=
 ⟨[],.map [],List.nodup_nil,fun k hk=>by simp at hk,World.ownsMap_made _ _ _ _,Maps.isMap_empty,fun k=>by simp [Maps.has],fun k hk=>by simp at hk⟩
def costF:Value:=.func (Fn.func 86) #[] #[]
def CoPost (w:World) (h:Hd) (m:Md):Ending→World→Prop:=fun e w'=>∃ B M,e=.returned (.pointer (some ⟨B,0,none⟩))∧Below w.heap.size w w'∧w.heap.size≤M∧∀ T,WsAt w' B M h m costF false T fun _=>False
theorem costs_any (m:Md) (h:Hd) (w:World) (H:ModAt w h m):Calls Tryz.prog 51 #[.agg #[.slice h.co m.cl.length h.cc,.slice h.so m.st.length h.sc,.slice h.eo m.me.length h.ec,.int .i64 m.sel]] w (CoPost w h m):=by
 have hmm:=@run_makeMap Tryz.prog
 have HH:=Lib.hid H
 clear H
 go_enter Tryz.func51,Tryz.ntmps51
 go_wp2
 go_ret
 refine ⟨w.heap.size+1+1,w.heap.size+1,rfl,by exact bE,by omega,fun T=>⟨Blk.new' _ _ (by simp),HH.out.old bE,?_⟩⟩
 have:=KnM.made T (w.alloc (.cells #[.slice h.co m.cl.length h.cc,.slice h.so m.st.length h.sc,.slice h.eo m.me.length h.ec,.int .i64 m.sel] 26))
 rw [bls] at this
 exact this.old bE
def readyV (m:Md) (k:Int):Bool:=decide ((moduleV m).2.2=0)&&inV m.me.length k
theorem readyV_yes {m:Md}{k:Int} (h:readyV m k=true):modV m=true∧0≤k∧k<m.me.length:=by
 unfold readyV inV at h
 simp only [Bool.and_eq_true,decide_eq_true_eq] at h
 refine ⟨?_,h.2⟩
 have:=h.1
 unfold moduleV at this
 split at this
 ·assumption
 ·simp at this
theorem basked_any (m:Md) (h:Hd) (k:Int) (w:World) (H:ModAt w h m):Calls Tryz.prog 42 #[.agg #[.slice h.co m.cl.length h.cc,.slice h.so m.st.length h.sc,.slice h.eo m.me.length h.ec,.int .i64 m.sel],.int .i64 k] w (Ret w (.int .i64 (if readyV m k=true then 0 else 1))):=by
 have HV:=Lib.hid (fun w' hb=>vModule_any w' h m (H.old (w':=w') hb))
 obtain ⟨q,hq⟩:∃ q:Int,q=if readyV m k=true then 0 else 1:=⟨_,rfl⟩
 rw [←hq]
 obtain ⟨⟨z0,z1,z2⟩,hz⟩:∃ z,z=moduleV m:=⟨_,rfl⟩
 unfold readyV inV at hq
 rw [←hz] at HV hq
 have HQ:=Lib.hid hq
 have hb0:Below w.heap.size w (w.alloc (.cells #[.slice h.co m.cl.length h.cc,.slice h.so m.st.length h.sc,.slice h.eo m.me.length h.ec,.int .i64 m.sel] 26)):=by exact bE
 have HB0:=Lib.hid hb0
 have HX0:=Lib.hid (Blk.new w #[.slice h.co m.cl.length h.cc,.slice h.so m.st.length h.sc,.slice h.eo m.me.length h.ec,.int .i64 m.sel] 26)
 clear H hz hq hb0
 go_enter Tryz.func42,Tryz.ntmps42
 go_wp2_with (go_at_call 60;refine (HV.out _ HB0.out).mono ?_;rintro e w1 ⟨rfl,hb1⟩;have x2:=(HX0.out.old hb1).cell 2 (v:=.slice h.eo m.me.length h.ec) rfl;have HB1:=Lib.hid (bthen HB0.out hb1);clear hb1)
 all_goals
  go_ret
  refine ret_ok (int_eq ?_) HB1.out
  rw [HQ.out]
  grind
def worstE (m:Md) (k:Int):Int × Int:=if readyV m k=true then (if 1000000000<mthW (gW byCost m) m k.toNat then (0,6) else (mthW (gW byCost m) m k.toNat,0)) else (0,1)
theorem cost_wkr {m:Md} (hm:modV m=true) (W0:World):Wkr byCost m (mthW (gW byCost m) m) 86 #[] W0 where
 hm:=hm
 wt k hk i hi:=costV_bd ((mth_ok hm hk).i i hi).1
 tl:=by decide
 te:=costV_end
 bd k:=mthW_bd hm (x:=byCost) (fun k hk i hi=>costV_bd ((mth_ok hm hk).i i hi).1) (by decide) (k+1) k (by omega)
 eq k hk:=mthW_gW hm byCost hk
 cf A W:=by kernel_rfl
 fn k hk i hi w' _:=by
  have:=bcost_any i w' ((mth_ok hm hk).i i hi).1
  rw [Array.append_empty]
  exact this
theorem worst_any (m:Md) (h:Hd) (k:Int) (w:World) (H:ModAt w h m):Calls Tryz.prog 17 #[.agg #[.slice h.co m.cl.length h.cc,.slice h.so m.st.length h.sc,.slice h.eo m.me.length h.ec,.int .i64 m.sel],.int .i64 k] w (Ret2 w (.int .i64 (worstE m k).1) (.int .i64 (worstE m k).2)):=by
 have hb0:Below w.heap.size w (w.alloc (.cells #[.slice h.co m.cl.length h.cc,.slice h.so m.st.length h.sc,.slice h.eo m.me.length h.ec,.int .i64 m.sel] 26)):=by exact bE
 have HA:=Lib.hid (basked_any m h k _ (H.old hb0))
 obtain ⟨r1,hr1⟩:∃ r,r=(worstE m k).1:=⟨_,rfl⟩
 obtain ⟨r2,hr2⟩:∃ r,r=(worstE m k).2:=⟨_,rfl⟩
 rw [←hr1,←hr2]
 have HB0:=Lib.hid hb0
 have HX0:=Lib.hid (Blk.new w #[.slice h.co m.cl.length h.cc,.slice h.so m.st.length h.sc,.slice h.eo m.me.length h.ec,.int .i64 m.sel] 26)
 have HH:=Lib.hid H
 rcases hq:readyV m k with _|_
 ·rw [hq] at HA
  have e1:r1=0:=by rw [hr1];unfold worstE;rw [hq];rfl
  have e2:r2=1:=by rw [hr2];unfold worstE;rw [hq];rfl
  have HE:=Lib.hid (And.intro e1 e2)
  clear hb0 H hr1 hr2 hq e1 e2
  go_enter Tryz.func17,Tryz.ntmps17
  exact j9
 ·rw [hq] at HA
  obtain ⟨hm,hk0,hk1⟩:=readyV_yes hq
  obtain ⟨k,rfl⟩:∃ d:Nat,k=d:=⟨k.toNat,by omega⟩
  have hkl:k<m.me.length:=by omega
  obtain ⟨v,hv⟩:∃ v,v=mthW (gW byCost m) m k:=⟨_,rfl⟩
  have e1:r1=if 1000000000<v then 0 else v:=by rw [hr1,hv];unfold worstE;rw [hq,if_pos rfl,Int.toNat_natCast];split<;>rfl
  have e2:r2=if 1000000000<v then 6 else 0:=by rw [hr2,hv];unfold worstE;rw [hq,if_pos rfl,Int.toNat_natCast];split<;>rfl
  have HE:=Lib.hid (And.intro e1 e2)
  have HM:=Lib.hid (fun B M W0=>wmeths (B:=B) (M:=M) (h:=h) (cost_wkr hm W0) (k+1) k (by omega) hkl)
  have HV:=Lib.hid hv
  clear hb0 H hr1 hr2 hq e1 e2 hv hm
  go_enter Tryz.func17,Tryz.ntmps17
  go_wp2_with (first
   | (go_at_call 42;refine HA.out.mono ?_;rintro e w1 ⟨rfl,hb1⟩;have HB1:=Lib.hid (bthen HB0.out hb1);have HX1:=Lib.hid (HX0.out.old hb1);have x0:=HX1.out.cell 0 (v:=.slice h.co m.cl.length h.cc) rfl;have x1:=HX1.out.cell 1 (v:=.slice h.so m.st.length h.sc) rfl;have x2:=HX1.out.cell 2 (v:=.slice h.eo m.me.length h.ec) rfl;have x3:=HX1.out.cell 3 (v:=.int .i64 m.sel) rfl;clear hb1)
   | (go_at_call 51;refine (costs_any m h _ (HH.out.old HB1.out)).mono ?_;rintro e w2 ⟨B,M,rfl,hb2,hM2,hW2⟩;have HB2:=Lib.hid (bthen HB1.out hb2);have HM2:=Lib.hid (Nat.le_trans HB1.out.size hM2);clear hM2;have HW2:=Lib.hid hW2;clear hb2 hW2)
   | (go_at_call 52;refine (HM.out B M w2 _ _ (HW2.out _) (Keeps.refl _)).mono ?_;rintro e w3 ⟨rfl,hu3,hn3⟩;rw [←HV.out];have HU3:=Lib.hid hu3;clear hu3 hn3)
   | (go_at_call 50;refine (bfits_any _ _).mono ?_;rintro e w4 ⟨rfl,hb4⟩;rw [←HE.out.1,←HE.out.2]))
  go_ret2
  exact ret2_ok rfl rfl (bthen (HU3.out.below HB2.out (Nat.le_refl _) HM2.out HM2.out) hb4)
end
section
open Go.RowKit
def Bl (n:Int):Prop:=-1≤n∧n≤1000000001
theorem Bl.of {n:Int} (h:Bd n):Bl n:=by unfold Bd at h;unfold Bl;omega
theorem bothV_bl {a b:Int} (ha:Bl a) (hb:Bl b):Bl (bothV a b):=by unfold Bl bothV addV hugeV at *;split<;>omega
theorem lightV_bl {a b:Int} (ha:Bl a) (hb:Bl b):Bl (lightV a b):=by
 unfold Bl lightV at *
 repeat' split
 all_goals omega
theorem both_any (a b:Int) (w:World) (ha:Bl a) (hb:Bl b):Calls Tryz.prog 122 #[.int .i64 a,.int .i64 b] w (Ret w (.int .i64 (bothV a b))):=by
 obtain ⟨q,hq⟩:∃ q,q=bothV a b:=⟨_,rfl⟩
 rw [←hq]
 have HQ:=Lib.hid hq
 unfold Bl at ha hb
 obtain ⟨a0,a1⟩:=ha
 obtain ⟨b0,b1⟩:=hb
 clear hq
 go_enter Tryz.func122,Tryz.ntmps122
 go_wp2_with (go_at_call 97;refine (add_any a b _ ⟨by omega,by omega⟩ ⟨by omega,by omega⟩).mono ?_;rintro e w1 ⟨rfl,hb1⟩)
 all_goals
  go_ret
  refine ret_ok (int_eq ?_) bE
  rw [HQ.out]
  unfold bothV
  grind
theorem lighter_any (a b:Int) (w:World):Calls Tryz.prog 124 #[.int .i64 a,.int .i64 b] w (Ret w (.int .i64 (lightV a b))):=by
 obtain ⟨q,hq⟩:∃ q,q=lightV a b:=⟨_,rfl⟩
 rw [←hq]
 have HQ:=Lib.hid hq
 clear hq
 go_enter Tryz.func124,Tryz.ntmps124
 go_wp2
 all_goals
  go_ret
  refine ret_ok (int_eq ?_) bE
  rw [HQ.out]
  unfold lightV
  grind
def gLT (m:Md) (T:Nat→Int):Wg:=gL m fun t=>T t.toNat
section
variable {m:Md}{T:Nat→Int}{i:In3}{f s:Int}
theorem gL_25 (q:i.op=25):(gLT m T).pl i=bothV (costV i) (T i.a.toNat):=if_pos q
theorem gL_26 (q:i.op=26):(gLT m T).pl i=bothV (costV i) (lowT (fun t=>T t.toNat) (tgtV m i.a)):=(if_neg (by omega)).trans (if_pos q)
theorem gL_28 (q:i.op=28):(gLT m T).pl i=-1:=(if_neg (by omega)).trans ((if_neg (by omega)).trans (if_pos q))
theorem gL_x (q:i.op≠25) (q2:i.op≠26) (q3:i.op≠28):(gLT m T).pl i=costV i:=(if_neg q).trans ((if_neg q2).trans (if_neg q3))
theorem gL_29 (q:i.op=29∨i.op=33):(gLT m T).brk i f s=bothV (costV i) (bothV (lightV f s) 1):=if_pos q
theorem gL_30 (q:i.op=30):(gLT m T).brk i f s=costV i:=(if_neg (by omega)).trans (if_pos q)
theorem gL_31 (q:i.op=31∨i.op=32):(gLT m T).brk i f s=bothV (costV i) (bothV f 1):=(if_neg (by omega)).trans (if_neg (by omega))
end
theorem lowT_bl {T:Int→Int}{l:List Int} (h:∀ t,Bl (T t)):Bl (lowT T l):=by
 have:∀ (l:List Int) (a:Int),Bl a→Bl (l.foldl (fun a t=>lightV a (T t)) a):=by
  intro l
  induction l with
  | nil=>intro a ha;exact ha
  | cons x r ih=>intro a ha;exact ih _ (lightV_bl ha (h x))
 unfold lowT
 refine this _ _ ?_
 cases l with
 | nil=>show Bl 0;unfold Bl;omega
 | cons x r=>exact h x
structure Lkr (m:Md) (T:Nat→Int):Prop where
 hm:modV m=true
 bd:∀ k,Bl (T k)
 eq:∀ k,k<m.me.length→T k=WA (gLT m T) (cdM m k) 0 (cdM m k).length 0
section
variable {m:Md}{T:Int→Int}{l:List In3} (hv:∀ i∈l,insnV false i=true) (hT:∀ t,Bl (T t))
include hv hT
theorem Lpl_bl:∀ i∈l,Bl ((gL m T).pl i):=fun i hi=>by
 have hb:Bl (costV i):=by have:=costV_bd (hv i hi);unfold Bl;omega
 show Bl (if i.op=25 then _ else if i.op=26 then _ else if i.op=28 then _ else _)
 split
 ·exact bothV_bl hb (hT _)
 ·split
  ·exact bothV_bl hb (lowT_bl hT)
  ·split
   ·unfold Bl;omega
   ·exact hb
theorem Lbrk_bl:∀ i∈l,∀ f s,Bl f→Bl s→Bl ((gL m T).brk i f s):=fun i hi f s hf hs=>by
 have hb:Bl (costV i):=by have:=costV_bd (hv i hi);unfold Bl;omega
 have h1:Bl 1:=by unfold Bl;omega
 show Bl (if i.op=29∨i.op=33 then _ else if i.op=30 then _ else _)
 split
 ·exact bothV_bl hb (bothV_bl (lightV_bl hf hs) h1)
 ·split
  ·exact hb
  ·exact bothV_bl hb (bothV_bl hf h1)
theorem LWA_bl {a b:Nat} (hs:Seg l a b):∀ acc,Bl acc→Bl (WA (gL m T) l a b acc):=by
 have hm:∀ k,k<l.length→l.getD k default∈l:=fun k hk=>getD_mem _ hk
 have hpl:=Lpl_bl (m:=m) hv hT
 have hbr:=Lbrk_bl (m:=m) hv hT
 have h0:Bl 0:=by unfold Bl;omega
 induction hs with
 | nil a h=>intro acc hacc;rw [WA_nil];exact hacc
 | pl a b q1 q2 q3 q4 q5 ih=>intro acc hacc;rw [WA_pl q2 q5];exact ih _ (bothV_bl hacc (hpl _ (hm a q1)))
 | one a en b q1 q2 q3 i1 i2=>intro acc hacc;rw [WA_one q1 q2 q3];exact i2 _ (bothV_bl hacc (hbr _ (hm a q1.1) _ _ (i1 _ h0) h0))
 | two a n en b q1 q2 q3 q4 i1 i2 i3=>intro acc hacc;rw [WA_two q1 q2 q3 q4];exact i3 _ (bothV_bl hacc (hbr _ (hm a q1.1) _ _ (i1 _ h0) (i2 _ h0)))
end
def LMethC (M:Nat) (h:Hd) (m:Md) (T:Nat→Int) (k:Nat):Prop:=∀ w Q,ModAt w h m→KnM T w M Q→Calls Tryz.prog 58 #[.agg #[.slice h.co m.cl.length h.cc,.slice h.so m.st.length h.sc,.slice h.eo m.me.length h.ec,.int .i64 m.sel,.map (some M)],.int .i64 k] w (WPost w M T (fun j=>Q j∨j<k+1) (T k))
def LListC (M:Nat) (h:Hd) (m:Md) (T:Nat→Int) (k a b:Nat):Prop:=∀ w Q ro rc rows,ModAt w h m→KnM T w M Q→RowAt w ro rc rows→Nds w (cdM m k) (fun _=>True) a b rows →
 Calls Tryz.prog 91 #[.agg #[.slice h.co m.cl.length h.cc,.slice h.so m.st.length h.sc,.slice h.eo m.me.length h.ec,.int .i64 m.sel,.map (some M)],.int .i64 k,.slice ro rows.length rc] w (WPost w M T (fun j=>Q j∨j<k) (WA (gLT m T) (cdM m k) a b 0))
section
variable {M:Nat}{h:Hd}{m:Md}{T:Nat→Int}{k:Nat}
theorem Lkr.ok (H:Lkr m T) (hk:k<m.me.length):MthOk m k:=mth_ok H.hm hk
theorem Lkr.code (H:Lkr m T) (hk:k<m.me.length):codeE false (cdM m k)=0:=by
 have hm:=H.ok hk
 unfold codeE cdM
 exact j11
theorem lmeth_of (HW:Lkr m T) (hk:k<m.me.length) (hl:LListC M h m T k 0 (cdM m k).length):LMethC M h m T k:=by
 intro w Q H hkn
 have h16:k<16:=by have:=(modV_size HW.hm).2.1;omega
 obtain ⟨K,D,hown,hhas,hat,hnk⟩:=hkn.look
 have hhk:=hhas k
 have hT:=HW.eq k hk
 have HH:=Lib.hid H
 have HKn:=Lib.hid hkn
 have HL:=Lib.hid hl
 have HO:=Lib.hid (hown.alloc (.cells #[.slice h.co m.cl.length h.cc,.slice h.so m.st.length h.sc,.slice h.eo m.me.length h.ec,.int .i64 m.sel,.map (some M)] 88))
 have HNk:=Lib.hid (hnk k)
 have HAt:=Lib.hid (hat k)
 have HWk:=Lib.hid HW
 have HX:=Lib.hid (Blk.new w #[.slice h.co m.cl.length h.cc,.slice h.so m.st.length h.sc,.slice h.eo m.me.length h.ec,.int .i64 m.sel,.map (some M)] 88)
 clear H hl hown hhas hnk hat HW hkn
 by_cases hkK:k∈K
 ·rw [decide_eq_true hkK] at hhk
  have HHk:=Lib.hid hhk
  clear hhk
  go_enter Tryz.func58,Tryz.ntmps58
  go_wp2_with (at_lookup;refine wpList_lookup_own_ok_int _ rfl _ _ 86 rfl 3 3 .i64 lawInt Tryz.underlying86 Tryz.underlying3 (zeroI _) M K.length D rfl HO.out _ _ rfl (key_nat (by omega)) ?_;intro c hc hwc;rw [HHk.out])
  go_ret
  have:=HAt.out hkK
  rw [this] at hc
  cases hc
  exact ⟨rfl,Upd.of bE,(HKn.out.old bE).weak fun _ h=>.inl h⟩
 ·rw [decide_eq_false hkK] at hhk
  have HHk:=Lib.hid hhk
  have HN0:=Lib.hid (HNk.out hkK)
  obtain ⟨w1,hw1⟩:∃ w1,w1=w.alloc (.cells #[.slice h.co m.cl.length h.cc,.slice h.so m.st.length h.sc,.slice h.eo m.me.length h.ec,.int .i64 m.sel,.map (some M)] 88):=⟨_,rfl⟩
  have HB1:=Lib.hid (show Below w.heap.size w w1 by rw [hw1];exact bE)
  rw [←hw1] at HX
  have HW1:=Lib.hid hw1
  have hm1:=HH.out.old HB1.out
  obtain ⟨ea,he,-,-,-,-,-,-,e6⟩:=hm1.mth hk
  have hx2:=HX.out.cell 2 (v:=.slice h.eo m.me.length h.ec) rfl
  rw [he] at hx2
  have hke:=hm1.k k hk
  have HP:=Lib.hid (fun w' hb=>bparts_any (cdM m k) (h.e k).ko (h.e k).kc (HWk.out.code hk) (cdM m k).length 0 (cdM m k).length w' (by omega) (RowAt.old hke (w':=w') hb) (seg_of (HWk.out.ok hk).n))
  rw [show (m.me.getD k default).k.length=(cdM m k).length from rfl] at e6
  have HLn:=Lib.hid (show (cdM m k).length≤120 from (HWk.out.ok hk).z.2.2)
  have hkl:(k:Int) < m.me.length:=by omega
  have HCs:=Lib.hid (show Cs [(⟨w.heap.size,0,none⟩,.slice h.co m.cl.length h.cc),(⟨w.heap.size,1,none⟩,.slice h.so m.st.length h.sc),(⟨w.heap.size,2,none⟩,.slice (some ea) m.me.length h.ec),(⟨w.heap.size,3,none⟩,.int .i64 m.sel),(⟨w.heap.size,4,none⟩,.map (some M)),(⟨(ea.add (k*7)).block,(ea.add (k*7)).off+6,none⟩,.slice (h.e k).ko (cdM m k).length (h.e k).kc)] w1 from ⟨HX.out.cell 0 rfl,HX.out.cell 1 rfl,hx2,HX.out.cell 3 rfl,HX.out.cell 4 rfl,e6,trivial⟩)
  have HEa:=Lib.hid he
  clear hke hhk hw1 hm1 e6 hx2 he
  go_enter Tryz.func58,Tryz.ntmps58
  go_upto_region 4 with (at_lookup;refine wpList_lookup_own_ok_int _ rfl _ _ 86 rfl 3 3 .i64 lawInt Tryz.underlying86 Tryz.underlying3 (zeroI _) M K.length D rfl HO.out _ _ rfl (key_nat (by omega)) ?_;intro c hc hwc;rw [HHk.out])
  clear hc hwc
  rw [←HW1.out]
  refine rO (Cs [(⟨w.heap.size,0,none⟩,.slice h.co m.cl.length h.cc),(⟨w.heap.size,1,none⟩,.slice h.so m.st.length h.sc),(⟨w.heap.size,2,none⟩,.slice (some ea) m.me.length h.ec),(⟨w.heap.size,3,none⟩,.int .i64 m.sel),(⟨w.heap.size,4,none⟩,.map (some M)),(⟨(ea.add (k*7)).block,(ea.add (k*7)).off+6,none⟩,.slice (h.e k).ko (cdM m k).length (h.e k).kc)]) (oL [0,1,2,3,4,5,6,7,8,9,10,11,12,13,14,15,16,117,118,19]) HCs.out ?_
  repeat refine pO ?_
  refine oO fun Kv hK=>?_
  go_simp
  refine (HP.out _ (Below.refl _ _).drew).mono ?_
  rintro e w2 ⟨ro,rc,rows,rfl,hown2,hnd2,hb2⟩
  have HB12:=Lib.hid (bthen (Below.refl w1.heap.size w1).drew hb2)
  have HB2:=Lib.hid (bthen HB1.out HB12.out)
  have HR2:=Lib.hid (RowAt.of_own hown2)
  have HD2:=Lib.hid (hnd2.weak (Q:=fun _=>True) fun _ _=>trivial)
  refine hK _ _ ⟨Cs.keeps (Keeps.of HB12.out) HCs.out,?_⟩
  clear hK Kv hown2 hnd2 hb2
  refine oO fun Kv hK=>?_
  go_simp
  have hl2:=HL.out w2 (fun j=>Q j∧j≠k) ro rc rows (HH.out.old HB2.out) (HN0.out.old HB2.out) HR2.out HD2.out
  rw [HEa.out] at hl2
  refine hl2.mono ?_
  clear hl2
  rintro e w3 ⟨rfl,hu3,hn3⟩
  have hkk:=(Keeps.of HB12.out).trans (Keeps.upd (HN0.out.old HB2.out).map hu3)
  have HU3:=Lib.hid ((Upd.of HB2.out).trans hu3)
  refine hK _ _ ⟨Cs.keeps hkk HCs.out,?_⟩
  have x4:=hkk _ _ (HX.out.cell 4 (v:=.map (some M)) rfl)
  clear hK Kv hu3 hkk
  repeat refine pO ?_
  refine wpMixO_done ?_
  rw [←hT]
  obtain ⟨n,D3,hown3,hn16,hput⟩:=hn3.put (k:=k) (by omega) h16
  have HO3:=Lib.hid hown3
  have HPt:=Lib.hid hput
  have hbT:=HWk.out.bd k
  unfold Bl at hbT
  exact j3
end
end
section
open Go.RowKit
def lowP (T:Int→Int) (l:List Int) (j:Nat):Int:=if j=0 then 0 else (l.take j).foldl (fun a t=>lightV a (T t)) (T (l.getD 0 0))
theorem lowP_all (T:Int→Int) (l:List Int):lowP T l l.length=lowT T l:=by
 unfold lowP lowT
 rw [List.take_length]
 cases l with
 | nil=>rfl
 | cons x r=>rfl
theorem lowP_snoc {T:Int→Int}{l:List Int}{j:Nat} (hj:j<l.length):lowP T l (j+1)=lightV (if j=0 then T (l.getD j 0) else lowP T l j) (T (l.getD j 0)):=by
 unfold lowP
 rw [if_neg (by omega),List.take_succ_eq_append_getElem hj,List.foldl_append]
 have hx:l[j]=l.getD j 0:=by simp [hj]
 by_cases h0:j=0
 ·subst h0;rw [if_pos rfl,hx];rfl
 ·rw [if_neg h0,if_neg h0,hx];rfl
section
variable {M:Nat}{h:Hd}{m:Md}{T:Nat→Int}{k:Nat}
theorem llist_of (HW:Lkr m T) (hk:k<m.me.length) (hm:∀ j,j<k→LMethC M h m T j) {a b:Nat} (hlc:∀ a' b',a<a'→b' < b→LListC M h m T k a' b'):LListC M h m T k a b:=by
 intro w Q ro rc rows H hkn hr hnd
 have hle:=hnd.le
 have hlen:rows.length≤120:=by have:(cdM m k).length≤120:=(HW.ok hk).z.2.2;omega
 obtain ⟨w1,hw1⟩:∃ w1,w1=w.alloc (.cells #[.slice h.co m.cl.length h.cc,.slice h.so m.st.length h.sc,.slice h.eo m.me.length h.ec,.int .i64 m.sel,.map (some M)] 88):=⟨_,rfl⟩
 have HB1:=Lib.hid (show Below w.heap.size w w1 by rw [hw1];exact bE)
 have HX:=Lib.hid (show Blk w1 w.heap.size #[.slice h.co m.cl.length h.cc,.slice h.so m.st.length h.sc,.slice h.eo m.me.length h.ec,.int .i64 m.sel,.map (some M)] 88 by rw [hw1];exact Blk.new _ _ _)
 have HW1:=Lib.hid hw1
 have HMd1:=Lib.hid (H.old HB1.out)
 have HKn1:=Lib.hid (hkn.old HB1.out)
 have HR1:=Lib.hid (RowAt.old hr HB1.out)
 have HD1:=Lib.hid (hnd.old HB1.out)
 obtain ⟨ea,he,-,-,-,-,-,-,e6⟩:=HMd1.out.mth hk
 rw [show (m.me.getD k default).k.length=(cdM m k).length from rfl] at e6
 obtain ⟨ko,hko⟩:∃ o,o=(h.e k).ko:=⟨_,rfl⟩
 obtain ⟨kc,hkc⟩:∃ o,o=(h.e k).kc:=⟨_,rfl⟩
 rw [←hko,←hkc] at e6
 have HKo:=Lib.hid hko
 clear hko hkc
 have hx2:=HX.out.cell 2 (v:=.slice h.eo m.me.length h.ec) rfl
 rw [he] at hx2
 have lz:=cell_lt e6
 have lx:=cell_lt hx2
 dsimp only at lz lx
 have hkl:(k:Int) < m.me.length:=by omega
 have HM:=Lib.hid hm
 have HLc:=Lib.hid hlc
 have HWk:=Lib.hid HW
 have HEa:=Lib.hid he
 clear hw1 H hkn hr hnd hle hm hlc HW he
 go_enter Tryz.func91,Tryz.ntmps91
 go_upto_region 2 with fail
 rw [←HW1.out]
 go_wp2
 clear e6 hx2
 go_loopw [7,28] (fun s i wr=>∃ (j p:Nat) (sv:Int),i=.int .i64 j∧s=.int .i64 sv∧j≤rows.length∧Hid (a≤p∧p≤b∧Bl sv∧Nds wr (cdM m k) (fun _=>True) p b (rows.drop j)∧WA (gLT m T) (cdM m k) a b 0=WA (gLT m T) (cdM m k) p b sv)∧Hid (Upd M M w1 wr)∧Hid (KnM T wr M fun j=>Q j∨j<k)) (fun _ i _=>rows.length-(intOf i).toNat)
 case atStart=>exact ⟨0,a,0,rfl,rfl,Nat.zero_le _,⟨Nat.le_refl _,by have:=HD1.out.le;omega,by unfold Bl;omega,HD1.out,rfl⟩,Upd.refl _ _ _,HKn1.out.weak fun _ h=>.inl h⟩
 case round=>
  obtain ⟨j,p,sv,rfl,rfl,hj,HS,HU,HN⟩:=hrel
  rename World=>wo
  by_cases hjl:j<rows.length
  ·have hkw:=Keeps.upd HKn1.out.map HU.out
   obtain ⟨hap,hpb0,hsv,hnd,hwa⟩:=HS.out
   have hdr:rows.drop j=rows.getD j default :: rows.drop (j+1):=by
    rw [List.drop_eq_getElem_cons hjl];simp [hjl]
   rw [hdr] at hnd
   obtain ⟨p',hit,hnd',hpp,hpb,hwa'⟩:=nds_cons hnd (gLT m T)
   obtain ⟨ad,rfl,c0,c1,c2,c3,c4⟩:=row_vn (row_keeps HR1.out hkw) hjl
   obtain ⟨y,hy⟩:∃ y,y=rows.getD j default:=⟨_,rfl⟩
   rw [←hy] at hit hwa' c0 c1 c2 c3 c4
   obtain ⟨hya,hp,hyc⟩:=item_cases hit (gLT m T)
   obtain ⟨ya,yl,ye,yf,yfn,yfc,ys,ysn,ysc⟩:=y
   dsimp only at hya hyc c0 c1 c2 c3 c4
   subst hya
   have HMd:=Lib.hid (HMd1.out.keeps hkw)
   have HX0:=Lib.hid (show Blk wo w.heap.size #[.slice h.co m.cl.length h.cc,.slice h.so m.st.length h.sc,.slice h.eo m.me.length h.ec,.int .i64 m.sel,.map (some M)] 88 from (HU.out.block _ HX.out.lt (map_ne HX.out HKn1.out.map) (map_ne HX.out HKn1.out.map)).trans HX.out)
   obtain ⟨ca,hca,o0,o1,o2⟩:=row_in (l:=cdM m k) (HMd.out.k k hk) hp
   rw [←HKo.out] at hca
   subst hca
   have hin:(cdM m k).getD p default∈cdM m k:=getD_mem _ hp
   have hiv:=((HWk.out.ok hk).i _ hin).1
   have hod:=opd_ok hiv ((HWk.out.ok hk).i _ hin).2
   obtain ⟨i,hi⟩:∃ i,i=(cdM m k).getD p default:=⟨_,rfl⟩
   rw [←hi] at o0 o1 o2 hyc hiv hod
   obtain ⟨op,ia,ib⟩:=i
   dsimp only at o0 o1 o2
   obtain ⟨v,hv⟩:∃ v,v=itemW (gLT m T) (cdM m k) p ⟨p,yl,ye,yf,yfn,yfc,ys,ysn,ysc⟩:=⟨_,rfl⟩
   rw [←hv] at hyc hwa'
   obtain ⟨cv,hcv⟩:∃ c,c=costV ⟨op,ia,ib⟩:=⟨_,rfl⟩
   have hcb:=costV_bd hiv
   rw [←hcv] at hcb
   have HCo:=Lib.hid (fun w'=>bcost_any ⟨op,ia,ib⟩ w' hiv)
   rw [←hcv] at HCo
   have HCv:=Lib.hid hcv
   have HOd:=Lib.hid hod
   have HYc:=Lib.hid hyc
   have HIt:=Lib.hid (And.intro hnd' (And.intro hsv (And.intro hpp (And.intro hpb hap))))
   have HWa:=Lib.hid (hwa.trans (hwa' sv))
   have HOp:=Lib.hid (insnV_op hiv)
   have hbc:Bl cv:=by unfold Bl;omega
   have HBc:=Lib.hid hbc
   have HKr:=Lib.hid hkw
   have l0:=cell_lt c0
   have l1:=cell_lt o0
   have hpl:(p:Int) < (cdM m k).length:=by omega
   have hjl2:(j:Int) < rows.length:=by omega
   have hwj:IntKind.i64.wrap ((j:Int)+1)=((j+1:Nat):Int):=IntWalk.i64_in _ (by omega)
   obtain ⟨w5,hw5⟩:∃ w5,w5=(wo.alloc (.cells #[.int .i64 p,.int .i64 yl,.int .i64 ye,.slice yf yfn yfc,.slice ys ysn ysc] 112)).alloc (.cells #[.int .i64 op,.int .i64 ia,.int .i64 ib] 42):=⟨_,rfl⟩
   have HB5:=Lib.hid (show Below wo.heap.size wo w5 by rw [hw5];exact bE)
   have HX5:=Lib.hid (show Blk w5 wo.heap.size #[.int .i64 p,.int .i64 yl,.int .i64 ye,.slice yf yfn yfc,.slice ys ysn ysc] 112 by rw [hw5];exact (Blk.new wo _ _).alloc _)
   have HI5:=Lib.hid (show Blk w5 (wo.heap.size+1) #[.int .i64 op,.int .i64 ia,.int .i64 ib] 42 by rw [hw5];exact Blk.new' (w:=wo.alloc (.cells #[.int .i64 p,.int .i64 yl,.int .i64 ye,.slice yf yfn yfc,.slice ys ysn ysc] 112)) _ _ (by simp))
   have HW5:=Lib.hid hw5
   clear hit hnd hnd' hwa hwa' hy hdr hv hsv hi hin hiv hod hcv hyc hw5 hap hpb0 hbc hkw
   go_upto_region 7 with fail
   rw [←HW5.out]
   clear c0 c1 c2 c3 c4 o0 o1 o2 l0 l1
   have i0:=HI5.out.cell 0 (v:=.int .i64 op) rfl
   have i1:=HI5.out.cell 1 (v:=.int .i64 ia) rfl
   have i2:=HI5.out.cell 2 (v:=.int .i64 ib) rfl
   go_upto_region 8 with (go_at_call 86;refine (HCo.out _).mono ?_;rintro e w6 ⟨rfl,hb6⟩;have HB6:=Lib.hid (bthen HB5.out hb6);have HX6:=Lib.hid (HX5.out.old hb6);have HI6:=Lib.hid (HI5.out.old hb6);clear i0 i1 i2 hb6)
   have HN6:=Lib.hid (HN.out.old HB6.out)
   have HMd6:=Lib.hid (HMd.out.old HB6.out)
   have HBx6:=Lib.hid (HX0.out.old HB6.out)
   have HU6:=Lib.hid (HU.out.bel HB6.out)
   have HK6:=Lib.hid (Keeps.of HB6.out)
   have i0:=HI6.out.cell 0 (v:=.int .i64 op) rfl
   have i1:=HI6.out.cell 1 (v:=.int .i64 ia) rfl
   have x3:=HX6.out.cell 3 (v:=.slice yf yfn yfc) rfl
   have x4:=HX6.out.cell 4 (v:=.slice ys ysn ysc) rfl
   have b0:=HBx6.out.cell 0 (v:=.slice h.co m.cl.length h.cc) rfl
   have b1:=HBx6.out.cell 1 (v:=.slice h.so m.st.length h.sc) rfl
   have b2:=HBx6.out.cell 2 (v:=.slice h.eo m.me.length h.ec) rfl
   have b3:=HBx6.out.cell 3 (v:=.int .i64 m.sel) rfl
   have b4:=HBx6.out.cell 4 (v:=.map (some M)) rfl
   go_upto_region 9 with fail
   clear i0
   have hpl1:opensV op=false→v=(gLT m T).pl ⟨op,ia,ib⟩:=fun q=>by
    rcases HYc.out with ⟨_,_,r⟩|⟨_,_,_,_,_,_,_,_,_,_,r,_⟩
    ·exact r
    ·rw [show opensV (In3.op ⟨op,ia,ib⟩)=opensV op from rfl,q] at r;cases r
   have HPl:=Lib.hid hpl1
   clear hpl1
   by_cases h25:op=25
   ·subst h25
    as_aux_lemma=>
    have ha:=(HOd.out.o25 rfl).1
    have ha0:=HOd.out.a0 (by simp)
    dsimp only at ha ha0
    obtain ⟨t,rfl⟩:∃ t:Nat,ia=t:=⟨ia.toNat,by omega⟩
    have HMt:=Lib.hid (HM.out t (by omega) w6 _ HMd6.out HN6.out)
    have HXv:=Lib.hid (show v=bothV cv (T t) by rw [HPl.out (by decide),gL_25 rfl,HCv.out];rfl)
    have HXb:=Lib.hid (bothV_bl HBc.out (HWk.out.bd t))
    go_upto_region 31 with (first
     | (go_at_call 58;refine HMt.out.mono ?_;rintro e w7 ⟨rfl,hu7,hn7⟩;have HU7:=Lib.hid (HU6.out.trans hu7);have HN7:=Lib.hid (hn7.weak (R:=fun j=>Q j∨j<k) fun q hq=>hq.elim id fun e=>.inr (by omega));have HK7:=Lib.hid (HK6.out.trans (Keeps.upd HN6.out.map hu7));clear hu7 hn7)
     | (go_at_call 122;refine (both_any cv _ _ HBc.out (HWk.out.bd t)).mono ?_;rintro e w8 ⟨rfl,hb8⟩;have HUz:=Lib.hid (HU7.out.bel hb8);have HNz:=Lib.hid (HN7.out.old hb8);have HKz:=Lib.hid (HK7.out.trans (Keeps.of hb8));clear hb8))
    exact j0
   by_cases h26:op=26
   ·subst h26
    as_aux_lemma=>
    obtain ⟨ha,htg⟩:=HOd.out.o26 rfl
    have ha0:=HOd.out.a0 (by simp)
    dsimp only at ha ha0 htg
    obtain ⟨s,rfl⟩:∃ j:Nat,ia=j:=⟨ia.toNat,by omega⟩
    have HTg:=Lib.hid (lTargets_yes m h s w6 HMd6.out HWk.out.hm ha)
    have HTt:=Lib.hid htg
    have hln:=Nat.le_trans (tgtV_len m s) (modV_size HWk.out.hm).1
    have HTn:=Lib.hid (fun t (ht:t∈tgtV m s)=>tgt_nn ht)
    obtain ⟨tg,htq⟩:∃ tg,tg=tgtV m s:=⟨_,rfl⟩
    rw [←htq] at HTg HTt hln HTn
    have HTq:=Lib.hid htq
    clear ha htg htq
    go_upto_region 14 with (go_at_call 123;refine HTg.out.mono ?_;rintro e w7 ⟨⟨ao,cap,rfl,hr7⟩,hb7⟩;have HR7:=Lib.hid hr7;have HB7:=Lib.hid hb7;clear hr7 hb7)
    go_wp2_with fail
    have c0:=Keeps.of HB7.out _ _ b0
    have c1:=Keeps.of HB7.out _ _ b1
    have c2:=Keeps.of HB7.out _ _ b2
    have c3:=Keeps.of HB7.out _ _ b3
    have c4:=Keeps.of HB7.out _ _ b4
    have HCs:=Lib.hid (show Cs [(⟨w.heap.size,0,none⟩,.slice h.co m.cl.length h.cc),(⟨w.heap.size,1,none⟩,.slice h.so m.st.length h.sc),(⟨w.heap.size,2,none⟩,.slice h.eo m.me.length h.ec),(⟨w.heap.size,3,none⟩,.int .i64 m.sel),(⟨w.heap.size,4,none⟩,.map (some M))] w7 from ⟨c0,c1,c2,c3,c4,trivial⟩)
    clear c0 c1 c2 c3 c4
    go_loopw [15,61] (fun mo i wr=>∃ (j2:Nat),i=.int .i64 j2∧mo=.int .i64 (lowP (fun t=>T t.toNat) tg j2)∧j2≤tg.length∧Hid (Upd M M w7 wr)∧Hid (KnM T wr M fun j=>Q j∨j<k)) (fun _ i _=>tg.length-(intOf i).toNat)
    case atStart=>exact ⟨0,rfl,rfl,Nat.zero_le _,Upd.refl _ _ _,HN6.out.old HB7.out⟩
    case round=>
     obtain ⟨j2,rfl,rfl,hj2,HV,HKn⟩:=hrel
     by_cases hjl3:j2<tg.length
     ·have hkw:=Keeps.upd (HN6.out.old HB7.out).map HV.out
      obtain ⟨ad2,rfl,t0⟩:=row_int (row_keeps HR7.out hkw) hjl3
      have hmem:tg.getD j2 0∈tg:=getD_mem _ hjl3
      have h1:=HTt.out _ hmem
      have h2:=HTn.out _ hmem
      have hsn:=lowP_snoc (T:=fun t=>T t.toNat) hjl3
      obtain ⟨tj,htj⟩:∃ t,t=tg.getD j2 0:=⟨_,rfl⟩
      rw [←htj] at t0 h1 h2 hsn
      obtain ⟨t,rfl⟩:∃ d:Nat,tj=d:=⟨tj.toNat,by omega⟩
      have HMt:=Lib.hid (HM.out t (by omega) wr (fun j=>Q j∨j<k) ((HMd6.out.old HB7.out).keeps hkw) HKn.out)
      have HSn:=Lib.hid hsn
      have hjl4:(j2:Int) < tg.length:=by omega
      have htk:t<k:=by omega
      have hwj2:IntKind.i64.wrap ((j2:Int)+1)=((j2+1:Nat):Int):=IntWalk.i64_in _ (by omega)
      obtain ⟨c0,c1,c2,c3,c4,-⟩:=Cs.keeps hkw HCs.out
      obtain ⟨lp,hlp⟩:∃ l,l=lowP (fun t=>T t.toNat) tg j2:=⟨_,rfl⟩
      rw [←hlp] at HSn
      rw [←hlp]
      clear hsn hmem h1 h2 htj hkw hlp
      by_cases hz:j2=0
      ·have hz2:((j2:Int) == 0)=true:=by simp [hz]
       have HZ:=Lib.hid hz
       rw [if_pos hz] at HSn
       exact j4
      ·have hz2:((j2:Int) == 0)=false:=by simp [hz]
       have HZ:=Lib.hid hz
       rw [if_neg hz] at HSn
       exact j4
     ·obtain rfl:j2=tg.length:=by omega
      have hj5:¬ (tg.length:Int) < tg.length:=by omega
      rw [lowP_all]
      have HXv:=Lib.hid (show v=bothV cv (lowT (fun t=>T t.toNat) tg) by rw [HPl.out (by decide),gL_26 rfl,HCv.out,HTq.out])
      have hlb:Bl (lowT (fun t=>T t.toNat) tg):=lowT_bl fun t=>HWk.out.bd _
      have HXb:=Lib.hid (bothV_bl HBc.out hlb)
      have HLb:=Lib.hid hlb
      obtain ⟨lt,hlt⟩:∃ l,l=lowT (fun t=>T t.toNat) tg:=⟨_,rfl⟩
      rw [←hlt] at HXv HXb HLb
      rw [←hlt]
      clear hlb hlt
      go_upto_region 31 with (go_at_call 122;refine (both_any cv lt _ HBc.out HLb.out).mono ?_;rintro e w8 ⟨rfl,hb8⟩;have HUz:=Lib.hid (((HU6.out.bel HB7.out).trans HV.out).bel hb8);have HNz:=Lib.hid (HKn.out.old hb8);have HKz:=Lib.hid (((HK6.out.trans (Keeps.of HB7.out)).trans (Keeps.upd (HN6.out.old HB7.out).map HV.out)).trans (Keeps.of hb8));clear hb8)
      exact j0
   have hb1:Bl 1:=by unfold Bl;omega
   by_cases ho:opensV op=true
   ·rcases HYc.out with ⟨_,r,_⟩|⟨en,F,S,a1,b1',a2,b2',hye,hen,he35,ho',⟨hfn,hrF,hnF,hpa1,hbp1⟩,⟨hsn,hrS,hnS,hpa2,hbp2⟩,hval⟩
    ·exact absurd (ho.symm.trans r) (by decide)
    subst hye hfn hsn
    have hpb1:p'≤b:=HIt.out.2.2.2.1
    have hpa:a≤p:=HIt.out.2.2.2.2
    have hbf:=LWA_bl (m:=m) (T:=fun t=>T t.toNat) (fun i hi=>((HWk.out.ok hk).i i hi).1) (fun t=>HWk.out.bd _) hnF.seg 0 (by unfold Bl;omega)
    have hbs:=LWA_bl (m:=m) (T:=fun t=>T t.toNat) (fun i hi=>((HWk.out.ok hk).i i hi).1) (fun t=>HWk.out.bd _) hnS.seg 0 (by unfold Bl;omega)
    have HLf:=Lib.hid (show ∀ w' Q',ModAt w' h m→KnM T w' M Q'→Keeps wo w'→_ from fun w' Q' hH hK hk=>HLc.out a1 b1' (by omega) (by omega) w' Q' yf yfc F hH hK (row_keeps hrF hk) (hnF.keeps hk))
    have HLs:=Lib.hid (show ∀ w' Q',ModAt w' h m→KnM T w' M Q'→Keeps wo w'→_ from fun w' Q' hH hK hk=>HLc.out a2 b2' (by omega) (by omega) w' Q' ys ysc S hH hK (row_keeps hrS hk) (hnS.keeps hk))
    change Bl (WA (gLT m T) (cdM m k) a1 b1' 0) at hbf
    change Bl (WA (gLT m T) (cdM m k) a2 b2' 0) at hbs
    obtain ⟨f,hf⟩:∃ f,f=WA (gLT m T) (cdM m k) a1 b1' 0:=⟨_,rfl⟩
    obtain ⟨s,hs⟩:∃ f,f=WA (gLT m T) (cdM m k) a2 b2' 0:=⟨_,rfl⟩
    rw [←hf] at hbf HLf hval
    rw [←hs] at hbs HLs hval
    have HVal:=Lib.hid hval
    have hop5:29≤op∧op≤33:=by have:=ho;unfold opensV inI at this;simpa using this
    clear hf hs hval hrF hnF hrS hnS he35 ho' hen ho hpb1 hpa HYc
    by_cases h29:op=29∨op=33
    ·rcases h29 with h29|h29<;>subst h29
     all_goals
      as_aux_lemma=>
      go_upto_region 25 with fail
      have HC6:=Lib.hid (show Cs [(⟨w.heap.size,0,none⟩,.slice h.co m.cl.length h.cc),(⟨w.heap.size,1,none⟩,.slice h.so m.st.length h.sc),(⟨w.heap.size,2,none⟩,.slice h.eo m.me.length h.ec),(⟨w.heap.size,3,none⟩,.int .i64 m.sel),(⟨w.heap.size,4,none⟩,.map (some M)),(⟨wo.heap.size,3,none⟩,.slice yf F.length yfc),(⟨wo.heap.size,4,none⟩,.slice ys S.length ysc)] w6 from ⟨b0,b1,b2,b3,b4,x3,x4,trivial⟩)
      refine rO (Cs [(⟨w.heap.size,0,none⟩,.slice h.co m.cl.length h.cc),(⟨w.heap.size,1,none⟩,.slice h.so m.st.length h.sc),(⟨w.heap.size,2,none⟩,.slice h.eo m.me.length h.ec),(⟨w.heap.size,3,none⟩,.int .i64 m.sel),(⟨w.heap.size,4,none⟩,.map (some M)),(⟨wo.heap.size,3,none⟩,.slice yf F.length yfc),(⟨wo.heap.size,4,none⟩,.slice ys S.length ysc)]) (oL [0,1,2,3,4,6,7,8,9,105,110,111,112,113,14]) HC6.out ?_
      clear b0 b1 b2 b3 b4 x3 x4
      repeat refine pO ?_
      refine oO fun Kv hK=>?_
      go_simp
      refine (HLf.out _ _ (HMd6.out.old (Below.refl _ _).drew) (HN6.out.eq rfl) HK6.out).mono ?_
      rintro e w7 ⟨rfl,hu7,hn7⟩
      have HD7:=Lib.hid ((Upd.refl M M w6).drew.trans hu7)
      have HN7:=Lib.hid (hn7.weak (R:=fun j=>Q j∨j<k) fun q hq=>hq.elim id .inr)
      refine hK _ _ ⟨Cs.keeps (Keeps.upd HN6.out.map HD7.out) HC6.out,?_⟩
      clear hK Kv hu7 hn7
      repeat refine pO ?_
      refine oO fun Kv hK=>?_
      go_simp
      refine (HLs.out _ _ (HMd6.out.keeps (Keeps.upd HN6.out.map HD7.out)) HN7.out (HK6.out.trans (Keeps.upd HN6.out.map HD7.out))).mono ?_
      rintro e w8 ⟨rfl,hu8,hn8⟩
      have HD8:=Lib.hid (HD7.out.trans hu8)
      have HN8:=Lib.hid (hn8.weak (R:=fun j=>Q j∨j<k) fun q hq=>hq.elim id .inr)
      refine hK _ _ ⟨Cs.keeps (Keeps.upd HN6.out.map HD8.out) HC6.out,?_⟩
      clear hK Kv hu8 hn8
      repeat refine pO ?_
      refine oO fun Kv hK=>?_
      go_simp
      refine (lighter_any f s _).mono ?_
      rintro e w9 ⟨rfl,hb9⟩
      have HD9:=Lib.hid (HD8.out.bel hb9)
      have HN9:=Lib.hid (HN8.out.old hb9)
      refine hK _ _ ⟨Cs.keeps (Keeps.upd HN6.out.map HD9.out) HC6.out,?_⟩
      clear hK Kv hb9
      repeat refine pO ?_
      refine oO fun Kv hK=>?_
      go_simp
      refine (both_any (lightV f s) 1 _ (lightV_bl hbf hbs) hb1).mono ?_
      rintro e w10 ⟨rfl,hb10⟩
      have HD10:=Lib.hid (HD9.out.bel hb10)
      have HN10:=Lib.hid (HN9.out.old hb10)
      refine hK _ _ ⟨Cs.keeps (Keeps.upd HN6.out.map HD10.out) HC6.out,?_⟩
      clear hK Kv hb10
      repeat refine pO ?_
      refine oO fun Kv hK=>?_
      go_simp
      refine (both_any cv _ _ HBc.out (bothV_bl (lightV_bl hbf hbs) hb1)).mono ?_
      rintro e w11 ⟨rfl,hb11⟩
      have HD11:=Lib.hid (HD10.out.bel hb11)
      have HN11:=Lib.hid (HN10.out.old hb11)
      refine hK _ _ ⟨Cs.keeps (Keeps.upd HN6.out.map HD11.out) HC6.out,?_⟩
      clear hK Kv hb11
      repeat refine pO ?_
      refine wpMixO_done ?_
      have HXv:=Lib.hid (show v=bothV cv (bothV (lightV f s) 1) by rw [HVal.out,gL_29 (by simp),HCv.out])
      have HXb:=Lib.hid (bothV_bl HBc.out (bothV_bl (lightV_bl hbf hbs) hb1))
      have HUz:=Lib.hid (HU6.out.trans HD11.out)
      have HNz:=HN11
      have HKz:=Lib.hid (HK6.out.trans (Keeps.upd HN6.out.map HD11.out))
      go_wp2_with (go_at_call 122;refine (both_any sv _ _ HIt.out.2.1 HXb.out).mono ?_;rintro e wE ⟨rfl,hbE⟩;have HBe:=Lib.hid hbE;clear hbE)
      obtain ⟨q1,q2,q3,q4,q5⟩:=HIt.out
      exact ⟨⟨j+1,p',bothV sv v,rfl,by rw [HXv.out],hjl,⟨by omega,q4,bothV_bl q2 (HXv.out▸HXb.out),q1.keeps (HKz.out.trans (Keeps.of HBe.out)),HWa.out⟩,HUz.out.bel HBe.out,HNz.out.old HBe.out⟩,by simp [intOf];omega⟩
    by_cases h30:op=30
    ·subst h30
     as_aux_lemma=>
     have HXv:=Lib.hid (show v=cv by rw [HVal.out,gL_30 rfl,HCv.out])
     have HXb:=HBc
     have HUz:=HU6
     have HNz:=HN6
     have HKz:=HK6
     exact j0
    ·rcases (show op=31∨op=32 by omega) with h31|h31<;>subst h31
     all_goals
      as_aux_lemma=>
      have HXv:=Lib.hid (show v=bothV cv (bothV f 1) by rw [HVal.out,gL_31 (by simp),HCv.out])
      have HXb:=Lib.hid (bothV_bl HBc.out (bothV_bl hbf hb1))
      go_upto_region 28 with fail
      clear i1 x4
      go_wp2_with fail
      refine (HLf.out _ _ HMd6.out HN6.out HK6.out).mono ?_
      rintro e w7 ⟨rfl,hu7,hn7⟩
      have HD7:=Lib.hid hu7
      have HN7:=Lib.hid (hn7.weak (R:=fun j=>Q j∨j<k) fun q hq=>hq.elim id .inr)
      clear hu7 hn7 b0 b1 b2 b3 b4 x3
      go_wp2_with fail
      refine (both_any f 1 _ hbf hb1).mono ?_
      rintro e w8 ⟨rfl,hb8⟩
      have HB8:=Lib.hid hb8
      clear hb8
      go_wp2_with fail
      refine (both_any cv _ _ HBc.out (bothV_bl hbf hb1)).mono ?_
      rintro e w9 ⟨rfl,hb9⟩
      have HB9:=Lib.hid (bthen HB8.out hb9)
      clear hb9
      go_upto_region 31 with fail
      have HUz:=Lib.hid ((HU6.out.trans HD7.out).bel HB9.out)
      have HNz:=Lib.hid (HN7.out.old HB9.out)
      have HKz:=Lib.hid ((HK6.out.trans (Keeps.upd HN6.out.map HD7.out)).trans (Keeps.of HB9.out))
      go_wp2_with (go_at_call 122;refine (both_any sv _ _ HIt.out.2.1 HXb.out).mono ?_;rintro e wE ⟨rfl,hbE⟩;have HBe:=Lib.hid hbE;clear hbE)
      obtain ⟨q1,q2,q3,q4,q5⟩:=HIt.out
      exact ⟨⟨j+1,p',bothV sv v,rfl,by rw [HXv.out],hjl,⟨by omega,q4,bothV_bl q2 (HXv.out▸HXb.out),q1.keeps (HKz.out.trans (Keeps.of HBe.out)),HWa.out⟩,HUz.out.bel HBe.out,HNz.out.old HBe.out⟩,by simp [intOf];omega⟩
   ·have ho2:opensV op=false:=by simpa using ho
    have hn1:¬ op=29:=by have:=ho2;unfold opensV inI at this;simp at this;omega
    have hn2:¬ op=33:=by have:=ho2;unfold opensV inI at this;simp at this;omega
    have hn3:¬ op=31:=by have:=ho2;unfold opensV inI at this;simp at this;omega
    have hn4:¬ op=32:=by have:=ho2;unfold opensV inI at this;simp at this;omega
    by_cases h28:op=28
    ·subst h28
     as_aux_lemma=>
     have HXv:=Lib.hid (show v=-1 by rw [HPl.out ho2,gL_28 rfl])
     have HXb:=Lib.hid (show Bl (-1) by unfold Bl;omega)
     have HUz:=HU6
     have HNz:=HN6
     have HKz:=HK6
     clear ho ho2
     exact j0
    ·have HXv:=Lib.hid (show v=cv by rw [HPl.out ho2,gL_x h25 h26 h28,HCv.out])
     have HXb:=HBc
     have HUz:=HU6
     have HNz:=HN6
     have HKz:=HK6
     clear ho ho2
     exact j0
  ·obtain rfl:j=rows.length:=by omega
   have hj5:¬ (rows.length:Int) < rows.length:=by omega
   go_wp2
   go_ret
   obtain ⟨-,-,-,hnd,hwa⟩:=HS.out
   rw [List.drop_eq_nil_iff.2 (Nat.le_refl _)] at hnd
   cases hnd with
   | nil _ _=>exact ⟨by rw [hwa,WA_nil];rfl,(Upd.of HB1.out).trans HU.out,HN.out⟩
end
end
section
open Go.RowKit
section
variable {M:Nat}{h:Hd}{m:Md}{T:Nat→Int}{k:Nat}
theorem llists (HW:Lkr m T) (hk:k<m.me.length) (hm:∀ j,j<k→LMethC M h m T j):∀ (n a b:Nat),b-a≤n→LListC M h m T k a b
 | 0,a,b,hn=>llist_of HW hk hm fun a' b' h4 h5 w Q ro rc rows _ _ _ hd=>by have:=hd.le;omega
 | n+1,a,b,hn=>llist_of HW hk hm fun a' b' h4 h5=>llists HW hk hm n a' b' (by omega)
theorem lmeths (HW:Lkr m T):∀ (n k:Nat),k<n→k<m.me.length→LMethC M h m T k
 | 0,k,hn,_=>by omega
 | n+1,k,hn,hk=>lmeth_of HW hk (llists HW hk (fun j hj=>lmeths HW n j (by omega) (by omega)) (cdM m k).length 0 (cdM m k).length (by omega))
end
theorem mthW_bl {m:Md} (hm:modV m=true):∀ (n k:Nat),k<n→Bl (mthW (gL m) m k)
 | 0,k,hn=>by omega
 | n+1,k,hn=>by
  have h0:Bl 0:=by unfold Bl;omega
  rw [mthW_def]
  by_cases hk:k<m.me.length
  ·refine LWA_bl (fun i hi=>((mth_ok hm hk).i i hi).1) (fun t=>?_) (seg_of (mth_ok hm hk).n) 0 h0
   by_cases hj:t.toNat<k
   ·rw [tabV_get _ _ hj]
    exact mthW_bl hm n _ (by omega)
   ·rw [List.getD_eq_getElem?_getD,List.getElem?_eq_none (by rw [tabV_len];omega)]
    exact h0
  ·rw [cd_out (by omega)]
   show Bl (WA _ _ 0 0 0)
   rw [WA_nil]
   exact h0
theorem mthW_gL {m:Md} (hm:modV m=true) {k:Nat} (hk:k<m.me.length):mthW (gL m) m k=WA (gLT m (mthW (gL m) m)) (cdM m k) 0 (cdM m k).length 0:=by
 refine mthW_eq (seg_of (mth_ok hm hk).n) (fun _ _=>rfl) (fun _ _=>rfl) (fun i hi=>?_)
 have ho:=opd_ok ((mth_ok hm hk).i i hi).1 ((mth_ok hm hk).i i hi).2
 show (if i.op=25 then bothV (costV i) _ else if i.op=26 then bothV (costV i) _ else _)=if i.op=25 then bothV (costV i) _ else if i.op=26 then bothV (costV i) _ else _
 by_cases h25:i.op=25
 ·exact j10
 ·rw [if_neg h25,if_neg h25]
  by_cases h26:i.op=26
  ·rw [if_pos h26,if_pos h26]
   congr 1
   refine lowT_congr fun t ht=>?_
   have:=(ho.o26 h26).2 t ht
   have:=tgt_nn ht
   rw [tabV_get _ _ (by omega)]
  ·rw [if_neg h26,if_neg h26]
theorem low_lkr {m:Md} (hm:modV m=true):Lkr m (mthW (gL m) m):=⟨hm,fun k=>mthW_bl hm (k+1) k (by omega),fun k hk=>mthW_gL hm hk⟩
def leastE (m:Md) (k:Int):Int × Int:=if readyV m k=true then (if mthW (gL m) m k.toNat<0 then (0,3) else if 1000000000<mthW (gL m) m k.toNat then (0,6) else (mthW (gL m) m k.toNat,0)) else (0,1)
theorem least_any (m:Md) (h:Hd) (k:Int) (w:World) (H:ModAt w h m):Calls Tryz.prog 24 #[.agg #[.slice h.co m.cl.length h.cc,.slice h.so m.st.length h.sc,.slice h.eo m.me.length h.ec,.int .i64 m.sel],.int .i64 k] w (Ret2 w (.int .i64 (leastE m k).1) (.int .i64 (leastE m k).2)):=by
 have hmm:=@run_makeMap Tryz.prog
 have hb0:Below w.heap.size w (w.alloc (.cells #[.slice h.co m.cl.length h.cc,.slice h.so m.st.length h.sc,.slice h.eo m.me.length h.ec,.int .i64 m.sel] 26)):=by exact bE
 have HA:=Lib.hid (basked_any m h k _ (H.old hb0))
 obtain ⟨r1,hr1⟩:∃ r,r=(leastE m k).1:=⟨_,rfl⟩
 obtain ⟨r2,hr2⟩:∃ r,r=(leastE m k).2:=⟨_,rfl⟩
 rw [←hr1,←hr2]
 have HB0:=Lib.hid hb0
 have HX0:=Lib.hid (Blk.new w #[.slice h.co m.cl.length h.cc,.slice h.so m.st.length h.sc,.slice h.eo m.me.length h.ec,.int .i64 m.sel] 26)
 have HH:=Lib.hid H
 rcases hq:readyV m k with _|_
 ·rw [hq] at HA
  have e1:r1=0:=by rw [hr1];unfold leastE;rw [hq];rfl
  have e2:r2=1:=by rw [hr2];unfold leastE;rw [hq];rfl
  have HE:=Lib.hid (And.intro e1 e2)
  clear hb0 H hr1 hr2 hq e1 e2 hmm
  go_enter Tryz.func24,Tryz.ntmps24
  exact j9
 ·rw [hq] at HA
  obtain ⟨hm,hk0,hk1⟩:=readyV_yes hq
  obtain ⟨k,rfl⟩:∃ d:Nat,k=d:=⟨k.toNat,by omega⟩
  have hkl:k<m.me.length:=by omega
  obtain ⟨v,hv⟩:∃ v,v=mthW (gL m) m k:=⟨_,rfl⟩
  have e1:r1=if v<0 then 0 else if 1000000000<v then 0 else v:=by rw [hr1,hv];unfold leastE;rw [hq,if_pos rfl,Int.toNat_natCast];split;rfl;split<;>rfl
  have e2:r2=if v<0 then 3 else if 1000000000<v then 6 else 0:=by rw [hr2,hv];unfold leastE;rw [hq,if_pos rfl,Int.toNat_natCast];split;rfl;split<;>rfl
  have HE:=Lib.hid (And.intro e1 e2)
  have HM:=Lib.hid (fun M=>lmeths (M:=M) (h:=h) (low_lkr hm) (k+1) k (by omega) hkl)
  have HV:=Lib.hid hv
  clear hb0 H hr1 hr2 hq e1 e2 hv hm
  go_enter Tryz.func24,Tryz.ntmps24
  by_cases hneg:v<0
  all_goals
   go_wp2_with (first
    | (go_at_call 42;refine HA.out.mono ?_;rintro e w1 ⟨rfl,hb1⟩;have HB1:=Lib.hid (bthen HB0.out hb1);have HX1:=Lib.hid (HX0.out.old hb1);have x0:=HX1.out.cell 0 (v:=.slice h.co m.cl.length h.cc) rfl;have x1:=HX1.out.cell 1 (v:=.slice h.so m.st.length h.sc) rfl;have x2:=HX1.out.cell 2 (v:=.slice h.eo m.me.length h.ec) rfl;have x3:=HX1.out.cell 3 (v:=.int .i64 m.sel) rfl;clear hb1)
    | (go_at_call 58;refine (HM.out w1.heap.size _ _ (HH.out.old (by have:=HB1.out;exact bE)) (KnM.made _ w1)).mono ?_;rintro e w3 ⟨rfl,hu3,hn3⟩;rw [←HV.out];have HU3:=Lib.hid hu3;clear hu3 hn3)
    | (go_at_call 50;refine (bfits_any _ _).mono ?_;rintro e w4 ⟨rfl,hb4⟩))
   all_goals
    go_ret2
    exact ret2_ok (int_eq (by rw [HE.out.1];grind)) (int_eq (by rw [HE.out.2];grind)) (by
     have h3:=HU3.out.below (bal HB1.out _) (Nat.le_refl _) HB1.out.size HB1.out.size
     first|exact h3|exact bthen h3 hb4)
end
section
open Go.RowKit
def plusR (a b:Int):Int:=if a=-1∨b=-1 then -1 else addV a b
def lesserR (a b:Int):Int:=if a=-1∨(b≠-1∧b<a) then b else a
def bestR (l:Bool) (a n:Int):Int:=if n=-1 then a else if a=-1∨(l=true∧n<a)∨(l=false∧a<n) then n else a
def calledR (l:Bool) (m:Md) (T:Int→Int) (i:In3):Int:=if i.op=25 then T i.a else if i.op≠26 then 0 else (tgtV m i.a).foldl (fun a t=>bestR l a (T t)) (-1)
def brkR (l sc:Bool) (i:In3) (f s o t:Int):Int:=
 if i.op=29 then (if l=true then plusR o (lesserR (plusR f t) (plusR s t)) else plusR o (max (plusR f t) (plusR s t)))
 else if i.op=30 then (if l=true then o else addV o (mulV i.a (addV f t)))
 else if i.op=32∧sc=true then 0
 else if i.op=33 then (if l=true then plusR o (lesserR (plusR f t) (plusR s t)) else addV (addV o (addV f t)) s)
 else plusR o (plusR f t)
def gR (l:Bool) (x:Ms) (m:Md) (T:Int→Int):Wg where
 plus:=plusR
 pl i:=if l=true∧i.op=28 then -1 else if calledR l m T i=-1 then -1 else addV (x.wt i) (calledR l m T i)
 brk i f s:=brkR l x.sc i f s (x.wt i) x.tl
theorem WA_same {g g':Wg}{l:List In3}{P:Int→Prop}{a b:Nat} (hs:Seg l a b) (h0:P 0) (hp:∀ a b,P a→P b→g.plus a b=g'.plus a b∧P (g.plus a b)) (hl:∀ i∈l,g.pl i=g'.pl i∧P (g.pl i))
  (hb:∀ i∈l,∀ f s,P f→P s→g.brk i f s=g'.brk i f s∧P (g.brk i f s)):∀ acc,P acc→WA g l a b acc=WA g' l a b acc∧P (WA g l a b acc):=by
 have hm:∀ k,k<l.length→l.getD k default∈l:=fun k hk=>getD_mem _ hk
 induction hs with
 | nil a h=>intro acc hacc;rw [WA_nil,WA_nil];exact ⟨rfl,hacc⟩
 | pl a b q1 q2 q3 q4 q5 ih=>
  intro acc hacc
  rw [WA_pl q2 q5,WA_pl q2 q5]
  obtain ⟨e1,p1⟩:=hl _ (hm a q1)
  obtain ⟨e2,p2⟩:=hp _ _ hacc p1
  obtain ⟨e3,p3⟩:=ih _ p2
  exact ⟨by rw [e3,e2,e1],p3⟩
 | one a en b q1 q2 q3 i1 i2=>
  intro acc hacc
  rw [WA_one q1 q2 q3,WA_one q1 q2 q3]
  obtain ⟨e0,p0⟩:=i1 0 h0
  obtain ⟨e1,p1⟩:=hb _ (hm a q1.1) _ 0 p0 h0
  obtain ⟨e2,p2⟩:=hp _ _ hacc p1
  obtain ⟨e3,p3⟩:=i2 _ p2
  exact ⟨by rw [e3,e2,e1,e0],p3⟩
 | two a n en b q1 q2 q3 q4 i1 i2 i3=>
  intro acc hacc
  rw [WA_two q1 q2 q3 q4,WA_two q1 q2 q3 q4]
  obtain ⟨e0,p0⟩:=i1 0 h0
  obtain ⟨e9,p9⟩:=i2 0 h0
  obtain ⟨e1,p1⟩:=hb _ (hm a q1.1) _ _ p0 p9
  obtain ⟨e2,p2⟩:=hp _ _ hacc p1
  obtain ⟨e3,p3⟩:=i3 _ p2
  exact ⟨by rw [e3,e2,e1,e0,e9],p3⟩
theorem plusR_add {a b:Int} (ha:Bd a) (hb:Bd b):plusR a b=addV a b:=by unfold plusR;rw [if_neg (by unfold Bd at *;omega)]
theorem plusR_both {a b:Int} (ha:Bl a) (hb:Bl b):plusR a b=bothV a b:=by
 unfold plusR bothV Bl at *
 by_cases h:a=-1∨b=-1
 ·rw [if_pos h,if_pos (by omega)]
 ·rw [if_neg h,if_neg (by omega)]
theorem plusR_bl {a b:Int} (ha:Bl a) (hb:Bl b):Bl (plusR a b):=plusR_both ha hb▸bothV_bl ha hb
theorem lesserR_light {a b:Int} (ha:Bl a) (hb:Bl b):lesserR a b=lightV a b:=by
 unfold lesserR lightV Bl at *
 repeat' split
 all_goals omega
def SendV (m:Md) (l:List In3):Prop:=∀ i∈l,i.op=26→tgtV m i.a≠[]
section
variable {x:Ms}{m:Md}{T T':Int→Int}{l:List In3}{k:Nat} (hv:∀ i∈l,insnV false i=true∧opdV m k i=true) (hsd:SendV m l)
include hv hsd
end
end
section
open Go.RowKit
theorem step_send {m:Md}{lo:List Ty}{i:In3}{s:Ps} (h:(stepV m lo i s).1=0) (h26:i.op=26):tgtV m i.a≠[]:=fun e=>by
 unfold stepV at h
 rw [if_neg (by omega),if_neg (by omega)] at h
 have hp:∀ l,pushV m lo i l=none:=fun l=>by
  unfold pushV calleeV
  simp [h26,e]
 simp only [hp] at h
 split at h<;>simp at h
theorem pass_send {m:Md}{lo:List Ty}{r:Ty}:∀ (l:List In3) (n:Nat) (s:Ps),(passF m lo r n l s).2.2=0→SendV m l
 | [],_,_,_=>fun i hi=>by simp at hi
 | i :: l,n,s,h=>by
  unfold passF at h
  by_cases h1:(stepV m lo i s).1=0
  ·rw [if_pos h1] at h
   dsimp only at h
   intro j hj
   rcases List.mem_cons.1 hj with rfl|hj
   ·exact step_send h1
   ·refine pass_send (lo:=lo) (r:=r) l (n+1) (stepV m lo i s).2 ?_ j hj
    split at h
    ·assumption
    ·exact h
  ·rw [if_neg h1] at h
   exact absurd h h1
theorem modF_ok {m:Md}:∀ (n k:Nat),(modF m n k).2.2=0→∀ j,k≤j→j<k+n→(passV m j).2.2=0
 | 0,k,_,j,h1,h2=>by omega
 | n+1,k,h,j,h1,h2=>by
  unfold modF at h
  by_cases h3:(passV m k).2.2=0
  ·rw [if_pos h3] at h
   by_cases e:j=k
   ·subst e;exact h3
   ·exact modF_ok n (k+1) h j (by omega) (by omega)
  ·rw [if_neg h3] at h
   exact absurd h h3
theorem mod_ok {m:Md} (h:(moduleV m).2.2=0):modV m=true∧∀ k,k<m.me.length→SendV m (cdM m k):=by
 unfold moduleV at h
 by_cases hm:modV m=true
 ·rw [if_pos hm] at h
  exact ⟨hm,fun k hk=>pass_send _ _ _ (modF_ok _ _ h k (Nat.zero_le _) (by omega))⟩
 ·rw [if_neg hm] at h
  exact absurd h (by decide)
section
variable {x:Ms}{m:Md} (hm:modV m=true) (hsd:∀ k,k<m.me.length→SendV m (cdM m k))
include hm hsd
end
def oneV (g:Wg) (l:List In3) (p:Nat):Int × Nat:=
 if opensV (l.getD p default).op=true then
  (g.brk (l.getD p default) (WA g l (p+1) (if (mtV l p).1<0 then (mtV l p).2 else (mtV l p).1.toNat) 0) (if (mtV l p).1<0 then 0 else WA g l ((mtV l p).1.toNat+1) (mtV l p).2 0),(mtV l p).2+1)
 else (g.pl (l.getD p default),p+1)
end
section
open Go.RowKit
end
section
open Go.RowKit
theorem rFit_any (m:Md) (h:Hd) (w:World) (H:ModAt w h m):Calls Tryz.prog 61 #[.agg #[.slice h.co m.cl.length h.cc,.slice h.so m.st.length h.sc,.slice h.eo m.me.length h.ec,.int .i64 m.sel]] w (Ret w (.int .i64 (if (moduleV m).2.2=0 then 0 else 1))):=by
 have HC:=Lib.hid (fun w' hb=>rCheck_any m h w' (H.old (w':=w') hb))
 have HV:=Lib.hid (fun w' hb=>rModule_any w' h m (H.old (w':=w') hb))
 have hmv:modV m=false→(moduleV m).2.2=1:=fun q=>by unfold moduleV;rw [if_neg (by rw [q];decide)]
 obtain ⟨q,hq⟩:∃ q:Int,q=if (moduleV m).2.2=0 then 0 else 1:=⟨_,rfl⟩
 rw [←hq]
 obtain ⟨⟨z0,z1,z2⟩,hz⟩:∃ z,z=moduleV m:=⟨_,rfl⟩
 rw [←hz] at HV hq hmv
 dsimp only at hq hmv
 have HQ:=Lib.hid hq
 have HB0:=Lib.hid (show Below w.heap.size w (w.alloc (.cells #[.slice h.co m.cl.length h.cc,.slice h.so m.st.length h.sc,.slice h.eo m.me.length h.ec,.int .i64 m.sel] 26)) by exact bE)
 have HX0:=Lib.hid (Blk.new w #[.slice h.co m.cl.length h.cc,.slice h.so m.st.length h.sc,.slice h.eo m.me.length h.ec,.int .i64 m.sel] 26)
 rcases hm:modV m with _|_
 ·have e1:q=1:=by rw [hq,hmv hm];rfl
  have HE:=Lib.hid e1
  rw [hm] at HC
  clear H hz hq hm hmv e1
  go_enter Tryz.func61,Tryz.ntmps61
  go_wp2_with (go_at_call 94;refine (HC.out _ HB0.out).mono ?_;rintro e w1 ⟨rfl,hb1⟩)
  go_ret
  exact ret_ok (int_eq HE.out.symm) (bthen HB0.out hb1)
 ·rw [hm] at HC
  clear H hz hq hm hmv
  go_enter Tryz.func61,Tryz.ntmps61
  go_wp2_with (first
   | (go_at_call 94;refine (HC.out _ HB0.out).mono ?_;rintro e w1 ⟨rfl,hb1⟩;have HB1:=Lib.hid (bthen HB0.out hb1);have HX1:=Lib.hid (HX0.out.old hb1);have x0:=HX1.out.cell 0 (v:=.slice h.co m.cl.length h.cc) rfl;have x1:=HX1.out.cell 1 (v:=.slice h.so m.st.length h.sc) rfl;have x2:=HX1.out.cell 2 (v:=.slice h.eo m.me.length h.ec) rfl;have x3:=HX1.out.cell 3 (v:=.int .i64 m.sel) rfl;clear hb1)
   | (go_at_call 95;refine (HV.out _ HB1.out).mono ?_;rintro e w2 ⟨rfl,hb2⟩;have HB2:=Lib.hid (bthen HB1.out hb2);clear hb2))
  all_goals
   go_ret
   refine ret_ok (int_eq ?_) HB2.out
   rw [HQ.out]
   grind
theorem rReady_any (m:Md) (h:Hd) (k:Int) (w:World) (H:ModAt w h m):Calls Tryz.prog 46 #[.agg #[.slice h.co m.cl.length h.cc,.slice h.so m.st.length h.sc,.slice h.eo m.me.length h.ec,.int .i64 m.sel],.int .i64 k] w (Ret w (.int .i64 (if readyV m k=true then 0 else 1))):=by
 have HF:=Lib.hid (fun w' hb=>rFit_any m h w' (H.old (w':=w') hb))
 obtain ⟨q,hq⟩:∃ q:Int,q=if readyV m k=true then 0 else 1:=⟨_,rfl⟩
 rw [←hq]
 obtain ⟨z,hz⟩:∃ z:Int,z=if (moduleV m).2.2=0 then 0 else 1:=⟨_,rfl⟩
 have hq2:q=if z=0∧0≤k∧k<m.me.length then 0 else 1:=by
  rw [hq,hz]
  unfold readyV inV
  by_cases h1:(moduleV m).2.2=0
  ·simp [h1]
  ·simp [h1]
 rw [←hz] at HF
 have HZ:=Lib.hid (show z=0∨z=1 by rw [hz];split<;>simp)
 have HQ:=Lib.hid hq2
 have HB0:=Lib.hid (show Below w.heap.size w (w.alloc (.cells #[.slice h.co m.cl.length h.cc,.slice h.so m.st.length h.sc,.slice h.eo m.me.length h.ec,.int .i64 m.sel] 26)) by exact bE)
 have HX0:=Lib.hid (Blk.new w #[.slice h.co m.cl.length h.cc,.slice h.so m.st.length h.sc,.slice h.eo m.me.length h.ec,.int .i64 m.sel] 26)
 clear H hq hz hq2
 go_enter Tryz.func46,Tryz.ntmps46
 go_wp2_with (go_at_call 61;refine (HF.out _ HB0.out).mono ?_;rintro e w1 ⟨rfl,hb1⟩;have x2:=(HX0.out.old hb1).cell 2 (v:=.slice h.eo m.me.length h.ec) rfl;have HB1:=Lib.hid (bthen HB0.out hb1);clear hb1)
 all_goals
  go_ret
  refine ret_ok (int_eq ?_) HB1.out
  have:=HZ.out
  rw [HQ.out]
  grind
end
end Go.Proofs.YtfkbfjhocmbneaaGreat
