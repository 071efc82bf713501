/- Joined texts. The first: bound: a weigher's node. -/
import Derived.Test.YtcfjblcgceednaaGreatR27
import Derived.Test.YtcfjblcgceednaaGreatG23
set_option linter.all false
set_option linter.unusedVariables false
set_option linter.unusedSimpArgs false
set_option maxRecDepth 100000
set_option maxHeartbeats 16000000
namespace Go.Proofs.YtcfjblcgceednaaGreat
theorem j4{p:Prop}(h:p:=by
 simp only [ZaQ,Bool.and_eq_true] at h
 have:=h.1.1.2
 rcases ho with rfl|rfl
 ·unfold inR at this;simp [opA,ZaO,ZaP,inI] at this;omega
 ·unfold inR at this;simp [opA,ZaO,ZaP,inI] at this;omega):p:=h
theorem j9{p:Prop}(h:p:=by
 go_ret2
 exact Zhg (ZcY HE.out.1.symm) (ZcY HE.out.2.symm) (Zaf HB0.out hb1)):p:=h
section
open Go.RowKit
section
variable {x:Ms}{B M:Nat}{h:Hd}{m:Md}{T:Nat→Int}{g:Nat}{caps:Array Value}{W0:World}{k:Nat}
section
variable {i:In3}{f s:Int}
theorem Zpt (q:i.op=25):(gT x m T).pl i=ZmS (x.wt i) (T i.a.toNat):=if_pos q
theorem Zpu (q:i.op=26):(gT x m T).pl i=ZmS (x.wt i) (ZmW (fun t=>T t.toNat) (ZaN m i.a)):=(if_neg (by omega)).trans (if_pos q)
theorem Zpv (q:i.op≠25) (q2:i.op≠26):(gT x m T).pl i=x.wt i:=(if_neg q).trans (if_neg q2)
theorem Zpw (q:i.op=29):(gT x m T).brk i f s=ZmS (x.wt i) (max (ZmS f x.tl) (ZmS s x.tl)):=if_pos q
theorem Zpx (q:i.op=30):(gT x m T).brk i f s=ZmS (x.wt i) (ZmT i.a (ZmS f x.tl)):=(if_neg (by omega)).trans (if_pos q)
theorem Zpy (q:i.op=31∨i.op=32∧x.sc=false):(gT x m T).brk i f s=ZmS (x.wt i) (ZmS f x.tl):=(if_neg (by omega)).trans ((if_neg (by omega)).trans ((if_neg (by rcases q with q|q;omega;simp [q.2])).trans (if_neg (by omega))))
theorem Zpz (q:i.op=32) (q2:x.sc=true):(gT x m T).brk i f s=x.wt i:=(if_neg (by omega)).trans ((if_neg (by omega)).trans (if_pos ⟨q,q2⟩))
theorem ZpA (q:i.op=33):(gT x m T).brk i f s=ZmS (x.wt i) (ZmS (ZmS f x.tl) s):=(if_neg (by omega)).trans ((if_neg (by omega)).trans ((if_neg (by omega)).trans (if_pos q)))
end
theorem ZpB {T:Int→Int}{l:List Int}{j:Nat} (hj:j<l.length):ZmW T (l.take (j+1))=max (ZmW T (l.take j)) (T (l.getD j 0)):=by
 rw [List.take_succ_eq_append_getElem hj]
 unfold ZmW
 rw [List.foldl_append]
 simp [hj]
theorem ZpC {w w':World}{M:Nat}{T:Nat→Int}{Q:Nat→Prop}{a b:Int} (e:a=b) (hu:Upd M M w w') (hn:KnM T w' M Q):Zod w M T Q b (.returned (.int .i64 a)) w':=⟨by rw [e],hu,hn⟩
theorem ZpD {op a b:Int} (h:ZaQ false ⟨op,a,b⟩=true) (ho:op=30):0≤a∧a≤1000:=by
 subst ho
 simp only [ZaQ,Bool.and_eq_true] at h
 have:=h.1.1.2
 unfold inR at this
 simp [opA,ZaO,ZaP,inI] at this
 omega
theorem ZpE {w:World}{l:List In3}{p p':Nat}{y:VN} (H:Zol w l p y p') (G:Wg):y.at_=p∧p<l.length∧((y.en=-1∧ZaR (l.getD p default).op=false∧Zom G l p y=G.pl (l.getD p default)) ∨
  ∃ (en:Nat) (F S:List VN) (a1 b1 a2 b2:Nat),y.en=en∧en<l.length∧(l.getD en default).op=35∧ZaR (l.getD p default).op=true∧(y.fn=F.length∧Zar w y.fo y.fc F∧Nds w l (fun _=>True) a1 b1 F∧p<a1∧b1<p')∧(y.sn=S.length∧Zar w y.so y.sc S∧Nds w l (fun _=>True) a2 b2 S∧p<a2∧b2<p') ∧
   Zom G l p y=G.brk (l.getD p default) (WA G l a1 b1 0) (WA G l a2 b2 0)):=by
 cases H with
 | pl h1 h2=>exact ⟨rfl,h1,.inl ⟨rfl,h2,by unfold Zom;rw [if_neg (by rw [h2];decide)]⟩⟩
 |one en fo fc F h1 h2 h3=>
  have hpe:=ZbI h1
  refine ⟨rfl,h1.1,.inr ⟨en,F,[],p+1,en,en,en,rfl,h1.2.2.1,h1.2.2.2.1,h1.2.1,⟨rfl,h2,h3,by omega,by omega⟩,⟨rfl,Zar.nil _,.nil _ (by have:=h1.2.2.1;omega),by omega,by omega⟩,?_⟩⟩
  unfold Zom
  rw [if_pos (show ZaR (l.getD p default).op=true from h1.2.1),Zmv]
  dsimp only
  rw [if_pos (show (-1:Int) < 0 by decide),if_pos (show (-1:Int) < 0 by decide),Int.toNat_natCast]
 |two n en fo so fc sc F S h1 h2 h3 h4 h5=>
  have:=(h3.le).1
  have:=(h5.le).1
  refine ⟨rfl,h1.1,.inr ⟨en,F,S,p+1,n,n+1,en,rfl,h1.2.2.1,h1.2.2.2.1,h1.2.1,⟨rfl,h2,h3,by omega,by omega⟩,⟨rfl,h4,h5,by omega,by omega⟩,?_⟩⟩
  have hn:¬ (n:Int) < 0:=by omega
  unfold Zom
  rw [if_pos (show ZaR (l.getD p default).op=true from h1.2.1)]
  dsimp only
  rw [if_neg hn,if_neg hn,Int.toNat_natCast,Int.toNat_natCast]
theorem ZpF (HW:Wkr x m T g caps W0) (hk:k<m.me.length) (hm:∀ j,j<k→Zow x B M h m T g caps W0 j) {p p':Nat}{y:VN} (hlc:∀ a b,p<a→b<p'→Zox x B M h m T g caps W0 k a b):Zoy x B M h m T g caps W0 k p y p':=by
 intro w Q H hk0 hit
 obtain ⟨hya,hp,hyc⟩:=ZpE hit (gT x m T)
 obtain ⟨ya,yl,ye,yf,yfn,yfc,ys,ysn,ysc⟩:=y
 dsimp only at hya hyc ⊢
 subst hya
 clear hit
 obtain ⟨ea,he,-,-,-,-,-,-,e6⟩:=H.md.mth hk
 have c2:=H.wk.cell 2 (v:=.slice h.eo m.me.length h.ec) rfl
 rw [he] at c2
 have c4:=H.wk.cell 4 (v:=.func (Fn.func g) #[] caps) rfl
 rw [show (m.me.getD k default).k.length=(cdM m k).length from rfl] at e6
 obtain ⟨ca,hca,o0,o1,o2⟩:=ZaA (l:=cdM m k) (H.md.k k hk) hp
 rw [hca] at e6
 have HCa:=Zh hca
 clear hca
 have hin:(cdM m k).getD p default∈cdM m k:=ZfU _ hp
 have hod:=HW.opd hk hin
 have hwt:=HW.wt k hk _ hin
 have hiv:=((HW.ok hk).i _ hin).1
 have HFn:=Zh (HW.fn k hk _ hin)
 have HIv:=Zh hiv
 obtain ⟨i,hi⟩:∃ i,i=(cdM m k).getD p default:=⟨_,rfl⟩
 rw [←hi] at o0 o1 o2 hod hwt HFn hyc hiv HIv
 obtain ⟨op,ia,ib⟩:=i
 dsimp only at o0 o1 o2
 have hop:=Zot hiv
 dsimp only at hop
 obtain ⟨v,hv⟩:∃ v,v=x.wt ⟨op,ia,ib⟩:=⟨_,rfl⟩
 rw [←hv] at hwt
 rw [←hv] at HFn
 have cf:=HW.cf
 have HV:=Zh hv
 have HOd:=Zh hod
 have HWk:=Zh HW
 have HM:=Zh hm
 have HH:=Zh H
 have HK:=Zh hk0
 have hpl:(p:Int) < (cdM m k).length:=by omega
 have hkl:(k:Int) < m.me.length:=by omega
 have l0:=Zac o0
 have l2:=Zac c2
 have lz:=Zac e6
 dsimp only at l2 lz
 obtain ⟨hw0,hw1⟩:=hwt
 obtain ⟨w2,hw2⟩:∃ w2,w2=(w.alloc (.cells #[.int .i64 p,.int .i64 yl,.int .i64 ye,.slice yf yfn yfc,.slice ys ysn ysc] 193)).alloc (.cells #[.int .i64 op,.int .i64 ia,.int .i64 ib] 78):=⟨_,rfl⟩
 have HB2:=Zh (show Below w.heap.size w w2 by rw [hw2];exact bE)
 have HX2:=Zh (show Blk w2 w.heap.size #[.int .i64 p,.int .i64 yl,.int .i64 ye,.slice yf yfn yfc,.slice ys ysn ysc] 193 by rw [hw2];exact (Blk.new w _ _).alloc _)
 have HI2:=Zh (show Blk w2 (w.heap.size+1) #[.int .i64 op,.int .i64 ia,.int .i64 ib] 78 by rw [hw2];exact Blk.new' (w:=w.alloc (.cells #[.int .i64 p,.int .i64 yl,.int .i64 ye,.slice yf yfn yfc,.slice ys ysn ysc] 193)) _ _ (by simp))
 have HW2:=Zh hw2
 have HOp:=Zh hop
 have HYc:=Zh hyc
 have HLc:=Zh hlc
 obtain ⟨rw_,hrw⟩:∃ r,r=Zom (gT x m T) (cdM m k) p ⟨p,yl,ye,yf,yfn,yfc,ys,ysn,ysc⟩:=⟨_,rfl⟩
 rw [←hrw] at HYc ⊢
 have HHi:=Zh hi
 clear HW hm H hk0 hv hod hin hiv he hw2 hi hop hyc hlc hrw
 go_enter Tryz.func223,Tryz.ntmps223
 go_upto_region 3 with fail
 rw [←HW2.out]
 have hCs:Cs [(⟨B,4,none⟩,.func (Fn.func g) #[] caps),(⟨w.heap.size+1,0,none⟩,.int .i64 op),(⟨w.heap.size+1,1,none⟩,.int .i64 ia),(⟨w.heap.size+1,2,none⟩,.int .i64 ib)] w2:=⟨Zn8.of HB2.out _ _ c4,HI2.out.cell 0 rfl,HI2.out.cell 1 rfl,HI2.out.cell 2 rfl,trivial⟩
 have HCs:=Zh hCs
 refine rO (Cs [(⟨B,4,none⟩,.func (Fn.func g) #[] caps),(⟨w.heap.size+1,0,none⟩,.int .i64 op),(⟨w.heap.size+1,1,none⟩,.int .i64 ia),(⟨w.heap.size+1,2,none⟩,.int .i64 ib)]) (oL [0,1,2,3,4,105,6]) hCs ?_
 clear hCs c2 c4 o0 o1 o2 e6 l0 l2 lz
 repeat refine pO ?_
 refine oO fun Kv hK=>?_
 go_simp
 refine (HFn.out _ (HK.out.trans (Zn8.of (HB2.out.drew)))).mono ?_
 rintro e w3 ⟨rfl,hb3⟩
 have HB3:=Zh (Zaf HB2.out.drew hb3)
 have HX3:=Zh (HX2.out.old (Zaf (Below.refl _ _).drew hb3))
 have HI3:=Zh (HI2.out.old (Zaf (Below.refl _ _).drew hb3))
 refine hK _ _ ⟨Cs.keeps (Zn8.of (Zaf (Below.refl _ _).drew hb3)) HCs.out,?_⟩
 clear hK Kv hb3
 repeat refine pO ?_
 refine Zd5 ?_
 have HN3:=Zh (HH.out.old HB3.out)
 have HK3:=Zh (HK.out.trans (Zn8.of HB3.out))
 have i0:=HI3.out.cell 0 (v:=.int .i64 op) rfl
 have i1:=HI3.out.cell 1 (v:=.int .i64 ia) rfl
 rcases HYc.out with ⟨hye,ho,hval⟩|⟨en,F,S,a1,b1,a2,b2,hye,hen,he35,ho,⟨hfn,hrF,hnF,hpa1,hbp1⟩,⟨hsn,hrS,hnS,hpa2,hbp2⟩,hval⟩
 ·subst hye
  have HO2:=Zh (And.intro ho hval)
  clear ho hval
  have x2:=HX3.out.cell 2 (v:=.int .i64 (-1)) rfl
  go_upto_region 8 with fail
  clear x2 i0
  by_cases h25:op=25
  ·subst h25
   as_aux_lemma=>
   have ha:=(HOd.out.o25 rfl).1
   have ha0:=HOd.out.a0 (by simp)
   dsimp only at ha ha0
   obtain ⟨j,rfl⟩:∃ j:Nat,ia=j:=⟨ia.toNat,by omega⟩
   have hjk:j<k:=by omega
   have HMj:=Zh (HM.out j hjk _ Q HN3.out HK3.out)
   go_wp2_with (first
    | (go_at_call 110;refine HMj.out.mono ?_;rintro e w4 ⟨rfl,hu4,hn4⟩;have HU4:=Zh ((Upd.of HB3.out).trans hu4);have HN4:=Zh hn4;clear hu4 hn4)
    | (go_at_call 160;refine (Zop _ _ _ ⟨by omega,by omega⟩ (HWk.out.bd j)).mono ?_;rintro e w5 ⟨rfl,hb5⟩))
   go_ret
   exact ZpC (by rw [HO2.out.2,Zpt rfl,HV.out];rfl) (HU4.out.bel hb5) ((HN4.out.old hb5).weak fun q hq=>hq.imp id (by omega))
  by_cases h26:op=26
  ·subst h26
   as_aux_lemma=>
   obtain ⟨ha,htg⟩:=HOd.out.o26 rfl
   have ha0:=HOd.out.a0 (by simp)
   dsimp only at ha ha0 htg
   obtain ⟨s,rfl⟩:∃ j:Nat,ia=j:=⟨ia.toNat,by omega⟩
   have c0:=HN3.out.wk.cell 0 (v:=.slice h.co m.cl.length h.cc) rfl
   have c1:=HN3.out.wk.cell 1 (v:=.slice h.so m.st.length h.sc) rfl
   have c2:=HN3.out.wk.cell 2 (v:=.slice h.eo m.me.length h.ec) rfl
   have c3:=HN3.out.wk.cell 3 (v:=.int .i64 m.sel) rfl
   have HTg:=Zh (Zir m h s w3.drew (HN3.out.md.old (Below.refl _ _).drew) HWk.out.hm ha)
   have HTt:=Zh htg
   have hln:=Nat.le_trans (ZdG m s) (Zin HWk.out.hm).1
   have HTn:=Zh (fun t (ht:t∈ZaN m s)=>ZfT ht)
   obtain ⟨tg,htq⟩:∃ tg,tg=ZaN m s:=⟨_,rfl⟩
   rw [←htq] at HTg HTt hln HTn
   have HTq:=Zh htq
   clear ha htg htq
   go_upto_region 12 with fail
   refine rO (Cs [(⟨B,0,none⟩,.slice h.co m.cl.length h.cc),(⟨B,1,none⟩,.slice h.so m.st.length h.sc),(⟨B,2,none⟩,.slice h.eo m.me.length h.ec),(⟨B,3,none⟩,.int .i64 m.sel),(⟨w.heap.size+1,1,none⟩,.int .i64 s)]) (oL [0,1,2,3,4,5,106,7,8,9,10,11]) ⟨c0,c1,c2,c3,i1,trivial⟩ ?_
   repeat refine pO ?_
   refine oO fun Kv hK=>?_
   go_simp
   refine HTg.out.mono ?_
   rintro e w4 ⟨⟨ao,cap,rfl,hr4⟩,hb4⟩
   have hb4':=Zaf (Below.refl w3.heap.size w3).drew hb4
   have HB4:=Zh (Zaf HB3.out hb4')
   have HR4:=Zh hr4
   have HN4:=Zh (HN3.out.old hb4')
   have HK4:=Zh (HK3.out.trans (Zn8.of hb4'))
   have hkk:=Zn8.of hb4'
   refine hK _ _ ⟨⟨hkk _ _ c0,hkk _ _ c1,hkk _ _ c2,hkk _ _ c3,hkk _ _ i1,trivial⟩,?_⟩
   clear hK Kv hb4 hb4' hr4 hkk c0 c1 c2 c3 i1
   repeat refine pO ?_
   refine Zd5 ?_
   have hTb:∀ l:List Int,Bd (ZmW (fun t=>T t.toNat) l):=fun l=>Zoh fun t _=>HWk.out.bd _
   have HTb:=Zh hTb
   clear hTb
   go_wp2_with fail
   go_loopw [11,73] (fun mo i wr=>∃ (j:Nat) (mv:Int),i=.int .i64 j∧mo=.int .i64 mv∧j≤tg.length∧Hid (mv=ZmW (fun t=>T t.toNat) (tg.take j))∧Hid (Upd M M w wr)∧Hid (Upd M M w4 wr)∧Hid (KnM T wr M fun j=>Q j∨j<k)) (fun _ i _=>tg.length-(intOf i).toNat)
   case atStart=>exact ⟨0,0,rfl,rfl,Nat.zero_le _,rfl,Upd.of HB4.out,Upd.refl _ _ _,HN4.out.kn.weak fun _ q=>.inl q⟩
   case round=>
    obtain ⟨j,mv,rfl,rfl,hj,HMv,HU,HU4,HKn⟩:=hrel
    by_cases hjl:j<tg.length
    ·obtain ⟨ad,rfl,t0⟩:=ZaB (Zn9 HR4.out (HN4.out.keeps HU4.out)) hjl
     have hmem:tg.getD j 0∈tg:=ZfU _ hjl
     have h1:=HTt.out _ hmem
     have h2:=HTn.out _ hmem
     have hsn:=ZpB (T:=fun t=>T t.toNat) hjl
     obtain ⟨tj,htj⟩:∃ t,t=tg.getD j 0:=⟨_,rfl⟩
     rw [←htj] at t0 h1 h2 hsn
     obtain ⟨t,rfl⟩:∃ d:Nat,tj=d:=⟨tj.toNat,by omega⟩
     have htk:t<k:=by omega
     have HMj:=Zh (HM.out t htk _ (fun j=>Q j∨j<k) (HN4.out.next HU4.out HKn.out) (HK4.out.trans (HN4.out.keeps HU4.out)))
     have HSn:=Zh hsn
     have hjl2:(j:Int) < tg.length:=by omega
     have hwj:IntKind.i64.wrap ((j:Int)+1)=((j+1:Nat):Int):=IntWalk.i64_in _ (by omega)
     clear hsn hmem h1 h2 htj
     go_wp2_with (go_at_call 110;refine HMj.out.mono ?_;rintro e w5 ⟨rfl,hu5,hn5⟩;have HU5:=Zh hu5;have HN5:=Zh hn5;clear hu5 hn5)
     exact ⟨⟨j+1,max mv (T t),rfl,rfl,hjl,by rw [HSn.out,←HMv.out];rfl,HU.out.trans HU5.out,HU4.out.trans HU5.out,HN5.out.weak fun q hq=>hq.elim id fun e=>.inr (by omega)⟩,by simp [intOf];omega⟩
    ·obtain rfl:j=tg.length:=by omega
     have hmv:=HMv.out
     rw [List.take_length] at hmv
     have hmb:=HTb.out tg
     rw [←hmv] at hmb
     have HMb:=Zh hmb
     have HMq:=Zh hmv
     have hj2:¬ (tg.length:Int) < tg.length:=by omega
     clear hmv hmb
     go_wp2_with (go_at_call 160;refine (Zop _ _ _ ⟨by omega,by omega⟩ HMb.out).mono ?_;rintro e w5 ⟨rfl,hb5⟩)
     go_ret
     exact ZpC (by rw [HO2.out.2,Zpu rfl,HV.out,HMq.out,HTq.out]) (HU.out.bel hb5) (HKn.out.old hb5)
  have hn1:¬ op=29:=by have:=HO2.out.1;unfold ZaR inI at this;simp at this;omega
  have hn2:¬ op=30:=by have:=HO2.out.1;unfold ZaR inI at this;simp at this;omega
  have hn3:¬ op=31:=by have:=HO2.out.1;unfold ZaR inI at this;simp at this;omega
  have hn4:¬ op=32:=by have:=HO2.out.1;unfold ZaR inI at this;simp at this;omega
  have hn5:¬ op=33:=by have:=HO2.out.1;unfold ZaR inI at this;simp at this;omega
  go_wp2
  go_ret
  exact ZpC (by rw [HO2.out.2,Zpv h25 h26,HV.out]) (.of HB3.out) (HN3.out.kn.weak fun _ q=>.inl q)
 ·subst hye hfn hsn
  obtain ⟨ca2,hca2,q0,q1,q2⟩:=ZaA (l:=cdM m k) (HN3.out.md.k k hk) hen
  rw [HCa.out] at hca2
  cases hca2
  have hin2:(cdM m k).getD en default∈cdM m k:=ZfU _ hen
  have HFn2:=Zh (HWk.out.fn k hk _ hin2)
  have hte:=HWk.out.te _ he35
  obtain ⟨i2,hi2⟩:∃ i,i=(cdM m k).getD en default:=⟨_,rfl⟩
  rw [←hi2] at q0 q1 q2 HFn2 hte
  rw [hte] at HFn2
  obtain ⟨op2,ia2,ib2⟩:=i2
  dsimp only at q0 q1 q2
  have hF:=HWk.out.bdW hk hnF.seg (acc:=0) (by unfold Bd;omega)
  have hS:=HWk.out.bdW hk hnS.seg (acc:=0) (by unfold Bd;omega)
  have HLf:=Zh (show ∀ w' Q',Zoc w' B M h m (.func (Fn.func g) #[] caps) x.sc T Q'→Zn8 W0 w'→Zn8 w w'→_ from fun w' Q' hH hK hk=>HLc.out a1 b1 hpa1 hbp1 w' Q' yf yfc F hH hK (Zn9 hrF hk) (hnF.keeps hk))
  have HLs:=Zh (show ∀ w' Q',Zoc w' B M h m (.func (Fn.func g) #[] caps) x.sc T Q'→Zn8 W0 w'→Zn8 w w'→_ from fun w' Q' hH hK hk=>HLc.out a2 b2 hpa2 hbp2 w' Q' ys ysc S hH hK (Zn9 hrS hk) (hnS.keeps hk))
  obtain ⟨f,hf⟩:∃ f,f=WA (gT x m T) (cdM m k) a1 b1 0:=⟨_,rfl⟩
  obtain ⟨s,hs⟩:∃ f,f=WA (gT x m T) (cdM m k) a2 b2 0:=⟨_,rfl⟩
  rw [←hf] at hF HLf hval
  rw [←hs] at hS HLs hval
  have hbf:=hF
  have hbs:=hS
  have hbt:Bd x.tl:=by have:=HWk.out.tl;unfold Bd;omega
  have hbv:Bd v:=by unfold Bd;omega
  have HVal:=Zh hval
  have hop5:29≤op∧op≤33:=by have:=ho;unfold ZaR inI at this;simpa using this
  have HOpp:=Zh hop5
  have HBd:=Zh (And.intro hbf (And.intro hbs (And.intro hbt hbv)))
  have hle2:(en:Int) < (cdM m k).length:=by omega
  clear hF hS hf hs hte hi2 hin2 he35 ho hrF hnF hrS hnS hval hop5 hbf hbs hbt hbv HYc
  have x2:=HX3.out.cell 2 (v:=.int .i64 en) rfl
  have hen0:(0:Int)≤en:=by omega
  have c43:=HN3.out.wk.cell 4 (v:=.func (Fn.func g) #[] caps) rfl
  go_upto_region 6 with fail
  have hC3:Cs [(⟨B,4,none⟩,.func (Fn.func g) #[] caps),(⟨w.heap.size,2,none⟩,.int .i64 en),((ca.add (en*3)),.int .i64 op2),(⟨(ca.add (en*3)).block,(ca.add (en*3)).off+1,none⟩,.int .i64 ia2),(⟨(ca.add (en*3)).block,(ca.add (en*3)).off+2,none⟩,.int .i64 ib2)] w3:=⟨c43,x2,q0,q1,q2,trivial⟩
  have HC3:=Zh hC3
  refine rO (Cs [(⟨B,4,none⟩,.func (Fn.func g) #[] caps),(⟨w.heap.size,2,none⟩,.int .i64 en),((ca.add (en*3)),.int .i64 op2),(⟨(ca.add (en*3)).block,(ca.add (en*3)).off+1,none⟩,.int .i64 ia2),(⟨(ca.add (en*3)).block,(ca.add (en*3)).off+2,none⟩,.int .i64 ib2)]) (oL [0,1,2,3,4,5,6,7,8,109,10]) hC3 ?_
  clear hC3 c43 x2 q0 q1 q2 i0 i1
  repeat refine pO ?_
  refine oO fun Kv hK=>?_
  go_simp
  refine (HFn2.out _ (HK3.out.trans (Zn8.of ((Below.refl _ _).drew)))).mono ?_
  rintro e w4 ⟨rfl,hb4⟩
  have hb34:=Zaf (Below.refl w3.heap.size w3).drew hb4
  have HB4:=Zh (Zaf HB3.out hb34)
  have HX4:=Zh (HX3.out.old hb34)
  have HI4:=Zh (HI3.out.old hb34)
  have HN4:=Zh (HN3.out.old hb34)
  have HK4:=Zh (HK3.out.trans (Zn8.of hb34))
  have HKw:=Zh (Zn8.of HB4.out)
  refine hK _ _ ⟨Cs.keeps (Zn8.of hb34) HC3.out,?_⟩
  clear hK Kv hb4 hb34
  repeat refine pO ?_
  refine Zd5 ?_
  have i0:=HI4.out.cell 0 (v:=.int .i64 op) rfl
  have i1:=HI4.out.cell 1 (v:=.int .i64 ia) rfl
  have x3:=HX4.out.cell 3 (v:=.slice yf F.length yfc) rfl
  have x4:=HX4.out.cell 4 (v:=.slice ys S.length ysc) rfl
  have c5:=HN4.out.wk.cell 5 (v:=.bool x.sc) rfl
  have hop5:=HOpp.out
  have HLp:=Zh (show op=30→0≤ia∧ia≤1000 from fun q=>ZpD HIv.out q)
  go_upto_region 8 with fail
  clear i0
  obtain ⟨hbf,hbs,hbt,hbv⟩:=HBd.out
  -- <ways>
  by_cases h29:op=29
  ·subst h29
   as_aux_lemma=>
   have HC4:=Zh (show Cs [(⟨w.heap.size,3,none⟩,.slice yf F.length yfc),(⟨w.heap.size,4,none⟩,.slice ys S.length ysc)] w4 from ⟨x3,x4,trivial⟩)
   go_upto_region 20 with fail
   refine rO (Cs [(⟨w.heap.size,3,none⟩,.slice yf F.length yfc),(⟨w.heap.size,4,none⟩,.slice ys S.length ysc)]) (oL [0,1,2,3,4,6,8,9,10,11,13,105,107,112,114,15,116,17]) HC4.out ?_
   have HD4:=Zh ((Upd.refl M M w4).drew)
   repeat refine pO ?_
   refine oO fun Kv hK=>?_
   go_simp
   refine (HLf.out _ _ (HN4.out.next HD4.out (HN4.out.kn.eq rfl)) (HK4.out.trans (HN4.out.keeps HD4.out)) (HKw.out.trans (HN4.out.keeps HD4.out))).mono ?_
   rintro e w5 ⟨rfl,hu5,hn5⟩
   have HD5:=Zh (HD4.out.trans hu5)
   have HQ5:=Zh hn5
   refine hK _ _ ⟨Cs.keeps (HN4.out.keeps HD5.out) HC4.out,?_⟩
   clear hK Kv hu5 hn5
   repeat refine pO ?_
   refine oO fun Kv hK=>?_
   go_simp
   refine (Zop f x.tl _ hbf hbt).mono ?_
   rintro e w6 ⟨rfl,hb6⟩
   have HD6:=Zh (HD5.out.bel hb6)
   have HQ6:=Zh (HQ5.out.old hb6)
   refine hK _ _ ⟨Cs.keeps (HN4.out.keeps HD6.out) HC4.out,?_⟩
   clear hK Kv hb6
   repeat refine pO ?_
   refine oO fun Kv hK=>?_
   go_simp
   refine (HLs.out _ _ (HN4.out.next HD6.out HQ6.out) (HK4.out.trans (HN4.out.keeps HD6.out)) (HKw.out.trans (HN4.out.keeps HD6.out))).mono ?_
   rintro e w7 ⟨rfl,hu7,hn7⟩
   have HD7:=Zh (HD6.out.trans hu7)
   have HQ7:=Zh hn7
   refine hK _ _ ⟨Cs.keeps (HN4.out.keeps HD7.out) HC4.out,?_⟩
   clear hK Kv hu7 hn7
   repeat refine pO ?_
   refine oO fun Kv hK=>?_
   go_simp
   refine (Zop s x.tl _ hbs hbt).mono ?_
   rintro e w8 ⟨rfl,hb8⟩
   have HD8:=Zh (HD7.out.bel hb8)
   have HQ8:=Zh (HQ7.out.old hb8)
   refine hK _ _ ⟨Cs.keeps (HN4.out.keeps HD8.out) HC4.out,?_⟩
   clear hK Kv hb8
   repeat refine pO ?_
   refine oO fun Kv hK=>?_
   go_simp
   refine (Zop v _ _ hbv (Zog (Zoe hbf hbt) (Zoe hbs hbt))).mono ?_
   rintro e w9 ⟨rfl,hb9⟩
   have HD9:=Zh (HD8.out.bel hb9)
   have HQ9:=Zh (HQ8.out.old hb9)
   refine hK _ _ ⟨Cs.keeps (HN4.out.keeps HD9.out) HC4.out,?_⟩
   clear hK Kv hb9
   repeat refine pO ?_
   refine Zd5 ?_
   go_wp2
   go_ret
   exact ZpC (by rw [HVal.out,Zpw rfl,←HV.out]) ((Upd.of HB4.out).trans HD9.out) (HQ9.out.weak fun q hq=>hq.elim id .inr)
  by_cases h30:op=30
  ·subst h30
   as_aux_lemma=>
   have HC4:=Zh (show Cs [(⟨w.heap.size,3,none⟩,.slice yf F.length yfc),(⟨w.heap.size+1,1,none⟩,.int .i64 ia)] w4 from ⟨x3,i1,trivial⟩)
   have hia:=HLp.out rfl
   go_upto_region 22 with fail
   refine rO (Cs [(⟨w.heap.size,3,none⟩,.slice yf F.length yfc),(⟨w.heap.size+1,1,none⟩,.int .i64 ia)]) (oL [0,1,2,3,4,5,6,8,107,109,110,111,12]) HC4.out ?_
   have HD4:=Zh ((Upd.refl M M w4).drew)
   repeat refine pO ?_
   refine oO fun Kv hK=>?_
   go_simp
   refine (HLf.out _ _ (HN4.out.next HD4.out (HN4.out.kn.eq rfl)) (HK4.out.trans (HN4.out.keeps HD4.out)) (HKw.out.trans (HN4.out.keeps HD4.out))).mono ?_
   rintro e w5 ⟨rfl,hu5,hn5⟩
   have HD5:=Zh (HD4.out.trans hu5)
   have HQ5:=Zh hn5
   refine hK _ _ ⟨Cs.keeps (HN4.out.keeps HD5.out) HC4.out,?_⟩
   clear hK Kv hu5 hn5
   repeat refine pO ?_
   refine oO fun Kv hK=>?_
   go_simp
   refine (Zop f x.tl _ hbf hbt).mono ?_
   rintro e w6 ⟨rfl,hb6⟩
   have HD6:=Zh (HD5.out.bel hb6)
   have HQ6:=Zh (HQ5.out.old hb6)
   refine hK _ _ ⟨Cs.keeps (HN4.out.keeps HD6.out) HC4.out,?_⟩
   clear hK Kv hb6
   repeat refine pO ?_
   refine oO fun Kv hK=>?_
   go_simp
   refine (Zoq ia _ _ hia (Zoe hbf hbt)).mono ?_
   rintro e w7 ⟨rfl,hb7⟩
   have HD7:=Zh (HD6.out.bel hb7)
   have HQ7:=Zh (HQ6.out.old hb7)
   refine hK _ _ ⟨Cs.keeps (HN4.out.keeps HD7.out) HC4.out,?_⟩
   clear hK Kv hb7
   repeat refine pO ?_
   refine oO fun Kv hK=>?_
   go_simp
   refine (Zop v _ _ hbv (Zof hia.1 (Zoe hbf hbt))).mono ?_
   rintro e w8 ⟨rfl,hb8⟩
   have HD8:=Zh (HD7.out.bel hb8)
   have HQ8:=Zh (HQ7.out.old hb8)
   refine hK _ _ ⟨Cs.keeps (HN4.out.keeps HD8.out) HC4.out,?_⟩
   clear hK Kv hb8
   repeat refine pO ?_
   refine Zd5 ?_
   go_wp2
   go_ret
   exact ZpC (by rw [HVal.out,Zpx rfl,←HV.out]) ((Upd.of HB4.out).trans HD8.out) (HQ8.out.weak fun q hq=>hq)
  by_cases h31:op=31
  ·subst h31
   as_aux_lemma=>
   go_wp2_with (first
    | (go_at_call 161;refine (HLf.out _ _ HN4.out HK4.out HKw.out).mono ?_;rintro e w5 ⟨rfl,hu5,hn5⟩;have HU5:=Zh ((Upd.of HB4.out).trans hu5);have HQ5:=Zh hn5;clear hu5 hn5)
    | (go_at_call 160;first|(refine (Zop f x.tl _ hbf hbt).mono ?_;rintro e w6 ⟨rfl,hb6⟩;have HB6:=Zh hb6;clear hb6)|(refine (Zop v _ _ hbv (Zoe hbf hbt)).mono ?_;rintro e w7 ⟨rfl,hb7⟩)))
   go_ret
   exact ZpC (by rw [HVal.out,Zpy (.inl rfl),←HV.out]) ((HU5.out.bel HB6.out).bel hb7) ((HQ5.out.old HB6.out).old hb7)
  by_cases h32:op=32
  ·subst h32
   as_aux_lemma=>
   rcases hsc:x.sc with _|_
   ·rw [hsc] at c5
    have HSc:=Zh hsc
    clear hsc
    go_wp2_with (first
     | (go_at_call 161;refine (HLf.out _ _ HN4.out HK4.out HKw.out).mono ?_;rintro e w5 ⟨rfl,hu5,hn5⟩;have HU5:=Zh ((Upd.of HB4.out).trans hu5);have HQ5:=Zh hn5;clear hu5 hn5)
     | (go_at_call 160;first|(refine (Zop f x.tl _ hbf hbt).mono ?_;rintro e w6 ⟨rfl,hb6⟩;have HB6:=Zh hb6;clear hb6)|(refine (Zop v _ _ hbv (Zoe hbf hbt)).mono ?_;rintro e w7 ⟨rfl,hb7⟩)))
    go_ret
    exact ZpC (by rw [HVal.out,Zpy (.inr ⟨rfl,HSc.out⟩),←HV.out]) ((HU5.out.bel HB6.out).bel hb7) ((HQ5.out.old HB6.out).old hb7)
   ·rw [hsc] at c5
    have HSc:=Zh hsc
    clear hsc
    go_wp2
    go_ret
    exact ZpC (by rw [HVal.out,Zpz rfl HSc.out,←HV.out]) (.of HB4.out) (HN4.out.kn.weak fun _ q=>.inl q)
  obtain rfl:op=33:=by have:=hop5;omega
  have HC4:=Zh (show Cs [(⟨w.heap.size,3,none⟩,.slice yf F.length yfc),(⟨w.heap.size,4,none⟩,.slice ys S.length ysc)] w4 from ⟨x3,x4,trivial⟩)
  go_upto_region 30 with fail
  refine rO (Cs [(⟨w.heap.size,3,none⟩,.slice yf F.length yfc),(⟨w.heap.size,4,none⟩,.slice ys S.length ysc)]) (oL [0,1,2,3,4,6,8,9,10,11,105,107,112,113,114,15]) HC4.out ?_
  have HD4:=Zh ((Upd.refl M M w4).drew)
  repeat refine pO ?_
  refine oO fun Kv hK=>?_
  go_simp
  refine (HLf.out _ _ (HN4.out.next HD4.out (HN4.out.kn.eq rfl)) (HK4.out.trans (HN4.out.keeps HD4.out)) (HKw.out.trans (HN4.out.keeps HD4.out))).mono ?_
  rintro e w5 ⟨rfl,hu5,hn5⟩
  have HD5:=Zh (HD4.out.trans hu5)
  have HQ5:=Zh hn5
  refine hK _ _ ⟨Cs.keeps (HN4.out.keeps HD5.out) HC4.out,?_⟩
  clear hK Kv hu5 hn5
  repeat refine pO ?_
  refine oO fun Kv hK=>?_
  go_simp
  refine (Zop f x.tl _ hbf hbt).mono ?_
  rintro e w6 ⟨rfl,hb6⟩
  have HD6:=Zh (HD5.out.bel hb6)
  have HQ6:=Zh (HQ5.out.old hb6)
  refine hK _ _ ⟨Cs.keeps (HN4.out.keeps HD6.out) HC4.out,?_⟩
  clear hK Kv hb6
  repeat refine pO ?_
  refine oO fun Kv hK=>?_
  go_simp
  refine (HLs.out _ _ (HN4.out.next HD6.out HQ6.out) (HK4.out.trans (HN4.out.keeps HD6.out)) (HKw.out.trans (HN4.out.keeps HD6.out))).mono ?_
  rintro e w7 ⟨rfl,hu7,hn7⟩
  have HD7:=Zh (HD6.out.trans hu7)
  have HQ7:=Zh hn7
  refine hK _ _ ⟨Cs.keeps (HN4.out.keeps HD7.out) HC4.out,?_⟩
  clear hK Kv hu7 hn7
  repeat refine pO ?_
  refine oO fun Kv hK=>?_
  go_simp
  refine (Zop _ s _ (Zoe hbf hbt) hbs).mono ?_
  rintro e w8 ⟨rfl,hb8⟩
  have HD8:=Zh (HD7.out.bel hb8)
  have HQ8:=Zh (HQ7.out.old hb8)
  refine hK _ _ ⟨Cs.keeps (HN4.out.keeps HD8.out) HC4.out,?_⟩
  clear hK Kv hb8
  repeat refine pO ?_
  refine oO fun Kv hK=>?_
  go_simp
  refine (Zop v _ _ hbv (Zoe (Zoe hbf hbt) hbs)).mono ?_
  rintro e w9 ⟨rfl,hb9⟩
  have HD9:=Zh (HD8.out.bel hb9)
  have HQ9:=Zh (HQ8.out.old hb9)
  refine hK _ _ ⟨Cs.keeps (HN4.out.keeps HD9.out) HC4.out,?_⟩
  clear hK Kv hb9
  repeat refine pO ?_
  refine Zd5 ?_
  go_wp2
  go_ret
  exact ZpC (by rw [HVal.out,ZpA rfl,←HV.out]) ((Upd.of HB4.out).trans HD9.out) (HQ9.out.weak fun q hq=>hq.elim id .inr)
  -- </ways>
end
end
section
open Go.RowKit
section
variable {x:Ms}{B M:Nat}{h:Hd}{m:Md}{T:Nat→Int}{g:Nat}{caps:Array Value}{W0:World}{k:Nat}
theorem ZpG (HW:Wkr x m T g caps W0) (hk:k<m.me.length) (hm:∀ j,j<k→Zow x B M h m T g caps W0 j):∀ (n a b:Nat),b-a≤n→Zox x B M h m T g caps W0 k a b
 | 0,a,b,hn=>Zoz HW hk fun p y p' h1 h2 h3=>by omega
 | n+1,a,b,hn=>Zoz HW hk fun p y p' h1 h2 h3=>ZpF HW hk hm fun a' b' h4 h5=>ZpG HW hk hm n a' b' (by omega)
theorem ZpH (HW:Wkr x m T g caps W0):∀ (n k:Nat),k<n→k<m.me.length→Zow x B M h m T g caps W0 k
 | 0,k,hn,_=>by omega
 | n+1,k,hn,hk=>ZoE HW hk (ZpG HW hk (fun j hj=>ZpH HW n j (by omega) (by omega)) (cdM m k).length 0 (cdM m k).length (by omega))
end
theorem ZpI {i:In3} (h:ZaQ false i=true):0≤ZmU i∧ZmU i≤1000:=by
 have h1:=Zos i.op.toNat
 unfold ZmU
 split
 ·rename_i ho
  obtain ⟨op,a,b⟩:=i
  dsimp only at ho ⊢
  have:0≤a∧a≤48:=by
   exact j4
  dsimp only at h1
  omega
 ·omega
theorem ZpJ (i:In3) (h:i.op=35):ZmU i=1:=by
 unfold ZmU
 rw [h,if_neg (by omega)]
 rfl
theorem ZpK {i:In3} (h:ZaQ false i=true) (ho:i.op=15∨i.op=16):0≤i.a∧i.a≤1000:=by
 obtain ⟨op,a,b⟩:=i
 dsimp only at ho ⊢
 exact j4
theorem ZpL {m:Md}{k:Nat} (h:m.me.length≤k):cdM m k=[]:=by
 unfold cdM
 rw [List.getD_eq_getElem?_getD,List.getElem?_eq_none h]
 rfl
theorem ZpM (G:(Int→Int)→Wg) (m:Md) (k:Nat):Zm0 G m k=WA (G fun t=>(ZmZ G m k).getD t.toNat 0) (cdM m k) 0 (cdM m k).length 0:=by
 unfold Zm0
 conv=>lhs;unfold ZmZ
 rw [List.getD_eq_getElem?_getD,List.getElem?_append_right (by rw [Zm1];omega),Zm1,Nat.sub_self]
 rfl
theorem ZpN {m:Md} (hm:Za1 m=true) {x:Ms} (hw:∀ k,k<m.me.length→∀ i∈cdM m k,0≤x.wt i∧x.wt i≤1000) (ht:0≤x.tl∧x.tl≤1000):∀ (n k:Nat),k<n→Bd (Zm0 (gW x m) m k)
 | 0,k,hn=>by omega
 |n+1,k,hn=>by
  have h0:Bd 0:=by unfold Bd;omega
  rw [ZpM]
  by_cases hk:k<m.me.length
  ·refine Zok (hw k hk) ht (fun t=>?_) (fun i hi=>(ZfS ((ZfN hm hk).i i hi).1 ((ZfN hm hk).i i hi).2).a0) (Zmq (ZfN hm hk).n) 0 h0
   by_cases hj:t.toNat<k
   ·rw [Zm2 _ _ hj]
    exact ZpN hm hw ht n _ (by omega)
   ·rw [List.getD_eq_getElem?_getD,List.getElem?_eq_none (by rw [Zm1];omega)]
    exact h0
  ·rw [ZpL (by omega)]
   show Bd (WA _ _ 0 0 0)
   rw [Zmv]
   exact h0
theorem ZpO {m:Md} (hm:Za1 m=true) (x:Ms) {k:Nat} (hk:k<m.me.length):Zm0 (gW x m) m k=WA (gT x m (Zm0 (gW x m) m)) (cdM m k) 0 (cdM m k).length 0:=by
 refine Zm4 (Zmq (ZfN hm hk).n) (fun _ _=>rfl) (fun _ _=>rfl) (fun i hi=>?_)
 have ho:=ZfS ((ZfN hm hk).i i hi).1 ((ZfN hm hk).i i hi).2
 show (if i.op=25 then ZmS (x.wt i) _ else if i.op=26 then ZmS (x.wt i) _ else _)=if i.op=25 then ZmS (x.wt i) _ else if i.op=26 then ZmS (x.wt i) _ else _
 by_cases h25:i.op=25
 ·rw [if_pos h25,if_pos h25]
  have:=(ho.o25 h25).1
  have:=ho.a0 (by omega)
  dsimp only
  rw [Zm2 _ _ (by omega)]
 ·rw [if_neg h25,if_neg h25]
  by_cases h26:i.op=26
  ·rw [if_pos h26,if_pos h26]
   congr 1
   refine Zm5 fun t ht=>?_
   have:=(ho.o26 h26).2 t ht
   have:=ZfT ht
   rw [Zm2 _ _ (by omega)]
  ·rw [if_neg h26,if_neg h26]
theorem ZpP (i:In3) (w:World) (hv:ZaQ false i=true):Calls Tryz.prog 158 #[.agg #[.int .i64 i.op,.int .i64 i.a,.int .i64 i.b]] w (Ret w (.int .i64 (ZmU i))):=by
 have HC:=Zh (fun w'=>Zou i w' hv (ZpK hv))
 clear hv
 obtain ⟨op,a,b⟩:=i
 dsimp only at HC ⊢
 go_enter Tryz.func158,Tryz.ntmps158
 go_wp2_with (go_at_call 220;refine (HC.out _).mono ?_;rintro e w1 ⟨rfl,hb1⟩)
 go_ret
 exact ZcT rfl bE
theorem KnM.made (T:Nat→Int) (w:World):KnM T (w.alloc (.map #[] 0)) w.heap.size fun _=>False:=
 ⟨[],.map [],List.nodup_nil,fun k hk=>by simp at hk,World.ownsMap_made _ _ _ _,Maps.isMap_empty,fun k=>by simp [Maps.has],fun k hk=>by simp at hk⟩
def ZpQ:Value:=.func (Fn.func 158) #[] #[]
def ZpR (w:World) (h:Hd) (m:Md):Ending→World→Prop:=fun e w'=>∃ B M,e=.returned (.pointer (some ⟨B,0,none⟩))∧Below w.heap.size w w'∧w.heap.size≤M∧∀ T,Zoc w' B M h m ZpQ false T fun _=>False
theorem ZpS (m:Md) (h:Hd) (w:World) (H:Zay w h m):Calls Tryz.prog 101 #[.agg #[.slice h.co m.cl.length h.cc,.slice h.so m.st.length h.sc,.slice h.eo m.me.length h.ec,.int .i64 m.sel]] w (ZpR w h m):=by
 have hmm:=@run_makeMap Tryz.prog
 have HH:=Zh H
 clear H
 go_enter Tryz.func101,Tryz.ntmps101
 go_wp2
 go_ret
 refine ⟨w.heap.size+1+1,w.heap.size+1,rfl,by exact bE,by omega,fun T=>⟨Blk.new' _ _ (by simp),HH.out.old bE,?_⟩⟩
 have:=KnM.made T (w.alloc (.cells #[.slice h.co m.cl.length h.cc,.slice h.so m.st.length h.sc,.slice h.eo m.me.length h.ec,.int .i64 m.sel] 26))
 rw [bls] at this
 exact this.old bE
def ZpT (m:Md) (k:Int):Bool:=decide ((Zmg m).2.2=0)&&inV m.me.length k
theorem ZpU {m:Md}{k:Int} (h:ZpT m k=true):Za1 m=true∧0≤k∧k<m.me.length:=by
 unfold ZpT inV at h
 simp only [Bool.and_eq_true,decide_eq_true_eq] at h
 refine ⟨?_,h.2⟩
 have:=h.1
 unfold Zmg at this
 split at this
 ·assumption
 ·simp at this
theorem ZpV (m:Md) (h:Hd) (k:Int) (w:World) (H:Zay w h m):Calls Tryz.prog 100 #[.agg #[.slice h.co m.cl.length h.cc,.slice h.so m.st.length h.sc,.slice h.eo m.me.length h.ec,.int .i64 m.sel],.int .i64 k] w (Ret w (.int .i64 (if ZpT m k=true then 0 else 1))):=by
 have HV:=Zh (fun w' hb=>Zmj w' h m (H.old (w':=w') hb))
 obtain ⟨q,hq⟩:∃ q:Int,q=if ZpT m k=true then 0 else 1:=⟨_,rfl⟩
 rw [←hq]
 obtain ⟨⟨z0,z1,z2⟩,hz⟩:∃ z,z=Zmg m:=⟨_,rfl⟩
 unfold ZpT inV at hq
 rw [←hz] at HV hq
 have HQ:=Zh hq
 have hb0:Below w.heap.size w (w.alloc (.cells #[.slice h.co m.cl.length h.cc,.slice h.so m.st.length h.sc,.slice h.eo m.me.length h.ec,.int .i64 m.sel] 26)):=by exact bE
 have HB0:=Zh hb0
 have HX0:=Zh (Blk.new w #[.slice h.co m.cl.length h.cc,.slice h.so m.st.length h.sc,.slice h.eo m.me.length h.ec,.int .i64 m.sel] 26)
 clear H hz hq hb0
 go_enter Tryz.func100,Tryz.ntmps100
 go_wp2_with (go_at_call 82;refine (HV.out _ HB0.out).mono ?_;rintro e w1 ⟨rfl,hb1⟩;have x2:=(HX0.out.old hb1).cell 2 (v:=.slice h.eo m.me.length h.ec) rfl;have HB1:=Zh (Zaf HB0.out hb1);clear hb1)
 all_goals
  go_ret
  refine ZcT (ZcY ?_) HB1.out
  rw [HQ.out]
  grind
def ZpW (m:Md) (k:Int):Int × Int:=if ZpT m k=true then (if 1000000000<Zm0 (gW ZmV m) m k.toNat then (0,6) else (Zm0 (gW ZmV m) m k.toNat,0)) else (0,1)
theorem ZpX {m:Md} (hm:Za1 m=true) (W0:World):Wkr ZmV m (Zm0 (gW ZmV m) m) 158 #[] W0 where
 hm:=hm
 wt k hk i hi:=ZpI ((ZfN hm hk).i i hi).1
 tl:=by decide
 te:=ZpJ
 bd k:=ZpN hm (x:=ZmV) (fun k hk i hi=>ZpI ((ZfN hm hk).i i hi).1) (by decide) (k+1) k (by omega)
 eq k hk:=ZpO hm ZmV hk
 cf A W:=by kernel_rfl
 fn k hk i hi w' _:=by
  have:=ZpP i w' ((ZfN hm hk).i i hi).1
  rw [Array.append_empty]
  exact this
theorem ZpY (m:Md) (h:Hd) (k:Int) (w:World) (H:Zay w h m):Calls Tryz.prog 54 #[.agg #[.slice h.co m.cl.length h.cc,.slice h.so m.st.length h.sc,.slice h.eo m.me.length h.ec,.int .i64 m.sel],.int .i64 k] w (Zhf w (.int .i64 (ZpW m k).1) (.int .i64 (ZpW m k).2)):=by
 have hb0:Below w.heap.size w (w.alloc (.cells #[.slice h.co m.cl.length h.cc,.slice h.so m.st.length h.sc,.slice h.eo m.me.length h.ec,.int .i64 m.sel] 26)):=by exact bE
 have HA:=Zh (ZpV m h k _ (H.old hb0))
 obtain ⟨r1,hr1⟩:∃ r,r=(ZpW m k).1:=⟨_,rfl⟩
 obtain ⟨r2,hr2⟩:∃ r,r=(ZpW m k).2:=⟨_,rfl⟩
 rw [←hr1,←hr2]
 have HB0:=Zh hb0
 have HX0:=Zh (Blk.new w #[.slice h.co m.cl.length h.cc,.slice h.so m.st.length h.sc,.slice h.eo m.me.length h.ec,.int .i64 m.sel] 26)
 have HH:=Zh H
 rcases hq:ZpT m k with _|_
 ·rw [hq] at HA
  have e1:r1=0:=by rw [hr1];unfold ZpW;rw [hq];rfl
  have e2:r2=1:=by rw [hr2];unfold ZpW;rw [hq];rfl
  have HE:=Zh (And.intro e1 e2)
  clear hb0 H hr1 hr2 hq e1 e2
  go_enter Tryz.func54,Tryz.ntmps54
  go_wp2_with (go_at_call 100;refine HA.out.mono ?_;rintro e w1 ⟨rfl,hb1⟩)
  exact j9
 ·rw [hq] at HA
  obtain ⟨hm,hk0,hk1⟩:=ZpU hq
  obtain ⟨k,rfl⟩:∃ d:Nat,k=d:=⟨k.toNat,by omega⟩
  have hkl:k<m.me.length:=by omega
  obtain ⟨v,hv⟩:∃ v,v=Zm0 (gW ZmV m) m k:=⟨_,rfl⟩
  have e1:r1=if 1000000000<v then 0 else v:=by rw [hr1,hv];unfold ZpW;rw [hq,if_pos rfl,Int.toNat_natCast];split<;>rfl
  have e2:r2=if 1000000000<v then 6 else 0:=by rw [hr2,hv];unfold ZpW;rw [hq,if_pos rfl,Int.toNat_natCast];split<;>rfl
  have HE:=Zh (And.intro e1 e2)
  have HM:=Zh (fun B M W0=>ZpH (B:=B) (M:=M) (h:=h) (ZpX hm W0) (k+1) k (by omega) hkl)
  have HV:=Zh hv
  clear hb0 H hr1 hr2 hq e1 e2 hv hm
  go_enter Tryz.func54,Tryz.ntmps54
  go_wp2_with (first
   | (go_at_call 100;refine HA.out.mono ?_;rintro e w1 ⟨rfl,hb1⟩;have HB1:=Zh (Zaf HB0.out hb1);have HX1:=Zh (HX0.out.old hb1);have x0:=HX1.out.cell 0 (v:=.slice h.co m.cl.length h.cc) rfl;have x1:=HX1.out.cell 1 (v:=.slice h.so m.st.length h.sc) rfl;have x2:=HX1.out.cell 2 (v:=.slice h.eo m.me.length h.ec) rfl;have x3:=HX1.out.cell 3 (v:=.int .i64 m.sel) rfl;clear hb1)
   | (go_at_call 101;refine (ZpS m h _ (HH.out.old HB1.out)).mono ?_;rintro e w2 ⟨B,M,rfl,hb2,hM2,hW2⟩;have HB2:=Zh (Zaf HB1.out hb2);have HM2:=Zh (Nat.le_trans HB1.out.size hM2);clear hM2;have HW2:=Zh hW2;clear hb2 hW2)
   | (go_at_call 110;refine (HM.out B M w2 _ _ (HW2.out _) (Zn8.refl _)).mono ?_;rintro e w3 ⟨rfl,hu3,hn3⟩;rw [←HV.out];have HU3:=Zh hu3;clear hu3 hn3)
   | (go_at_call 105;refine (Zor _ _).mono ?_;rintro e w4 ⟨rfl,hb4⟩;rw [←HE.out.1,←HE.out.2]))
  go_ret2
  exact Zhg rfl rfl (Zaf (HU3.out.below HB2.out (Nat.le_refl _) HM2.out HM2.out) hb4)
end
section
open Go.RowKit
def Bl (n:Int):Prop:=-1≤n∧n≤1000000001
theorem Bl.of {n:Int} (h:Bd n):Bl n:=by unfold Bd at h;unfold Bl;omega
theorem ZpZ {a b:Int} (ha:Bl a) (hb:Bl b):Bl (ZmX a b):=by unfold Bl ZmX ZmS ZmR at *;split<;>omega
theorem Zp0 {a b:Int} (ha:Bl a) (hb:Bl b):Bl (ZmY a b):=by
 unfold Bl ZmY at *
 repeat' split
 all_goals omega
end
end Go.Proofs.YtcfjblcgceednaaGreat
