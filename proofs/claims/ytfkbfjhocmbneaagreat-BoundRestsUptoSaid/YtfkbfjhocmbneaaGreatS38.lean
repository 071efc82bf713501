/- BoundRests: the document's Rest. -/
import Derived.Test.YtfkbfjhocmbneaaGreatS36
import Derived.Test.YtfkbfjhocmbneaaGreatS34
set_option linter.all false
set_option linter.unusedVariables false
set_option linter.unusedSimpArgs false
set_option maxRecDepth 100000
set_option maxHeartbeats 16000000
namespace Go.Proofs.YtfkbfjhocmbneaaGreat
theorem kC1{p:Prop}(h:p:=by
 have HV2:=Zh (show ∀ M,(cdM m k).length<M+(en+1)→Zmu sv (Zmu (Zmu (Zmu u 1) (0)) (ZqZ (zK m k) (cdM m k) M (en+1)))=v from fun M hM=>by have hv:=HV.out ((cdM m k).length+1+1) (by omega);rw [Zrs HIb.out,hxx,hie,←hu] at hv;rwa [HRr.out M _ (by have:=HQe.out;omega) hM,←HRr.out ((cdM m k).length+1) _ (by have:=HQe.out;omega) (by omega)])
 clear hxx hie hsgp
 obtain ⟨y1,hy1⟩:∃ y,y=Zmu u 1:=⟨_,rfl⟩
 obtain ⟨y2,hy2⟩:∃ y,y=Zmu sv y1:=⟨_,rfl⟩
 have hb1:Bd y1:=by rw [hy1];exact ZnB hub (by unfold Bd;omega)
 have hb2:Bd y2:=by rw [hy2];exact ZnB HS.out hb1
 have HA1:=Zh (fun w'=>ZpW u 1 w' (by unfold Bd at hub;omega) (by omega))
 rw [←hy1] at HA1
 have HA2:=Zh (fun w'=>ZpW sv y1 w' (by have:=HS.out;unfold Bd at this;omega) (by unfold Bd at hb1;omega))
 rw [←hy2] at HA2
 have HY:=Zh (And.intro hub (And.intro hub (And.intro hy1 (And.intro hy2 hb2))))
 clear hub hy1 hy2 hu hb1 hb2
 go_wp2_with (first
  | (go_at_call 21;refine HO1.out.mono ?_;rintro e w3 ⟨rfl,hb3⟩;have HB3:=Zh (Zaf HBr.out hb3);have o0:=(hb3.cell (Zac o0)).trans o0;have o1:=(hb3.cell (Zac o1)).trans o1;clear hb3)
  | (go_at_call 47;refine (HMt.out _ (Zaf HB2.out HB3.out)).mono ?_;rintro e w4 ⟨rfl,hb4⟩;have HB4:=Zh (Zaf HB3.out hb4);have o0:=(hb4.cell (Zac o0)).trans o0;have o1:=(hb4.cell (Zac o1)).trans o1;clear hb4)
  | (go_at_call 56;refine (HPt.out _ (HR2.out.old HB4.out)).mono ?_;rintro e w5 ⟨rfl,hb5⟩;have HB5:=Zh (Zaf HB4.out hb5);have o0:=(hb5.cell (Zac o0)).trans o0;have o1:=(hb5.cell (Zac o1)).trans o1;clear hb5)
  | (go_at_call 66;refine (HA2.out _).mono ?_;rintro e w7 ⟨rfl,hb7⟩;have HB7:=Zh (Zaf HB6.out hb7);have o0:=(hb7.cell (Zac o0)).trans o0;have o1:=(hb7.cell (Zac o1)).trans o1;clear hb7)
  | (go_at_call 66;refine (HA1.out _).mono ?_;rintro e w6 ⟨rfl,hb6⟩;have HB6:=Zh (Zaf HB5.out hb6);have o0:=(hb6.cell (Zac o0)).trans o0;have o1:=(hb6.cell (Zac o1)).trans o1;clear hb6))
 all_goals exact ⟨⟨en+1,y2,rfl,rfl,(show en+1≤_ by have:=HQe.out;omega),HY.out.2.2.2.2,fun M hM=>by rw [HY.out.2.2.2.1,HY.out.2.2.1];exact Zru HS.out HY.out.1 (HRb.out M _ (by have:=HQe.out;omega) hM) (HV2.out M hM),HB7.out⟩,by have:=HQe.out;simp [intOf];omega⟩):p:=h
theorem kC4{p:Prop}(h:p:=by
 have hub:Bd u:=by rw [hu];exact HZb.out _ _ hsgp
 have HPt:=Zh (show ∀ w',RT w' B g h m _ _ _→_ from fun w' hR=>by have:=HP.out B g w' q _ hsgp hR;rwa [←hu] at this)
 have hxx:ZqX (zK m k) (cdM m k) o ((n:Int) < 0∨q≤(n:Int).toNat)=0:=by
  exact kC8
 exact kC1):p:=h
theorem kC8{p:Prop}(h:p:=by
 unfold ZqX
 rw [HIop.out,HIia.out,Zmd HMm.out]
 dsimp only
 rw [if_neg h30,if_neg (by omega)]):p:=h
section
open Go.RowKit
abbrev zK (m:Md) (k:Nat):Wg:=gW Zmx m fun t=>(ZmC (gW Zmx m) m k).getD t.toNat 0
theorem Zro {m:Md} (hm:Za1 m=true) {k:Nat} (hk:k<m.me.length) {a b:Nat} (hs:Seg (cdM m k) a b):WA (zK m k) (cdM m k) a b 0=WA (gH m) (cdM m k) a b 0:=by
 refine ZmG (g:=zK m k) (g':=gH m) hs (funext fun _=>funext fun _=>rfl) (funext fun _=>funext fun _=>funext fun _=>rfl) (fun i hi=>?_) 0
 have ho:=ZfS ((ZfN hm hk).i i hi).1 ((ZfN hm hk).i i hi).2
 show (if i.op=25 then Zmu (Zmx.wt i) _ else if i.op=26 then Zmu (Zmx.wt i) _ else _)=if i.op=25 then Zmu (Zmx.wt i) _ else if i.op=26 then Zmu (Zmx.wt i) _ else _
 by_cases h25:i.op=25
 ·rw [if_pos h25,if_pos h25]
  have:=(ho.o25 h25).1
  have:=ho.a0 (by omega)
  dsimp only
  rw [ZmF _ _ (by omega)]
 ·rw [if_neg h25,if_neg h25]
  by_cases h26:i.op=26
  ·rw [if_pos h26,if_pos h26]
   congr 1
   refine ZmI fun t ht=>?_
   have:=(ho.o26 h26).2 t ht
   have:=ZfT ht
   rw [ZmF _ _ (by omega)]
  ·rw [if_neg h26,if_neg h26]
def Zrp (m:Md) (k p:Nat):Int:=rsV (gH m) (cdM m k) p ((cdM m k).length+1) 0 (cdM m k).length
def Zrq (m:Md) (k p:Int):Int × Int:=if ZoO m k=true∧0≤p∧p≤(cdM m k.toNat).length then (if 1000000000<Zrp m k.toNat p.toNat then (0,6) else (Zrp m k.toNat p.toNat,0)) else (0,1)
theorem Zrr {m:Md} (hm:Za1 m=true) {k:Nat} (hk:k<m.me.length) {p:Nat} (hp:p≤(cdM m k).length) {N:Nat} (hN:(cdM m k).length<N+p):ZqZ (zK m k) (cdM m k) N p=Zrp m k p:=by
 have hl:=Zq8 (z:=zK m k) (c:=cdM m k) (fun a b hs=>by rw [Zro hm hk hs];exact ZqR hm hk hs (by unfold Bd;omega)) (Zmg (ZfN hm hk).n) (Nat.lt_succ_self _) hp hN
 rw [hl]
 exact Zre (fun a b hs=>Zro hm hk hs) p _ 0 _ (Zmg (ZfN hm hk).n)
theorem Zrs {z:Wg}{c:List In3}{a b q o en:Nat}{alt:Int} (h:Zrb c a b q o alt en) (M:Nat):ZqZ z c (M+1) q=Zmu (Zmu (Zmu (WA z c q (ZqY c o q) 0) 1) (ZqX z c o (alt<0∨q≤alt.toNat))) (ZqZ z c M (en+1)):=by
 show (if arV c q q<0 then _ else _)=_
 rw [h.ar,if_neg (by omega),Int.toNat_natCast,Zmd h.2.2.2.2.1]
theorem Zrt {sv u x r v:Int} (h1:Bd sv) (h2:Bd u) (h3:Bd x) (h4:Bd r) (h:Zmu sv (Zmu (Zmu (Zmu u 1) x) r)=v):Zmu (Zmu (Zmu sv (Zmu u 1)) x) r=v:=by
 unfold Bd Zmu Zmt at *;omega
theorem Zru {sv u r v:Int} (h1:Bd sv) (h2:Bd u) (h4:Bd r) (h:Zmu sv (Zmu (Zmu (Zmu u 1) 0) r)=v):Zmu (Zmu sv (Zmu u 1)) r=v:=by
 unfold Bd Zmu Zmt at *;omega
theorem Zrv (m:Md) (h:Hd) (k p:Int) (w:World) (H:Zay w h m):Calls Tryz.prog 31 #[.agg #[.slice h.co m.cl.length h.cc,.slice h.so m.st.length h.sc,.slice h.eo m.me.length h.ec,.int .i64 m.sel],.int .i64 k,.int .i64 p] w (Zhf w (.int .i64 (Zrq m k p).1) (.int .i64 (Zrq m k p).2)):=by
 obtain ⟨⟨r1,r2⟩,hr⟩:∃ r,r=Zrq m k p:=⟨_,rfl⟩
 rw [←hr]
 obtain ⟨w0,hw0⟩:∃ w0,w0=w.alloc (.cells #[.slice h.co m.cl.length h.cc,.slice h.so m.st.length h.sc,.slice h.eo m.me.length h.ec,.int .i64 m.sel] 26):=⟨_,rfl⟩
 have HB:=Zh (show Below w.heap.size w w0 by rw [hw0];exact bE)
 have HX:=Zh (show Blk w0 w.heap.size #[.slice h.co m.cl.length h.cc,.slice h.so m.st.length h.sc,.slice h.eo m.me.length h.ec,.int .i64 m.sel] 26 by rw [hw0];exact Blk.new _ _ _)
 have HM:=Zh (H.old HB.out)
 have HW:=Zh hw0
 have HA:=Zh (Zp2 m h k w0 HM.out)
 clear hw0 H
 rcases hq:ZoO m k with _|_
 ·rw [hq] at HA
  have e0:Zrq m k p=(0,1):=by unfold Zrq;rw [if_neg (by rw [hq];intro q;cases q.1)]
  rw [e0] at hr
  obtain ⟨rfl,rfl⟩:=Prod.mk.inj hr
  clear hr hq e0
  go_enter Tryz.func31,Tryz.ntmps31
  go_upto_region 1 with fail
  rw [←HW.out]
  have x0:=HX.out.cell 0 (v:=.slice h.co m.cl.length h.cc) rfl;have x1:=HX.out.cell 1 (v:=.slice h.so m.st.length h.sc) rfl;have x2:=HX.out.cell 2 (v:=.slice h.eo m.me.length h.ec) rfl;have x3:=HX.out.cell 3 (v:=.int .i64 m.sel) rfl
  go_wp2_with (go_at_call 46;refine HA.out.mono ?_;rintro e w1 ⟨rfl,hb1⟩)
  go_ret2
  exact Zhg rfl rfl (Zaf HB.out hb1)
 rw [hq] at HA
 have hmo:=ZqI hq
 obtain ⟨hm,hk0,hk1⟩:=ZoP hq
 obtain ⟨k,rfl⟩:∃ d:Nat,k=d:=⟨k.toNat,by omega⟩
 have hkl:k<m.me.length:=by omega
 have hkl2:(k:Int) < m.me.length:=by omega
 obtain ⟨ea,he,-,-,-,-,-,-,e6⟩:=HM.out.mth hkl
 rw [show (m.me.getD k default).k.length=(cdM m k).length from rfl] at e6
 rw [he] at HW HX HA ⊢
 have HEa:=Zh he
 clear he
 by_cases hp:0≤p∧p≤(cdM m k).length
 rotate_left
 ·have e0:Zrq m k p=(0,1):=by unfold Zrq;rw [Int.toNat_natCast,if_neg (fun q=>hp q.2)]
  rw [e0] at hr
  obtain ⟨rfl,rfl⟩:=Prod.mk.inj hr
  have hp2:p<0∨(¬ p<0∧p > (cdM m k).length):=by omega
  clear hr hq e0 hp hm hmo
  rcases hp2 with hp|⟨hp,hpl⟩
  all_goals
   go_enter Tryz.func31,Tryz.ntmps31
   go_upto_region 1 with fail
   rw [←HW.out]
   have x0:=HX.out.cell 0 (v:=.slice h.co m.cl.length h.cc) rfl;have x1:=HX.out.cell 1 (v:=.slice h.so m.st.length h.sc) rfl;have x2:=HX.out.cell 2 (v:=.slice (some ea) m.me.length h.ec) rfl;have x3:=HX.out.cell 3 (v:=.int .i64 m.sel) rfl
   go_wp2_with (go_at_call 46;refine HA.out.mono ?_;rintro e w1 ⟨rfl,hb1⟩;have HB1:=Zh hb1;have x2:=(hb1.cell (Zac x2)).trans x2;have e6:=(hb1.cell (Zac e6)).trans e6;clear hb1 x0 x1 x3)
   all_goals
    go_ret2
    exact Zhg rfl rfl (Zaf HB.out HB1.out)
 obtain ⟨p,rfl⟩:∃ d:Nat,p=d:=⟨p.toNat,by omega⟩
 have hpl:p≤(cdM m k).length:=by omega
 have hpl0:¬ (p:Int) < 0:=by omega
 have hpl2:¬ (p:Int) > (cdM m k).length:=by omega
 obtain ⟨v,hv⟩:∃ v,v=Zrp m k p:=⟨_,rfl⟩
 have e0:Zrq m k p=if 1000000000<v then (0,6) else (v,0):=by unfold Zrq;rw [Int.toNat_natCast,Int.toNat_natCast,if_pos ⟨hq,hp⟩,←hv]
 rw [e0] at hr
 have HR:=Zh (show r1=(if 1000000000<v then 0 else v)∧r2=(if 1000000000<v then 6 else 0) by
  by_cases hc:1000000000<v
  ·rw [if_pos hc] at hr
   obtain ⟨rfl,rfl⟩:=Prod.mk.inj hr
   exact ⟨(if_pos hc).symm,(if_pos hc).symm⟩
  ·rw [if_neg hc] at hr
   obtain ⟨rfl,rfl⟩:=Prod.mk.inj hr
   exact ⟨(if_neg hc).symm,(if_neg hc).symm⟩)
 have hok:=ZfN hm hkl
 have hcl:(cdM m k).length≤120:=hok.z.2.2
 have hsg:Seg (cdM m k) 0 (cdM m k).length:=Zmg hok.n
 have hcv:ZaV false (cdM m k)=0:=(ZoS hm w).code hkl
 have HT:=Zh (show ∀ w',Below w0.heap.size w0 w'→_ from fun w' hb=>by have:=ZqH (ZqF hmo) false h w' (HM.out.old (w':=w') hb);rwa [HEa.out] at this)
 have HP:=Zh (fun B g w' a b (hs:Seg (cdM m k) a b) hR=>by have:=Zqz (B:=B) (g:=g) (h:=h) ((ZqF hmo).at (l:=false) (L:=ZmC (gR false Zmx m) m m.me.length) hkl (ZqO hmo)) (cdM m k).length a b (by omega) hs w' hR;rwa [ZqP hmo hkl hs] at this)
 have HRf:=Zh (show ∀ N,(cdM m k).length<N+p→ZqZ (zK m k) (cdM m k) N p=v from fun N hN=>by rw [Zrr hm hkl hpl hN,hv])
 have HKo:=Zh (show ∀ w',Below w0.heap.size w0 w'→Zar w' (h.e k).ko (h.e k).kc (cdM m k) from fun w' hb=>(HM.out.old hb).k k hkl)
 have HSg:=Zh hsg
 have HOk:=Zh hok
 have HCv:=Zh hcv
 have HVb:=Zh (show Bd v by rw [hv];exact Zq6 (fun a b hs=>ZqR hm hkl hs (by unfold Bd;omega)) p _ 0 _ hsg)
 have HHm:=Zh hm
 clear hr e0 hv hq hp hm hmo hk0 hk1 hok hsg hcv
 go_enter Tryz.func31,Tryz.ntmps31
 go_upto_region 1 with fail
 rw [←HW.out]
 have x0:=HX.out.cell 0 (v:=.slice h.co m.cl.length h.cc) rfl;have x1:=HX.out.cell 1 (v:=.slice h.so m.st.length h.sc) rfl;have x2:=HX.out.cell 2 (v:=.slice (some ea) m.me.length h.ec) rfl;have x3:=HX.out.cell 3 (v:=.int .i64 m.sel) rfl
 go_wp2_with (first
  | (go_at_call 46;refine HA.out.mono ?_;rintro e w1 ⟨rfl,hb1⟩;have HB1:=Zh hb1;have x0:=(hb1.cell (Zac x0)).trans x0;have x1:=(hb1.cell (Zac x1)).trans x1;have x2:=(hb1.cell (Zac x2)).trans x2;have x3:=(hb1.cell (Zac x3)).trans x3;have e6:=(hb1.cell (Zac e6)).trans e6;clear hb1)
  | (go_at_call 55;refine (HT.out _ HB1.out).mono ?_;rintro e w2 ⟨⟨B,g,rfl,hR⟩,hb2⟩;have HB2:=Zh (Zaf HB1.out hb2);have HR2:=Zh hR;have x2:=(hb2.cell (Zac x2)).trans x2;have e6:=(hb2.cell (Zac e6)).trans e6;clear hb2 hR x0 x1 x3))
 clear x2 e6
 have HZb:=Zh (show ∀ a b,Seg (cdM m k) a b→Bd (WA (zK m k) (cdM m k) a b 0) from fun a b hs=>by rw [Zro HHm.out hkl hs];exact ZqR HHm.out hkl hs (by unfold Bd;omega))
 have HRb:=Zh (show ∀ M p,p≤(cdM m k).length→(cdM m k).length<M+p→Bd (ZqZ (zK m k) (cdM m k) M p) from fun M p h1 h2=>by rw [Zrr HHm.out hkl h1 h2];exact Zq6 (fun a b hs=>ZqR HHm.out hkl hs (by unfold Bd;omega)) p _ 0 _ HSg.out)
 have HRr:=Zh (show ∀ M p,p≤(cdM m k).length→(cdM m k).length<M+p→ZqZ (zK m k) (cdM m k) M p=Zrp m k p from fun M p h1 h2=>Zrr HHm.out hkl h1 h2)
 have HIn:=Zh (show ∀ i∈cdM m k,i.op=30→0≤i.a∧i.a≤1000 from fun i hi h30=>Zn6 (b:=i.b) (by have:=(HOk.out.i i hi).1;exact this) h30)
 generalize (h.e k).ko=ko at HP HKo ⊢
 have HOpn:=Zh (show ∀ w',Below w0.heap.size w0 w'→∀ q,q<(cdM m k).length→_ from fun w' hb q hq=>ZqL (cdM m k) ko (h.e k).kc w' (HKo.out w' hb) HCv.out q hq)
 go_loopw [11,12] (fun s f wr=>∃ (q:Nat) (sv:Int),s=.int .i64 sv∧f=.int .i64 q∧Hid (q≤(cdM m k).length)∧Hid (Bd sv)∧Hid (∀ N,(cdM m k).length<N+q→Zmu sv (ZqZ (zK m k) (cdM m k) N q)=v)∧Hid (Below w2.heap.size w2 wr)) (fun _ f _=>(cdM m k).length+1-(intOf f).toNat)
 case atStart=>
  refine ⟨p,0,rfl,rfl,hpl,(show Bd 0 by unfold Bd;omega),fun N hN=>?_,Below.refl _ _⟩
  rw [HRf.out N hN]
  have:=HVb.out
  unfold Bd at this
  unfold Zmu Zmt
  omega
 case round=>
  obtain ⟨q,sv,rfl,rfl,HQ,HS,HV,HBr⟩:=hrel
  rename World=>wo
  rcases Zrc _ 0 _ (Nat.le_refl _) HSg.out q (Nat.zero_le _) HQ.out with ⟨g1,g2⟩|⟨o,alt,en,hin⟩
  ·have har:=Zq1 (c:=cdM m k) (p:=q) q (fun x r1 r2=>g2 x (Nat.zero_le _) r1 r2)
   have hvv:Zmu sv (ZqZ (zK m k) (cdM m k) ((cdM m k).length+1) q)=v:=HV.out ((cdM m k).length+1) (by omega)
   have hun:ZqZ (zK m k) (cdM m k) ((cdM m k).length+1) q=WA (zK m k) (cdM m k) q (cdM m k).length 0:=if_pos har
   rw [hun] at hvv
   have hwb:=HZb.out _ _ g1
   obtain ⟨u,hu⟩:∃ u,u=WA (zK m k) (cdM m k) q (cdM m k).length 0:=⟨_,rfl⟩
   rw [←hu] at hvv hwb
   have HPt:=Zh (show ∀ w',RT w' B g h m _ _ _→_ from fun w' hR=>by have:=HP.out B g w' q _ g1 hR;rwa [←hu] at this)
   have HAd:=Zh (fun w'=>ZpW sv u w' (by have:=HS.out;unfold Bd at this;omega) (by unfold Bd at hwb;omega))
   rw [hvv] at HAd
   have HAr:=Zh har
   have HQl:=Zh (show (q:Int) < (cdM m k).length∨q=(cdM m k).length by have:=HQ.out;omega)
   clear g1 g2 har hvv hun hwb hu
   rcases HQl.out with hql2|hql2
   ·have hql:q<(cdM m k).length:=by omega
    have HO1:=Zh (HOpn.out wo (Zaf HB2.out HBr.out) q hql)
    rw [if_pos HAr.out,if_pos HAr.out] at HO1
    go_wp2_with (first
     | (go_at_call 21;refine HO1.out.mono ?_;rintro e w3 ⟨rfl,hb3⟩;have HB3:=Zh (Zaf HBr.out hb3);clear hb3)
     | (go_at_call 56;refine (HPt.out _ (HR2.out.old HB3.out)).mono ?_;rintro e w4 ⟨rfl,hb4⟩;have HB4:=Zh (Zaf HB3.out hb4);clear hb4)
     | (go_at_call 66;refine (HAd.out _).mono ?_;rintro e w5 ⟨rfl,hb5⟩;have HB5:=Zh (Zaf HB4.out hb5);clear hb5)
     | (go_at_call 59;refine (Zp0 v _).mono ?_;rintro e w6 ⟨rfl,hb6⟩))
    all_goals
     go_ret2
     refine Zhg (ZcY ?_) (ZcY ?_) (Zaf HB.out (Zaf HB2.out (Zaf HB5.out hb6)))
     ·rw [HR.out.1];first|exact (if_pos (by omega)).symm|exact (if_neg (by omega)).symm
     ·rw [HR.out.2];first|exact (if_pos (by omega)).symm|exact (if_neg (by omega)).symm
   ·subst hql2
    have hql3:¬ (((cdM m k).length:Nat):Int) < (cdM m k).length:=by omega
    have HB3:=HBr
    go_wp2_with (first
     | (go_at_call 56;refine (HPt.out _ (HR2.out.old HB3.out)).mono ?_;rintro e w4 ⟨rfl,hb4⟩;have HB4:=Zh (Zaf HB3.out hb4);clear hb4)
     | (go_at_call 66;refine (HAd.out _).mono ?_;rintro e w5 ⟨rfl,hb5⟩;have HB5:=Zh (Zaf HB4.out hb5);clear hb5)
     | (go_at_call 59;refine (Zp0 v _).mono ?_;rintro e w6 ⟨rfl,hb6⟩))
    all_goals
     go_ret2
     refine Zhg (ZcY ?_) (ZcY ?_) (Zaf HB.out (Zaf HB2.out (Zaf HB5.out hb6)))
     ·rw [HR.out.1];first|exact (if_pos (by omega)).symm|exact (if_neg (by omega)).symm
     ·rw [HR.out.2];first|exact (if_pos (by omega)).symm|exact (if_neg (by omega)).symm
  -- bracket
  ·have hql:q<(cdM m k).length:=by have:=hin.2.1;have:=hin.2.2.1;have:=hin.2.2.2.1;omega
   have hin2:=hin
   obtain ⟨i0,i1,i2,i3,hmt,i5,hsgp,hs1,hs2⟩:=hin2
   have hol:o<(cdM m k).length:=by omega
   have hql2:(q:Int) < (cdM m k).length:=by omega
   have hol2:(o:Int) < (cdM m k).length:=by omega
   have ho0:¬ (o:Int) < 0:=by omega
   have HO1:=Zh (HOpn.out wo (Zaf HB2.out HBr.out) q hql)
   rw [hin.ar,if_neg ho0,if_neg ho0] at HO1
   have HMt:=Zh (show ∀ w',Below w0.heap.size w0 w'→_ from fun w' hb=>ZpV (cdM m k) ko (h.e k).kc w' (HKo.out w' hb) HCv.out hmt)
   have hwe:IntKind.i64.wrap ((en:Int)+1)=((en+1:Nat):Int):=IntWalk.i64_in _ (by omega)
   have HQe:=Zh (show o<q∧q≤en∧en<(cdM m k).length∧o<(cdM m k).length from ⟨by omega,by omega,by omega,hol⟩)
   obtain ⟨ad,rfl,o0,o1,-⟩:=ZaA (HKo.out wo (Zaf HB2.out HBr.out)) hol
   have HIb:=Zh hin
   have HMm:=Zh hmt
   have HS1:=Zh hs1
   have HS2:=Zh hs2
   obtain ⟨i,hi⟩:∃ i,i=(cdM m k).getD o default:=⟨_,rfl⟩
   rw [←hi] at o0 o1
   have HI:=Zh hi
   have HIa:=Zh (HIn.out i (by rw [hi];exact ZfU _ hol))
   obtain ⟨op,ia,ib⟩:=i
   dsimp only at o0 o1
   have HIop:=Zh (show ((cdM m k).getD o default).op=op by rw [←hi])
   have HIia:=Zh (show ((cdM m k).getD o default).a=ia by rw [←hi])
   have hie:ZqY (cdM m k) o q=if 0≤alt∧q≤alt.toNat then alt.toNat else en:=by unfold ZqY;rw [Zmd hmt]
   have HIe:=Zh hie
   have HSp:=Zh hsgp
   have hmt2:=hmt.2.2.2.2
   rw [←hi] at hmt2
   dsimp only at hmt2
   have HM2:=Zh hmt2
   clear hin hmt hs1 hs2 hi hie hsgp hmt2 i0 i1 i2 i3 i5 hql
   rcases HM2.out with ⟨ha,h33,-⟩|⟨n,ha,hn,hn2,hop2,-⟩
   ·subst ha
    by_cases h30:op=30
    ·subst h30
     have hie:ZqY (cdM m k) o q=en:=by rw [HIe.out];exact if_neg (by omega)
     have hsgp:=HSp.out
     rw [hie] at hsgp
     obtain ⟨u,hu⟩:∃ u,u=WA (zK m k) (cdM m k) q en 0:=⟨_,rfl⟩
     have hub:Bd u:=by rw [hu];exact HZb.out _ _ hsgp
     have HPt:=Zh (show ∀ w',RT w' B g h m _ _ _→_ from fun w' hR=>by have:=HP.out B g w' q _ hsgp hR;rwa [←hu] at this)
     have hxx:ZqX (zK m k) (cdM m k) o ((-1:Int) < 0∨q≤(-1:Int).toNat)=Zmv (max 0 (ia-1)) (Zmu (WA (zK m k) (cdM m k) (o+1) en 0) 1):=by
      unfold ZqX
      rw [HIop.out,HIia.out,Zmd HMm.out]
      dsimp only
      rw [if_pos rfl]
     have HV2:=Zh (show ∀ M,(cdM m k).length<M+(en+1)→Zmu sv (Zmu (Zmu (Zmu u 1) (Zmv (max 0 (ia-1)) (Zmu (WA (zK m k) (cdM m k) (o+1) en 0) 1))) (ZqZ (zK m k) (cdM m k) M (en+1)))=v from fun M hM=>by have hv:=HV.out ((cdM m k).length+1+1) (by omega);rw [Zrs HIb.out,hxx,hie,←hu] at hv;rwa [HRr.out M _ (by have:=HQe.out;omega) hM,←HRr.out ((cdM m k).length+1) _ (by have:=HQe.out;omega) (by omega)])
     clear hxx hie hsgp
     obtain ⟨y1,hy1⟩:∃ y,y=Zmu u 1:=⟨_,rfl⟩
     obtain ⟨y2,hy2⟩:∃ y,y=Zmu sv y1:=⟨_,rfl⟩
     have hb1:Bd y1:=by rw [hy1];exact ZnB hub (by unfold Bd;omega)
     have hb2:Bd y2:=by rw [hy2];exact ZnB HS.out hb1
     have HA1:=Zh (fun w'=>ZpW u 1 w' (by unfold Bd at hub;omega) (by omega))
     rw [←hy1] at HA1
     have HA2:=Zh (fun w'=>ZpW sv y1 w' (by have:=HS.out;unfold Bd at this;omega) (by unfold Bd at hb1;omega))
     rw [←hy2] at HA2
     have hs2:=HS1.out rfl
     obtain ⟨x1,hx1⟩:∃ u,u=WA (zK m k) (cdM m k) (o+1) en 0:=⟨_,rfl⟩
     have hxb:Bd x1:=by rw [hx1];exact HZb.out _ _ hs2
     have HPx:=Zh (show ∀ w',RT w' B g h m _ _ _→_ from fun w' hR=>by have:=HP.out B g w' (o+1) _ hs2 hR;rwa [←hx1] at this)
     rw [←hx1] at HV2
     have hwo:IntKind.i64.wrap ((o:Int)+1)=((o+1:Nat):Int):=IntWalk.i64_in _ (by have:=HQe.out;omega)
     have hwa:IntKind.i64.wrap (ia-1)=ia-1:=IntWalk.i64_in _ (by have:=HIa.out rfl;dsimp only at this;omega)
     have ha1:=HIa.out rfl
     dsimp only at ha1
     obtain ⟨y3,hy3⟩:∃ y,y=Zmu x1 1:=⟨_,rfl⟩
     have hb3:Bd y3:=by rw [hy3];exact ZnB hxb (by unfold Bd;omega)
     obtain ⟨mx,hmx⟩:∃ y,y=max 0 (ia-1):=⟨_,rfl⟩
     have hmb:0≤mx∧mx≤1000:=by omega
     obtain ⟨y4,hy4⟩:∃ y,y=Zmv mx y3:=⟨_,rfl⟩
     have hb4:Bd y4:=by rw [hy4];exact ZnC hmb.1 hb3
     obtain ⟨y5,hy5⟩:∃ y,y=Zmu y2 y4:=⟨_,rfl⟩
     have hb5:Bd y5:=by rw [hy5];exact ZnB hb2 hb4
     have HA3:=Zh (fun w'=>ZpW x1 1 w' (by unfold Bd at hxb;omega) (by omega))
     rw [←hy3] at HA3
     have HTm:=Zh (fun w'=>ZpX mx y3 w' (by have:=(Zos hb3 hmb.1 hmb.2).1;rw [Int.mul_comm] at this;omega) (by have:=(Zos hb3 hmb.1 hmb.2).2;rw [Int.mul_comm] at this;omega))
     rw [←hy4] at HTm
     have HA5:=Zh (fun w'=>ZpW y2 y4 w' (by unfold Bd at hb2;omega) (by unfold Bd at hb4;omega))
     rw [←hy5] at HA5
     rw [←hy3,←hmx,←hy4] at HV2
     have HMx:=Zh hmx
     have HTx:=Zh (show ∀ w' (z:Int),z=mx→Calls Tryz.prog 48 #[.int .i64 z,.int .i64 y3] w' (Ret w' (.int .i64 y4)) from fun w' z hz=>by rw [hz];exact HTm.out w')
     have HY:=Zh (And.intro hub (And.intro hb4 (And.intro hy1 (And.intro hy2 (And.intro hy5 hb5)))))
     clear hub hb4 hy1 hy2 hy5 hb5 hu hx1 hxb hs2 hy3 hy4 hb1 hb2 hb3 hmb hmx ha1
     go_upto_region 22 with (first
      | (go_at_call 21;refine HO1.out.mono ?_;rintro e w3 ⟨rfl,hb3⟩;have HB3:=Zh (Zaf HBr.out hb3);have o0:=(hb3.cell (Zac o0)).trans o0;have o1:=(hb3.cell (Zac o1)).trans o1;clear hb3)
      | (go_at_call 47;refine (HMt.out _ (Zaf HB2.out HB3.out)).mono ?_;rintro e w4 ⟨rfl,hb4⟩;have HB4:=Zh (Zaf HB3.out hb4);have o0:=(hb4.cell (Zac o0)).trans o0;have o1:=(hb4.cell (Zac o1)).trans o1;clear hb4)
      | (go_at_call 56;refine (HPt.out _ (HR2.out.old HB4.out)).mono ?_;rintro e w5 ⟨rfl,hb5⟩;have HB5:=Zh (Zaf HB4.out hb5);have o0:=(hb5.cell (Zac o0)).trans o0;have o1:=(hb5.cell (Zac o1)).trans o1;clear hb5)
      | (go_at_call 66;refine (HA2.out _).mono ?_;rintro e w7 ⟨rfl,hb7⟩;have HB7:=Zh (Zaf HB6.out hb7);have o0:=(hb7.cell (Zac o0)).trans o0;have o1:=(hb7.cell (Zac o1)).trans o1;clear hb7)
      | (go_at_call 66;refine (HA1.out _).mono ?_;rintro e w6 ⟨rfl,hb6⟩;have HB6:=Zh (Zaf HB5.out hb6);have o0:=(hb6.cell (Zac o0)).trans o0;have o1:=(hb6.cell (Zac o1)).trans o1;clear hb6))
     have hwo2:=hwo
     refine rO (Cs [(_,.int .i64 30),(_,.int .i64 ia)]) (oL [0,1,2,3,4,5,6,7,8,9,10,11,12,113,114,115,116,17]) ⟨o0,o1,trivial⟩ ?_
     repeat refine pO ?_
     have HB8:=Zh HB7.out.drew
     have HC8:=Zh (show Cs [(_,.int .i64 30),(_,.int .i64 ia)] w7.drew from ⟨o0,o1,trivial⟩)
     refine oO fun Kv hK=>?_
     go_simp
     refine (HPx.out _ (HR2.out.old HB8.out)).mono ?_
     rintro e w9 ⟨rfl,hb9⟩
     have HB9:=Zh (Zaf HB8.out hb9)
     have HC9:=Zh (Cs.keeps (Znv.of hb9) HC8.out)
     refine hK _ _ ⟨HC9.out,?_⟩
     clear hK Kv hb9
     repeat refine pO ?_
     refine oO fun Kv hK=>?_
     go_simp
     refine (HA3.out _).mono ?_
     rintro e w10 ⟨rfl,hb10⟩
     have HB10:=Zh (Zaf HB9.out hb10)
     have HC10:=Zh (Cs.keeps (Znv.of hb10) HC9.out)
     refine hK _ _ ⟨HC10.out,?_⟩
     clear hK Kv hb10
     repeat refine pO ?_
     refine oO fun Kv hK=>?_
     go_simp
     refine (HTx.out _ _ ?_).mono ?_
     ·first|exact HMx.out.symm|(rw [HMx.out];first|(split<;>omega)|omega)
     rintro e w11 ⟨rfl,hb11⟩
     have HB11:=Zh (Zaf HB10.out hb11)
     have HC11:=Zh (Cs.keeps (Znv.of hb11) HC10.out)
     refine hK _ _ ⟨HC11.out,?_⟩
     clear hK Kv hb11
     repeat refine pO ?_
     refine oO fun Kv hK=>?_
     go_simp
     refine (HA5.out _).mono ?_
     rintro e w12 ⟨rfl,hb12⟩
     have HB12:=Zh (Zaf HB11.out hb12)
     have HC12:=Zh (Cs.keeps (Znv.of hb12) HC11.out)
     refine hK _ _ ⟨HC12.out,?_⟩
     clear hK Kv hb12
     repeat refine pO ?_
     refine Zd5 ?_
     have o3:=HC12.out.1
     clear o0 o1
     go_wp2
     exact ⟨⟨en+1,y5,rfl,rfl,(show en+1≤_ by have:=HQe.out;omega),HY.out.2.2.2.2.2,fun M hM=>by rw [HY.out.2.2.2.2.1,HY.out.2.2.2.1,HY.out.2.2.1];exact Zrt HS.out HY.out.1 HY.out.2.1 (HRb.out M _ (by have:=HQe.out;omega) hM) (HV2.out M hM),HB12.out⟩,by have:=HQe.out;simp [intOf];omega⟩
    ·have hie:ZqY (cdM m k) o q=en:=by rw [HIe.out];exact if_neg (by omega)
     have hsgp:=HSp.out
     rw [hie] at hsgp
     obtain ⟨u,hu⟩:∃ u,u=WA (zK m k) (cdM m k) q en 0:=⟨_,rfl⟩
     have hub:Bd u:=by rw [hu];exact HZb.out _ _ hsgp
     have HPt:=Zh (show ∀ w',RT w' B g h m _ _ _→_ from fun w' hR=>by have:=HP.out B g w' q _ hsgp hR;rwa [←hu] at this)
     have hxx:ZqX (zK m k) (cdM m k) o ((-1:Int) < 0∨q≤(-1:Int).toNat)=0:=by
      exact kC8
     exact kC1
   ·subst ha
    have hnn:((n:Nat):Int) ≥ 0:=by omega
    have h30:¬ op=30:=by omega
    by_cases hqn:q≤n
    ·have hqn2:¬ (q:Int) > n:=by omega
     have HQn:=Zh hqn
     by_cases h33:op=33
     ·subst h33
      have hie:ZqY (cdM m k) o q=n:=by rw [HIe.out];rw [if_pos ⟨by omega,by omega⟩,Int.toNat_natCast]
      have hsgp:=HSp.out
      rw [hie] at hsgp
      obtain ⟨u,hu⟩:∃ u,u=WA (zK m k) (cdM m k) q n 0:=⟨_,rfl⟩
      have hub:Bd u:=by rw [hu];exact HZb.out _ _ hsgp
      have HPt:=Zh (show ∀ w',RT w' B g h m _ _ _→_ from fun w' hR=>by have:=HP.out B g w' q _ hsgp hR;rwa [←hu] at this)
      have hxx:ZqX (zK m k) (cdM m k) o ((n:Int) < 0∨q≤(n:Int).toNat)=WA (zK m k) (cdM m k) (n+1) en 0:=by
       unfold ZqX
       rw [HIop.out,HIia.out,Zmd HMm.out]
       dsimp only
       rw [if_neg (by decide),Int.toNat_natCast,if_pos ⟨rfl,.inr HQn.out⟩]
      have HV2:=Zh (show ∀ M,(cdM m k).length<M+(en+1)→Zmu sv (Zmu (Zmu (Zmu u 1) (WA (zK m k) (cdM m k) (n+1) en 0)) (ZqZ (zK m k) (cdM m k) M (en+1)))=v from fun M hM=>by have hv:=HV.out ((cdM m k).length+1+1) (by omega);rw [Zrs HIb.out,hxx,hie,←hu] at hv;rwa [HRr.out M _ (by have:=HQe.out;omega) hM,←HRr.out ((cdM m k).length+1) _ (by have:=HQe.out;omega) (by omega)])
      clear hxx hie hsgp
      obtain ⟨y1,hy1⟩:∃ y,y=Zmu u 1:=⟨_,rfl⟩
      obtain ⟨y2,hy2⟩:∃ y,y=Zmu sv y1:=⟨_,rfl⟩
      have hb1:Bd y1:=by rw [hy1];exact ZnB hub (by unfold Bd;omega)
      have hb2:Bd y2:=by rw [hy2];exact ZnB HS.out hb1
      have HA1:=Zh (fun w'=>ZpW u 1 w' (by unfold Bd at hub;omega) (by omega))
      rw [←hy1] at HA1
      have HA2:=Zh (fun w'=>ZpW sv y1 w' (by have:=HS.out;unfold Bd at this;omega) (by unfold Bd at hb1;omega))
      rw [←hy2] at HA2
      have hs2:=(HS2.out n rfl).2
      obtain ⟨x1,hx1⟩:∃ u,u=WA (zK m k) (cdM m k) (n+1) en 0:=⟨_,rfl⟩
      have hxb:Bd x1:=by rw [hx1];exact HZb.out _ _ hs2
      have HPx:=Zh (show ∀ w',RT w' B g h m _ _ _→_ from fun w' hR=>by have:=HP.out B g w' (n+1) _ hs2 hR;rwa [←hx1] at this)
      rw [←hx1] at HV2
      have hwo:IntKind.i64.wrap ((n:Int)+1)=((n+1:Nat):Int):=IntWalk.i64_in _ (by have:=HQe.out;omega)
      obtain ⟨y5,hy5⟩:∃ y,y=Zmu y2 x1:=⟨_,rfl⟩
      have hb5:Bd y5:=by rw [hy5];exact ZnB hb2 hxb
      have HA5:=Zh (fun w'=>ZpW y2 x1 w' (by unfold Bd at hb2;omega) (by unfold Bd at hxb;omega))
      rw [←hy5] at HA5
      have HY:=Zh (And.intro hub (And.intro hxb (And.intro hy1 (And.intro hy2 (And.intro hy5 hb5)))))
      clear hub hxb hy1 hy2 hy5 hb5 hu hx1 hs2 hb1 hb2
      go_wp2_with (first
       | (go_at_call 21;refine HO1.out.mono ?_;rintro e w3 ⟨rfl,hb3⟩;have HB3:=Zh (Zaf HBr.out hb3);have o0:=(hb3.cell (Zac o0)).trans o0;have o1:=(hb3.cell (Zac o1)).trans o1;clear hb3)
       | (go_at_call 47;refine (HMt.out _ (Zaf HB2.out HB3.out)).mono ?_;rintro e w4 ⟨rfl,hb4⟩;have HB4:=Zh (Zaf HB3.out hb4);have o0:=(hb4.cell (Zac o0)).trans o0;have o1:=(hb4.cell (Zac o1)).trans o1;clear hb4)
       | (go_at_call 56;refine (HPx.out _ (HR2.out.old HB7.out)).mono ?_;rintro e w8 ⟨rfl,hb8⟩;have HB8:=Zh (Zaf HB7.out hb8);clear hb8)
       | (go_at_call 66;refine (HA5.out _).mono ?_;rintro e w9 ⟨rfl,hb9⟩;have HB9:=Zh (Zaf HB8.out hb9);clear hb9)
       | (go_at_call 56;refine (HPt.out _ (HR2.out.old HB4.out)).mono ?_;rintro e w5 ⟨rfl,hb5⟩;have HB5:=Zh (Zaf HB4.out hb5);have o0:=(hb5.cell (Zac o0)).trans o0;have o1:=(hb5.cell (Zac o1)).trans o1;clear hb5)
       | (go_at_call 66;refine (HA2.out _).mono ?_;rintro e w7 ⟨rfl,hb7⟩;have HB7:=Zh (Zaf HB6.out hb7);have o0:=(hb7.cell (Zac o0)).trans o0;have o1:=(hb7.cell (Zac o1)).trans o1;clear hb7)
       | (go_at_call 66;refine (HA1.out _).mono ?_;rintro e w6 ⟨rfl,hb6⟩;have HB6:=Zh (Zaf HB5.out hb6);have o0:=(hb6.cell (Zac o0)).trans o0;have o1:=(hb6.cell (Zac o1)).trans o1;clear hb6))
      all_goals exact ⟨⟨en+1,y5,rfl,rfl,(show en+1≤_ by have:=HQe.out;omega),HY.out.2.2.2.2.2,fun M hM=>by rw [HY.out.2.2.2.2.1,HY.out.2.2.2.1,HY.out.2.2.1];exact Zrt HS.out HY.out.1 HY.out.2.1 (HRb.out M _ (by have:=HQe.out;omega) hM) (HV2.out M hM),HB9.out⟩,by have:=HQe.out;simp [intOf];omega⟩
     ·have hie:ZqY (cdM m k) o q=n:=by rw [HIe.out];rw [if_pos ⟨by omega,by omega⟩,Int.toNat_natCast]
      have hsgp:=HSp.out
      rw [hie] at hsgp
      obtain ⟨u,hu⟩:∃ u,u=WA (zK m k) (cdM m k) q n 0:=⟨_,rfl⟩
      exact kC4
    ·have hqn2:(q:Int) > n:=by omega
     have hie:ZqY (cdM m k) o q=en:=by rw [HIe.out];exact if_neg (by omega)
     have hsgp:=HSp.out
     rw [hie] at hsgp
     obtain ⟨u,hu⟩:∃ u,u=WA (zK m k) (cdM m k) q en 0:=⟨_,rfl⟩
     exact kC4
end
end Go.Proofs.YtfkbfjhocmbneaaGreat
