/- Joined texts. The first: isochronref03.around, Opener; isochronref07.Body. -/
import Derived.Test.YtfkbfjhocmbneaaGreatL32
import Derived.Test.YtfkbfjhocmbneaaGreatL33
set_option linter.all false
set_option linter.unusedVariables false
set_option linter.unusedSimpArgs false
set_option maxRecDepth 100000
set_option maxHeartbeats 16000000
namespace Go.Proofs.YtfkbfjhocmbneaaGreat
theorem kC1{p:Prop}(h:p:=by
 go_enter Tryz.func21,Tryz.ntmps21
 go_wp2_with (first
  | (go_at_call 53;refine HC.out.mono ?_;rintro e w1 ⟨rfl,hb1⟩;have HB1:=Zh hb1;clear hb1)
  | (go_at_call 54;refine (HA.out _ HB1.out).mono ?_;rintro e w2 ⟨rfl,hb2⟩;have HB2:=Zh (Zaf HB1.out hb2);clear hb2))
 go_ret2
 exact Zhg rfl rfl HB2.out):p:=h
section
open Go.RowKit
def arV (c:List In3) (p:Nat):Nat→Int
 | 0=>-1
 | k+1=>if ZaR (c.getD k default).op=true∧p≤(mtV c k).2 then k else arV c p k
theorem ZrW {c:List In3}{p:Nat}:∀ k,arV c p k<0→∀ o,o<k→ZaR (c.getD o default).op=true→(mtV c o).2<p
 | 0,_,o,ho,_=>by omega
 | k+1,h,o,ho,hop=>by
  unfold arV at h
  by_cases q:ZaR (c.getD k default).op=true∧p≤(mtV c k).2
  ·rw [if_pos q] at h;omega
  ·rw [if_neg q] at h
   by_cases e:o=k
   ·subst e;exact Nat.lt_of_not_le fun q2=>q ⟨hop,q2⟩
   ·exact ZrW k h o (by omega) hop
theorem ZrX {c:List In3}{a b:Nat} (hs:Seg c a b):∀ o,a≤o→o<b→(c.getD o default).op=30→∃ en,Mat c o (-1) en∧Seg c (o+1) en:=by
 induction hs with
 | nil a h=>intro o h1 h2;omega
 | pl a b q1 q2 q3 q4 q5 ih=>
  intro o h1 h2 h3
  by_cases e:o=a
  ·subst e;rw [h3] at q2;exact absurd q2 (by decide)
  ·exact ih o (by omega) h2 h3
 | one a en b q1 q2 q3 i1 i2=>
  intro o h1 h2 h3
  by_cases e:o=a
  ·subst e;exact ⟨en,q1,q2⟩
  ·by_cases e2:o<en
   ·exact i1 o (by omega) e2 h3
   ·by_cases e3:o=en
    ·subst e3;have:=q1.2.2.2.1;omega
    ·exact i2 o (by omega) h2 h3
 | two a n en b q1 q2 q3 q4 i1 i2 i3=>
  intro o h1 h2 h3
  have hq:(c.getD n default).op=34∧((c.getD a default).op=29∨(c.getD a default).op=33):=by
   rcases q1.2.2.2.2 with ⟨h,_⟩|⟨n2,h,_,h34,h2,_⟩
   ·omega
   ·obtain rfl:n=n2:=by omega
    exact ⟨h34,h2⟩
  by_cases e:o=a
  ·subst e;omega
  ·by_cases e2:o<n
   ·exact i1 o (by omega) e2 h3
   ·by_cases e3:o=n
    ·subst e3;omega
    ·by_cases e4:o<en
     ·exact i2 o (by omega) e4 h3
     ·by_cases e5:o=en
      ·subst e5;have:=q1.2.2.2.1;omega
      ·exact i3 o (by omega) h2 h3
section
variable (l:List In3)(ao:Option Addr)(cap:Nat)(w:World)(hl:Zar w ao cap l)(hv:ZaV false l=0)(p:Nat)(hp:p<l.length)
include l ao cap w hl hv p hp
theorem ZrY:Calls Tryz.prog 54 #[.slice ao l.length cap,.int .i64 p] w (Ret w (.int .i64 (arV l p p))):=by
  have hcl:=(Znj hv).1
  have HB:=Zh (fun w' hb k hk hop=>ZgH l ao cap w' (Zar.old hl (w':=w') hb) (by omega) l.length (ZgI l ao cap w' (Zar.old hl hb) (by omega) l.length) k hk (by omega) hop)
  have HL:=Zh hl
  have HN:=Zh (Znj hv).2.2
  have hw0:IntKind.i64.wrap ((p:Int)-1)=(p:Int)-1:=IntWalk.i64_in _ (by omega)
  obtain ⟨q,hq⟩:∃ q,q=arV l p p:=⟨_,rfl⟩
  rw [←hq]
  have HQ:=Zh hq
  clear hl hv hq
  go_enter Tryz.func54,Tryz.ntmps54
  go_wp2
  clear hw0
  go_loopw [5] (fun i wr=>∃ k:Nat,k≤p∧i=.int .i64 ((k:Int)-1)∧Hid (q=arV l p k)∧Hid (Below w.heap.size w wr)) (fun i _=>(intOf i+1).toNat)
  case atStart=>exact ⟨p,Nat.le_refl _,rfl,HQ.out,by exact bE⟩
  case round=>
    obtain ⟨k,hk,rfl,HE,HBr⟩:=hrel
    rename World=>wo
    rcases k with _|k
    · have e0:q=-1:=HE.out
      have e1:((0:Nat):Int)-1=-1:=rfl
      rw [e1]
      go_wp2
      go_ret
      exact ZcT (ZcY e0.symm) HBr.out
    · have e1:((k+1:Nat):Int)-1=k:=by omega
      rw [e1]
      have hk0:(k:Int) ≥ 0:=by omega
      have hkl:k<l.length:=by omega
      have hkl2:(k:Int) < l.length:=by omega
      have hwk:IntKind.i64.wrap ((k:Int)-1)=(k:Int)-1:=IntWalk.i64_in _ (by omega)
      obtain ⟨ad,rfl,o0,-,-⟩:=ZaA (HL.out.old HBr.out) hkl
      have hE:=HE.out
      unfold arV at hE
      have HBk:=Zh (HB.out _ HBr.out k hkl)
      have HE2:=Zh hE
      clear hE
      obtain ⟨op,hop⟩:∃ op,op=(l.getD k default).op:=⟨_,rfl⟩
      rw [←hop] at o0 HE2 HBk
      clear hop
      by_cases ho:ZaR op=true
      · have HO:=Zh ho
        have hE:=HE2.out
        rw [ho] at hE
        go_upto_region 6 with (first
          | (go_at_call 81;refine (ZeO _ _).mono ?_;rintro e w2 ⟨rfl,rfl⟩;rw [HO.out])
          | (go_at_call 82;refine (HBk.out HO.out).mono ?_;rintro e w3 ⟨hbr,rfl⟩
             obtain ⟨alt',en',d',rfl,hm'⟩:∃ (alt':Int) (en' d':Nat),e=.returned (.tuple #[.int .i64 alt',.int .i64 en',.int .i64 d'])∧Mat l k alt' en':=by
               rcases hbr with ⟨alt',n',d',e1,-,-,-,hm'⟩|⟨-,hst⟩
               · exact ⟨alt',n',d',e1,hm'⟩
               · exact (ZpU HN.out hst).elim
             have HM:=Zh hm'
             clear hm' hbr))
        rw [Zmd HM.out] at hE
        by_cases hen:p≤en'
        · rw [if_pos ⟨by first|trivial|rfl,hen⟩] at hE
          have hen2:(en':Int) ≥ p:=by omega
          have HE3:=Zh hE
          clear hE
          go_wp2
          go_ret
          exact ZcT (ZcY HE3.out.symm) HBr.out
        · rw [if_neg (fun q=>hen q.2)] at hE
          have hen2:¬ (en':Int) ≥ p:=by omega
          have HE3:=Zh hE
          clear hE
          go_wp2
          exact ⟨⟨k,by omega,rfl,HE3.out,HBr.out⟩,by simp [intOf]⟩
      · have ho2:ZaR op=false:=by simpa using ho
        have HO:=Zh ho2
        have hE:=HE2.out
        rw [if_neg (fun q=>ho q.1)] at hE
        have HE3:=Zh hE
        clear hE ho ho2
        go_wp2_with (go_at_call 81;refine (ZeO _ _).mono ?_;rintro e w2 ⟨rfl,rfl⟩;rw [HO.out])
        exact ⟨⟨k,by omega,rfl,HE3.out,HBr.out⟩,by simp [intOf]⟩
theorem ZrZ:Calls Tryz.prog 21 #[.slice ao l.length cap,.int .i64 p] w (Zhf w (.int .i64 (if arV l p p<0 then 0 else arV l p p)) (.int .i64 (if arV l p p<0 then 3 else 0))):=by
 have HC:=Zh (ZgK l ao cap false w hl)
 rw [hv] at HC
 have HA:=Zh (fun w' hb=>ZrY l ao cap w' (hl.old (w':=w') hb) hv p hp)
 have hp2:¬ (p:Int) < 0:=by omega
 have hp3:¬ (p:Int) ≥ l.length:=by omega
 generalize arV l p p=q at HA ⊢
 clear hl hv
 by_cases hq:q<0
 ·rw [if_pos hq,if_pos hq]
  exact kC1
 ·rw [if_neg hq,if_neg hq]
  exact kC1
end
theorem Zr0 {m:Md} (h:(Zl6 m).2.2=0) {k:Nat} (hk:k<m.me.length) (t:Int) (h0:0≤t) (h1:t<k):Zqb (ZmC (gR false Zmx m) m m.me.length) t=(ZmC (gW Zmx m) m k).getD t.toNat 0:=by
 unfold Zqb
 rw [ZmF _ _ (by omega),ZmF _ _ (by omega)]
 exact ZrT h (by omega)
theorem Zr1 {m:Md} (hm:Za1 m=true) (k:Nat) (t:Int):Bd ((ZmC (gW Zmx m) m k).getD t.toNat 0):=by
 by_cases hj:t.toNat<k
 ·exact kC2
 ·rw [List.getD_eq_getElem?_getD,List.getElem?_eq_none (by rw [ZmE];omega)]
  unfold Bd;dsimp only [Option.getD];omega
theorem Zr2 {m:Md} (h:(Zl6 m).2.2=0) (t:Int):Pl false (Zqb (ZmC (gR false Zmx m) m m.me.length) t):=by
 unfold Zqb
 by_cases hj:t.toNat<m.me.length
 ·rw [ZmF _ _ hj,ZrT h hj]
  exact Pl.of (ZoI (Zqo h).1 (x:=Zmx) (fun k hk i hi=>ZoD ((ZfN (Zqo h).1 hk).i i hi).1) (by decide) (t.toNat+1) _ (by omega))
 ·rw [List.getD_eq_getElem?_getD,List.getElem?_eq_none (by rw [ZmE];omega)]
  exact Pl.of (by unfold Bd;dsimp only [Option.getD];omega)
theorem Zr3 {m:Md} (h:(Zl6 m).2.2=0) {k:Nat} (hk:k<m.me.length) {a b:Nat} (hs:Seg (cdM m k) a b):WA (GR Zmx false m (ZmC (gR false Zmx m) m m.me.length)) (cdM m k) a b 0=WA (gW Zmx m fun t=>(ZmC (gW Zmx m) m k).getD t.toNat 0) (cdM m k) a b 0:=by
 have hm:=(Zqo h).1
 have hok:=ZfN hm hk
 exact (ZpQ (k:=k) (fun i hi=>hok.i i hi) ((Zqo h).2 k hk) (fun i hi=>ZoD (hok.i i hi).1) (by decide) (fun q=>by cases q) (fun t h0 h1=>Zr0 h hk t h0 h1) (Zr1 hm k) hs 0 (by unfold Bd;omega)).1
theorem Zr4 (m:Md) (h:Hd) (k p en:Nat) (w:World) (H:Zay w h m) (hmo:(Zl6 m).2.2=0) (hk:k<m.me.length) (hm:Mat (cdM m k) p (-1) en) (hs:Seg (cdM m k) (p+1) en):Calls Tryz.prog 22 #[.agg #[.slice h.co m.cl.length h.cc,.slice h.so m.st.length h.sc,.slice h.eo m.me.length h.ec,.int .i64 m.sel],.int .i64 k,.int .i64 p] w (Ret w (.int .i64 (WA (gW Zmx m fun t=>(ZmC (gW Zmx m) m k).getD t.toNat 0) (cdM m k) (p+1) en 0))):=by
 rw [←Zr3 hmo hk hs]
 obtain ⟨w0,hw0⟩:∃ w0,w0=w.alloc (.cells #[.slice h.co m.cl.length h.cc,.slice h.so m.st.length h.sc,.slice h.eo m.me.length h.ec,.int .i64 m.sel] 26):=⟨_,rfl⟩
 have HB:=Zh (show Below w.heap.size w w0 by rw [hw0];exact bE)
 have HX:=Zh (show Blk w0 w.heap.size #[.slice h.co m.cl.length h.cc,.slice h.so m.st.length h.sc,.slice h.eo m.me.length h.ec,.int .i64 m.sel] 26 by rw [hw0];exact Blk.new _ _ _)
 have HM:=Zh (H.old HB.out)
 have HW:=Zh hw0
 have HT:=Zh (fun w' hb=>ZrR (ZrP hmo) false h w' (HM.out.old (w':=w') hb))
 have hcv:ZaV false (cdM m k)=0:=(ZoS (Zqo hmo).1 w).code hk
 have HMt:=Zh (fun w' hb=>ZpV (cdM m k) (h.e k).ko (h.e k).kc w' ((HM.out.old (w':=w') hb).k k hk) hcv hm)
 have HP:=Zh (fun B g w' hR=>Zqw (B:=B) (g:=g) (h:=h) ((ZrP hmo).at (l:=false) (L:=ZmC (gR false Zmx m) m m.me.length) hk (Zr2 hmo)) (cdM m k).length (p+1) en (by omega) hs w' hR)
 have hpl:=hm.1
 have hcl:(cdM m k).length≤120:=(ZfN (Zqo hmo).1 hk).z.2.2
 have hwp:IntKind.i64.wrap ((p:Int)+1)=((p+1:Nat):Int):=IntWalk.i64_in _ (by omega)
 have hk2:(k:Int) < m.me.length:=by omega
 generalize WA (GR Zmx false m (ZmC (gR false Zmx m) m m.me.length)) (cdM m k) (p+1) en 0=v at HP ⊢
 obtain ⟨ea,he,-,-,-,-,-,-,e6⟩:=HM.out.mth hk
 rw [show (m.me.getD k default).k.length=(cdM m k).length from rfl] at e6
 have HEa:=Zh he
 clear hw0 H hmo hm hs hcv hpl he
 go_enter Tryz.func22,Tryz.ntmps22
 go_upto_region 1 with fail
 rw [←HW.out]
 have x2:=HX.out.cell 2 (v:=.slice h.eo m.me.length h.ec) rfl
 rw [HEa.out] at x2
 go_upto_region 5 with (go_at_call 47;refine (HMt.out _ (Below.refl _ _)).mono ?_;rintro e w1 ⟨rfl,hb1⟩;have HB1:=Zh hb1;clear hb1)
 clear x2 e6
 have x0:=(HX.out.old HB1.out).cell 0 (v:=.slice h.co m.cl.length h.cc) rfl;have x1:=(HX.out.old HB1.out).cell 1 (v:=.slice h.so m.st.length h.sc) rfl;have x2:=(HX.out.old HB1.out).cell 2 (v:=.slice h.eo m.me.length h.ec) rfl;have x3:=(HX.out.old HB1.out).cell 3 (v:=.int .i64 m.sel) rfl
 go_wp2_with (first
  | (go_at_call 55;refine (HT.out _ HB1.out).mono ?_;rintro e w2 ⟨⟨B,g,rfl,hR⟩,hb2⟩;have HB2:=Zh (Zaf HB1.out hb2);have HR:=Zh hR;clear hb2 hR x0 x1 x2 x3)
  | (go_at_call 56;refine (HP.out B g _ HR.out).mono ?_;rintro e w3 ⟨rfl,hb3⟩))
 go_ret
 exact ZcT rfl (Zaf HB.out (Zaf HB2.out hb3))
end
section
open Go.RowKit
theorem ZqG.bump {w:World}{N:Nat}{h:Hd}{m:Md} (H:ZqG w N h m) (hd:CpD h.e m.me.length) {kk p:Nat} (hk:kk<m.me.length) (hp:p<(cdM m kk).length) :
  ∃ g,(h.e kk).ko=some ⟨g,0,none⟩∧N≤g∧w.frozen? ⟨g,p*3+1,none⟩=false∧Below N w (w.setCell ⟨g,p*3+1,none⟩ (.int .i64 (((cdM m kk).getD p default).a+1)))∧(∀ {b:Nat}{xs:Array Value}{t:TypeId},Blk w b xs t→t≠42→Blk (w.setCell ⟨g,p*3+1,none⟩ (.int .i64 (((cdM m kk).getD p default).a+1))) b xs t)∧ZqG (w.setCell ⟨g,p*3+1,none⟩ (.int .i64 (((cdM m kk).getD p default).a+1))) N h (ZrD m kk p):=by
 have hko:w.ownsRow N 42 3 (.slice (h.e kk).ko (cdM m kk).length (h.e kk).kc) (cdM m kk).length (Zak (cdM m kk)):=(H.m kk hk).k
 obtain ⟨g,hg⟩:=Zai hko (by omega)
 have hk2:=hko
 rw [hg] at hk2
 have hN:=(hk2.lt g rfl).1
 obtain ⟨c,cur,hcur⟩:∃ (c:Nat) (cur:Array Value),Blk w g cur 42:=by
  rcases hk2.2 with ⟨hv,_⟩|⟨g',c,cur,hv,hb,hgg,_⟩
  ·cases hv
  ·cases hv;exact ⟨0,cur,hgg⟩
 have hkp:Kp [42] N w (w.setCell ⟨g,p*3+1,none⟩ (.int .i64 (((cdM m kk).getD p default).a+1))):=(Kp.refl _ N w).set hcur (by decide) hN _ _
 refine ⟨g,hg,hN,ZqK hk2 _,hkp.bw,fun {b xs t} hb ht=>Blk.other hb (fun q=>?_) _,?_⟩
 ·exact kC3
 ·refine ⟨hkp.own H.cl,hkp.own H.st,?_,fun i hi=>(H.c i hi).kp hkp,fun i hi=>?_⟩
  ·have h9:=hkp.own H.me
   have e1:Zav h (ZrD m kk p)=(Zav h m).set kk ({ m.me.getD kk default with k:=Zrn (cdM m kk) p },h.e kk):=by
    refine List.ext_getElem? fun i=>?_
    simp only [Zav,ZrD,ZqN,List.getElem?_mapIdx,List.getElem?_set,List.length_mapIdx]
    by_cases q:kk=i
    ·subst q
     simp [hk]
    ·rw [if_neg q,if_neg q]
   have e2:Zak (Zav h (ZrD m kk p))=Zak (Zav h m):=by
    rw [e1,ZqL (.slice (h.e kk).ko (cdM m kk).length (h.e kk).kc) _ 6 (Zav h m) kk (by rw [Zax];exact hk) (by decide) (by
     simp only [Zav,List.getElem_mapIdx]
     show [_,_,_,_,_,_,Value.slice (h.e kk).ko (Zrn (cdM m kk) p).length (h.e kk).kc]=_
     rw [Zro]
     simp [hk]
     rfl)]
    have hu:(Zak (Zav h m))[kk*7+6]?=some (.slice (h.e kk).ko (cdM m kk).length (h.e kk).kc):=by
     have hx:=Zap (Zav h m) (i:=kk) (j:=6) (by rw [Zax];exact hk) (by decide)
     have hr:(Zav h m)[kk]'(by rw [Zax];exact hk)=(m.me.getD kk default,h.e kk):=by simp [Zav,hk]
     rw [show kk*7+6=kk*Cells.n (Mth × MHd)+6 from rfl,hx,hr]
     rfl
    obtain ⟨hlt,he⟩:=List.getElem?_eq_some_iff.1 hu
    rw [←he]
    exact List.set_getElem_self hlt
   show World.ownsRow _ N _ 7 (.slice h.eo (ZrD m kk p).me.length h.ec) (ZrD m kk p).me.length _
   rw [e2,show (ZrD m kk p).me.length=m.me.length by simp [ZrD,ZqN]]
   exact h9
  ·have hi':i<m.me.length:=by simpa [ZrD,ZqN] using hi
   unfold ZrD
   rw [ZqP hk]
   have hm:=H.m i hi'
   by_cases q:i=kk
   ·subst q
    rw [if_pos rfl]
    refine ⟨hkp.own hm.p,hkp.own hm.l,?_⟩
    have h9:=ZqJ hk2 (p*3+1) (.int .i64 (((cdM m i).getD p default).a+1))
    have hfs:Zak (Zrn (cdM m i) p)=(Zak (cdM m i)).set (p*3+1) (.int .i64 (((cdM m i).getD p default).a+1)):=ZqL (.int .i64 (((cdM m i).getD p default).a+1)) (upI ((cdM m i).getD p default)) 1 (cdM m i) p hp (by decide) (by simp [hp];rfl)
    rw [←hg,←hfs] at h9
    show World.ownsRow _ N _ 3 (.slice (h.e i).ko (Zrn (cdM m i) p).length (h.e i).kc) (Zrn (cdM m i) p).length (Zak (Zrn (cdM m i) p))
    rw [Zro]
    exact h9
   ·rw [if_neg q]
    refine ⟨hkp.own hm.p,hkp.own hm.l,ownsRow_setCell_other hm.k (fun e=>?_) _⟩
    rcases hki:(h.e i).ko with _|a
    ·rw [hki] at e;cases e
    ·rw [hki] at e
     have e':a.block=g:=Option.some.inj e
     rcases Nat.lt_or_gt_of_ne q with hl|hl
     ·exact hd i kk hl hk a _ hki hg e'
     ·exact hd kk i hl hi' _ a hg hki e'.symm
end
section
open Go.RowKit
theorem Zr5 {m:Md}{k:Int} (h:ZoO m k=true):((ZoR m k).2=0∧(ZoR m k).1=ZmD (gW Zmx m) m k.toNat∧ZmD (gW Zmx m) m k.toNat≤1000000000)∨((ZoR m k).2=6∧1000000000<ZmD (gW Zmx m) m k.toNat):=by
 unfold ZoR
 rw [if_pos h]
 by_cases h1:1000000000<ZmD (gW Zmx m) m k.toNat
 ·rw [if_pos h1];exact .inr ⟨rfl,h1⟩
 ·rw [if_neg h1];exact .inl ⟨rfl,rfl,by omega⟩
attribute [local go_sem] ZqM
theorem Zr6 (m:Md) (h:Hd) (k q:Int) (w:World) (H:Zay w h m):Calls Tryz.prog 5 #[.agg #[.slice h.co m.cl.length h.cc,.slice h.so m.st.length h.sc,.slice h.eo m.me.length h.ec,.int .i64 m.sel],.int .i64 k,.int .i64 q] w (Ret w (.bool true)):=by
 rcases hrd:ZoO m k with _|_
 ·obtain ⟨w0,hw0⟩:∃ w0,w0=w.alloc (.cells #[.slice h.co m.cl.length h.cc,.slice h.so m.st.length h.sc,.slice h.eo m.me.length h.ec,.int .i64 m.sel] 26):=⟨_,rfl⟩
  have HB:=Zh (show Below w.heap.size w w0 by rw [hw0];exact bE)
  have HX:=Zh (show Blk w0 w.heap.size #[.slice h.co m.cl.length h.cc,.slice h.so m.st.length h.sc,.slice h.eo m.me.length h.ec,.int .i64 m.sel] 26 by rw [hw0];exact Blk.new _ _ _)
  have HM:=Zh (H.old HB.out)
  have HW:=Zh hw0
  have HRd:=Zh hrd
  clear hw0 H hrd
  go_enter Tryz.func5,Tryz.ntmps5
  go_upto_region 1 with fail
  rw [←HW.out]
  have x0:=HX.out.cell 0 (v:=.slice h.co m.cl.length h.cc) rfl
  have x1:=HX.out.cell 1 (v:=.slice h.so m.st.length h.sc) rfl
  have x2:=HX.out.cell 2 (v:=.slice h.eo m.me.length h.ec) rfl
  have x3:=HX.out.cell 3 (v:=.int .i64 m.sel) rfl
  go_wp2_with (first
   | (go_at_call 18;refine (ZrV m h k _ HM.out).mono ?_;rintro e w1 ⟨⟨b,rfl,hfb⟩,hb1⟩;obtain rfl:b=false:=(by cases b;exact rfl;exact absurd (hfb rfl) (by rw [HRd.out];decide));have HB1:=Zh hb1;clear hfb hb1 x0 x1 x2 x3)
   | (go_at_call 12;refine (ZpD _).mono ?_;rintro e w2 ⟨rfl,hb2⟩))
  go_ret
  exact ZcT rfl (Zaf HB.out (Zaf HB1.out hb2))
 obtain ⟨hm,hk0,hk1⟩:=ZoP hrd
 have hmo:(Zl6 m).2.2=0:=ZrS hrd
 obtain ⟨k,rfl⟩:∃ d:Nat,k=d:=⟨k.toNat,by omega⟩
 have hkl:k<m.me.length:=by omega
 have hkl2:(k:Int) < m.me.length:=by omega
 obtain ⟨ea,he,-,-,-,-,-,-,e6⟩:=H.mth hkl
 rw [show (m.me.getD k default).k.length=(cdM m k).length from rfl] at e6
 obtain ⟨w0,hw0⟩:∃ w0,w0=w.alloc (.cells #[.slice h.co m.cl.length h.cc,.slice h.so m.st.length h.sc,.slice h.eo m.me.length h.ec,.int .i64 m.sel] 26):=⟨_,rfl⟩
 have hb0:Below w.heap.size w w0:=by rw [hw0];exact bE
 have hx:Blk w0 w.heap.size #[.slice h.co m.cl.length h.cc,.slice h.so m.st.length h.sc,.slice h.eo m.me.length h.ec,.int .i64 m.sel] 26:=by rw [hw0];exact Blk.new _ _ _
 have HB:=Zh hb0
 have HM:=Zh (H.old hb0)
 have HEa:=Zh he
 have e6:=(hb0.cell (Zac e6)).trans e6
 have hok:=ZfN hm hkl
 have hcl:(cdM m k).length≤120:=hok.z.2.2
 have hf:=ZrV m h k w0 HM.out
 rw [he] at hf hw0 hx ⊢
 have HF:=Zh hf
 have HX:=Zh hx
 have HW:=Zh hw0
 have HKo:=Zh (show ∀ w',Below w0.heap.size w0 w'→Zar w' (h.e k).ko (h.e k).kc (cdM m k) from fun w' hb=>(HM.out.old hb).k k hkl)
 clear hb0 hx hw0 hf he H
 by_cases hq:0≤q∧q<(cdM m k).length
 rotate_left
 ·have hq2:q<0∨(¬ q<0∧q ≥ (cdM m k).length):=by omega
  clear hq hok hm hrd hmo
  rcases hq2 with hq|⟨hq,hqb⟩
  all_goals
   go_enter Tryz.func5,Tryz.ntmps5
   go_upto_region 1 with fail
   rw [←HW.out]
   have x0:=HX.out.cell 0 (v:=.slice h.co m.cl.length h.cc) rfl
   have x1:=HX.out.cell 1 (v:=.slice h.so m.st.length h.sc) rfl
   have x2:=HX.out.cell 2 (v:=.slice (some ea) m.me.length h.ec) rfl
   have x3:=HX.out.cell 3 (v:=.int .i64 m.sel) rfl
   go_wp2_with (first
    | (go_at_call 18;refine HF.out.mono ?_;rintro e w1 ⟨⟨b,rfl,-⟩,hb1⟩;have HB1:=Zh hb1;have x2:=(hb1.cell (Zac x2)).trans x2;have e6:=(hb1.cell (Zac e6)).trans e6;clear hb1 x0 x1 x3)
    | (go_at_call 12;refine (ZpD _).mono ?_;rintro e w2 ⟨rfl,hb2⟩))
   all_goals
    go_ret
    exact ZcT rfl (Zaf HB.out (Zaf HB1.out hb2))
 obtain ⟨p,rfl⟩:∃ d:Nat,q=d:=⟨q.toNat,by omega⟩
 have hpl:p<(cdM m k).length:=by omega
 have hp0:¬ (p:Int) < 0:=by omega
 have hpl2:¬ (p:Int) ≥ (cdM m k).length:=by omega
 have hpl3:(p:Int) < (cdM m k).length:=by omega
 clear hq
 obtain ⟨ca,hca,o0,o1,-⟩:=ZaA (HKo.out _ (Below.refl _ _)) hpl
 rw [hca] at e6
 obtain ⟨op,hop⟩:∃ op,op=((cdM m k).getD p default).op:=⟨_,rfl⟩
 obtain ⟨ia,hia⟩:∃ a,a=((cdM m k).getD p default).a:=⟨_,rfl⟩
 rw [←hop] at o0
 rw [←hia] at o1
 by_cases hl:op=30∧¬ ia ≥ 50
 rotate_left
 ·have hl2:op≠30∨(op=30∧ia ≥ 50):=by omega
  clear hl hok hm hrd hmo hop hia hca
  rcases hl2 with hq|⟨rfl,hqb⟩
  all_goals
   go_enter Tryz.func5,Tryz.ntmps5
   go_upto_region 1 with fail
   rw [←HW.out]
   have x0:=HX.out.cell 0 (v:=.slice h.co m.cl.length h.cc) rfl
   have x1:=HX.out.cell 1 (v:=.slice h.so m.st.length h.sc) rfl
   have x2:=HX.out.cell 2 (v:=.slice (some ea) m.me.length h.ec) rfl
   have x3:=HX.out.cell 3 (v:=.int .i64 m.sel) rfl
   go_wp2_with (first
    | (go_at_call 18;refine HF.out.mono ?_;rintro e w1 ⟨⟨b,rfl,-⟩,hb1⟩;have HB1:=Zh hb1;have x2:=(hb1.cell (Zac x2)).trans x2;have e6:=(hb1.cell (Zac e6)).trans e6;have o0:=(hb1.cell (Zac o0)).trans o0;have o1:=(hb1.cell (Zac o1)).trans o1;clear hb1 x0 x1 x3)
    | (go_at_call 12;refine (ZpD _).mono ?_;rintro e w2 ⟨rfl,hb2⟩))
   all_goals
    go_ret
    exact ZcT rfl (Zaf HB.out (Zaf HB1.out hb2))
 obtain ⟨rfl,ha50⟩:=hl
 have hcv:ZaV false (cdM m k)=0:=(ZoS hm w).code hkl
 have hia0:0≤ia:=by
  have hh:=hok.i ((cdM m k).getD p default) (ZfU (l:=cdM m k) default hpl)
  rw [hia];exact (ZfS hh.1 hh.2).a0 (by omega)
 have hwa:IntKind.i64.wrap (ia+1)=ia+1:=IntWalk.i64_in _ (by omega)
 have HHop:=Zh hop
 have HHia:=Zh hia
 have HHca:=Zh hca
 have HRd:=Zh hrd
 have HMo:=Zh hmo
 have HMv:=Zh hm
 have HOk:=Zh hok
 have HOp:=Zh (show ∀ w',Below w0.heap.size w0 w'→_ from fun w' hb=>by have:=ZrZ (cdM m k) (h.e k).ko (h.e k).kc w' (HKo.out _ hb) hcv p hpl;rwa [hca] at this)
 have HCp:=Zh (show ∀ w',Below w0.heap.size w0 w'→_ from fun w' hb=>by have:=Zrj w' h m (HM.out.old hb) (Zq6 hm);rwa [HEa.out] at this)
 have HSm:=Zh (Zq6 (ZrH hkl hpl hop.symm hm (by omega)))
 have HSm0:=Zh (Zq6 hm)
 obtain ⟨⟨ra,re⟩,hq1⟩:∃ q,q=ZoR m k:=⟨_,rfl⟩
 obtain ⟨⟨rb,rf⟩,hq2⟩:∃ q,q=ZoR (ZrD m k p) k:=⟨_,rfl⟩
 have HNl:=Zh (show (ZrD m k p).me.length=m.me.length by simp [ZrD,ZqN])
 have HWo:=Zh (show ∀ w',Below w0.heap.size w0 w'→_ from fun w' hb=>by have:=ZoT m h k w' (HM.out.old hb);rw [←hq1,HEa.out] at this;exact this)
 have HWn:=Zh (show ∀ w' h',Zay w' h' (ZrD m k p)→_ from fun w' h' H'=>by have:=ZoT (ZrD m k p) h' k w' H';rwa [←hq2] at this)
 have HQ:=Zh (And.intro hq1 hq2)
 clear hop hia hca hrd hmo hm hok hcv hq1 hq2
 go_enter Tryz.func5,Tryz.ntmps5
 go_upto_region 1 with fail
 rw [←HW.out]
 have x0:=HX.out.cell 0 (v:=.slice h.co m.cl.length h.cc) rfl
 have x1:=HX.out.cell 1 (v:=.slice h.so m.st.length h.sc) rfl
 have x2:=HX.out.cell 2 (v:=.slice (some ea) m.me.length h.ec) rfl
 have x3:=HX.out.cell 3 (v:=.int .i64 m.sel) rfl
 go_upto_region 3 with (first
  | (go_at_call 18;refine HF.out.mono ?_;rintro e w1 ⟨⟨b,rfl,-⟩,hb1⟩;have HB1:=Zh hb1;have x2:=(hb1.cell (Zac x2)).trans x2;have e6:=(hb1.cell (Zac e6)).trans e6;have o0:=(hb1.cell (Zac o0)).trans o0;have o1:=(hb1.cell (Zac o1)).trans o1;clear hb1 x0 x1 x3)
  | (go_at_call 12;refine (ZpD _).mono ?_;rintro e w2 ⟨rfl,hb2⟩))
 all_goals try (go_ret;exact ZcT rfl (Zaf HB.out (Zaf HB1.out hb2)))
 obtain ⟨ar,har⟩:∃ a,a=arV (cdM m k) p p:=⟨_,rfl⟩
 have HAr:=Zh har
 rw [←har] at HOp
 clear har
 by_cases harn:ar<0
 rotate_left
 ·rw [if_neg harn,if_neg harn] at HOp
  go_wp2_with (first
   | (go_at_call 21;refine (HOp.out _ HB1.out).mono ?_;rintro e w2 ⟨rfl,hb2⟩;have HB2:=Zh (Zaf HB1.out hb2);clear hb2)
   | (go_at_call 12;refine (ZpD _).mono ?_;rintro e w3 ⟨rfl,hb3⟩))
  go_ret
  exact ZcT rfl (Zaf HB.out (Zaf HB2.out hb3))
 rw [if_pos harn,if_pos harn] at HOp
 have HArn:=Zh harn
 clear harn
 go_upto_region 6 with (first
  | (go_at_call 21;refine (HOp.out _ HB1.out).mono ?_;rintro e w2 ⟨rfl,hb2⟩;have HB2:=Zh (Zaf HB1.out hb2);clear hb2 x2 e6 o0 o1)
  | (go_at_call 12;refine (ZpD _).mono ?_;rintro e w3 ⟨rfl,hb3⟩))
 have x0:=(HX.out.old HB2.out).cell 0 (v:=.slice h.co m.cl.length h.cc) rfl
 have x1:=(HX.out.old HB2.out).cell 1 (v:=.slice h.so m.st.length h.sc) rfl
 have x2:=(HX.out.old HB2.out).cell 2 (v:=.slice (some ea) m.me.length h.ec) rfl
 have x3:=(HX.out.old HB2.out).cell 3 (v:=.int .i64 m.sel) rfl
 go_upto_region 7 with (go_at_call 19;refine (HCp.out _ HB2.out).mono ?_;rintro r w3 ⟨h2,rfl,hcp,hb3,hcd⟩;have HC2:=Zh hcp;have HB3:=Zh hb3;have HCd:=Zh hcd;clear hcp hb3 hcd x0 x1 x2 x3)
 obtain ⟨W3,hW3⟩:∃ W3,W3=w3.alloc (.cells #[.slice h2.co m.cl.length h2.cc,.slice h2.so m.st.length h2.sc,.slice h2.eo m.me.length h2.ec,.int .i64 m.sel] 26):=⟨_,rfl⟩
 have hnb:Blk W3 w3.heap.size #[.slice h2.co m.cl.length h2.cc,.slice h2.so m.st.length h2.sc,.slice h2.eo m.me.length h2.ec,.int .i64 m.sel] 26:=by rw [hW3];exact Blk.new w3 _ _
 have hb4:Below w3.heap.size w3 W3:=by rw [hW3];exact bE
 rw [←hW3]
 have HNb:=Zh hnb
 have HB4:=Zh (Zaf HB2.out (Zaf HB3.out hb4))
 have HC3:=Zh (HC2.out.old hb4)
 have hg02:=HB2.out.size
 clear hW3 hnb hb4
 generalize w3.heap.size=NB at HNb ⊢
 have n2:=HNb.out.cell 2 (v:=.slice h2.eo m.me.length h2.ec) rfl
 obtain ⟨g,hg⟩:=Zai HC3.out.me (by omega)
 obtain ⟨ad5,had5,-,-,-,-,-,-,z6⟩:=(HC3.out.at_ HSm0.out).mth hkl
 rw [hg] at had5 n2
 cases had5
 simp only [ZqM] at z6
 obtain ⟨gk,hgk,hNg,hfz,hbw,hblk,hcp5⟩:=HC3.out.bump HCd.out hkl hpl
 rw [show (m.me.getD k default).k.length=(cdM m k).length from rfl,hgk] at z6
 obtain ⟨ca2,hca2,-,u1,-⟩:=ZaA (show Zar W3 (h2.e k).ko (h2.e k).kc (cdM m k) from (HC3.out.at_ HSm0.out).k k hkl) hpl
 obtain rfl:⟨gk,0,none⟩=ca2:=by rw [hgk] at hca2;cases hca2;rfl
 rw [←HHia.out] at u1 hbw hcp5
 simp only [ZqM] at u1
 have HK5:=Zh hcp5
 have HNb5:=Zh (hblk HNb.out (by decide))
 have HX5:=Zh (hblk (HX.out.old HB4.out) (by decide))
 rw [←HHia.out] at HNb5 HX5
 have HBW5:=Zh (HB4.out.trans (hbw.mono hg02))
 clear hcp5 hbw hblk hNg hca2 hg hgk
 go_upto_region 8 with fail
 clear n2 z6 u1 hfz
 generalize W3.setCell _ _=w5 at HK5 HNb5 HX5 HBW5 ⊢
 have x0:=HX5.out.cell 0 (v:=.slice h.co m.cl.length h.cc) rfl;have x1:=HX5.out.cell 1 (v:=.slice h.so m.st.length h.sc) rfl;have x2:=HX5.out.cell 2 (v:=.slice (some ea) m.me.length h.ec) rfl;have x3:=HX5.out.cell 3 (v:=.int .i64 m.sel) rfl
 go_upto_region 9 with (go_at_call 17;refine (HWo.out _ HBW5.out).mono ?_;rintro e w6 ⟨rfl,hb6⟩;have HB6:=Zh hb6;clear hb6 x0 x1 x2 x3)
 have n0:=(HNb5.out.old HB6.out).cell 0 (v:=.slice h2.co m.cl.length h2.cc) rfl
 have n1:=(HNb5.out.old HB6.out).cell 1 (v:=.slice h2.so m.st.length h2.sc) rfl
 have n2:=(HNb5.out.old HB6.out).cell 2 (v:=.slice h2.eo m.me.length h2.ec) rfl
 have n3:=(HNb5.out.old HB6.out).cell 3 (v:=.int .i64 m.sel) rfl
 have hn7:=HWn.out w6 h2 ((HK5.out.old HB6.out).at_ HSm.out)
 rw [HNl.out] at hn7
 have HN7:=Zh (show Calls Tryz.prog 17 #[.agg #[.slice h2.co m.cl.length h2.cc,.slice h2.so m.st.length h2.sc,.slice h2.eo m.me.length h2.ec,.int .i64 m.sel],.int .i64 k] w6 _ from hn7)
 clear hn7
 go_upto_region 10 with (go_at_call 17;refine HN7.out.mono ?_;rintro e w7 ⟨rfl,hb7⟩;have HB7:=Zh (Zaf HB6.out hb7);clear hb7 n0 n1 n2 n3)
 have HBW7:=Zh (Zaf HBW5.out HB7.out)
 have HX7:=Zh (HX5.out.old HB7.out)
 obtain ⟨en,hmt,hsg⟩:=ZrX (Zmg HOk.out.n:Seg (cdM m k) 0 (cdM m k).length) p (Nat.zero_le _) hpl HHop.out.symm
 have hlaw:=ZrJ hkl hpl HHop.out.symm HMv.out hmt (ZrW p (HAr.out▸HArn.out))
 have HBd:=Zh (show ∀ w',Below w0.heap.size w0 w'→_ from fun w' hb=>by have:=Zr4 m h k p en w' (HM.out.old hb) HMo.out hkl hmt hsg;rw [HEa.out] at this;exact this)
 have hcb:Bd (WA (gW Zmx m fun t=>(ZmC (gW Zmx m) m k).getD t.toNat 0) (cdM m k) (p+1) en 0):=ZnH (x:=Zmx) (m:=m) (fun i hi=>ZoD (HOk.out.i i hi).1) (by decide) (Zr1 HMv.out k) (fun i hi=>(ZfS (HOk.out.i i hi).1 (HOk.out.i i hi).2).a0) hsg 0 (by unfold Bd;omega)
 generalize WA (gW Zmx m fun t=>(ZmC (gW Zmx m) m k).getD t.toNat 0) (cdM m k) (p+1) en 0=B at hlaw HBd hcb
 have hrn:ZoO (ZrD m k p) k=true:=by
  unfold ZoO inV
  rw [ZrI hkl hpl HHop.out.symm HMo.out (by have:=HHia.out;omega),HNl.out]
  simp
  omega
 have h1:=Zr5 HRd.out
 have h2':=Zr5 hrn
 rw [←HQ.out.1,Int.toNat_natCast] at h1
 rw [←HQ.out.2,Int.toNat_natCast] at h2'
 dsimp only at h1 h2'
 have hva:Bd (ZmD (gW Zmx m) m k):=ZoI HMv.out (x:=Zmx) (fun k hk i hi=>ZoD ((ZfN HMv.out hk).i i hi).1) (by decide) (k+1) k (by omega)
 have hall:(re=0∧rf=0∧rb=ra+B+1∧0≤ra∧ra≤1000000000)∨(re=0∧rf=6)∨(re=6∧rf=6):=by
  obtain ⟨l1,l2⟩:=hlaw
  unfold Bd at hva
  rcases h1 with ⟨a1,a2,a3⟩|⟨a1,a2⟩
  ·rcases h2' with ⟨b1,b2,b3⟩|⟨b1,b2⟩
   ·have:=l2 b3
    exact .inl ⟨a1,b1,by omega,by omega,by omega⟩
   ·exact .inr (.inl ⟨a1,b1⟩)
  ·rcases h2' with ⟨b1,b2,b3⟩|⟨b1,b2⟩
   ·omega
   ·exact .inr (.inr ⟨a1,b1⟩)
 have HAll:=Zh hall
 clear hmt hsg hlaw hrn h1 h2' hva hall
 rcases HAll.out with ⟨rfl,rfl,hbb,q1,q2⟩|⟨rfl,rfl⟩|⟨rfl,rfl⟩
 rotate_left
 iterate 2
  ·go_wp2_with (go_at_call 12;refine (ZpD _).mono ?_;rintro e w9 ⟨rfl,hb9⟩)
   go_ret
   exact ZcT rfl (Zaf HB.out (Zaf HBW7.out hb9))
 unfold Bd at hcb
 have hw1:IntKind.i64.wrap (ra+B)=ra+B:=IntWalk.i64_in _ (by omega)
 have hw2:IntKind.i64.wrap (ra+B+1)=ra+B+1:=IntWalk.i64_in _ (by omega)
 have x0:=HX7.out.cell 0 (v:=.slice h.co m.cl.length h.cc) rfl;have x1:=HX7.out.cell 1 (v:=.slice h.so m.st.length h.sc) rfl;have x2:=HX7.out.cell 2 (v:=.slice (some ea) m.me.length h.ec) rfl;have x3:=HX7.out.cell 3 (v:=.int .i64 m.sel) rfl
 go_wp2_with (first
  | (go_at_call 22;refine (HBd.out _ HBW7.out).mono ?_;rintro e w8 ⟨rfl,hb8⟩;have HB8:=Zh (Zaf HBW7.out hb8);clear hb8 x0 x1 x2 x3)
  | (go_at_call 12;refine (ZpD _).mono ?_;rintro e w9 ⟨rfl,hb9⟩))
 go_ret
 exact ZcT rfl (Zaf HB.out (Zaf HB8.out hb9))
end
end Go.Proofs.YtfkbfjhocmbneaaGreat
