/- bound.rest, Rest: the program's. (printed by gen_brest.py) -/
import Derived.Test.YtfkbfjhocmbneaaGreatS36
import Derived.Test.YtfkbfjhocmbneaaGreatS34
set_option linter.all false
set_option linter.unusedVariables false
set_option linter.unusedSimpArgs false
set_option maxRecDepth 100000
set_option maxHeartbeats 16000000
namespace Go.Proofs.YtfkbfjhocmbneaaGreat
theorem kC0{p:Prop}(h:p:=by
 have HA9:=Zh (fun w'=>Znb u0 y1 w' hb0 hb1)
 rw [hv] at HA9
 have HIo:=Zh (And.intro o0 (And.intro o1 o2))
 have hpat:(p:Int) < at_:=by omega
 have hpe:¬ (p:Int)=at_:=by omega
 have hate:(at_:Int)≤en:=by omega
 clear hv hn hnd hnx hi HRe HLs HL hu0 hr1 hbr hy1 hb1 hb0 hmt hia
 go_upto_region 10 with (go_at_call 87;refine (HWb.out _ (Upd.of (Zaf HBr.out (show Below wr.heap.size wr _ by exact bE))) (HKn.out _ (Zaf HBr.out (show Below wr.heap.size wr _ by exact bE)))).mono ?_;rintro e w2 ⟨rfl,hu2,hn2⟩;have hk2:=Znv.upd (HKn.out _ (Zaf HBr.out (show Below wr.heap.size wr _ by exact bE))).map hu2;have HU2:=Zh ((Upd.of (Zaf HBr.out (show Below wr.heap.size wr _ by exact bE))).trans hu2);have HN2:=Zh hn2;have z0:=hk2 _ _ (HBk.out.cell 0 rfl);have z1:=hk2 _ _ (HBk.out.cell 1 rfl);have z2:=hk2 _ _ (HBk.out.cell 2 rfl);have z3:=hk2 _ _ (HBk.out.cell 3 rfl);have z4:=hk2 _ _ (HBk.out.cell 4 rfl);have o0:=hk2 _ _ (Znv.of (show Below wr.heap.size wr _ by exact bE) _ _ HIo.out.1);have o1:=hk2 _ _ (Znv.of (show Below wr.heap.size wr _ by exact bE) _ _ HIo.out.2.1);have o2:=hk2 _ _ (Znv.of (show Below wr.heap.size wr _ by exact bE) _ _ HIo.out.2.2);clear hu2 hn2 hk2)
 obtain ⟨w3,hw3⟩:∃ x,x=w2.alloc (.cells #[.int .i64 op,.int .i64 ia,.int .i64 ib] 42):=⟨_,rfl⟩
 rw [←hw3]
 obtain ⟨b3,hb3⟩:∃ x,x=w2.heap.size:=⟨_,rfl⟩
 rw [←hb3]
 have hk3:Znv w2 w3:=by rw [hw3];exact Znv.of bE
 have HU3:=Zh (show Upd M M w w3 by rw [hw3];exact HU2.out.alloc _)
 have HN3:=Zh (show KnM (ZmD (gW Zmx m) m) w3 M (fun j=>Q j∨j<k) by rw [hw3];exact HN2.out.old bE)
 have HBi:=Zh (show Blk w3 b3 #[.int .i64 op,.int .i64 ia,.int .i64 ib] 42 by rw [hw3,hb3];exact Blk.new _ _ _)
 have z1:=hk3 _ _ z1
 have z3:=hk3 _ _ z3
 have z4:=hk3 _ _ z4
 have i0:=HBi.out.cell 0 (v:=.int .i64 op) rfl
 have i1:=HBi.out.cell 1 (v:=.int .i64 ia) rfl
 clear hw3 hb3 hk3 z0 z2 o0 o1 o2
 go_wp2_with (first
  | (go_at_call 97;refine (HA9.out _).mono ?_;rintro e w6 ⟨rfl,hb6⟩;have hk6:=Znv.of hb6;have HU6:=Zh (HU5.out.bel hb6);have HN6:=Zh (HN5.out.old hb6);have z3:=hk6 _ _ z3;have z4:=hk6 _ _ z4;have i0:=hk6 _ _ i0;have i1:=hk6 _ _ i1;clear hb6 hk6)
  | (go_at_call 97;refine (HA1.out _).mono ?_;rintro e w5 ⟨rfl,hb5⟩;have hk5:=Znv.of hb5;have HU5:=Zh (HU4.out.bel hb5);have HN5:=Zh (HN4.out.old hb5);have z3:=hk5 _ _ z3;have z4:=hk5 _ _ z4;have i0:=hk5 _ _ i0;have i1:=hk5 _ _ i1;clear hb5 hk5)
  | (go_at_call 65;refine (HRc.out _ HU3.out HN3.out).mono ?_;rintro e w4 ⟨rfl,hu4,hn4⟩;have hk4:=Znv.upd HN3.out.map hu4;have HU4:=Zh (HU3.out.trans hu4);have HN4:=Zh hn4;have z3:=hk4 _ _ z3;have z4:=hk4 _ _ z4;have i0:=hk4 _ _ i0;have i1:=hk4 _ _ i1;clear hu4 hn4 hk4))
 all_goals
  go_ret
  exact ⟨rfl,HU6.out,HN6.out⟩):p:=h
theorem kC2{p:Prop}(h:p:=by
 have hmtl:=ZbI hmt
 rw [Zrk (by have:=hnx.le;have:=ZbI hmt;omega) hpa hmt hin] at hv
 have HX:=Zh (And.intro hnx (And.intro (show b-(en+1) < n by have:=hnx.le;omega) hv))
 clear hv hn hnd hnx
 go_wp2
 all_goals exact ⟨⟨j+1,en+1,rfl,hjl,⟨by omega,by have:=HX.out.1.le;omega⟩,HX.out.1,⟨n,HX.out.2.1,HX.out.2.2⟩,(Zaf HBr.out (show Below wr.heap.size wr _ by exact bE))⟩,by simp [intOf];omega⟩):p:=h
theorem kC3{p:Prop}(h:p:=by
 subst hpa
 rw [Zri (by have:=hnx.le;omega)] at hv
 have HW:=Zh (HLs.out p b · _ _ (rows.drop j) · · HD1.out HD.out)
 rw [List.length_drop,hv] at HW
 clear hv hn hnd hnx
 go_wp2_with (go_at_call 87;refine (HW.out _ (Upd.of (Zaf HBr.out (show Below wr.heap.size wr _ by exact bE))) (HKn.out _ (Zaf HBr.out (show Below wr.heap.size wr _ by exact bE)))).mono ?_;rintro e w2 ⟨rfl,hu2,hn2⟩;have HU2:=Zh ((Upd.of (Zaf HBr.out (show Below wr.heap.size wr _ by exact bE))).trans hu2);have HN2:=Zh hn2;clear hu2 hn2)
 go_ret
 exact ⟨rfl,HU2.out,HN2.out⟩):p:=h
theorem kC6{p:Prop}(h:p:=by
 have hpa2:¬ (p:Int)=at_:=by omega
 have hor:¬ (p:Int) < at_∨((p:Int) < at_∧¬ (at_:Int)≤en):=by omega
 rcases hor with hor|⟨hor,hor2⟩
 ·exact kC2
 ·exact kC2):p:=h
theorem kC7{p:Prop}(h:p:=by
 have HBk:=Zh (Blk.new wr #[.int .i64 p,.int .i64 nn,.int .i64 en,.slice fo F.length fc,.slice so S.length sc] 112)
 exact kC0):p:=h
theorem kC9{p:Prop}(h:p:=by
 unfold ZqX
 rw [←hi,Zmd hmt]
 dsimp only
 rw [if_neg (by omega),if_neg (by omega)]):p:=h
section
open Go.RowKit
theorem Zrf {α:Type} [Cells α] {w:World}{ad:Addr}{sc:Nat}{st:List α} (h1:Zar w (some ad) sc st) (k:Nat) (hk:k≤st.length):Zar w (some (ad.add (k*Cells.n α))) (sc-k) (st.drop k):=by
 refine ⟨by rw [Zam],(fun h=>by cases h),fun j u hu=>⟨_,rfl,?_⟩⟩
 have hf:Zak st=Zak (st.take k)++Zak (st.drop k):=by rw [←Zan,List.take_append_drop]
 have hl:(Zak (st.take k)).length=k*Cells.n α:=by rw [Zam,List.length_take,Nat.min_eq_left hk]
 obtain ⟨a',ha,hc⟩:=h1.2.2 (k*Cells.n α+j) u (by
  rw [hf,List.getElem?_append_right (by rw [hl];omega),hl,←hu]
  congr 1
  omega)
 cases ha
 have e:(ad.add (k*Cells.n α)).add j=ad.add (k*Cells.n α+j):=by
  unfold Addr.add
  split<;>split<;>split<;>simp_all<;>omega
 rw [e]
 exact hc
theorem Zrg {w:World}{ad:Addr}{sc:Nat}{st:List VN} (H:Zar w (some ad) sc st) {k:Nat} (hk:k≤st.length) (hc:st.length≤sc):Zar w (if sc=k then some ad else some (ad.add (k*5))) (sc-k) (st.drop k):=by
 by_cases h:sc=k
 ·have h0:st.drop k=[]:=by rw [List.drop_eq_nil_iff];omega
  rw [h0,if_pos h]
  exact ⟨by simp [Zak],(fun h=>by simp at h),fun j u hu=>by simp [Zak] at hu⟩
 ·rw [if_neg h]
  exact Zrf H k hk
theorem Zrh {w:World}{l:List In3}{P:Nat→Prop}{p b:Nat}{x:VN}{r:List VN} (H:Nds w l P p b (x :: r)) :
  (x=⟨p,-1,-1,none,0,0,none,0,0⟩∧p<l.length∧ZaR (l.getD p default).op=false∧Nds w l P (p+1) b r) ∨
  (∃ (en:Nat) (fo:Option Addr) (fc:Nat) (F:List VN),x=⟨p,-1,en,fo,F.length,fc,none,0,0⟩∧Mat l p (-1) en∧Zar w fo fc F∧F.length≤fc∧Nds w l P (p+1) en F∧Nds w l P (en+1) b r) ∨
  ∃ (n en:Nat) (fo so:Option Addr) (fc sc:Nat) (F S:List VN),x=⟨p,n,en,fo,F.length,fc,so,S.length,sc⟩∧Mat l p n en∧Zar w fo fc F∧F.length≤fc∧Nds w l P (p+1) n F∧Zar w so sc S∧S.length≤sc∧Nds w l P (n+1) en S∧Nds w l P (en+1) b r:=by
 cases H with
 | pl _ _ _ h1 h2 h3 h4 h5=>exact .inl ⟨rfl,h1,h2,h5⟩
 | one _ en _ fo fc F _ h1 h2 h3 h4 h5=>exact .inr (.inl ⟨en,fo,fc,F,rfl,h1,h2,h3.2,h4,h5⟩)
 | two _ n en _ fo so fc sc F S _ h1 h2 h3 h4 h5 h6 h7 h8=>exact .inr (.inr ⟨n,en,fo,so,fc,sc,F,S,rfl,h1,h2,h3.2,h4,h5,h6.2,h7,h8⟩)
theorem Zri {z:Wg}{c:List In3}{n p b:Nat} (h:p<b):rsV z c p (n+1) p b=WA z c p b 0:=by
 show (if b≤p then 0 else if p=p then _ else _)=_
 rw [if_neg (by omega),if_pos rfl]
theorem Zrj {z:Wg}{c:List In3}{at_ n p b:Nat} (h:p<b) (hp:p≠at_) (ho:ZaR (c.getD p default).op=false):rsV z c at_ (n+1) p b=rsV z c at_ n (p+1) b:=by
 show (if b≤p then 0 else if p=at_ then _ else if ZaR (c.getD p default).op=true then _ else _)=_
 rw [if_neg (by omega),if_neg hp,if_neg (by rw [ho];decide)]
theorem Zrk {z:Wg}{c:List In3}{at_ n p b en:Nat}{alt:Int} (h:p<b) (hp:p≠at_) (hm:Mat c p alt en) (hi:¬ (p<at_∧at_≤en)):rsV z c at_ (n+1) p b=rsV z c at_ n (en+1) b:=by
 show (if b≤p then 0 else if p=at_ then _ else if ZaR (c.getD p default).op=true then _ else _)=_
 rw [if_neg (by omega),if_neg hp,if_pos (show ZaR (c.getD p default).op=true from hm.2.1),Zmd hm,if_neg hi]
theorem Zrl {z:Wg}{c:List In3}{at_ n p b en:Nat}{alt:Int} (h:p<b) (hm:Mat c p alt en) (h1:p<at_) (h2:at_≤en):rsV z c at_ (n+1) p b=Zmu (WA z c (en+1) b 0) (if alt<0∨at_≤alt.toNat then Zmu (Zmu 1 (rsV z c at_ n (p+1) (if 0≤alt∧at_≤alt.toNat then alt.toNat else en))) (ZqX z c p True) else Zmu 1 (rsV z c at_ n (alt.toNat+1) en)):=by
 show (if b≤p then 0 else if p=at_ then _ else if ZaR (c.getD p default).op=true then _ else _)=_
 unfold ZqY
 rw [if_neg (by omega),if_neg (by omega),if_pos (show ZaR (c.getD p default).op=true from hm.2.1),Zmd hm,if_pos ⟨h1,h2⟩]
def Zrm (B M:Nat) (h:Hd) (m:Md) (W0:World) (k at_ a b:Nat):Prop:=∀ N w Q ro rc rows,b-a<N→Znz w B M h m (.func (Fn.func 86) #[] #[]) Zmx.sc (ZmD (gW Zmx m) m) Q→Znv W0 w→Zar w ro rc rows→rows.length≤rc→Nds w (cdM m k) (fun _=>True) a b rows →
 Calls Tryz.prog 65 #[.pointer (some ⟨B,0,none⟩),.int .i64 k,.slice ro rows.length rc,.int .i64 at_] w (ZnA w M (ZmD (gW Zmx m) m) (fun j=>Q j∨j<k) (rsV (gH m) (cdM m k) at_ N a b))
section
variable {B M:Nat}{h:Hd}{m:Md}{W0:World}{k at_:Nat}
theorem Zrn (hm:Za1 m=true) (hk:k<m.me.length) (hat:at_≤(cdM m k).length) {a b:Nat} (ih:∀ a' b',a<a'→b' < b→Zrm B M h m W0 k at_ a' b'):Zrm B M h m W0 k at_ a b:=by
 intro N w Q ro rc rows hN H hk0 hr hrc hnd
 have HL:=Zh (fun a b=>ZoB (B:=B) (M:=M) (h:=h) (ZoS hm W0) hk (fun j hj=>ZoC (ZoS hm W0) (j+1) j (by omega) (by omega)) (b-a) a b (Nat.le_refl _))
 have hle:=hnd.le
 have hok:=ZfN hm hk
 have hc:(cdM m k).length≤120:=hok.z.2.2
 have hlen:rows.length≤120:=by omega
 obtain ⟨v,hv⟩:∃ v,v=rsV (gH m) (cdM m k) at_ N a b:=⟨_,rfl⟩
 rw [←hv]
 obtain ⟨ea,he,-,-,-,-,-,-,e6⟩:=H.md.mth hk
 have c2:=H.wk.cell 2 (v:=.slice h.eo m.me.length h.ec) rfl
 rw [he] at c2
 rw [show (m.me.getD k default).k.length=(cdM m k).length from rfl] at e6
 have hko:=H.md.k k hk
 rw [show (m.me.getD k default).k=cdM m k from rfl] at hko
 generalize (h.e k).ko=ko at e6 hko
 generalize (h.e k).kc=kc at e6 hko
 have HKo:=Zh hko
 have HZb:=Zh (show ∀ a b,Seg (cdM m k) a b→Bd (WA (gH m) (cdM m k) a b 0) from fun a b hs=>ZqR hm hk hs (by unfold Bd;omega))
 have HRs:=Zh (show ∀ n a b,Seg (cdM m k) a b→Bd (rsV (gH m) (cdM m k) at_ n a b) from fun n a b hs=>Zq6 (fun a b hs=>ZqR hm hk hs (by unfold Bd;omega)) at_ n a b hs)
 have HOk:=Zh hok
 have HLs:=Zh (show ∀ a' b' w' so sc S,Upd M M w w'→KnM (ZmD (gW Zmx m) m) w' M (fun j=>Q j∨j<k)→Zar w so sc S→Nds w (cdM m k) (fun _=>True) a' b' S→Calls Tryz.prog 87 #[.pointer (some ⟨B,0,none⟩),.int .i64 k,.slice so S.length sc] w' (ZnA w' M (ZmD (gW Zmx m) m) (fun j=>Q j∨j<k) (WA (gH m) (cdM m k) a' b' 0)) from fun a' b' w' so sc S hu hn hr hnd=>
  (HL.out a' b' w' _ so sc S (H.next hu hn) (hk0.trans (H.keeps hu)) (Znw hr (H.keeps hu)) (hnd.keeps (H.keeps hu))).mono fun e w2 ⟨h1,h2,h3⟩=>⟨h1,h2,h3.weak fun _ h=>h.elim id .inr⟩)
 have HRe:=Zh (show ∀ a' b' n w' so sc S,a<a'→b' < b→b'-a' < n→Upd M M w w'→KnM (ZmD (gW Zmx m) m) w' M (fun j=>Q j∨j<k)→Zar w so sc S→S.length≤sc→Nds w (cdM m k) (fun _=>True) a' b' S→Calls Tryz.prog 65 #[.pointer (some ⟨B,0,none⟩),.int .i64 k,.slice so S.length sc,.int .i64 at_] w' (ZnA w' M (ZmD (gW Zmx m) m) (fun j=>Q j∨j<k) (rsV (gH m) (cdM m k) at_ n a' b')) from fun a' b' n w' so sc S h1 h2 h3 hu hn hr hs hnd=>
  (ih a' b' h1 h2 n w' _ so sc S h3 (H.next hu hn) (hk0.trans (H.keeps hu)) (Znw hr (H.keeps hu)) hs (hnd.keeps (H.keeps hu))).mono fun e w2 ⟨h1,h2,h3⟩=>⟨h1,h2,h3.weak fun _ h=>h.elim id .inr⟩)
 have HIa:=Zh (show ∀ i∈cdM m k,i.op=30→0≤i.a∧i.a≤1000 from fun i hi h30=>Zn6 (b:=i.b) (by have:=(hok.i i hi).1;exact this) h30)
 have HH:=Zh H
 have HK:=Zh hk0
 have HR:=Zh hr
 have HNd:=Zh hnd
 have HV:=Zh (show rsV (gH m) (cdM m k) at_ N a b=v from hv.symm)
 have HN:=Zh hN
 have hkl:(k:Int) < m.me.length:=by omega
 have HKn:=Zh (show ∀ w',Below w.heap.size w w'→KnM (ZmD (gW Zmx m) m) w' M (fun j=>Q j∨j<k) from fun w' hb=>(H.kn.old hb).weak fun _ h=>.inl h)
 clear hm ih H hk0 hr hnd hle hok hv hko hN he
 go_enter Tryz.func65,Tryz.ntmps65
 go_wp2
 clear c2 e6
 go_loopw [26] (fun i wr=>∃ j p:Nat,i=.int .i64 j∧j≤rows.length∧Hid (a≤p∧p≤b)∧Hid (Nds w (cdM m k) (fun _=>True) p b (rows.drop j))∧Hid (∃ n,b-p<n∧rsV (gH m) (cdM m k) at_ n p b=v)∧Hid (Below w.heap.size w wr)) (fun i _=>rows.length-(intOf i).toNat)
 case atStart=>exact ⟨0,a,rfl,Nat.zero_le _,⟨Nat.le_refl _,(Zme HNd.out.seg).1⟩,HNd.out,⟨N,HN.out,HV.out⟩,Below.refl _ _⟩
 case round=>
  obtain ⟨j,p,rfl,hj,HP,HD,HV2,HBr⟩:=hrel
  clear HV
  by_cases hjl:j<rows.length
  ·have hjl2:(j:Int) < rows.length:=by omega
   have hdr:rows.drop j=rows.getD j default :: rows.drop (j+1):=by
    rw [List.drop_eq_getElem_cons hjl];simp [hjl]
   have hnd:=HD.out
   rw [hdr] at hnd
   obtain ⟨ad,rfl,c0,c1,c2,c3,c4⟩:=ZnM (Zar.old HR.out HBr.out) hjl
   obtain ⟨n,hn,hv⟩:=HV2.out
   obtain ⟨n,rfl⟩:∃ n',n=n'+1:=⟨n-1,by omega⟩
   have HDr:=Zh hdr
   have hpb:=HP.out
   have hl0:=Zac c0
   have hwj:IntKind.i64.wrap ((j:Int)+1)=((j+1:Nat):Int):=IntWalk.i64_in _ (by omega)
   have hrj:¬ rc=j:=by omega
   have HD1:=Zh (Zrg HR.out (k:=j) hj hrc)
   have HD2:=Zh (Zrg HR.out (k:=j+1) hjl hrc)
   rw [if_neg hrj] at HD1
   rcases Zrh hnd with ⟨hy,hpl,hop,hnx⟩|⟨en,fo,fc,F,hy,hmt,hrF,hFc,hnF,hnx⟩|⟨nn,en,fo,so,fc,sc,F,S,hy,hmt,hrF,hFc,hnF,hrS,hSc,hnS,hnx⟩
   ·rw [hy] at c0 c1 c2 c3 c4
    dsimp only at c0 c1 c2 c3 c4
    have hng:¬ (at_:Int)≤-1:=by omega
    by_cases hpa:p=at_
    ·exact kC3
    ·have hpa2:¬ (p:Int)=at_:=by omega
     rw [Zrj (by have:=hnx.le;omega) hpa hop] at hv
     have HX:=Zh (And.intro hnx (And.intro (show b-(p+1) < n by have:=hnx.le;omega) hv))
     clear hv hn hnd hnx
     go_wp2
     all_goals exact ⟨⟨j+1,p+1,rfl,hjl,⟨by omega,by have:=HX.out.1.le;omega⟩,HX.out.1,⟨n,HX.out.2.1,HX.out.2.2⟩,(Zaf HBr.out (show Below wr.heap.size wr _ by exact bE))⟩,by simp [intOf];omega⟩
   ·rw [hy] at c0 c1 c2 c3 c4
    dsimp only at c0 c1 c2 c3 c4
    have hpl:=hmt.1
    have hpi:(p:Int) < (cdM m k).length:=by omega
    have hmtl:=ZbI hmt
    by_cases hpa:p=at_
    ·exact kC3
    ·by_cases hin:p<at_∧at_≤en
     ·obtain ⟨h1,h2⟩:=hin
      obtain ⟨ca,rfl,o0,o1,o2⟩:=ZaA (Zar.old HKo.out HBr.out) hpl
      obtain ⟨i,hi⟩:∃ i,i=(cdM m k).getD p default:=⟨_,rfl⟩
      have hia:=HIa.out i (by rw [hi];exact ZfU _ hpl)
      have hmt2:=hmt.2.2.2.2
      rw [←hi] at o0 o1 o2 hmt2
      obtain ⟨op,ia,ib⟩:=i
      dsimp only at o0 o1 o2 hmt2 hia
      rcases hmt2 with ⟨-,h33,-⟩|⟨_,ha,-⟩
      ·by_cases h30:op=30
       ·subst h30
        have ha1:=hia rfl
        obtain ⟨u0,hu0⟩:∃ u,u=WA (gH m) (cdM m k) (en+1) b 0:=⟨_,rfl⟩
        have hb0:Bd u0:=by rw [hu0];exact HZb.out _ _ hnx.seg
        have HWb:=Zh (HLs.out (en+1) b · _ _ (rows.drop (j+1)) · · HD2.out hnx)
        rw [List.length_drop,←hu0] at HWb
        have hen:=hnx.le
        have hmx:=ZbI hmt
        have hmn:=hnF.le
        obtain ⟨r1,hr1⟩:∃ u,u=rsV (gH m) (cdM m k) at_ n (p+1) en:=⟨_,rfl⟩
        have hbr:Bd r1:=by rw [hr1];exact HRs.out _ _ _ hnF.seg
        have HRc:=Zh (HRe.out (p+1) en n · _ _ F (by omega) (by omega) (by omega) · · hrF hFc hnF)
        rw [←hr1] at HRc
        obtain ⟨y1,hy1⟩:∃ y,y=Zmu 1 r1:=⟨_,rfl⟩
        have hb1:Bd y1:=by rw [hy1];exact ZnB (by unfold Bd;omega) hbr
        have HA1:=Zh (fun w'=>Znb 1 r1 w' (by omega) hbr)
        rw [←hy1] at HA1
        rw [Zrl (by omega) hmt h1 h2,if_pos (.inl (by decide)),if_neg (by omega),←hu0,←hr1,←hy1] at hv
        have hxx:ZqX (gH m) (cdM m k) p True=Zmv (max 0 (ia-1)) (Zmu (WA (gH m) (cdM m k) (p+1) en 0) 1):=by
         unfold ZqX
         rw [←hi,Zmd hmt]
         dsimp only
         rw [if_pos rfl]
        rw [hxx] at hv
        obtain ⟨x1,hx1⟩:∃ u,u=WA (gH m) (cdM m k) (p+1) en 0:=⟨_,rfl⟩
        have hbx:Bd x1:=by rw [hx1];exact HZb.out _ _ hnF.seg
        have HWx:=Zh (HLs.out (p+1) en · _ _ F · · hrF hnF)
        rw [←hx1] at HWx hv
        have hwa:IntKind.i64.wrap (ia-1)=ia-1:=IntWalk.i64_in _ (by omega)
        obtain ⟨y2,hy2⟩:∃ y,y=Zmu x1 1:=⟨_,rfl⟩
        have hb2:Bd y2:=by rw [hy2];exact ZnB hbx (by unfold Bd;omega)
        have HA2:=Zh (fun w'=>Znb x1 1 w' hbx (by omega))
        rw [←hy2] at HA2 hv
        obtain ⟨mx,hmx2⟩:∃ y,y=max 0 (ia-1):=⟨_,rfl⟩
        have hmb:0≤mx∧mx≤1000:=by omega
        obtain ⟨y3,hy3⟩:∃ y,y=Zmv mx y2:=⟨_,rfl⟩
        have hb3:Bd y3:=by rw [hy3];exact ZnC hmb.1 hb2
        have HMl:=Zh (fun w'=>Znc mx y2 w' hmb hb2)
        rw [←hy3] at HMl
        rw [←hmx2,←hy3] at hv
        have HTx:=Zh (show ∀ w' (z:Int),z=mx→Calls Tryz.prog 77 #[.int .i64 z,.int .i64 y2] w' (Ret w' (.int .i64 y3)) from fun w' z hz=>by rw [hz];exact HMl.out w')
        have HMx:=Zh hmx2
        have HA3:=Zh (fun w'=>Znb y1 y3 w' hb1 hb3)
        obtain ⟨y4,hy4⟩:∃ y,y=Zmu y1 y3:=⟨_,rfl⟩
        have hb4:Bd y4:=by rw [hy4];exact ZnB hb1 hb3
        rw [←hy4] at HA3 hv
        clear hxx
        have HBk:=Zh (Blk.new wr #[.int .i64 p,.int .i64 (-1),.int .i64 en,.slice fo F.length fc,.slice none 0 0] 112)
        have HA9:=Zh (fun w'=>Znb u0 y4 w' hb0 hb4)
        rw [hv] at HA9
        have HIo:=Zh (And.intro o0 (And.intro o1 o2))
        have hpat:(p:Int) < at_:=by omega
        have hpe:¬ (p:Int)=at_:=by omega
        have hate:(at_:Int)≤en:=by omega
        clear hv hn hnd hnx hi HRe HLs HL hu0 hr1 hbr hy1 hb1 hb0 hmt hia hx1 hbx hy2 hb2 hmx2 hmb hy3 hb3 hy4 hb4 ha1
        go_upto_region 10 with (go_at_call 87;refine (HWb.out _ (Upd.of (Zaf HBr.out (show Below wr.heap.size wr _ by exact bE))) (HKn.out _ (Zaf HBr.out (show Below wr.heap.size wr _ by exact bE)))).mono ?_;rintro e w2 ⟨rfl,hu2,hn2⟩;have hk2:=Znv.upd (HKn.out _ (Zaf HBr.out (show Below wr.heap.size wr _ by exact bE))).map hu2;have HU2:=Zh ((Upd.of (Zaf HBr.out (show Below wr.heap.size wr _ by exact bE))).trans hu2);have HN2:=Zh hn2;have z0:=hk2 _ _ (HBk.out.cell 0 rfl);have z1:=hk2 _ _ (HBk.out.cell 1 rfl);have z2:=hk2 _ _ (HBk.out.cell 2 rfl);have z3:=hk2 _ _ (HBk.out.cell 3 rfl);have z4:=hk2 _ _ (HBk.out.cell 4 rfl);have o0:=hk2 _ _ (Znv.of (show Below wr.heap.size wr _ by exact bE) _ _ HIo.out.1);have o1:=hk2 _ _ (Znv.of (show Below wr.heap.size wr _ by exact bE) _ _ HIo.out.2.1);have o2:=hk2 _ _ (Znv.of (show Below wr.heap.size wr _ by exact bE) _ _ HIo.out.2.2);clear hu2 hn2 hk2)
        obtain ⟨w3,hw3⟩:∃ x,x=w2.alloc (.cells #[.int .i64 30,.int .i64 ia,.int .i64 ib] 42):=⟨_,rfl⟩
        rw [←hw3]
        obtain ⟨b3,hb3⟩:∃ x,x=w2.heap.size:=⟨_,rfl⟩
        rw [←hb3]
        have hk3:Znv w2 w3:=by rw [hw3];exact Znv.of bE
        have HU3:=Zh (show Upd M M w w3 by rw [hw3];exact HU2.out.alloc _)
        have HN3:=Zh (show KnM (ZmD (gW Zmx m) m) w3 M (fun j=>Q j∨j<k) by rw [hw3];exact HN2.out.old bE)
        have HBi:=Zh (show Blk w3 b3 #[.int .i64 30,.int .i64 ia,.int .i64 ib] 42 by rw [hw3,hb3];exact Blk.new _ _ _)
        have z1:=hk3 _ _ z1
        have z3:=hk3 _ _ z3
        have z4:=hk3 _ _ z4
        have i0:=HBi.out.cell 0 (v:=.int .i64 30) rfl
        have i1:=HBi.out.cell 1 (v:=.int .i64 ia) rfl
        clear hw3 hb3 hk3 z0 z2 o0 o1 o2
        go_upto_region 15 with (first
         | (go_at_call 97;refine (HA1.out _).mono ?_;rintro e w5 ⟨rfl,hb5⟩;have hk5:=Znv.of hb5;have HU5:=Zh (HU4.out.bel hb5);have HN5:=Zh (HN4.out.old hb5);have z3:=hk5 _ _ z3;have z4:=hk5 _ _ z4;have i0:=hk5 _ _ i0;have i1:=hk5 _ _ i1;clear hb5 hk5)
         | (go_at_call 65;refine (HRc.out _ HU3.out HN3.out).mono ?_;rintro e w4 ⟨rfl,hu4,hn4⟩;have hk4:=Znv.upd HN3.out.map hu4;have HU4:=Zh (HU3.out.trans hu4);have HN4:=Zh hn4;have z3:=hk4 _ _ z3;have z4:=hk4 _ _ z4;have i0:=hk4 _ _ i0;have i1:=hk4 _ _ i1;clear hu4 hn4 hk4))
        refine rO (Cs [(⟨wr.heap.size,3,none⟩,.slice fo F.length fc),(⟨b3,1,none⟩,.int .i64 ia),(⟨b3,0,none⟩,.int .i64 30)]) (oL [0,1,2,3,4,5,6,7,8,109,110,111,112,13]) ⟨z3,i1,i0,trivial⟩ ?_
        repeat refine pO ?_
        have HC5:=Zh (show Cs [(⟨wr.heap.size,3,none⟩,.slice fo F.length fc),(⟨b3,1,none⟩,.int .i64 ia),(⟨b3,0,none⟩,.int .i64 30)] w5.drew from ⟨z3,i1,i0,trivial⟩)
        have HU5d:=Zh (show Upd M M w w5.drew from HU5.out.trans (Upd.refl M M w5).drew)
        have HN5d:=Zh (show KnM (ZmD (gW Zmx m) m) w5.drew M (fun j=>Q j∨j<k) from HN5.out.eq rfl)
        clear HU5 HN5
        have HU5:=HU5d
        have HN5:=HN5d
        clear HU5d HN5d
        refine oO fun Kv hK=>?_
        go_simp
        refine (HWx.out _ HU5.out HN5.out).mono ?_
        rintro e w6 ⟨rfl,hu6,hn6⟩
        have hk6:=Znv.upd HN5.out.map hu6
        have HU6:=Zh (HU5.out.trans hu6)
        have HN6:=Zh hn6
        clear hu6 hn6
        have HC6:=Zh (Cs.keeps hk6 HC5.out)
        refine hK _ _ ⟨HC6.out,?_⟩
        clear hK Kv hk6
        repeat refine pO ?_
        refine oO fun Kv hK=>?_
        go_simp
        refine (HA2.out _).mono ?_
        rintro e w7 ⟨rfl,hb7⟩
        have hk7:=Znv.of hb7
        have HU7:=Zh (HU6.out.bel hb7)
        have HN7:=Zh (HN6.out.old hb7)
        clear hb7
        have HC7:=Zh (Cs.keeps hk7 HC6.out)
        refine hK _ _ ⟨HC7.out,?_⟩
        clear hK Kv hk7
        repeat refine pO ?_
        refine oO fun Kv hK=>?_
        go_simp
        refine (HTx.out _ _ ?_).mono ?_
        ·first|exact HMx.out.symm|(rw [HMx.out];first|(split<;>omega)|omega)
        rintro e w8 ⟨rfl,hb8⟩
        have hk8:=Znv.of hb8
        have HU8:=Zh (HU7.out.bel hb8)
        have HN8:=Zh (HN7.out.old hb8)
        clear hb8
        have HC8:=Zh (Cs.keeps hk8 HC7.out)
        refine hK _ _ ⟨HC8.out,?_⟩
        clear hK Kv hk8
        repeat refine pO ?_
        refine oO fun Kv hK=>?_
        go_simp
        refine (HA3.out _).mono ?_
        rintro e w9 ⟨rfl,hb9⟩
        have hk9:=Znv.of hb9
        have HU9:=Zh (HU8.out.bel hb9)
        have HN9:=Zh (HN8.out.old hb9)
        clear hb9
        have HC9:=Zh (Cs.keeps hk9 HC8.out)
        refine hK _ _ ⟨HC9.out,?_⟩
        clear hK Kv hk9
        repeat refine pO ?_
        refine Zd5 ?_
        have i0:=HC9.out.2.2.1
        go_wp2_with (go_at_call 97;refine (HA9.out _).mono ?_;rintro e w10 ⟨rfl,hb10⟩;have HU10:=Zh (HU9.out.bel hb10);have HN10:=Zh (HN9.out.old hb10);clear hb10)
        all_goals
         go_ret
         exact ⟨rfl,HU10.out,HN10.out⟩
       ·obtain ⟨u0,hu0⟩:∃ u,u=WA (gH m) (cdM m k) (en+1) b 0:=⟨_,rfl⟩
        have hb0:Bd u0:=by rw [hu0];exact HZb.out _ _ hnx.seg
        have HWb:=Zh (HLs.out (en+1) b · _ _ (rows.drop (j+1)) · · HD2.out hnx)
        rw [List.length_drop,←hu0] at HWb
        have hen:=hnx.le
        have hmx:=ZbI hmt
        have hmn:=hnF.le
        obtain ⟨r1,hr1⟩:∃ u,u=rsV (gH m) (cdM m k) at_ n (p+1) en:=⟨_,rfl⟩
        have hbr:Bd r1:=by rw [hr1];exact HRs.out _ _ _ hnF.seg
        have HRc:=Zh (HRe.out (p+1) en n · _ _ F (by omega) (by omega) (by omega) · · hrF hFc hnF)
        rw [←hr1] at HRc
        obtain ⟨y1,hy1⟩:∃ y,y=Zmu 1 r1:=⟨_,rfl⟩
        have hb1:Bd y1:=by rw [hy1];exact ZnB (by unfold Bd;omega) hbr
        have HA1:=Zh (fun w'=>Znb 1 r1 w' (by omega) hbr)
        rw [←hy1] at HA1
        rw [Zrl (by omega) hmt h1 h2,if_pos (.inl (by decide)),if_neg (by omega),←hu0,←hr1,←hy1] at hv
        have hxx:ZqX (gH m) (cdM m k) p True=0:=by
         exact kC9
        rw [hxx] at hv
        rw [show Zmu y1 0=y1 by unfold Bd at hb1;unfold Zmu Zmt;omega] at hv
        clear hxx
        have HBk:=Zh (Blk.new wr #[.int .i64 p,.int .i64 (-1),.int .i64 en,.slice fo F.length fc,.slice none 0 0] 112)
        exact kC0
      ·omega
     ·exact kC6
   ·rw [hy] at c0 c1 c2 c3 c4
    dsimp only at c0 c1 c2 c3 c4
    have hpl:=hmt.1
    have hpi:(p:Int) < (cdM m k).length:=by omega
    have hmtl:=ZbI hmt
    by_cases hpa:p=at_
    ·exact kC3
    ·by_cases hin:p<at_∧at_≤en
     ·obtain ⟨h1,h2⟩:=hin
      obtain ⟨ca,rfl,o0,o1,o2⟩:=ZaA (Zar.old HKo.out HBr.out) hpl
      obtain ⟨i,hi⟩:∃ i,i=(cdM m k).getD p default:=⟨_,rfl⟩
      have hia:=HIa.out i (by rw [hi];exact ZfU _ hpl)
      have hmt2:=hmt.2.2.2.2
      rw [←hi] at o0 o1 o2 hmt2
      obtain ⟨op,ia,ib⟩:=i
      dsimp only at o0 o1 o2 hmt2 hia
      rcases hmt2 with ⟨ha,-⟩|⟨_,-,-,-,hop2,-⟩
      ·omega
      ·have h30:¬ op=30:=by omega
       have hnn:((nn:Nat):Int) ≥ 0:=by omega
       by_cases hqn:at_≤nn
       ·have hqn2:¬ (at_:Int) > nn:=by omega
        by_cases h33:op=33
        ·subst h33
         obtain ⟨u0,hu0⟩:∃ u,u=WA (gH m) (cdM m k) (en+1) b 0:=⟨_,rfl⟩
         have hb0:Bd u0:=by rw [hu0];exact HZb.out _ _ hnx.seg
         have HWb:=Zh (HLs.out (en+1) b · _ _ (rows.drop (j+1)) · · HD2.out hnx)
         rw [List.length_drop,←hu0] at HWb
         have hen:=hnx.le
         have hmx:=ZbI hmt
         have hmn:=hnS.le
         have hmf:=hnF.le
         obtain ⟨r1,hr1⟩:∃ u,u=rsV (gH m) (cdM m k) at_ n (p+1) nn:=⟨_,rfl⟩
         have hbr:Bd r1:=by rw [hr1];exact HRs.out _ _ _ hnF.seg
         have HRc:=Zh (HRe.out (p+1) nn n · _ _ F (by omega) (by omega) (by omega) · · hrF hFc hnF)
         rw [←hr1] at HRc
         obtain ⟨y1,hy1⟩:∃ y,y=Zmu 1 r1:=⟨_,rfl⟩
         have hb1:Bd y1:=by rw [hy1];exact ZnB (by unfold Bd;omega) hbr
         have HA1:=Zh (fun w'=>Znb 1 r1 w' (by omega) hbr)
         rw [←hy1] at HA1
         rw [Zrl (by omega) hmt h1 h2,if_pos (.inr (by rw [Int.toNat_natCast];exact hqn)),if_pos ⟨by omega,by rw [Int.toNat_natCast];exact hqn⟩,Int.toNat_natCast,←hu0,←hr1,←hy1] at hv
         have hxx:ZqX (gH m) (cdM m k) p True=WA (gH m) (cdM m k) (nn+1) en 0:=by
          unfold ZqX
          rw [←hi,Zmd hmt]
          dsimp only
          rw [if_neg (by decide),Int.toNat_natCast,if_pos ⟨rfl,trivial⟩]
         rw [hxx] at hv
         obtain ⟨y3,hx1⟩:∃ u,u=WA (gH m) (cdM m k) (nn+1) en 0:=⟨_,rfl⟩
         have hb3:Bd y3:=by rw [hx1];exact HZb.out _ _ hnS.seg
         have HWx:=Zh (HLs.out (nn+1) en · _ _ S · · hrS hnS)
         rw [←hx1] at HWx hv
         have HA3:=Zh (fun w'=>Znb y1 y3 w' hb1 hb3)
         obtain ⟨y4,hy4⟩:∃ y,y=Zmu y1 y3:=⟨_,rfl⟩
         have hb4:Bd y4:=by rw [hy4];exact ZnB hb1 hb3
         rw [←hy4] at HA3 hv
         clear hxx
         have HBk:=Zh (Blk.new wr #[.int .i64 p,.int .i64 nn,.int .i64 en,.slice fo F.length fc,.slice so S.length sc] 112)
         have HA9:=Zh (fun w'=>Znb u0 y4 w' hb0 hb4)
         rw [hv] at HA9
         have HIo:=Zh (And.intro o0 (And.intro o1 o2))
         have hpat:(p:Int) < at_:=by omega
         have hpe:¬ (p:Int)=at_:=by omega
         have hate:(at_:Int)≤en:=by omega
         clear hv hn hnd hnx hi HRe HLs HL hu0 hr1 hbr hy1 hb1 hb0 hmt hia hx1 hb3 hy4 hb4
         go_upto_region 10 with (go_at_call 87;refine (HWb.out _ (Upd.of (Zaf HBr.out (show Below wr.heap.size wr _ by exact bE))) (HKn.out _ (Zaf HBr.out (show Below wr.heap.size wr _ by exact bE)))).mono ?_;rintro e w2 ⟨rfl,hu2,hn2⟩;have hk2:=Znv.upd (HKn.out _ (Zaf HBr.out (show Below wr.heap.size wr _ by exact bE))).map hu2;have HU2:=Zh ((Upd.of (Zaf HBr.out (show Below wr.heap.size wr _ by exact bE))).trans hu2);have HN2:=Zh hn2;have z0:=hk2 _ _ (HBk.out.cell 0 rfl);have z1:=hk2 _ _ (HBk.out.cell 1 rfl);have z2:=hk2 _ _ (HBk.out.cell 2 rfl);have z3:=hk2 _ _ (HBk.out.cell 3 rfl);have z4:=hk2 _ _ (HBk.out.cell 4 rfl);have o0:=hk2 _ _ (Znv.of (show Below wr.heap.size wr _ by exact bE) _ _ HIo.out.1);have o1:=hk2 _ _ (Znv.of (show Below wr.heap.size wr _ by exact bE) _ _ HIo.out.2.1);have o2:=hk2 _ _ (Znv.of (show Below wr.heap.size wr _ by exact bE) _ _ HIo.out.2.2);clear hu2 hn2 hk2)
         obtain ⟨w3,hw3⟩:∃ x,x=w2.alloc (.cells #[.int .i64 33,.int .i64 ia,.int .i64 ib] 42):=⟨_,rfl⟩
         rw [←hw3]
         obtain ⟨b3,hb3⟩:∃ x,x=w2.heap.size:=⟨_,rfl⟩
         rw [←hb3]
         have hk3:Znv w2 w3:=by rw [hw3];exact Znv.of bE
         have HU3:=Zh (show Upd M M w w3 by rw [hw3];exact HU2.out.alloc _)
         have HN3:=Zh (show KnM (ZmD (gW Zmx m) m) w3 M (fun j=>Q j∨j<k) by rw [hw3];exact HN2.out.old bE)
         have HBi:=Zh (show Blk w3 b3 #[.int .i64 33,.int .i64 ia,.int .i64 ib] 42 by rw [hw3,hb3];exact Blk.new _ _ _)
         have z1:=hk3 _ _ z1
         have z3:=hk3 _ _ z3
         have z4:=hk3 _ _ z4
         have i0:=HBi.out.cell 0 (v:=.int .i64 33) rfl
         have i1:=HBi.out.cell 1 (v:=.int .i64 ia) rfl
         clear hw3 hb3 hk3 z0 z2 o0 o1 o2
         go_wp2_with (first
          | (go_at_call 97;refine (HA9.out _).mono ?_;rintro e w8 ⟨rfl,hb8⟩;have hk8:=Znv.of hb8;have HU8:=Zh (HU7.out.bel hb8);have HN8:=Zh (HN7.out.old hb8);have z3:=hk8 _ _ z3;have z4:=hk8 _ _ z4;have i0:=hk8 _ _ i0;have i1:=hk8 _ _ i1;clear hb8 hk8)
          | (go_at_call 97;refine (HA3.out _).mono ?_;rintro e w7 ⟨rfl,hb7⟩;have hk7:=Znv.of hb7;have HU7:=Zh (HU6.out.bel hb7);have HN7:=Zh (HN6.out.old hb7);have z3:=hk7 _ _ z3;have z4:=hk7 _ _ z4;have i0:=hk7 _ _ i0;have i1:=hk7 _ _ i1;clear hb7 hk7)
          | (go_at_call 87;refine (HWx.out _ HU5.out HN5.out).mono ?_;rintro e w6 ⟨rfl,hu6,hn6⟩;have hk6:=Znv.upd HN5.out.map hu6;have HU6:=Zh (HU5.out.trans hu6);have HN6:=Zh hn6;have z3:=hk6 _ _ z3;have z4:=hk6 _ _ z4;have i0:=hk6 _ _ i0;have i1:=hk6 _ _ i1;clear hu6 hn6 hk6)
          | (go_at_call 97;refine (HA1.out _).mono ?_;rintro e w5 ⟨rfl,hb5⟩;have hk5:=Znv.of hb5;have HU5:=Zh (HU4.out.bel hb5);have HN5:=Zh (HN4.out.old hb5);have z3:=hk5 _ _ z3;have z4:=hk5 _ _ z4;have i0:=hk5 _ _ i0;have i1:=hk5 _ _ i1;clear hb5 hk5)
          | (go_at_call 65;refine (HRc.out _ HU3.out HN3.out).mono ?_;rintro e w4 ⟨rfl,hu4,hn4⟩;have hk4:=Znv.upd HN3.out.map hu4;have HU4:=Zh (HU3.out.trans hu4);have HN4:=Zh hn4;have z3:=hk4 _ _ z3;have z4:=hk4 _ _ z4;have i0:=hk4 _ _ i0;have i1:=hk4 _ _ i1;clear hu4 hn4 hk4))
         all_goals
          go_ret
          exact ⟨rfl,HU8.out,HN8.out⟩
        ·obtain ⟨u0,hu0⟩:∃ u,u=WA (gH m) (cdM m k) (en+1) b 0:=⟨_,rfl⟩
         have hb0:Bd u0:=by rw [hu0];exact HZb.out _ _ hnx.seg
         have HWb:=Zh (HLs.out (en+1) b · _ _ (rows.drop (j+1)) · · HD2.out hnx)
         rw [List.length_drop,←hu0] at HWb
         have hen:=hnx.le
         have hmx:=ZbI hmt
         have hmn:=hnS.le
         have hmf:=hnF.le
         obtain ⟨r1,hr1⟩:∃ u,u=rsV (gH m) (cdM m k) at_ n (p+1) nn:=⟨_,rfl⟩
         have hbr:Bd r1:=by rw [hr1];exact HRs.out _ _ _ hnF.seg
         have HRc:=Zh (HRe.out (p+1) nn n · _ _ F (by omega) (by omega) (by omega) · · hrF hFc hnF)
         rw [←hr1] at HRc
         obtain ⟨y1,hy1⟩:∃ y,y=Zmu 1 r1:=⟨_,rfl⟩
         have hb1:Bd y1:=by rw [hy1];exact ZnB (by unfold Bd;omega) hbr
         have HA1:=Zh (fun w'=>Znb 1 r1 w' (by omega) hbr)
         rw [←hy1] at HA1
         rw [Zrl (by omega) hmt h1 h2,if_pos (.inr (by rw [Int.toNat_natCast];exact hqn)),if_pos ⟨by omega,by rw [Int.toNat_natCast];exact hqn⟩,Int.toNat_natCast,←hu0,←hr1,←hy1] at hv
         have hxx:ZqX (gH m) (cdM m k) p True=0:=by
          exact kC9
         rw [hxx] at hv
         rw [show Zmu y1 0=y1 by unfold Bd at hb1;unfold Zmu Zmt;omega] at hv
         clear hxx
         exact kC7
       ·have hqn2:(at_:Int) > nn:=by omega
        obtain ⟨u0,hu0⟩:∃ u,u=WA (gH m) (cdM m k) (en+1) b 0:=⟨_,rfl⟩
        have hb0:Bd u0:=by rw [hu0];exact HZb.out _ _ hnx.seg
        have HWb:=Zh (HLs.out (en+1) b · _ _ (rows.drop (j+1)) · · HD2.out hnx)
        rw [List.length_drop,←hu0] at HWb
        have hen:=hnx.le
        have hmx:=ZbI hmt
        have hmn:=hnS.le
        have hmf:=hnF.le
        obtain ⟨r1,hr1⟩:∃ u,u=rsV (gH m) (cdM m k) at_ n (nn+1) en:=⟨_,rfl⟩
        have hbr:Bd r1:=by rw [hr1];exact HRs.out _ _ _ hnS.seg
        have HRc:=Zh (HRe.out (nn+1) en n · _ _ S (by omega) (by omega) (by omega) · · hrS hSc hnS)
        rw [←hr1] at HRc
        obtain ⟨y1,hy1⟩:∃ y,y=Zmu 1 r1:=⟨_,rfl⟩
        have hb1:Bd y1:=by rw [hy1];exact ZnB (by unfold Bd;omega) hbr
        have HA1:=Zh (fun w'=>Znb 1 r1 w' (by omega) hbr)
        rw [←hy1] at HA1
        rw [Zrl (by omega) hmt h1 h2,if_neg (by omega),Int.toNat_natCast,←hu0,←hr1,←hy1] at hv
        exact kC7
     ·exact kC6
  ·have hj2:¬ (j:Int) < rows.length:=by omega
   have hnd:=HD.out
   rw [List.drop_eq_nil_iff.2 (by omega)] at hnd
   obtain ⟨n,hn,hv⟩:=HV2.out
   have hpb:p=b:=by cases hnd with|nil _ _=>rfl
   subst hpb
   have hv0:v=0:=by
    rw [←hv]
    cases n with
    | zero=>rfl
    | succ n=>exact if_pos (Nat.le_refl _)
   have HV0:=Zh hv0
   clear hnd hv hn hv0
   go_wp2
   go_ret
   exact ⟨by rw [HV0.out];rfl,Upd.of HBr.out,(HH.out.kn.old HBr.out).weak fun _ h=>.inl h⟩
end
end
end Go.Proofs.YtfkbfjhocmbneaaGreat
