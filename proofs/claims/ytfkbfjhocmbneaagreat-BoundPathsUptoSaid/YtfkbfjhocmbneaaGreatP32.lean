/- Joined texts. The first: BoundLoops, the plain law: a loop that stands in no bracket, done once more. -/
import Derived.Test.YtfkbfjhocmbneaaGreatP30
import Derived.Test.YtfkbfjhocmbneaaGreatP31
set_option linter.all false
set_option linter.unusedVariables false
set_option linter.unusedSimpArgs false
set_option maxRecDepth 100000
set_option maxHeartbeats 8000000
namespace Go.Proofs.YtfkbfjhocmbneaaGreat
section
open Go.RowKit
section
variable {x:Ms}{m:Md}{T:Int→Int}{c:List In3} (hw:∀ i∈c,0≤x.wt i∧x.wt i≤1000) (ht:0≤x.tl∧x.tl≤1000) (hT:∀ t,Bd (T t)) (ha:∀ i∈c,i.op≠1→0≤i.a)
include hw ht hT ha
theorem Zp4 {a b:Nat} (hs:Seg c a b):∀ acc,Bd acc→WA (gW x m T) c a b acc=Zmu acc (WA (gW x m T) c a b 0):=by
 have hm:∀ k,k<c.length→c.getD k default∈c:=fun k hk=>ZfU _ hk
 have hplus:∀ a b,(gW x m T).plus a b=Zmu a b:=fun _ _=>rfl
 have hpl:=ZnF (m:=m) hw ht hT ha
 have hbr:=ZnG (m:=m) hw ht hT ha
 have h0:Bd 0:=by unfold Bd;omega
 have key:∀ acc p S,Bd acc→Bd p→Bd S→Zmu (Zmu acc p) S=Zmu acc (Zmu (Zmu 0 p) S):=fun acc p S h1 h2 h3=>by unfold Bd at *;unfold Zmu Zmt;omega
 induction hs with
 | nil a h=>intro acc hacc;rw [Zml,Zml];unfold Bd at hacc;unfold Zmu Zmt;omega
 |pl a b q1 q2 q3 q4 q5 ih=>
  intro acc hacc
  have hp:=hpl _ (hm a q1)
  rw [Zmm q2 q5,Zmm q2 q5,hplus,hplus,ih _ (ZnB hacc hp),ih _ (ZnB h0 hp)]
  exact key _ _ _ hacc hp (ZnH (m:=m) hw ht hT ha q5 0 h0)
 |one a en b q1 q2 q3 i1 i2=>
  intro acc hacc
  have hp:=hbr _ (hm a q1.1) _ _ (ZnH (m:=m) hw ht hT ha q2 0 h0) h0
  rw [Zmn q1 q2 q3,Zmn q1 q2 q3,hplus,hplus,i2 _ (ZnB hacc hp),i2 _ (ZnB h0 hp)]
  exact key _ _ _ hacc hp (ZnH (m:=m) hw ht hT ha q3 0 h0)
 |two a n en b q1 q2 q3 q4 i1 i2 i3=>
  intro acc hacc
  have hp:=hbr _ (hm a q1.1) _ _ (ZnH (m:=m) hw ht hT ha q2 0 h0) (ZnH (m:=m) hw ht hT ha q3 0 h0)
  rw [Zmo q1 q2 q3 q4,Zmo q1 q2 q3 q4,hplus,hplus,i3 _ (ZnB hacc hp),i3 _ (ZnB h0 hp)]
  exact key _ _ _ hacc hp (ZnH (m:=m) hw ht hT ha q4 0 h0)
end
end
section
open Go.RowKit
abbrev gH (m:Md):Wg:=gT Zmx m (ZmD (gW Zmx m) m)
abbrev gO (m:Md):Wg:=gLT m (ZmD (gL m) m)
def Zp5 (W0:World) (B:Nat) (h:Hd) (m:Md) (co:Option Addr) (cc:Nat) (ch:List Int) (k a b:Nat):Prop:=∀ w nx lf cs,WkW W0 w B h m co cc ch nx lf cs→0≤lf →
 Calls Tryz.prog 57 #[.pointer (some ⟨B,0,none⟩),.slice (h.e k).ko (cdM m k).length (h.e k).kc,.int .i64 a,.int .i64 b] w (WkP W0 w B h m co cc ch cs (WA (gH m) (cdM m k) a b 0) (WA (gO m) (cdM m k) a b 0))
def Zp6 (W0 W:World) (B:Nat) (h:Hd) (m:Md) (co:Option Addr) (cc:Nat) (ch:List Int) (cs0:Int) (x y:Int × Nat):Ending→World→Prop:=fun e w'=>∃ how nx lf cs,e=.returned (.tuple #[.int .i64 how,.int .i64 x.2])∧WkW W0 w' B h m co cc ch nx lf cs∧Upd B B W w'∧ZpW how lf cs0 cs x.1 y.1
def Zp7 (W0:World) (B:Nat) (h:Hd) (m:Md) (co:Option Addr) (cc:Nat) (ch:List Int) (k p:Nat):Prop:=∀ w nx lf cs,WkW W0 w B h m co cc ch nx lf cs→0≤lf →
 Calls Tryz.prog 90 #[.pointer (some ⟨B,0,none⟩),.slice (h.e k).ko (cdM m k).length (h.e k).kc,.int .i64 p] w (Zp6 W0 w B h m co cc ch cs (ZpU (gH m) (cdM m k) p) (ZpU (gO m) (cdM m k) p))
def Zp8 (W0:World) (B:Nat) (h:Hd) (m:Md) (co:Option Addr) (cc:Nat) (ch:List Int) (i:In3):Prop:=∀ w nx lf cs,WkW W0 w B h m co cc ch nx lf cs→0≤lf →
 Calls Tryz.prog 119 #[.pointer (some ⟨B,0,none⟩),.agg #[.int .i64 i.op,.int .i64 i.a,.int .i64 i.b]] w (WkP W0 w B h m co cc ch cs ((gH m).pl i) ((gO m).pl i))
theorem Zp9 (g g':Wg) (c:List In3) (p:Nat):(ZpU g c p).2=(ZpU g' c p).2:=by
 unfold ZpU
 split<;>rfl
section
variable {m:Md} (hm:Za1 m=true)
include hm
theorem Zqa (k:Nat):Bd (ZmD (gW Zmx m) m k):=ZoI hm (x:=Zmx) (fun k hk i hi=>ZoD ((ZfN hm hk).i i hi).1) (by decide) (k+1) k (by omega)
theorem Zqb {k:Nat} (hk:k<m.me.length) {a b:Nat} (hs:Seg (cdM m k) a b) {acc:Int} (ha:Bd acc):Bd (WA (gH m) (cdM m k) a b acc):=
 ZnH (x:=Zmx) (m:=m) (fun i hi=>ZoD ((ZfN hm hk).i i hi).1) (by decide) (fun t=>Zqa hm t.toNat) (fun i hi=>(ZfS ((ZfN hm hk).i i hi).1 ((ZfN hm hk).i i hi).2).a0) hs acc ha
theorem Zqc {k:Nat} (hk:k<m.me.length) {a b:Nat} (hs:Seg (cdM m k) a b) {acc:Int} (ha:Bd acc):acc≤WA (gH m) (cdM m k) a b acc:=by
 have h0:Bd 0:=by unfold Bd;omega
 have h1:=Zp4 (x:=Zmx) (m:=m) (fun i hi=>ZoD ((ZfN hm hk).i i hi).1) (by decide) (fun t=>Zqa hm t.toNat) (fun i hi=>(ZfS ((ZfN hm hk).i i hi).1 ((ZfN hm hk).i i hi).2).a0) hs acc ha
 have h2:=Zqb hm hk hs h0
 have h3:WA (gH m) (cdM m k) a b acc=Zmu acc (WA (gH m) (cdM m k) a b 0):=h1
 rw [h3]
 unfold Bd at ha h2
 unfold Zmu Zmt
 omega
theorem Zqd {k:Nat} (hk:k<m.me.length) {p b:Nat} (hs:Seg (cdM m k) p b) (hp:p<b):Bd (ZpU (gH m) (cdM m k) p).1:=by
 have h0:Bd 0:=by unfold Bd;omega
 have hpl:p<(cdM m k).length:=by have:=(Zme hs).2;omega
 have hw:=fun i hi=>ZoD ((ZfN hm hk).i i hi).1
 have ha:=fun i hi=>(ZfS ((ZfN hm hk).i i hi).1 ((ZfN hm hk).i i hi).2).a0
 have hbr:=ZnG (x:=Zmx) (m:=m) (T:=fun t=>ZmD (gW Zmx m) m t.toNat) hw (by decide) (fun t=>Zqa hm t.toNat) ha
 rcases Zno hs with e|⟨_,h2,h3,h4,h5⟩|⟨en,h1,h2,h3,h4,h5⟩|⟨n,en,h1,h2,h3,h4,h5,h6,h7⟩
 ·omega
 ·unfold ZpU
  rw [if_neg (by rw [h2];decide)]
  exact ZnF (x:=Zmx) (m:=m) hw (by decide) (fun t=>Zqa hm t.toNat) ha _ (ZfU _ hpl)
 ·unfold ZpU
  rw [if_pos (show _=true from h1.2.1),Zmd h1]
  exact hbr _ (ZfU _ hpl) _ _ (Zqb hm hk h4 h0) h0
 ·unfold ZpU
  rw [if_pos (show _=true from h1.2.1),Zmd h1]
  dsimp only
  rw [if_neg (by omega),if_neg (by omega),Int.toNat_natCast]
  exact hbr _ (ZfU _ hpl) _ _ (Zqb hm hk h5 h0) (Zqb hm hk h6 h0)
end
section
variable {W0:World}{B:Nat}{h:Hd}{m:Md}{co:Option Addr}{cc:Nat}{ch:List Int} (X:Wkx W0 B h m co cc ch)
include X
theorem Zqe {k a b:Nat} (hk:k<m.me.length) (hs:Seg (cdM m k) a b) (hn:∀ p,a≤p→p<b→Seg (cdM m k) p b→Zp7 W0 B h m co cc ch k p):Zp5 W0 B h m co cc ch k a b:=by
 intro w nx lf cs H hlf
 have hm:=(ZpT X.mo).1
 have hle:=Zme hs
 have hcl:(cdM m k).length≤120:=(ZfN hm hk).z.2.2
 have HN:=Zh hn
 have HH:=Zh H
 have HM:=Zh hm
 obtain ⟨hi0,hhi⟩:∃ v,v=WA (gH m) (cdM m k) a b 0:=⟨_,rfl⟩
 obtain ⟨lo0,hlo⟩:∃ v,v=WA (gO m) (cdM m k) a b 0:=⟨_,rfl⟩
 rw [←hhi,←hlo]
 have HHi:=Zh (And.intro hhi hlo)
 have HS:=Zh hs
 clear H hn hm hhi hlo hs
 go_enter Tryz.func57,Tryz.ntmps57
 go_wp2
 go_loopw [9] (fun i wr=>∃ (p:Nat) (nx lf cs2 hi lo:Int),i=.int .i64 p∧Hid (a≤p∧p≤b∧Seg (cdM m k) p b)∧Hid (WkW W0 wr B h m co cc ch nx lf cs2)∧Hid (0≤lf)∧Hid (Upd B B w wr)∧Hid (cs≤cs2∧cs2-cs≤hi∧Bd hi∧0≤lo∧lo≤cs2-cs)∧Hid (hi0=WA (gH m) (cdM m k) p b hi∧lo0=WA (gO m) (cdM m k) p b lo)) (fun i _=>b-(intOf i).toNat)
 case atStart=>exact ⟨a,nx,lf,cs,0,0,rfl,⟨Nat.le_refl _,hle.1,HS.out⟩,HH.out,hlf,Upd.refl _ _ _,⟨by omega,by omega,by unfold Bd;omega,by omega,by omega⟩,HHi.out⟩
 case round=>
  obtain ⟨p,nx2,lf2,cs2,hi,lo,rfl,HP,HW,HLf,HU,HC,HE⟩:=hrel
  rename World=>wo
  by_cases hpb:p<b
  ·have hpb2:(p:Int) < b:=by omega
   have HO:=Zh (HN.out p HP.out.1 hpb HP.out.2.2 wo nx2 lf2 cs2 HW.out HLf.out)
   obtain ⟨s1,s2,s3,s4⟩:=ZpV (g:=gH m) HP.out.2.2 hpb
   obtain ⟨-,-,-,t4⟩:=ZpV (g:=gO m) HP.out.2.2 hpb
   rw [←Zp9 (gH m)] at t4
   have hbd:=Zqd HM.out hk HP.out.2.2 hpb
   obtain ⟨⟨v,nt⟩,hq⟩:∃ q,q=ZpU (gH m) (cdM m k) p:=⟨_,rfl⟩
   obtain ⟨⟨y,nt2⟩,hq2⟩:∃ q,q=ZpU (gO m) (cdM m k) p:=⟨_,rfl⟩
   rw [←hq,←hq2] at HO
   rw [←hq] at s1 s2 s3 s4 hbd t4
   rw [←hq2] at t4
   dsimp only at s1 s2 s3 s4 hbd t4
   have HT:=Zh (And.intro s1 (And.intro s2 (And.intro s3 (And.intro (s4 hi) (And.intro (t4 lo) hbd)))))
   clear hq hq2 s1 s2 s3 s4 t4 hbd
   go_upto_region 4 with (go_at_call 90;refine HO.out.mono ?_;rintro e w1 ⟨how,nx3,lf3,cs3,rfl,hw3,hu3,hp3⟩;have HW3:=Zh hw3;have HU3:=Zh (HU.out.trans hu3);have HP3:=Zh hp3;clear hw3 hu3 hp3)
   have hc:=HC.out
   obtain ⟨e1,e2,e3,e4,e5⟩:=HP3.out
   have hiv:=HW3.out.iv
   have hvb:=HT.out.2.2.2.2.2
   have hiv0:=HH.out.iv
   have hd:cs3-cs≤Zmu hi v∧Bd (Zmu hi v):=⟨by unfold Zmu Zmt;omega,ZnB hc.2.2.1 hvb⟩
   by_cases hh:how=0
   ·subst hh
    have e5':=e5 rfl
    have e2':=e2 (by decide)
    have hdo:Zmz lo y=Zmu lo y:=by unfold Zmz;rw [if_neg (by omega)]
    have HD:=Zh (show cs≤cs3∧cs3-cs≤Zmu hi v∧Bd (Zmu hi v)∧0≤Zmz lo y∧Zmz lo y≤cs3-cs from ⟨by omega,hd.1,hd.2,by rw [hdo];unfold Zmu Zmt;omega,by rw [hdo];unfold Zmu Zmt;omega⟩)
    have HL3:=Zh e2'
    clear hc e1 e2 e3 e4 e5 hiv hiv0 hvb hd e5' e2' hdo
    go_wp2
    refine ⟨⟨nt,nx3,lf3,cs3,Zmu hi v,Zmz lo y,rfl,⟨?_,HT.out.2.1,HT.out.2.2.1⟩,HW3.out,HL3.out,HU3.out,HD.out,⟨HE.out.1.trans HT.out.2.2.2.1,HE.out.2.trans HT.out.2.2.2.2.1⟩⟩,?_⟩
    ·have:=HP.out.1;have:=HT.out.1;omega
    ·have:=HT.out.1;have:=HT.out.2.1;simp [intOf];omega
   ·have hge:=Zqc HM.out hk HT.out.2.2.1 hd.2
    have HD:=Zh (show cs≤cs3∧cs3-cs≤hi0 from ⟨by omega,by rw [HE.out.1,HT.out.2.2.2.1];exact Int.le_trans hd.1 hge⟩)
    have HHh:=Zh (And.intro hh (And.intro e1 e2))
    clear hc e1 e2 e3 e4 e5 hiv hiv0 hvb hd hge
    go_wp2
    go_ret
    exact ⟨how,nx3,lf3,cs3,rfl,HW3.out,HU3.out,HHh.out.2.1,HHh.out.2.2,HD.out.1,HD.out.2,fun q=>absurd q HHh.out.1⟩
  ·obtain rfl:p=b:=by have:=HP.out.2.1;omega
   go_wp2
   go_ret
   have e1:=HE.out.1
   have e2:=HE.out.2
   rw [Zml] at e1 e2
   have hc:=HC.out
   exact ⟨0,nx2,lf2,cs2,rfl,HW.out,HU.out,.inl rfl,fun _=>HLf.out,hc.1,by omega,fun _=>by omega⟩
end
end
section
open Go.RowKit
theorem Zqf {c:List In3}{p b:Nat} (hs:p=b∨(p<b∧ZaR (c.getD p default).op=false∧(c.getD p default).op≠34∧(c.getD p default).op≠35∧Seg c (p+1) b) ∨
  (∃ en:Nat,Mat c p (-1) en∧p<en∧en<b∧Seg c (p+1) en∧Seg c (en+1) b)∨∃ n en:Nat,Mat c p n en∧p<n∧n<en∧en<b∧Seg c (p+1) n∧Seg c (n+1) en∧Seg c (en+1) b) (hp:p<b) (ho:ZaR (c.getD p default).op=true) :
  ∃ (alt:Int) (en q:Nat),Mat c p alt en∧p<q∧q≤en∧en<c.length∧Seg c (p+1) q∧((alt=-1∧q=en)∨(alt=q∧q<en∧Seg c (q+1) en)):=by
 rcases hs with e|⟨_,h2,_⟩|⟨en,h1,h2,h3,h4,h5⟩|⟨n,en,h1,h2,h3,h4,h5,h6,h7⟩
 ·omega
 ·rw [ho] at h2;cases h2
 ·exact ⟨-1,en,en,h1,h2,Nat.le_refl _,h1.2.2.1,h4,.inl ⟨rfl,rfl⟩⟩
 ·exact ⟨n,en,n,h1,h2,by omega,h1.2.2.1,h5,.inr ⟨rfl,h3,h6⟩⟩
end
section
open Go.RowKit
theorem Zqg {m:Md}{k:Int} (h:ZoO m k=true):(Zl6 m).2.2=0:=by
 unfold ZoO at h
 simp only [Bool.and_eq_true,decide_eq_true_eq] at h
 exact h.1
end
section
open Go.RowKit
def Zqh (W:World) (m:Md) (k:Int):Ending→World→Prop:=fun e w'=>(∃ b,e=.returned (.bool b)∧(b=true→ZoO m k=true))∧Below W.heap.size W w'
theorem Zqi (m:Md) (h:Hd) (k:Int) (w:World) (H:Zay w h m):Calls Tryz.prog 18 #[.agg #[.slice h.co m.cl.length h.cc,.slice h.so m.st.length h.sc,.slice h.eo m.me.length h.ec,.int .i64 m.sel],.int .i64 k] w (Zqh w m k):=by
 obtain ⟨w0,hw0⟩:∃ w0,w0=w.alloc (.cells #[.slice h.co m.cl.length h.cc,.slice h.so m.st.length h.sc,.slice h.eo m.me.length h.ec,.int .i64 m.sel] 26):=⟨_,rfl⟩
 have HB:=Zh (show Below w.heap.size w w0 by rw [hw0];exact bE)
 have HX:=Zh (show Blk w0 w.heap.size #[.slice h.co m.cl.length h.cc,.slice h.so m.st.length h.sc,.slice h.eo m.me.length h.ec,.int .i64 m.sel] 26 by rw [hw0];exact Blk.new _ _ _)
 have HM:=Zh (H.old HB.out)
 have HW:=Zh hw0
 obtain ⟨z,hz⟩:∃ z:Int,z=if ZoO m k=true then 0 else 1:=⟨_,rfl⟩
 have HR:=Zh (fun w' hb=>ZpL m h k w' (HM.out.old (w':=w') hb))
 rw [←hz] at HR
 have HZ:=Zh (show (z=0→ZoO m k=true)∧(z=0∨z=1) by rw [hz];split<;>simp_all)
 clear hw0 H hz
 go_enter Tryz.func18,Tryz.ntmps18
 go_upto_region 1 with fail
 rw [←HW.out]
 have x0:=HX.out.cell 0 (v:=.slice h.co m.cl.length h.cc) rfl
 have x1:=HX.out.cell 1 (v:=.slice h.so m.st.length h.sc) rfl
 have x2:=HX.out.cell 2 (v:=.slice h.eo m.me.length h.ec) rfl
 have x3:=HX.out.cell 3 (v:=.int .i64 m.sel) rfl
 go_wp2_with (first
  | (go_at_call 11;refine (Zp3 m h _ HM.out).mono ?_;rintro e w1 ⟨⟨b,rfl⟩,hb1⟩;have HB1:=Zh hb1;clear hb1 x0 x1 x2 x3;have x0:=(HX.out.old HB1.out).cell 0 (v:=.slice h.co m.cl.length h.cc) rfl;have x1:=(HX.out.old HB1.out).cell 1 (v:=.slice h.so m.st.length h.sc) rfl;have x2:=(HX.out.old HB1.out).cell 2 (v:=.slice h.eo m.me.length h.ec) rfl;have x3:=(HX.out.old HB1.out).cell 3 (v:=.int .i64 m.sel) rfl)
  | (go_at_call 46;refine (HR.out _ HB1.out).mono ?_;rintro e w2 ⟨rfl,hb2⟩;have HB2:=Zh (Zaf HB1.out hb2);clear hb2))
 all_goals
  go_ret
  first
  | exact ⟨⟨_,rfl,fun h=>by first|cases h|exact HZ.out.1 (by simpa using h)⟩,Zaf HB.out HB2.out⟩
  | exact ⟨⟨_,rfl,fun h=>by first|cases h|exact HZ.out.1 (by simpa using h)⟩,Zaf HB.out HB1.out⟩
end
end Go.Proofs.YtfkbfjhocmbneaaGreat
