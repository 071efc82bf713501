/- Joined texts. The first: bound.Rest: the program's. -/
import Derived.Test.YtfkbfjhocmbneaaGreatS38
import Derived.Test.YtfkbfjhocmbneaaGreatS37
set_option linter.all false
set_option linter.unusedVariables false
set_option linter.unusedSimpArgs false
set_option maxRecDepth 100000
set_option maxHeartbeats 16000000
namespace Go.Proofs.YtfkbfjhocmbneaaGreat
section
open Go.RowKit
section
variable {B M:Nat}{h:Hd}{m:Md}{W0:World}{k at_:Nat}
theorem Zrw {a b:Nat} (hab:b<a):Zrm B M h m W0 k at_ a b:=fun N w Q ro rc rows hN H hk0 hr hrc hnd=>absurd (Zme hnd.seg).1 (by omega)
theorem Zrx (hm:Za1 m=true) (hk:k<m.me.length) (hat:at_≤(cdM m k).length):∀ n a b,b-a≤n→Zrm B M h m W0 k at_ a b
 | 0,a,b,hn=>Zrn hm hk hat fun a' b' h1 h2=>Zrw (by omega)
 | n+1,a,b,hn=>Zrn hm hk hat fun a' b' h1 h2=>Zrx hm hk hat n a' b' (by omega)
end
theorem Zry (m:Md) (h:Hd) (k p:Int) (w:World) (H:Zay w h m):Calls Tryz.prog 30 #[.agg #[.slice h.co m.cl.length h.cc,.slice h.so m.st.length h.sc,.slice h.eo m.me.length h.ec,.int .i64 m.sel],.int .i64 k,.int .i64 p] w (Zhf w (.int .i64 (Zrq m k p).1) (.int .i64 (Zrq m k p).2)):=by
 obtain ⟨⟨r1,r2⟩,hr⟩:∃ r,r=Zrq m k p:=⟨_,rfl⟩
 rw [←hr]
 obtain ⟨w0,hw0⟩:∃ w0,w0=w.alloc (.cells #[.slice h.co m.cl.length h.cc,.slice h.so m.st.length h.sc,.slice h.eo m.me.length h.ec,.int .i64 m.sel] 26):=⟨_,rfl⟩
 have HB:=Zh (show Below w.heap.size w w0 by rw [hw0];exact bE)
 have HX:=Zh (show Blk w0 w.heap.size #[.slice h.co m.cl.length h.cc,.slice h.so m.st.length h.sc,.slice h.eo m.me.length h.ec,.int .i64 m.sel] 26 by rw [hw0];exact Blk.new _ _ _)
 have HM:=Zh (H.old HB.out)
 have HW:=Zh hw0
 have HA:=Zh (ZoQ m h k w0 HM.out)
 clear hw0 H
 rcases hq:ZoO m k with _|_
 ·rw [hq] at HA
  have e0:Zrq m k p=(0,1):=by unfold Zrq;rw [if_neg (by rw [hq];intro q;cases q.1)]
  rw [e0] at hr
  obtain ⟨rfl,rfl⟩:=Prod.mk.inj hr
  clear hr hq e0
  go_enter Tryz.func30,Tryz.ntmps30
  go_upto_region 1 with fail
  rw [←HW.out]
  have x0:=HX.out.cell 0 (v:=.slice h.co m.cl.length h.cc) rfl;have x1:=HX.out.cell 1 (v:=.slice h.so m.st.length h.sc) rfl;have x2:=HX.out.cell 2 (v:=.slice h.eo m.me.length h.ec) rfl;have x3:=HX.out.cell 3 (v:=.int .i64 m.sel) rfl
  go_wp2_with (go_at_call 42;refine HA.out.mono ?_;rintro e w1 ⟨rfl,hb1⟩)
  go_ret2
  exact Zhg rfl rfl (Zaf HB.out hb1)
 rw [hq] at HA
 obtain ⟨hm,hk0,hk1⟩:=ZoP hq
 obtain ⟨k,rfl⟩:∃ d:Nat,k=d:=⟨k.toNat,by omega⟩
 have hkl:k<m.me.length:=by omega
 have hkl2:(k:Int) < m.me.length:=by omega
 obtain ⟨ea,he,-,-,-,-,-,-,e6⟩:=HM.out.mth hkl
 rw [show (m.me.getD k default).k.length=(cdM m k).length from rfl] at e6
 rw [he] at HW HX HA ⊢
 have HEa:=Zh he
 clear he
 by_cases hp:0≤p∧p≤(cdM m k).length
 rotate_left
 ·have e0:Zrq m k p=(0,1):=by unfold Zrq;rw [Int.toNat_natCast,if_neg (fun q=>hp q.2)]
  rw [e0] at hr
  obtain ⟨rfl,rfl⟩:=Prod.mk.inj hr
  have hp2:p<0∨(¬ p<0∧p > (cdM m k).length):=by omega
  clear hr hq e0 hp hm
  rcases hp2 with hp|⟨hp,hpl⟩
  all_goals
   go_enter Tryz.func30,Tryz.ntmps30
   go_upto_region 1 with fail
   rw [←HW.out]
   have x0:=HX.out.cell 0 (v:=.slice h.co m.cl.length h.cc) rfl;have x1:=HX.out.cell 1 (v:=.slice h.so m.st.length h.sc) rfl;have x2:=HX.out.cell 2 (v:=.slice (some ea) m.me.length h.ec) rfl;have x3:=HX.out.cell 3 (v:=.int .i64 m.sel) rfl
   go_wp2_with (go_at_call 42;refine HA.out.mono ?_;rintro e w1 ⟨rfl,hb1⟩;have HB1:=Zh hb1;have x2:=(hb1.cell (Zac x2)).trans x2;have e6:=(hb1.cell (Zac e6)).trans e6;clear hb1 x0 x1 x3)
   all_goals
    go_ret2
    exact Zhg rfl rfl (Zaf HB.out HB1.out)
 obtain ⟨p,rfl⟩:∃ d:Nat,p=d:=⟨p.toNat,by omega⟩
 have hpl:p≤(cdM m k).length:=by omega
 have hpl0:¬ (p:Int) < 0:=by omega
 have hpl2:¬ (p:Int) > (cdM m k).length:=by omega
 obtain ⟨v,hv⟩:∃ v,v=Zrp m k p:=⟨_,rfl⟩
 have e0:Zrq m k p=if 1000000000<v then (0,6) else (v,0):=by unfold Zrq;rw [Int.toNat_natCast,Int.toNat_natCast,if_pos ⟨hq,hp⟩,←hv]
 rw [e0] at hr
 have HR:=Zh (show r1=(if 1000000000<v then 0 else v)∧r2=(if 1000000000<v then 6 else 0) by
  by_cases hc:1000000000<v
  ·rw [if_pos hc] at hr
   obtain ⟨rfl,rfl⟩:=Prod.mk.inj hr
   exact ⟨(if_pos hc).symm,(if_pos hc).symm⟩
  ·rw [if_neg hc] at hr
   obtain ⟨rfl,rfl⟩:=Prod.mk.inj hr
   exact ⟨(if_neg hc).symm,(if_neg hc).symm⟩)
 have hsg:Seg (cdM m k) 0 (cdM m k).length:=Zmg (ZfN hm hkl).n
 have hcv:ZaV false (cdM m k)=0:=(ZoS hm w).code hkl
 have HCo:=Zh (show ∀ w',Below w0.heap.size w0 w'→Calls Tryz.prog 51 _ w' (ZoM w' h m) from fun w' hb=>by have:=ZoN m h w' (HM.out.old hb);rwa [HEa.out] at this)
 have HPa:=Zh (show ∀ w',Below w0.heap.size w0 w'→Calls Tryz.prog 44 _ w' (Zmp w' (cdM m k) ((0:Nat)) (cdM m k).length) from fun w' hb=>Znu (cdM m k) (h.e k).ko (h.e k).kc hcv (cdM m k).length 0 (cdM m k).length w' (by omega) ((HM.out.old hb).k k hkl) hsg)
 have HRe:=Zh (fun B M W0=>Zrx (B:=B) (M:=M) (h:=h) (W0:=W0) hm hkl hpl (cdM m k).length 0 (cdM m k).length (by omega))
 have HV:=Zh (show rsV (gH m) (cdM m k) p ((cdM m k).length+1) 0 (cdM m k).length=v from hv.symm)
 clear hr e0 hv hq hp hm hk0 hk1 hsg hcv
 go_enter Tryz.func30,Tryz.ntmps30
 go_upto_region 1 with fail
 rw [←HW.out]
 have x0:=HX.out.cell 0 (v:=.slice h.co m.cl.length h.cc) rfl;have x1:=HX.out.cell 1 (v:=.slice h.so m.st.length h.sc) rfl;have x2:=HX.out.cell 2 (v:=.slice (some ea) m.me.length h.ec) rfl;have x3:=HX.out.cell 3 (v:=.int .i64 m.sel) rfl
 go_wp2_with (first
  | (go_at_call 42;refine HA.out.mono ?_;rintro e w1 ⟨rfl,hb1⟩;have HB1:=Zh hb1;have x0:=(hb1.cell (Zac x0)).trans x0;have x1:=(hb1.cell (Zac x1)).trans x1;have x2:=(hb1.cell (Zac x2)).trans x2;have x3:=(hb1.cell (Zac x3)).trans x3;have e6:=(hb1.cell (Zac e6)).trans e6;clear hb1)
  | (go_at_call 51;refine (HCo.out _ HB1.out).mono ?_;rintro e w2 ⟨B,M,rfl,hb2,hM2,hW2⟩;have HB2:=Zh (Zaf HB1.out hb2);have HM2:=Zh (Nat.le_trans HB1.out.size hM2);have HW2:=Zh (hW2 (ZmD (gW Zmx m) m));clear hb2 hW2 hM2)
  | (go_at_call 44;refine (HPa.out _ HB2.out).mono ?_;rintro e w3 ⟨ro,rc,rows,rfl,hown,hnd,hb3⟩;have HW3:=Zh (HW2.out.old hb3);have HB3:=Zh (Zaf HB2.out hb3);have HO3:=Zh hown;have HN3:=Zh (hnd.weak (Q:=fun _=>True) fun _ _=>trivial);clear hb3 hown hnd)
  | (go_at_call 65;refine (HRe.out B M w3 ((cdM m k).length+1) w3 _ ro rc rows (by omega) HW3.out (Znv.refl _) (Zar.of_own HO3.out) (Zmr HO3.out) HN3.out).mono ?_;rintro e w4 ⟨rfl,hu4,hn4⟩;rw [HV.out];have HU4:=Zh hu4;clear hu4 hn4)
  | (go_at_call 50;refine (Znd v _).mono ?_;rintro e w5 ⟨rfl,hb5⟩))
 all_goals
  go_ret2
  refine Zhg (ZcY ?_) (ZcY ?_) (Zaf HB.out (Zaf (HU4.out.below HB3.out (Nat.le_refl _) HM2.out HM2.out) hb5))
  ·rw [HR.out.1];first|exact (if_pos (by omega)).symm|exact (if_neg (by omega)).symm|rfl
  ·rw [HR.out.2];first|exact (if_pos (by omega)).symm|exact (if_neg (by omega)).symm|rfl
end
section
open Go.RowKit
theorem Zrz {m:Md}{k:Int} (h:ZoO m k=true):Zrq m k 0=ZoR m k:=by
 obtain ⟨hm,h0,h1⟩:=ZoP h
 have hr:Zrp m k.toNat 0=ZmD (gW Zmx m) m k.toNat:=by
  have hk:k.toNat<m.me.length:=by omega
  rw [ZoJ hm Zmx hk]
  exact Zra (Nat.succ_pos _)
 unfold Zrq ZoR
 rw [if_pos ⟨h,by omega,by omega⟩,if_pos h,Int.toNat_zero,hr]
theorem ZrA {m:Md}{k:Int} (h:ZoO m k=true):Zrq m k (cdM m k.toNat).length=(0,0):=by
 obtain ⟨hm,h0,h1⟩:=ZoP h
 have hr:Zrp m k.toNat (cdM m k.toNat).length=0:=Zq9 (z:=gH m) (c:=cdM m k.toNat) _ _ _ (Zmg (ZfN hm (show k.toNat<m.me.length by omega)).n) (Nat.le_refl _)
 unfold Zrq
 rw [if_pos ⟨h,by omega,by omega⟩,Int.toNat_natCast,hr,if_neg (by omega)]
theorem ZrB (m:Md) (h:Hd) (k p:Int) (w:World) (H:Zay w h m):Calls Tryz.prog 8 #[.agg #[.slice h.co m.cl.length h.cc,.slice h.so m.st.length h.sc,.slice h.eo m.me.length h.ec,.int .i64 m.sel],.int .i64 k,.int .i64 p] w (Ret w (.bool true)):=by
 obtain ⟨w0,hw0⟩:∃ w0,w0=w.alloc (.cells #[.slice h.co m.cl.length h.cc,.slice h.so m.st.length h.sc,.slice h.eo m.me.length h.ec,.int .i64 m.sel] 26):=⟨_,rfl⟩
 have HB:=Zh (show Below w.heap.size w w0 by rw [hw0];exact bE)
 have HX:=Zh (show Blk w0 w.heap.size #[.slice h.co m.cl.length h.cc,.slice h.so m.st.length h.sc,.slice h.eo m.me.length h.ec,.int .i64 m.sel] 26 by rw [hw0];exact Blk.new _ _ _)
 have HM:=Zh (H.old HB.out)
 have HW:=Zh hw0
 have HHv:=Zh (ZqV m h w0 HM.out)
 have HFt:=Zh (show ∀ w',Below w0.heap.size w0 w'→_ from fun w' hb=>ZqW m h k w' (HM.out.old hb))
 clear hw0 H
 rcases hhv:ZqU m with _|_
 rotate_left
 ·rw [hhv] at HHv
  clear hhv
  go_enter Tryz.func8,Tryz.ntmps8
  go_upto_region 1 with fail
  rw [←HW.out]
  have x0:=HX.out.cell 0 (v:=.slice h.co m.cl.length h.cc) rfl;have x1:=HX.out.cell 1 (v:=.slice h.so m.st.length h.sc) rfl;have x2:=HX.out.cell 2 (v:=.slice h.eo m.me.length h.ec) rfl;have x3:=HX.out.cell 3 (v:=.int .i64 m.sel) rfl
  go_wp2_with (first
   | (go_at_call 11;refine HHv.out.mono ?_;rintro e w1 ⟨rfl,hb1⟩;have HB1:=Zh hb1;clear hb1 x0 x1 x2 x3)
   | (go_at_call 12;refine (ZpD _).mono ?_;rintro e w2 ⟨rfl,hb2⟩))
  go_ret
  exact ZcT rfl (Zaf HB.out (Zaf HB1.out hb2))
 rw [hhv] at HHv HFt
 clear hhv
 obtain ⟨⟨a,ea⟩,hq1⟩:∃ q,q=Zrq m k p:=⟨_,rfl⟩
 have HRp:=Zh (show ∀ w',Below w0.heap.size w0 w'→_ from fun w' hb=>by have:=Zry m h k p w' (HM.out.old hb);rwa [←hq1] at this)
 have HRr:=Zh (show ∀ w',Below w0.heap.size w0 w'→_ from fun w' hb=>by have:=Zrv m h k p w' (HM.out.old hb);rwa [←hq1] at this)
 rcases hrd:ZoO m k with _|_
 ·rw [hrd] at HFt
  have e0:Zrq m k p=(0,1):=by unfold Zrq;rw [if_neg (by rw [hrd];intro q;cases q.1)]
  rw [e0] at hq1
  obtain ⟨rfl,rfl⟩:=Prod.mk.inj hq1
  clear hq1 hrd e0
  go_enter Tryz.func8,Tryz.ntmps8
  go_upto_region 1 with fail
  rw [←HW.out]
  have x0:=HX.out.cell 0 (v:=.slice h.co m.cl.length h.cc) rfl;have x1:=HX.out.cell 1 (v:=.slice h.so m.st.length h.sc) rfl;have x2:=HX.out.cell 2 (v:=.slice h.eo m.me.length h.ec) rfl;have x3:=HX.out.cell 3 (v:=.int .i64 m.sel) rfl
  go_wp2_with (first
   | (go_at_call 11;refine HHv.out.mono ?_;rintro e w1 ⟨rfl,hb1⟩;have HB1:=Zh hb1;have x0:=(hb1.cell (Zac x0)).trans x0;have x1:=(hb1.cell (Zac x1)).trans x1;have x2:=(hb1.cell (Zac x2)).trans x2;have x3:=(hb1.cell (Zac x3)).trans x3;clear hb1)
   | (go_at_call 30;refine (HRp.out _ HB1.out).mono ?_;rintro e w2 ⟨rfl,hb2⟩;have HB2:=Zh (Zaf HB1.out hb2);have x0:=(hb2.cell (Zac x0)).trans x0;have x1:=(hb2.cell (Zac x1)).trans x1;have x2:=(hb2.cell (Zac x2)).trans x2;have x3:=(hb2.cell (Zac x3)).trans x3;clear hb2)
   | (go_at_call 31;refine (HRr.out _ HB2.out).mono ?_;rintro e w3 ⟨rfl,hb3⟩;have HB3:=Zh (Zaf HB2.out hb3);have x0:=(hb3.cell (Zac x0)).trans x0;have x1:=(hb3.cell (Zac x1)).trans x1;have x2:=(hb3.cell (Zac x2)).trans x2;have x3:=(hb3.cell (Zac x3)).trans x3;clear hb3)
   | (go_at_call 18;refine (HFt.out _ HB3.out).mono ?_;rintro e w4 ⟨rfl,hb4⟩;have HB4:=Zh (Zaf HB3.out hb4);clear hb4 x0 x1 x2 x3)
   | (go_at_call 12;refine (ZpD _).mono ?_;rintro e w5 ⟨rfl,hb5⟩))
  go_ret
  exact ZcT rfl (Zaf HB.out (Zaf HB4.out hb5))
 rw [hrd] at HFt
 obtain ⟨-,hk0,hk1⟩:=ZoP hrd
 obtain ⟨k,rfl⟩:∃ d:Nat,k=d:=⟨k.toNat,by omega⟩
 have hkl:k<m.me.length:=by omega
 have hkl2:(k:Int) < m.me.length:=by omega
 have hz:=Zrz hrd
 have hn:=ZrA hrd
 rw [Int.toNat_natCast] at hn
 obtain ⟨⟨b,eb⟩,hq2⟩:∃ q,q=ZoR m k:=⟨_,rfl⟩
 have HR0:=Zh (show ∀ w',Below w0.heap.size w0 w'→Calls Tryz.prog 30 #[.agg #[.slice h.co m.cl.length h.cc,.slice h.so m.st.length h.sc,.slice h.eo m.me.length h.ec,.int .i64 m.sel],.int .i64 k,.int .i64 0] w' (Zhf w' (.int .i64 b) (.int .i64 eb)) from fun w' hb=>by have:=Zry m h k 0 w' (HM.out.old hb);rwa [hz,←hq2] at this)
 have HWo:=Zh (show ∀ w',Below w0.heap.size w0 w'→_ from fun w' hb=>by have:=ZoT m h k w' (HM.out.old hb);rwa [←hq2] at this)
 have HRn:=Zh (show ∀ w',Below w0.heap.size w0 w'→_ from fun w' hb=>by have:=Zry m h k ((cdM m k).length:Nat) w' (HM.out.old hb);rwa [hn] at this)
 obtain ⟨ea2,he,-,-,-,-,-,-,e6⟩:=HM.out.mth hkl
 rw [show (m.me.getD k default).k.length=(cdM m k).length from rfl] at e6
 rw [he] at HW HX HHv HFt HRp HRr HR0 HWo HRn ⊢
 clear hz hn hq1 hq2 hrd hk0 hk1 he
 go_enter Tryz.func8,Tryz.ntmps8
 go_upto_region 1 with fail
 rw [←HW.out]
 have x0:=HX.out.cell 0 (v:=.slice h.co m.cl.length h.cc) rfl;have x1:=HX.out.cell 1 (v:=.slice h.so m.st.length h.sc) rfl;have x2:=HX.out.cell 2 (v:=.slice (some ea2) m.me.length h.ec) rfl;have x3:=HX.out.cell 3 (v:=.int .i64 m.sel) rfl
 go_upto_region 11 with (first
  | (go_at_call 11;refine HHv.out.mono ?_;rintro e w1 ⟨rfl,hb1⟩;have HB1:=Zh hb1;have x0:=(hb1.cell (Zac x0)).trans x0;have x1:=(hb1.cell (Zac x1)).trans x1;have x2:=(hb1.cell (Zac x2)).trans x2;have x3:=(hb1.cell (Zac x3)).trans x3;have e6:=(hb1.cell (Zac e6)).trans e6;clear hb1)
  | (go_at_call 30;refine (HR0.out _ HB4.out).mono ?_;rintro e w5 ⟨rfl,hb5⟩;have HB5:=Zh (Zaf HB4.out hb5);have x0:=(hb5.cell (Zac x0)).trans x0;have x1:=(hb5.cell (Zac x1)).trans x1;have x2:=(hb5.cell (Zac x2)).trans x2;have x3:=(hb5.cell (Zac x3)).trans x3;have e6:=(hb5.cell (Zac e6)).trans e6;clear hb5)
  | (go_at_call 30;refine (HRp.out _ HB1.out).mono ?_;rintro e w2 ⟨rfl,hb2⟩;have HB2:=Zh (Zaf HB1.out hb2);have x0:=(hb2.cell (Zac x0)).trans x0;have x1:=(hb2.cell (Zac x1)).trans x1;have x2:=(hb2.cell (Zac x2)).trans x2;have x3:=(hb2.cell (Zac x3)).trans x3;have e6:=(hb2.cell (Zac e6)).trans e6;clear hb2)
  | (go_at_call 31;refine (HRr.out _ HB2.out).mono ?_;rintro e w3 ⟨rfl,hb3⟩;have HB3:=Zh (Zaf HB2.out hb3);have x0:=(hb3.cell (Zac x0)).trans x0;have x1:=(hb3.cell (Zac x1)).trans x1;have x2:=(hb3.cell (Zac x2)).trans x2;have x3:=(hb3.cell (Zac x3)).trans x3;have e6:=(hb3.cell (Zac e6)).trans e6;clear hb3)
  | (go_at_call 18;refine (HFt.out _ HB3.out).mono ?_;rintro e w4 ⟨rfl,hb4⟩;have HB4:=Zh (Zaf HB3.out hb4);have x0:=(hb4.cell (Zac x0)).trans x0;have x1:=(hb4.cell (Zac x1)).trans x1;have x2:=(hb4.cell (Zac x2)).trans x2;have x3:=(hb4.cell (Zac x3)).trans x3;have e6:=(hb4.cell (Zac e6)).trans e6;clear hb4)
  | (go_at_call 17;refine (HWo.out _ HB5.out).mono ?_;rintro e w6 ⟨rfl,hb6⟩;have HB6:=Zh (Zaf HB5.out hb6);have x0:=(hb6.cell (Zac x0)).trans x0;have x1:=(hb6.cell (Zac x1)).trans x1;have x2:=(hb6.cell (Zac x2)).trans x2;have x3:=(hb6.cell (Zac x3)).trans x3;have e6:=(hb6.cell (Zac e6)).trans e6;clear hb6))
 refine rO (Cs [(⟨w.heap.size,0,none⟩,.slice h.co m.cl.length h.cc),(⟨w.heap.size,1,none⟩,.slice h.so m.st.length h.sc),(⟨w.heap.size,2,none⟩,.slice (some ea2) m.me.length h.ec),(⟨w.heap.size,3,none⟩,.int .i64 m.sel),(_,.slice (h.e k).ko (cdM m k).length (h.e k).kc)]) (oL [0,1,2,3,4,5,6,7,8,109,10,11,12,13,14]) ⟨x0,x1,x2,x3,e6,trivial⟩ ?_
 repeat refine pO ?_
 refine oO fun Kv hK=>?_
 go_simp
 have HB6d:=Zh HB6.out.drew
 refine (HRn.out _ HB6d.out).mono ?_
 rintro e w7 ⟨rfl,hb7⟩
 have HB7:=Zh (Zaf HB6d.out hb7)
 refine hK _ _ ⟨Cs.keeps (Znv.of hb7) (show Cs [(⟨w.heap.size,0,none⟩,.slice h.co m.cl.length h.cc),(⟨w.heap.size,1,none⟩,.slice h.so m.st.length h.sc),(⟨w.heap.size,2,none⟩,.slice (some ea2) m.me.length h.ec),(⟨w.heap.size,3,none⟩,.int .i64 m.sel),(_,.slice (h.e k).ko (cdM m k).length (h.e k).kc)] w6.drew from ⟨x0,x1,x2,x3,e6,trivial⟩),?_⟩
 clear hK Kv hb7 x0 x1 x2 x3 e6
 repeat refine pO ?_
 refine Zd5 ?_
 go_wp2_with (go_at_call 12;refine (ZpD _).mono ?_;rintro e w8 ⟨rfl,hb8⟩)
 go_ret
 exact ZcT rfl (Zaf HB.out (Zaf HB7.out hb8))
end
end Go.Proofs.YtfkbfjhocmbneaaGreat
