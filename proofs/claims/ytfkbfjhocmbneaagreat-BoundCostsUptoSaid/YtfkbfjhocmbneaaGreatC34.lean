/- Joined texts. The first: isochronref03.around, Opener; isochronref07.Body. -/
import Derived.Test.YtfkbfjhocmbneaaGreatC32
import Derived.Test.YtfkbfjhocmbneaaGreatC33
set_option linter.all false
set_option linter.unusedVariables false
set_option linter.unusedSimpArgs false
set_option maxRecDepth 100000
set_option maxHeartbeats 16000000
namespace Go.Proofs.YtfkbfjhocmbneaaGreat
section
open Go.RowKit
end
section
open Go.RowKit
theorem ZrN {m:Md} (h:MdB m):Zqz m:=
 ⟨by have:=h.z;omega,by have:=h.z;omega,by have:=h.z;omega,fun i hi=>by have:=h.c i hi;omega,fun i hi=>by have:=h.m i hi;omega⟩
theorem ZrO (m:Md) (k:Int):(ZoR m k).2≠0∨(Zpl m k).2≠0∨(Zpl m k).1≤(ZoR m k).1:=by
 by_cases hr:ZoO m k=true
 ·obtain ⟨hm,h0,h1⟩:=ZoP hr
  have hl:=ZrM hm (ZqT (Zrb hr)).2 (k.toNat+1) k.toNat (by omega) (by omega)
  unfold ZoR Zpl
  rw [if_pos hr,if_pos hr]
  unfold Rl at hl
  by_cases a1:1000000000<ZmD (gW Zmx m) m k.toNat
  ·rw [if_pos a1];exact .inl (by decide)
  ·rw [if_neg a1]
   by_cases a2:ZmD (gL m) m k.toNat<0
   ·rw [if_pos a2];exact .inr (.inl (by decide))
   ·rw [if_neg a2,if_neg (by omega)]
    exact .inr (.inr (by dsimp only;omega))
 ·unfold ZoR
  rw [if_neg hr]
  exact .inl (by decide)
theorem ZrP (m:Md):(Zrh m).1.length≤m.me.length:=by
 unfold Zrh
 split
 ·split
  ·simp
  ·dsimp only;rw [ZmE];exact Nat.le_refl _
 ·simp
theorem ZrQ (m:Md) (h:Hd) (k:Int) (w:World) (H:Zay w h m) (hsz:MdB m):Calls Tryz.prog 7 #[.agg #[.slice h.co m.cl.length h.cc,.slice h.so m.st.length h.sc,.slice h.eo m.me.length h.ec,.int .i64 m.sel],.int .i64 k] w (Ret w (.bool true)):=by
 obtain ⟨w0,hw0⟩:∃ w0,w0=w.alloc (.cells #[.slice h.co m.cl.length h.cc,.slice h.so m.st.length h.sc,.slice h.eo m.me.length h.ec,.int .i64 m.sel] 26):=⟨_,rfl⟩
 have HB:=Zh (show Below w.heap.size w w0 by rw [hw0];exact bE)
 have HX:=Zh (show Blk w0 w.heap.size #[.slice h.co m.cl.length h.cc,.slice h.so m.st.length h.sc,.slice h.eo m.me.length h.ec,.int .i64 m.sel] 26 by rw [hw0];exact Blk.new _ _ _)
 have HM:=Zh (H.old HB.out)
 have HW:=Zh hw0
 have HSm:=Zh (ZrN hsz)
 have HLaw:=Zh (ZrO m k)
 have HLn:=Zh (show (Zrh m).1.length≤2000000 from Nat.le_trans (ZrP m) (ZrN hsz).me)
 obtain ⟨⟨ra,re⟩,hq1⟩:∃ q,q=ZoR m k:=⟨_,rfl⟩
 obtain ⟨⟨rc,rg⟩,hq2⟩:∃ q,q=Zpl m k:=⟨_,rfl⟩
 obtain ⟨⟨L,ri⟩,hq3⟩:∃ q,q=Zrh m:=⟨_,rfl⟩
 have HA:=Zh (fun w' h' (H':Zay w' h' m)=>show Calls Tryz.prog 17 _ w' (Zhf w' (.int .i64 ra) (.int .i64 re)) from by have:=ZoT m h' k w' H';rwa [←hq1] at this)
 have HA2:=Zh (fun w' (H':Zay w' h m)=>show Calls Tryz.prog 25 _ w' (Zhf w' (.int .i64 ra) (.int .i64 re)) from by have:=Zre m h k w' H';rwa [←hq1] at this)
 have HC:=Zh (fun w' h' (H':Zay w' h' m)=>show Calls Tryz.prog 24 _ w' (Zhf w' (.int .i64 rc) (.int .i64 rg)) from by have:=Zpm m h' k w' H';rwa [←hq2] at this)
 have HC2:=Zh (fun w' (H':Zay w' h m)=>show Calls Tryz.prog 26 _ w' (Zhf w' (.int .i64 rc) (.int .i64 rg)) from by have:=Zrf m h k w' H';rwa [←hq2] at this)
 have HL:=Zh (fun w' h' (H':Zay w' h' m)=>show Calls Tryz.prog 27 _ w' (Zij w' L ri) from by have:=Zrp m h' w' H';rwa [←hq3] at this)
 have HL2:=Zh (fun w' (H':Zay w' h m)=>show Calls Tryz.prog 28 _ w' (Zro w' L ri) from by have:=Zrq m h w' H';rwa [←hq3] at this)
 rw [←hq1,←hq2] at HLaw
 rw [←hq3] at HLn
 clear hw0 H hsz hq1 hq2 hq3
 go_enter Tryz.func7,Tryz.ntmps7
 go_upto_region 1 with fail
 rw [←HW.out]
 obtain ⟨x0,x1,x2,x3⟩:=Zj4 HX.out
 go_upto_region 3 with (first
  | (go_at_call 11;refine (ZqP m h _ HM.out).mono ?_;rintro e w1 ⟨⟨b,rfl⟩,hb1⟩;have HB1:=Zh hb1;clear hb1 x0 x1 x2 x3;obtain ⟨x0,x1,x2,x3⟩:=Zj4 (HX.out.old HB1.out))
  | (go_at_call 12;refine (ZpD _).mono ?_;rintro e w2 ⟨rfl,hb2⟩))
 ·go_ret
  exact ZcT rfl (Zaf HB.out (Zaf HB1.out hb2))
 go_upto_region 4 with (go_at_call 19;refine (ZqM _ h m (HM.out.old HB1.out) HSm.out).mono ?_;rintro r w2 ⟨h2,rfl,hcp,hb2⟩;have HC0:=Zh hcp;have HB2:=Zh (Zaf HB1.out hb2);clear hcp hb2 x0 x1 x2 x3)
 obtain ⟨W3,hW3⟩:∃ W3,W3=w2.alloc (.cells #[.slice h2.co m.cl.length h2.cc,.slice h2.so m.st.length h2.sc,.slice h2.eo m.me.length h2.ec,.int .i64 m.sel] 26):=⟨_,rfl⟩
 have hnb:Blk W3 w2.heap.size #[.slice h2.co m.cl.length h2.cc,.slice h2.so m.st.length h2.sc,.slice h2.eo m.me.length h2.ec,.int .i64 m.sel] 26:=by rw [hW3];exact Blk.new w2 _ _
 have hb3:Below w2.heap.size w2 W3:=by rw [hW3];exact bE
 rw [←hW3]
 have HNb:=Zh hnb
 have HB3:=Zh (Zaf HB2.out hb3)
 have HX3:=Zh (HX.out.old HB3.out)
 have HM3:=Zh (HM.out.old HB3.out)
 have HD3:=Zh ((HC0.out.old hb3).at_ HSm.out)
 clear hW3 hnb hb3
 generalize w2.heap.size=NB at HNb ⊢
 have HBN:=Zh (Below.refl W3.heap.size W3)
 obtain ⟨x0,x1,x2,x3⟩:=Zj4 HX3.out
 obtain ⟨n0,n1,n2,n3⟩:=Zj4 (h:=h2) HNb.out
 go_upto_region 8 with (first
  | (go_at_call 17;refine (HA.out _ h2 (HD3.out.old HBN.out)).mono ?_;rintro e w4 ⟨rfl,hb⟩;have HBN:=Zh (Zaf HBN.out hb);clear hb x0 x1 x2 x3 n0 n1 n2 n3;obtain ⟨x0,x1,x2,x3⟩:=Zj4 (HX3.out.old HBN.out);obtain ⟨n0,n1,n2,n3⟩:=Zj4 (h:=h2) (HNb.out.old HBN.out))
  | (go_at_call 25;refine (HA2.out _ (HM3.out.old HBN.out)).mono ?_;rintro e w5 ⟨rfl,hb⟩;have HBN:=Zh (Zaf HBN.out hb);clear hb x0 x1 x2 x3 n0 n1 n2 n3;obtain ⟨x0,x1,x2,x3⟩:=Zj4 (HX3.out.old HBN.out);obtain ⟨n0,n1,n2,n3⟩:=Zj4 (h:=h2) (HNb.out.old HBN.out))
  | (go_at_call 24;refine (HC.out _ h2 (HD3.out.old HBN.out)).mono ?_;rintro e w6 ⟨rfl,hb⟩;have HBN:=Zh (Zaf HBN.out hb);clear hb x0 x1 x2 x3 n0 n1 n2 n3;obtain ⟨x0,x1,x2,x3⟩:=Zj4 (HX3.out.old HBN.out);obtain ⟨n0,n1,n2,n3⟩:=Zj4 (h:=h2) (HNb.out.old HBN.out))
  | (go_at_call 26;refine (HC2.out _ (HM3.out.old HBN.out)).mono ?_;rintro e w7 ⟨rfl,hb⟩;have HBN:=Zh (Zaf HBN.out hb);clear hb x0 x1 x2 x3 n0 n1 n2 n3;obtain ⟨x0,x1,x2,x3⟩:=Zj4 (HX3.out.old HBN.out);obtain ⟨n0,n1,n2,n3⟩:=Zj4 (h:=h2) (HNb.out.old HBN.out)))
 go_upto_region 10 with (first
  | (go_at_call 27;refine (HL.out _ h2 (HD3.out.old HBN.out)).mono ?_;rintro e w8 ⟨⟨ao,ac,rfl,hr,-⟩,hb⟩;have HR:=Zh hr;have HBN:=Zh (Zaf HBN.out hb);clear hr hb x0 x1 x2 x3 n0 n1 n2 n3;obtain ⟨x0,x1,x2,x3⟩:=Zj4 (HX3.out.old HBN.out);obtain ⟨n0,n1,n2,n3⟩:=Zj4 (h:=h2) (HNb.out.old HBN.out))
  | (go_at_call 28;refine (HL2.out _ (HM3.out.old HBN.out)).mono ?_;rintro e w9 ⟨⟨bo,bc,rfl,hr⟩,hb⟩;have HS:=Zh hr;have HR9:=Zh (HR.out.old hb);have HBN:=Zh (Zaf HBN.out hb);clear hr hb x0 x1 x2 x3 n0 n1 n2 n3;obtain ⟨x0,x1,x2,x3⟩:=Zj4 (HX3.out.old HBN.out);obtain ⟨n0,n1,n2,n3⟩:=Zj4 (h:=h2) (HNb.out.old HBN.out)))
 have hI:=ZpC w9 ao bo ac bc L L HR9.out HS.out HLn.out
 rw [decide_eq_true rfl] at hI
 have HI:=Zh hI
 clear hI
 go_upto_region 12 with (first
  | (go_at_call 15;refine HI.out.mono ?_;rintro e w10 ⟨rfl,hb⟩;have HBN:=Zh (Zaf HBN.out hb);clear hb x0 x1 x2 x3 n0 n1 n2 n3;obtain ⟨x0,x1,x2,x3⟩:=Zj4 (HX3.out.old HBN.out);obtain ⟨n0,n1,n2,n3⟩:=Zj4 (h:=h2) (HNb.out.old HBN.out))
  | (go_at_call 29;refine (Zrx m h h2 _ (HM3.out.old HBN.out) (HD3.out.old HBN.out) HSm.out).mono ?_;rintro e w11 ⟨rfl,hb⟩;have HBN:=Zh (Zaf HBN.out hb);clear hb x0 x1 x2 x3 n0 n1 n2 n3))
 have hl:(¬ re=0)∨(re=0∧¬ rg=0)∨(re=0∧rg=0∧rc≤ra):=by have:=HLaw.out;omega
 rcases hl with h1|⟨rfl,h1⟩|⟨rfl,rfl,h1⟩
 all_goals
  go_wp2_with (go_at_call 12;refine (ZpD _).mono ?_;rintro e w12 ⟨rfl,hb⟩)
  go_ret
  exact ZcT rfl (Zaf HB.out (Zaf HB3.out (Zaf HBN.out hb)))
end
end Go.Proofs.YtfkbfjhocmbneaaGreat
