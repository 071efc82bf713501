/- Joined texts. The first: escape.Safe and Left on isochronlaw16.sane's module. -/
import Derived.Test.YtcfjblcgceednaaGreatE35
import Derived.Test.YtcfjblcgceednaaGreatE29
set_option linter.all false
set_option linter.unusedVariables false
set_option linter.unusedSimpArgs false
set_option maxRecDepth 100000
set_option maxHeartbeats 8000000
namespace Go.Proofs.YtcfjblcgceednaaGreat
theorem j7{p:Prop}(h:p:=by
 go_wp2_with (first|(go_at_call 23;refine (Zok _).mono ?_;rintro e wz ⟨rfl,hbz⟩)|(go_at_call 26;have hq:=HB2;clear hq;refine (H5.out _).mono ?_;rintro e w3 ⟨rfl,hb3⟩;have HKa3:=Zh (HKa2.out.old hb3);have HKb3:=Zh (HKb2.out.old hb3);have HKc3:=Zh (HKc2.out.old hb3);have HKd3:=Zh (HKd2.out.old hb3);have HB3:=Zh (Zaf HB2.out hb3);clear hb3 ca0 ca1 cb0 cb1 cc0 cc1 cd0 cd1;obtain ⟨ca0,ca1⟩:=Zom HKa3.out;obtain ⟨cb0,cb1⟩:=Zom HKb3.out;obtain ⟨cc0,cc1⟩:=Zom HKc3.out;obtain ⟨cd0,cd1⟩:=Zom HKd3.out))
 go_ret
 exact ⟨by trivial,Zaf HB3.out hbz⟩):p:=h
theorem j8{p:Prop}(h:p:=by
 go_upto_region 5 with (go_at_call 25;have hq:=HB2;clear hq;refine (H2.out _).mono ?_;rintro e w3 ⟨rfl,hb3⟩;have HKa3:=Zh (HKa2.out.old hb3);have HKb3:=Zh (HKb2.out.old hb3);have HKc3:=Zh (HKc2.out.old hb3);have HKd3:=Zh (HKd2.out.old hb3);have HB3:=Zh (Zaf HB2.out hb3);clear hb3 ca0 ca1 cb0 cb1 cc0 cc1 cd0 cd1;obtain ⟨ca0,ca1⟩:=Zom HKa3.out;obtain ⟨cb0,cb1⟩:=Zom HKb3.out;obtain ⟨cc0,cc1⟩:=Zom HKc3.out;obtain ⟨cd0,cd1⟩:=Zom HKd3.out)
 go_upto_region 6 with (go_at_call 25;have hq:=HB3;clear hq;refine (H4.out _).mono ?_;rintro e w4 ⟨rfl,hb4⟩;have HKa4:=Zh (HKa3.out.old hb4);have HKb4:=Zh (HKb3.out.old hb4);have HKc4:=Zh (HKc3.out.old hb4);have HKd4:=Zh (HKd3.out.old hb4);have HB4:=Zh (Zaf HB3.out hb4);clear hb4 ca0 ca1 cb0 cb1 cc0 cc1 cd0 cd1;obtain ⟨ca0,ca1⟩:=Zom HKa4.out;obtain ⟨cb0,cb1⟩:=Zom HKb4.out;obtain ⟨cc0,cc1⟩:=Zom HKc4.out;obtain ⟨cd0,cd1⟩:=Zom HKd4.out)
 exact j13):p:=h
theorem j13{p:Prop}(h:p:=by
 go_wp2_with (go_at_call 23;refine (Zok _).mono ?_;rintro e wz ⟨rfl,hbz⟩)
 go_ret
 exact ⟨by trivial,Zaf HB4.out hbz⟩):p:=h
section
open Go.RowKit
attribute [local go_sem] World.cell?_alloc_some
theorem Zoc:(Zmg ZnY).2.2=0:=by kernel_rfl
theorem Zod (m:Md) (h:Hd) (w:World) (H:Zay w h m) (hm:m=ZnY):Calls Tryz.prog 66 #[.agg #[.slice h.co m.cl.length h.cc,.slice h.so m.st.length h.sc,.slice h.eo m.me.length h.ec,.int .i64 m.sel],.int .i64 0] w (Ret w (.bool true)):=by
 have hk2:(0:Int) < m.me.length:=by rw [hm];decide
 obtain ⟨w0,hw0⟩:∃ w0,w0=w.alloc (.cells #[.slice h.co m.cl.length h.cc,.slice h.so m.st.length h.sc,.slice h.eo m.me.length h.ec,.int .i64 m.sel] 26):=⟨_,rfl⟩
 have HB:=Zh (show Below w.heap.size w w0 by rw [hw0];exact bE)
 have HX:=Zh (show Blk w0 w.heap.size #[.slice h.co m.cl.length h.cc,.slice h.so m.st.length h.sc,.slice h.eo m.me.length h.ec,.int .i64 m.sel] 26 by rw [hw0];exact Blk.new _ _ _)
 have hV:=Zmj w0 h m (H.old HB.out)
 have hz:(Zmg m).2.2=0:=by rw [hm];exact Zoc
 obtain ⟨⟨z0,z1,z2⟩,hq⟩:∃ q,q=Zmg m:=⟨_,rfl⟩
 rw [←hq] at hV hz
 obtain rfl:z2=0:=hz
 have HV:=Zh hV
 have HW:=Zh hw0
 clear hw0 H hV hq hm
 go_enter Tryz.func66,Tryz.ntmps66
 go_upto_region 1 with fail
 rw [←HW.out]
 have x0:=HX.out.cell 0 (v:=.slice h.co m.cl.length h.cc) rfl
 have x1:=HX.out.cell 1 (v:=.slice h.so m.st.length h.sc) rfl
 have x2:=HX.out.cell 2 (v:=.slice h.eo m.me.length h.ec) rfl
 have x3:=HX.out.cell 3 (v:=.int .i64 m.sel) rfl
 go_wp2_with (go_at_call 82;refine HV.out.mono ?_;rintro e w1 ⟨rfl,hb1⟩;have x2:=(HX.out.old hb1).cell 2 (v:=.slice h.eo m.me.length h.ec) rfl;have HB1:=Zh (Zaf HB.out hb1);clear hb1)
 go_ret
 exact ZcT (ZcX (decide_eq_true (by omega))) HB1.out
theorem Zoe (w:World) (g k:Nat) (u:Value):w.grownBy (w.setCell ⟨g,k,none⟩ u) (some g):=
 ⟨rfl,rfl,rfl,by simp,fun q _ hn=>heap_setCell_other w ⟨g,k,none⟩ q u fun e=>hn (by rw [e])⟩
def Zof (b:Bool):Array Value:=#[.bool false,.bool false,.bool b,.bool false,.bool false,.bool false]
theorem Zog (m:Md) (h:Hd) (w:World) (H:Zay w h m) (hm:m=ZnY):Calls Tryz.prog 71 #[.agg #[.slice h.co m.cl.length h.cc,.slice h.so m.st.length h.sc,.slice h.eo m.me.length h.ec,.int .i64 m.sel],.int .i64 0] w fun e w'=>(∃ g,e=.returned (.tuple #[.slice (some ⟨g,0,none⟩) 6 6,.int .i64 0])∧Blk w' g (Zof true) 4)∧Below w.heap.size w w':=by
 have hk:0<m.me.length:=by rw [hm];decide
 have hk2:(0:Int) < m.me.length:=by omega
 have hmk0:=run_make_row' (P:=Tryz.prog) 100 4 (.bool false) 1 Tryz.underlying100 (by kernel_rfl) rfl .i64 .i64 6 (by omega) (by omega)
 rw [Zcn] at hmk0
 have hmk:∀ w:World,(Instr.makeSlice 100 (.int .i64 6) (.int .i64 6)).run Tryz.prog w=.ok (.slice (some ⟨w.heap.size,0,none⟩) 6 6) (w.alloc (.cells (Zof false) 4)):=hmk0
 clear hmk0
 obtain ⟨w0,hw0⟩:∃ w0,w0=w.alloc (.cells #[.slice h.co m.cl.length h.cc,.slice h.so m.st.length h.sc,.slice h.eo m.me.length h.ec,.int .i64 m.sel] 26):=⟨_,rfl⟩
 have HB:=Zh (show Below w.heap.size w w0 by rw [hw0];exact bE)
 have HX:=Zh (show Blk w0 w.heap.size #[.slice h.co m.cl.length h.cc,.slice h.so m.st.length h.sc,.slice h.eo m.me.length h.ec,.int .i64 m.sel] 26 by rw [hw0];exact Blk.new _ _ _)
 have HW:=Zh hw0
 have HM:=Zh H
 have HMm:=Zh hm
 have HIs:=Zh (fun w' (hb:Below w.heap.size w w')=>Zod m h w' (H.old hb) hm)
 have HSt0:=fun w' (hb:Below w.heap.size w w')=>Zob m h w' (H.old hb) hm
 obtain ⟨K,hK⟩:∃ K:List Nat,K=[5,2]:=⟨_,rfl⟩
 rw [←hK] at HSt0
 have HSt:=Zh HSt0
 have HKq:=Zh hK
 clear HSt0 hK
 clear hw0 H hm
 go_enter Tryz.func71,Tryz.ntmps71
 go_upto_region 1 with fail
 rw [←HW.out]
 have x0:=HX.out.cell 0 (v:=.slice h.co m.cl.length h.cc) rfl
 have x1:=HX.out.cell 1 (v:=.slice h.so m.st.length h.sc) rfl
 have x2:=HX.out.cell 2 (v:=.slice h.eo m.me.length h.ec) rfl
 have x3:=HX.out.cell 3 (v:=.int .i64 m.sel) rfl
 go_upto_region 3 with (go_at_call 66;refine (HIs.out _ HB.out).mono ?_;rintro e w1 ⟨rfl,hb1⟩;have HX1:=Zh (HX.out.old hb1);have HB1:=Zh (Zaf HB.out hb1);clear hb1 x0 x1 x2 x3)
 have HM1:=Zh (HM.out.old HB1.out)
 obtain ⟨ea,hea,-,-,-,-,-,-,e6⟩:=HM1.out.mth hk
 rw [Nat.zero_mul,ZnX,show (m.me.getD 0 default).k.length=6 by rw [HMm.out];rfl] at e6
 have x2:=HX1.out.cell 2 (v:=.slice h.eo m.me.length h.ec) rfl
 rw [hea] at x2
 go_upto_region 4 with fail
 clear hmk x2 e6 hea
 obtain ⟨g,hg⟩:∃ g,g=w1.heap.size:=⟨_,rfl⟩
 obtain ⟨w2,hw2⟩:∃ w2,w2=w1.alloc (.cells (Zof false) 4):=⟨_,rfl⟩
 rw [←hg,←hw2]
 have hb2:Below w1.heap.size w1 w2:=by rw [hw2];exact bE
 have HG2:=Zh (show Blk w2 g (Zof false) 4 by rw [hw2];exact Blk.new' _ _ hg)
 have HX2:=Zh (HX1.out.old hb2)
 have HB2:=Zh (Zaf HB1.out hb2)
 have HGl:=Zh (show w.heap.size<g by rw [hg];exact HX1.out.lt)
 clear hg hw2 hb2
 have x0:=HX2.out.cell 0 (v:=.slice h.co m.cl.length h.cc) rfl
 have x1:=HX2.out.cell 1 (v:=.slice h.so m.st.length h.sc) rfl
 have x2:=HX2.out.cell 2 (v:=.slice h.eo m.me.length h.ec) rfl
 have x3:=HX2.out.cell 3 (v:=.int .i64 m.sel) rfl
 go_wp2_with (first|(go_at_call 139;refine (HSt.out _ HB2.out).mono ?_;rintro e w3 ⟨M,rfl,hM,hMl,hb3⟩;have HM3:=Zh hM;have HG3:=Zh (HG2.out.old hb3);have HB3:=Zh (Zaf HB2.out hb3);have HML:=Zh (Nat.lt_of_lt_of_le HG2.out.lt hMl);clear hM hb3 hMl x0 x1 x2 x3)|(at_range;refine Zn7 rfl _ rfl (M:=M) (K:=K) (V:=stV) rfl HM3.out ?_;intro w4 cnt hr4 hb4 hs4;have HR4:=Zh hr4;have HG4:=Zh (HG3.out.old hb4);have HB4:=Zh (Zaf HB3.out hb4);have HRg:=Zh (show g<w3.heap.size∧w.heap.size<w3.heap.size from ⟨HG3.out.lt,Nat.lt_trans HGl.out HG3.out.lt⟩);clear hr4 hb4 hs4))
 go_frame
 go_loopw [25] (fun _ wr=>∃ (ds:List Nat) (c:Nat) (b:Bool),Hid (Zn6 wr M w3.heap.size K ds stV c)∧Hid (Blk wr g (Zof b) 4)∧Hid (b=decide (2∈ds))∧Hid (Below w.heap.size w wr)) (fun _ wr=>wr.rangeLeft M w3.heap.size)
 case atStart=>exact ⟨[],cnt,false,HR4.out,HG4.out,rfl,HB4.out⟩
 case round=>
  obtain ⟨ds,c,b,HR,HGo,HD,HBo⟩:=hrel
  rename World=>wo
  go_wp2_with (at_next;refine Zn8 rfl _ rfl (M:=M) (r:=w3.heap.size) (K:=K) (ds:=ds) rfl HR.out ?_ ?_)
  ·intro hall
   have hb:b=true:=by rw [HD.out];simp [hall 2 (by rw [HKq.out];simp)]
   subst hb
   clear hall
   go_wp2
   go_ret2
   exact ⟨⟨g,rfl,HGo.out⟩,HBo.out⟩
  ·intro k w5 c5 hk5 hkd hr5 hlt5 hg5 hen
   have HR5:=Zh hr5
   have HBl:=Zh (ZcV HBo.out hg5 (fun j hj=>by cases hj;exact Nat.le_of_lt HRg.out.2))
   have HG5:=Zh (show Blk w5 g (Zof b) 4 from (hg5.block g HGo.out.lt (fun e=>by have:=HRg.out.1;cases e;omega)).trans HGo.out)
   have HLe:=Zh (show c5<wo.rangeLeft M w3.heap.size by rw [HR.out.left_eq];exact hlt5)
   have hk6:k=5∨k=2:=by rw [HKq.out] at hk5;simpa using hk5
   have HK6:=Zh hk6
   have hk62:(k:Int) < 6:=by omega
   have hkn:k<6:=by omega
   obtain ⟨y,hy⟩:∃ y,(Zof b)[k]?=some (.bool y):=by rcases hk6 with rfl|rfl<;>exact ⟨_,rfl⟩
   have gc:=HG5.out.cell k hy
   have gf:=HG5.out.frozen k
   have gl:=HG5.out.lt
   clear hr5 hg5 hlt5 hk6 hk5 hkd hy
   go_wp2
   obtain ⟨w6,hw6⟩:∃ w6,w6=w5.setCell ⟨g,k,none⟩ (.bool (stV k)):=⟨_,rfl⟩
   have hgr:=Zoe w5 g k (.bool (stV k))
   rw [←hw6] at hgr ⊢
   have hR6:=HR5.out.grown hgr (by have:=HML.out;intro e;cases e;omega) (by have:=HRg.out.1;intro e;cases e;omega)
   refine ⟨⟨k :: ds,c5,(if k=2 then true else b),hR6,?_,?_,ZcV HBl.out hgr (fun j hj=>by cases hj;exact Nat.le_of_lt HGl.out)⟩,by rw [hR6.left_eq];exact HLe.out⟩
   ·have h6:=HG5.out.set k (.bool (stV k))
    rw [←hw6] at h6
    rcases HK6.out with rfl|rfl
    ·exact h6
    ·exact h6
   ·show (if k=2 then true else b)=decide (2∈k :: ds)
    rcases HK6.out with rfl|rfl
    ·rw [if_neg (by decide),HD.out];simp
    ·rw [if_pos rfl];simp
theorem Zoh (m:Md) (h:Hd) (w:World) (H:Zay w h m) (hm:m=ZnY):Calls Tryz.prog 72 #[.agg #[.slice h.co m.cl.length h.cc,.slice h.so m.st.length h.sc,.slice h.eo m.me.length h.ec,.int .i64 m.sel]] w (fun e w'=>e=.returned (.tuple #[.int .i64 1,.int .i64 0])∧Below w.heap.size w w'):=by
 have hk:m.me.length=1:=by rw [hm];decide
 obtain ⟨w0,hw0⟩:∃ w0,w0=w.alloc (.cells #[.slice h.co m.cl.length h.cc,.slice h.so m.st.length h.sc,.slice h.eo m.me.length h.ec,.int .i64 m.sel] 26):=⟨_,rfl⟩
 have HB:=Zh (show Below w.heap.size w w0 by rw [hw0];exact bE)
 have HX:=Zh (show Blk w0 w.heap.size #[.slice h.co m.cl.length h.cc,.slice h.so m.st.length h.sc,.slice h.eo m.me.length h.ec,.int .i64 m.sel] 26 by rw [hw0];exact Blk.new _ _ _)
 have HW:=Zh hw0
 have hV:=Zmj w0 h m (H.old HB.out)
 have hz:(Zmg m).2.2=0:=by rw [hm];exact Zoc
 obtain ⟨⟨z0,z1,z2⟩,hq⟩:∃ q,q=Zmg m:=⟨_,rfl⟩
 rw [←hq] at hV hz
 obtain rfl:z2=0:=hz
 have HV:=Zh hV
 have HSt0:=fun w' (hb:Below w.heap.size w w')=>Zob m h w' (H.old hb) hm
 obtain ⟨K,hK⟩:∃ K:List Nat,K=[5,2]:=⟨_,rfl⟩
 rw [←hK] at HSt0
 have HSt:=Zh HSt0
 have HKq:=Zh hK
 have HK1:=Zh hk
 clear HSt0 hK hw0 H hm hV hq hk
 go_enter Tryz.func72,Tryz.ntmps72
 go_upto_region 1 with fail
 rw [←HW.out]
 have x0:=HX.out.cell 0 (v:=.slice h.co m.cl.length h.cc) rfl
 have x1:=HX.out.cell 1 (v:=.slice h.so m.st.length h.sc) rfl
 have x2:=HX.out.cell 2 (v:=.slice h.eo m.me.length h.ec) rfl
 have x3:=HX.out.cell 3 (v:=.int .i64 m.sel) rfl
 go_wp2_with (go_at_call 82;refine HV.out.mono ?_;rintro e w1 ⟨rfl,hb1⟩;have HX1:=Zh (HX.out.old hb1);have x2:=HX1.out.cell 2 (v:=.slice h.eo m.me.length h.ec) rfl;rw [HK1.out] at x2;have HB1:=Zh (Zaf HB.out hb1);clear hb1 x0 x1 x3)
 clear x2
 go_loopw [22,7] (fun i n wr=>∃ k:Nat,k≤1∧i=.int .i64 k∧n=.int .i64 k∧Hid (Below w1.heap.size w1 wr)) (fun i _ _=>1-(intOf i).toNat)
 case atStart=>exact ⟨0,Nat.zero_le _,rfl,rfl,Below.refl _ _⟩
 case round=>
  obtain ⟨k,hk1,rfl,rfl,HBr⟩:=hrel
  rename World=>wo
  have hk01:k=0∨k=1:=by omega
  rcases hk01 with rfl|rfl
  ·have HXr:=Zh (HX1.out.old HBr.out)
   have HB2:=Zh (Zaf HB1.out HBr.out)
   have x0:=HXr.out.cell 0 (v:=.slice h.co m.cl.length h.cc) rfl
   have x1:=HXr.out.cell 1 (v:=.slice h.so m.st.length h.sc) rfl
   have x2:=HXr.out.cell 2 (v:=.slice h.eo m.me.length h.ec) rfl
   have x3:=HXr.out.cell 3 (v:=.int .i64 m.sel) rfl
   go_wp2_with (first|(go_at_call 139;refine (HSt.out _ HB2.out).mono ?_;rintro e w3 ⟨M,rfl,hM,hMl,hb3⟩;have HM3:=Zh hM;have HB3:=Zh (Zaf HBr.out hb3);clear hM hb3 hMl x0 x1 x2 x3)|(at_range;refine Zn7 rfl _ rfl (M:=M) (K:=K) (V:=stV) rfl HM3.out ?_;intro w4 cnt hr4 hb4 hs4;have HR4:=Zh hr4;have HB4:=Zh (Zaf HB3.out hb4);have HRg:=Zh (show w1.heap.size≤w3.heap.size from HB3.out.size);clear hr4 hb4 hs4))
   go_frame
   go_loopw [29,7] (fun _ n wr=>∃ (ds:List Nat) (c q:Nat),n=.int .i64 q∧Hid (Zn6 wr M w3.heap.size K ds stV c)∧Hid (q=if 5∈ds then 1 else 0)∧Hid (Below w1.heap.size w1 wr)) (fun _ _ wr=>wr.rangeLeft M w3.heap.size)
   case atStart=>exact ⟨[],cnt,0,rfl,HR4.out,rfl,HB4.out⟩
   case round=>
    obtain ⟨ds,c,q,rfl,HR,HD,HBo⟩:=hrel
    rename World=>wu
    go_wp2_with (at_next;refine Zn8 rfl _ rfl (M:=M) (r:=w3.heap.size) (K:=K) (ds:=ds) rfl HR.out ?_ ?_)
    ·intro hall
     have hb:q=1:=by rw [HD.out,if_pos (hall 5 (by rw [HKq.out];simp))]
     subst hb
     clear hall
     go_wp2
     exact ⟨⟨1,Nat.le_refl _,rfl,rfl,HBo.out⟩,by simp [intOf]⟩
    ·intro k w5 c5 hk5 hkd hr5 hlt5 hg5 hen
     have HR5:=Zh hr5
     have HBl:=Zh (ZcV HBo.out hg5 (fun j hj=>by cases hj;exact HRg.out))
     have HLe:=Zh (show w5.rangeLeft M w3.heap.size<wu.rangeLeft M w3.heap.size by rw [HR.out.left_eq,hr5.left_eq];exact hlt5)
     have hk6:k=5∨k=2:=by rw [HKq.out] at hk5;simpa using hk5
     have hq1:q≤1:=by rw [HD.out];split<;>omega
     have hwq:IntKind.i64.wrap ((q:Int)+1)=((q+1:Nat):Int):=IntWalk.i64_in _ (by omega)
     have HN:=Zh hkd
     clear hr5 hg5 hlt5 hk5 hkd
     rcases hk6 with rfl|rfl
     ·have hv:stV 5=false:=rfl
      rw [hv] at hen ⊢
      go_wp2
      refine ⟨⟨5 :: ds,c5,q+1,rfl,HR5.out,?_,HBl.out⟩,HLe.out⟩
      show q+1=if 5∈5 :: ds then 1 else 0
      rw [HD.out,if_neg HN.out,if_pos (by simp)]
     ·have hv:stV 2=true:=rfl
      rw [hv] at hen ⊢
      go_wp2
      refine ⟨⟨2 :: ds,c5,q,rfl,HR5.out,?_,HBl.out⟩,HLe.out⟩
      show q=if 5∈2 :: ds then 1 else 0
      rw [HD.out];simp
  ·go_wp2
   go_ret2
   exact ⟨rfl,Zaf HB1.out HBr.out⟩
end
section
open Go.RowKit
attribute [local go_sem] World.cell?_alloc_some
def Zoi (b:Nat):Hd:=⟨some ⟨b+1+1+1,0,none⟩,1,none,0,some ⟨b+1+1+1+1+1,0,none⟩,1,fun _=>⟨some ⟨b+1+1,0,none⟩,1,none,0⟩,fun _=>⟨some ⟨b+1+1+1+1,0,none⟩,1,none,0,some ⟨b+1,0,none⟩,6⟩⟩
theorem Zoj {W:World}{W1:World} (h1:W1=W.alloc (.cells #[.int .i64 2,.int .i64 0] 76)) {W2:World} (h2:W2=W1.alloc (.cells #[.int .i64 14,.int .i64 0,.int .i64 0,.int .i64 14,.int .i64 0,.int .i64 0,.int .i64 18,.int .i64 0,.int .i64 0,.int .i64 2,.int .i64 0,.int .i64 0,.int .i64 14,.int .i64 0,.int .i64 0,.int .i64 18,.int .i64 0,.int .i64 0] 78)) {W3:World} (h3:W3=W2.alloc (.cells #[.int .i64 2,.int .i64 0] 76)) {W4:World} (h4:W4=W3.alloc (.cells #[.string ⟨#[]⟩,.int .i64 (-1),.slice (some ⟨W.heap.size+1+1,0,none⟩) 1 1,.slice none 0 0] 99)) {W5:World} (h5:W5=W4.alloc (.cells #[.int .i64 2,.int .i64 0] 76)) {W6:World} (h6:W6=W5.alloc (.cells #[.string ⟨#[]⟩,.int .i64 (-1),.slice (some ⟨W.heap.size+1+1+1+1,0,none⟩) 1 1,.slice none 0 0,.int .i64 0,.int .i64 0,.slice (some ⟨W.heap.size+1,0,none⟩) 6 6] 81)) {W7:World} (h7:W7=W6.alloc (.cells #[.slice (some ⟨W.heap.size+1+1+1,0,none⟩) 1 1,.slice none 0 0,.slice (some ⟨W.heap.size+1+1+1+1+1,0,none⟩) 1 1,.int .i64 0] 26)):Zay W7 (Zoi W.heap.size) ZnY:=by
 have s1:W1.heap.size=W.heap.size+1:=by rw [h1];exact bls _ _
 have s2:W2.heap.size=W.heap.size+1+1:=by rw [h2,bls,s1]
 have s3:W3.heap.size=W.heap.size+1+1+1:=by rw [h3,bls,s2]
 have s4:W4.heap.size=W.heap.size+1+1+1+1:=by rw [h4,bls,s3]
 have s5:W5.heap.size=W.heap.size+1+1+1+1+1:=by rw [h5,bls,s4]
 have r1:=ZlU W1 ([⟨14,0,0⟩,⟨14,0,0⟩,⟨18,0,0⟩,⟨2,0,0⟩,⟨14,0,0⟩,⟨18,0,0⟩]:List In3) _ 78 rfl
 have r2:=ZlU W2 ([⟨2,0⟩]:List Ty) _ 76 rfl
 have r3:=ZlU W3 (Zau (Zoi W.heap.size) ZnY) _ 99 rfl
 have r4:=ZlU W4 ([⟨2,0⟩]:List Ty) _ 76 rfl
 have r5:=ZlU W5 (Zav (Zoi W.heap.size) ZnY) _ 81 rfl
 rw [s1] at r1
 rw [s2] at r2
 rw [s3] at r3
 rw [s4] at r4
 rw [s5] at r5
 have b27:∀ {o:Option Addr}{c:Nat}{α:Type} [Cells α] {l:List α},Zar W2 o c l→Zar W3 o c l:=fun h=>by rw [h3];exact h.alloc _
 have b37:∀ {o:Option Addr}{c:Nat}{α:Type} [Cells α] {l:List α},Zar W3 o c l→Zar W7 o c l:=fun h=>by rw [h7,h6,h5,h4];exact (((h.alloc _).alloc _).alloc _).alloc _
 have b57:∀ {o:Option Addr}{c:Nat}{α:Type} [Cells α] {l:List α},Zar W5 o c l→Zar W7 o c l:=fun h=>by rw [h7,h6];exact (h.alloc _).alloc _
 have q1:Zar W2 (some ⟨W.heap.size+1,0,none⟩) 6 ([⟨14,0,0⟩,⟨14,0,0⟩,⟨18,0,0⟩,⟨2,0,0⟩,⟨14,0,0⟩,⟨18,0,0⟩]:List In3):=by rw [h2];exact r1
 have q2:Zar W3 (some ⟨W.heap.size+1+1,0,none⟩) 1 ([⟨2,0⟩]:List Ty):=by rw [h3];exact r2
 have q3:Zar W7 (some ⟨W.heap.size+1+1+1,0,none⟩) 1 (Zau (Zoi W.heap.size) ZnY):=by rw [h7,h6,h5,h4];exact ((r3.alloc _).alloc _).alloc _
 have q4:Zar W5 (some ⟨W.heap.size+1+1+1+1,0,none⟩) 1 ([⟨2,0⟩]:List Ty):=by rw [h5];exact r4
 have q5:Zar W7 (some ⟨W.heap.size+1+1+1+1+1,0,none⟩) 1 (Zav (Zoi W.heap.size) ZnY):=by rw [h7,h6];exact r5.alloc _
 have i0:∀ {i:Nat},i<1→i=0:=fun h=>by omega
 refine ⟨q3,Zar.nil _,q5,fun i hi=>?_,fun i hi=>?_,fun i hi=>?_,fun i hi=>?_,fun i hi=>?_,fun i hi=>?_,fun i hi=>?_,⟨by decide,by decide,by decide⟩⟩
 ·obtain rfl:=i0 hi;exact b37 q2
 ·obtain rfl:=i0 hi;exact Zar.nil _
 ·obtain rfl:=i0 hi;exact b57 q4
 ·obtain rfl:=i0 hi;exact Zar.nil _
 ·obtain rfl:=i0 hi;exact b37 (b27 q1)
 ·obtain rfl:=i0 hi;exact Nat.le_refl _
 ·obtain rfl:=i0 hi;exact ⟨by decide,by decide,by decide⟩
theorem Zok (W:World):Calls Tryz.prog 23 #[] W fun e w'=>e=.returned (.bool true)∧Below W.heap.size W w':=by
 go_enter Tryz.func23,Tryz.ntmps23
 go_upto_region 4 with fail
 obtain ⟨W1,h1⟩:∃ W1,W1=W.alloc (.cells #[.int .i64 2,.int .i64 0] 76):=⟨_,rfl⟩
 rw [←h1]
 obtain ⟨W2,h2⟩:∃ W2,W2=W1.alloc (.cells #[.int .i64 14,.int .i64 0,.int .i64 0,.int .i64 14,.int .i64 0,.int .i64 0,.int .i64 18,.int .i64 0,.int .i64 0,.int .i64 2,.int .i64 0,.int .i64 0,.int .i64 14,.int .i64 0,.int .i64 0,.int .i64 18,.int .i64 0,.int .i64 0] 78):=⟨_,rfl⟩
 rw [←h2]
 obtain ⟨W3,h3⟩:∃ W3,W3=W2.alloc (.cells #[.int .i64 2,.int .i64 0] 76):=⟨_,rfl⟩
 rw [←h3]
 obtain ⟨W4,h4⟩:∃ W4,W4=W3.alloc (.cells #[.string ⟨#[]⟩,.int .i64 (-1),.slice (some ⟨W.heap.size+1+1,0,none⟩) 1 1,.slice none 0 0] 99):=⟨_,rfl⟩
 rw [←h4]
 obtain ⟨W5,h5⟩:∃ W5,W5=W4.alloc (.cells #[.int .i64 2,.int .i64 0] 76):=⟨_,rfl⟩
 rw [←h5]
 obtain ⟨W6,h6⟩:∃ W6,W6=W5.alloc (.cells #[.string ⟨#[]⟩,.int .i64 (-1),.slice (some ⟨W.heap.size+1+1+1+1,0,none⟩) 1 1,.slice none 0 0,.int .i64 0,.int .i64 0,.slice (some ⟨W.heap.size+1,0,none⟩) 6 6] 81):=⟨_,rfl⟩
 rw [←h6]
 obtain ⟨W7,h7⟩:∃ W7,W7=W6.alloc (.cells #[.slice (some ⟨W.heap.size+1+1+1,0,none⟩) 1 1,.slice none 0 0,.slice (some ⟨W.heap.size+1+1+1+1+1,0,none⟩) 1 1,.int .i64 0] 26):=⟨_,rfl⟩
 rw [←h7]
 have hM:=Zoj h1 h2 h3 h4 h5 h6 h7
 have hB:Below W.heap.size W W7:=by rw [h7,h6,h5,h4,h3,h2,h1];exact bE
 have hX:Blk W7 (W.heap.size+1+1+1+1+1+1) #[.slice (some ⟨W.heap.size+1+1+1,0,none⟩) 1 1,.slice none 0 0,.slice (some ⟨W.heap.size+1+1+1+1+1,0,none⟩) 1 1,.int .i64 0] 26:=by rw [h7];exact Blk.new' _ _ (by rw [h6,bls,h5,bls,h4,bls,h3,bls,h2,bls,h1,bls])
 have HM:=Zh hM
 have HB:=Zh hB
 have HX:=Zh hX
 have HSf:=Zh (Zog _ _ W7 hM rfl)
 have HLf:=Zh (fun w' (hb:Below W7.heap.size W7 w')=>Zoh _ _ w' (hM.old hb) rfl)
 clear h1 h2 h3 h4 h5 h6 h7 hM hB hX
 have x0:=HX.out.cell 0 rfl
 have x1:=HX.out.cell 1 rfl
 have x2:=HX.out.cell 2 rfl
 have x3:=HX.out.cell 3 rfl
 go_upto_region 5 with (go_at_call 71;refine HSf.out.mono ?_;rintro e w1 ⟨⟨g,rfl,hg⟩,hb1⟩;have HG:=Zh hg;have HB1:=Zh hb1;have HX1:=Zh (HX.out.old hb1);clear hg hb1 x0 x1 x2 x3)
 have x0:=HX1.out.cell 0 rfl
 have x1:=HX1.out.cell 1 rfl
 have x2:=HX1.out.cell 2 rfl
 have x3:=HX1.out.cell 3 rfl
 go_upto_region 6 with (go_at_call 72;refine (HLf.out _ HB1.out).mono ?_;rintro e w2 ⟨rfl,hb2⟩;have HG2:=Zh (HG.out.old hb2);have HB2:=Zh (Zaf (Zaf HB.out HB1.out) hb2);clear hb2 x0 x1 x2 x3)
 have g2:=HG2.out.cell 2 (v:=.bool true) rfl
 have g5:=HG2.out.cell 5 (v:=.bool false) rfl
 go_wp2
 go_ret
 exact ⟨rfl,HB2.out⟩
end
section
open Go.RowKit
attribute [local go_sem] World.cell?_alloc_some
def Zol (W:World):Ending→World→Prop:=fun e w'=>e=.returned (.bool true)∧Below W.heap.size W w'
theorem Zom {w:World}{b:Nat}{x y:Int} (h:Blk w b #[.int .i64 x,.int .i64 y] 44):w.cell? ⟨b,0,none⟩=some (.int .i64 x)∧w.cell? ⟨b,1,none⟩=some (.int .i64 y):=⟨h.cell 0 rfl,h.cell 1 rfl⟩
theorem Zon (a b:Rg) (w:World):Calls Tryz.prog 26 #[.agg #[.int .i64 a.lo,.int .i64 a.hi],.agg #[.int .i64 b.lo,.int .i64 b.hi]] w (Ret w (.bool (decide (b.lo≤a.lo∧a.hi≤b.hi)))):=by
 go_enter Tryz.func26,Tryz.ntmps26
 go_wp2
 all_goals
  go_ret
  exact ZcT (ZcX (by grind)) bE
theorem Zoo (a b:Rg) (d:Int) (W:World):Calls Tryz.prog 7 #[.agg #[.int .i64 a.lo,.int .i64 a.hi],.agg #[.int .i64 b.lo,.int .i64 b.hi],.int .i64 d] W (Zol W):=by
 have h1:=Zns a b;have h2:=Znt a b;have h3:=Znu a d;have h4:=Znv a d;have h5:=Znw a b;have h6:=Znx a b
 generalize Znp a b=j at h1 h2
 generalize Znr a d=f at h3 h4
 generalize Znq a b=t at h5 h6
 obtain ⟨⟨jl,jh⟩,je⟩:=j;obtain ⟨⟨fl,fh⟩,fe⟩:=f;obtain ⟨tv,te⟩:=t
 obtain ⟨al,ah⟩:=a;obtain ⟨bl,bh⟩:=b
 dsimp only at *
 have H1:=Zh h1;have H2:=Zh h2;have H3:=Zh h3;have H4:=Zh h4;have H5:=Zh h5;have H6:=Zh h6
 clear h1 h2 h3 h4 h5 h6
 obtain ⟨S,hS⟩:∃ S,S=W.heap.size:=⟨_,rfl⟩
 obtain ⟨w0,hw0⟩:∃ w0,w0=((W).alloc (.cells #[.int .i64 al,.int .i64 ah] 44)).alloc (.cells #[.int .i64 bl,.int .i64 bh] 44):=⟨_,rfl⟩
 have HB0:=Zh (show Below W.heap.size W w0 by rw [hw0];exact bE)
 have HKa0:=Zh (show Blk w0 (S) #[.int .i64 al,.int .i64 ah] 44 by rw [hw0];exact (Blk.new' (w:=W) _ _ (by simp [hS])).old bE)
 have HKb0:=Zh (show Blk w0 (S+1) #[.int .i64 bl,.int .i64 bh] 44 by rw [hw0];exact (Blk.new' (w:=(W).alloc (.cells #[.int .i64 al,.int .i64 ah] 44)) _ _ (by simp [hS])).old bE)
 have HW:=Zh (And.intro hS hw0)
 clear hS hw0
 go_enter Tryz.func7,Tryz.ntmps7
 go_upto_region 1 with fail
 rw [←HW.out.1,←HW.out.2]
 clear HW
 obtain ⟨ca0,ca1⟩:=Zom HKa0.out
 obtain ⟨cb0,cb1⟩:=Zom HKb0.out
 go_upto_region 2 with (go_at_call 27;have hq:=HB0;clear hq;refine (H1.out _).mono ?_;rintro e w1 ⟨rfl,hb1⟩;have HKa1:=Zh (HKa0.out.old hb1);have HKb1:=Zh (HKb0.out.old hb1);have HB1:=Zh (Zaf HB0.out hb1);clear hb1 ca0 ca1 cb0 cb1;obtain ⟨ca0,ca1⟩:=Zom HKa1.out;obtain ⟨cb0,cb1⟩:=Zom HKb1.out)
 clear ca0 ca1 cb0 cb1
 obtain ⟨Dj,hD⟩:∃ D,D=w1.heap.size:=⟨_,rfl⟩
 obtain ⟨w2,hw⟩:∃ w,w=w1.alloc (.cells #[.int .i64 jl,.int .i64 jh] 44):=⟨_,rfl⟩
 have hb:Below w1.heap.size w1 w2:=by rw [hw];exact bE
 have HKa2:=Zh (HKa1.out.old hb)
 have HKb2:=Zh (HKb1.out.old hb)
 have HB2:=Zh (Zaf HB1.out hb)
 have HKj2:=Zh (show Blk w2 Dj #[.int .i64 jl,.int .i64 jh] 44 by rw [hw];exact Blk.new' _ _ hD)
 rw [←hD,←hw]
 clear hb hw hD
 obtain ⟨ca0,ca1⟩:=Zom HKa2.out
 obtain ⟨cb0,cb1⟩:=Zom HKb2.out
 obtain ⟨cj0,cj1⟩:=Zom HKj2.out
 go_upto_region 3 with (go_at_call 28;have hq:=HB2;clear hq;refine (H2.out _).mono ?_;rintro e w4 ⟨rfl,hb4⟩;have HKa4:=Zh (HKa2.out.old hb4);have HKb4:=Zh (HKb2.out.old hb4);have HKj4:=Zh (HKj2.out.old hb4);have HB4:=Zh (Zaf HB2.out hb4);clear hb4 ca0 ca1 cb0 cb1 cj0 cj1;obtain ⟨ca0,ca1⟩:=Zom HKa4.out;obtain ⟨cb0,cb1⟩:=Zom HKb4.out;obtain ⟨cj0,cj1⟩:=Zom HKj4.out)
 clear ca0 ca1 cb0 cb1 cj0 cj1
 obtain ⟨Dk,hD⟩:∃ D,D=w4.heap.size:=⟨_,rfl⟩
 obtain ⟨w5,hw⟩:∃ w,w=w4.alloc (.cells #[.int .i64 jl,.int .i64 jh] 44):=⟨_,rfl⟩
 have hb:Below w4.heap.size w4 w5:=by rw [hw];exact bE
 have HKa5:=Zh (HKa4.out.old hb)
 have HKb5:=Zh (HKb4.out.old hb)
 have HKj5:=Zh (HKj4.out.old hb)
 have HB5:=Zh (Zaf HB4.out hb)
 have HKk5:=Zh (show Blk w5 Dk #[.int .i64 jl,.int .i64 jh] 44 by rw [hw];exact Blk.new' _ _ hD)
 rw [←hD,←hw]
 clear hb hw hD
 obtain ⟨ca0,ca1⟩:=Zom HKa5.out
 obtain ⟨cb0,cb1⟩:=Zom HKb5.out
 obtain ⟨cj0,cj1⟩:=Zom HKj5.out
 obtain ⟨ck0,ck1⟩:=Zom HKk5.out
 go_upto_region 4 with (go_at_call 29;have hq:=HB5;clear hq;refine (H3.out _).mono ?_;rintro e w6 ⟨rfl,hb6⟩;have HKa6:=Zh (HKa5.out.old hb6);have HKb6:=Zh (HKb5.out.old hb6);have HKj6:=Zh (HKj5.out.old hb6);have HKk6:=Zh (HKk5.out.old hb6);have HB6:=Zh (Zaf HB5.out hb6);clear hb6 ca0 ca1 cb0 cb1 cj0 cj1 ck0 ck1;obtain ⟨ca0,ca1⟩:=Zom HKa6.out;obtain ⟨cb0,cb1⟩:=Zom HKb6.out;obtain ⟨cj0,cj1⟩:=Zom HKj6.out;obtain ⟨ck0,ck1⟩:=Zom HKk6.out)
 clear ca0 ca1 cb0 cb1 cj0 cj1 ck0 ck1
 obtain ⟨Df,hD⟩:∃ D,D=w6.heap.size:=⟨_,rfl⟩
 obtain ⟨w7,hw⟩:∃ w,w=w6.alloc (.cells #[.int .i64 fl,.int .i64 fh] 44):=⟨_,rfl⟩
 have hb:Below w6.heap.size w6 w7:=by rw [hw];exact bE
 have HKa7:=Zh (HKa6.out.old hb)
 have HKb7:=Zh (HKb6.out.old hb)
 have HKj7:=Zh (HKj6.out.old hb)
 have HKk7:=Zh (HKk6.out.old hb)
 have HB7:=Zh (Zaf HB6.out hb)
 have HKf7:=Zh (show Blk w7 Df #[.int .i64 fl,.int .i64 fh] 44 by rw [hw];exact Blk.new' _ _ hD)
 rw [←hD,←hw]
 clear hb hw hD
 obtain ⟨ca0,ca1⟩:=Zom HKa7.out
 obtain ⟨cb0,cb1⟩:=Zom HKb7.out
 obtain ⟨cj0,cj1⟩:=Zom HKj7.out
 obtain ⟨ck0,ck1⟩:=Zom HKk7.out
 obtain ⟨cf0,cf1⟩:=Zom HKf7.out
 go_upto_region 5 with (go_at_call 31;have hq:=HB7;clear hq;refine (H4.out _).mono ?_;rintro e w8 ⟨rfl,hb8⟩;have HKa8:=Zh (HKa7.out.old hb8);have HKb8:=Zh (HKb7.out.old hb8);have HKj8:=Zh (HKj7.out.old hb8);have HKk8:=Zh (HKk7.out.old hb8);have HKf8:=Zh (HKf7.out.old hb8);have HB8:=Zh (Zaf HB7.out hb8);clear hb8 ca0 ca1 cb0 cb1 cj0 cj1 ck0 ck1 cf0 cf1;obtain ⟨ca0,ca1⟩:=Zom HKa8.out;obtain ⟨cb0,cb1⟩:=Zom HKb8.out;obtain ⟨cj0,cj1⟩:=Zom HKj8.out;obtain ⟨ck0,ck1⟩:=Zom HKk8.out;obtain ⟨cf0,cf1⟩:=Zom HKf8.out)
 clear ca0 ca1 cb0 cb1 cj0 cj1 ck0 ck1 cf0 cf1
 obtain ⟨Dg,hD⟩:∃ D,D=w8.heap.size:=⟨_,rfl⟩
 obtain ⟨w9,hw⟩:∃ w,w=w8.alloc (.cells #[.int .i64 fl,.int .i64 fh] 44):=⟨_,rfl⟩
 have hb:Below w8.heap.size w8 w9:=by rw [hw];exact bE
 have HKa9:=Zh (HKa8.out.old hb)
 have HKb9:=Zh (HKb8.out.old hb)
 have HKj9:=Zh (HKj8.out.old hb)
 have HKk9:=Zh (HKk8.out.old hb)
 have HKf9:=Zh (HKf8.out.old hb)
 have HB9:=Zh (Zaf HB8.out hb)
 have HKg9:=Zh (show Blk w9 Dg #[.int .i64 fl,.int .i64 fh] 44 by rw [hw];exact Blk.new' _ _ hD)
 rw [←hD,←hw]
 clear hb hw hD
 obtain ⟨ca0,ca1⟩:=Zom HKa9.out
 obtain ⟨cb0,cb1⟩:=Zom HKb9.out
 obtain ⟨cj0,cj1⟩:=Zom HKj9.out
 obtain ⟨ck0,ck1⟩:=Zom HKk9.out
 obtain ⟨cf0,cf1⟩:=Zom HKf9.out
 obtain ⟨cg0,cg1⟩:=Zom HKg9.out
 go_upto_region 6 with (go_at_call 24;have hq:=HB9;clear hq;refine (H5.out _).mono ?_;rintro e w10 ⟨rfl,hb10⟩;have HKa10:=Zh (HKa9.out.old hb10);have HKb10:=Zh (HKb9.out.old hb10);have HKj10:=Zh (HKj9.out.old hb10);have HKk10:=Zh (HKk9.out.old hb10);have HKf10:=Zh (HKf9.out.old hb10);have HKg10:=Zh (HKg9.out.old hb10);have HB10:=Zh (Zaf HB9.out hb10);clear hb10 ca0 ca1 cb0 cb1 cj0 cj1 ck0 ck1 cf0 cf1 cg0 cg1;obtain ⟨ca0,ca1⟩:=Zom HKa10.out;obtain ⟨cb0,cb1⟩:=Zom HKb10.out;obtain ⟨cj0,cj1⟩:=Zom HKj10.out;obtain ⟨ck0,ck1⟩:=Zom HKk10.out;obtain ⟨cf0,cf1⟩:=Zom HKf10.out;obtain ⟨cg0,cg1⟩:=Zom HKg10.out)
 go_upto_region 7 with (go_at_call 25;have hq:=HB10;clear hq;refine (H6.out _).mono ?_;rintro e w11 ⟨rfl,hb11⟩;have HKa11:=Zh (HKa10.out.old hb11);have HKb11:=Zh (HKb10.out.old hb11);have HKj11:=Zh (HKj10.out.old hb11);have HKk11:=Zh (HKk10.out.old hb11);have HKf11:=Zh (HKf10.out.old hb11);have HKg11:=Zh (HKg10.out.old hb11);have HB11:=Zh (Zaf HB10.out hb11);clear hb11 ca0 ca1 cb0 cb1 cj0 cj1 ck0 ck1 cf0 cf1 cg0 cg1;obtain ⟨ca0,ca1⟩:=Zom HKa11.out;obtain ⟨cb0,cb1⟩:=Zom HKb11.out;obtain ⟨cj0,cj1⟩:=Zom HKj11.out;obtain ⟨ck0,ck1⟩:=Zom HKk11.out;obtain ⟨cf0,cf1⟩:=Zom HKf11.out;obtain ⟨cg0,cg1⟩:=Zom HKg11.out)
 have e1:=fun w=>eq2 jl jh jl jh w
 have e2:=fun w=>eq2 fl fh fl fh w
 go_wp2_with (go_at_call 23;refine (Zok _).mono ?_;rintro e wz ⟨rfl,hbz⟩)
 go_ret
 exact ⟨by trivial,Zaf HB11.out hbz⟩
theorem Zop {a b c d:Rg} (h1:Zms a b=true) (h2:a.lo≤c.lo∧c.hi≤a.hi) (h3:d.lo ≥ b.lo):Zms c d=true:=by
 unfold Zms at *
 simp only [decide_eq_true_eq] at *
 omega
theorem Zoq (a b c d:Rg) (W:World):Calls Tryz.prog 5 #[.agg #[.int .i64 a.lo,.int .i64 a.hi],.agg #[.int .i64 b.lo,.int .i64 b.hi],.agg #[.int .i64 c.lo,.int .i64 c.hi],.agg #[.int .i64 d.lo,.int .i64 d.hi]] W (Zol W):=by
 have h1:=Znw a b;have h2:=Znx a b;have h3:=Znw c d;have h4:=Znx c d;have h5:=Zon c a
 have hl:(Znq a b).2=0→(Znq c d).2=0→(Znq a b).1=true→(a.lo≤c.lo∧c.hi≤a.hi)→d.lo ≥ b.lo→(Znq c d).1=true:=by
  unfold Znq
  intro q1 q2 q3 q4 q5
  split at q1
  ·split at q2
   ·rename_i p1 p2
    rw [if_pos p1] at q3
    rw [if_pos p2]
    exact Zop q3 q4 q5
   ·cases q2
  ·cases q1
 generalize Znq a b=t at h1 h2 hl
 generalize Znq c d=u at h3 h4 hl
 obtain ⟨tv,te⟩:=t;obtain ⟨uv,ue⟩:=u
 obtain ⟨al,ah⟩:=a;obtain ⟨bl,bh⟩:=b;obtain ⟨cl,ch⟩:=c;obtain ⟨dl,dh⟩:=d
 dsimp only at *
 obtain ⟨wi,hwi⟩:∃ q,q=decide (al≤cl∧ch≤ah):=⟨_,rfl⟩
 rw [←hwi] at h5
 have H1:=Zh h1;have H2:=Zh h2;have H3:=Zh h3;have H4:=Zh h4;have H5:=Zh h5
 have HL:=Zh hl;have HWi:=Zh hwi
 clear h1 h2 h3 h4 h5 hl hwi
 obtain ⟨S,hS⟩:∃ S,S=W.heap.size:=⟨_,rfl⟩
 obtain ⟨w0,hw0⟩:∃ w0,w0=((((W).alloc (.cells #[.int .i64 al,.int .i64 ah] 44)).alloc (.cells #[.int .i64 bl,.int .i64 bh] 44)).alloc (.cells #[.int .i64 cl,.int .i64 ch] 44)).alloc (.cells #[.int .i64 dl,.int .i64 dh] 44):=⟨_,rfl⟩
 have HB0:=Zh (show Below W.heap.size W w0 by rw [hw0];exact bE)
 have HKa0:=Zh (show Blk w0 (S) #[.int .i64 al,.int .i64 ah] 44 by rw [hw0];exact (Blk.new' (w:=W) _ _ (by simp [hS])).old bE)
 have HKb0:=Zh (show Blk w0 (S+1) #[.int .i64 bl,.int .i64 bh] 44 by rw [hw0];exact (Blk.new' (w:=(W).alloc (.cells #[.int .i64 al,.int .i64 ah] 44)) _ _ (by simp [hS])).old bE)
 have HKc0:=Zh (show Blk w0 (S+1+1) #[.int .i64 cl,.int .i64 ch] 44 by rw [hw0];exact (Blk.new' (w:=((W).alloc (.cells #[.int .i64 al,.int .i64 ah] 44)).alloc (.cells #[.int .i64 bl,.int .i64 bh] 44)) _ _ (by simp [hS])).old bE)
 have HKd0:=Zh (show Blk w0 (S+1+1+1) #[.int .i64 dl,.int .i64 dh] 44 by rw [hw0];exact (Blk.new' (w:=(((W).alloc (.cells #[.int .i64 al,.int .i64 ah] 44)).alloc (.cells #[.int .i64 bl,.int .i64 bh] 44)).alloc (.cells #[.int .i64 cl,.int .i64 ch] 44)) _ _ (by simp [hS])).old bE)
 have HW:=Zh (And.intro hS hw0)
 clear hS hw0
 go_enter Tryz.func5,Tryz.ntmps5
 go_upto_region 1 with fail
 rw [←HW.out.1,←HW.out.2]
 clear HW
 obtain ⟨ca0,ca1⟩:=Zom HKa0.out
 obtain ⟨cb0,cb1⟩:=Zom HKb0.out
 obtain ⟨cc0,cc1⟩:=Zom HKc0.out
 obtain ⟨cd0,cd1⟩:=Zom HKd0.out
 go_upto_region 2 with (go_at_call 24;have hq:=HB0;clear hq;refine (H1.out _).mono ?_;rintro e w1 ⟨rfl,hb1⟩;have HKa1:=Zh (HKa0.out.old hb1);have HKb1:=Zh (HKb0.out.old hb1);have HKc1:=Zh (HKc0.out.old hb1);have HKd1:=Zh (HKd0.out.old hb1);have HB1:=Zh (Zaf HB0.out hb1);clear hb1 ca0 ca1 cb0 cb1 cc0 cc1 cd0 cd1;obtain ⟨ca0,ca1⟩:=Zom HKa1.out;obtain ⟨cb0,cb1⟩:=Zom HKb1.out;obtain ⟨cc0,cc1⟩:=Zom HKc1.out;obtain ⟨cd0,cd1⟩:=Zom HKd1.out)
 go_upto_region 3 with (go_at_call 24;have hq:=HB1;clear hq;refine (H3.out _).mono ?_;rintro e w2 ⟨rfl,hb2⟩;have HKa2:=Zh (HKa1.out.old hb2);have HKb2:=Zh (HKb1.out.old hb2);have HKc2:=Zh (HKc1.out.old hb2);have HKd2:=Zh (HKd1.out.old hb2);have HB2:=Zh (Zaf HB1.out hb2);clear hb2 ca0 ca1 cb0 cb1 cc0 cc1 cd0 cd1;obtain ⟨ca0,ca1⟩:=Zom HKa2.out;obtain ⟨cb0,cb1⟩:=Zom HKb2.out;obtain ⟨cc0,cc1⟩:=Zom HKc2.out;obtain ⟨cd0,cd1⟩:=Zom HKd2.out)
 by_cases ht:te=0
 ·by_cases hu:ue=0
  ·subst ht hu
   rcases tv with _|_
   ·go_wp2_with (go_at_call 23;refine (Zok _).mono ?_;rintro e wz ⟨rfl,hbz⟩)
    go_ret
    exact ⟨by trivial,Zaf HB2.out hbz⟩
   ·rcases wi with _|_
    ·exact j7
    ·by_cases hd:dl ≥ bl
     ·have hu1:=HL.out rfl rfl rfl (of_decide_eq_true HWi.out.symm) hd
      subst hu1
      exact j7
     ·exact j7
  ·exact j8
 ·exact j8
end
end Go.Proofs.YtcfjblcgceednaaGreat
