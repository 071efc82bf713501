/- Joined texts. The first: The reference's part. -/
import Derived.Test.YtcfjblcgceednaaGreatF37
import Derived.Test.YtcfjblcgceednaaGreatF36
import Derived.Test.YtcfjblcgceednaaGreatF38
set_option linter.all false
set_option linter.unusedVariables false
set_option linter.unusedSimpArgs false
set_option maxRecDepth 100000
set_option maxHeartbeats 16000000
namespace Go.Proofs.YtcfjblcgceednaaGreat
section
open Go.RowKit
attribute [local go_sem] World.cell?_alloc_some
theorem Zrd {m:Md}{k:Nat} (h:wfP m k):∀ j,Rch m k j→∀ i∈cdM m j,i.op≠31:=
 fun j hj i hi e=>h.2.1 ⟨j,hj,i,hi,e⟩
theorem Zre {m:Md}{k:Nat} (h:wfP m k):∀ j,Rch m k j→∀ i∈cdM m j,¬ i.op=14∧¬ (i.op=15∨i.op=16):=
 fun j hj i hi=>⟨fun e=>h.1 ⟨14,by simp,j,hj,i,hi,e⟩,fun e=>by
  rcases e with e|e
  ·exact h.1 ⟨15,by simp,j,hj,i,hi,e⟩
  ·exact h.1 ⟨16,by simp,j,hj,i,hi,e⟩⟩
theorem Zrf (m:Md) (h:Hd) (k:Int) (w:World) (H:Zay w h m):Calls Tryz.prog 11 #[.agg #[.slice h.co m.cl.length h.cc,.slice h.so m.st.length h.sc,.slice h.eo m.me.length h.ec,.int .i64 m.sel],.int .i64 k] w (Ret w (.bool true)):=by
 obtain ⟨w0,hw0⟩:∃ w0,w0=w.alloc (.cells #[.slice h.co m.cl.length h.cc,.slice h.so m.st.length h.sc,.slice h.eo m.me.length h.ec,.int .i64 m.sel] 26):=⟨_,rfl⟩
 have HB:=Zh (show Below w.heap.size w w0 by rw [hw0];exact bE)
 have HX:=Zh (show Blk w0 w.heap.size #[.slice h.co m.cl.length h.cc,.slice h.so m.st.length h.sc,.slice h.eo m.me.length h.ec,.int .i64 m.sel] 26 by rw [hw0];exact Blk.new _ _ _)
 have HM:=Zh (H.old HB.out)
 have HW:=Zh hw0
 have HFt:=Zh (Zqp m h k w0 HM.out)
 clear hw0 H
 rcases hf:(!Zqn m&&ZoY m k) with _|_
 ·rw [hf] at HFt
  clear hf
  go_enter Tryz.func11,Tryz.ntmps11
  go_upto_region 1 with fail
  rw [←HW.out]
  have x0:=HX.out.cell 0 (v:=.slice h.co m.cl.length h.cc) rfl;have x1:=HX.out.cell 1 (v:=.slice h.so m.st.length h.sc) rfl;have x2:=HX.out.cell 2 (v:=.slice h.eo m.me.length h.ec) rfl;have x3:=HX.out.cell 3 (v:=.int .i64 m.sel) rfl
  go_wp2_with (first
   | (go_at_call 55;refine HFt.out.mono ?_;rintro e w1 ⟨rfl,hb1⟩;have HB1:=Zh hb1;clear hb1 x0 x1 x2 x3)
   | (go_at_call 45;refine (ZpN _).mono ?_;rintro e w2 ⟨rfl,hb2⟩))
  go_ret
  exact ZcT rfl (Zaf HB.out (Zaf HB1.out hb2))
 ·rw [hf] at HFt
  have hr:ZoY m k=true:=by simp only [Bool.and_eq_true] at hf;exact hf.2
  obtain ⟨hv,h0,h1⟩:=ZoZ hr
  obtain ⟨n,rfl⟩:∃ n:Nat,k=n:=⟨k.toNat,by omega⟩
  have hn:n<m.me.length:=by omega
  have HWf:=Zh (fun w' (hb:Below w0.heap.size w0 w')=>Zq5 m h n w' (HM.out.old hb) hv hn)
  clear hf
  by_cases hwf:wfP m n
  ·have HAl:=Zh (fun w' (hb:Below w0.heap.size w0 w')=>ZqZ m h n w' (HM.out.old hb) hr fun c=>ZqY hv c (n+1) n (by omega) hn (Zre hwf))
   have HUs:=Zh (fun w' (hb:Below w0.heap.size w0 w')=>Zrc m h n w' (HM.out.old hb) hr hv hn (Zrd hwf))
   have HWy:=Zh hwf
   clear hr hv h0 h1 hwf
   go_enter Tryz.func11,Tryz.ntmps11
   go_upto_region 1 with fail
   rw [←HW.out]
   have x0:=HX.out.cell 0 (v:=.slice h.co m.cl.length h.cc) rfl;have x1:=HX.out.cell 1 (v:=.slice h.so m.st.length h.sc) rfl;have x2:=HX.out.cell 2 (v:=.slice h.eo m.me.length h.ec) rfl;have x3:=HX.out.cell 3 (v:=.int .i64 m.sel) rfl
   go_upto_region 8 with (first
    | (go_at_call 55;refine HFt.out.mono ?_;rintro e w1 ⟨rfl,hb1⟩;have HB1:=Zh hb1;have x0:=(hb1.cell (Zac x0)).trans x0;have x1:=(hb1.cell (Zac x1)).trans x1;have x2:=(hb1.cell (Zac x2)).trans x2;have x3:=(hb1.cell (Zac x3)).trans x3;clear hb1)
    | (go_at_call 15;refine (HWf.out _ HB1.out).mono ?_;rintro e w2 ⟨⟨b,rfl,hbi⟩,hb2⟩;have HB2:=Zh (Zaf HB1.out hb2);have x0:=(hb2.cell (Zac x0)).trans x0;have x1:=(hb2.cell (Zac x1)).trans x1;have x2:=(hb2.cell (Zac x2)).trans x2;have x3:=(hb2.cell (Zac x3)).trans x3;obtain rfl:b=true:=hbi.2 HWy.out;clear hb2 hbi)
    | (go_at_call 56;refine (HAl.out _ HB2.out).mono ?_;rintro e w3 ⟨rfl,hb3⟩;have HB3:=Zh (Zaf HB2.out hb3);have x0:=(hb3.cell (Zac x0)).trans x0;have x1:=(hb3.cell (Zac x1)).trans x1;have x2:=(hb3.cell (Zac x2)).trans x2;have x3:=(hb3.cell (Zac x3)).trans x3;clear hb3;unfold ag3)
    | (go_at_call 48;refine (HUs.out _ (bal HB3.out _)).mono ?_;rintro e w4 ⟨⟨c,rfl⟩,hb4⟩;have HB4:=Zh (Zaf (bal HB3.out _) hb4);have hz4:=(Blk.new w3 #[.int .i64 0,.int .i64 0,.int .i64 0] 66).old hb4;have z0:=hz4.cell 0 (v:=.int .i64 0) rfl;have z1:=hz4.cell 1 (v:=.int .i64 0) rfl;have z2:=hz4.cell 2 (v:=.int .i64 0) rfl;clear hz4 hb4 x0 x1 x2 x3))
   have heq:=fun w=>(show Sem.run Tryz.prog (Op.equalIn 10000 66 (.agg #[.int .i64 0,.int .i64 0,.int .i64 0]) (.agg #[.int .i64 0,.int .i64 0,.int .i64 0])) w=.ok true w by kernel_rfl)
   go_wp2_with (go_at_call 45;refine (ZpN _).mono ?_;rintro e w5 ⟨rfl,hb5⟩)
   go_ret
   exact ZcT rfl (Zaf HB.out (Zaf HB4.out hb5))
  ·have HWy:=Zh hwf
   clear hr hv h0 h1 hwf
   go_enter Tryz.func11,Tryz.ntmps11
   go_upto_region 1 with fail
   rw [←HW.out]
   have x0:=HX.out.cell 0 (v:=.slice h.co m.cl.length h.cc) rfl;have x1:=HX.out.cell 1 (v:=.slice h.so m.st.length h.sc) rfl;have x2:=HX.out.cell 2 (v:=.slice h.eo m.me.length h.ec) rfl;have x3:=HX.out.cell 3 (v:=.int .i64 m.sel) rfl
   go_wp2_with (first
    | (go_at_call 55;refine HFt.out.mono ?_;rintro e w1 ⟨rfl,hb1⟩;have HB1:=Zh hb1;have x0:=(hb1.cell (Zac x0)).trans x0;have x1:=(hb1.cell (Zac x1)).trans x1;have x2:=(hb1.cell (Zac x2)).trans x2;have x3:=(hb1.cell (Zac x3)).trans x3;clear hb1)
    | (go_at_call 15;refine (HWf.out _ HB1.out).mono ?_;rintro e w2 ⟨⟨b,rfl,hbi⟩,hb2⟩;have HB2:=Zh (Zaf HB1.out hb2);obtain rfl:b=false:=Bool.eq_false_iff.2 fun q=>HWy.out (hbi.1 q);clear hb2 hbi x0 x1 x2 x3)
    | (go_at_call 45;refine (ZpN _).mono ?_;rintro e w3 ⟨rfl,hb3⟩))
   go_ret
   exact ZcT rfl (Zaf HB.out (Zaf HB2.out hb3))
end
end Go.Proofs.YtcfjblcgceednaaGreat
