/- Joined texts. The first: isochronlaw07.fits; isochronref03.Trim. -/
import Derived.Test.YtfkbfjhocmbneaaGreatL30
import Derived.Test.YtfkbfjhocmbneaaGreatL31
set_option linter.all false
set_option linter.unusedVariables false
set_option linter.unusedSimpArgs false
set_option maxRecDepth 100000
set_option maxHeartbeats 8000000
namespace Go.Proofs.YtfkbfjhocmbneaaGreat
section
open Go.RowKit
def ZrU (W:World) (m:Md) (k:Int):Ending→World→Prop:=fun e w'=>(∃ b,e=.returned (.bool b)∧(b=true→ZoO m k=true))∧Below W.heap.size W w'
theorem ZrV (m:Md) (h:Hd) (k:Int) (w:World) (H:Zay w h m):Calls Tryz.prog 18 #[.agg #[.slice h.co m.cl.length h.cc,.slice h.so m.st.length h.sc,.slice h.eo m.me.length h.ec,.int .i64 m.sel],.int .i64 k] w (ZrU w m k):=by
 obtain ⟨w0,hw0⟩:∃ w0,w0=w.alloc (.cells #[.slice h.co m.cl.length h.cc,.slice h.so m.st.length h.sc,.slice h.eo m.me.length h.ec,.int .i64 m.sel] 26):=⟨_,rfl⟩
 have HB:=Zh (show Below w.heap.size w w0 by rw [hw0];exact bE)
 have HX:=Zh (show Blk w0 w.heap.size #[.slice h.co m.cl.length h.cc,.slice h.so m.st.length h.sc,.slice h.eo m.me.length h.ec,.int .i64 m.sel] 26 by rw [hw0];exact Blk.new _ _ _)
 have HM:=Zh (H.old HB.out)
 have HW:=Zh hw0
 obtain ⟨z,hz⟩:∃ z:Int,z=if ZoO m k=true then 0 else 1:=⟨_,rfl⟩
 have HR:=Zh (fun w' hb=>Zp1 m h k w' (HM.out.old (w':=w') hb))
 rw [←hz] at HR
 have HZ:=Zh (show (z=0→ZoO m k=true)∧(z=0∨z=1) by rw [hz];split<;>simp_all)
 clear hw0 H hz
 go_enter Tryz.func18,Tryz.ntmps18
 go_upto_region 1 with fail
 rw [←HW.out]
 have x0:=HX.out.cell 0 (v:=.slice h.co m.cl.length h.cc) rfl
 have x1:=HX.out.cell 1 (v:=.slice h.so m.st.length h.sc) rfl
 have x2:=HX.out.cell 2 (v:=.slice h.eo m.me.length h.ec) rfl
 have x3:=HX.out.cell 3 (v:=.int .i64 m.sel) rfl
 go_wp2_with (first
  | (go_at_call 11;refine (Zq8 m h _ HM.out).mono ?_;rintro e w1 ⟨⟨b,rfl⟩,hb1⟩;have HB1:=Zh hb1;clear hb1 x0 x1 x2 x3;have x0:=(HX.out.old HB1.out).cell 0 (v:=.slice h.co m.cl.length h.cc) rfl;have x1:=(HX.out.old HB1.out).cell 1 (v:=.slice h.so m.st.length h.sc) rfl;have x2:=(HX.out.old HB1.out).cell 2 (v:=.slice h.eo m.me.length h.ec) rfl;have x3:=(HX.out.old HB1.out).cell 3 (v:=.int .i64 m.sel) rfl)
  | (go_at_call 46;refine (HR.out _ HB1.out).mono ?_;rintro e w2 ⟨rfl,hb2⟩;have HB2:=Zh (Zaf HB1.out hb2);clear hb2))
 all_goals
  go_ret
  first
  | exact ⟨⟨_,rfl,fun h=>by first|cases h|exact HZ.out.1 (by simpa using h)⟩,Zaf HB.out HB2.out⟩
  | exact ⟨⟨_,rfl,fun h=>by first|cases h|exact HZ.out.1 (by simpa using h)⟩,Zaf HB.out HB1.out⟩
end
section
open Go.RowKit
end
end Go.Proofs.YtfkbfjhocmbneaaGreat
