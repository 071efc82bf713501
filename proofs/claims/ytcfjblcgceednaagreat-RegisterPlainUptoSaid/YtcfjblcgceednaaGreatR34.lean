/- Joined texts. The first: bound: the list of the least costs; Least. (printed by gen_low.py) -/
import Derived.Test.YtcfjblcgceednaaGreatR31
set_option linter.all false
set_option linter.unusedVariables false
set_option linter.unusedSimpArgs false
set_option maxRecDepth 100000
set_option maxHeartbeats 16000000
namespace Go.Proofs.YtcfjblcgceednaaGreat
section
open Go.RowKit
theorem Zqs (m:Md) (h:Hd) (w:World) (H:Zay w h m):Calls Tryz.prog 148 #[.agg #[.slice h.co m.cl.length h.cc,.slice h.so m.st.length h.sc,.slice h.eo m.me.length h.ec,.int .i64 m.sel]] w (Ret w (.int .i64 (if (Zmg m).2.2=0 then 0 else 1))):=by
 have HC:=Zh (fun w' hb=>Zjj m h w' (H.old (w':=w') hb))
 have HV:=Zh (fun w' hb=>Zmk w' h m (H.old (w':=w') hb))
 have hmv:Za1 m=false→(Zmg m).2.2=1:=fun q=>by unfold Zmg;rw [if_neg (by rw [q];decide)]
 obtain ⟨q,hq⟩:∃ q:Int,q=if (Zmg m).2.2=0 then 0 else 1:=⟨_,rfl⟩
 rw [←hq]
 obtain ⟨⟨z0,z1,z2⟩,hz⟩:∃ z,z=Zmg m:=⟨_,rfl⟩
 rw [←hz] at HV hq hmv
 dsimp only at hq hmv
 have HQ:=Zh hq
 have HB0:=Zh (show Below w.heap.size w (w.alloc (.cells #[.slice h.co m.cl.length h.cc,.slice h.so m.st.length h.sc,.slice h.eo m.me.length h.ec,.int .i64 m.sel] 26)) by exact bE)
 have HX0:=Zh (Blk.new w #[.slice h.co m.cl.length h.cc,.slice h.so m.st.length h.sc,.slice h.eo m.me.length h.ec,.int .i64 m.sel] 26)
 rcases hm:Za1 m with _|_
 ·have e1:q=1:=by rw [hq,hmv hm];rfl
  have HE:=Zh e1
  rw [hm] at HC
  clear H hz hq hm hmv e1
  go_enter Tryz.func148,Tryz.ntmps148
  go_wp2_with (go_at_call 60;refine (HC.out _ HB0.out).mono ?_;rintro e w1 ⟨rfl,hb1⟩)
  go_ret
  exact ZcT (ZcY HE.out.symm) (Zaf HB0.out hb1)
 ·rw [hm] at HC
  clear H hz hq hm hmv
  go_enter Tryz.func148,Tryz.ntmps148
  go_wp2_with (first
   | (go_at_call 60;refine (HC.out _ HB0.out).mono ?_;rintro e w1 ⟨rfl,hb1⟩;have HB1:=Zh (Zaf HB0.out hb1);have HX1:=Zh (HX0.out.old hb1);have x0:=HX1.out.cell 0 (v:=.slice h.co m.cl.length h.cc) rfl;have x1:=HX1.out.cell 1 (v:=.slice h.so m.st.length h.sc) rfl;have x2:=HX1.out.cell 2 (v:=.slice h.eo m.me.length h.ec) rfl;have x3:=HX1.out.cell 3 (v:=.int .i64 m.sel) rfl;clear hb1)
   | (go_at_call 135;refine (HV.out _ HB1.out).mono ?_;rintro e w2 ⟨rfl,hb2⟩;have HB2:=Zh (Zaf HB1.out hb2);clear hb2))
  all_goals
   go_ret
   refine ZcT (ZcY ?_) HB2.out
   rw [HQ.out]
   grind
theorem Zqt (m:Md) (h:Hd) (k:Int) (w:World) (H:Zay w h m):Calls Tryz.prog 87 #[.agg #[.slice h.co m.cl.length h.cc,.slice h.so m.st.length h.sc,.slice h.eo m.me.length h.ec,.int .i64 m.sel],.int .i64 k] w (Ret w (.int .i64 (if ZpT m k=true then 0 else 1))):=by
 have HF:=Zh (fun w' hb=>Zqs m h w' (H.old (w':=w') hb))
 obtain ⟨q,hq⟩:∃ q:Int,q=if ZpT m k=true then 0 else 1:=⟨_,rfl⟩
 rw [←hq]
 obtain ⟨z,hz⟩:∃ z:Int,z=if (Zmg m).2.2=0 then 0 else 1:=⟨_,rfl⟩
 have hq2:q=if z=0∧0≤k∧k<m.me.length then 0 else 1:=by
  rw [hq,hz]
  unfold ZpT inV
  by_cases h1:(Zmg m).2.2=0
  ·simp [h1]
  ·simp [h1]
 rw [←hz] at HF
 have HZ:=Zh (show z=0∨z=1 by rw [hz];split<;>simp)
 have HQ:=Zh hq2
 have HB0:=Zh (show Below w.heap.size w (w.alloc (.cells #[.slice h.co m.cl.length h.cc,.slice h.so m.st.length h.sc,.slice h.eo m.me.length h.ec,.int .i64 m.sel] 26)) by exact bE)
 have HX0:=Zh (Blk.new w #[.slice h.co m.cl.length h.cc,.slice h.so m.st.length h.sc,.slice h.eo m.me.length h.ec,.int .i64 m.sel] 26)
 clear H hq hz hq2
 go_enter Tryz.func87,Tryz.ntmps87
 go_wp2_with (go_at_call 148;refine (HF.out _ HB0.out).mono ?_;rintro e w1 ⟨rfl,hb1⟩;have x2:=(HX0.out.old hb1).cell 2 (v:=.slice h.eo m.me.length h.ec) rfl;have HB1:=Zh (Zaf HB0.out hb1);clear hb1)
 all_goals
  go_ret
  refine ZcT (ZcY ?_) HB1.out
  have:=HZ.out
  rw [HQ.out]
  grind
def rcV (k:Int) (a:Int):Int:=if k=8∨k=18∨k=19∨k=23∨k=28 then 3 else if k=9 then 8 else if k=14 then 12 else if k=15∨k=16 then 4+a else if k=17∨k=21∨k=22∨k=24∨k=27∨k=30∨k=31∨k=33 then 2 else if k=20∨k=25∨k=32 then 4 else if k=26 then 6 else 1
theorem Zqu {i:In3} (h:ZaQ false i=true):ZmU i=rcV i.op i.a:=by
 have hop:=Zot h
 obtain ⟨op,a,b⟩:=i
 dsimp only at hop ⊢
 obtain ⟨k,rfl⟩:∃ k:Nat,op=k:=⟨op.toNat,by omega⟩
 have hk:k<36:=by omega
 have h1:∀ k,k<36→((opC.getD k 0:Nat):Int)=rcV k 0:=by decide
 unfold ZmU
 rw [Int.toNat_natCast,h1 k hk]
 unfold rcV
 grind
theorem Zqv (i:In3) (w:World) (hv:ZaQ false i=true):Calls Tryz.prog 214 #[.agg #[.int .i64 i.op,.int .i64 i.a,.int .i64 i.b]] w (Zhf w (.int .i64 (ZmU i)) (.int .i64 0)):=by
 have hop:=Zot hv
 have hla:=ZpK hv
 have HV:=Zh (fun w'=>Zgy i false w')
 rw [hv] at HV
 obtain ⟨q,hq⟩:∃ q,q=ZmU i:=⟨_,rfl⟩
 rw [←hq]
 rw [Zqu hv] at hq
 obtain ⟨op,a,b⟩:=i
 dsimp only at hop HV hla hq
 have HQ:=Zh hq
 have HLa:=Zh hla
 have HX:=Zh (Blk.new w #[.int .i64 op,.int .i64 a,.int .i64 b] 78)
 have HB0:=Zh (show Below w.heap.size w (w.alloc (.cells #[.int .i64 op,.int .i64 a,.int .i64 b] 78)) by exact bE)
 have hwa:op=15∨op=16→IntKind.i64.wrap (4+a)=4+a:=fun h=>IntWalk.i64_in _ (by have:=hla h;omega)
 clear hq hv hla
 go_enter Tryz.func214,Tryz.ntmps214
 go_wp2_with (first
  | (go_at_call 244;refine (HV.out _).mono ?_;rintro e w1 ⟨rfl,hb1⟩;have HX1:=Zh (HX.out.old hb1);have HB1:=Zh (Zaf HB0.out hb1);have x0:=HX1.out.cell 0 (v:=.int .i64 op) rfl;have x1:=HX1.out.cell 1 (v:=.int .i64 a) rfl;clear hb1))
 all_goals
  go_ret2
  refine Zhg (ZcY ?_) rfl HB1.out
  rw [HQ.out]
  unfold rcV
  have hwb:op=15∨op=16→wrap64 (4+a)=4+a:=fun q=>by have:=HLa.out q;unfold wrap64;omega
  grind
end
end Go.Proofs.YtcfjblcgceednaaGreat
