/- bound: sums, products, costs. -/
import Derived.Test.YtcfjblcgceednaaGreatG4
import Derived.Test.YtcfjblcgceednaaGreatG24
set_option linter.all false
set_option linter.unusedVariables false
set_option linter.unusedSimpArgs false
set_option maxRecDepth 100000
set_option maxHeartbeats 4000000
namespace Go.Proofs.YtcfjblcgceednaaGreat
theorem j1{p:Prop}(h:p:=by
 go_enter Tryz.func220,Tryz.ntmps220
 go_wp2_with (first
  | (go_at_call 295;refine (HV.out _).mono ?_;rintro e w1 ⟨rfl,hb1⟩;have HX1:=Zh (HX.out.old hb1);have HB1:=Zh (Zaf HB0.out hb1);have x0:=HX1.out.cell 0 (v:=.int .i64 k) rfl;clear hb1)
  | (go_at_call 296;refine (HK.out _).mono ?_;rintro e w2 ⟨rfl,hb2⟩;have HX2:=Zh (HX1.out.old hb2);have HB2:=Zh (Zaf HB1.out hb2);clear x0;have x0:=HX2.out.cell 0 (v:=.int .i64 k) rfl;have x1:=HX2.out.cell 1 (v:=.int .i64 a) rfl;have xl:=HX2.out.lt;clear hb2))
 all_goals first
  | (exfalso;simp at *;omega)
  | (go_ret2;exact ZcT (by rw [HQ.out];rfl) (bal HB2.out _))):p:=h
theorem j4{p:Prop}(h:p:=by
 have h3:IntKind.i64.wrap (a*b)=a*b:=IntWalk.i64_in _ (by omega)
 have H3:=Zh h3
 generalize hq:ZmF a b=q
 have HQ:=Zh hq
 clear hq
 go_enter Tryz.func219,Tryz.ntmps219
 go_wp2
 all_goals
  go_ret
  exact ZcT (ZcY (by rw [←HQ.out];unfold ZmF ZmD;omega)) bE):p:=h
section
open Go.RowKit
theorem Znl (a b:Int) (w:World) (ha:0≤a∧a≤1000000001) (hb:0≤b∧b≤1000000001):Calls Tryz.prog 160 #[.int .i64 a,.int .i64 b] w (Ret w (.int .i64 (ZmE a b))):=by
 obtain ⟨a0,a1⟩:=ha
 obtain ⟨b0,b1⟩:=hb
 generalize hq:ZmE a b=q
 have HQ:=Zh hq
 clear hq
 go_enter Tryz.func160,Tryz.ntmps160
 go_wp2
 all_goals
  go_ret
  exact ZcT (ZcY (by rw [←HQ.out];unfold ZmE ZmD;omega)) bE
theorem Znm (a b:Int) (w:World) (ha:0≤a∧a≤1000) (hb:0≤b∧b≤1000000001):Calls Tryz.prog 219 #[.int .i64 a,.int .i64 b] w (Ret w (.int .i64 (ZmF a b))):=by
 obtain ⟨a0,a1⟩:=ha
 obtain ⟨b0,b1⟩:=hb
 have h1:0≤a*b:=Int.mul_nonneg a0 b0
 have h2:a*b≤1000*1000000001:=Int.mul_le_mul a1 b1 b0 (by decide)
 exact j4
theorem Znn (n:Int) (w:World):Calls Tryz.prog 105 #[.int .i64 n] w (Ret w (.tuple #[.int .i64 (if 1000000000<n then 0 else n),.int .i64 (if 1000000000<n then 6 else 0)])):=by
 by_cases h:1000000000<n
 all_goals
  first|rw [if_pos h,if_pos h]|rw [if_neg h,if_neg h]
  go_enter Tryz.func105,Tryz.ntmps105
  go_wp2
  go_ret2
  exact ZcT rfl bE
theorem Zno (k:Nat):opC.getD k 0≤12:=by
 by_cases h:k<36
 ·have:∀ i,i<36→opC.getD i 0≤12:=by decide
  exact this k h
 ·rw [List.getD_eq_getElem?_getD,List.getElem?_eq_none (by simp only [opC,List.length_cons,List.length_nil];omega)]
  simp
theorem Znp {p:Bool}{i:In3} (h:ZaQ p i=true):0≤i.op∧i.op<36:=by
 unfold ZaQ at h
 simp only [Bool.and_eq_true,decide_eq_true_eq] at h
 omega
theorem Znq (i:In3) (w:World) (hv:ZaQ false i=true) (ha:i.op=15∨i.op=16→0≤i.a∧i.a≤1000):Calls Tryz.prog 220 #[.agg #[.int .i64 i.op,.int .i64 i.a,.int .i64 i.b]] w (Ret w (.tuple #[.int .i64 (ZmG i),.int .i64 0])):=by
 have hop:=Znp hv
 have HV:=Zh (Zdi i false)
 rw [hv] at HV
 obtain ⟨op,a,b⟩:=i
 dsimp only at hop HV ha
 obtain ⟨k,rfl⟩:∃ k:Nat,op=k:=⟨op.toNat,by omega⟩
 have hk:k<36:=by omega
 have HK:=Zh (Zde k hk)
 have hc:ZmG ⟨k,a,b⟩=((opC.getD k 0:Nat):Int)+if (k:Int)=15∨(k:Int)=16 then a else 0:=by unfold ZmG;rw [Int.toNat_natCast]
 have hle:=Zno k
 generalize ZmG ⟨k,a,b⟩=q at hc ⊢
 generalize opN.getD k default=n0 at HK
 generalize ((opA.getD k 0:Nat):Int)=n1 at HK
 generalize ((opB.getD k 0:Nat):Int)=n2 at HK
 generalize opC.getD k 0=n3 at HK hc hle
 have HQ:=Zh hc
 have HX:=Zh (Blk.new w #[.int .i64 k,.int .i64 a,.int .i64 b] 78)
 have hb0:Below w.heap.size w (w.alloc (.cells #[.int .i64 k,.int .i64 a,.int .i64 b] 78)):=by exact bE
 have HB0:=Zh hb0
 clear hc hv hb0
 by_cases h:(k:Int)=15∨(k:Int)=16
 ·obtain ⟨a0,a1⟩:=ha h
  rw [if_pos h] at HQ
  exact j1
 ·rw [if_neg h,Int.add_zero] at HQ
  clear ha
  exact j1
end
end Go.Proofs.YtcfjblcgceednaaGreat
