/- Ranges: isRange; Join, After, Fits of both sides. -/
import Derived.Test.YtcfjblcgceednaaGreatE28
set_option linter.all false
set_option linter.unusedVariables false
set_option linter.unusedSimpArgs false
set_option maxHeartbeats 8000000
namespace Go.Proofs.YtcfjblcgceednaaGreat
theorem j4{p:Prop}(h:p:=by
 subst hj
 go_enter Tryz.func29,Tryz.ntmps29
 go_upto_region 1 with fail
 rw [←HW.out]
 have p00:=(HP0.out).cell 0 (v:=.int .i64 lo) rfl
 have p01:=(HP0.out).cell 1 (v:=.int .i64 hi) rfl
 go_upto_region 2 with (go_at_call 73;refine (HVa.out _).mono ?_;rintro e w1 ⟨rfl,hb1⟩;have HB1:=Zh hb1;clear hb1 p00 p01;have p00:=(HP0.out.old HB1.out).cell 0 (v:=.int .i64 lo) rfl;have p01:=(HP0.out.old HB1.out).cell 1 (v:=.int .i64 hi) rfl)
 have HRx:=Zh (HR.out.old HB1.out)
 clear p00 p01
 have r0:=HRx.out.cell 0 (v:=.int .i64 0) rfl
 have r1:=HRx.out.cell 1 (v:=.int .i64 0) rfl
 have f0:=HRx.out.frozen 0
 have f1:=HRx.out.frozen 1
 have rl:=HRx.out.lt
 go_wp2
 have hY:=(HRx.out.set 0 (.int .i64 0)).set 1 (.int .i64 0)
 have hB:=ZcW (j:=1) (ZcW (j:=0) (Zaf HB.out HB1.out) (b:=w.heap.size+1) (by omega) (.int .i64 0)) (b:=w.heap.size+1) (by omega) (.int .i64 0)
 have HY:=Zh hY
 have HB9:=Zh hB
 clear r0 r1 f0 f1 rl hY hB
 generalize (w1.setCell _ _).setCell _ _=w9 at HY HB9 ⊢
 have y0:=HY.out.cell 0 (v:=.int .i64 0) rfl
 have y1:=HY.out.cell 1 (v:=.int .i64 0) rfl
 exact bodyPost_ret (v:=.tuple #[.agg #[.int .i64 0,.int .i64 0],.int .i64 1]) (by simp [results,Tryz.results29,go_sem,y0,y1]) rfl ⟨rfl,HB9.out⟩):p:=h
theorem j5{p:Prop}(h:p:=by
 subst hj
 go_enter Tryz.func31,Tryz.ntmps31
 go_upto_region 1 with fail
 rw [←HW.out]
 have p00:=(HP0.out).cell 0 (v:=.int .i64 lo) rfl
 have p01:=(HP0.out).cell 1 (v:=.int .i64 hi) rfl
 go_upto_region 2 with (go_at_call 75;refine (HVa.out _).mono ?_;rintro e w1 ⟨rfl,hb1⟩;have HB1:=Zh hb1;clear hb1 p00 p01;have p00:=(HP0.out.old HB1.out).cell 0 (v:=.int .i64 lo) rfl;have p01:=(HP0.out.old HB1.out).cell 1 (v:=.int .i64 hi) rfl)
 have HRx:=Zh (HR.out.old HB1.out)
 clear p00 p01
 have r0:=HRx.out.cell 0 (v:=.int .i64 0) rfl
 have r1:=HRx.out.cell 1 (v:=.int .i64 0) rfl
 have f0:=HRx.out.frozen 0
 have f1:=HRx.out.frozen 1
 have rl:=HRx.out.lt
 go_wp2
 have hY:=(HRx.out.set 0 (.int .i64 0)).set 1 (.int .i64 0)
 have hB:=ZcW (j:=1) (ZcW (j:=0) (Zaf HB.out HB1.out) (b:=w.heap.size+1) (by omega) (.int .i64 0)) (b:=w.heap.size+1) (by omega) (.int .i64 0)
 have HY:=Zh hY
 have HB9:=Zh hB
 clear r0 r1 f0 f1 rl hY hB
 generalize (w1.setCell _ _).setCell _ _=w9 at HY HB9 ⊢
 have y0:=HY.out.cell 0 (v:=.int .i64 0) rfl
 have y1:=HY.out.cell 1 (v:=.int .i64 0) rfl
 exact bodyPost_ret (v:=.tuple #[.agg #[.int .i64 0,.int .i64 0],.int .i64 1]) (by simp [results,Tryz.results31,go_sem,y0,y1]) rfl ⟨rfl,HB9.out⟩):p:=h
theorem j11{p:Prop}(h:p:=by
 have y0:=HY.out.cell 0 (v:=.int .i64 0) rfl
 have y1:=HY.out.cell 1 (v:=.int .i64 0) rfl
 exact bodyPost_ret (v:=.tuple #[.agg #[.int .i64 0,.int .i64 0],.int .i64 1]) (by simp [results,Tryz.results27,go_sem,y0,y1]) rfl ⟨rfl,HB9.out⟩):p:=h
theorem j12{p:Prop}(h:p:=by
 have y0:=HY.out.cell 0 (v:=.int .i64 0) rfl
 have y1:=HY.out.cell 1 (v:=.int .i64 0) rfl
 exact bodyPost_ret (v:=.tuple #[.agg #[.int .i64 0,.int .i64 0],.int .i64 1]) (by simp [results,Tryz.results28,go_sem,y0,y1]) rfl ⟨rfl,HB9.out⟩):p:=h
section
open Go.RowKit
attribute [local go_sem] World.cell?_alloc_some
theorem Znk (lo hi:Int):Zmu ⟨lo,hi⟩=(decide (lo=9∧hi=-9)||(decide (lo=-9∨0≤lo)&&decide (hi=-9∨0≤hi)&&(decide (lo≤hi)&&decide (hi≤8)))):=by
 unfold Zmu Zmt Zmp
 rw [Bool.eq_iff_iff]
 simp only [Bool.or_eq_true,Bool.and_eq_true,decide_eq_true_eq,Rg.mk.injEq]
 omega
theorem Znl (a:Rg) (w:World):Calls Tryz.prog 75 #[.agg #[.int .i64 a.lo,.int .i64 a.hi]] w (Ret w (.bool (Zmu a))):=by
 obtain ⟨lo,hi⟩:=a
 rw [Znk]
 dsimp only
 obtain ⟨b,hb⟩:∃ b,b=(decide (lo=9∧hi=-9)||(decide (lo=-9∨0≤lo)&&decide (hi=-9∨0≤hi)&&(decide (lo≤hi)&&decide (hi≤8)))):=⟨_,rfl⟩
 rw [←hb]
 have HV:=Zh hb
 clear hb
 obtain ⟨w0,hw0⟩:∃ w0,w0=(w.alloc (.cells #[.int .i64 lo,.int .i64 hi] 44)):=⟨_,rfl⟩
 have HB:=Zh (show Below w.heap.size w w0 by rw [hw0];exact bE)
 have HP0:=Zh (show Blk w0 (w.heap.size) #[.int .i64 lo,.int .i64 hi] 44 by rw [hw0];exact (Blk.new' (w:=w) #[.int .i64 lo,.int .i64 hi] 44 (by simp)).old bE)
 have HW:=Zh hw0
 clear hw0
 have heq:=eq2
 go_enter Tryz.func75,Tryz.ntmps75
 go_upto_region 1 with fail
 rw [←HW.out]
 have p00:=(HP0.out).cell 0 (v:=.int .i64 lo) rfl
 have p01:=(HP0.out).cell 1 (v:=.int .i64 hi) rfl
 refine rO (Cs [(⟨w.heap.size,0,none⟩,.int .i64 lo),(⟨w.heap.size,1,none⟩,.int .i64 hi)]) (oL [0,101,2]) ⟨p00,p01,trivial⟩ ?_
 repeat refine pO ?_
 refine oO fun Kv hK=>?_
 go_simp
 refine (Zmw _).mono ?_
 rintro e w1 ⟨rfl,hb1⟩
 have HB1:=Zh (Zaf HB.out.drew hb1)
 have HC1:=Zh (Cs.keeps (ZmV.of hb1) (show Cs [(⟨w.heap.size,0,none⟩,.int .i64 lo),(⟨w.heap.size,1,none⟩,.int .i64 hi)] w0.drew from ⟨p00,p01,trivial⟩))
 refine hK _ _ ⟨HC1.out,?_⟩
 clear hK Kv hb1 p00 p01
 repeat refine pO ?_
 refine Zd5 ?_
 obtain ⟨p00,p01,-⟩:=HC1.out
 go_wp2
 all_goals
  go_ret
  refine ZcT (ZcX ?_) HB1.out
  have hv:=HV.out
  rw [hv]
  clear hv
  simp only [Bool.and_eq_true,Bool.and_eq_false_iff,beq_iff_eq,beq_eq_false_iff_ne,decide_eq_true_eq,decide_eq_false_iff_not,Bool.not_eq_true] at *
  first
   | (rw [eq_comm,Bool.or_eq_true,decide_eq_true_eq];simp only [Bool.and_eq_true,decide_eq_true_eq];omega)
   | grind
theorem Znm {a b:Rg} (ha:Zmu a=true) (hb:Zmu b=true):Zms a b=(decide (a.hi=-9)||(decide (0≤b.lo)&&decide (a.hi≤b.lo))):=by
 obtain ⟨lo,hi⟩:=a
 obtain ⟨lo2,hi2⟩:=b
 rw [Znk] at ha hb
 unfold Zms
 rw [Bool.eq_iff_iff]
 simp only [Bool.or_eq_true,Bool.and_eq_true,decide_eq_true_eq] at ha hb ⊢
 omega
theorem Znn (a b:Rg) (w:World) (ha:Zmu a=true) (hb:Zmu b=true):Calls Tryz.prog 76 #[.agg #[.int .i64 a.lo,.int .i64 a.hi],.agg #[.int .i64 b.lo,.int .i64 b.hi]] w (Ret w (.bool (Zms a b))):=by
 rw [Znm ha hb]
 obtain ⟨lo,hi⟩:=a
 obtain ⟨lo2,hi2⟩:=b
 dsimp only
 clear ha hb
 obtain ⟨c,hc⟩:∃ c,c=(decide (hi=-9)||(decide (0≤lo2)&&decide (hi≤lo2))):=⟨_,rfl⟩
 rw [←hc]
 have HV:=Zh hc
 clear hc
 go_enter Tryz.func76,Tryz.ntmps76
 go_wp2
 all_goals
  go_ret
  refine ZcT (ZcX ?_) bE
  rw [HV.out]
  grind
theorem Zno (a b:Rg) (w:World):Calls Tryz.prog 78 #[.agg #[.int .i64 a.lo,.int .i64 a.hi],.agg #[.int .i64 b.lo,.int .i64 b.hi]] w (Ret w (.agg #[.int .i64 (Zmq a b).lo,.int .i64 (Zmq a b).hi])):=by
 go_enter Tryz.func78,Tryz.ntmps78
 go_wp2
 all_goals
  refine bodyPost_ret (v:=.agg #[.int .i64 (Zmq a b).lo,.int .i64 (Zmq a b).hi]) ?_ rfl ⟨rfl,by exact bE⟩
  simp [results,Tryz.results78,go_sem,Zmq]
  try omega
def zR:Rg:=⟨0,0⟩
def Znp (a b:Rg):Rg × Int:=if (Zmu a&&Zmu b)=true then (Zmq a b,0) else (zR,1)
def Znq (a b:Rg):Bool × Int:=if (Zmu a&&Zmu b)=true then (Zms a b,0) else (false,1)
def Znr (a:Rg) (d:Int):Rg × Int:=if Zmu a=true∧1≤d∧d≤8 then (Zmr a d,0) else (zR,1)
theorem Zns (a b:Rg) (w:World):Calls Tryz.prog 27 #[.agg #[.int .i64 a.lo,.int .i64 a.hi],.agg #[.int .i64 b.lo,.int .i64 b.hi]] w (Ret w (.tuple #[.agg #[.int .i64 (Znp a b).1.lo,.int .i64 (Znp a b).1.hi],.int .i64 (Znp a b).2])):=by
 have HVa:=Zh (fun w'=>Znj a w')
 have HVb:=Zh (fun w'=>Znj b w')
 have HJ:=Zh (fun w'=>Zmx a b w')
 have hj:Znp a b=if (Zmu a&&Zmu b)=true then (Zmq a b,0) else (zR,1):=rfl
 generalize Znp a b=q at hj ⊢
 generalize Zmq a b=jv at hj HJ
 generalize Zmu a=va at hj HVa
 generalize Zmu b=vb at hj HVb
 obtain ⟨lo,hi⟩:=a
 obtain ⟨lo2,hi2⟩:=b
 obtain ⟨jl,jh⟩:=jv
 dsimp only at HVa HVb HJ
 obtain ⟨w0,hw0⟩:∃ w0,w0=(((w.alloc (.cells #[.int .i64 lo,.int .i64 hi] 44)).alloc (.cells #[.int .i64 lo2,.int .i64 hi2] 44)).alloc (.cells #[.int .i64 0,.int .i64 0] 44)):=⟨_,rfl⟩
 have HB:=Zh (show Below w.heap.size w w0 by rw [hw0];exact bE)
 have HP0:=Zh (show Blk w0 (w.heap.size) #[.int .i64 lo,.int .i64 hi] 44 by rw [hw0];exact (Blk.new' (w:=w) #[.int .i64 lo,.int .i64 hi] 44 (by simp)).old bE)
 have HP1:=Zh (show Blk w0 (w.heap.size+1) #[.int .i64 lo2,.int .i64 hi2] 44 by rw [hw0];exact (Blk.new' (w:=(w.alloc (.cells #[.int .i64 lo,.int .i64 hi] 44))) #[.int .i64 lo2,.int .i64 hi2] 44 (by simp)).old bE)
 have HR:=Zh (show Blk w0 (w.heap.size+1+1) #[.int .i64 0,.int .i64 0] 44 by rw [hw0];exact Blk.new' (w:=((w.alloc (.cells #[.int .i64 lo,.int .i64 hi] 44)).alloc (.cells #[.int .i64 lo2,.int .i64 hi2] 44))) #[.int .i64 0,.int .i64 0] 44 (by simp))
 have HW:=Zh hw0
 clear hw0
 rcases va with _|_
 ·rw [if_neg (by simp)] at hj
  subst hj
  go_enter Tryz.func27,Tryz.ntmps27
  go_upto_region 1 with fail
  rw [←HW.out]
  have p00:=(HP0.out).cell 0 (v:=.int .i64 lo) rfl
  have p01:=(HP0.out).cell 1 (v:=.int .i64 hi) rfl
  have p10:=(HP1.out).cell 0 (v:=.int .i64 lo2) rfl
  have p11:=(HP1.out).cell 1 (v:=.int .i64 hi2) rfl
  go_upto_region 2 with (go_at_call 73;refine (HVa.out _).mono ?_;rintro e w1 ⟨rfl,hb1⟩;have HB1:=Zh hb1;clear hb1 p00 p01 p10 p11;have p00:=(HP0.out.old HB1.out).cell 0 (v:=.int .i64 lo) rfl;have p01:=(HP0.out.old HB1.out).cell 1 (v:=.int .i64 hi) rfl;have p10:=(HP1.out.old HB1.out).cell 0 (v:=.int .i64 lo2) rfl;have p11:=(HP1.out.old HB1.out).cell 1 (v:=.int .i64 hi2) rfl)
  have HRx:=Zh (HR.out.old HB1.out)
  clear p00 p01 p10 p11
  have r0:=HRx.out.cell 0 (v:=.int .i64 0) rfl
  have r1:=HRx.out.cell 1 (v:=.int .i64 0) rfl
  have f0:=HRx.out.frozen 0
  have f1:=HRx.out.frozen 1
  have rl:=HRx.out.lt
  go_wp2
  have hY:=(HRx.out.set 0 (.int .i64 0)).set 1 (.int .i64 0)
  have hB:=ZcW (j:=1) (ZcW (j:=0) (Zaf HB.out HB1.out) (b:=w.heap.size+1+1) (by omega) (.int .i64 0)) (b:=w.heap.size+1+1) (by omega) (.int .i64 0)
  have HY:=Zh hY
  have HB9:=Zh hB
  clear r0 r1 f0 f1 rl hY hB
  generalize (w1.setCell _ _).setCell _ _=w9 at HY HB9 ⊢
  exact j11
 rcases vb with _|_
 ·rw [if_neg (by simp)] at hj
  subst hj
  go_enter Tryz.func27,Tryz.ntmps27
  go_upto_region 1 with fail
  rw [←HW.out]
  have p00:=(HP0.out).cell 0 (v:=.int .i64 lo) rfl
  have p01:=(HP0.out).cell 1 (v:=.int .i64 hi) rfl
  have p10:=(HP1.out).cell 0 (v:=.int .i64 lo2) rfl
  have p11:=(HP1.out).cell 1 (v:=.int .i64 hi2) rfl
  go_upto_region 2 with (first|(go_at_call 73;refine (HVb.out w1).mono ?_;rintro e w2 ⟨rfl,hb2⟩;have HB2:=Zh (Zaf HB1.out hb2);clear hb2 p00 p01 p10 p11;have p00:=(HP0.out.old HB2.out).cell 0 (v:=.int .i64 lo) rfl;have p01:=(HP0.out.old HB2.out).cell 1 (v:=.int .i64 hi) rfl;have p10:=(HP1.out.old HB2.out).cell 0 (v:=.int .i64 lo2) rfl;have p11:=(HP1.out.old HB2.out).cell 1 (v:=.int .i64 hi2) rfl)|(go_at_call 73;refine (HVa.out _).mono ?_;rintro e w1 ⟨rfl,hb1⟩;have HB1:=Zh hb1;clear hb1 p00 p01 p10 p11;have p00:=(HP0.out.old HB1.out).cell 0 (v:=.int .i64 lo) rfl;have p01:=(HP0.out.old HB1.out).cell 1 (v:=.int .i64 hi) rfl;have p10:=(HP1.out.old HB1.out).cell 0 (v:=.int .i64 lo2) rfl;have p11:=(HP1.out.old HB1.out).cell 1 (v:=.int .i64 hi2) rfl))
  have HRx:=Zh (HR.out.old HB2.out)
  clear p00 p01 p10 p11
  have r0:=HRx.out.cell 0 (v:=.int .i64 0) rfl
  have r1:=HRx.out.cell 1 (v:=.int .i64 0) rfl
  have f0:=HRx.out.frozen 0
  have f1:=HRx.out.frozen 1
  have rl:=HRx.out.lt
  go_wp2
  have hY:=(HRx.out.set 0 (.int .i64 0)).set 1 (.int .i64 0)
  have hB:=ZcW (j:=1) (ZcW (j:=0) (Zaf HB.out HB2.out) (b:=w.heap.size+1+1) (by omega) (.int .i64 0)) (b:=w.heap.size+1+1) (by omega) (.int .i64 0)
  have HY:=Zh hY
  have HB9:=Zh hB
  clear r0 r1 f0 f1 rl hY hB
  generalize (w2.setCell _ _).setCell _ _=w9 at HY HB9 ⊢
  exact j11
 ·rw [if_pos (by simp)] at hj
  subst hj
  go_enter Tryz.func27,Tryz.ntmps27
  go_upto_region 1 with fail
  rw [←HW.out]
  have p00:=(HP0.out).cell 0 (v:=.int .i64 lo) rfl
  have p01:=(HP0.out).cell 1 (v:=.int .i64 hi) rfl
  have p10:=(HP1.out).cell 0 (v:=.int .i64 lo2) rfl
  have p11:=(HP1.out).cell 1 (v:=.int .i64 hi2) rfl
  go_wp2_with (first|(go_at_call 77;refine (HJ.out _).mono ?_;rintro e w3 ⟨rfl,hb3⟩;have HB3:=Zh (Zaf HB2.out hb3);clear hb3 p00 p01 p10 p11;have HRx:=Zh (HR.out.old HB3.out);have r0:=HRx.out.cell 0 (v:=.int .i64 0) rfl;have r1:=HRx.out.cell 1 (v:=.int .i64 0) rfl;have f0:=HRx.out.frozen 0;have f1:=HRx.out.frozen 1;have rl:=HRx.out.lt)|(go_at_call 73;refine (HVb.out w1).mono ?_;rintro e w2 ⟨rfl,hb2⟩;have HB2:=Zh (Zaf HB1.out hb2);clear hb2 p00 p01 p10 p11;have p00:=(HP0.out.old HB2.out).cell 0 (v:=.int .i64 lo) rfl;have p01:=(HP0.out.old HB2.out).cell 1 (v:=.int .i64 hi) rfl;have p10:=(HP1.out.old HB2.out).cell 0 (v:=.int .i64 lo2) rfl;have p11:=(HP1.out.old HB2.out).cell 1 (v:=.int .i64 hi2) rfl)|(go_at_call 73;refine (HVa.out _).mono ?_;rintro e w1 ⟨rfl,hb1⟩;have HB1:=Zh hb1;clear hb1 p00 p01 p10 p11;have p00:=(HP0.out.old HB1.out).cell 0 (v:=.int .i64 lo) rfl;have p01:=(HP0.out.old HB1.out).cell 1 (v:=.int .i64 hi) rfl;have p10:=(HP1.out.old HB1.out).cell 0 (v:=.int .i64 lo2) rfl;have p11:=(HP1.out.old HB1.out).cell 1 (v:=.int .i64 hi2) rfl))
  have hY:=(HRx.out.set 0 (.int .i64 jl)).set 1 (.int .i64 jh)
  have hB:=ZcW (j:=1) (ZcW (j:=0) (Zaf HB.out HB3.out) (b:=w.heap.size+1+1) (by omega) (.int .i64 jl)) (b:=w.heap.size+1+1) (by omega) (.int .i64 jh)
  have HY:=Zh hY
  have HB9:=Zh hB
  clear r0 r1 f0 f1 rl hY hB
  generalize (w3.setCell _ _).setCell _ _=w9 at HY HB9 ⊢
  have y0:=HY.out.cell 0 (v:=.int .i64 jl) rfl
  have y1:=HY.out.cell 1 (v:=.int .i64 jh) rfl
  exact bodyPost_ret (v:=.tuple #[.agg #[.int .i64 jl,.int .i64 jh],.int .i64 0]) (by simp [results,Tryz.results27,go_sem,y0,y1]) rfl ⟨rfl,HB9.out⟩
theorem Znt (a b:Rg) (w:World):Calls Tryz.prog 28 #[.agg #[.int .i64 a.lo,.int .i64 a.hi],.agg #[.int .i64 b.lo,.int .i64 b.hi]] w (Ret w (.tuple #[.agg #[.int .i64 (Znp a b).1.lo,.int .i64 (Znp a b).1.hi],.int .i64 (Znp a b).2])):=by
 have HVa:=Zh (fun w'=>Znl a w')
 have HVb:=Zh (fun w'=>Znl b w')
 have HJ:=Zh (fun w'=>Zno a b w')
 have hj:Znp a b=if (Zmu a&&Zmu b)=true then (Zmq a b,0) else (zR,1):=rfl
 generalize Znp a b=q at hj ⊢
 generalize Zmq a b=jv at hj HJ
 generalize Zmu a=va at hj HVa
 generalize Zmu b=vb at hj HVb
 obtain ⟨lo,hi⟩:=a
 obtain ⟨lo2,hi2⟩:=b
 obtain ⟨jl,jh⟩:=jv
 dsimp only at HVa HVb HJ
 obtain ⟨w0,hw0⟩:∃ w0,w0=(((w.alloc (.cells #[.int .i64 lo,.int .i64 hi] 44)).alloc (.cells #[.int .i64 lo2,.int .i64 hi2] 44)).alloc (.cells #[.int .i64 0,.int .i64 0] 44)):=⟨_,rfl⟩
 have HB:=Zh (show Below w.heap.size w w0 by rw [hw0];exact bE)
 have HP0:=Zh (show Blk w0 (w.heap.size) #[.int .i64 lo,.int .i64 hi] 44 by rw [hw0];exact (Blk.new' (w:=w) #[.int .i64 lo,.int .i64 hi] 44 (by simp)).old bE)
 have HP1:=Zh (show Blk w0 (w.heap.size+1) #[.int .i64 lo2,.int .i64 hi2] 44 by rw [hw0];exact (Blk.new' (w:=(w.alloc (.cells #[.int .i64 lo,.int .i64 hi] 44))) #[.int .i64 lo2,.int .i64 hi2] 44 (by simp)).old bE)
 have HR:=Zh (show Blk w0 (w.heap.size+1+1) #[.int .i64 0,.int .i64 0] 44 by rw [hw0];exact Blk.new' (w:=((w.alloc (.cells #[.int .i64 lo,.int .i64 hi] 44)).alloc (.cells #[.int .i64 lo2,.int .i64 hi2] 44))) #[.int .i64 0,.int .i64 0] 44 (by simp))
 have HW:=Zh hw0
 clear hw0
 rcases va with _|_
 ·rw [if_neg (by simp)] at hj
  subst hj
  go_enter Tryz.func28,Tryz.ntmps28
  go_upto_region 1 with fail
  rw [←HW.out]
  have p00:=(HP0.out).cell 0 (v:=.int .i64 lo) rfl
  have p01:=(HP0.out).cell 1 (v:=.int .i64 hi) rfl
  have p10:=(HP1.out).cell 0 (v:=.int .i64 lo2) rfl
  have p11:=(HP1.out).cell 1 (v:=.int .i64 hi2) rfl
  go_upto_region 2 with (go_at_call 75;refine (HVa.out _).mono ?_;rintro e w1 ⟨rfl,hb1⟩;have HB1:=Zh hb1;clear hb1 p00 p01 p10 p11;have p00:=(HP0.out.old HB1.out).cell 0 (v:=.int .i64 lo) rfl;have p01:=(HP0.out.old HB1.out).cell 1 (v:=.int .i64 hi) rfl;have p10:=(HP1.out.old HB1.out).cell 0 (v:=.int .i64 lo2) rfl;have p11:=(HP1.out.old HB1.out).cell 1 (v:=.int .i64 hi2) rfl)
  have HRx:=Zh (HR.out.old HB1.out)
  clear p00 p01 p10 p11
  have r0:=HRx.out.cell 0 (v:=.int .i64 0) rfl
  have r1:=HRx.out.cell 1 (v:=.int .i64 0) rfl
  have f0:=HRx.out.frozen 0
  have f1:=HRx.out.frozen 1
  have rl:=HRx.out.lt
  go_wp2
  have hY:=(HRx.out.set 0 (.int .i64 0)).set 1 (.int .i64 0)
  have hB:=ZcW (j:=1) (ZcW (j:=0) (Zaf HB.out HB1.out) (b:=w.heap.size+1+1) (by omega) (.int .i64 0)) (b:=w.heap.size+1+1) (by omega) (.int .i64 0)
  have HY:=Zh hY
  have HB9:=Zh hB
  clear r0 r1 f0 f1 rl hY hB
  generalize (w1.setCell _ _).setCell _ _=w9 at HY HB9 ⊢
  exact j12
 rcases vb with _|_
 ·rw [if_neg (by simp)] at hj
  subst hj
  go_enter Tryz.func28,Tryz.ntmps28
  go_upto_region 1 with fail
  rw [←HW.out]
  have p00:=(HP0.out).cell 0 (v:=.int .i64 lo) rfl
  have p01:=(HP0.out).cell 1 (v:=.int .i64 hi) rfl
  have p10:=(HP1.out).cell 0 (v:=.int .i64 lo2) rfl
  have p11:=(HP1.out).cell 1 (v:=.int .i64 hi2) rfl
  go_upto_region 2 with (first|(go_at_call 75;refine (HVb.out w1).mono ?_;rintro e w2 ⟨rfl,hb2⟩;have HB2:=Zh (Zaf HB1.out hb2);clear hb2 p00 p01 p10 p11;have p00:=(HP0.out.old HB2.out).cell 0 (v:=.int .i64 lo) rfl;have p01:=(HP0.out.old HB2.out).cell 1 (v:=.int .i64 hi) rfl;have p10:=(HP1.out.old HB2.out).cell 0 (v:=.int .i64 lo2) rfl;have p11:=(HP1.out.old HB2.out).cell 1 (v:=.int .i64 hi2) rfl)|(go_at_call 75;refine (HVa.out _).mono ?_;rintro e w1 ⟨rfl,hb1⟩;have HB1:=Zh hb1;clear hb1 p00 p01 p10 p11;have p00:=(HP0.out.old HB1.out).cell 0 (v:=.int .i64 lo) rfl;have p01:=(HP0.out.old HB1.out).cell 1 (v:=.int .i64 hi) rfl;have p10:=(HP1.out.old HB1.out).cell 0 (v:=.int .i64 lo2) rfl;have p11:=(HP1.out.old HB1.out).cell 1 (v:=.int .i64 hi2) rfl))
  have HRx:=Zh (HR.out.old HB2.out)
  clear p00 p01 p10 p11
  have r0:=HRx.out.cell 0 (v:=.int .i64 0) rfl
  have r1:=HRx.out.cell 1 (v:=.int .i64 0) rfl
  have f0:=HRx.out.frozen 0
  have f1:=HRx.out.frozen 1
  have rl:=HRx.out.lt
  go_wp2
  have hY:=(HRx.out.set 0 (.int .i64 0)).set 1 (.int .i64 0)
  have hB:=ZcW (j:=1) (ZcW (j:=0) (Zaf HB.out HB2.out) (b:=w.heap.size+1+1) (by omega) (.int .i64 0)) (b:=w.heap.size+1+1) (by omega) (.int .i64 0)
  have HY:=Zh hY
  have HB9:=Zh hB
  clear r0 r1 f0 f1 rl hY hB
  generalize (w2.setCell _ _).setCell _ _=w9 at HY HB9 ⊢
  exact j12
 ·rw [if_pos (by simp)] at hj
  subst hj
  go_enter Tryz.func28,Tryz.ntmps28
  go_upto_region 1 with fail
  rw [←HW.out]
  have p00:=(HP0.out).cell 0 (v:=.int .i64 lo) rfl
  have p01:=(HP0.out).cell 1 (v:=.int .i64 hi) rfl
  have p10:=(HP1.out).cell 0 (v:=.int .i64 lo2) rfl
  have p11:=(HP1.out).cell 1 (v:=.int .i64 hi2) rfl
  go_wp2_with (first|(go_at_call 78;refine (HJ.out _).mono ?_;rintro e w3 ⟨rfl,hb3⟩;have HB3:=Zh (Zaf HB2.out hb3);clear hb3 p00 p01 p10 p11;have HRx:=Zh (HR.out.old HB3.out);have r0:=HRx.out.cell 0 (v:=.int .i64 0) rfl;have r1:=HRx.out.cell 1 (v:=.int .i64 0) rfl;have f0:=HRx.out.frozen 0;have f1:=HRx.out.frozen 1;have rl:=HRx.out.lt)|(go_at_call 75;refine (HVb.out w1).mono ?_;rintro e w2 ⟨rfl,hb2⟩;have HB2:=Zh (Zaf HB1.out hb2);clear hb2 p00 p01 p10 p11;have p00:=(HP0.out.old HB2.out).cell 0 (v:=.int .i64 lo) rfl;have p01:=(HP0.out.old HB2.out).cell 1 (v:=.int .i64 hi) rfl;have p10:=(HP1.out.old HB2.out).cell 0 (v:=.int .i64 lo2) rfl;have p11:=(HP1.out.old HB2.out).cell 1 (v:=.int .i64 hi2) rfl)|(go_at_call 75;refine (HVa.out _).mono ?_;rintro e w1 ⟨rfl,hb1⟩;have HB1:=Zh hb1;clear hb1 p00 p01 p10 p11;have p00:=(HP0.out.old HB1.out).cell 0 (v:=.int .i64 lo) rfl;have p01:=(HP0.out.old HB1.out).cell 1 (v:=.int .i64 hi) rfl;have p10:=(HP1.out.old HB1.out).cell 0 (v:=.int .i64 lo2) rfl;have p11:=(HP1.out.old HB1.out).cell 1 (v:=.int .i64 hi2) rfl))
  have hY:=(HRx.out.set 0 (.int .i64 jl)).set 1 (.int .i64 jh)
  have hB:=ZcW (j:=1) (ZcW (j:=0) (Zaf HB.out HB3.out) (b:=w.heap.size+1+1) (by omega) (.int .i64 jl)) (b:=w.heap.size+1+1) (by omega) (.int .i64 jh)
  have HY:=Zh hY
  have HB9:=Zh hB
  clear r0 r1 f0 f1 rl hY hB
  generalize (w3.setCell _ _).setCell _ _=w9 at HY HB9 ⊢
  have y0:=HY.out.cell 0 (v:=.int .i64 jl) rfl
  have y1:=HY.out.cell 1 (v:=.int .i64 jh) rfl
  exact bodyPost_ret (v:=.tuple #[.agg #[.int .i64 jl,.int .i64 jh],.int .i64 0]) (by simp [results,Tryz.results28,go_sem,y0,y1]) rfl ⟨rfl,HB9.out⟩
theorem Znu (a:Rg) (d:Int) (w:World):Calls Tryz.prog 29 #[.agg #[.int .i64 a.lo,.int .i64 a.hi],.int .i64 d] w (Ret w (.tuple #[.agg #[.int .i64 (Znr a d).1.lo,.int .i64 (Znr a d).1.hi],.int .i64 (Znr a d).2])):=by
 have HVa:=Zh (fun w'=>Znj a w')
 have HJ:=Zh (fun w' (hd:1≤d∧d≤8)=>Znh a d w' (by omega))
 have hj:Znr a d=if Zmu a=true∧1≤d∧d≤8 then (Zmr a d,0) else (zR,1):=rfl
 generalize Znr a d=q at hj ⊢
 generalize Zmr a d=jv at hj HJ
 generalize Zmu a=va at hj HVa
 obtain ⟨lo,hi⟩:=a
 obtain ⟨jl,jh⟩:=jv
 dsimp only at HVa HJ
 obtain ⟨w0,hw0⟩:∃ w0,w0=((w.alloc (.cells #[.int .i64 lo,.int .i64 hi] 44)).alloc (.cells #[.int .i64 0,.int .i64 0] 44)):=⟨_,rfl⟩
 have HB:=Zh (show Below w.heap.size w w0 by rw [hw0];exact bE)
 have HP0:=Zh (show Blk w0 (w.heap.size) #[.int .i64 lo,.int .i64 hi] 44 by rw [hw0];exact (Blk.new' (w:=w) #[.int .i64 lo,.int .i64 hi] 44 (by simp)).old bE)
 have HR:=Zh (show Blk w0 (w.heap.size+1) #[.int .i64 0,.int .i64 0] 44 by rw [hw0];exact Blk.new' (w:=(w.alloc (.cells #[.int .i64 lo,.int .i64 hi] 44))) #[.int .i64 0,.int .i64 0] 44 (by simp))
 have HW:=Zh hw0
 clear hw0
 rcases va with _|_
 ·rw [if_neg (by simp)] at hj
  exact j4
 by_cases hd1:d<1
 ·rw [if_neg (by omega)] at hj
  exact j4
 by_cases hd8:d > 8
 ·rw [if_neg (by omega)] at hj
  exact j4
 ·rw [if_pos ⟨rfl,by omega,by omega⟩] at hj
  subst hj
  have hd:1≤d∧d≤8:=by omega
  go_enter Tryz.func29,Tryz.ntmps29
  go_upto_region 1 with fail
  rw [←HW.out]
  have p00:=(HP0.out).cell 0 (v:=.int .i64 lo) rfl
  have p01:=(HP0.out).cell 1 (v:=.int .i64 hi) rfl
  go_wp2_with (first|(go_at_call 79;refine (HJ.out _ hd).mono ?_;rintro e w3 ⟨rfl,hb3⟩;have HB3:=Zh (Zaf HB1.out hb3);clear hb3 p00 p01;have HRx:=Zh (HR.out.old HB3.out);have r0:=HRx.out.cell 0 (v:=.int .i64 0) rfl;have r1:=HRx.out.cell 1 (v:=.int .i64 0) rfl;have f0:=HRx.out.frozen 0;have f1:=HRx.out.frozen 1;have rl:=HRx.out.lt)|(go_at_call 73;refine (HVa.out _).mono ?_;rintro e w1 ⟨rfl,hb1⟩;have HB1:=Zh hb1;clear hb1 p00 p01;have p00:=(HP0.out.old HB1.out).cell 0 (v:=.int .i64 lo) rfl;have p01:=(HP0.out.old HB1.out).cell 1 (v:=.int .i64 hi) rfl))
  have hY:=(HRx.out.set 0 (.int .i64 jl)).set 1 (.int .i64 jh)
  have hB:=ZcW (j:=1) (ZcW (j:=0) (Zaf HB.out HB3.out) (b:=w.heap.size+1) (by omega) (.int .i64 jl)) (b:=w.heap.size+1) (by omega) (.int .i64 jh)
  have HY:=Zh hY
  have HB9:=Zh hB
  clear r0 r1 f0 f1 rl hY hB
  generalize (w3.setCell _ _).setCell _ _=w9 at HY HB9 ⊢
  have y0:=HY.out.cell 0 (v:=.int .i64 jl) rfl
  have y1:=HY.out.cell 1 (v:=.int .i64 jh) rfl
  exact bodyPost_ret (v:=.tuple #[.agg #[.int .i64 jl,.int .i64 jh],.int .i64 0]) (by simp [results,Tryz.results29,go_sem,y0,y1]) rfl ⟨rfl,HB9.out⟩
theorem Znv (a:Rg) (d:Int) (w:World):Calls Tryz.prog 31 #[.agg #[.int .i64 a.lo,.int .i64 a.hi],.int .i64 d] w (Ret w (.tuple #[.agg #[.int .i64 (Znr a d).1.lo,.int .i64 (Znr a d).1.hi],.int .i64 (Znr a d).2])):=by
 have HVa:=Zh (fun w'=>Znl a w')
 have HJ:=Zh (fun w' (hd:1≤d∧d≤8)=>Zni a d w' (by omega))
 have hj:Znr a d=if Zmu a=true∧1≤d∧d≤8 then (Zmr a d,0) else (zR,1):=rfl
 generalize Znr a d=q at hj ⊢
 generalize Zmr a d=jv at hj HJ
 generalize Zmu a=va at hj HVa
 obtain ⟨lo,hi⟩:=a
 obtain ⟨jl,jh⟩:=jv
 dsimp only at HVa HJ
 obtain ⟨w0,hw0⟩:∃ w0,w0=((w.alloc (.cells #[.int .i64 lo,.int .i64 hi] 44)).alloc (.cells #[.int .i64 0,.int .i64 0] 44)):=⟨_,rfl⟩
 have HB:=Zh (show Below w.heap.size w w0 by rw [hw0];exact bE)
 have HP0:=Zh (show Blk w0 (w.heap.size) #[.int .i64 lo,.int .i64 hi] 44 by rw [hw0];exact (Blk.new' (w:=w) #[.int .i64 lo,.int .i64 hi] 44 (by simp)).old bE)
 have HR:=Zh (show Blk w0 (w.heap.size+1) #[.int .i64 0,.int .i64 0] 44 by rw [hw0];exact Blk.new' (w:=(w.alloc (.cells #[.int .i64 lo,.int .i64 hi] 44))) #[.int .i64 0,.int .i64 0] 44 (by simp))
 have HW:=Zh hw0
 clear hw0
 rcases va with _|_
 ·rw [if_neg (by simp)] at hj
  exact j5
 by_cases hd1:d<1
 ·rw [if_neg (by omega)] at hj
  exact j5
 by_cases hd8:d > 8
 ·rw [if_neg (by omega)] at hj
  exact j5
 ·rw [if_pos ⟨rfl,by omega,by omega⟩] at hj
  subst hj
  have hd:1≤d∧d≤8:=by omega
  go_enter Tryz.func31,Tryz.ntmps31
  go_upto_region 1 with fail
  rw [←HW.out]
  have p00:=(HP0.out).cell 0 (v:=.int .i64 lo) rfl
  have p01:=(HP0.out).cell 1 (v:=.int .i64 hi) rfl
  go_wp2_with (first|(go_at_call 80;refine (HJ.out _ hd).mono ?_;rintro e w3 ⟨rfl,hb3⟩;have HB3:=Zh (Zaf HB1.out hb3);clear hb3 p00 p01;have HRx:=Zh (HR.out.old HB3.out);have r0:=HRx.out.cell 0 (v:=.int .i64 0) rfl;have r1:=HRx.out.cell 1 (v:=.int .i64 0) rfl;have f0:=HRx.out.frozen 0;have f1:=HRx.out.frozen 1;have rl:=HRx.out.lt)|(go_at_call 75;refine (HVa.out _).mono ?_;rintro e w1 ⟨rfl,hb1⟩;have HB1:=Zh hb1;clear hb1 p00 p01;have p00:=(HP0.out.old HB1.out).cell 0 (v:=.int .i64 lo) rfl;have p01:=(HP0.out.old HB1.out).cell 1 (v:=.int .i64 hi) rfl))
  have hY:=(HRx.out.set 0 (.int .i64 jl)).set 1 (.int .i64 jh)
  have hB:=ZcW (j:=1) (ZcW (j:=0) (Zaf HB.out HB3.out) (b:=w.heap.size+1) (by omega) (.int .i64 jl)) (b:=w.heap.size+1) (by omega) (.int .i64 jh)
  have HY:=Zh hY
  have HB9:=Zh hB
  clear r0 r1 f0 f1 rl hY hB
  generalize (w3.setCell _ _).setCell _ _=w9 at HY HB9 ⊢
  have y0:=HY.out.cell 0 (v:=.int .i64 jl) rfl
  have y1:=HY.out.cell 1 (v:=.int .i64 jh) rfl
  exact bodyPost_ret (v:=.tuple #[.agg #[.int .i64 jl,.int .i64 jh],.int .i64 0]) (by simp [results,Tryz.results31,go_sem,y0,y1]) rfl ⟨rfl,HB9.out⟩
theorem Znw (a b:Rg) (w:World):Calls Tryz.prog 24 #[.agg #[.int .i64 a.lo,.int .i64 a.hi],.agg #[.int .i64 b.lo,.int .i64 b.hi]] w (Ret w (.tuple #[.bool (Znq a b).1,.int .i64 (Znq a b).2])):=by
 have HVa:=Zh (fun w'=>Znj a w')
 have HVb:=Zh (fun w'=>Znj b w')
 have HJ:=Zh (fun w' (_:Zmu a=true) (_:Zmu b=true)=>Zmy a b w')
 have hj:Znq a b=if (Zmu a&&Zmu b)=true then (Zms a b,0) else (false,1):=rfl
 generalize Znq a b=q at hj ⊢
 generalize Zms a b=jv at hj HJ
 generalize Zmu a=va at hj HVa HJ
 generalize Zmu b=vb at hj HVb HJ
 obtain ⟨lo,hi⟩:=a
 obtain ⟨lo2,hi2⟩:=b
 dsimp only at HVa HVb HJ
 obtain ⟨w0,hw0⟩:∃ w0,w0=((w.alloc (.cells #[.int .i64 lo,.int .i64 hi] 44)).alloc (.cells #[.int .i64 lo2,.int .i64 hi2] 44)):=⟨_,rfl⟩
 have HB:=Zh (show Below w.heap.size w w0 by rw [hw0];exact bE)
 have HP0:=Zh (show Blk w0 (w.heap.size) #[.int .i64 lo,.int .i64 hi] 44 by rw [hw0];exact (Blk.new' (w:=w) #[.int .i64 lo,.int .i64 hi] 44 (by simp)).old bE)
 have HP1:=Zh (show Blk w0 (w.heap.size+1) #[.int .i64 lo2,.int .i64 hi2] 44 by rw [hw0];exact (Blk.new' (w:=(w.alloc (.cells #[.int .i64 lo,.int .i64 hi] 44))) #[.int .i64 lo2,.int .i64 hi2] 44 (by simp)).old bE)
 have HW:=Zh hw0
 clear hw0
 rcases va with _|_
 ·rw [if_neg (by simp)] at hj
  subst hj
  clear HJ
  go_enter Tryz.func24,Tryz.ntmps24
  go_upto_region 1 with fail
  rw [←HW.out]
  have p00:=(HP0.out).cell 0 (v:=.int .i64 lo) rfl
  have p01:=(HP0.out).cell 1 (v:=.int .i64 hi) rfl
  have p10:=(HP1.out).cell 0 (v:=.int .i64 lo2) rfl
  have p11:=(HP1.out).cell 1 (v:=.int .i64 hi2) rfl
  go_wp2_with (go_at_call 73;refine (HVa.out _).mono ?_;rintro e w1 ⟨rfl,hb1⟩;have HB1:=Zh hb1;clear hb1 p00 p01 p10 p11;have p00:=(HP0.out.old HB1.out).cell 0 (v:=.int .i64 lo) rfl;have p01:=(HP0.out.old HB1.out).cell 1 (v:=.int .i64 hi) rfl;have p10:=(HP1.out.old HB1.out).cell 0 (v:=.int .i64 lo2) rfl;have p11:=(HP1.out.old HB1.out).cell 1 (v:=.int .i64 hi2) rfl)
  go_ret2
  exact ⟨rfl,Zaf HB.out HB1.out⟩
 rcases vb with _|_
 ·rw [if_neg (by simp)] at hj
  subst hj
  clear HJ
  go_enter Tryz.func24,Tryz.ntmps24
  go_upto_region 1 with fail
  rw [←HW.out]
  have p00:=(HP0.out).cell 0 (v:=.int .i64 lo) rfl
  have p01:=(HP0.out).cell 1 (v:=.int .i64 hi) rfl
  have p10:=(HP1.out).cell 0 (v:=.int .i64 lo2) rfl
  have p11:=(HP1.out).cell 1 (v:=.int .i64 hi2) rfl
  go_wp2_with (first|(go_at_call 73;refine (HVb.out w1).mono ?_;rintro e w2 ⟨rfl,hb2⟩;have HB2:=Zh (Zaf HB1.out hb2);clear hb2 p00 p01 p10 p11;have p00:=(HP0.out.old HB2.out).cell 0 (v:=.int .i64 lo) rfl;have p01:=(HP0.out.old HB2.out).cell 1 (v:=.int .i64 hi) rfl;have p10:=(HP1.out.old HB2.out).cell 0 (v:=.int .i64 lo2) rfl;have p11:=(HP1.out.old HB2.out).cell 1 (v:=.int .i64 hi2) rfl)|(go_at_call 73;refine (HVa.out _).mono ?_;rintro e w1 ⟨rfl,hb1⟩;have HB1:=Zh hb1;clear hb1 p00 p01 p10 p11;have p00:=(HP0.out.old HB1.out).cell 0 (v:=.int .i64 lo) rfl;have p01:=(HP0.out.old HB1.out).cell 1 (v:=.int .i64 hi) rfl;have p10:=(HP1.out.old HB1.out).cell 0 (v:=.int .i64 lo2) rfl;have p11:=(HP1.out.old HB1.out).cell 1 (v:=.int .i64 hi2) rfl))
  go_ret2
  exact ⟨rfl,Zaf HB.out HB2.out⟩
 ·rw [if_pos (by simp)] at hj
  subst hj
  go_enter Tryz.func24,Tryz.ntmps24
  go_upto_region 1 with fail
  rw [←HW.out]
  have p00:=(HP0.out).cell 0 (v:=.int .i64 lo) rfl
  have p01:=(HP0.out).cell 1 (v:=.int .i64 hi) rfl
  have p10:=(HP1.out).cell 0 (v:=.int .i64 lo2) rfl
  have p11:=(HP1.out).cell 1 (v:=.int .i64 hi2) rfl
  go_wp2_with (first|(go_at_call 74;refine (HJ.out _ (by trivial) (by trivial)).mono ?_;rintro e w3 ⟨rfl,hb3⟩;have HB3:=Zh (Zaf HB2.out hb3);clear hb3 p00 p01 p10 p11)|(go_at_call 73;refine (HVb.out w1).mono ?_;rintro e w2 ⟨rfl,hb2⟩;have HB2:=Zh (Zaf HB1.out hb2);clear hb2 p00 p01 p10 p11;have p00:=(HP0.out.old HB2.out).cell 0 (v:=.int .i64 lo) rfl;have p01:=(HP0.out.old HB2.out).cell 1 (v:=.int .i64 hi) rfl;have p10:=(HP1.out.old HB2.out).cell 0 (v:=.int .i64 lo2) rfl;have p11:=(HP1.out.old HB2.out).cell 1 (v:=.int .i64 hi2) rfl)|(go_at_call 73;refine (HVa.out _).mono ?_;rintro e w1 ⟨rfl,hb1⟩;have HB1:=Zh hb1;clear hb1 p00 p01 p10 p11;have p00:=(HP0.out.old HB1.out).cell 0 (v:=.int .i64 lo) rfl;have p01:=(HP0.out.old HB1.out).cell 1 (v:=.int .i64 hi) rfl;have p10:=(HP1.out.old HB1.out).cell 0 (v:=.int .i64 lo2) rfl;have p11:=(HP1.out.old HB1.out).cell 1 (v:=.int .i64 hi2) rfl))
  go_ret2
  exact ⟨rfl,Zaf HB.out HB3.out⟩
theorem Znx (a b:Rg) (w:World):Calls Tryz.prog 25 #[.agg #[.int .i64 a.lo,.int .i64 a.hi],.agg #[.int .i64 b.lo,.int .i64 b.hi]] w (Ret w (.tuple #[.bool (Znq a b).1,.int .i64 (Znq a b).2])):=by
 have HVa:=Zh (fun w'=>Znl a w')
 have HVb:=Zh (fun w'=>Znl b w')
 have HJ:=Zh (fun w' (h1:Zmu a=true) (h2:Zmu b=true)=>Znn a b w' h1 h2)
 have hj:Znq a b=if (Zmu a&&Zmu b)=true then (Zms a b,0) else (false,1):=rfl
 generalize Znq a b=q at hj ⊢
 generalize Zms a b=jv at hj HJ
 generalize Zmu a=va at hj HVa HJ
 generalize Zmu b=vb at hj HVb HJ
 obtain ⟨lo,hi⟩:=a
 obtain ⟨lo2,hi2⟩:=b
 dsimp only at HVa HVb HJ
 obtain ⟨w0,hw0⟩:∃ w0,w0=((w.alloc (.cells #[.int .i64 lo,.int .i64 hi] 44)).alloc (.cells #[.int .i64 lo2,.int .i64 hi2] 44)):=⟨_,rfl⟩
 have HB:=Zh (show Below w.heap.size w w0 by rw [hw0];exact bE)
 have HP0:=Zh (show Blk w0 (w.heap.size) #[.int .i64 lo,.int .i64 hi] 44 by rw [hw0];exact (Blk.new' (w:=w) #[.int .i64 lo,.int .i64 hi] 44 (by simp)).old bE)
 have HP1:=Zh (show Blk w0 (w.heap.size+1) #[.int .i64 lo2,.int .i64 hi2] 44 by rw [hw0];exact (Blk.new' (w:=(w.alloc (.cells #[.int .i64 lo,.int .i64 hi] 44))) #[.int .i64 lo2,.int .i64 hi2] 44 (by simp)).old bE)
 have HW:=Zh hw0
 clear hw0
 rcases va with _|_
 ·rw [if_neg (by simp)] at hj
  subst hj
  clear HJ
  go_enter Tryz.func25,Tryz.ntmps25
  go_upto_region 1 with fail
  rw [←HW.out]
  have p00:=(HP0.out).cell 0 (v:=.int .i64 lo) rfl
  have p01:=(HP0.out).cell 1 (v:=.int .i64 hi) rfl
  have p10:=(HP1.out).cell 0 (v:=.int .i64 lo2) rfl
  have p11:=(HP1.out).cell 1 (v:=.int .i64 hi2) rfl
  go_wp2_with (go_at_call 75;refine (HVa.out _).mono ?_;rintro e w1 ⟨rfl,hb1⟩;have HB1:=Zh hb1;clear hb1 p00 p01 p10 p11;have p00:=(HP0.out.old HB1.out).cell 0 (v:=.int .i64 lo) rfl;have p01:=(HP0.out.old HB1.out).cell 1 (v:=.int .i64 hi) rfl;have p10:=(HP1.out.old HB1.out).cell 0 (v:=.int .i64 lo2) rfl;have p11:=(HP1.out.old HB1.out).cell 1 (v:=.int .i64 hi2) rfl)
  go_ret2
  exact ⟨rfl,Zaf HB.out HB1.out⟩
 rcases vb with _|_
 ·rw [if_neg (by simp)] at hj
  subst hj
  clear HJ
  go_enter Tryz.func25,Tryz.ntmps25
  go_upto_region 1 with fail
  rw [←HW.out]
  have p00:=(HP0.out).cell 0 (v:=.int .i64 lo) rfl
  have p01:=(HP0.out).cell 1 (v:=.int .i64 hi) rfl
  have p10:=(HP1.out).cell 0 (v:=.int .i64 lo2) rfl
  have p11:=(HP1.out).cell 1 (v:=.int .i64 hi2) rfl
  go_wp2_with (first|(go_at_call 75;refine (HVb.out w1).mono ?_;rintro e w2 ⟨rfl,hb2⟩;have HB2:=Zh (Zaf HB1.out hb2);clear hb2 p00 p01 p10 p11;have p00:=(HP0.out.old HB2.out).cell 0 (v:=.int .i64 lo) rfl;have p01:=(HP0.out.old HB2.out).cell 1 (v:=.int .i64 hi) rfl;have p10:=(HP1.out.old HB2.out).cell 0 (v:=.int .i64 lo2) rfl;have p11:=(HP1.out.old HB2.out).cell 1 (v:=.int .i64 hi2) rfl)|(go_at_call 75;refine (HVa.out _).mono ?_;rintro e w1 ⟨rfl,hb1⟩;have HB1:=Zh hb1;clear hb1 p00 p01 p10 p11;have p00:=(HP0.out.old HB1.out).cell 0 (v:=.int .i64 lo) rfl;have p01:=(HP0.out.old HB1.out).cell 1 (v:=.int .i64 hi) rfl;have p10:=(HP1.out.old HB1.out).cell 0 (v:=.int .i64 lo2) rfl;have p11:=(HP1.out.old HB1.out).cell 1 (v:=.int .i64 hi2) rfl))
  go_ret2
  exact ⟨rfl,Zaf HB.out HB2.out⟩
 ·rw [if_pos (by simp)] at hj
  subst hj
  go_enter Tryz.func25,Tryz.ntmps25
  go_upto_region 1 with fail
  rw [←HW.out]
  have p00:=(HP0.out).cell 0 (v:=.int .i64 lo) rfl
  have p01:=(HP0.out).cell 1 (v:=.int .i64 hi) rfl
  have p10:=(HP1.out).cell 0 (v:=.int .i64 lo2) rfl
  have p11:=(HP1.out).cell 1 (v:=.int .i64 hi2) rfl
  go_wp2_with (first|(go_at_call 76;refine (HJ.out _ (by trivial) (by trivial)).mono ?_;rintro e w3 ⟨rfl,hb3⟩;have HB3:=Zh (Zaf HB2.out hb3);clear hb3 p00 p01 p10 p11)|(go_at_call 75;refine (HVb.out w1).mono ?_;rintro e w2 ⟨rfl,hb2⟩;have HB2:=Zh (Zaf HB1.out hb2);clear hb2 p00 p01 p10 p11;have p00:=(HP0.out.old HB2.out).cell 0 (v:=.int .i64 lo) rfl;have p01:=(HP0.out.old HB2.out).cell 1 (v:=.int .i64 hi) rfl;have p10:=(HP1.out.old HB2.out).cell 0 (v:=.int .i64 lo2) rfl;have p11:=(HP1.out.old HB2.out).cell 1 (v:=.int .i64 hi2) rfl)|(go_at_call 75;refine (HVa.out _).mono ?_;rintro e w1 ⟨rfl,hb1⟩;have HB1:=Zh hb1;clear hb1 p00 p01 p10 p11;have p00:=(HP0.out.old HB1.out).cell 0 (v:=.int .i64 lo) rfl;have p01:=(HP0.out.old HB1.out).cell 1 (v:=.int .i64 hi) rfl;have p10:=(HP1.out.old HB1.out).cell 0 (v:=.int .i64 lo2) rfl;have p11:=(HP1.out.old HB1.out).cell 1 (v:=.int .i64 hi2) rfl))
  go_ret2
  exact ⟨rfl,Zaf HB.out HB3.out⟩
end
end Go.Proofs.YtcfjblcgceednaaGreat
