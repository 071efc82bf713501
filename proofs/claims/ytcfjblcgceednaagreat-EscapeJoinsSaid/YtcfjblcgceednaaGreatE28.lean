/- Joined texts. The first: The reference's calls. -/
import Derived.Test.YtcfjblcgceednaaGreatE26
set_option linter.all false
set_option linter.unusedVariables false
set_option linter.unusedSimpArgs false
set_option maxRecDepth 100000
set_option maxHeartbeats 8000000
namespace Go.Proofs.YtcfjblcgceednaaGreat
theorem j9{p:Prop}(h:p:=by
 repeat refine pO ?_
 refine oO fun Kv hK=>?_
 go_simp
 refine (Zmz lo _).mono ?_
 rintro e w2 ⟨rfl,hb2⟩
 rw [e1]
 have HB1:=Zh (Zaf HB1.out hb2)
 have HC1:=Zh (Cs.keeps (ZmV.of hb2) HC1.out)
 refine hK _ _ ⟨HC1.out,?_⟩
 clear hK Kv hb2
 repeat refine pO ?_
 refine oO fun Kv hK=>?_
 go_simp
 refine (Zmz hi _).mono ?_
 rintro e w2 ⟨rfl,hb2⟩
 rw [e2]
 have HB1:=Zh (Zaf HB1.out hb2)
 have HC1:=Zh (Cs.keeps (ZmV.of hb2) HC1.out)
 refine hK _ _ ⟨HC1.out,?_⟩
 clear hK Kv hb2
 repeat refine pO ?_
 refine Zd5 ?_
 go_wp2
 go_ret
 refine ZcT (ZcX ?_) HB1.out
 rw [HV.out]
 unfold Zmu Zmp
 rw [e1,e2]
 simp at hq ⊢
 first|exact hq|grind):p:=h
section
open Go.RowKit
attribute [local go_sem] World.cell?_alloc_some
end
section
open Go.RowKit
attribute [local go_sem] World.cell?_alloc_some
theorem Znd (lo hi d:Int) (w:World) (h:lo ≥ d):Calls Tryz.prog 79 #[.agg #[.int .i64 lo,.int .i64 hi],.int .i64 d] w (Ret w (.agg #[.int .i64 9,.int .i64 (-9)])):=by
 obtain ⟨w0,hw0⟩:∃ w0,w0=((w.alloc (.cells #[.int .i64 lo,.int .i64 hi] 44)).alloc (.cells #[.int .i64 0,.int .i64 0] 44)):=⟨_,rfl⟩
 have HB:=Zh (show Below w.heap.size w w0 by rw [hw0];exact bE)
 have HP0:=Zh (show Blk w0 (w.heap.size) #[.int .i64 lo,.int .i64 hi] 44 by rw [hw0];exact (Blk.new' (w:=w) #[.int .i64 lo,.int .i64 hi] 44 (by simp)).old bE)
 have HR:=Zh (show Blk w0 (w.heap.size+1) #[.int .i64 0,.int .i64 0] 44 by rw [hw0];exact Blk.new' (w:=(w.alloc (.cells #[.int .i64 lo,.int .i64 hi] 44))) #[.int .i64 0,.int .i64 0] 44 (by simp))
 have HW:=Zh hw0
 clear hw0
 go_enter Tryz.func79,Tryz.ntmps79
 go_upto_region 1 with fail
 rw [←HW.out]
 have p00:=(HP0.out).cell 0 (v:=.int .i64 lo) rfl
 have p01:=(HP0.out).cell 1 (v:=.int .i64 hi) rfl
 go_upto_region 3 with (go_at_call 128;refine (Zmv _).mono ?_;rintro e w2 ⟨rfl,hb2⟩;have HRx:=Zh (HR.out.old hb2);have HB2:=Zh (Zaf HB.out hb2);clear hb2 p00 p01;have r0:=HRx.out.cell 0 (v:=.int .i64 0) rfl;have r1:=HRx.out.cell 1 (v:=.int .i64 0) rfl;have f0:=HRx.out.frozen 0;have f1:=HRx.out.frozen 1;have rl:=HRx.out.lt)
 have hY:=(HRx.out.set 0 (.int .i64 9)).set 1 (.int .i64 (-9))
 have hB:=ZcW (j:=1) (ZcW (j:=0) HB2.out (b:=w.heap.size+1) (by omega) (.int .i64 9)) (b:=w.heap.size+1) (by omega) (.int .i64 (-9))
 have HY:=Zh hY
 have HB9:=Zh hB
 clear r0 r1 f0 f1 rl hY hB
 generalize (w2.setCell _ _).setCell _ _=w9 at HY HB9 ⊢
 have y0:=HY.out.cell 0 (v:=.int .i64 9) rfl
 have y1:=HY.out.cell 1 (v:=.int .i64 (-9)) rfl
 exact bodyPost_ret (v:=.agg #[.int .i64 9,.int .i64 (-9)]) (by simp [results,Tryz.results79,go_sem,y0,y1]) rfl ⟨rfl,HB9.out⟩
theorem Zne (lo hi d:Int) (w:World) (h:lo ≥ d):Calls Tryz.prog 80 #[.agg #[.int .i64 lo,.int .i64 hi],.int .i64 d] w (Ret w (.agg #[.int .i64 9,.int .i64 (-9)])):=by
 obtain ⟨w0,hw0⟩:∃ w0,w0=((w.alloc (.cells #[.int .i64 lo,.int .i64 hi] 44)).alloc (.cells #[.int .i64 0,.int .i64 0] 44)):=⟨_,rfl⟩
 have HB:=Zh (show Below w.heap.size w w0 by rw [hw0];exact bE)
 have HP0:=Zh (show Blk w0 (w.heap.size) #[.int .i64 lo,.int .i64 hi] 44 by rw [hw0];exact (Blk.new' (w:=w) #[.int .i64 lo,.int .i64 hi] 44 (by simp)).old bE)
 have HR:=Zh (show Blk w0 (w.heap.size+1) #[.int .i64 0,.int .i64 0] 44 by rw [hw0];exact Blk.new' (w:=(w.alloc (.cells #[.int .i64 lo,.int .i64 hi] 44))) #[.int .i64 0,.int .i64 0] 44 (by simp))
 have HW:=Zh hw0
 clear hw0
 have heq:=eq2
 go_enter Tryz.func80,Tryz.ntmps80
 go_upto_region 1 with fail
 rw [←HW.out]
 have p00:=(HP0.out).cell 0 (v:=.int .i64 lo) rfl
 have p01:=(HP0.out).cell 1 (v:=.int .i64 hi) rfl
 refine rO (Cs [(⟨w.heap.size,0,none⟩,.int .i64 lo),(⟨w.heap.size,1,none⟩,.int .i64 hi)]) (oL [0,101,2,3,4,5,6,7,8]) ⟨p00,p01,trivial⟩ ?_
 repeat refine pO ?_
 refine oO fun Kv hK=>?_
 go_simp
 refine (Zmw _).mono ?_
 rintro e w1 ⟨rfl,hb1⟩
 have HR1:=Zh (HR.out.drew.old hb1)
 have HB1:=Zh (Zaf HB.out.drew hb1)
 have HC1:=Zh (Cs.keeps (ZmV.of hb1) (show Cs [(⟨w.heap.size,0,none⟩,.int .i64 lo),(⟨w.heap.size,1,none⟩,.int .i64 hi)] w0.drew from ⟨p00,p01,trivial⟩))
 refine hK _ _ ⟨HC1.out,?_⟩
 clear hK Kv hb1 p00 p01
 have hq:(lo == 9&&hi == -9)=true∨(lo == 9&&hi == -9)=false:=by cases (lo == 9&&hi == -9)<;>simp
 rcases hq with hq|hq
 all_goals
  repeat refine pO ?_
  refine Zd5 ?_
  go_upto_region 3 with (go_at_call 30;refine (Zmw _).mono ?_;rintro e w2 ⟨rfl,hb2⟩;have HRx:=Zh (HR1.out.old hb2);have HB2:=Zh (Zaf HB1.out hb2);clear hb2;have r0:=HRx.out.cell 0 (v:=.int .i64 0) rfl;have r1:=HRx.out.cell 1 (v:=.int .i64 0) rfl;have f0:=HRx.out.frozen 0;have f1:=HRx.out.frozen 1;have rl:=HRx.out.lt)
  have hY:=(HRx.out.set 0 (.int .i64 9)).set 1 (.int .i64 (-9))
  have hB:=ZcW (j:=1) (ZcW (j:=0) HB2.out (b:=w.heap.size+1) (by omega) (.int .i64 9)) (b:=w.heap.size+1) (by omega) (.int .i64 (-9))
  have HY:=Zh hY
  have HB9:=Zh hB
  clear r0 r1 f0 f1 rl hY hB
  generalize (w2.setCell _ _).setCell _ _=w9 at HY HB9 ⊢
  have y0:=HY.out.cell 0 (v:=.int .i64 9) rfl
  have y1:=HY.out.cell 1 (v:=.int .i64 (-9)) rfl
  exact bodyPost_ret (v:=.agg #[.int .i64 9,.int .i64 (-9)]) (by simp [results,Tryz.results80,go_sem,y0,y1]) rfl ⟨rfl,HB9.out⟩
theorem Znf (lo hi d:Int) (w:World) (h:¬ lo ≥ d) (hd:-1000≤d∧d≤1000):Calls Tryz.prog 79 #[.agg #[.int .i64 lo,.int .i64 hi],.int .i64 d] w (Ret w (.agg #[.int .i64 lo,.int .i64 (min hi (d-1))])):=by
 have hwd:IntKind.i64.wrap (d-1)=d-1:=IntWalk.i64_in _ (by omega)
 go_enter Tryz.func79,Tryz.ntmps79
 go_wp2
 all_goals
  refine bodyPost_ret (v:=.agg #[.int .i64 lo,.int .i64 (min hi (d-1))]) ?_ rfl ⟨rfl,by exact bE⟩
  simp [results,Tryz.results79,go_sem]
  try omega
theorem Zng (lo hi d:Int) (w:World) (h:¬ lo ≥ d) (hd:-1000≤d∧d≤1000) (h9:(lo == 9&&hi == -9)=false):Calls Tryz.prog 80 #[.agg #[.int .i64 lo,.int .i64 hi],.int .i64 d] w (Ret w (.agg #[.int .i64 lo,.int .i64 (min hi (d-1))])):=by
 have hwd:IntKind.i64.wrap (d-1)=d-1:=IntWalk.i64_in _ (by omega)
 obtain ⟨w0,hw0⟩:∃ w0,w0=((w.alloc (.cells #[.int .i64 lo,.int .i64 hi] 44)).alloc (.cells #[.int .i64 0,.int .i64 0] 44)):=⟨_,rfl⟩
 have HB:=Zh (show Below w.heap.size w w0 by rw [hw0];exact bE)
 have HP0:=Zh (show Blk w0 (w.heap.size) #[.int .i64 lo,.int .i64 hi] 44 by rw [hw0];exact (Blk.new' (w:=w) #[.int .i64 lo,.int .i64 hi] 44 (by simp)).old bE)
 have HR:=Zh (show Blk w0 (w.heap.size+1) #[.int .i64 0,.int .i64 0] 44 by rw [hw0];exact Blk.new' (w:=(w.alloc (.cells #[.int .i64 lo,.int .i64 hi] 44))) #[.int .i64 0,.int .i64 0] 44 (by simp))
 have HW:=Zh hw0
 clear hw0
 have heq:=eq2
 go_enter Tryz.func80,Tryz.ntmps80
 go_upto_region 1 with fail
 rw [←HW.out]
 have p00:=(HP0.out).cell 0 (v:=.int .i64 lo) rfl
 have p01:=(HP0.out).cell 1 (v:=.int .i64 hi) rfl
 refine rO (Cs [(⟨w.heap.size,0,none⟩,.int .i64 lo),(⟨w.heap.size,1,none⟩,.int .i64 hi)]) (oL [0,101,2,3,4,5,6,7,8]) ⟨p00,p01,trivial⟩ ?_
 repeat refine pO ?_
 refine oO fun Kv hK=>?_
 go_simp
 refine (Zmw _).mono ?_
 rintro e w1 ⟨rfl,hb1⟩
 have HR1:=Zh (HR.out.drew.old hb1)
 have HB1:=Zh (Zaf HB.out.drew hb1)
 have HC1:=Zh (Cs.keeps (ZmV.of hb1) (show Cs [(⟨w.heap.size,0,none⟩,.int .i64 lo),(⟨w.heap.size,1,none⟩,.int .i64 hi)] w0.drew from ⟨p00,p01,trivial⟩))
 refine hK _ _ ⟨HC1.out,?_⟩
 clear hK Kv hb1 p00 p01
 repeat refine pO ?_
 refine Zd5 ?_
 obtain ⟨q0,q1,-⟩:=HC1.out
 have r0:=HR1.out.cell 0 (v:=.int .i64 0) rfl
 have r1:=HR1.out.cell 1 (v:=.int .i64 0) rfl
 have f0:=HR1.out.frozen 0
 have f1:=HR1.out.frozen 1
 have rl:=HR1.out.lt
 by_cases hm:hi≤d-1
 ·rw [Int.min_eq_left hm]
  go_wp2
  have hY:=(HR1.out.set 0 (.int .i64 lo)).set 1 (.int .i64 hi)
  have hB:=ZcW (j:=1) (ZcW (j:=0) HB1.out (b:=w.heap.size+1) (by omega) (.int .i64 lo)) (b:=w.heap.size+1) (by omega) (.int .i64 hi)
  have y0:=hY.cell 0 (v:=.int .i64 lo) rfl
  have y1:=hY.cell 1 (v:=.int .i64 hi) rfl
  have HB9:=Zh hB
  clear hY hB r0 r1 f0 f1 rl q0 q1
  first|rw [Int.min_eq_left hm]|skip
  generalize (w1.setCell _ _).setCell _ _=w9 at y0 y1 HB9 ⊢
  exact bodyPost_ret (v:=.agg #[.int .i64 lo,.int .i64 hi]) (by simp [results,Tryz.results80,go_sem,y0,y1]) rfl ⟨rfl,HB9.out⟩
 ·rw [Int.min_eq_right (by omega)]
  go_wp2
  have hY:=(HR1.out.set 0 (.int .i64 lo)).set 1 (.int .i64 (d-1))
  have hB:=ZcW (j:=1) (ZcW (j:=0) HB1.out (b:=w.heap.size+1) (by omega) (.int .i64 lo)) (b:=w.heap.size+1) (by omega) (.int .i64 (d-1))
  have y0:=hY.cell 0 (v:=.int .i64 lo) rfl
  have y1:=hY.cell 1 (v:=.int .i64 (d-1)) rfl
  have HB9:=Zh hB
  clear hY hB r0 r1 f0 f1 rl q0 q1
  first|rw [Int.min_eq_right (by omega)]|skip
  generalize (w1.setCell _ _).setCell _ _=w9 at y0 y1 HB9 ⊢
  exact bodyPost_ret (v:=.agg #[.int .i64 lo,.int .i64 (d-1)]) (by simp [results,Tryz.results80,go_sem,y0,y1]) rfl ⟨rfl,HB9.out⟩
theorem Znh (a:Rg) (d:Int) (w:World) (hd:-1000≤d∧d≤1000):Calls Tryz.prog 79 #[.agg #[.int .i64 a.lo,.int .i64 a.hi],.int .i64 d] w (Ret w (.agg #[.int .i64 (Zmr a d).lo,.int .i64 (Zmr a d).hi])):=by
 obtain ⟨lo,hi⟩:=a
 by_cases h:lo ≥ d
 ·rw [show Zmr ⟨lo,hi⟩ d=Zmp from if_pos h];exact Znd lo hi d w h
 ·rw [show Zmr ⟨lo,hi⟩ d=⟨lo,min hi (d-1)⟩ from if_neg h];exact Znf lo hi d w h hd
theorem Zni (a:Rg) (d:Int) (w:World) (hd:-1000≤d∧d≤9):Calls Tryz.prog 80 #[.agg #[.int .i64 a.lo,.int .i64 a.hi],.int .i64 d] w (Ret w (.agg #[.int .i64 (Zmr a d).lo,.int .i64 (Zmr a d).hi])):=by
 obtain ⟨lo,hi⟩:=a
 by_cases h:lo ≥ d
 ·rw [show Zmr ⟨lo,hi⟩ d=Zmp from if_pos h];exact Zne lo hi d w h
 ·rw [show Zmr ⟨lo,hi⟩ d=⟨lo,min hi (d-1)⟩ from if_neg h];exact Zng lo hi d w h (by omega) (by
   have:¬ lo=9:=by omega
   simp [this])
end
section
open Go.RowKit
attribute [local go_sem] World.cell?_alloc_some
theorem Znj (a:Rg) (w:World):Calls Tryz.prog 73 #[.agg #[.int .i64 a.lo,.int .i64 a.hi]] w (Ret w (.bool (Zmu a))):=by
 obtain ⟨lo,hi⟩:=a
 dsimp only
 obtain ⟨b,hb⟩:∃ b,b=Zmu ⟨lo,hi⟩:=⟨_,rfl⟩
 rw [←hb]
 have HV:=Zh hb
 clear hb
 obtain ⟨w0,hw0⟩:∃ w0,w0=(w.alloc (.cells #[.int .i64 lo,.int .i64 hi] 44)):=⟨_,rfl⟩
 have HB:=Zh (show Below w.heap.size w w0 by rw [hw0];exact bE)
 have HP0:=Zh (show Blk w0 (w.heap.size) #[.int .i64 lo,.int .i64 hi] 44 by rw [hw0];exact (Blk.new' (w:=w) #[.int .i64 lo,.int .i64 hi] 44 (by simp)).old bE)
 have HW:=Zh hw0
 clear hw0
 have heq:=eq2
 go_enter Tryz.func73,Tryz.ntmps73
 go_upto_region 2 with fail
 rw [←HW.out]
 have p00:=(HP0.out).cell 0 (v:=.int .i64 lo) rfl
 have p01:=(HP0.out).cell 1 (v:=.int .i64 hi) rfl
 refine rO (Cs [(⟨w.heap.size,0,none⟩,.int .i64 lo),(⟨w.heap.size,1,none⟩,.int .i64 hi)]) (oL [0,101,2,3,4,5,6,107,8,9,10,11,112,13,14,15,16,17,18,19,20,21,22]) ⟨p00,p01,trivial⟩ ?_
 repeat refine pO ?_
 refine oO fun Kv hK=>?_
 go_simp
 refine (Zmv _).mono ?_
 rintro e w1 ⟨rfl,hb1⟩
 have HB1:=Zh (Zaf HB.out.drew hb1)
 have HC1:=Zh (Cs.keeps (ZmV.of hb1) (show Cs [(⟨w.heap.size,0,none⟩,.int .i64 lo),(⟨w.heap.size,1,none⟩,.int .i64 hi)] w0.drew from ⟨p00,p01,trivial⟩))
 refine hK _ _ ⟨HC1.out,?_⟩
 clear hK Kv hb1 p00 p01
 have hq:(lo == 9&&hi == -9)=true∨(lo == 9&&hi == -9)=false:=by cases (lo == 9&&hi == -9)<;>simp
 rcases hq with hq|hq
 ·repeat refine pO ?_
  refine Zd3 ?_
  refine Zh0 11 (by rfl) ?_
  refine ⟨HC1.out,?_⟩
  simp only [List.setIfInBounds_toArray,List.set_cons_zero,List.set_cons_succ]
  repeat refine pO ?_
  refine Zd3 ?_
  refine Zh0 16 (by rfl) ?_
  refine ⟨HC1.out,?_⟩
  simp only [List.setIfInBounds_toArray,List.set_cons_zero,List.set_cons_succ]
  repeat refine pO ?_
  refine Zd5 ?_
  go_wp2
  go_ret
  refine ZcT (ZcX ?_) HB1.out
  have hv:=HV.out
  simp at hq
  obtain ⟨rfl,rfl⟩:=hq
  rw [hv];rfl
 rcases e1:Zmt lo with _|_
 ·repeat refine pO ?_
  refine oO fun Kv hK=>?_
  go_simp
  refine (Zmz lo _).mono ?_
  rintro e w2 ⟨rfl,hb2⟩
  rw [e1]
  have HB1:=Zh (Zaf HB1.out hb2)
  have HC1:=Zh (Cs.keeps (ZmV.of hb2) HC1.out)
  refine hK _ _ ⟨HC1.out,?_⟩
  clear hK Kv hb2
  repeat refine pO ?_
  refine Zd3 ?_
  refine Zh0 16 (by rfl) ?_
  refine ⟨HC1.out,?_⟩
  simp only [List.setIfInBounds_toArray,List.set_cons_zero,List.set_cons_succ]
  repeat refine pO ?_
  refine Zd5 ?_
  go_wp2
  go_ret
  refine ZcT (ZcX ?_) HB1.out
  rw [HV.out]
  unfold Zmu Zmp
  rw [e1]
  simp at hq ⊢
  first|exact hq|grind
 rcases e2:Zmt hi with _|_
 ·exact j9
 ·exact j9
end
end Go.Proofs.YtcfjblcgceednaaGreat
