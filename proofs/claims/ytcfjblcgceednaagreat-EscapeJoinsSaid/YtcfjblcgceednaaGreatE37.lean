/- isochronlaw16.EscapeJoins. -/
import Derived.Test.YtcfjblcgceednaaGreatE36
set_option linter.all false
set_option linter.unusedVariables false
set_option linter.unusedSimpArgs false
set_option maxRecDepth 100000
set_option maxHeartbeats 16000000
namespace Go.Proofs.YtcfjblcgceednaaGreat
theorem j1{p:Prop}(h:p:=by
 have e2:=fun w=>eq2 zl zh 9 (-9) w
 clear ca0 ca1 cb0 cb1 cc0 cc1 cx0 cx1 cy0 cy1 cu0 cu1 cv0 cv1 cz0 cz1
 refine rO (Cs [(⟨S,0,none⟩,.int .i64 al),(⟨S,1,none⟩,.int .i64 ah),(⟨Dz,0,none⟩,.int .i64 zl),(⟨Dz,1,none⟩,.int .i64 zh)]) (oL [0,1,2,3,4,105,6,7,8,9,110,11,12]) HC.out ?_
 by_cases hz:ze=0
 ·subst hz
  repeat refine pO ?_
  refine oO fun Kv hK=>?_
  go_simp
  refine (H11.out _).mono ?_
  rintro e wf ⟨rfl,hbf⟩
  have HCf:=Zh (Cs.keeps (ZmV.of hbf) HC.out)
  have HBf:=Zh (Zaf HBd.out hbf)
  refine hK _ _ ⟨HCf.out,?_⟩
  clear hK Kv hbf
  rcases b5 with _|_
  ·have hn:=(HAf.out rfl).resolve_left (by decide)
   cases hn
   repeat refine pO ?_
   refine oO fun Kv hK=>?_
   go_simp
   refine (Zmw _).mono ?_
   rintro e wg ⟨rfl,hbg⟩
   have HCg:=Zh (Cs.keeps (ZmV.of hbg) HCf.out)
   have HBg:=Zh (Zaf HBf.out hbg)
   refine hK _ _ ⟨HCg.out,?_⟩
   clear hK Kv hbg
   repeat refine pO ?_
   refine Zd5 ?_
   go_wp2_with (go_at_call 23;refine (Zok _).mono ?_;rintro e wz ⟨rfl,hbz⟩)
   go_ret
   exact ⟨by trivial,Zaf HBg.out hbz⟩
  ·repeat refine pO ?_
   refine Zd3 ?_
   refine Zh0 119 (by rfl) ?_
   refine ⟨HCf.out,?_⟩
   simp only [List.setIfInBounds_toArray,List.set_cons_zero,List.set_cons_succ]
   repeat refine pO ?_
   refine Zd5 ?_
   go_wp2_with (go_at_call 23;refine (Zok _).mono ?_;rintro e wz ⟨rfl,hbz⟩)
   go_ret
   exact ⟨by trivial,Zaf HBf.out hbz⟩
 ·have hzb:(ze == 0)=false:=by simpa using hz
  repeat refine pO ?_
  refine Zd3 ?_
  refine Zh0 114 (by rfl) ?_
  refine ⟨HC.out,?_⟩
  simp only [List.setIfInBounds_toArray,List.set_cons_zero,List.set_cons_succ]
  repeat refine pO ?_
  refine Zd3 ?_
  refine Zh0 119 (by rfl) ?_
  refine ⟨HC.out,?_⟩
  simp only [List.setIfInBounds_toArray,List.set_cons_zero,List.set_cons_succ]
  repeat refine pO ?_
  refine Zd5 ?_
  go_wp2_with (go_at_call 23;refine (Zok _).mono ?_;rintro e wz ⟨rfl,hbz⟩)
  go_ret
  exact ⟨by trivial,Zaf HBd.out hbz⟩):p:=h
section
open Go.RowKit
attribute [local go_sem] World.cell?_alloc_some
def wiV (a b:Rg):Bool:=decide (b.lo≤a.lo∧a.hi≤b.hi)
theorem Zor (a b:Rg) (w:World):Calls Tryz.prog 26 #[.agg #[.int .i64 a.lo,.int .i64 a.hi],.agg #[.int .i64 b.lo,.int .i64 b.hi]] w (Ret w (.bool (wiV a b))):=Zon a b w
theorem Zos (a b:Rg):Znp b a=Znp a b:=by
 unfold Znp Zmq
 rw [Bool.and_comm]
 split
 ·rw [Int.min_comm,Int.max_comm]
 ·rfl
theorem Zot (a b:Rg):wiV a (Zmq a b)=true∧wiV b (Zmq a b)=true:=by
 unfold wiV Zmq
 dsimp only
 simp only [decide_eq_true_eq]
 omega
theorem Zou {a b c:Rg} (h1:wiV a c=true) (h2:wiV b c=true):wiV (Zmq a b) c=true:=by
 unfold wiV Zmq at *
 dsimp only at *
 simp only [decide_eq_true_eq] at *
 omega
theorem Zov {a b:Rg} (ha:Zmu a=true) (hb:Zmu b=true):Znp (Zmq a b) a=(Zmq a b,0):=by
 have hv:Zmu (Zmq a b)=true:=by
  obtain ⟨al,ah⟩:=a
  obtain ⟨bl,bh⟩:=b
  unfold Zmu Zmq Zmt Zmp at *
  simp only [Bool.or_eq_true,Bool.and_eq_true,decide_eq_true_eq,Rg.mk.injEq] at *
  omega
 unfold Znp
 rw [hv,ha,if_pos (by rfl)]
 unfold Zmq
 congr 2
 ·show min (min a.lo b.lo) a.lo=min a.lo b.lo
  omega
 ·show max (max a.hi b.hi) a.hi=max a.hi b.hi
  omega
theorem Zow {a:Rg}{d:Int} (h:(Znr a d).2=0):wiV (Znr a d).1 a=true∨(Znr a d).1=Zmp:=by
 unfold Znr at *
 split at h
 ·rename_i p
  rw [if_pos p]
  unfold Zmr
  dsimp only
  split
  ·exact .inr rfl
  ·refine .inl ?_
   unfold wiV
   dsimp only
   simp only [decide_eq_true_eq]
   exact ⟨Int.le_refl _,Int.min_le_left _ _⟩
 ·cases h
theorem Zox (a b c:Rg) (d:Int) (W:World):Calls Tryz.prog 6 #[.agg #[.int .i64 a.lo,.int .i64 a.hi],.agg #[.int .i64 b.lo,.int .i64 b.hi],.agg #[.int .i64 c.lo,.int .i64 c.hi],.int .i64 d] W (Zol W):=by
 have h1:=Zns a b
 cases hv:Zmu a&&Zmu b
 ·have h2:=Znt a b
  rw [show Znp a b=(zR,1) by unfold Znp;rw [hv];rfl] at h1 h2
  obtain ⟨al,ah⟩:=a;obtain ⟨bl,bh⟩:=b;obtain ⟨cl,ch⟩:=c
  unfold zR at h1 h2
  dsimp only at h1 h2 ⊢
  have H1:=Zh h1;have H2:=Zh h2
  clear h1 h2 hv
  obtain ⟨S,hS⟩:∃ S,S=W.heap.size:=⟨_,rfl⟩
  obtain ⟨w0,hw0⟩:∃ w0,w0=(((W).alloc (.cells #[.int .i64 al,.int .i64 ah] 44)).alloc (.cells #[.int .i64 bl,.int .i64 bh] 44)).alloc (.cells #[.int .i64 cl,.int .i64 ch] 44):=⟨_,rfl⟩
  have HB0:=Zh (show Below W.heap.size W w0 by rw [hw0];exact bE)
  have HKa0:=Zh (show Blk w0 (S) #[.int .i64 al,.int .i64 ah] 44 by rw [hw0];exact (Blk.new' (w:=W) _ _ (by simp [hS])).old bE)
  have HKb0:=Zh (show Blk w0 (S+1) #[.int .i64 bl,.int .i64 bh] 44 by rw [hw0];exact (Blk.new' (w:=(W).alloc (.cells #[.int .i64 al,.int .i64 ah] 44)) _ _ (by simp [hS])).old bE)
  have HKc0:=Zh (show Blk w0 (S+1+1) #[.int .i64 cl,.int .i64 ch] 44 by rw [hw0];exact (Blk.new' (w:=((W).alloc (.cells #[.int .i64 al,.int .i64 ah] 44)).alloc (.cells #[.int .i64 bl,.int .i64 bh] 44)) _ _ (by simp [hS])).old bE)
  have HW:=Zh (And.intro hS hw0)
  clear hS hw0
  go_enter Tryz.func6,Tryz.ntmps6
  go_upto_region 1 with fail
  rw [←HW.out.1,←HW.out.2]
  clear HW
  obtain ⟨ca0,ca1⟩:=Zom HKa0.out
  obtain ⟨cb0,cb1⟩:=Zom HKb0.out
  obtain ⟨cc0,cc1⟩:=Zom HKc0.out
  go_upto_region 3 with (go_at_call 27;have hq:=HB0;clear hq;refine (H1.out _).mono ?_;rintro e w1 ⟨rfl,hb1⟩;have HKa1:=Zh (HKa0.out.old hb1);have HKb1:=Zh (HKb0.out.old hb1);have HKc1:=Zh (HKc0.out.old hb1);have HB1:=Zh (Zaf HB0.out hb1);clear hb1 ca0 ca1 cb0 cb1 cc0 cc1;obtain ⟨ca0,ca1⟩:=Zom HKa1.out;obtain ⟨cb0,cb1⟩:=Zom HKb1.out;obtain ⟨cc0,cc1⟩:=Zom HKc1.out)
  clear ca0 ca1 cb0 cb1 cc0 cc1
  obtain ⟨Dx,hD⟩:∃ D,D=w1.heap.size:=⟨_,rfl⟩
  obtain ⟨w2,hw⟩:∃ w,w=w1.alloc (.cells #[.int .i64 0,.int .i64 0] 44):=⟨_,rfl⟩
  have hb:Below w1.heap.size w1 w2:=by rw [hw];exact bE
  have HKa2:=Zh (HKa1.out.old hb)
  have HKb2:=Zh (HKb1.out.old hb)
  have HKc2:=Zh (HKc1.out.old hb)
  have HB2:=Zh (Zaf HB1.out hb)
  have HKx2:=Zh (show Blk w2 Dx #[.int .i64 0,.int .i64 0] 44 by rw [hw];exact Blk.new' _ _ hD)
  rw [←hD,←hw]
  clear hb hw hD
  obtain ⟨ca0,ca1⟩:=Zom HKa2.out
  obtain ⟨cb0,cb1⟩:=Zom HKb2.out
  obtain ⟨cc0,cc1⟩:=Zom HKc2.out
  obtain ⟨cx0,cx1⟩:=Zom HKx2.out
  go_upto_region 4 with (go_at_call 28;have hq:=HB2;clear hq;refine (H2.out _).mono ?_;rintro e w3 ⟨rfl,hb3⟩;have HKa3:=Zh (HKa2.out.old hb3);have HKb3:=Zh (HKb2.out.old hb3);have HKc3:=Zh (HKc2.out.old hb3);have HKx3:=Zh (HKx2.out.old hb3);have HB3:=Zh (Zaf HB2.out hb3);clear hb3 ca0 ca1 cb0 cb1 cc0 cc1 cx0 cx1;obtain ⟨ca0,ca1⟩:=Zom HKa3.out;obtain ⟨cb0,cb1⟩:=Zom HKb3.out;obtain ⟨cc0,cc1⟩:=Zom HKc3.out;obtain ⟨cx0,cx1⟩:=Zom HKx3.out)
  clear ca0 ca1 cb0 cb1 cc0 cc1 cx0 cx1
  obtain ⟨Dy,hD⟩:∃ D,D=w3.heap.size:=⟨_,rfl⟩
  obtain ⟨w4,hw⟩:∃ w,w=w3.alloc (.cells #[.int .i64 0,.int .i64 0] 44):=⟨_,rfl⟩
  have hb:Below w3.heap.size w3 w4:=by rw [hw];exact bE
  have HKa4:=Zh (HKa3.out.old hb)
  have HKb4:=Zh (HKb3.out.old hb)
  have HKc4:=Zh (HKc3.out.old hb)
  have HKx4:=Zh (HKx3.out.old hb)
  have HB4:=Zh (Zaf HB3.out hb)
  have HKy4:=Zh (show Blk w4 Dy #[.int .i64 0,.int .i64 0] 44 by rw [hw];exact Blk.new' _ _ hD)
  rw [←hD,←hw]
  clear hb hw hD
  obtain ⟨ca0,ca1⟩:=Zom HKa4.out
  obtain ⟨cb0,cb1⟩:=Zom HKb4.out
  obtain ⟨cc0,cc1⟩:=Zom HKc4.out
  obtain ⟨cx0,cx1⟩:=Zom HKx4.out
  obtain ⟨cy0,cy1⟩:=Zom HKy4.out
  exact j13
 ·have hva:Zmu a=true:=by revert hv;cases Zmu a<;>simp
  have hvb:Zmu b=true:=by revert hv;cases Zmu b<;>simp
  have h2:=Zns b a
  rw [Zos] at h2
  rw [show Znp a b=(Zmq a b,0) by unfold Znp;rw [hv];rfl] at h1 h2
  have h3:=Zns c c
  have h4:=Zns (Zmq a b) a
  rw [Zov hva hvb] at h4
  have h5:=Znu a d
  have h6:=Zor a (Zmq a b);have h7:=Zor b (Zmq a b)
  rw [(Zot a b).1] at h6
  rw [(Zot a b).2] at h7
  have h8:=Zor a c;have h9:=Zor b c;have h10:=Zor (Zmq a b) c
  have hle:wiV a c=true→wiV b c=true→wiV (Zmq a b) c=true:=Zou
  have h11:=Zor (Znr a d).1 a
  have haf:=@Zow a d
  generalize Znp c c=u at h3
  generalize Zmq a b=x at h1 h2 h4 h6 h7 h10 hle
  generalize Znr a d=z at h5 h11 haf
  obtain ⟨⟨zl,zh⟩,ze⟩:=z
  generalize wiV a c=b1 at h8 hle
  generalize wiV b c=b2 at h9 hle
  generalize wiV x c=b3 at h10 hle
  dsimp only at h11 haf
  generalize wiV ⟨zl,zh⟩ a=b5 at h11 haf
  obtain ⟨⟨ul,uh⟩,ue⟩:=u
  obtain ⟨xl,xh⟩:=x
  obtain ⟨al,ah⟩:=a;obtain ⟨bl,bh⟩:=b;obtain ⟨cl,ch⟩:=c
  dsimp only at h1 h2 h3 h4 h5 h6 h7 h8 h9 h10 h11 ⊢
  have H1:=Zh h1;have H2:=Zh h2;have H3:=Zh h3;have H4:=Zh h4;have H5:=Zh h5;have H6:=Zh h6
  have H7:=Zh h7;have H8:=Zh h8;have H9:=Zh h9;have H10:=Zh h10;have H11:=Zh h11;have HLe:=Zh hle;have HAf:=Zh haf
  clear h1 h2 h3 h4 h5 h6 h7 h8 h9 h10 h11 hle haf hv hva hvb
  have e1:=fun w=>eq2 xl xh xl xh w
  obtain ⟨S,hS⟩:∃ S,S=W.heap.size:=⟨_,rfl⟩
  obtain ⟨w0,hw0⟩:∃ w0,w0=(((W).alloc (.cells #[.int .i64 al,.int .i64 ah] 44)).alloc (.cells #[.int .i64 bl,.int .i64 bh] 44)).alloc (.cells #[.int .i64 cl,.int .i64 ch] 44):=⟨_,rfl⟩
  have HB0:=Zh (show Below W.heap.size W w0 by rw [hw0];exact bE)
  have HKa0:=Zh (show Blk w0 (S) #[.int .i64 al,.int .i64 ah] 44 by rw [hw0];exact (Blk.new' (w:=W) _ _ (by simp [hS])).old bE)
  have HKb0:=Zh (show Blk w0 (S+1) #[.int .i64 bl,.int .i64 bh] 44 by rw [hw0];exact (Blk.new' (w:=(W).alloc (.cells #[.int .i64 al,.int .i64 ah] 44)) _ _ (by simp [hS])).old bE)
  have HKc0:=Zh (show Blk w0 (S+1+1) #[.int .i64 cl,.int .i64 ch] 44 by rw [hw0];exact (Blk.new' (w:=((W).alloc (.cells #[.int .i64 al,.int .i64 ah] 44)).alloc (.cells #[.int .i64 bl,.int .i64 bh] 44)) _ _ (by simp [hS])).old bE)
  have HW:=Zh (And.intro hS hw0)
  clear hS hw0
  go_enter Tryz.func6,Tryz.ntmps6
  go_upto_region 1 with fail
  rw [←HW.out.1,←HW.out.2]
  clear HW
  obtain ⟨ca0,ca1⟩:=Zom HKa0.out
  obtain ⟨cb0,cb1⟩:=Zom HKb0.out
  obtain ⟨cc0,cc1⟩:=Zom HKc0.out
  go_upto_region 5 with (go_at_call 27;have hq:=HB0;clear hq;refine (H1.out _).mono ?_;rintro e w1 ⟨rfl,hb1⟩;have HKa1:=Zh (HKa0.out.old hb1);have HKb1:=Zh (HKb0.out.old hb1);have HKc1:=Zh (HKc0.out.old hb1);have HB1:=Zh (Zaf HB0.out hb1);clear hb1 ca0 ca1 cb0 cb1 cc0 cc1;obtain ⟨ca0,ca1⟩:=Zom HKa1.out;obtain ⟨cb0,cb1⟩:=Zom HKb1.out;obtain ⟨cc0,cc1⟩:=Zom HKc1.out)
  clear ca0 ca1 cb0 cb1 cc0 cc1
  obtain ⟨Dx,hD⟩:∃ D,D=w1.heap.size:=⟨_,rfl⟩
  obtain ⟨w2,hw⟩:∃ w,w=w1.alloc (.cells #[.int .i64 xl,.int .i64 xh] 44):=⟨_,rfl⟩
  have hb:Below w1.heap.size w1 w2:=by rw [hw];exact bE
  have HKa2:=Zh (HKa1.out.old hb)
  have HKb2:=Zh (HKb1.out.old hb)
  have HKc2:=Zh (HKc1.out.old hb)
  have HB2:=Zh (Zaf HB1.out hb)
  have HKx2:=Zh (show Blk w2 Dx #[.int .i64 xl,.int .i64 xh] 44 by rw [hw];exact Blk.new' _ _ hD)
  rw [←hD,←hw]
  clear hb hw hD
  obtain ⟨ca0,ca1⟩:=Zom HKa2.out
  obtain ⟨cb0,cb1⟩:=Zom HKb2.out
  obtain ⟨cc0,cc1⟩:=Zom HKc2.out
  obtain ⟨cx0,cx1⟩:=Zom HKx2.out
  go_upto_region 6 with (go_at_call 27;have hq:=HB2;clear hq;refine (H2.out _).mono ?_;rintro e w3 ⟨rfl,hb3⟩;have HKa3:=Zh (HKa2.out.old hb3);have HKb3:=Zh (HKb2.out.old hb3);have HKc3:=Zh (HKc2.out.old hb3);have HKx3:=Zh (HKx2.out.old hb3);have HB3:=Zh (Zaf HB2.out hb3);clear hb3 ca0 ca1 cb0 cb1 cc0 cc1 cx0 cx1;obtain ⟨ca0,ca1⟩:=Zom HKa3.out;obtain ⟨cb0,cb1⟩:=Zom HKb3.out;obtain ⟨cc0,cc1⟩:=Zom HKc3.out;obtain ⟨cx0,cx1⟩:=Zom HKx3.out)
  clear ca0 ca1 cb0 cb1 cc0 cc1 cx0 cx1
  obtain ⟨Dy,hD⟩:∃ D,D=w3.heap.size:=⟨_,rfl⟩
  obtain ⟨w4,hw⟩:∃ w,w=w3.alloc (.cells #[.int .i64 xl,.int .i64 xh] 44):=⟨_,rfl⟩
  have hb:Below w3.heap.size w3 w4:=by rw [hw];exact bE
  have HKa4:=Zh (HKa3.out.old hb)
  have HKb4:=Zh (HKb3.out.old hb)
  have HKc4:=Zh (HKc3.out.old hb)
  have HKx4:=Zh (HKx3.out.old hb)
  have HB4:=Zh (Zaf HB3.out hb)
  have HKy4:=Zh (show Blk w4 Dy #[.int .i64 xl,.int .i64 xh] 44 by rw [hw];exact Blk.new' _ _ hD)
  rw [←hD,←hw]
  clear hb hw hD
  obtain ⟨ca0,ca1⟩:=Zom HKa4.out
  obtain ⟨cb0,cb1⟩:=Zom HKb4.out
  obtain ⟨cc0,cc1⟩:=Zom HKc4.out
  obtain ⟨cx0,cx1⟩:=Zom HKx4.out
  obtain ⟨cy0,cy1⟩:=Zom HKy4.out
  go_upto_region 8 with (first|(go_at_call 26;have hq:=HB5;clear hq;refine (H7.out _).mono ?_;rintro e w6 ⟨rfl,hb6⟩;have HKa6:=Zh (HKa5.out.old hb6);have HKb6:=Zh (HKb5.out.old hb6);have HKc6:=Zh (HKc5.out.old hb6);have HKx6:=Zh (HKx5.out.old hb6);have HKy6:=Zh (HKy5.out.old hb6);have HB6:=Zh (Zaf HB5.out hb6);clear hb6 ca0 ca1 cb0 cb1 cc0 cc1 cx0 cx1 cy0 cy1;obtain ⟨ca0,ca1⟩:=Zom HKa6.out;obtain ⟨cb0,cb1⟩:=Zom HKb6.out;obtain ⟨cc0,cc1⟩:=Zom HKc6.out;obtain ⟨cx0,cx1⟩:=Zom HKx6.out;obtain ⟨cy0,cy1⟩:=Zom HKy6.out)|(go_at_call 26;have hq:=HB4;clear hq;refine (H6.out _).mono ?_;rintro e w5 ⟨rfl,hb5⟩;have HKa5:=Zh (HKa4.out.old hb5);have HKb5:=Zh (HKb4.out.old hb5);have HKc5:=Zh (HKc4.out.old hb5);have HKx5:=Zh (HKx4.out.old hb5);have HKy5:=Zh (HKy4.out.old hb5);have HB5:=Zh (Zaf HB4.out hb5);clear hb5 ca0 ca1 cb0 cb1 cc0 cc1 cx0 cx1 cy0 cy1;obtain ⟨ca0,ca1⟩:=Zom HKa5.out;obtain ⟨cb0,cb1⟩:=Zom HKb5.out;obtain ⟨cc0,cc1⟩:=Zom HKc5.out;obtain ⟨cx0,cx1⟩:=Zom HKx5.out;obtain ⟨cy0,cy1⟩:=Zom HKy5.out))
  go_upto_region 9 with (go_at_call 27;have hq:=HB6;clear hq;refine (H3.out _).mono ?_;rintro e w7 ⟨rfl,hb7⟩;have HKa7:=Zh (HKa6.out.old hb7);have HKb7:=Zh (HKb6.out.old hb7);have HKc7:=Zh (HKc6.out.old hb7);have HKx7:=Zh (HKx6.out.old hb7);have HKy7:=Zh (HKy6.out.old hb7);have HB7:=Zh (Zaf HB6.out hb7);clear hb7 ca0 ca1 cb0 cb1 cc0 cc1 cx0 cx1 cy0 cy1;obtain ⟨ca0,ca1⟩:=Zom HKa7.out;obtain ⟨cb0,cb1⟩:=Zom HKb7.out;obtain ⟨cc0,cc1⟩:=Zom HKc7.out;obtain ⟨cx0,cx1⟩:=Zom HKx7.out;obtain ⟨cy0,cy1⟩:=Zom HKy7.out)
  clear ca0 ca1 cb0 cb1 cc0 cc1 cx0 cx1 cy0 cy1
  obtain ⟨Du,hD⟩:∃ D,D=w7.heap.size:=⟨_,rfl⟩
  obtain ⟨w8,hw⟩:∃ w,w=w7.alloc (.cells #[.int .i64 ul,.int .i64 uh] 44):=⟨_,rfl⟩
  have hb:Below w7.heap.size w7 w8:=by rw [hw];exact bE
  have HKa8:=Zh (HKa7.out.old hb)
  have HKb8:=Zh (HKb7.out.old hb)
  have HKc8:=Zh (HKc7.out.old hb)
  have HKx8:=Zh (HKx7.out.old hb)
  have HKy8:=Zh (HKy7.out.old hb)
  have HB8:=Zh (Zaf HB7.out hb)
  have HKu8:=Zh (show Blk w8 Du #[.int .i64 ul,.int .i64 uh] 44 by rw [hw];exact Blk.new' _ _ hD)
  rw [←hD,←hw]
  clear hb hw hD
  obtain ⟨ca0,ca1⟩:=Zom HKa8.out
  obtain ⟨cb0,cb1⟩:=Zom HKb8.out
  obtain ⟨cc0,cc1⟩:=Zom HKc8.out
  obtain ⟨cx0,cx1⟩:=Zom HKx8.out
  obtain ⟨cy0,cy1⟩:=Zom HKy8.out
  obtain ⟨cu0,cu1⟩:=Zom HKu8.out
  have HB9:∃ wq:World,True:=⟨W,trivial⟩
  clear HB9
  by_cases hu:ue=0
  ·subst hu
   rcases b1 with _|_
   ·go_upto_region 11 with (first|(go_at_call 26;have hq:=HB8;clear hq;refine (H8.out _).mono ?_;rintro e w9 ⟨rfl,hb9⟩;have HKa9:=Zh (HKa8.out.old hb9);have HKb9:=Zh (HKb8.out.old hb9);have HKc9:=Zh (HKc8.out.old hb9);have HKx9:=Zh (HKx8.out.old hb9);have HKy9:=Zh (HKy8.out.old hb9);have HKu9:=Zh (HKu8.out.old hb9);have HB9:=Zh (Zaf HB8.out hb9);clear hb9 ca0 ca1 cb0 cb1 cc0 cc1 cx0 cx1 cy0 cy1 cu0 cu1;obtain ⟨ca0,ca1⟩:=Zom HKa9.out;obtain ⟨cb0,cb1⟩:=Zom HKb9.out;obtain ⟨cc0,cc1⟩:=Zom HKc9.out;obtain ⟨cx0,cx1⟩:=Zom HKx9.out;obtain ⟨cy0,cy1⟩:=Zom HKy9.out;obtain ⟨cu0,cu1⟩:=Zom HKu9.out))
    go_upto_region 12 with (go_at_call 27;have hq:=HB9;clear hq;refine (H4.out _).mono ?_;rintro e w10 ⟨rfl,hb10⟩;have HKa10:=Zh (HKa9.out.old hb10);have HKb10:=Zh (HKb9.out.old hb10);have HKc10:=Zh (HKc9.out.old hb10);have HKx10:=Zh (HKx9.out.old hb10);have HKy10:=Zh (HKy9.out.old hb10);have HKu10:=Zh (HKu9.out.old hb10);have HB10:=Zh (Zaf HB9.out hb10);clear hb10 ca0 ca1 cb0 cb1 cc0 cc1 cx0 cx1 cy0 cy1 cu0 cu1;obtain ⟨ca0,ca1⟩:=Zom HKa10.out;obtain ⟨cb0,cb1⟩:=Zom HKb10.out;obtain ⟨cc0,cc1⟩:=Zom HKc10.out;obtain ⟨cx0,cx1⟩:=Zom HKx10.out;obtain ⟨cy0,cy1⟩:=Zom HKy10.out;obtain ⟨cu0,cu1⟩:=Zom HKu10.out)
    clear ca0 ca1 cb0 cb1 cc0 cc1 cx0 cx1 cy0 cy1 cu0 cu1
    obtain ⟨Dv,hD⟩:∃ D,D=w10.heap.size:=⟨_,rfl⟩
    obtain ⟨w11,hw⟩:∃ w,w=w10.alloc (.cells #[.int .i64 xl,.int .i64 xh] 44):=⟨_,rfl⟩
    have hb:Below w10.heap.size w10 w11:=by rw [hw];exact bE
    have HKa11:=Zh (HKa10.out.old hb)
    have HKb11:=Zh (HKb10.out.old hb)
    have HKc11:=Zh (HKc10.out.old hb)
    have HKx11:=Zh (HKx10.out.old hb)
    have HKy11:=Zh (HKy10.out.old hb)
    have HKu11:=Zh (HKu10.out.old hb)
    have HB11:=Zh (Zaf HB10.out hb)
    have HKv11:=Zh (show Blk w11 Dv #[.int .i64 xl,.int .i64 xh] 44 by rw [hw];exact Blk.new' _ _ hD)
    rw [←hD,←hw]
    clear hb hw hD
    obtain ⟨ca0,ca1⟩:=Zom HKa11.out
    obtain ⟨cb0,cb1⟩:=Zom HKb11.out
    obtain ⟨cc0,cc1⟩:=Zom HKc11.out
    obtain ⟨cx0,cx1⟩:=Zom HKx11.out
    obtain ⟨cy0,cy1⟩:=Zom HKy11.out
    obtain ⟨cu0,cu1⟩:=Zom HKu11.out
    obtain ⟨cv0,cv1⟩:=Zom HKv11.out
    go_upto_region 15 with (go_at_call 29;have hq:=HB11;clear hq;refine (H5.out _).mono ?_;rintro e w12 ⟨rfl,hb12⟩;have HKa12:=Zh (HKa11.out.old hb12);have HKb12:=Zh (HKb11.out.old hb12);have HKc12:=Zh (HKc11.out.old hb12);have HKx12:=Zh (HKx11.out.old hb12);have HKy12:=Zh (HKy11.out.old hb12);have HKu12:=Zh (HKu11.out.old hb12);have HKv12:=Zh (HKv11.out.old hb12);have HB12:=Zh (Zaf HB11.out hb12);clear hb12 ca0 ca1 cb0 cb1 cc0 cc1 cx0 cx1 cy0 cy1 cu0 cu1 cv0 cv1;obtain ⟨ca0,ca1⟩:=Zom HKa12.out;obtain ⟨cb0,cb1⟩:=Zom HKb12.out;obtain ⟨cc0,cc1⟩:=Zom HKc12.out;obtain ⟨cx0,cx1⟩:=Zom HKx12.out;obtain ⟨cy0,cy1⟩:=Zom HKy12.out;obtain ⟨cu0,cu1⟩:=Zom HKu12.out;obtain ⟨cv0,cv1⟩:=Zom HKv12.out)
    clear ca0 ca1 cb0 cb1 cc0 cc1 cx0 cx1 cy0 cy1 cu0 cu1 cv0 cv1
    obtain ⟨Dz,hD⟩:∃ D,D=w12.heap.size:=⟨_,rfl⟩
    obtain ⟨w13,hw⟩:∃ w,w=w12.alloc (.cells #[.int .i64 zl,.int .i64 zh] 44):=⟨_,rfl⟩
    have hb:Below w12.heap.size w12 w13:=by rw [hw];exact bE
    have HKa13:=Zh (HKa12.out.old hb)
    have HKb13:=Zh (HKb12.out.old hb)
    have HKc13:=Zh (HKc12.out.old hb)
    have HKx13:=Zh (HKx12.out.old hb)
    have HKy13:=Zh (HKy12.out.old hb)
    have HKu13:=Zh (HKu12.out.old hb)
    have HKv13:=Zh (HKv12.out.old hb)
    have HB13:=Zh (Zaf HB12.out hb)
    have HKz13:=Zh (show Blk w13 Dz #[.int .i64 zl,.int .i64 zh] 44 by rw [hw];exact Blk.new' _ _ hD)
    rw [←hD,←hw]
    clear hb hw hD
    obtain ⟨ca0,ca1⟩:=Zom HKa13.out
    obtain ⟨cb0,cb1⟩:=Zom HKb13.out
    obtain ⟨cc0,cc1⟩:=Zom HKc13.out
    obtain ⟨cx0,cx1⟩:=Zom HKx13.out
    obtain ⟨cy0,cy1⟩:=Zom HKy13.out
    obtain ⟨cu0,cu1⟩:=Zom HKu13.out
    obtain ⟨cv0,cv1⟩:=Zom HKv13.out
    obtain ⟨cz0,cz1⟩:=Zom HKz13.out
    have HC:=Zh (show Cs [(⟨S,0,none⟩,.int .i64 al),(⟨S,1,none⟩,.int .i64 ah),(⟨Dz,0,none⟩,.int .i64 zl),(⟨Dz,1,none⟩,.int .i64 zh)] w13.drew from ⟨ca0,ca1,cz0,cz1,trivial⟩)
    have HBd:=Zh (show Below W.heap.size W w13.drew from HB13.out.drew)
    exact j1
   ·rcases b2 with _|_
    ·go_upto_region 11 with (first|(go_at_call 26;have hq:=HB9;clear hq;refine (H9.out _).mono ?_;rintro e w10 ⟨rfl,hb10⟩;have HKa10:=Zh (HKa9.out.old hb10);have HKb10:=Zh (HKb9.out.old hb10);have HKc10:=Zh (HKc9.out.old hb10);have HKx10:=Zh (HKx9.out.old hb10);have HKy10:=Zh (HKy9.out.old hb10);have HKu10:=Zh (HKu9.out.old hb10);have HB10:=Zh (Zaf HB9.out hb10);clear hb10 ca0 ca1 cb0 cb1 cc0 cc1 cx0 cx1 cy0 cy1 cu0 cu1;obtain ⟨ca0,ca1⟩:=Zom HKa10.out;obtain ⟨cb0,cb1⟩:=Zom HKb10.out;obtain ⟨cc0,cc1⟩:=Zom HKc10.out;obtain ⟨cx0,cx1⟩:=Zom HKx10.out;obtain ⟨cy0,cy1⟩:=Zom HKy10.out;obtain ⟨cu0,cu1⟩:=Zom HKu10.out)|(go_at_call 26;have hq:=HB8;clear hq;refine (H8.out _).mono ?_;rintro e w9 ⟨rfl,hb9⟩;have HKa9:=Zh (HKa8.out.old hb9);have HKb9:=Zh (HKb8.out.old hb9);have HKc9:=Zh (HKc8.out.old hb9);have HKx9:=Zh (HKx8.out.old hb9);have HKy9:=Zh (HKy8.out.old hb9);have HKu9:=Zh (HKu8.out.old hb9);have HB9:=Zh (Zaf HB8.out hb9);clear hb9 ca0 ca1 cb0 cb1 cc0 cc1 cx0 cx1 cy0 cy1 cu0 cu1;obtain ⟨ca0,ca1⟩:=Zom HKa9.out;obtain ⟨cb0,cb1⟩:=Zom HKb9.out;obtain ⟨cc0,cc1⟩:=Zom HKc9.out;obtain ⟨cx0,cx1⟩:=Zom HKx9.out;obtain ⟨cy0,cy1⟩:=Zom HKy9.out;obtain ⟨cu0,cu1⟩:=Zom HKu9.out))
     go_upto_region 12 with (go_at_call 27;have hq:=HB10;clear hq;refine (H4.out _).mono ?_;rintro e w11 ⟨rfl,hb11⟩;have HKa11:=Zh (HKa10.out.old hb11);have HKb11:=Zh (HKb10.out.old hb11);have HKc11:=Zh (HKc10.out.old hb11);have HKx11:=Zh (HKx10.out.old hb11);have HKy11:=Zh (HKy10.out.old hb11);have HKu11:=Zh (HKu10.out.old hb11);have HB11:=Zh (Zaf HB10.out hb11);clear hb11 ca0 ca1 cb0 cb1 cc0 cc1 cx0 cx1 cy0 cy1 cu0 cu1;obtain ⟨ca0,ca1⟩:=Zom HKa11.out;obtain ⟨cb0,cb1⟩:=Zom HKb11.out;obtain ⟨cc0,cc1⟩:=Zom HKc11.out;obtain ⟨cx0,cx1⟩:=Zom HKx11.out;obtain ⟨cy0,cy1⟩:=Zom HKy11.out;obtain ⟨cu0,cu1⟩:=Zom HKu11.out)
     clear ca0 ca1 cb0 cb1 cc0 cc1 cx0 cx1 cy0 cy1 cu0 cu1
     obtain ⟨Dv,hD⟩:∃ D,D=w11.heap.size:=⟨_,rfl⟩
     obtain ⟨w12,hw⟩:∃ w,w=w11.alloc (.cells #[.int .i64 xl,.int .i64 xh] 44):=⟨_,rfl⟩
     have hb:Below w11.heap.size w11 w12:=by rw [hw];exact bE
     have HKa12:=Zh (HKa11.out.old hb)
     have HKb12:=Zh (HKb11.out.old hb)
     have HKc12:=Zh (HKc11.out.old hb)
     have HKx12:=Zh (HKx11.out.old hb)
     have HKy12:=Zh (HKy11.out.old hb)
     have HKu12:=Zh (HKu11.out.old hb)
     have HB12:=Zh (Zaf HB11.out hb)
     have HKv12:=Zh (show Blk w12 Dv #[.int .i64 xl,.int .i64 xh] 44 by rw [hw];exact Blk.new' _ _ hD)
     rw [←hD,←hw]
     clear hb hw hD
     obtain ⟨ca0,ca1⟩:=Zom HKa12.out
     obtain ⟨cb0,cb1⟩:=Zom HKb12.out
     obtain ⟨cc0,cc1⟩:=Zom HKc12.out
     obtain ⟨cx0,cx1⟩:=Zom HKx12.out
     obtain ⟨cy0,cy1⟩:=Zom HKy12.out
     obtain ⟨cu0,cu1⟩:=Zom HKu12.out
     obtain ⟨cv0,cv1⟩:=Zom HKv12.out
     go_upto_region 15 with (go_at_call 29;have hq:=HB12;clear hq;refine (H5.out _).mono ?_;rintro e w13 ⟨rfl,hb13⟩;have HKa13:=Zh (HKa12.out.old hb13);have HKb13:=Zh (HKb12.out.old hb13);have HKc13:=Zh (HKc12.out.old hb13);have HKx13:=Zh (HKx12.out.old hb13);have HKy13:=Zh (HKy12.out.old hb13);have HKu13:=Zh (HKu12.out.old hb13);have HKv13:=Zh (HKv12.out.old hb13);have HB13:=Zh (Zaf HB12.out hb13);clear hb13 ca0 ca1 cb0 cb1 cc0 cc1 cx0 cx1 cy0 cy1 cu0 cu1 cv0 cv1;obtain ⟨ca0,ca1⟩:=Zom HKa13.out;obtain ⟨cb0,cb1⟩:=Zom HKb13.out;obtain ⟨cc0,cc1⟩:=Zom HKc13.out;obtain ⟨cx0,cx1⟩:=Zom HKx13.out;obtain ⟨cy0,cy1⟩:=Zom HKy13.out;obtain ⟨cu0,cu1⟩:=Zom HKu13.out;obtain ⟨cv0,cv1⟩:=Zom HKv13.out)
     clear ca0 ca1 cb0 cb1 cc0 cc1 cx0 cx1 cy0 cy1 cu0 cu1 cv0 cv1
     obtain ⟨Dz,hD⟩:∃ D,D=w13.heap.size:=⟨_,rfl⟩
     obtain ⟨w14,hw⟩:∃ w,w=w13.alloc (.cells #[.int .i64 zl,.int .i64 zh] 44):=⟨_,rfl⟩
     have hb:Below w13.heap.size w13 w14:=by rw [hw];exact bE
     have HKa14:=Zh (HKa13.out.old hb)
     have HKb14:=Zh (HKb13.out.old hb)
     have HKc14:=Zh (HKc13.out.old hb)
     have HKx14:=Zh (HKx13.out.old hb)
     have HKy14:=Zh (HKy13.out.old hb)
     have HKu14:=Zh (HKu13.out.old hb)
     have HKv14:=Zh (HKv13.out.old hb)
     have HB14:=Zh (Zaf HB13.out hb)
     have HKz14:=Zh (show Blk w14 Dz #[.int .i64 zl,.int .i64 zh] 44 by rw [hw];exact Blk.new' _ _ hD)
     rw [←hD,←hw]
     clear hb hw hD
     obtain ⟨ca0,ca1⟩:=Zom HKa14.out
     obtain ⟨cb0,cb1⟩:=Zom HKb14.out
     obtain ⟨cc0,cc1⟩:=Zom HKc14.out
     obtain ⟨cx0,cx1⟩:=Zom HKx14.out
     obtain ⟨cy0,cy1⟩:=Zom HKy14.out
     obtain ⟨cu0,cu1⟩:=Zom HKu14.out
     obtain ⟨cv0,cv1⟩:=Zom HKv14.out
     obtain ⟨cz0,cz1⟩:=Zom HKz14.out
     have HC:=Zh (show Cs [(⟨S,0,none⟩,.int .i64 al),(⟨S,1,none⟩,.int .i64 ah),(⟨Dz,0,none⟩,.int .i64 zl),(⟨Dz,1,none⟩,.int .i64 zh)] w14.drew from ⟨ca0,ca1,cz0,cz1,trivial⟩)
     have HBd:=Zh (show Below W.heap.size W w14.drew from HB14.out.drew)
     exact j1
    ·have hb3:=HLe.out rfl rfl
     subst hb3
     go_upto_region 11 with (first|(go_at_call 26;have hq:=HB10;clear hq;refine (H10.out _).mono ?_;rintro e w11 ⟨rfl,hb11⟩;have HKa11:=Zh (HKa10.out.old hb11);have HKb11:=Zh (HKb10.out.old hb11);have HKc11:=Zh (HKc10.out.old hb11);have HKx11:=Zh (HKx10.out.old hb11);have HKy11:=Zh (HKy10.out.old hb11);have HKu11:=Zh (HKu10.out.old hb11);have HB11:=Zh (Zaf HB10.out hb11);clear hb11 ca0 ca1 cb0 cb1 cc0 cc1 cx0 cx1 cy0 cy1 cu0 cu1;obtain ⟨ca0,ca1⟩:=Zom HKa11.out;obtain ⟨cb0,cb1⟩:=Zom HKb11.out;obtain ⟨cc0,cc1⟩:=Zom HKc11.out;obtain ⟨cx0,cx1⟩:=Zom HKx11.out;obtain ⟨cy0,cy1⟩:=Zom HKy11.out;obtain ⟨cu0,cu1⟩:=Zom HKu11.out)|(go_at_call 26;have hq:=HB9;clear hq;refine (H9.out _).mono ?_;rintro e w10 ⟨rfl,hb10⟩;have HKa10:=Zh (HKa9.out.old hb10);have HKb10:=Zh (HKb9.out.old hb10);have HKc10:=Zh (HKc9.out.old hb10);have HKx10:=Zh (HKx9.out.old hb10);have HKy10:=Zh (HKy9.out.old hb10);have HKu10:=Zh (HKu9.out.old hb10);have HB10:=Zh (Zaf HB9.out hb10);clear hb10 ca0 ca1 cb0 cb1 cc0 cc1 cx0 cx1 cy0 cy1 cu0 cu1;obtain ⟨ca0,ca1⟩:=Zom HKa10.out;obtain ⟨cb0,cb1⟩:=Zom HKb10.out;obtain ⟨cc0,cc1⟩:=Zom HKc10.out;obtain ⟨cx0,cx1⟩:=Zom HKx10.out;obtain ⟨cy0,cy1⟩:=Zom HKy10.out;obtain ⟨cu0,cu1⟩:=Zom HKu10.out)|(go_at_call 26;have hq:=HB8;clear hq;refine (H8.out _).mono ?_;rintro e w9 ⟨rfl,hb9⟩;have HKa9:=Zh (HKa8.out.old hb9);have HKb9:=Zh (HKb8.out.old hb9);have HKc9:=Zh (HKc8.out.old hb9);have HKx9:=Zh (HKx8.out.old hb9);have HKy9:=Zh (HKy8.out.old hb9);have HKu9:=Zh (HKu8.out.old hb9);have HB9:=Zh (Zaf HB8.out hb9);clear hb9 ca0 ca1 cb0 cb1 cc0 cc1 cx0 cx1 cy0 cy1 cu0 cu1;obtain ⟨ca0,ca1⟩:=Zom HKa9.out;obtain ⟨cb0,cb1⟩:=Zom HKb9.out;obtain ⟨cc0,cc1⟩:=Zom HKc9.out;obtain ⟨cx0,cx1⟩:=Zom HKx9.out;obtain ⟨cy0,cy1⟩:=Zom HKy9.out;obtain ⟨cu0,cu1⟩:=Zom HKu9.out))
     go_upto_region 12 with (go_at_call 27;have hq:=HB11;clear hq;refine (H4.out _).mono ?_;rintro e w12 ⟨rfl,hb12⟩;have HKa12:=Zh (HKa11.out.old hb12);have HKb12:=Zh (HKb11.out.old hb12);have HKc12:=Zh (HKc11.out.old hb12);have HKx12:=Zh (HKx11.out.old hb12);have HKy12:=Zh (HKy11.out.old hb12);have HKu12:=Zh (HKu11.out.old hb12);have HB12:=Zh (Zaf HB11.out hb12);clear hb12 ca0 ca1 cb0 cb1 cc0 cc1 cx0 cx1 cy0 cy1 cu0 cu1;obtain ⟨ca0,ca1⟩:=Zom HKa12.out;obtain ⟨cb0,cb1⟩:=Zom HKb12.out;obtain ⟨cc0,cc1⟩:=Zom HKc12.out;obtain ⟨cx0,cx1⟩:=Zom HKx12.out;obtain ⟨cy0,cy1⟩:=Zom HKy12.out;obtain ⟨cu0,cu1⟩:=Zom HKu12.out)
     clear ca0 ca1 cb0 cb1 cc0 cc1 cx0 cx1 cy0 cy1 cu0 cu1
     obtain ⟨Dv,hD⟩:∃ D,D=w12.heap.size:=⟨_,rfl⟩
     obtain ⟨w13,hw⟩:∃ w,w=w12.alloc (.cells #[.int .i64 xl,.int .i64 xh] 44):=⟨_,rfl⟩
     have hb:Below w12.heap.size w12 w13:=by rw [hw];exact bE
     have HKa13:=Zh (HKa12.out.old hb)
     have HKb13:=Zh (HKb12.out.old hb)
     have HKc13:=Zh (HKc12.out.old hb)
     have HKx13:=Zh (HKx12.out.old hb)
     have HKy13:=Zh (HKy12.out.old hb)
     have HKu13:=Zh (HKu12.out.old hb)
     have HB13:=Zh (Zaf HB12.out hb)
     have HKv13:=Zh (show Blk w13 Dv #[.int .i64 xl,.int .i64 xh] 44 by rw [hw];exact Blk.new' _ _ hD)
     rw [←hD,←hw]
     clear hb hw hD
     obtain ⟨ca0,ca1⟩:=Zom HKa13.out
     obtain ⟨cb0,cb1⟩:=Zom HKb13.out
     obtain ⟨cc0,cc1⟩:=Zom HKc13.out
     obtain ⟨cx0,cx1⟩:=Zom HKx13.out
     obtain ⟨cy0,cy1⟩:=Zom HKy13.out
     obtain ⟨cu0,cu1⟩:=Zom HKu13.out
     obtain ⟨cv0,cv1⟩:=Zom HKv13.out
     go_upto_region 15 with (go_at_call 29;have hq:=HB13;clear hq;refine (H5.out _).mono ?_;rintro e w14 ⟨rfl,hb14⟩;have HKa14:=Zh (HKa13.out.old hb14);have HKb14:=Zh (HKb13.out.old hb14);have HKc14:=Zh (HKc13.out.old hb14);have HKx14:=Zh (HKx13.out.old hb14);have HKy14:=Zh (HKy13.out.old hb14);have HKu14:=Zh (HKu13.out.old hb14);have HKv14:=Zh (HKv13.out.old hb14);have HB14:=Zh (Zaf HB13.out hb14);clear hb14 ca0 ca1 cb0 cb1 cc0 cc1 cx0 cx1 cy0 cy1 cu0 cu1 cv0 cv1;obtain ⟨ca0,ca1⟩:=Zom HKa14.out;obtain ⟨cb0,cb1⟩:=Zom HKb14.out;obtain ⟨cc0,cc1⟩:=Zom HKc14.out;obtain ⟨cx0,cx1⟩:=Zom HKx14.out;obtain ⟨cy0,cy1⟩:=Zom HKy14.out;obtain ⟨cu0,cu1⟩:=Zom HKu14.out;obtain ⟨cv0,cv1⟩:=Zom HKv14.out)
     clear ca0 ca1 cb0 cb1 cc0 cc1 cx0 cx1 cy0 cy1 cu0 cu1 cv0 cv1
     obtain ⟨Dz,hD⟩:∃ D,D=w14.heap.size:=⟨_,rfl⟩
     obtain ⟨w15,hw⟩:∃ w,w=w14.alloc (.cells #[.int .i64 zl,.int .i64 zh] 44):=⟨_,rfl⟩
     have hb:Below w14.heap.size w14 w15:=by rw [hw];exact bE
     have HKa15:=Zh (HKa14.out.old hb)
     have HKb15:=Zh (HKb14.out.old hb)
     have HKc15:=Zh (HKc14.out.old hb)
     have HKx15:=Zh (HKx14.out.old hb)
     have HKy15:=Zh (HKy14.out.old hb)
     have HKu15:=Zh (HKu14.out.old hb)
     have HKv15:=Zh (HKv14.out.old hb)
     have HB15:=Zh (Zaf HB14.out hb)
     have HKz15:=Zh (show Blk w15 Dz #[.int .i64 zl,.int .i64 zh] 44 by rw [hw];exact Blk.new' _ _ hD)
     rw [←hD,←hw]
     clear hb hw hD
     obtain ⟨ca0,ca1⟩:=Zom HKa15.out
     obtain ⟨cb0,cb1⟩:=Zom HKb15.out
     obtain ⟨cc0,cc1⟩:=Zom HKc15.out
     obtain ⟨cx0,cx1⟩:=Zom HKx15.out
     obtain ⟨cy0,cy1⟩:=Zom HKy15.out
     obtain ⟨cu0,cu1⟩:=Zom HKu15.out
     obtain ⟨cv0,cv1⟩:=Zom HKv15.out
     obtain ⟨cz0,cz1⟩:=Zom HKz15.out
     have HC:=Zh (show Cs [(⟨S,0,none⟩,.int .i64 al),(⟨S,1,none⟩,.int .i64 ah),(⟨Dz,0,none⟩,.int .i64 zl),(⟨Dz,1,none⟩,.int .i64 zh)] w15.drew from ⟨ca0,ca1,cz0,cz1,trivial⟩)
     have HBd:=Zh (show Below W.heap.size W w15.drew from HB15.out.drew)
     exact j1
  ·have hub:(ue == 0)=false:=by simpa using hu
   go_upto_region 11 with fail
   go_upto_region 12 with (go_at_call 27;have hq:=HB8;clear hq;refine (H4.out _).mono ?_;rintro e w9 ⟨rfl,hb9⟩;have HKa9:=Zh (HKa8.out.old hb9);have HKb9:=Zh (HKb8.out.old hb9);have HKc9:=Zh (HKc8.out.old hb9);have HKx9:=Zh (HKx8.out.old hb9);have HKy9:=Zh (HKy8.out.old hb9);have HKu9:=Zh (HKu8.out.old hb9);have HB9:=Zh (Zaf HB8.out hb9);clear hb9 ca0 ca1 cb0 cb1 cc0 cc1 cx0 cx1 cy0 cy1 cu0 cu1;obtain ⟨ca0,ca1⟩:=Zom HKa9.out;obtain ⟨cb0,cb1⟩:=Zom HKb9.out;obtain ⟨cc0,cc1⟩:=Zom HKc9.out;obtain ⟨cx0,cx1⟩:=Zom HKx9.out;obtain ⟨cy0,cy1⟩:=Zom HKy9.out;obtain ⟨cu0,cu1⟩:=Zom HKu9.out)
   clear ca0 ca1 cb0 cb1 cc0 cc1 cx0 cx1 cy0 cy1 cu0 cu1
   obtain ⟨Dv,hD⟩:∃ D,D=w9.heap.size:=⟨_,rfl⟩
   obtain ⟨w10,hw⟩:∃ w,w=w9.alloc (.cells #[.int .i64 xl,.int .i64 xh] 44):=⟨_,rfl⟩
   have hb:Below w9.heap.size w9 w10:=by rw [hw];exact bE
   have HKa10:=Zh (HKa9.out.old hb)
   have HKb10:=Zh (HKb9.out.old hb)
   have HKc10:=Zh (HKc9.out.old hb)
   have HKx10:=Zh (HKx9.out.old hb)
   have HKy10:=Zh (HKy9.out.old hb)
   have HKu10:=Zh (HKu9.out.old hb)
   have HB10:=Zh (Zaf HB9.out hb)
   have HKv10:=Zh (show Blk w10 Dv #[.int .i64 xl,.int .i64 xh] 44 by rw [hw];exact Blk.new' _ _ hD)
   rw [←hD,←hw]
   clear hb hw hD
   obtain ⟨ca0,ca1⟩:=Zom HKa10.out
   obtain ⟨cb0,cb1⟩:=Zom HKb10.out
   obtain ⟨cc0,cc1⟩:=Zom HKc10.out
   obtain ⟨cx0,cx1⟩:=Zom HKx10.out
   obtain ⟨cy0,cy1⟩:=Zom HKy10.out
   obtain ⟨cu0,cu1⟩:=Zom HKu10.out
   obtain ⟨cv0,cv1⟩:=Zom HKv10.out
   go_upto_region 15 with (go_at_call 29;have hq:=HB10;clear hq;refine (H5.out _).mono ?_;rintro e w11 ⟨rfl,hb11⟩;have HKa11:=Zh (HKa10.out.old hb11);have HKb11:=Zh (HKb10.out.old hb11);have HKc11:=Zh (HKc10.out.old hb11);have HKx11:=Zh (HKx10.out.old hb11);have HKy11:=Zh (HKy10.out.old hb11);have HKu11:=Zh (HKu10.out.old hb11);have HKv11:=Zh (HKv10.out.old hb11);have HB11:=Zh (Zaf HB10.out hb11);clear hb11 ca0 ca1 cb0 cb1 cc0 cc1 cx0 cx1 cy0 cy1 cu0 cu1 cv0 cv1;obtain ⟨ca0,ca1⟩:=Zom HKa11.out;obtain ⟨cb0,cb1⟩:=Zom HKb11.out;obtain ⟨cc0,cc1⟩:=Zom HKc11.out;obtain ⟨cx0,cx1⟩:=Zom HKx11.out;obtain ⟨cy0,cy1⟩:=Zom HKy11.out;obtain ⟨cu0,cu1⟩:=Zom HKu11.out;obtain ⟨cv0,cv1⟩:=Zom HKv11.out)
   clear ca0 ca1 cb0 cb1 cc0 cc1 cx0 cx1 cy0 cy1 cu0 cu1 cv0 cv1
   obtain ⟨Dz,hD⟩:∃ D,D=w11.heap.size:=⟨_,rfl⟩
   obtain ⟨w12,hw⟩:∃ w,w=w11.alloc (.cells #[.int .i64 zl,.int .i64 zh] 44):=⟨_,rfl⟩
   have hb:Below w11.heap.size w11 w12:=by rw [hw];exact bE
   have HKa12:=Zh (HKa11.out.old hb)
   have HKb12:=Zh (HKb11.out.old hb)
   have HKc12:=Zh (HKc11.out.old hb)
   have HKx12:=Zh (HKx11.out.old hb)
   have HKy12:=Zh (HKy11.out.old hb)
   have HKu12:=Zh (HKu11.out.old hb)
   have HKv12:=Zh (HKv11.out.old hb)
   have HB12:=Zh (Zaf HB11.out hb)
   have HKz12:=Zh (show Blk w12 Dz #[.int .i64 zl,.int .i64 zh] 44 by rw [hw];exact Blk.new' _ _ hD)
   rw [←hD,←hw]
   clear hb hw hD
   obtain ⟨ca0,ca1⟩:=Zom HKa12.out
   obtain ⟨cb0,cb1⟩:=Zom HKb12.out
   obtain ⟨cc0,cc1⟩:=Zom HKc12.out
   obtain ⟨cx0,cx1⟩:=Zom HKx12.out
   obtain ⟨cy0,cy1⟩:=Zom HKy12.out
   obtain ⟨cu0,cu1⟩:=Zom HKu12.out
   obtain ⟨cv0,cv1⟩:=Zom HKv12.out
   obtain ⟨cz0,cz1⟩:=Zom HKz12.out
   have HC:=Zh (show Cs [(⟨S,0,none⟩,.int .i64 al),(⟨S,1,none⟩,.int .i64 ah),(⟨Dz,0,none⟩,.int .i64 zl),(⟨Dz,1,none⟩,.int .i64 zh)] w12.drew from ⟨ca0,ca1,cz0,cz1,trivial⟩)
   have HBd:=Zh (show Below W.heap.size W w12.drew from HB12.out.drew)
   exact j1
end
end Go.Proofs.YtcfjblcgceednaaGreat
