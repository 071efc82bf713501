/- Joined texts. The first: isochronlaw19.sane: a run of four instructions. -/
import Derived.Test.YtcfjblcgceednaaGreatR25
import Derived.Test.YtcfjblcgceednaaGreatR24
import Derived.Laws.CopyOwn
import Derived.Test.YtcfjblcgceednaaGreatR26
set_option linter.all false
set_option linter.unusedVariables false
set_option linter.unusedSimpArgs false
set_option maxRecDepth 100000
set_option maxHeartbeats 16000000
namespace Go.Proofs.YtcfjblcgceednaaGreat
section
open Go.RowKit
attribute [local go_sem] World.cell?_alloc_some
theorem Zpc (w:World):Calls Tryz.prog 145 #[.int .i64 11,.int .i64 2,.int .i64 3] w fun e w'=>e=.returned (.tuple #[.int .i64 5,.bool true])∧Below w.heap.size w w':=by
 have HA:=Zh (fun w'=>(Znj 2 3 w' (by kernel_rfl)).mono fun e w'' h=>show e=.returned (.tuple #[.int .i64 5,.int .i64 0])∧Below w'.heap.size w' w'' by
  have e5:wrap32 (2+3)=5:=by kernel_rfl
  rw [e5] at h
  exact h)
 go_enter Tryz.func145,Tryz.ntmps145
 go_wp2_with (go_at_call 209;refine (HA.out _).mono ?_;rintro e w1 ⟨rfl,hb1⟩)
 go_ret2
 exact ⟨rfl,hb1⟩
def Zpd (d:Int):Int:=if d=0 then 0 else 1
theorem Zpe (x:Ins) (w:World) (hd:x.d=0∨x.d=1∨x.d=11):Calls Tryz.prog 144 #[.agg #[.int .i64 x.d,.int .i64 x.a,.int .i64 x.b,.int .i64 x.c]] w fun e w'=>e=.returned (.tuple #[.int .i64 (Zpd x.d),.int .i64 0])∧Below w.heap.size w w':=by
 obtain ⟨d,a,b,c⟩:=x
 dsimp only at hd ⊢
 rcases hd with rfl|rfl|rfl
 all_goals
  go_enter Tryz.func144,Tryz.ntmps144
  go_wp2
  go_ret2
  exact ⟨rfl,by exact bE⟩
def Zpf:Cd:=⟨[⟨1,0,2,0⟩,⟨1,1,3,0⟩,⟨11,2,0,1⟩,⟨0,2,0,0⟩],[-1,-1,-1,-1]⟩
theorem Zpg:Znr Zpf=true:=by decide
def Zph (k:Nat) (ov:Bool) (n:Int):Array Value:=#[.bool ov,.int .i64 n,.int .i64 0,.int .i64 k,.slice none 0 0]
def Zpi (a b c:Int):Array Value:=#[.int .i64 a,.int .i64 b,.int .i64 c]++Array.replicate 37 (.int .i64 0)
theorem Zpj (W:World) (lo:Option Addr) (lc:Nat) (ho:Option Addr) (hc:Nat) (H:Zno W lo lc ho hc Zpf):Calls Tryz.prog 81 #[.agg #[.slice lo 4 lc,.slice ho 4 hc],.slice none 0 0,.int .i64 10] W fun e w'=>e=.returned (.tuple #[.agg (Zph 3 true 5),.int .i64 0])∧Below W.heap.size W w':=by
 have HH:=Zh H
 have HV:=Zh (fun w' (hb:Below W.heap.size W w')=>ZnF w' lo lc ho hc Zpf (HH.out.old hb))
 rw [Zpg] at HV
 have HCon:=Zh (fun w'=>Zdr [] none 0 142 #[] (fun _=>false) w' (by simp) (Zar.nil _) (fun A W=>by kernel_rfl) (fun j hj=>by simp at hj))
 clear H
 go_enter Tryz.func81,Tryz.ntmps81
 go_upto_region 3 with (first
  | (go_at_call 141;refine (HV.out _ bE).mono ?_;rintro e w1 ⟨rfl,hb1⟩;have HB1:=Zh hb1;clear hb1)
  | (go_at_call 117;refine (HCon.out _).mono ?_;rintro e w2 ⟨rfl,hb2⟩;have HB2:=Zh (Zaf HB1.out hb2);clear hb2))
 obtain ⟨S,hS⟩:∃ S,S=W.heap.size:=⟨_,rfl⟩
 obtain ⟨w0,hw0⟩:∃ w0,w0=(W.alloc (.cells #[.slice lo 4 lc,.slice ho 4 hc] 111)).alloc (.cells (Zph 0 false 0) 112):=⟨_,rfl⟩
 have hb0:Below W.heap.size W w0:=by rw [hw0];exact bE
 have hb2:Below w0.heap.size w0 w2:=by rw [hw0];exact HB2.out
 have hc0:Blk w0 S #[.slice lo 4 lc,.slice ho 4 hc] 111:=by rw [hw0,hS];exact (Blk.new W _ _).alloc _
 have hr0:Blk w0 (S+1) (Zph 0 false 0) 112:=by rw [hw0];exact Blk.new' _ _ (by simp [hS])
 have HCb:=Zh (hc0.old hb2)
 have HRb:=Zh (hr0.old hb2)
 have HBw:=Zh (Zaf hb0 hb2)
 have HSw:=Zh hS
 rw [←hS]
 clear hS hw0 hb0 hb2 hc0 hr0 HB1 HB2 w1
 go_upto_region 7 with (refine wpList_copy_nothing rfl (.tmp 39) (.tmp 40) 34 34 rfl 3 Tryz.underlying34 (by kernel_rfl) _ _ _ _ _ _ rfl rfl (by simp) ?_)
 obtain ⟨G,hG⟩:∃ G,G=w2.heap.size:=⟨_,rfl⟩
 obtain ⟨w3,hw3⟩:∃ w3,w3=w2.alloc (.cells (Zpi 0 0 0) 178):=⟨_,rfl⟩
 have hb3:Below w2.heap.size w2 w3:=by rw [hw3];exact bE
 have hg3:Blk w3 G (Zpi 0 0 0) 178:=by rw [hw3];exact Blk.new' _ _ hG
 have HC3:=Zh (HCb.out.old hb3)
 have HR3:=Zh (HRb.out.old hb3)
 have HG3:=Zh hg3
 have HB3:=Zh (Zaf HBw.out hb3)
 have HGs:=Zh (show S+1<G by rw [hG];exact HRb.out.lt)
 rw [←hG]
 generalize hq:w2.alloc _=w4
 obtain rfl:w4=w3:=by rw [←hq,hw3];rfl
 clear hq hw3 hb3 hg3 hG HCb HRb HBw HCon HV
 go_loopw [9,10] (fun p i wr=>∃ k:Nat,k≤4∧p=.int .i64 k∧i=.int .i64 k∧Hid (Blk wr S #[.slice lo 4 lc,.slice ho 4 hc] 111)∧Hid (Blk wr (S+1) (if k<4 then Zph k false 0 else Zph 3 true 5) 112)∧Hid (Blk wr G (Zpi (if 0<k then 2 else 0) (if 1<k then 3 else 0) (if 2<k then 5 else 0)) 178)∧Hid (Below W.heap.size W wr)) (fun _ i _=>4-(intOf i).toNat)
 case atStart=>exact ⟨0,by decide,rfl,rfl,HC3.out,HR3.out,HG3.out,HB3.out⟩
 case round=>
  obtain ⟨k,hk,rfl,rfl,HC,HR,HG,HB⟩:=hrel
  rename World=>wo
  have hk5:k=0∨k=1∨k=2∨k=3∨k=4:=by omega
  have hi:=fun (j:Nat) (hj:j<4)=>((HH.out.l).old HB.out).cell (i:=j) hj
  have c0:=HC.out.cell 0 (v:=.slice lo 4 lc) rfl
  have HI:=Zh hi
  have hgs:=HGs.out
  clear hi
  rcases hk5 with rfl|rfl|rfl|rfl|rfl
  ·have hR:Blk wo (S+1) (Zph 0 false 0) 112:=HR.out
   have hG:Blk wo G (Zpi 0 0 0) 178:=HG.out
   obtain ⟨ad,rfl,t0,t1,t2,t3⟩:=HI.out 0 (by decide)
   have t0:wo.cell? ad=some (.int .i64 1):=t0
   have t1:wo.cell? ⟨ad.block,ad.off+1,none⟩=some (.int .i64 0):=t1
   have t2:wo.cell? ⟨ad.block,ad.off+2,none⟩=some (.int .i64 2):=t2
   have t3:wo.cell? ⟨ad.block,ad.off+3,none⟩=some (.int .i64 0):=t3
   have r0:=hR.cell 0 (v:=.bool false) rfl
   obtain ⟨X,hX⟩:∃ X,X=wo.heap.size:=⟨_,rfl⟩
   have hb4:Below wo.heap.size wo (wo.alloc (.cells #[.int .i64 1,.int .i64 0,.int .i64 2,.int .i64 0] 108)):=by exact bE
   have HX4:=Zh (show Blk (wo.alloc (.cells #[.int .i64 1,.int .i64 0,.int .i64 2,.int .i64 0] 108)) X #[.int .i64 1,.int .i64 0,.int .i64 2,.int .i64 0] 108 by rw [hX];exact Blk.new _ _ _)
   have HR4:=Zh (hR.old hb4)
   have HG4:=Zh (hG.old hb4)
   have HC4:=Zh (HC.out.old hb4)
   have HB4:=Zh (Zaf HB.out hb4)
   have HXl:=Zh (show S+1<X∧G<X by rw [hX];exact ⟨hR.lt,hG.lt⟩)
   have HXq:=Zh hX
   clear hR hG hb4 hX
   go_upto_region 10 with fail
   rw [←HXq.out]
   clear t0 t1 t2 t3 r0 c0
   generalize wo.alloc (.cells #[.int .i64 1,.int .i64 0,.int .i64 2,.int .i64 0] 108)=w4 at HX4 HR4 HG4 HC4 HB4 ⊢
   have x0:=HX4.out.cell 0 (v:=.int .i64 1) rfl
   have x1:=HX4.out.cell 1 (v:=.int .i64 0) rfl
   have x2:=HX4.out.cell 2 (v:=.int .i64 2) rfl
   have x3:=HX4.out.cell 3 (v:=.int .i64 0) rfl
   go_upto_region 11 with (go_at_call 144;refine (Zpe ⟨1,0,2,0⟩ _ (by decide)).mono ?_;rintro e w5 ⟨rfl,hb5⟩;have HX5:=Zh (HX4.out.old hb5);have HR5:=Zh (HR4.out.old hb5);have HG5:=Zh (HG4.out.old hb5);have HC5:=Zh (HC4.out.old hb5);have HB5:=Zh (Zaf HB4.out hb5);clear hb5 x0 x1 x2 x3)
   rw [show Zpd 1=1 from rfl]
   have r3:=HR5.out.cell 3 (v:=.int .i64 0) rfl
   have rf3:=HR5.out.frozen 3
   have rl:=HR5.out.lt
   have hwc:IntKind.i64.wrap (0+1)=1:=by decide
   go_upto_region 12 with fail
   have HR6:=Zh (show Blk (w5.setCell ⟨S+1,3,none⟩ (.int .i64 1)) (S+1) (Zph 1 false 0) 112 from HR5.out.set 3 (.int .i64 1))
   have HX6:=Zh (HX5.out.other (a:=⟨S+1,3,none⟩) (by have:=HXl.out;show X≠S+1;omega) (.int .i64 1))
   have HG6:=Zh (HG5.out.other (a:=⟨S+1,3,none⟩) (by show G≠S+1;omega) (.int .i64 1))
   have HC6:=Zh (HC5.out.other (a:=⟨S+1,3,none⟩) (by show S≠S+1;omega) (.int .i64 1))
   have HB6:=Zh (ZcW (j:=3) HB5.out (b:=S+1) (by have:=HSw.out;omega) (.int .i64 1))
   generalize w5.setCell ⟨S+1,3,none⟩ (.int .i64 1)=w6 at HR6 HX6 HG6 HC6 HB6 ⊢
   clear r3 rf3 rl hwc
   have x0:=HX6.out.cell 0 (v:=.int .i64 1) rfl
   have x1:=HX6.out.cell 1 (v:=.int .i64 0) rfl
   have x2:=HX6.out.cell 2 (v:=.int .i64 2) rfl
   have x3:=HX6.out.cell 3 (v:=.int .i64 0) rfl
   have g0:=HG6.out.cell 0 (v:=.int .i64 0) rfl
   have gf:=HG6.out.frozen 0
   have gl:=HG6.out.lt
   go_upto_region 42 with fail
   have HG7:=Zh (show Blk (w6.setCell ⟨G,0,none⟩ (.int .i64 2)) G (Zpi 2 0 0) 178 from HG6.out.set 0 (.int .i64 2))
   have HR7:=Zh (HR6.out.other (a:=⟨G,0,none⟩) (by show S+1≠G;omega) (.int .i64 2))
   have HC7:=Zh (HC6.out.other (a:=⟨G,0,none⟩) (by show S≠G;omega) (.int .i64 2))
   have HB7:=Zh (ZcW (j:=0) HB6.out (b:=G) (by have:=HSw.out;omega) (.int .i64 2))
   generalize w6.setCell ⟨G,0,none⟩ (.int .i64 2)=w7 at HR7 HG7 HC7 HB7 ⊢
   clear x0 x1 x2 x3 g0 gf gl
   have r0:=HR7.out.cell 0 (v:=.bool false) rfl
   have rf0:=HR7.out.frozen 0
   have rl:=HR7.out.lt
   have c0:=HC7.out.cell 0 (v:=.slice (some ad) 4 lc) rfl
   have hwk:IntKind.i64.wrap (0+1)=1:=by decide
   go_wp2
   exact ⟨⟨1,by decide,rfl,rfl,HC7.out.other (a:=⟨S+1,0,none⟩) (by show S≠S+1;omega) (.bool false),(show Blk _ _ (Zph 1 false 0) _ from HR7.out.set 0 (.bool false)),(show Blk _ _ (Zpi 2 0 0) _ from HG7.out.other (a:=⟨S+1,0,none⟩) (by show G≠S+1;omega) (.bool false)),ZcW (j:=0) HB7.out (b:=S+1) (by have:=HSw.out;omega) (.bool false)⟩,by simp [intOf]⟩
  ·have hR:Blk wo (S+1) (Zph 1 false 0) 112:=HR.out
   have hG:Blk wo G (Zpi 2 0 0) 178:=HG.out
   obtain ⟨ad,rfl,t0,t1,t2,t3⟩:=HI.out 1 (by decide)
   have t0:wo.cell? ⟨ad.block,ad.off+4,none⟩=some (.int .i64 1):=t0
   have t1:wo.cell? ⟨ad.block,ad.off+5,none⟩=some (.int .i64 1):=t1
   have t2:wo.cell? ⟨ad.block,ad.off+6,none⟩=some (.int .i64 3):=t2
   have t3:wo.cell? ⟨ad.block,ad.off+7,none⟩=some (.int .i64 0):=t3
   have r0:=hR.cell 0 (v:=.bool false) rfl
   obtain ⟨X,hX⟩:∃ X,X=wo.heap.size:=⟨_,rfl⟩
   have hb4:Below wo.heap.size wo (wo.alloc (.cells #[.int .i64 1,.int .i64 1,.int .i64 3,.int .i64 0] 108)):=by exact bE
   have HX4:=Zh (show Blk (wo.alloc (.cells #[.int .i64 1,.int .i64 1,.int .i64 3,.int .i64 0] 108)) X #[.int .i64 1,.int .i64 1,.int .i64 3,.int .i64 0] 108 by rw [hX];exact Blk.new _ _ _)
   have HR4:=Zh (hR.old hb4)
   have HG4:=Zh (hG.old hb4)
   have HC4:=Zh (HC.out.old hb4)
   have HB4:=Zh (Zaf HB.out hb4)
   have HXl:=Zh (show S+1<X∧G<X by rw [hX];exact ⟨hR.lt,hG.lt⟩)
   have HXq:=Zh hX
   clear hR hG hb4 hX
   go_upto_region 10 with fail
   rw [←HXq.out]
   clear t0 t1 t2 t3 r0 c0
   generalize wo.alloc (.cells #[.int .i64 1,.int .i64 1,.int .i64 3,.int .i64 0] 108)=w4 at HX4 HR4 HG4 HC4 HB4 ⊢
   have x0:=HX4.out.cell 0 (v:=.int .i64 1) rfl
   have x1:=HX4.out.cell 1 (v:=.int .i64 1) rfl
   have x2:=HX4.out.cell 2 (v:=.int .i64 3) rfl
   have x3:=HX4.out.cell 3 (v:=.int .i64 0) rfl
   go_upto_region 11 with (go_at_call 144;refine (Zpe ⟨1,1,3,0⟩ _ (by decide)).mono ?_;rintro e w5 ⟨rfl,hb5⟩;have HX5:=Zh (HX4.out.old hb5);have HR5:=Zh (HR4.out.old hb5);have HG5:=Zh (HG4.out.old hb5);have HC5:=Zh (HC4.out.old hb5);have HB5:=Zh (Zaf HB4.out hb5);clear hb5 x0 x1 x2 x3)
   rw [show Zpd 1=1 from rfl]
   have r3:=HR5.out.cell 3 (v:=.int .i64 1) rfl
   have rf3:=HR5.out.frozen 3
   have rl:=HR5.out.lt
   have hwc:IntKind.i64.wrap (1+1)=2:=by decide
   go_upto_region 12 with fail
   have HR6:=Zh (show Blk (w5.setCell ⟨S+1,3,none⟩ (.int .i64 2)) (S+1) (Zph 2 false 0) 112 from HR5.out.set 3 (.int .i64 2))
   have HX6:=Zh (HX5.out.other (a:=⟨S+1,3,none⟩) (by have:=HXl.out;show X≠S+1;omega) (.int .i64 2))
   have HG6:=Zh (HG5.out.other (a:=⟨S+1,3,none⟩) (by show G≠S+1;omega) (.int .i64 2))
   have HC6:=Zh (HC5.out.other (a:=⟨S+1,3,none⟩) (by show S≠S+1;omega) (.int .i64 2))
   have HB6:=Zh (ZcW (j:=3) HB5.out (b:=S+1) (by have:=HSw.out;omega) (.int .i64 2))
   generalize w5.setCell ⟨S+1,3,none⟩ (.int .i64 2)=w6 at HR6 HX6 HG6 HC6 HB6 ⊢
   clear r3 rf3 rl hwc
   have x0:=HX6.out.cell 0 (v:=.int .i64 1) rfl
   have x1:=HX6.out.cell 1 (v:=.int .i64 1) rfl
   have x2:=HX6.out.cell 2 (v:=.int .i64 3) rfl
   have x3:=HX6.out.cell 3 (v:=.int .i64 0) rfl
   have g0:=HG6.out.cell 1 (v:=.int .i64 0) rfl
   have gf:=HG6.out.frozen 1
   have gl:=HG6.out.lt
   go_upto_region 42 with fail
   have HG7:=Zh (show Blk (w6.setCell ⟨G,1,none⟩ (.int .i64 3)) G (Zpi 2 3 0) 178 from HG6.out.set 1 (.int .i64 3))
   have HR7:=Zh (HR6.out.other (a:=⟨G,1,none⟩) (by show S+1≠G;omega) (.int .i64 3))
   have HC7:=Zh (HC6.out.other (a:=⟨G,1,none⟩) (by show S≠G;omega) (.int .i64 3))
   have HB7:=Zh (ZcW (j:=1) HB6.out (b:=G) (by have:=HSw.out;omega) (.int .i64 3))
   generalize w6.setCell ⟨G,1,none⟩ (.int .i64 3)=w7 at HR7 HG7 HC7 HB7 ⊢
   clear x0 x1 x2 x3 g0 gf gl
   have r0:=HR7.out.cell 0 (v:=.bool false) rfl
   have rf0:=HR7.out.frozen 0
   have rl:=HR7.out.lt
   have c0:=HC7.out.cell 0 (v:=.slice (some ad) 4 lc) rfl
   have hwk:IntKind.i64.wrap (1+1)=2:=by decide
   go_wp2
   exact ⟨⟨2,by decide,rfl,rfl,HC7.out.other (a:=⟨S+1,0,none⟩) (by show S≠S+1;omega) (.bool false),(show Blk _ _ (Zph 2 false 0) _ from HR7.out.set 0 (.bool false)),(show Blk _ _ (Zpi 2 3 0) _ from HG7.out.other (a:=⟨S+1,0,none⟩) (by show G≠S+1;omega) (.bool false)),ZcW (j:=0) HB7.out (b:=S+1) (by have:=HSw.out;omega) (.bool false)⟩,by simp [intOf]⟩
  ·have hR:Blk wo (S+1) (Zph 2 false 0) 112:=HR.out
   have hG:Blk wo G (Zpi 2 3 0) 178:=HG.out
   obtain ⟨ad,rfl,t0,t1,t2,t3⟩:=HI.out 2 (by decide)
   have t0:wo.cell? ⟨ad.block,ad.off+8,none⟩=some (.int .i64 11):=t0
   have t1:wo.cell? ⟨ad.block,ad.off+9,none⟩=some (.int .i64 2):=t1
   have t2:wo.cell? ⟨ad.block,ad.off+10,none⟩=some (.int .i64 0):=t2
   have t3:wo.cell? ⟨ad.block,ad.off+11,none⟩=some (.int .i64 1):=t3
   have r0:=hR.cell 0 (v:=.bool false) rfl
   obtain ⟨X,hX⟩:∃ X,X=wo.heap.size:=⟨_,rfl⟩
   have hb4:Below wo.heap.size wo (wo.alloc (.cells #[.int .i64 11,.int .i64 2,.int .i64 0,.int .i64 1] 108)):=by exact bE
   have HX4:=Zh (show Blk (wo.alloc (.cells #[.int .i64 11,.int .i64 2,.int .i64 0,.int .i64 1] 108)) X #[.int .i64 11,.int .i64 2,.int .i64 0,.int .i64 1] 108 by rw [hX];exact Blk.new _ _ _)
   have HR4:=Zh (hR.old hb4)
   have HG4:=Zh (hG.old hb4)
   have HC4:=Zh (HC.out.old hb4)
   have HB4:=Zh (Zaf HB.out hb4)
   have HXl:=Zh (show S+1<X∧G<X by rw [hX];exact ⟨hR.lt,hG.lt⟩)
   have HXq:=Zh hX
   clear hR hG hb4 hX
   go_upto_region 10 with fail
   rw [←HXq.out]
   clear t0 t1 t2 t3 r0 c0
   generalize wo.alloc (.cells #[.int .i64 11,.int .i64 2,.int .i64 0,.int .i64 1] 108)=w4 at HX4 HR4 HG4 HC4 HB4 ⊢
   have x0:=HX4.out.cell 0 (v:=.int .i64 11) rfl
   have x1:=HX4.out.cell 1 (v:=.int .i64 2) rfl
   have x2:=HX4.out.cell 2 (v:=.int .i64 0) rfl
   have x3:=HX4.out.cell 3 (v:=.int .i64 1) rfl
   go_upto_region 11 with (go_at_call 144;refine (Zpe ⟨11,2,0,1⟩ _ (by decide)).mono ?_;rintro e w5 ⟨rfl,hb5⟩;have HX5:=Zh (HX4.out.old hb5);have HR5:=Zh (HR4.out.old hb5);have HG5:=Zh (HG4.out.old hb5);have HC5:=Zh (HC4.out.old hb5);have HB5:=Zh (Zaf HB4.out hb5);clear hb5 x0 x1 x2 x3)
   rw [show Zpd 11=1 from rfl]
   have r3:=HR5.out.cell 3 (v:=.int .i64 2) rfl
   have rf3:=HR5.out.frozen 3
   have rl:=HR5.out.lt
   have hwc:IntKind.i64.wrap (2+1)=3:=by decide
   go_upto_region 12 with fail
   have HR6:=Zh (show Blk (w5.setCell ⟨S+1,3,none⟩ (.int .i64 3)) (S+1) (Zph 3 false 0) 112 from HR5.out.set 3 (.int .i64 3))
   have HX6:=Zh (HX5.out.other (a:=⟨S+1,3,none⟩) (by have:=HXl.out;show X≠S+1;omega) (.int .i64 3))
   have HG6:=Zh (HG5.out.other (a:=⟨S+1,3,none⟩) (by show G≠S+1;omega) (.int .i64 3))
   have HC6:=Zh (HC5.out.other (a:=⟨S+1,3,none⟩) (by show S≠S+1;omega) (.int .i64 3))
   have HB6:=Zh (ZcW (j:=3) HB5.out (b:=S+1) (by have:=HSw.out;omega) (.int .i64 3))
   generalize w5.setCell ⟨S+1,3,none⟩ (.int .i64 3)=w6 at HR6 HX6 HG6 HC6 HB6 ⊢
   clear r3 rf3 rl hwc
   have x0:=HX6.out.cell 0 (v:=.int .i64 11) rfl
   have x1:=HX6.out.cell 1 (v:=.int .i64 2) rfl
   have x2:=HX6.out.cell 2 (v:=.int .i64 0) rfl
   have x3:=HX6.out.cell 3 (v:=.int .i64 1) rfl
   have g0:=HG6.out.cell 0 (v:=.int .i64 2) rfl
   have g1:=HG6.out.cell 1 (v:=.int .i64 3) rfl
   go_upto_region 14 with fail
   refine rO (Cs [(⟨X,0,none⟩,.int .i64 11),(⟨X,2,none⟩,.int .i64 0),(⟨X,3,none⟩,.int .i64 1),(⟨G,0,none⟩,.int .i64 2),(⟨G,1,none⟩,.int .i64 3)]) (oL [0,1,2,3,4,5,6,7,8,9,110,11,12,13,14,15]) ⟨x0,x2,x3,g0,g1,trivial⟩ ?_
   repeat refine pO ?_
   refine oO fun Kv hK=>?_
   go_simp
   refine (Zpc _).mono ?_
   rintro e w8 ⟨rfl,hb8⟩
   have HX8:=Zh (HX6.out.drew.old hb8)
   have HR8:=Zh (HR6.out.drew.old hb8)
   have HG8:=Zh (HG6.out.drew.old hb8)
   have HC8:=Zh (HC6.out.drew.old hb8)
   have HB8:=Zh (Zaf HB6.out.drew hb8)
   refine hK _ _ ⟨⟨HX8.out.cell 0 rfl,HX8.out.cell 2 rfl,HX8.out.cell 3 rfl,HG8.out.cell 0 rfl,HG8.out.cell 1 rfl,trivial⟩,?_⟩
   clear hK Kv hb8 x0 x1 x2 x3 g0 g1
   repeat refine pO ?_
   refine Zd5 ?_
   have x1:=HX8.out.cell 1 (v:=.int .i64 2) rfl
   have g2:=HG8.out.cell 2 (v:=.int .i64 0) rfl
   have gf:=HG8.out.frozen 2
   have gl:=HG8.out.lt
   go_upto_region 42 with fail
   have HG7:=Zh (show Blk (w8.setCell ⟨G,2,none⟩ (.int .i64 5)) G (Zpi 2 3 5) 178 from HG8.out.set 2 (.int .i64 5))
   have HR7:=Zh (HR8.out.other (a:=⟨G,2,none⟩) (by show S+1≠G;omega) (.int .i64 5))
   have HC7:=Zh (HC8.out.other (a:=⟨G,2,none⟩) (by show S≠G;omega) (.int .i64 5))
   have HB7:=Zh (ZcW (j:=2) HB8.out (b:=G) (by have:=HSw.out;omega) (.int .i64 5))
   generalize w8.setCell ⟨G,2,none⟩ (.int .i64 5)=w7 at HR7 HG7 HC7 HB7 ⊢
   clear x1 g2 gf gl
   have r0:=HR7.out.cell 0 (v:=.bool false) rfl
   have rf0:=HR7.out.frozen 0
   have rl:=HR7.out.lt
   have c0:=HC7.out.cell 0 (v:=.slice (some ad) 4 lc) rfl
   have hwk:IntKind.i64.wrap (2+1)=3:=by decide
   go_wp2
   exact ⟨⟨3,by decide,rfl,rfl,HC7.out.other (a:=⟨S+1,0,none⟩) (by show S≠S+1;omega) (.bool false),(show Blk _ _ (Zph 3 false 0) _ from HR7.out.set 0 (.bool false)),(show Blk _ _ (Zpi 2 3 5) _ from HG7.out.other (a:=⟨S+1,0,none⟩) (by show G≠S+1;omega) (.bool false)),ZcW (j:=0) HB7.out (b:=S+1) (by have:=HSw.out;omega) (.bool false)⟩,by simp [intOf]⟩
  ·have hR:Blk wo (S+1) (Zph 3 false 0) 112:=HR.out
   have hG:Blk wo G (Zpi 2 3 5) 178:=HG.out
   obtain ⟨ad,rfl,t0,t1,t2,t3⟩:=HI.out 3 (by decide)
   have t0:wo.cell? ⟨ad.block,ad.off+12,none⟩=some (.int .i64 0):=t0
   have t1:wo.cell? ⟨ad.block,ad.off+13,none⟩=some (.int .i64 2):=t1
   have t2:wo.cell? ⟨ad.block,ad.off+14,none⟩=some (.int .i64 0):=t2
   have t3:wo.cell? ⟨ad.block,ad.off+15,none⟩=some (.int .i64 0):=t3
   have r0:=hR.cell 0 (v:=.bool false) rfl
   obtain ⟨X,hX⟩:∃ X,X=wo.heap.size:=⟨_,rfl⟩
   have hb4:Below wo.heap.size wo (wo.alloc (.cells #[.int .i64 0,.int .i64 2,.int .i64 0,.int .i64 0] 108)):=by exact bE
   have HX4:=Zh (show Blk (wo.alloc (.cells #[.int .i64 0,.int .i64 2,.int .i64 0,.int .i64 0] 108)) X #[.int .i64 0,.int .i64 2,.int .i64 0,.int .i64 0] 108 by rw [hX];exact Blk.new _ _ _)
   have HR4:=Zh (hR.old hb4)
   have HG4:=Zh (hG.old hb4)
   have HC4:=Zh (HC.out.old hb4)
   have HB4:=Zh (Zaf HB.out hb4)
   have HXl:=Zh (show S+1<X∧G<X by rw [hX];exact ⟨hR.lt,hG.lt⟩)
   have HXq:=Zh hX
   clear hR hG hb4 hX
   go_upto_region 10 with fail
   rw [←HXq.out]
   clear t0 t1 t2 t3 r0 c0
   generalize wo.alloc (.cells #[.int .i64 0,.int .i64 2,.int .i64 0,.int .i64 0] 108)=w4 at HX4 HR4 HG4 HC4 HB4 ⊢
   have x0:=HX4.out.cell 0 (v:=.int .i64 0) rfl
   have x1:=HX4.out.cell 1 (v:=.int .i64 2) rfl
   have x2:=HX4.out.cell 2 (v:=.int .i64 0) rfl
   have x3:=HX4.out.cell 3 (v:=.int .i64 0) rfl
   go_upto_region 11 with (go_at_call 144;refine (Zpe ⟨0,2,0,0⟩ _ (by decide)).mono ?_;rintro e w5 ⟨rfl,hb5⟩;have HX5:=Zh (HX4.out.old hb5);have HR5:=Zh (HR4.out.old hb5);have HG5:=Zh (HG4.out.old hb5);have HC5:=Zh (HC4.out.old hb5);have HB5:=Zh (Zaf HB4.out hb5);clear hb5 x0 x1 x2 x3)
   rw [show Zpd 0=0 from rfl]
   have r3:=HR5.out.cell 3 (v:=.int .i64 3) rfl
   have rf3:=HR5.out.frozen 3
   have rl:=HR5.out.lt
   have hwc:IntKind.i64.wrap (3+0)=3:=by decide
   go_upto_region 12 with fail
   have HR6:=Zh (show Blk (w5.setCell ⟨S+1,3,none⟩ (.int .i64 3)) (S+1) (Zph 3 false 0) 112 from HR5.out.set 3 (.int .i64 3))
   have HX6:=Zh (HX5.out.other (a:=⟨S+1,3,none⟩) (by have:=HXl.out;show X≠S+1;omega) (.int .i64 3))
   have HG6:=Zh (HG5.out.other (a:=⟨S+1,3,none⟩) (by show G≠S+1;omega) (.int .i64 3))
   have HC6:=Zh (HC5.out.other (a:=⟨S+1,3,none⟩) (by show S≠S+1;omega) (.int .i64 3))
   have HB6:=Zh (ZcW (j:=3) HB5.out (b:=S+1) (by have:=HSw.out;omega) (.int .i64 3))
   generalize w5.setCell ⟨S+1,3,none⟩ (.int .i64 3)=w6 at HR6 HX6 HG6 HC6 HB6 ⊢
   clear r3 rf3 rl hwc
   have x0:=HX6.out.cell 0 (v:=.int .i64 0) rfl
   have x1:=HX6.out.cell 1 (v:=.int .i64 2) rfl
   have x2:=HX6.out.cell 2 (v:=.int .i64 0) rfl
   have x3:=HX6.out.cell 3 (v:=.int .i64 0) rfl
   have r0:=HR6.out.cell 0 (v:=.bool false) rfl
   have rf0:=HR6.out.frozen 0
   have rl:=HR6.out.lt
   go_upto_region 20 with fail
   have HR8:=Zh (show Blk (w6.setCell ⟨S+1,0,none⟩ (.bool true)) (S+1) (Zph 3 true 0) 112 from HR6.out.set 0 (.bool true))
   have HX8:=Zh (HX6.out.other (a:=⟨S+1,0,none⟩) (by have:=HXl.out;show X≠S+1;omega) (.bool true))
   have HG8:=Zh (HG6.out.other (a:=⟨S+1,0,none⟩) (by show G≠S+1;omega) (.bool true))
   have HC8:=Zh (HC6.out.other (a:=⟨S+1,0,none⟩) (by show S≠S+1;omega) (.bool true))
   have HB8:=Zh (ZcW (j:=0) HB6.out (b:=S+1) (by have:=HSw.out;omega) (.bool true))
   generalize w6.setCell ⟨S+1,0,none⟩ (.bool true)=w8 at HR8 HX8 HG8 HC8 HB8 ⊢
   clear r0 rf0 rl x0 x1 x2 x3
   have x1:=HX8.out.cell 1 (v:=.int .i64 2) rfl
   have g2:=HG8.out.cell 2 (v:=.int .i64 5) rfl
   have r1:=HR8.out.cell 1 (v:=.int .i64 0) rfl
   have rf1:=HR8.out.frozen 1
   have rl:=HR8.out.lt
   go_upto_region 42 with fail
   have HR7:=Zh (show Blk (w8.setCell ⟨S+1,1,none⟩ (.int .i64 5)) (S+1) (Zph 3 true 5) 112 from HR8.out.set 1 (.int .i64 5))
   have HG7:=Zh (HG8.out.other (a:=⟨S+1,1,none⟩) (by show G≠S+1;omega) (.int .i64 5))
   have HC7:=Zh (HC8.out.other (a:=⟨S+1,1,none⟩) (by show S≠S+1;omega) (.int .i64 5))
   have HB7:=Zh (ZcW (j:=1) HB8.out (b:=S+1) (by have:=HSw.out;omega) (.int .i64 5))
   generalize w8.setCell ⟨S+1,1,none⟩ (.int .i64 5)=w7 at HR7 HG7 HC7 HB7 ⊢
   clear x1 g2 r1 rf1 rl
   have r0:=HR7.out.cell 0 (v:=.bool true) rfl
   have rf0:=HR7.out.frozen 0
   have rl:=HR7.out.lt
   have c0:=HC7.out.cell 0 (v:=.slice (some ad) 4 lc) rfl
   have hwk:IntKind.i64.wrap (3+1)=4:=by decide
   go_wp2
   exact ⟨⟨4,by decide,rfl,rfl,HC7.out.other (a:=⟨S+1,0,none⟩) (by show S≠S+1;omega) (.bool true),(show Blk _ _ (Zph 3 true 5) _ from HR7.out.set 0 (.bool true)),(show Blk _ _ (Zpi 2 3 5) _ from HG7.out.other (a:=⟨S+1,0,none⟩) (by show G≠S+1;omega) (.bool true)),ZcW (j:=0) HB7.out (b:=S+1) (by have:=HSw.out;omega) (.bool true)⟩,by simp [intOf]⟩
  ·have hR:Blk wo (S+1) (Zph 3 true 5) 112:=HR.out
   have r0:=hR.cell 0 (v:=.bool true) rfl
   have r1:=hR.cell 1 (v:=.int .i64 5) rfl
   have r2:=hR.cell 2 (v:=.int .i64 0) rfl
   have r3:=hR.cell 3 (v:=.int .i64 3) rfl
   have r4:=hR.cell 4 (v:=.slice none 0 0) rfl
   have f0:=hR.frozen 0;have f1:=hR.frozen 1;have f2:=hR.frozen 2;have f3:=hR.frozen 3;have f4:=hR.frozen 4
   have rl:=hR.lt
   have HR9:=Zh hR
   clear hR
   go_wp2
   have hY:=((((HR9.out.set 0 (.bool true)).set 1 (.int .i64 5)).set 2 (.int .i64 0)).set 3 (.int .i64 3)).set 4 (.slice none 0 0)
   have hS1:W.heap.size≤S+1:=by have:=HSw.out;omega
   have hB:=ZcW (j:=4) (ZcW (j:=3) (ZcW (j:=2) (ZcW (j:=1) (ZcW (j:=0) HB.out hS1 (.bool true)) hS1 (.int .i64 5)) hS1 (.int .i64 0)) hS1 (.int .i64 3)) hS1 (.slice none 0 0)
   have HY:=Zh hY
   have HB9:=Zh hB
   clear r0 r1 r2 r3 r4 f0 f1 f2 f3 f4 rl hY hB hS1
   generalize ((((wo.setCell _ _).setCell _ _).setCell _ _).setCell _ _).setCell _ _=w9 at HY HB9 ⊢
   have y0:=HY.out.cell 0 (v:=.bool true) rfl;have y1:=HY.out.cell 1 (v:=.int .i64 5) rfl;have y2:=HY.out.cell 2 (v:=.int .i64 0) rfl;have y3:=HY.out.cell 3 (v:=.int .i64 3) rfl;have y4:=HY.out.cell 4 (v:=.slice none 0 0) rfl
   exact bodyPost_ret (v:=.tuple #[.agg (Zph 3 true 5),.int .i64 0]) (by unfold Zph;simp [results,Tryz.results81,go_sem,y0,y1,y2,y3,y4]) rfl ⟨rfl,HB9.out⟩
theorem Zpk (W:World):Calls Tryz.prog 33 #[] W fun e w'=>e=.returned (.bool true)∧Below W.heap.size W w':=by
 go_enter Tryz.func33,Tryz.ntmps33
 go_wp2_with fail
 have hcd:Zno ((((W.alloc (Obj.cells #[Value.int IntKind.i64 1,Value.int IntKind.i64 0,Value.int IntKind.i64 2,Value.int IntKind.i64 0,Value.int IntKind.i64 1,Value.int IntKind.i64 1,Value.int IntKind.i64 3,Value.int IntKind.i64 0,Value.int IntKind.i64 11,Value.int IntKind.i64 2,Value.int IntKind.i64 0,Value.int IntKind.i64 1,Value.int IntKind.i64 0,Value.int IntKind.i64 2,Value.int IntKind.i64 0,Value.int IntKind.i64 0] 108)).alloc (Obj.cells #[Value.int IntKind.i64 (-1),Value.int IntKind.i64 (-1),Value.int IntKind.i64 (-1),Value.int IntKind.i64 (-1)] 3))).alloc (Obj.cells #[Value.slice (some { block:=W.heap.size,off:=0 }) 4 4,Value.slice (some { block:=W.heap.size+1,off:=0 }) 4 4] 111)) (some ⟨W.heap.size,0,none⟩) 4 (some ⟨W.heap.size+1,0,none⟩) 4 Zpf:=
  ⟨((Znp W _ 108 (n:=4) (size:=4) rfl).alloc _).alloc _,by
   have:=(Znp (W.alloc (Obj.cells #[Value.int IntKind.i64 1,Value.int IntKind.i64 0,Value.int IntKind.i64 2,Value.int IntKind.i64 0,Value.int IntKind.i64 1,Value.int IntKind.i64 1,Value.int IntKind.i64 3,Value.int IntKind.i64 0,Value.int IntKind.i64 11,Value.int IntKind.i64 2,Value.int IntKind.i64 0,Value.int IntKind.i64 1,Value.int IntKind.i64 0,Value.int IntKind.i64 2,Value.int IntKind.i64 0,Value.int IntKind.i64 0] 108)) #[Value.int IntKind.i64 (-1),Value.int IntKind.i64 (-1),Value.int IntKind.i64 (-1),Value.int IntKind.i64 (-1)] 3 (n:=4) (size:=1) rfl)
   have h2:=this.alloc (Obj.cells #[Value.slice (some { block:=W.heap.size,off:=0 }) 4 4,Value.slice (some { block:=W.heap.size+1,off:=0 }) 4 4] 111)
   rw [show ∀ o,(W.alloc o).heap.size=W.heap.size+1 from fun o=>by simp] at h2
   exact h2⟩
 have hb0:=(((Below.refl W.heap.size W).alloc (Nat.le_refl _) (Obj.cells #[Value.int IntKind.i64 1,Value.int IntKind.i64 0,Value.int IntKind.i64 2,Value.int IntKind.i64 0,Value.int IntKind.i64 1,Value.int IntKind.i64 1,Value.int IntKind.i64 3,Value.int IntKind.i64 0,Value.int IntKind.i64 11,Value.int IntKind.i64 2,Value.int IntKind.i64 0,Value.int IntKind.i64 1,Value.int IntKind.i64 0,Value.int IntKind.i64 2,Value.int IntKind.i64 0,Value.int IntKind.i64 0] 108)).alloc (by simp) (Obj.cells #[Value.int IntKind.i64 (-1),Value.int IntKind.i64 (-1),Value.int IntKind.i64 (-1),Value.int IntKind.i64 (-1)] 3)).alloc (by simp;omega) (Obj.cells #[Value.slice (some { block:=W.heap.size,off:=0 }) 4 4,Value.slice (some { block:=W.heap.size+1,off:=0 }) 4 4] 111)
 refine (Zpj _ (some ⟨W.heap.size,0,none⟩) 4 (some ⟨W.heap.size+1,0,none⟩) 4 hcd).mono ?_
 rintro e w1 ⟨rfl,hb1⟩
 unfold Zph
 have HB:=Zh (Zaf hb0 hb1)
 clear hb0 hb1 hcd
 go_wp2
 go_ret
 exact ⟨rfl,HB.out.alloc (by have:=HB.out.size;omega) _⟩
end
section
open Go.RowKit
section
variable {w:World}{base:Nat}{e:TypeId}{size g n cap:Nat}{xs:List Value}(h:w.ownsRow base e size (.slice (some ⟨g,0,none⟩) n cap) n xs)(j:Nat)
include w base e size g n cap xs h j
theorem Zpl (v:Value):(w.setCell ⟨g,j,none⟩ v).ownsRow base e size (.slice (some ⟨g,0,none⟩) n cap) n (xs.set j v):=by
 obtain ⟨h1,h2⟩:=h
 rcases h2 with ⟨hv,_⟩|⟨g',c,cur,hv,hb,hg,hn,hm,hs,ht⟩
 ·cases hv
 ·cases hv
  refine ⟨by rw [List.length_set];exact h1,.inr ⟨g,cap,cur.setIfInBounds j v,rfl,hb,heap_setCell_same w g j cur e v hg,hn,hm,by rw [Array.size_setIfInBounds];exact hs,?_⟩⟩
  rw [←ht,Array.toList_setIfInBounds,List.take_set]
theorem Zpm:w.frozen? ⟨g,j,none⟩=false:=by
 rcases h.2 with ⟨hv,_⟩|⟨g',c,cur,hv,hb,hg,_⟩
 ·cases hv
 ·cases hv;exact frozen_of_row w g j cur e hg
end
theorem Zpn {α:Type} [Cells α] (v:Value) (x:α) (j:Nat):∀ (l:List α) (i:Nat) (hi:i<l.length),j<Cells.n α→Cells.cells x=(Cells.cells l[i]).set j v→Zak (l.set i x)=(Zak l).set (i*Cells.n α+j) v
 | [],i,hi,_,_=>by cases hi
 |y :: l,0,hi,hj,h=>by
  simp only [List.set_cons_zero,Zak,List.flatMap_cons,Nat.zero_mul,Nat.zero_add]
  rw [List.set_append_left _ _ (by rw [Cells.len];exact hj),h]
  rfl
 |y :: l,i+1,hi,hj,h=>by
  have ih:=Zpn v x j l i (by simpa using hi) hj h
  simp only [List.set_cons_succ,Zak,List.flatMap_cons] at ih ⊢
  rw [List.set_append_right _ _ (by rw [Cells.len,Nat.succ_mul];omega),ih,Cells.len]
  congr 2
  rw [Nat.succ_mul];omega
theorem Zpo (g n:Nat):(⟨g,0,none⟩:Addr).add n=⟨g,n,none⟩:=by unfold Addr.add;split<;>simp_all
def Zpp (m:Md) (kk:Nat) (l:List In3):Md:=⟨m.cl,m.st,m.me.set kk { m.me.getD kk default with k:=l },m.sel⟩
def Zpq (h:Hd) (kk:Nat) (ao:Option Addr) (cap:Nat):Hd:={ h with e:=fun i=>if i=kk then { h.e kk with ko:=ao,kc:=cap } else h.e i }
theorem Zpr {m:Md}{kk:Nat} (hk:kk<m.me.length) (l:List In3) (j:Nat):(Zpp m kk l).me.getD j default=if j=kk then { m.me.getD kk default with k:=l } else m.me.getD j default:=by
 unfold Zpp
 dsimp only
 by_cases h:j=kk
 ·subst h
  rw [if_pos rfl,List.getD_eq_getElem?_getD,List.getElem?_set_self hk]
  rfl
 ·rw [if_neg h,List.getD_eq_getElem?_getD,List.getElem?_set_ne (fun q=>h q.symm),List.getD_eq_getElem?_getD]
theorem Zps {h:Hd}{m:Md}{kk:Nat} (hk:kk<m.me.length) (l:List In3) (ao:Option Addr) (cap:Nat):Zav (Zpq h kk ao cap) (Zpp m kk l)=(Zav h m).set kk ({ m.me.getD kk default with k:=l },{ h.e kk with ko:=ao,kc:=cap }):=by
 refine List.ext_getElem? fun i=>?_
 simp only [Zav,Zpp,Zpq,List.getElem?_mapIdx,List.getElem?_set,List.length_mapIdx]
 by_cases q:kk=i
 ·subst q
  simp [hk]
 ·rw [if_neg q,if_neg q]
  cases m.me[i]? with
  | none=>rfl
  | some y=>simp [show ¬ i=kk from fun e=>q e.symm]
theorem ZnP.code {w:World}{N:Nat}{h:Hd}{m:Md} (H:ZnP w N h m) {kk:Nat} (hk:kk<m.me.length) {ao:Option Addr}{cap:Nat}{l:List In3} (ho:w.ownsRow N 78 3 (.slice ao l.length cap) l.length (Zak l)) :
  ∃ g,h.eo=some ⟨g,0,none⟩∧N≤g∧w.frozen? ⟨g,kk*7+6,none⟩=false∧Below N w (w.setCell ⟨g,kk*7+6,none⟩ (.slice ao l.length cap))∧(∀ {b:Nat}{xs:Array Value}{t:TypeId},Blk w b xs t→t≠81→Blk (w.setCell ⟨g,kk*7+6,none⟩ (.slice ao l.length cap)) b xs t)∧ZnP (w.setCell ⟨g,kk*7+6,none⟩ (.slice ao l.length cap)) N (Zpq h kk ao cap) (Zpp m kk l):=by
 obtain ⟨g,hg⟩:=Zai H.me (by omega)
 have hme:=H.me
 rw [hg] at hme
 have hN:=(hme.lt g rfl).1
 obtain ⟨c,cur,hcur⟩:∃ (c:Nat) (cur:Array Value),Blk w g cur 81:=by
  rcases hme.2 with ⟨hv,_⟩|⟨g',c,cur,hv,hb,hgg,_⟩
  ·cases hv
  ·cases hv;exact ⟨0,cur,hgg⟩
 have hkp:Kp [81] N w (w.setCell ⟨g,kk*7+6,none⟩ (.slice ao l.length cap)):=(Kp.refl _ N w).set hcur (by decide) hN _ _
 refine ⟨g,hg,hN,Zpm hme _,hkp.bw,fun {b xs t} hb ht=>Blk.other hb (fun q=>?_) _,?_⟩
 ·have q':b=g:=q
  subst q'
  have:=(show w.heap[b]?=_ from hb).symm.trans hcur
  cases this
  exact ht rfl
 ·refine ⟨hkp.own H.cl,hkp.own H.st,?_,fun i hi=>(H.c i hi).kp hkp,fun i hi=>?_⟩
  ·have h9:=Zpl hme (kk*7+6) (.slice ao l.length cap)
   rw [Zps hk,Zpn (.slice ao l.length cap) _ 6 (Zav h m) kk (by rw [Zax];exact hk) (by decide) (by simp [Zav,hk];rfl)]
   show World.ownsRow _ N _ 7 (.slice h.eo (Zpp m kk l).me.length h.ec) (Zpp m kk l).me.length _
   rw [show (Zpp m kk l).me.length=m.me.length by simp [Zpp],hg]
   exact h9
  ·have hi':i<m.me.length:=by simpa [Zpp] using hi
   rw [Zpr hk]
   show CpM _ N (if i=kk then _ else _) _
   by_cases q:i=kk
   ·subst q
    rw [if_pos rfl,if_pos rfl]
    have h9:=(H.m i hk).kp hkp
    exact ⟨h9.p,h9.l,hkp.own ho⟩
   ·rw [if_neg q,if_neg q]
    exact (H.m i hi').kp hkp
end
section
open Go.RowKit
theorem ZnP.old {w w':World}{N:Nat}{h:Hd}{m:Md} (H:ZnP w N h m) (hb:Below w.heap.size w w'):ZnP w' N h m:=
 have hk:Kp [] 0 w w':=Kp.of hb (Nat.zero_le _)
 ⟨hk.own H.cl,hk.own H.st,hk.own H.me,fun i hi=>(H.c i hi).kp hk,fun i hi=>(H.m i hi).kp hk⟩
attribute [local go_sem] Zpo
end
end Go.Proofs.YtcfjblcgceednaaGreat
