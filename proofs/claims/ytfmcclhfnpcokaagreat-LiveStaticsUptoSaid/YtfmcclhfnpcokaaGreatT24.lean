import Derived.Test.YtfmcclhfnpcokaaGreatG2
import Derived.Test.YtfmcclhfnpcokaaGreatG22
set_option linter.all false
set_option maxRecDepth 100000
set_option maxHeartbeats 8000000
namespace Go.Proofs.YtfmcclhfnpcokaaGreat
section
open Go.RowKit
def cl3 (a b c:Int):Array Value:=#[.int .i64 a,.int .i64 b,.int .i64 c]
theorem Zmp (a b c:Int):(cl3 a b c)[0]?=some (.int .i64 a):=rfl
theorem Zmq (a b c:Int):(cl3 a b c)[1]?=some (.int .i64 b):=rfl
theorem Zmr (a b c:Int):(cl3 a b c)[2]?=some (.int .i64 c):=rfl
def stg (x y z a b c:Int):Nat→Array Value
 | 0=>cl3 a b c
 | 1=>cl3 x b c
 | 2=>cl3 x y c
 | _=>cl3 x y z
def Zms (n:Int):Int:=if n≤1000000001 then n else 1000000001
def Zmt (a b:Int):Int:=if a≤b then b else a
section
variable {a b c x:Int}{w:World}{B:Nat}{t:TypeId}(h:Blk w B (cl3 a b c) t){v:Value}(hv:v=.int .i64 x)
include a b c x w B t h v hv
theorem Zmu:Blk (w.setCell ⟨B,0,none⟩ v) B (cl3 x b c) t:=by subst hv;exact h.set 0 _
theorem Zmv:Blk (w.setCell ⟨B,1,none⟩ v) B (cl3 a x c) t:=by subst hv;exact h.set 1 _
theorem Zmw:Blk (w.setCell ⟨B,2,none⟩ v) B (cl3 a b x) t:=by subst hv;exact h.set 2 _
end
theorem Zmx {a b c x y z:Int}{w:World}{B:Nat}{t:TypeId} (h:Blk w B (cl3 a b c) t):Blk (((w.setCell ⟨B,0,none⟩ (.int .i64 x)).setCell ⟨B,1,none⟩ (.int .i64 y)).setCell ⟨B,2,none⟩ (.int .i64 z)) B (cl3 x y z) t:=
 Zmw (Zmv (Zmu h rfl) rfl) rfl
theorem Zmy {B b:Nat}{w w':World} (h:Below B w w') (i:Nat) (v:Value) (d:B≤b):Below B w (w'.setCell ⟨b,i,none⟩ v):=h.setCell d v
theorem Zmz {B b:Nat}{w w':World} (h:Below B w w') (x y z:Value) (d:B≤b):Below B w (((w'.setCell ⟨b,0,none⟩ x).setCell ⟨b,1,none⟩ y).setCell ⟨b,2,none⟩ z):=((h.setCell d x).setCell d y).setCell d z
theorem ZmA (f g j l m n:Int) (w:World) (Q:0≤f) (K:f≤1000000001) (R:0≤g) (L:g≤1000000001) (S:0≤j) (M:j≤1000000001) (T:0≤l) (N:l≤1000000001) (U:0≤m) (O:m≤1000000001) (V:0≤n) (P:n≤1000000001) :
  Calls Tryz.prog 140 #[.agg #[.int .i64 f,.int .i64 g,.int .i64 j],.agg #[.int .i64 l,.int .i64 m,.int .i64 n]] w fun e w'=>e=.returned (.agg #[.int .i64 (Zms (f+l)),.int .i64 (Zms (g+m)),.int .i64 (Zms (j+n))])∧Below w.heap.size w w':=by
 obtain ⟨B,u⟩:∃ B,B=w.heap.size:=⟨_,rfl⟩;go_enter Tryz.func140,Tryz.ntmps140;go_wp2;have H:=Zh (show Blk (((w.alloc (.cells (cl3 f g j) 45)).alloc (.cells (cl3 l m n) 45)).alloc (.cells (cl3 0 0 0) 45)) B (cl3 f g j) 45∧Blk (((w.alloc (.cells (cl3 f g j) 45)).alloc (.cells (cl3 l m n) 45)).alloc (.cells (cl3 0 0 0) 45)) (B+1) (cl3 l m n) 45∧Blk (((w.alloc (.cells (cl3 f g j) 45)).alloc (.cells (cl3 l m n) 45)).alloc (.cells (cl3 0 0 0) 45)) (B+1+1) (cl3 0 0 0) 45∧Below w.heap.size w (((w.alloc (.cells (cl3 f g j) 45)).alloc (.cells (cl3 l m n) 45)).alloc (.cells (cl3 0 0 0) 45)) from
  ⟨((Blk.new' _ _ u).alloc _).alloc _,(Blk.new' _ _ (by simp [u])).alloc _,Blk.new' _ _ (by simp [u]),(((Below.refl _ _).alloc (Nat.le_refl _) _).alloc (by simp) _).alloc (by simp;omega) _⟩)
 rw [←u]
 change Code.wp _ _ _ _ (((w.alloc (.cells (cl3 f g j) 45)).alloc (.cells (cl3 l m n) 45)).alloc (.cells (cl3 0 0 0) 45))
 revert H
 generalize (((w.alloc (.cells (cl3 f g j) 45)).alloc (.cells (cl3 l m n) 45)).alloc (.cells (cl3 0 0 0) 45))=w1;intro H;have C:=Zh u;clear u
 go_loopw [5] (fun i wr=>∃ k:Nat,k≤3∧i=.int .i64 k∧Blk wr B (stg (Zms (f+l)) (Zms (g+m)) (Zms (j+n)) f g j k) 45∧Blk wr (B+1) (cl3 l m n) 45∧Blk wr (B+1+1) (cl3 0 0 0) 45∧Below w.heap.size w wr) (fun i _=>3-(intOf i).toNat)
 case atStart=>exact ⟨0,by omega,rfl,H.out⟩
 case round=>
  obtain ⟨k,hk,rfl,d,A,J,s⟩:=hrel;have r:=Zh d;have o:=Zh A;have q:=Zh J;have D:=Zh s;clear d A J s H;rcases (show k=0∨k=1∨k=2∨k=3 by omega) with rfl|rfl|rfl|rfl
  ·have d:Blk wr B (cl3 (f) (g) (j)) 45:=r.out;have E:=d.cell 0 (Zmp _ _ _);have G:=d.frozen 0;have F:=o.out.cell 0 (Zmp _ _ _);have p:=Zh d;clear d r;go_wp2;refine Zaf 10 (by kernel_rfl) (by kernel_rfl) ?_;simp only [List.take_succ_cons,List.take_zero,List.drop_succ_cons,List.drop_zero]
   repeat still_step
   refine wpStill_nil ?_;go_wp2
   all_goals
    go_roundw
    case rel=>exact ⟨1,by omega,by go_num,(Zmu p.out (by unfold Zms;first|rfl|(congr 1;(repeat' split)<;>omega))).drew,(o.out.other (by simp) _).drew,(q.out.other (by show B+1+1≠B;omega) _).drew,(Zmy D.out _ _ (by have:=C.out;omega)).drew⟩
    case measure=>simp [intOf]
  ·have d:Blk wr B (cl3 (Zms (f+l)) (g) (j)) 45:=r.out;have E:=d.cell 1 (Zmq _ _ _);have G:=d.frozen 1;have F:=o.out.cell 1 (Zmq _ _ _);have p:=Zh d;clear d r;go_wp2;refine Zaf 10 (by kernel_rfl) (by kernel_rfl) ?_;simp only [List.take_succ_cons,List.take_zero,List.drop_succ_cons,List.drop_zero]
   repeat still_step
   refine wpStill_nil ?_;go_wp2
   all_goals
    go_roundw
    case rel=>exact ⟨2,by omega,by go_num,(Zmv p.out (by unfold Zms;first|rfl|(congr 1;(repeat' split)<;>omega))).drew,(o.out.other (by simp) _).drew,(q.out.other (by show B+1+1≠B;omega) _).drew,(Zmy D.out _ _ (by have:=C.out;omega)).drew⟩
    case measure=>simp [intOf]
  ·have d:Blk wr B (cl3 (Zms (f+l)) (Zms (g+m)) (j)) 45:=r.out;have E:=d.cell 2 (Zmr _ _ _);have G:=d.frozen 2;have F:=o.out.cell 2 (Zmr _ _ _);have p:=Zh d;clear d r;go_wp2;refine Zaf 10 (by kernel_rfl) (by kernel_rfl) ?_;simp only [List.take_succ_cons,List.take_zero,List.drop_succ_cons,List.drop_zero]
   repeat still_step
   refine wpStill_nil ?_;go_wp2
   all_goals
    go_roundw
    case rel=>exact ⟨3,by omega,by go_num,(Zmw p.out (by unfold Zms;first|rfl|(congr 1;(repeat' split)<;>omega))).drew,(o.out.other (by simp) _).drew,(q.out.other (by show B+1+1≠B;omega) _).drew,(Zmy D.out _ _ (by have:=C.out;omega)).drew⟩
    case measure=>simp [intOf]
  ·have d:Blk wr B (cl3 (Zms (f+l)) (Zms (g+m)) (Zms (j+n))) 45:=r.out;have Z:=d.cell 0 (Zmp _ _ _);have E:=d.cell 1 (Zmq _ _ _);have F:=d.cell 2 (Zmr _ _ _);have g0:=q.out.cell 0 (Zmp _ _ _);have g1:=q.out.cell 1 (Zmq _ _ _);have g2:=q.out.cell 2 (Zmr _ _ _);have f0:=q.out.frozen 0;have G:=q.out.frozen 1;have f2:=q.out.frozen 2;clear r d;go_wp2;have I:=Zmx (x:=Zms (f+l)) (y:=Zms (g+m)) (z:=Zms (j+n)) q.out;have W:=I.cell 0 (Zmp _ _ _);have X:=I.cell 1 (Zmq _ _ _);have Y:=I.cell 2 (Zmr _ _ _);exact bodyPost_ret (v:=.agg #[.int .i64 (Zms (f+l)),.int .i64 (Zms (g+m)),.int .i64 (Zms (j+n))]) (by simp [results,Tryz.results140,go_sem,W,X,Y]) rfl ⟨rfl,Zmz D.out _ _ _ (by have:=C.out;omega)⟩
theorem ZmB (f g j l m n:Int) (w:World) :
  Calls Tryz.prog 154 #[.agg #[.int .i64 f,.int .i64 g,.int .i64 j],.agg #[.int .i64 l,.int .i64 m,.int .i64 n]] w fun e w'=>e=.returned (.agg #[.int .i64 (Zmt f l),.int .i64 (Zmt g m),.int .i64 (Zmt j n)])∧Below w.heap.size w w':=by
 obtain ⟨B,u⟩:∃ B,B=w.heap.size:=⟨_,rfl⟩;go_enter Tryz.func154,Tryz.ntmps154;go_wp2;have H:=Zh (show Blk (((w.alloc (.cells (cl3 f g j) 45)).alloc (.cells (cl3 l m n) 45)).alloc (.cells (cl3 0 0 0) 45)) B (cl3 f g j) 45∧Blk (((w.alloc (.cells (cl3 f g j) 45)).alloc (.cells (cl3 l m n) 45)).alloc (.cells (cl3 0 0 0) 45)) (B+1) (cl3 l m n) 45∧Blk (((w.alloc (.cells (cl3 f g j) 45)).alloc (.cells (cl3 l m n) 45)).alloc (.cells (cl3 0 0 0) 45)) (B+1+1) (cl3 0 0 0) 45∧Below w.heap.size w (((w.alloc (.cells (cl3 f g j) 45)).alloc (.cells (cl3 l m n) 45)).alloc (.cells (cl3 0 0 0) 45)) from
  ⟨((Blk.new' _ _ u).alloc _).alloc _,(Blk.new' _ _ (by simp [u])).alloc _,Blk.new' _ _ (by simp [u]),(((Below.refl _ _).alloc (Nat.le_refl _) _).alloc (by simp) _).alloc (by simp;omega) _⟩)
 rw [←u]
 change Code.wp _ _ _ _ (((w.alloc (.cells (cl3 f g j) 45)).alloc (.cells (cl3 l m n) 45)).alloc (.cells (cl3 0 0 0) 45))
 revert H
 generalize (((w.alloc (.cells (cl3 f g j) 45)).alloc (.cells (cl3 l m n) 45)).alloc (.cells (cl3 0 0 0) 45))=w1;intro H;have C:=Zh u;clear u
 go_loopw [5] (fun i wr=>∃ k:Nat,k≤3∧i=.int .i64 k∧Blk wr B (stg (Zmt f l) (Zmt g m) (Zmt j n) f g j k) 45∧Blk wr (B+1) (cl3 l m n) 45∧Blk wr (B+1+1) (cl3 0 0 0) 45∧Below w.heap.size w wr) (fun i _=>3-(intOf i).toNat)
 case atStart=>exact ⟨0,by omega,rfl,H.out⟩
 case round=>
  obtain ⟨k,T,rfl,d,A,J,s⟩:=hrel;have r:=Zh d;have o:=Zh A;have q:=Zh J;have D:=Zh s;clear d A J s H;rcases (show k=0∨k=1∨k=2∨k=3 by omega) with rfl|rfl|rfl|rfl
  ·have d:Blk wr B (cl3 (f) (g) (j)) 45:=r.out;have E:=d.cell 0 (Zmp _ _ _);have G:=d.frozen 0;have F:=o.out.cell 0 (Zmp _ _ _);have p:=Zh d;clear d r;go_wp2;refine Zaf 9 (by kernel_rfl) (by kernel_rfl) ?_;simp only [List.take_succ_cons,List.take_zero,List.drop_succ_cons,List.drop_zero]
   repeat still_step
   refine wpStill_nil ?_;go_wp2
   all_goals
    go_roundw
    case rel=>exact ⟨1,by omega,by go_num,(Zmu p.out (by unfold Zmt;first|rfl|(congr 1;(repeat' split)<;>omega))).drew,(o.out.other (by simp) _).drew,(q.out.other (by show B+1+1≠B;omega) _).drew,(Zmy D.out _ _ (by have:=C.out;omega)).drew⟩
    case measure=>simp [intOf]
  ·have d:Blk wr B (cl3 (Zmt f l) (g) (j)) 45:=r.out;have E:=d.cell 1 (Zmq _ _ _);have G:=d.frozen 1;have F:=o.out.cell 1 (Zmq _ _ _);have p:=Zh d;clear d r;go_wp2;refine Zaf 9 (by kernel_rfl) (by kernel_rfl) ?_;simp only [List.take_succ_cons,List.take_zero,List.drop_succ_cons,List.drop_zero]
   repeat still_step
   refine wpStill_nil ?_;go_wp2
   all_goals
    go_roundw
    case rel=>exact ⟨2,by omega,by go_num,(Zmv p.out (by unfold Zmt;first|rfl|(congr 1;(repeat' split)<;>omega))).drew,(o.out.other (by simp) _).drew,(q.out.other (by show B+1+1≠B;omega) _).drew,(Zmy D.out _ _ (by have:=C.out;omega)).drew⟩
    case measure=>simp [intOf]
  ·have d:Blk wr B (cl3 (Zmt f l) (Zmt g m) (j)) 45:=r.out;have E:=d.cell 2 (Zmr _ _ _);have G:=d.frozen 2;have F:=o.out.cell 2 (Zmr _ _ _);have p:=Zh d;clear d r;go_wp2;refine Zaf 9 (by kernel_rfl) (by kernel_rfl) ?_;simp only [List.take_succ_cons,List.take_zero,List.drop_succ_cons,List.drop_zero]
   repeat still_step
   refine wpStill_nil ?_;go_wp2
   all_goals
    go_roundw
    case rel=>exact ⟨3,by omega,by go_num,(Zmw p.out (by unfold Zmt;first|rfl|(congr 1;(repeat' split)<;>omega))).drew,(o.out.other (by simp) _).drew,(q.out.other (by show B+1+1≠B;omega) _).drew,(Zmy D.out _ _ (by have:=C.out;omega)).drew⟩
    case measure=>simp [intOf]
  ·have d:Blk wr B (cl3 (Zmt f l) (Zmt g m) (Zmt j n)) 45:=r.out;have N:=d.cell 0 (Zmp _ _ _);have E:=d.cell 1 (Zmq _ _ _);have F:=d.cell 2 (Zmr _ _ _);have Q:=q.out.cell 0 (Zmp _ _ _);have R:=q.out.cell 1 (Zmq _ _ _);have S:=q.out.cell 2 (Zmr _ _ _);have O:=q.out.frozen 0;have G:=q.out.frozen 1;have P:=q.out.frozen 2;clear r d;go_wp2;have I:=Zmx (x:=Zmt f l) (y:=Zmt g m) (z:=Zmt j n) q.out;have K:=I.cell 0 (Zmp _ _ _);have L:=I.cell 1 (Zmq _ _ _);have M:=I.cell 2 (Zmr _ _ _);exact bodyPost_ret (v:=.agg #[.int .i64 (Zmt f l),.int .i64 (Zmt g m),.int .i64 (Zmt j n)]) (by simp [results,Tryz.results154,go_sem,K,L,M]) rfl ⟨rfl,Zmz D.out _ _ _ (by have:=C.out;omega)⟩
def ZmC (f:Nat) (caps:Array Value) (w:World) (F:Int→Int→Int) (x y:Int):Prop:=
 ∀ W,Below w.heap.size w W→Calls Tryz.prog f (#[.int .i64 x,.int .i64 y]++caps) W fun e w'=>e=.returned (.int .i64 (F x y))∧∃ k,w'=W.drewN k
theorem ZmD (f:Nat) (p:Array Value) (F:Int→Int→Int) (g l n j m o:Int) (w:World)
  (cf:∀ A W,(callFunc f A).run Tryz.prog W=.ok (.enter f A) W)
  (S:ZmC f p w F g j) (T:ZmC f p w F l m) (U:ZmC f p w F n o) :
  Calls Tryz.prog 85 #[.agg #[.int .i64 g,.int .i64 l,.int .i64 n],.agg #[.int .i64 j,.int .i64 m,.int .i64 o],.func (.func f) #[] p] w fun e w'=>e=.returned (.agg #[.int .i64 (Zms (F g j)),.int .i64 (Zms (F l m)),.int .i64 (Zms (F n o))])∧Below w.heap.size w w':=by
 have O:=Zh S;have P:=Zh T;have Q:=Zh U;clear S T U;obtain ⟨B,E⟩:∃ B,B=w.heap.size:=⟨_,rfl⟩;go_enter Tryz.func85,Tryz.ntmps85;go_wp2;have H:=Zh (show Blk ((((w.alloc (.cells (cl3 g l n) 45)).alloc (.cells (cl3 j m o) 45)).alloc (.cells (cl3 0 0 0) 45)).alloc (.cells (cl3 0 0 0) 45)) B (cl3 g l n) 45∧Blk ((((w.alloc (.cells (cl3 g l n) 45)).alloc (.cells (cl3 j m o) 45)).alloc (.cells (cl3 0 0 0) 45)).alloc (.cells (cl3 0 0 0) 45)) (B+1) (cl3 j m o) 45∧Blk ((((w.alloc (.cells (cl3 g l n) 45)).alloc (.cells (cl3 j m o) 45)).alloc (.cells (cl3 0 0 0) 45)).alloc (.cells (cl3 0 0 0) 45)) (B+1+1) (cl3 0 0 0) 45∧Blk ((((w.alloc (.cells (cl3 g l n) 45)).alloc (.cells (cl3 j m o) 45)).alloc (.cells (cl3 0 0 0) 45)).alloc (.cells (cl3 0 0 0) 45)) (B+1+1+1) (cl3 0 0 0) 45∧Below w.heap.size w ((((w.alloc (.cells (cl3 g l n) 45)).alloc (.cells (cl3 j m o) 45)).alloc (.cells (cl3 0 0 0) 45)).alloc (.cells (cl3 0 0 0) 45)) from
  ⟨(((Blk.new' _ _ E).alloc _).alloc _).alloc _,((Blk.new' _ _ (by simp [E])).alloc _).alloc _,(Blk.new' _ _ (by simp [E])).alloc _,Blk.new' _ _ (by simp [E]),((((Below.refl _ _).alloc (Nat.le_refl _) _).alloc (by simp) _).alloc (by simp;omega) _).alloc (by simp;omega) _⟩)
 rw [←E]
 change Code.wp _ _ _ _ ((((w.alloc (.cells (cl3 g l n) 45)).alloc (.cells (cl3 j m o) 45)).alloc (.cells (cl3 0 0 0) 45)).alloc (.cells (cl3 0 0 0) 45))
 revert H
 generalize ((((w.alloc (.cells (cl3 g l n) 45)).alloc (.cells (cl3 j m o) 45)).alloc (.cells (cl3 0 0 0) 45)).alloc (.cells (cl3 0 0 0) 45))=w1;intro H;have J:=Zh E;clear E
 go_loopw [9] (fun i wr=>∃ k:Nat,k≤3∧i=.int .i64 k∧Blk wr B (cl3 g l n) 45∧Blk wr (B+1) (cl3 j m o) 45∧Blk wr (B+1+1) (cl3 0 0 0) 45∧Blk wr (B+1+1+1) (stg (Zms (F g j)) (Zms (F l m)) (Zms (F n o)) 0 0 0 k) 45∧Below w.heap.size w wr) (fun i _=>3-(intOf i).toNat)
 case atStart=>exact ⟨0,by omega,rfl,H.out⟩
 case round=>
  obtain ⟨k,hk,rfl,V,I,X,d,D⟩:=hrel;have G:=Zh V;have q:=Zh I;have s:=Zh X;have C:=Zh d;have u:=Zh D;clear V I X d D H;rcases (show k=0∨k=1∨k=2∨k=3 by omega) with rfl|rfl|rfl|rfl
  ·have d:Blk wr (B+1+1+1) (cl3 (0) (0) (0)) 45:=C.out;have K:=G.out.cell 0 (Zmp _ _ _);have M:=d.frozen 0;have R:=d.cell 0 (Zmp _ _ _);have L:=q.out.cell 0 (Zmp _ _ _);have r:=Zh d;clear d C;go_wp2;refine Zda 11 (by kernel_rfl) (by kernel_rfl) ?_;simp only [List.take_succ_cons,List.take_zero,List.drop_succ_cons,List.drop_zero]
   repeat (first|go_big_quiet_step (exact Calls.quiet_of (O.out _ (below_drewN u.out _)))|quiet_step (exact Calls.quiet_of (O.out _ (below_drewN u.out _))))
   refine wpQuiet_nil ?_;rintro _ ⟨nq,rfl⟩;go_wp2
   all_goals
    go_roundw
    case rel=>exact ⟨1,by omega,by go_num,(G.out.drewN _).other (by show B≠B+1+1+1;omega) _,(q.out.drewN _).other (by show B+1≠B+1+1+1;omega) _,(s.out.drewN _).other (by show B+1+1≠B+1+1+1;omega) _,Zmu (r.out.drewN _) (by unfold Zms;first|rfl|(congr 1;(repeat' split)<;>omega)),Zmy (below_drewN u.out _) _ _ (by have:=J.out;omega)⟩
    case measure=>simp [intOf]
  ·have d:Blk wr (B+1+1+1) (cl3 (Zms (F g j)) (0) (0)) 45:=C.out;have K:=G.out.cell 1 (Zmq _ _ _);have M:=d.frozen 1;have R:=d.cell 1 (Zmq _ _ _);have L:=q.out.cell 1 (Zmq _ _ _);have r:=Zh d;clear d C;go_wp2;refine Zda 11 (by kernel_rfl) (by kernel_rfl) ?_;simp only [List.take_succ_cons,List.take_zero,List.drop_succ_cons,List.drop_zero]
   repeat (first|go_big_quiet_step (exact Calls.quiet_of (P.out _ (below_drewN u.out _)))|quiet_step (exact Calls.quiet_of (P.out _ (below_drewN u.out _))))
   refine wpQuiet_nil ?_;rintro _ ⟨nq,rfl⟩;go_wp2
   all_goals
    go_roundw
    case rel=>exact ⟨2,by omega,by go_num,(G.out.drewN _).other (by show B≠B+1+1+1;omega) _,(q.out.drewN _).other (by show B+1≠B+1+1+1;omega) _,(s.out.drewN _).other (by show B+1+1≠B+1+1+1;omega) _,Zmv (r.out.drewN _) (by unfold Zms;first|rfl|(congr 1;(repeat' split)<;>omega)),Zmy (below_drewN u.out _) _ _ (by have:=J.out;omega)⟩
    case measure=>simp [intOf]
  ·have d:Blk wr (B+1+1+1) (cl3 (Zms (F g j)) (Zms (F l m)) (0)) 45:=C.out;have K:=G.out.cell 2 (Zmr _ _ _);have M:=d.frozen 2;have R:=d.cell 2 (Zmr _ _ _);have L:=q.out.cell 2 (Zmr _ _ _);have r:=Zh d;clear d C;go_wp2;refine Zda 11 (by kernel_rfl) (by kernel_rfl) ?_;simp only [List.take_succ_cons,List.take_zero,List.drop_succ_cons,List.drop_zero]
   repeat (first|go_big_quiet_step (exact Calls.quiet_of (Q.out _ (below_drewN u.out _)))|quiet_step (exact Calls.quiet_of (Q.out _ (below_drewN u.out _))))
   refine wpQuiet_nil ?_;rintro _ ⟨nq,rfl⟩;go_wp2
   all_goals
    go_roundw
    case rel=>exact ⟨3,by omega,by go_num,(G.out.drewN _).other (by show B≠B+1+1+1;omega) _,(q.out.drewN _).other (by show B+1≠B+1+1+1;omega) _,(s.out.drewN _).other (by show B+1+1≠B+1+1+1;omega) _,Zmw (r.out.drewN _) (by unfold Zms;first|rfl|(congr 1;(repeat' split)<;>omega)),Zmy (below_drewN u.out _) _ _ (by have:=J.out;omega)⟩
    case measure=>simp [intOf]
  ·have d:Blk wr (B+1+1+1) (cl3 (Zms (F g j)) (Zms (F l m)) (Zms (F n o))) 45:=C.out;have c0:=d.cell 0 (Zmp _ _ _);have K:=d.cell 1 (Zmq _ _ _);have L:=d.cell 2 (Zmr _ _ _);have g0:=s.out.cell 0 (Zmp _ _ _);have g1:=s.out.cell 1 (Zmq _ _ _);have g2:=s.out.cell 2 (Zmr _ _ _);have f0:=s.out.frozen 0;have M:=s.out.frozen 1;have f2:=s.out.frozen 2;clear C d;go_wp2;have N:=Zmx (x:=Zms (F g j)) (y:=Zms (F l m)) (z:=Zms (F n o)) s.out;have Y:=N.cell 0 (Zmp _ _ _);have Z:=N.cell 1 (Zmq _ _ _);have q2:=N.cell 2 (Zmr _ _ _);exact bodyPost_ret (v:=.agg #[.int .i64 (Zms (F g j)),.int .i64 (Zms (F l m)),.int .i64 (Zms (F n o))]) (by simp [results,Tryz.results85,go_sem,Y,Z,q2]) rfl ⟨rfl,Zmz u.out _ _ _ (by have:=J.out;omega)⟩
end
section
open Go.RowKit
attribute [local go_sem] World.cell?_alloc_some
def ZmE (n:Int) (arr:Bool):Int × Int × Int:=if 1+n≤2 then (1,0,0) else if 1+n≤4 then (0,1,0) else if arr=false∨n≤7 then (0,0,1) else (0,0,1+(n+7) / 8)
def ag3 (t:Int × Int × Int):Value:=.agg #[.int .i64 t.1,.int .i64 t.2.1,.int .i64 t.2.2]
theorem ZmF {w w1:World}{B:Nat}{a b c:Int} (h:Blk w1 B #[.int .i64 0,.int .i64 0,.int .i64 0] 45) (e:Below w.heap.size w w1) (d:w.heap.size≤B):Blk (((w1.setCell ⟨B,0,none⟩ (.int .i64 a)).setCell ⟨B,1,none⟩ (.int .i64 b)).setCell ⟨B,2,none⟩ (.int .i64 c)) B #[.int .i64 a,.int .i64 b,.int .i64 c] 45∧Below w.heap.size w (((w1.setCell ⟨B,0,none⟩ (.int .i64 a)).setCell ⟨B,1,none⟩ (.int .i64 b)).setCell ⟨B,2,none⟩ (.int .i64 c)):=
 ⟨((h.set 0 _).set 1 _).set 2 _,ZcS (j:=2) (ZcS (j:=1) (ZcS (j:=0) e d _) d _) d _⟩
theorem ZmG (n:Int) (d:Bool) (w:World) (l:0≤n) (m:n≤100000):Calls Tryz.prog 270 #[.int .i64 n,.bool d] w (Ret w (ag3 (ZmE n d))):=by
 have f:=Blk.new w #[.int .i64 0,.int .i64 0,.int .i64 0] 45;have j:=Zh (fun a b c=>ZmF (w:=w) (a:=a) (b:=b) (c:=c) f bE (Nat.le_refl _));have k:=Zh (show ZmE n d=ZmE n d from rfl);obtain ⟨v,hv⟩:∃ v,v=ZmE n d:=⟨_,rfl⟩;rw [←hv];have e:=Zh hv;have g:IntKind.i64.wrap (1+n)=1+n:=IntWalk.i64_in _ (by omega);have i:IntKind.i64.wrap (n+7)=n+7:=IntWalk.i64_in _ (by omega);clear f hv;go_enter Tryz.func270,Tryz.ntmps270;go_wp2
 all_goals
  refine bodyPost_ret (v:=ag3 v) (by rw [e.out];unfold ZmE;simp [results,Tryz.results270,go_sem,ag3];grind) rfl ⟨rfl,by exact bE⟩
def szV (m:Md) (i:In3):Int × Int × Int:=if i.op=14 then ZmE (m.cl.getD i.a.toNat default).f.length false else if i.op=15∨i.op=16 then ZmE i.a true else (0,0,0)
def ZmH (m:Md) (i:In3):Prop:=(i.op=14→0≤i.a∧i.a<m.cl.length∧(m.cl.getD i.a.toNat default).f.length≤100000)∧(i.op=15∨i.op=16→0≤i.a∧i.a≤1000)
theorem ZmI (m:Md) (h:Hd) (i:In3) (w:World) (H:Zaz w h m) (hi:ZmH m i):Calls Tryz.prog 210 #[.agg (HM.mk h m),ZI.i i] w (Ret w (ag3 (szV m i))):=by
 obtain ⟨l,z,T⟩:=i;obtain ⟨r,s⟩:=hi;dsimp only at r s ⊢;obtain ⟨G,k⟩:∃ G,G=((w.alloc (.cells (HM.mk h m) 26)).alloc (.cells #[.int .i64 l,.int .i64 z,.int .i64 T] 72)).alloc (.cells #[.int .i64 0,.int .i64 0,.int .i64 0] 45):=⟨_,rfl⟩;have W:Below w.heap.size w G:=by rw [k];exact bE
 have hX:Blk G w.heap.size (HM.mk h m) 26:=by rw [k];exact ((Blk.new _ _ _).alloc _).alloc _
 have hI:Blk G (w.heap.size+1) #[.int .i64 l,.int .i64 z,.int .i64 T] 72:=by rw [k];exact (Blk.new' (w:=w.alloc (.cells (HM.mk h m) 26)) _ _ (by simp)).alloc _
 have hR:Blk G (w.heap.size+2) #[.int .i64 0,.int .i64 0,.int .i64 0] 45:=by rw [k];exact Blk.new' (w:=(w.alloc (.cells (HM.mk h m) 26)).alloc (.cells #[.int .i64 l,.int .i64 z,.int .i64 T] 72)) _ _ (by simp)
 have U:=Zh W;have HX:=Zh hX;have Y:=Zh hI;have y:=Zh hR;have Hj:=Zh (H.old W);have S:=Zh k;obtain ⟨v,hv⟩:∃ v,v=szV m ⟨l,z,T⟩:=⟨_,rfl⟩;rw [←hv];clear k W hX hI hR H;have i0:=Y.out.cell 0 (v:=.int .i64 l) rfl;have i1:=Y.out.cell 1 (v:=.int .i64 z) rfl;by_cases q14:l=14
 ·subst q14;obtain ⟨Z,h1,h2⟩:=r rfl;obtain ⟨a,rfl⟩:∃ d:Nat,z=d:=⟨z.toNat,by omega⟩;have V:a<m.cl.length:=by omega
  obtain ⟨ad,I,-,-,e2,-⟩:=Hj.out.cls V;have x0:=HX.out.cell 0 (v:=.slice h.co m.cl.length h.cc) rfl;rw [I] at x0 S ⊢;have g:v=ZmE (m.cl.getD a default).f.length false:=by rw [hv];unfold szV;rw [if_pos rfl];rfl
  rw [Int.toNat_natCast] at h2;generalize (m.cl.getD a default).f.length=n at e2 g h2;have o:=Zh (fun X=>ZmG n false X (by omega) (by omega));rw [←g] at o;clear hv g r s I;go_enter Tryz.func210,Tryz.ntmps210
  go_upto_region 1 with fail
  rw [←S.out]
  go_wp2_with (go_at_call 270;refine (o.out _).mono ?_;rintro e w2 ⟨rfl,u⟩;have A:=Zh (Zag U.out u);have f:=y.out.old u;obtain ⟨D,E,F⟩:=v;have M:=f.cell 0 (v:=.int .i64 0) rfl;have N:=f.cell 1 (v:=.int .i64 0) rfl;have O:=f.cell 2 (v:=.int .i64 0) rfl;have J:=f.frozen 0;have K:=f.frozen 1;have L:=f.frozen 2;have hl:=f.lt;have C:=Zh f;unfold ag3)
  have j:=ZmF (w:=w) (a:=D) (b:=E) (c:=F) C.out A.out (by omega);have P:=j.1.cell 0 (v:=.int .i64 D) rfl;have Q:=j.1.cell 1 (v:=.int .i64 E) rfl;have R:=j.1.cell 2 (v:=.int .i64 F) rfl;exact bodyPost_ret (v:=ag3 (D,E,F)) (by simp [results,Tryz.results210,go_sem,P,Q,R,ag3]) rfl ⟨rfl,j.2⟩
 ·by_cases q15:l=15∨l=16
  ·obtain ⟨Z,h1⟩:=s q15;have g:v=ZmE z true:=by rw [hv];unfold szV;rw [if_neg q14,if_pos q15]
   have o:=Zh (fun X=>ZmG z true X Z (by omega));rw [←g] at o;clear hv g r s;have q2:l=15∨(l=16∧¬ l=15):=by omega
   rcases q2 with q|⟨q,q3⟩
   all_goals
    subst q;go_enter Tryz.func210,Tryz.ntmps210
    go_upto_region 1 with fail
    rw [←S.out]
    go_wp2_with (go_at_call 270;refine (o.out _).mono ?_;rintro e w2 ⟨rfl,u⟩;have A:=Zh (Zag U.out u);have f:=y.out.old u;obtain ⟨D,E,F⟩:=v;have M:=f.cell 0 (v:=.int .i64 0) rfl;have N:=f.cell 1 (v:=.int .i64 0) rfl;have O:=f.cell 2 (v:=.int .i64 0) rfl;have J:=f.frozen 0;have K:=f.frozen 1;have L:=f.frozen 2;have hl:=f.lt;have C:=Zh f;unfold ag3)
    have j:=ZmF (w:=w) (a:=D) (b:=E) (c:=F) C.out A.out (by omega);have P:=j.1.cell 0 (v:=.int .i64 D) rfl;have Q:=j.1.cell 1 (v:=.int .i64 E) rfl;have R:=j.1.cell 2 (v:=.int .i64 F) rfl;exact bodyPost_ret (v:=ag3 (D,E,F)) (by simp [results,Tryz.results210,go_sem,P,Q,R,ag3]) rfl ⟨rfl,j.2⟩
  ·have g:v=(0,0,0):=by rw [hv];unfold szV;rw [if_neg q14,if_neg q15]
   subst g;have ag:¬ l=15:=fun q=>q15 (.inl q);have am:¬ l=16:=fun q=>q15 (.inr q);have M:=y.out.cell 0 (v:=.int .i64 0) rfl;have N:=y.out.cell 1 (v:=.int .i64 0) rfl;have O:=y.out.cell 2 (v:=.int .i64 0) rfl;have J:=y.out.frozen 0;have K:=y.out.frozen 1;have L:=y.out.frozen 2;have hl:=y.out.lt;clear hv r s;go_enter Tryz.func210,Tryz.ntmps210
   go_upto_region 1 with fail
   rw [←S.out];go_wp2
   all_goals
    have j:=ZmF (w:=w) (a:=0) (b:=0) (c:=0) y.out U.out (by omega);have P:=j.1.cell 0 (v:=.int .i64 0) rfl;have Q:=j.1.cell 1 (v:=.int .i64 0) rfl;have R:=j.1.cell 2 (v:=.int .i64 0) rfl;exact bodyPost_ret (v:=ag3 (0,0,0)) (by simp [results,Tryz.results210,go_sem,P,Q,R,ag3]) rfl ⟨rfl,j.2⟩
end
section
open Go.RowKit Go.Maps
def ZmJ (w w':World):Prop:=∀ p v,w.cell? p=some v→w'.cell? p=some v
theorem ZmJ.refl (w:World):ZmJ w w:=fun _ _ h=>h
theorem ZmJ.trans {a b c:World} (h:ZmJ a b) (k:ZmJ b c):ZmJ a c:=fun p v q=>k p v (h p v q)
theorem ZmJ.of {a b:World} (h:Below a.heap.size a b):ZmJ a b:=fun _ _ d=>(h.cell (Zad d)).trans d
theorem ZmK {α:Type} [Cells α] {w w':World}{ao:Option Addr}{c:Nat}{L:List α} (h:Zas w ao c L) (f:ZmJ w w'):Zas w' ao c L:=
 ⟨h.1,h.2.1,fun j u g=>by obtain ⟨a,d,e⟩:=h.2.2 j u g;exact ⟨a,d,f _ _ e⟩⟩
theorem Zaz.keeps {w w':World}{h:Hd}{m:Md} (H:Zaz w h m) (hk:ZmJ w w'):Zaz w' h m:=
 ⟨ZmK H.cl hk,ZmK H.st hk,ZmK H.me hk,fun i d=>ZmK (H.f i d) hk,fun i d=>ZmK (H.t i d) hk,fun i d=>ZmK (H.p i d) hk,fun i d=>ZmK (H.l i d) hk,fun i d=>ZmK (H.k i d) hk,H.bf,H.bm,H.bz⟩
theorem Cs.keeps {w w':World} (hk:ZmJ w w'):∀ {l:List (Addr × Value)},Cs l w→Cs l w'
 | [],_=>trivial
 | (_,_) :: _,h=>⟨hk _ _ h.1,Cs.keeps hk h.2⟩
def ZmL (w:World) (M:Nat):Prop:=∃ es c,w.heap[M]?=some (.map es c)
theorem ZmM:∀ (n:Nat) (l:List Nat),l.Nodup→(∀ k∈l,k<n)→l.length≤n
 |0,l,_,h=>by
  cases l with
  | nil=>simp
  | cons x r=>have:=h x (by simp);omega
 |n+1,l,hn,h=>by
  have j:=ZmM n (l.filter fun x=>decide (x≠n)) (hn.filter _) (fun k f=>by simp at f;have:=h k f.1;omega);have g:∀ l:List Nat,l.Nodup→l.length≤(l.filter fun x=>decide (x≠n)).length+1:=by
   intro l
   induction l with
   | nil=>intro _;simp
   |cons x r ih=>
    intro d;rw [List.nodup_cons] at d;by_cases hx:x=n
    ·have:r.filter (fun x=>decide (x≠n))=r:=List.filter_eq_self.2 fun y i=>by have:y≠n:=fun e=>d.1 (by rw [hx,←e];exact i);simp [this]
     rw [List.filter_cons_of_neg (by simp [hx]),this];simp
    ·have:=ih d.2;rw [List.filter_cons_of_pos (by simp [hx])];simp only [List.length_cons];omega
  have:=g l hn;omega
theorem ZmL.lt {w:World}{M:Nat} (H:ZmL w M):M<w.heap.size:=by obtain ⟨d,c,h⟩:=H;exact (Array.getElem?_eq_some_iff.1 h).1
def Bd (n:Int):Prop:=0≤n∧n≤1000000001
def cdM (m:Md) (k:Nat):List In3:=(m.me.getD k default).k
end
section
abbrev T3:=Int × Int × Int
def z3:T3:=(0,0,0)
def plT (a b:T3):T3:=(Zms (a.1+b.1),Zms (a.2.1+b.2.1),Zms (a.2.2+b.2.2))
def mxT (a b:T3):T3:=(Zmt a.1 b.1,Zmt a.2.1 b.2.1,Zmt a.2.2 b.2.2)
def mlT (a:T3) (n:Int):T3:=(Zms (a.1*n),Zms (a.2.1*n),Zms (a.2.2*n))
def BdT (a:T3):Prop:=Bd a.1∧Bd a.2.1∧Bd a.2.2
theorem ZmN {n:Int} (h:0≤n):Bd (Zms n):=by unfold Bd Zms;split<;>omega
theorem ZmO {a b:Int} (h:Bd a) (g:Bd b):Bd (Zmt a b):=by unfold Zmt;split<;>assumption
theorem BdT.z:BdT z3:=by simp [BdT,Bd,z3]
theorem BdT.pl {a b:T3} (h:BdT a) (g:BdT b):BdT (plT a b):=
 ⟨ZmN (Int.add_nonneg h.1.1 g.1.1),ZmN (Int.add_nonneg h.2.1.1 g.2.1.1),ZmN (Int.add_nonneg h.2.2.1 g.2.2.1)⟩
theorem BdT.mx {a b:T3} (h:BdT a) (g:BdT b):BdT (mxT a b):=⟨ZmO h.1 g.1,ZmO h.2.1 g.2.1,ZmO h.2.2 g.2.2⟩
theorem BdT.ml {a:T3}{n:Int} (h:BdT a) (hn:0≤n):BdT (mlT a n):=
 ⟨ZmN (Int.mul_nonneg h.1.1 hn),ZmN (Int.mul_nonneg h.2.1.1 hn),ZmN (Int.mul_nonneg h.2.2.1 hn)⟩
theorem ZmP {n:Int}{b:Bool} (d:0≤n) (e:n≤1000):BdT (ZmE n b):=by
 unfold ZmE BdT Bd;split
 ·simp
 ·split
  ·simp
  ·split
   ·simp
   ·simp;omega
def ZmQ (t:Ty) (i:In3):Bool:=decide (t.k=3∧i.op=15∨t.k=4∧i.op=16∧i.b=t.c)
def ZmR (t:Ty) (c:List In3):List Int:=(c.filter (ZmQ t)).map (·.a)
def ZmS (m:Md) (t:Ty):List Int:=m.me.flatMap fun x=>ZmR t x.k
def ZmT (l:List Int) (n:Int):Int:=l.foldl Zmt n
def ZmU (m:Md) (t:Ty):Int:=ZmT (ZmS m t) 0
def ZmV (l:List Int) (a:T3):T3:=l.foldl (fun o n=>mxT o (ZmE n true)) a
def ZmW (m:Md) (t:Ty):T3:=ZmV (ZmS m t) z3
def ZmX (m:Md) (c:Nat):Bool:=m.me.any fun x=>x.k.any fun i=>decide (i.op=14∧i.a=c)
def ZmY (m:Md) (c:Nat):List Nat:=(List.range m.cl.length).filter fun d=>ZaI m (d+1) d c&&ZmX m d
def ZmZ (m:Md) (V:Nat→Option T3) (t:Ty):Option T3:=
 if t.k=3 then some (ZmW m t) else if t.k=2 then V t.c.toNat
 else if t.k=4 then (if ZmU m t=0 then some (ZmW m t) else match V t.c.toNat with|none=>none|some x=>some (plT (ZmW m t) (mlT x (ZmU m t)))) else some z3
def Zm0 (F:Ty→Option T3):T3→List Ty→Option T3
 | a,[]=>some a
 | a,t :: r=>match F t with|none=>none|some x=>Zm0 F (plT a x) r
def fsC (m:Md) (d:Nat):List Ty:=(m.cl.getD d default).f
def szC (m:Md) (d:Nat):T3:=ZmE (fsC m d).length false
def Zm1 (m:Md) (V:Nat→Option T3):T3→List Nat→Option T3
 | a,[]=>some a
 | a,d :: r=>match Zm0 (ZmZ m V) (szC m d) (fsC m d) with|none=>none|some s=>Zm1 m V (mxT a s) r
def Zm2 (m:Md):Nat→Nat→Option T3
 | 0,_=>none
 | n+1,c=>Zm1 m (Zm2 m n) z3 (ZmY m c)
def Zm3 (m:Md) (c:Nat):Option T3:=Zm2 m m.cl.length c
def Zm4 (m:Md) (t:Ty):Option T3:=ZmZ m (Zm3 m) t
def Le (V W:Nat→Option T3):Prop:=∀ c x,V c=some x→W c=some x
theorem Zm5 {F G:Ty→Option T3} (h:∀ t x,F t=some x→G t=some x):∀ {l:List Ty}{a s:T3},Zm0 F a l=some s→Zm0 G a l=some s
 | [],_,_,e=>e
 |t :: r,a,s,e=>by
  unfold Zm0 at e ⊢;cases hf:F t with
  | none=>rw [hf] at e;cases e
  | some x=>rw [hf] at e;rw [h t x hf];exact Zm5 h e
theorem Zm6 {m:Md}{V W:Nat→Option T3} (h:Le V W) (t:Ty) (x:T3) (e:ZmZ m V t=some x):ZmZ m W t=some x:=by
 unfold ZmZ at e ⊢;by_cases q3:t.k=3
 ·rw [if_pos q3] at e ⊢;exact e
 rw [if_neg q3] at e ⊢;by_cases q2:t.k=2
 ·rw [if_pos q2] at e ⊢;exact h _ _ e
 rw [if_neg q2] at e ⊢;by_cases q4:t.k=4
 ·rw [if_pos q4] at e ⊢;by_cases ql:ZmU m t=0
  ·rw [if_pos ql] at e ⊢;exact e
  rw [if_neg ql] at e ⊢;cases hv:V t.c.toNat with
  | none=>rw [hv] at e;cases e
  | some y=>rw [hv] at e;rw [h _ _ hv];exact e
 ·rw [if_neg q4] at e ⊢;exact e
theorem Zm7 {m:Md}{V W:Nat→Option T3} (h:Le V W):∀ {l:List Nat}{a s:T3},Zm1 m V a l=some s→Zm1 m W a l=some s
 | [],_,_,e=>e
 |d :: r,a,s,e=>by
  unfold Zm1 at e ⊢;cases hf:Zm0 (ZmZ m V) (szC m d) (fsC m d) with
  | none=>rw [hf] at e;cases e
  | some x=>rw [hf] at e;rw [Zm5 (Zm6 h) hf];exact Zm7 h e
theorem Zm8 (m:Md):∀ n,Le (Zm2 m n) (Zm2 m (n+1))
 | 0=>fun _ _ e=>by cases e
 |n+1=>fun c x e=>by unfold Zm2 at e ⊢;exact Zm7 (Zm8 m n) e
theorem Zm9 {m:Md}{c d:Nat} (h:d∈ZmY m c):d<m.cl.length:=List.mem_range.1 (List.mem_filter.1 h).1
theorem Zna {m:Md} (e:Za2 m=true) {d:Nat} (f:d<m.cl.length):∀ t∈fsC m d,Zfk m t:=by have h:=ZfN e (c:=d) (by omega) (by omega);rwa [Int.toNat_natCast] at h
theorem Znb {m:Md}{V W:Nat→Option T3} (h:∀ c,c<m.cl.length→V c=W c) {t:Ty} (d:Zfk m t):ZmZ m V t=ZmZ m W t:=by
 unfold ZmZ;by_cases q:t.k=2∨t.k=4
 ·have f:=ZfH d q;rw [h t.c.toNat (by omega)]
 ·rw [if_neg (fun e=>q (.inl e)),if_neg (fun e=>q (.inr e)),if_neg (fun e=>q (.inl e)),if_neg (fun e=>q (.inr e))]
theorem Znc {F G:Ty→Option T3}:∀ {l:List Ty}{a:T3},(∀ t∈l,F t=G t)→Zm0 F a l=Zm0 G a l
 | [],_,_=>rfl
 |t :: r,a,h=>by
  unfold Zm0;rw [h t (by simp)];cases G t with
  | none=>rfl
  | some x=>exact Znc fun u d=>h u (by simp [d])
theorem Znd {m:Md} (f:Za2 m=true) {V W:Nat→Option T3} (h:∀ c,c<m.cl.length→V c=W c):∀ {l:List Nat}{a:T3},(∀ d∈l,d<m.cl.length)→Zm1 m V a l=Zm1 m W a l
 | [],_,_=>rfl
 |d :: r,a,hl=>by
  unfold Zm1;rw [Znc fun t i=>Znb h (Zna f (hl d (by simp)) t i)];cases Zm0 (ZmZ m W) (szC m d) (fsC m d) with
  | none=>rfl
  | some x=>exact Znd f h fun e g=>hl e (by simp [g])
def Zne (m:Md) (n:Nat):Nat:=((List.range m.cl.length).filter fun c=>(Zm2 m n c).isSome).length
theorem Znf {α:Type} (p q:α→Bool) (h:∀ x,p x=true→q x=true):∀ l:List α,(l.filter p).length≤(l.filter q).length∧((l.filter p).length=(l.filter q).length→∀ x∈l,q x=p x)
 | []=>by simp
 |x :: r=>by
  obtain ⟨i,g⟩:=Znf p q h r;cases hp:p x with
  |true=>
   have f:=h x hp;simp only [List.filter_cons_of_pos hp,List.filter_cons_of_pos f,List.length_cons];refine ⟨by omega,fun e y d=>?_⟩;rcases List.mem_cons.1 d with rfl|d
   ·rw [hp,f]
   ·exact g (by omega) y d
  |false=>
   cases f:q x with
   |true=>
    simp only [List.filter_cons_of_neg (show ¬ p x=true by simp [hp]),List.filter_cons_of_pos f,List.length_cons];exact ⟨by omega,fun e=>by omega⟩
   |false=>
    simp only [List.filter_cons_of_neg (show ¬ p x=true by simp [hp]),List.filter_cons_of_neg (show ¬ q x=true by simp [f])];refine ⟨i,fun e y d=>?_⟩;rcases List.mem_cons.1 d with rfl|d
    ·rw [hp,f]
    ·exact g e y d
theorem Zng (m:Md) (n:Nat):Zne m n≤Zne m (n+1)∧(Zne m n=Zne m (n+1)→∀ c,c<m.cl.length→Zm2 m (n+1) c=Zm2 m n c):=by
 have f:=Znf (fun c=>(Zm2 m n c).isSome) (fun c=>(Zm2 m (n+1) c).isSome) (fun c h=>by
  obtain ⟨x,i⟩:=Option.isSome_iff_exists.1 h;simp [Zm8 m n c x i]) (List.range m.cl.length)
 refine ⟨f.1,fun e c g=>?_⟩;have d:=f.2 e c (List.mem_range.2 g);cases hv:Zm2 m n c with
 |none=>
  rw [hv] at d;cases hw:Zm2 m (n+1) c with
  | none=>rfl
  | some x=>rw [hw] at d;cases d
 | some x=>exact Zm8 m n c x hv
theorem Znh {m:Md} (f:Za2 m=true) {n:Nat} (h:∀ c,c<m.cl.length→Zm2 m (n+1) c=Zm2 m n c):∀ j c,c<m.cl.length→Zm2 m (n+j) c=Zm2 m n c
 | 0,_,_=>rfl
 |j+1,c,hc=>by rw [←h c hc];show Zm1 m (Zm2 m (n+j)) z3 (ZmY m c)=Zm1 m (Zm2 m n) z3 (ZmY m c);exact Znd f (fun d e=>Znh f h j d e) fun d e=>Zm9 e
theorem Zni (m:Md):∀ n,(∃ k,k<n∧Zne m k=Zne m (k+1))∨n≤Zne m n
 | 0=>.inr (Nat.zero_le _)
 |n+1=>by
  rcases Zni m n with ⟨k,d,e⟩|h
  ·exact .inl ⟨k,by omega,e⟩
  ·have:=(Zng m n).1;by_cases e:Zne m n=Zne m (n+1)
   ·exact .inl ⟨n,by omega,e⟩
   ·exact .inr (by omega)
theorem Znj (m:Md) (n:Nat):Zne m n≤m.cl.length:=by have:=List.length_filter_le (fun c=>(Zm2 m n c).isSome) (List.range m.cl.length);rwa [List.length_range] at this
theorem Znk {m:Md} (j:Za2 m=true) (n:Nat) (h:m.cl.length≤n):∀ c,c<m.cl.length→Zm2 m n c=Zm3 m c:=by
 have f:∃ k,k≤m.cl.length∧∀ c,c<m.cl.length→Zm2 m (k+1) c=Zm2 m k c:=by
  rcases Zni m (m.cl.length+1) with ⟨k,l,e⟩|d
  ·exact ⟨k,by omega,(Zng m k).2 e⟩
  ·have:=Znj m (m.cl.length+1);omega
 obtain ⟨k,l,e⟩:=f;intro c i;have d:=Znh j e (n-k) c i;have g:=Znh j e (m.cl.length-k) c i;rw [show k+(n-k)=n by omega] at d;rw [show k+(m.cl.length-k)=m.cl.length by omega] at g;unfold Zm3;rw [d,g]
theorem Znl {m:Md} (e:Za2 m=true) {c:Nat} (d:c<m.cl.length):Zm3 m c=Zm1 m (Zm3 m) z3 (ZmY m c):=by rw [←Znk e (m.cl.length+1) (by omega) c d];rfl
def Znm (m:Md) (f:Ty) (d:Nat):Prop:=(f.k=2∨f.k=4∧ZmU m f≠0)∧f.c.toNat=d
def Dep (m:Md) (c d:Nat):Prop:=∃ e∈ZmY m c,∃ f∈fsC m e,Znm m f d
theorem Znn {m:Md}{V:Nat→Option T3}{f:Ty}{d:Nat} (h:Znm m f d) (hv:V d=none):ZmZ m V f=none:=by
 obtain ⟨e,rfl⟩:=h;unfold ZmZ;rcases e with q|⟨q,hl⟩
 ·rw [if_neg (by omega),if_pos q];exact hv
 ·rw [if_neg (by omega),if_neg (by omega),if_pos q,if_neg hl,hv]
theorem Zno {F:Ty→Option T3}:∀ {l:List Ty}{a:T3}{f:Ty},f∈l→F f=none→Zm0 F a l=none
 |t :: r,a,f,hf,h=>by
  unfold Zm0;rcases List.mem_cons.1 hf with rfl|hf
  ·rw [h]
  ·cases F t with
   | none=>rfl
   | some x=>exact Zno hf h
theorem Znp {m:Md}{V:Nat→Option T3}:∀ {l:List Nat}{a:T3}{e:Nat},e∈l→Zm0 (ZmZ m V) (szC m e) (fsC m e)=none→Zm1 m V a l=none
 |d :: r,a,e,he,h=>by
  unfold Zm1;rcases List.mem_cons.1 he with rfl|he
  ·rw [h]
  ·cases Zm0 (ZmZ m V) (szC m d) (fsC m d) with
   | none=>rfl
   | some x=>exact Znp he h
theorem Znq {m:Md}{V:Nat→Option T3}{c d:Nat} (h:Dep m c d) (hv:V d=none):Zm1 m V z3 (ZmY m c)=none:=by obtain ⟨e,g,f,i,j⟩:=h;exact Znp g (Zno i (Znn j hv))
inductive Znr (m:Md):Nat→Nat→Prop where
 | refl (c:Nat):Znr m c c
 | step {c d u:Nat}:Dep m c d→Znr m d u→Znr m c u
theorem Zns {m:Md}{c d n:Nat}{x:T3} (h:Dep m c d) (hv:Zm2 m (n+1) c=some x):∃ y,Zm2 m n d=some y:=by
 cases hd:Zm2 m n d with
 | some y=>exact ⟨y,rfl⟩
 |none=>
  have:=Znq h hd;unfold Zm2 at hv;rw [hv] at this;cases this
theorem Znt {m:Md}{c u:Nat} (h:Znr m c u):∀ {n:Nat}{x:T3},Zm2 m n c=some x→∃ y,Zm2 m n u=some y:=by
 induction h with
 | refl c=>exact fun e=>⟨_,e⟩
 |step hd _ ih=>
  intro n x e;cases n with
  | zero=>cases e
  |succ n=>
   obtain ⟨y,d⟩:=Zns hd e;exact ih (Zm8 m n _ _ d)
theorem Znu {m:Md}{c d:Nat} (h:Dep m c d) (f:Znr m d c):∀ n,Zm2 m n c=none
 | 0=>rfl
 |n+1=>by
  cases e:Zm2 m (n+1) c with
  | none=>rfl
  |some x=>
   obtain ⟨y,i⟩:=Zns h e;obtain ⟨z,g⟩:=Znt f i;rw [Znu h f n] at g;cases g
def Znv (m:Md) (U:List Nat) (c:Nat):Prop:=Zm3 m c=none∨∃ u∈U,Znr m c u
theorem Znv.up {m:Md} (hm:Za2 m=true) {U:List Nat}{c d:Nat} (hc:c<m.cl.length) (h:Dep m c d) (hs:Znv m (c :: U) d):Znv m U c:=by
 rcases hs with hn|⟨u,hu,hp⟩
 ·left
  rw [Znl hm hc];exact Znq h hn
 ·rcases List.mem_cons.1 hu with rfl|hu
  ·exact .inl (Znu h hp _)
  ·exact .inr ⟨u,hu,.step h hp⟩
theorem Znv.nil {m:Md}{c:Nat} (h:Znv m [] c):Zm3 m c=none:=h.elim id fun ⟨_,hu,_⟩=>by cases hu
end
section
open Go.RowKit
attribute [local go_sem] World.cell?_alloc_some
end
