import Derived.Test.YtfmcclhfnpcokaaGreatG1
import Derived.Test.YtfmcclhfnpcokaaGreatG2
import Derived.Lib.SmallJoins
set_option linter.all false
set_option maxRecDepth 100000
set_option maxHeartbeats 2000000
namespace Go.Proofs.YtfmcclhfnpcokaaGreat
section
open Go.RowKit
def cl3 (a b c:Int):Array Value:=#[.int .i64 a,.int .i64 b,.int .i64 c]
theorem Zmp (a b c:Int):(cl3 a b c)[0]?=some (.int .i64 a):=rfl
theorem Zmq (a b c:Int):(cl3 a b c)[1]?=some (.int .i64 b):=rfl
theorem Zmr (a b c:Int):(cl3 a b c)[2]?=some (.int .i64 c):=rfl
def stg (x y z a b c:Int):Nat→Array Value
 | 0=>cl3 a b c
 | 1=>cl3 x b c
 | 2=>cl3 x y c
 | _=>cl3 x y z
def Zms (n:Int):Int:=if n≤1000000001 then n else 1000000001
def Zmt (a b:Int):Int:=if a≤b then b else a
section
variable {a b c x:Int}{w:World}{B:Nat}{t:TypeId}(h:Blk w B (cl3 a b c) t){v:Value}(hv:v=.int .i64 x)
include a b c x w B t h v hv
theorem Zmu:Blk (w.setCell ⟨B,0,none⟩ v) B (cl3 x b c) t:=by subst hv;exact h.set 0 _
theorem Zmv:Blk (w.setCell ⟨B,1,none⟩ v) B (cl3 a x c) t:=by subst hv;exact h.set 1 _
theorem Zmw:Blk (w.setCell ⟨B,2,none⟩ v) B (cl3 a b x) t:=by subst hv;exact h.set 2 _
end
theorem Zmx {a b c x y z:Int}{w:World}{B:Nat}{t:TypeId} (h:Blk w B (cl3 a b c) t):Blk (((w.setCell ⟨B,0,none⟩ (.int .i64 x)).setCell ⟨B,1,none⟩ (.int .i64 y)).setCell ⟨B,2,none⟩ (.int .i64 z)) B (cl3 x y z) t:=
 Zmw (Zmv (Zmu h rfl) rfl) rfl
theorem Zmy {B b:Nat}{w w':World} (h:Below B w w') (i:Nat) (v:Value) (e:B≤b):Below B w (w'.setCell ⟨b,i,none⟩ v):=h.setCell e v
theorem Zmz {B b:Nat}{w w':World} (h:Below B w w') (x y z:Value) (e:B≤b):Below B w (((w'.setCell ⟨b,0,none⟩ x).setCell ⟨b,1,none⟩ y).setCell ⟨b,2,none⟩ z):=((h.setCell e x).setCell e y).setCell e z
theorem ZmA (g j l b0 m o:Int) (w:World) (T:0≤g) (M:g≤1000000001) (U:0≤j) (N:j≤1000000001) (V:0≤l) (O:l≤1000000001) (X:0≤b0) (Q:b0≤1000000001) (Y:0≤m) (R:m≤1000000001) (Z:0≤o) (S:o≤1000000001) :
  Calls Tryz.prog 140 #[.agg #[.int .i64 g,.int .i64 j,.int .i64 l],.agg #[.int .i64 b0,.int .i64 m,.int .i64 o]] w fun e w'=>e=.returned (.agg #[.int .i64 (Zms (g+b0)),.int .i64 (Zms (j+m)),.int .i64 (Zms (l+o))])∧Below w.heap.size w w':=by
 obtain ⟨B,C⟩:∃ B,B=w.heap.size:=⟨_,rfl⟩;go_enter Tryz.func140,Tryz.ntmps140;go_wp2;have H:=Zh (show Blk (((w.alloc (.cells (cl3 g j l) 45)).alloc (.cells (cl3 b0 m o) 45)).alloc (.cells (cl3 0 0 0) 45)) B (cl3 g j l) 45∧Blk (((w.alloc (.cells (cl3 g j l) 45)).alloc (.cells (cl3 b0 m o) 45)).alloc (.cells (cl3 0 0 0) 45)) (B+1) (cl3 b0 m o) 45∧Blk (((w.alloc (.cells (cl3 g j l) 45)).alloc (.cells (cl3 b0 m o) 45)).alloc (.cells (cl3 0 0 0) 45)) (B+1+1) (cl3 0 0 0) 45∧Below w.heap.size w (((w.alloc (.cells (cl3 g j l) 45)).alloc (.cells (cl3 b0 m o) 45)).alloc (.cells (cl3 0 0 0) 45)) from
  ⟨((Blk.new' _ _ C).alloc _).alloc _,(Blk.new' _ _ (by simp [C])).alloc _,Blk.new' _ _ (by simp [C]),(((Below.refl _ _).alloc (Nat.le_refl _) _).alloc (by simp) _).alloc (by simp;omega) _⟩)
 rw [←C]
 change Code.wp _ _ _ _ (((w.alloc (.cells (cl3 g j l) 45)).alloc (.cells (cl3 b0 m o) 45)).alloc (.cells (cl3 0 0 0) 45))
 revert H
 generalize (((w.alloc (.cells (cl3 g j l) 45)).alloc (.cells (cl3 b0 m o) 45)).alloc (.cells (cl3 0 0 0) 45))=w1;intro H;have E:=Zh C;clear C
 go_loopw [5] (fun i wr=>∃ k:Nat,k≤3∧i=.int .i64 k∧Blk wr B (stg (Zms (g+b0)) (Zms (j+m)) (Zms (l+o)) g j l k) 45∧Blk wr (B+1) (cl3 b0 m o) 45∧Blk wr (B+1+1) (cl3 0 0 0) 45∧Below w.heap.size w wr) (fun i _=>3-(intOf i).toNat)
 case atStart=>exact ⟨0,by omega,rfl,H.out⟩
 case round=>
  obtain ⟨k,hk,rfl,f,D,L,A⟩:=hrel;have u:=Zh f;have p:=Zh D;have s:=Zh L;have F:=Zh A;clear f D L A H;rcases (show k=0∨k=1∨k=2∨k=3 by omega) with rfl|rfl|rfl|rfl
  ·have f:Blk wr B (cl3 (g) (j) (l)) 45:=u.out;have G:=f.cell 0 (Zmp _ _ _);have J:=f.frozen 0;have I:=p.out.cell 0 (Zmp _ _ _);have q:=Zh f;clear f u;go_wp2;refine Zaf 10 (by kernel_rfl) (by kernel_rfl) ?_;simp only [List.take_succ_cons,List.take_zero,List.drop_succ_cons,List.drop_zero]
   repeat still_step
   refine wpStill_nil ?_;go_wp2
   all_goals
    go_roundw
    case rel=>exact ⟨1,by omega,by go_num,(Zmu q.out (by unfold Zms;congr 1;split<;>split<;>omega)).drew,(p.out.other (by simp) _).drew,(s.out.other (by show B+1+1≠B;omega) _).drew,(Zmy F.out _ _ (by have:=E.out;omega)).drew⟩
    case measure=>simp [intOf]
  ·have f:Blk wr B (cl3 (Zms (g+b0)) (j) (l)) 45:=u.out;have G:=f.cell 1 (Zmq _ _ _);have J:=f.frozen 1;have I:=p.out.cell 1 (Zmq _ _ _);have q:=Zh f;clear f u;go_wp2;refine Zaf 10 (by kernel_rfl) (by kernel_rfl) ?_;simp only [List.take_succ_cons,List.take_zero,List.drop_succ_cons,List.drop_zero]
   repeat still_step
   refine wpStill_nil ?_;go_wp2
   all_goals
    go_roundw
    case rel=>exact ⟨2,by omega,by go_num,(Zmv q.out (by unfold Zms;congr 1;split<;>split<;>omega)).drew,(p.out.other (by simp) _).drew,(s.out.other (by show B+1+1≠B;omega) _).drew,(Zmy F.out _ _ (by have:=E.out;omega)).drew⟩
    case measure=>simp [intOf]
  ·have f:Blk wr B (cl3 (Zms (g+b0)) (Zms (j+m)) (l)) 45:=u.out;have G:=f.cell 2 (Zmr _ _ _);have J:=f.frozen 2;have I:=p.out.cell 2 (Zmr _ _ _);have q:=Zh f;clear f u;go_wp2;refine Zaf 10 (by kernel_rfl) (by kernel_rfl) ?_;simp only [List.take_succ_cons,List.take_zero,List.drop_succ_cons,List.drop_zero]
   repeat still_step
   refine wpStill_nil ?_;go_wp2
   all_goals
    go_roundw
    case rel=>exact ⟨3,by omega,by go_num,(Zmw q.out (by unfold Zms;congr 1;split<;>split<;>omega)).drew,(p.out.other (by simp) _).drew,(s.out.other (by show B+1+1≠B;omega) _).drew,(Zmy F.out _ _ (by have:=E.out;omega)).drew⟩
    case measure=>simp [intOf]
  ·have f:Blk wr B (cl3 (Zms (g+b0)) (Zms (j+m)) (Zms (l+o))) 45:=u.out;have c0:=f.cell 0 (Zmp _ _ _);have G:=f.cell 1 (Zmq _ _ _);have I:=f.cell 2 (Zmr _ _ _);have g0:=s.out.cell 0 (Zmp _ _ _);have g1:=s.out.cell 1 (Zmq _ _ _);have g2:=s.out.cell 2 (Zmr _ _ _);have f0:=s.out.frozen 0;have J:=s.out.frozen 1;have f2:=s.out.frozen 2;clear u f;go_wp2;have K:=Zmx (x:=Zms (g+b0)) (y:=Zms (j+m)) (z:=Zms (l+o)) s.out;have q0:=K.cell 0 (Zmp _ _ _);have q1:=K.cell 1 (Zmq _ _ _);have q2:=K.cell 2 (Zmr _ _ _);exact bodyPost_ret (v:=.agg #[.int .i64 (Zms (g+b0)),.int .i64 (Zms (j+m)),.int .i64 (Zms (l+o))]) (by simp [results,Tryz.results140,go_sem,q0,q1,q2]) rfl ⟨rfl,Zmz F.out _ _ _ (by have:=E.out;omega)⟩
theorem ZmB (g j l b0 m o:Int) (w:World) :
  Calls Tryz.prog 154 #[.agg #[.int .i64 g,.int .i64 j,.int .i64 l],.agg #[.int .i64 b0,.int .i64 m,.int .i64 o]] w fun e w'=>e=.returned (.agg #[.int .i64 (Zmt g b0),.int .i64 (Zmt j m),.int .i64 (Zmt l o)])∧Below w.heap.size w w':=by
 obtain ⟨B,C⟩:∃ B,B=w.heap.size:=⟨_,rfl⟩;go_enter Tryz.func154,Tryz.ntmps154;go_wp2;have H:=Zh (show Blk (((w.alloc (.cells (cl3 g j l) 45)).alloc (.cells (cl3 b0 m o) 45)).alloc (.cells (cl3 0 0 0) 45)) B (cl3 g j l) 45∧Blk (((w.alloc (.cells (cl3 g j l) 45)).alloc (.cells (cl3 b0 m o) 45)).alloc (.cells (cl3 0 0 0) 45)) (B+1) (cl3 b0 m o) 45∧Blk (((w.alloc (.cells (cl3 g j l) 45)).alloc (.cells (cl3 b0 m o) 45)).alloc (.cells (cl3 0 0 0) 45)) (B+1+1) (cl3 0 0 0) 45∧Below w.heap.size w (((w.alloc (.cells (cl3 g j l) 45)).alloc (.cells (cl3 b0 m o) 45)).alloc (.cells (cl3 0 0 0) 45)) from
  ⟨((Blk.new' _ _ C).alloc _).alloc _,(Blk.new' _ _ (by simp [C])).alloc _,Blk.new' _ _ (by simp [C]),(((Below.refl _ _).alloc (Nat.le_refl _) _).alloc (by simp) _).alloc (by simp;omega) _⟩)
 rw [←C]
 change Code.wp _ _ _ _ (((w.alloc (.cells (cl3 g j l) 45)).alloc (.cells (cl3 b0 m o) 45)).alloc (.cells (cl3 0 0 0) 45))
 revert H
 generalize (((w.alloc (.cells (cl3 g j l) 45)).alloc (.cells (cl3 b0 m o) 45)).alloc (.cells (cl3 0 0 0) 45))=w1;intro H;have E:=Zh C;clear C
 go_loopw [5] (fun i wr=>∃ k:Nat,k≤3∧i=.int .i64 k∧Blk wr B (stg (Zmt g b0) (Zmt j m) (Zmt l o) g j l k) 45∧Blk wr (B+1) (cl3 b0 m o) 45∧Blk wr (B+1+1) (cl3 0 0 0) 45∧Below w.heap.size w wr) (fun i _=>3-(intOf i).toNat)
 case atStart=>exact ⟨0,by omega,rfl,H.out⟩
 case round=>
  obtain ⟨k,X,rfl,f,D,L,A⟩:=hrel;have u:=Zh f;have p:=Zh D;have s:=Zh L;have F:=Zh A;clear f D L A H;rcases (show k=0∨k=1∨k=2∨k=3 by omega) with rfl|rfl|rfl|rfl
  ·have f:Blk wr B (cl3 (g) (j) (l)) 45:=u.out;have G:=f.cell 0 (Zmp _ _ _);have J:=f.frozen 0;have I:=p.out.cell 0 (Zmp _ _ _);have q:=Zh f;clear f u;go_wp2;refine Zaf 9 (by kernel_rfl) (by kernel_rfl) ?_;simp only [List.take_succ_cons,List.take_zero,List.drop_succ_cons,List.drop_zero]
   repeat still_step
   refine wpStill_nil ?_;go_wp2
   all_goals
    go_roundw
    case rel=>exact ⟨1,by omega,by go_num,(Zmu q.out (by unfold Zmt;congr 1;split<;>split<;>omega)).drew,(p.out.other (by simp) _).drew,(s.out.other (by show B+1+1≠B;omega) _).drew,(Zmy F.out _ _ (by have:=E.out;omega)).drew⟩
    case measure=>simp [intOf]
  ·have f:Blk wr B (cl3 (Zmt g b0) (j) (l)) 45:=u.out;have G:=f.cell 1 (Zmq _ _ _);have J:=f.frozen 1;have I:=p.out.cell 1 (Zmq _ _ _);have q:=Zh f;clear f u;go_wp2;refine Zaf 9 (by kernel_rfl) (by kernel_rfl) ?_;simp only [List.take_succ_cons,List.take_zero,List.drop_succ_cons,List.drop_zero]
   repeat still_step
   refine wpStill_nil ?_;go_wp2
   all_goals
    go_roundw
    case rel=>exact ⟨2,by omega,by go_num,(Zmv q.out (by unfold Zmt;congr 1;split<;>split<;>omega)).drew,(p.out.other (by simp) _).drew,(s.out.other (by show B+1+1≠B;omega) _).drew,(Zmy F.out _ _ (by have:=E.out;omega)).drew⟩
    case measure=>simp [intOf]
  ·have f:Blk wr B (cl3 (Zmt g b0) (Zmt j m) (l)) 45:=u.out;have G:=f.cell 2 (Zmr _ _ _);have J:=f.frozen 2;have I:=p.out.cell 2 (Zmr _ _ _);have q:=Zh f;clear f u;go_wp2;refine Zaf 9 (by kernel_rfl) (by kernel_rfl) ?_;simp only [List.take_succ_cons,List.take_zero,List.drop_succ_cons,List.drop_zero]
   repeat still_step
   refine wpStill_nil ?_;go_wp2
   all_goals
    go_roundw
    case rel=>exact ⟨3,by omega,by go_num,(Zmw q.out (by unfold Zmt;congr 1;split<;>split<;>omega)).drew,(p.out.other (by simp) _).drew,(s.out.other (by show B+1+1≠B;omega) _).drew,(Zmy F.out _ _ (by have:=E.out;omega)).drew⟩
    case measure=>simp [intOf]
  ·have f:Blk wr B (cl3 (Zmt g b0) (Zmt j m) (Zmt l o)) 45:=u.out;have Q:=f.cell 0 (Zmp _ _ _);have G:=f.cell 1 (Zmq _ _ _);have I:=f.cell 2 (Zmr _ _ _);have T:=s.out.cell 0 (Zmp _ _ _);have U:=s.out.cell 1 (Zmq _ _ _);have V:=s.out.cell 2 (Zmr _ _ _);have R:=s.out.frozen 0;have J:=s.out.frozen 1;have S:=s.out.frozen 2;clear u f;go_wp2;have K:=Zmx (x:=Zmt g b0) (y:=Zmt j m) (z:=Zmt l o) s.out;have M:=K.cell 0 (Zmp _ _ _);have N:=K.cell 1 (Zmq _ _ _);have O:=K.cell 2 (Zmr _ _ _);exact bodyPost_ret (v:=.agg #[.int .i64 (Zmt g b0),.int .i64 (Zmt j m),.int .i64 (Zmt l o)]) (by simp [results,Tryz.results154,go_sem,M,N,O]) rfl ⟨rfl,Zmz F.out _ _ _ (by have:=E.out;omega)⟩
def ZmC (f:Nat) (caps:Array Value) (w:World) (F:Int→Int→Int) (x y:Int):Prop:=
 ∀ W,Below w.heap.size w W→Calls Tryz.prog f (#[.int .i64 x,.int .i64 y]++caps) W fun e w'=>e=.returned (.int .i64 (F x y))∧∃ k,w'=W.drewN k
theorem ZmD (f:Nat) (q:Array Value) (F:Int→Int→Int) (j l o b0 m p:Int) (w:World)
  (cf:∀ A W,(callFunc f A).run Tryz.prog W=.ok (.enter f A) W)
  (V:ZmC f q w F j b0) (X:ZmC f q w F l m) (Y:ZmC f q w F o p) :
  Calls Tryz.prog 85 #[.agg #[.int .i64 j,.int .i64 l,.int .i64 o],.agg #[.int .i64 b0,.int .i64 m,.int .i64 p],.func (.func f) #[] q] w fun e w'=>e=.returned (.agg #[.int .i64 (Zms (F j b0)),.int .i64 (Zms (F l m)),.int .i64 (Zms (F o p))])∧Below w.heap.size w w':=by
 have R:=Zh V;have S:=Zh X;have T:=Zh Y;clear V X Y;obtain ⟨B,I⟩:∃ B,B=w.heap.size:=⟨_,rfl⟩;go_enter Tryz.func85,Tryz.ntmps85;go_wp2;have H:=Zh (show Blk ((((w.alloc (.cells (cl3 j l o) 45)).alloc (.cells (cl3 b0 m p) 45)).alloc (.cells (cl3 0 0 0) 45)).alloc (.cells (cl3 0 0 0) 45)) B (cl3 j l o) 45∧Blk ((((w.alloc (.cells (cl3 j l o) 45)).alloc (.cells (cl3 b0 m p) 45)).alloc (.cells (cl3 0 0 0) 45)).alloc (.cells (cl3 0 0 0) 45)) (B+1) (cl3 b0 m p) 45∧Blk ((((w.alloc (.cells (cl3 j l o) 45)).alloc (.cells (cl3 b0 m p) 45)).alloc (.cells (cl3 0 0 0) 45)).alloc (.cells (cl3 0 0 0) 45)) (B+1+1) (cl3 0 0 0) 45∧Blk ((((w.alloc (.cells (cl3 j l o) 45)).alloc (.cells (cl3 b0 m p) 45)).alloc (.cells (cl3 0 0 0) 45)).alloc (.cells (cl3 0 0 0) 45)) (B+1+1+1) (cl3 0 0 0) 45∧Below w.heap.size w ((((w.alloc (.cells (cl3 j l o) 45)).alloc (.cells (cl3 b0 m p) 45)).alloc (.cells (cl3 0 0 0) 45)).alloc (.cells (cl3 0 0 0) 45)) from
  ⟨(((Blk.new' _ _ I).alloc _).alloc _).alloc _,((Blk.new' _ _ (by simp [I])).alloc _).alloc _,(Blk.new' _ _ (by simp [I])).alloc _,Blk.new' _ _ (by simp [I]),((((Below.refl _ _).alloc (Nat.le_refl _) _).alloc (by simp) _).alloc (by simp;omega) _).alloc (by simp;omega) _⟩)
 rw [←I]
 change Code.wp _ _ _ _ ((((w.alloc (.cells (cl3 j l o) 45)).alloc (.cells (cl3 b0 m p) 45)).alloc (.cells (cl3 0 0 0) 45)).alloc (.cells (cl3 0 0 0) 45))
 revert H
 generalize ((((w.alloc (.cells (cl3 j l o) 45)).alloc (.cells (cl3 b0 m p) 45)).alloc (.cells (cl3 0 0 0) 45)).alloc (.cells (cl3 0 0 0) 45))=w1;intro H;have L:=Zh I;clear I
 go_loopw [9] (fun i wr=>∃ k:Nat,k≤3∧i=.int .i64 k∧Blk wr B (cl3 j l o) 45∧Blk wr (B+1) (cl3 b0 m p) 45∧Blk wr (B+1+1) (cl3 0 0 0) 45∧Blk wr (B+1+1+1) (stg (Zms (F j b0)) (Zms (F l m)) (Zms (F o p)) 0 0 0 k) 45∧Below w.heap.size w wr) (fun i _=>3-(intOf i).toNat)
 case atStart=>exact ⟨0,by omega,rfl,H.out⟩
 case round=>
  obtain ⟨k,hk,rfl,Z,K,hC,g,G⟩:=hrel;have J:=Zh Z;have s:=Zh K;have C:=Zh hC;have E:=Zh g;have D:=Zh G;clear Z K hC g G H;rcases (show k=0∨k=1∨k=2∨k=3 by omega) with rfl|rfl|rfl|rfl
  ·have g:Blk wr (B+1+1+1) (cl3 (0) (0) (0)) 45:=E.out;have M:=J.out.cell 0 (Zmp _ _ _);have O:=g.frozen 0;have U:=g.cell 0 (Zmp _ _ _);have N:=s.out.cell 0 (Zmp _ _ _);have u:=Zh g;clear g E;go_wp2;refine Zda 11 (by kernel_rfl) (by kernel_rfl) ?_;simp only [List.take_succ_cons,List.take_zero,List.drop_succ_cons,List.drop_zero]
   repeat (first|go_big_quiet_step (exact Calls.quiet_of (R.out _ (below_drewN D.out _)))|quiet_step (exact Calls.quiet_of (R.out _ (below_drewN D.out _))))
   refine wpQuiet_nil ?_;rintro _ ⟨nq,rfl⟩;go_wp2
   all_goals
    go_roundw
    case rel=>exact ⟨1,by omega,by go_num,(J.out.drewN _).other (by show B≠B+1+1+1;omega) _,(s.out.drewN _).other (by show B+1≠B+1+1+1;omega) _,(C.out.drewN _).other (by show B+1+1≠B+1+1+1;omega) _,Zmu (u.out.drewN _) (by unfold Zms;congr 1;split<;>split<;>omega),Zmy (below_drewN D.out _) _ _ (by have:=L.out;omega)⟩
    case measure=>simp [intOf]
  ·have g:Blk wr (B+1+1+1) (cl3 (Zms (F j b0)) (0) (0)) 45:=E.out;have M:=J.out.cell 1 (Zmq _ _ _);have O:=g.frozen 1;have U:=g.cell 1 (Zmq _ _ _);have N:=s.out.cell 1 (Zmq _ _ _);have u:=Zh g;clear g E;go_wp2;refine Zda 11 (by kernel_rfl) (by kernel_rfl) ?_;simp only [List.take_succ_cons,List.take_zero,List.drop_succ_cons,List.drop_zero]
   repeat (first|go_big_quiet_step (exact Calls.quiet_of (S.out _ (below_drewN D.out _)))|quiet_step (exact Calls.quiet_of (S.out _ (below_drewN D.out _))))
   refine wpQuiet_nil ?_;rintro _ ⟨nq,rfl⟩;go_wp2
   all_goals
    go_roundw
    case rel=>exact ⟨2,by omega,by go_num,(J.out.drewN _).other (by show B≠B+1+1+1;omega) _,(s.out.drewN _).other (by show B+1≠B+1+1+1;omega) _,(C.out.drewN _).other (by show B+1+1≠B+1+1+1;omega) _,Zmv (u.out.drewN _) (by unfold Zms;congr 1;split<;>split<;>omega),Zmy (below_drewN D.out _) _ _ (by have:=L.out;omega)⟩
    case measure=>simp [intOf]
  ·have g:Blk wr (B+1+1+1) (cl3 (Zms (F j b0)) (Zms (F l m)) (0)) 45:=E.out;have M:=J.out.cell 2 (Zmr _ _ _);have O:=g.frozen 2;have U:=g.cell 2 (Zmr _ _ _);have N:=s.out.cell 2 (Zmr _ _ _);have u:=Zh g;clear g E;go_wp2;refine Zda 11 (by kernel_rfl) (by kernel_rfl) ?_;simp only [List.take_succ_cons,List.take_zero,List.drop_succ_cons,List.drop_zero]
   repeat (first|go_big_quiet_step (exact Calls.quiet_of (T.out _ (below_drewN D.out _)))|quiet_step (exact Calls.quiet_of (T.out _ (below_drewN D.out _))))
   refine wpQuiet_nil ?_;rintro _ ⟨nq,rfl⟩;go_wp2
   all_goals
    go_roundw
    case rel=>exact ⟨3,by omega,by go_num,(J.out.drewN _).other (by show B≠B+1+1+1;omega) _,(s.out.drewN _).other (by show B+1≠B+1+1+1;omega) _,(C.out.drewN _).other (by show B+1+1≠B+1+1+1;omega) _,Zmw (u.out.drewN _) (by unfold Zms;congr 1;split<;>split<;>omega),Zmy (below_drewN D.out _) _ _ (by have:=L.out;omega)⟩
    case measure=>simp [intOf]
  ·have g:Blk wr (B+1+1+1) (cl3 (Zms (F j b0)) (Zms (F l m)) (Zms (F o p))) 45:=E.out;have c0:=g.cell 0 (Zmp _ _ _);have M:=g.cell 1 (Zmq _ _ _);have N:=g.cell 2 (Zmr _ _ _);have g0:=C.out.cell 0 (Zmp _ _ _);have g1:=C.out.cell 1 (Zmq _ _ _);have g2:=C.out.cell 2 (Zmr _ _ _);have f0:=C.out.frozen 0;have O:=C.out.frozen 1;have f2:=C.out.frozen 2;clear E g;go_wp2;have Q:=Zmx (x:=Zms (F j b0)) (y:=Zms (F l m)) (z:=Zms (F o p)) C.out;have q0:=Q.cell 0 (Zmp _ _ _);have q1:=Q.cell 1 (Zmq _ _ _);have q2:=Q.cell 2 (Zmr _ _ _);exact bodyPost_ret (v:=.agg #[.int .i64 (Zms (F j b0)),.int .i64 (Zms (F l m)),.int .i64 (Zms (F o p))]) (by simp [results,Tryz.results85,go_sem,q0,q1,q2]) rfl ⟨rfl,Zmz D.out _ _ _ (by have:=L.out;omega)⟩
end
section
open Go.RowKit
def ZmE (P:Program):List Deferred→World→World→Prop
 | [],w,w'=>w=w'
 | [d],w,w'=>∃ b ts t cs v0,d.target=.builtin b ts t cs∧(invoke d.target d.args).run P w=.ok (.value v0) w'
 | _,_,_=>False
def ZmF (P:Program) (gn:Func) (R:Ending→World→Prop):Exit→Act→World→Prop
 | .normal,a,w|.ret,a,w=>∃ w' v,ZmE P a.defers w w'∧(results gn a.tmps).run P w'=.ok v w'∧R (.returned v) w'
 | .outgrown,_,w=>R .outgrown w
 | _,_,_=>False
theorem ZmG {P:Program}{fr:Frame}{cs:List Frame}{w w':World}{d:Deferred}{ds:List Deferred}{b:Builtin}{j:Array TypeId}{t:TypeId}{g:Array Bool}{k:Value} (i:fr.mode=.returning) (hd:fr.defers=d :: ds) (f:d.target=.builtin b j t g) (e:(invoke d.target d.args).run P w=.ok (.value k) w') :
  step P (lone fr cs w)=.next (lone { fr with defers:=ds } cs w'):=by
 obtain ⟨l,a⟩:=d;simp only at f e;subst f;refine step_lone_go ?_;simp [stepG,unwind,callDeferred,i,hd,e]
theorem ZmH {P:Program}{f:Func}{ds:List Deferred}{w w':World}{fr:Frame}{cs:List Frame}{v:Value} (g:fr.mode=.returning) (hd:fr.defers=ds) (i:P.funcs[fr.fn]?=some f) (j:fr.kind=.normal) (h:ZmE P ds w w') (k:(results f fr.tmps).run P w'=.ok v w') :
  ∃ e,Steps P (lone fr cs w) (lone e cs w')∧e.fn=fr.fn∧e.leaving P w' (.returned v):=by
 match ds,h with
 | [],h=>obtain rfl:=h;exact ⟨fr,Steps.refl P _,rfl,g,hd,j,f,i,k⟩
 | [d],h=>
  obtain ⟨b,p,t,o,q,m,l⟩:=h;exact ⟨{ fr with defers:=[] },.one (ZmG g hd m l),rfl,g,rfl,j,f,i,k⟩
theorem ZmI {P:Program}{f:FuncId}{p:Func}{c:Code}{g:Array Value}{w:World}{R:Ending→World→Prop} (y:P.funcs[f]?=some p) (G:p.body=some c)
  (h:c.wp P (ZmF P p R) { tmps:=g++Array.replicate (p.ntmps-g.size) undef,defers:=[] } w):Calls P f g w R:=by
 intro cs
 let b:Frame:={ (default:Frame) with fn:=f,kind:=.normal }
 have j:Frame.enter P f g .normal=b.at { tmps:=g++Array.replicate (p.ntmps-g.size) undef,defers:=[] } [.code c]:=by simp [Frame.enter,Frame.at,y,G,b]
 obtain ⟨e,s,I,o,i⟩:=h b [] cs;rw [←j] at i;cases e with
 | normal=>
  obtain ⟨F,v,hd,C,u⟩:=o;obtain ⟨k,D,m,A⟩:=ZmH (fr:={ b.at s [] with mode:=.returning }) (cs:=cs) (ds:=s.defers) rfl rfl y rfl hd C;exact ⟨.returned v,F,k,u,Comes.of_steps (Steps.trans i (.one Go.step_end)) D,m,A⟩
 | ret=>
  obtain ⟨F,v,hd,C,u⟩:=o;obtain ⟨q,E⟩:=i;obtain ⟨k,D,m,A⟩:=ZmH (fr:={ b.at s q with mode:=.returning }) (cs:=cs) (ds:=s.defers) rfl rfl y rfl hd C;exact ⟨.returned v,F,k,u,Comes.of_steps E D,m,A⟩
 | panic chain=>exact o.elim
 | exit id=>exact o.elim
 | goto l=>exact o.elim
 | outgrown=>exact ⟨.outgrown,I,b,o,i.resolve_left (by simp [b]),rfl,trivial⟩
end
section
open Go.ChangeShapes Go.WideShapes Go.ChangeAt Go.RowKit
theorem ZmJ {H:Type} (d:DataW H):1≤Rows.uptoBulk d:=by
 cases d with
 | lit l=>cases l<;>simp [Rows.uptoBulk]
 | nil=>simp [Rows.uptoBulk]
 | ptr d=>simp [Rows.uptoBulk]
 | slice elems spare=>simp [Rows.uptoBulk]
 | agg parts=>simp [Rows.uptoBulk]
 | iface t d=>simp [Rows.uptoBulk]
 | map entries=>simp [Rows.uptoBulk]
 | held h=>simp [Rows.uptoBulk]
theorem ZmK {H:Type} (l:List (DataW H)):l.length≤Rows.uptoBulkAll l:=by
 induction l with
 | nil=>simp [Rows.uptoBulkAll]
 | cons x r ih=>have:=ZmJ x;simp only [Rows.uptoBulkAll,List.length_cons];omega
theorem ZmL {H:Type} (e f:List (DataW H)):e.length+f.length+1≤Rows.uptoBulk (.slice e f):=by have g:=ZmK e;have i:=ZmK f;simp only [Rows.uptoBulk];omega
theorem ZmM {H:Type}{l:List (DataW H)} (e:Rows.uptoSmall H l=true):Rows.uptoBulkAll l≤1048576:=of_decide_eq_true e
theorem ZmN {H:Type} (k:IntKind) (e:List Int):(lits (H:=H) k e).length=e.length:=by simp [lits]
theorem ZmO {H:Type}{enc:TypeId × Value→H}{P:Program}{W:World}{r:Reach}{b0:Nat}{t e:TypeId}{k:IntKind}{v:Value}{d:DataW H}{ps:List MemPlace}
  (s:P.underlying t=some (.slice e)) (y:P.underlying e=some (.int k)) (u:P.cellsOf e=1)
  (hval:Value.okWide P W r b0 t v) (hd:DataW.Trod enc P W 0 (fun _=>true) true t v d ps) :
  ∃ a cap g,v=.slice a g.length cap∧(Sl k W a g∧(a=none→cap=0))∧(∀ n∈g,(Lit.int k n).wf=true)∧g.length≤maxLen∧g.length≤Rows.uptoBulk d:=by
 obtain ⟨a,p,cap,rfl⟩:=okWide_slice s hval;obtain ⟨q,A⟩:=hd;rcases open_ints s y u A with ⟨f,_⟩|⟨x,l,c,g,f,_,G,I,E,D,j,o⟩
 ·simp [Value.cells] at f;obtain ⟨rfl,rfl,rfl⟩:=f;exact ⟨none,0,[],rfl,⟨fun i m=>by simp at m,fun _=>rfl⟩,by simp,by simp,by simp⟩
 ·simp [Value.cells] at f;obtain ⟨rfl,rfl,rfl⟩:=f;have F:g.length=cap:=by simpa using E
  obtain ⟨rfl,_⟩:=Prod.mk.inj D;refine ⟨some x,cap,g.take p,by rw [List.length_take,Nat.min_eq_left (by omega)],⟨?_,fun h=>by cases h⟩,fun n C=>o n (List.mem_of_mem_take C),by rw [List.length_take];omega,?_⟩
  ·intro i m;rw [List.length_take] at m;refine ⟨x,rfl,?_⟩;rw [j i (by omega),List.getD_eq_getElem?_getD,List.getD_eq_getElem?_getD,List.getElem?_take_of_lt (by omega)]
  ·refine Nat.le_trans ?_ (ZmL _ _);rw [ZmN];omega
theorem ZmP {n:Int} (h:(Lit.int .i64 n).wf=true):-9223372036854775808≤n∧n≤9223372036854775807:=by simpa [Lit.wf,IntKind.min,IntKind.max,IntKind.bits,IntKind.signed] using h
end
section
open Go.ChangeShapes Go.WideShapes Go.ChangeAt Go.RowKit Go.Deep
theorem ZmQ {α:Type} [Inhabited α] {Q:Nat→α→Prop}:∀ n,(∀ i,i<n→∃ x,Q i x)→∃ l:List α,l.length=n∧∀ i,i<n→Q i (l.getD i default)
 | 0,_=>⟨[],rfl,fun i e=>by omega⟩
 | n+1,h=>by
  obtain ⟨l,f,g⟩:=ZmQ n fun i e=>h i (by omega);obtain ⟨x,j⟩:=h n (by omega);refine ⟨l++[x],by simp [f],fun i e=>?_⟩;by_cases hin:i<n
  ·rw [List.getD_eq_getElem?_getD,List.getElem?_append_left (by omega),←List.getD_eq_getElem?_getD];exact g i hin
  ·obtain rfl:i=n:=by omega
   rw [List.getD_eq_getElem?_getD,List.getElem?_append_right (by omega),f];simpa using j
section
variable {H:Type}{enc:TypeId × Value→H}{P:Program}{W:World}
theorem ZmR {d:DataW H}:∀ {l:List (DataW H)},d∈l→Rows.uptoBulk d≤Rows.uptoBulkAll l
 | [],h=>by cases h
 | x :: r,h=>by
  unfold Rows.uptoBulkAll;rcases List.mem_cons.1 h with rfl|h
  ·omega
  ·have:=ZmR h;omega
theorem ZmS {α:Type} [Cells α] [Inhabited α] {Q:α→Prop}{t e:TypeId}{m:Nat}{v:Value}{y:DataW H × List MemPlace} (hN:Rows.uptoBulk y.1≤1048576) (Z:P.underlying t=some (.slice e)) (X:P.cellsOf e=Cells.n α)
  (I:∀ n cs z,Rows.uptoBulk z.1≤1048576→cs.length=Cells.n α→DataW.trod enc P W 0 (fun _=>true) true n e cs=some z→∃ x:α,cs=Cells.cells x∧Q x) (h:DataW.trod enc P W 0 (fun _=>true) true m t [v]=some y) :
  ∃ ao cap,∃ l:List α,v=.slice ao l.length cap∧Zas W ao cap l∧l.length≤cap∧l.length≤1048576∧∀ i,i<l.length→Q (l.getD i default):=by
 rcases open_slice Z h with ⟨g,_⟩|⟨a,f,cap,k,n,D,Pl,g,_,hl,hm,M,V,s⟩
 ·obtain rfl:v=.slice none 0 0:=by simpa using g
  exact ⟨none,0,[],rfl,Zas.nil W,by simp,by simp,fun i s=>by simp at s⟩
 ·obtain rfl:v=.slice (some a) f cap:=by simpa using g
  have Y:f≤k:=by simp at M;omega
  have J:∀ i,i<f→∃ x:α,Q x∧∀ j (A:j<Cells.n α),W.cell? (a.add (i*Cells.n α+j))=(Cells.cells x)[j]?:=by intro i K;obtain ⟨E,T,N⟩:=s i (by omega);rw [X] at T;obtain ⟨_,G,F⟩:=World.cells?_some T;obtain ⟨x,R,C⟩:=I n E _ (Nat.le_trans (ZmR (List.mem_map.2 ⟨i,List.mem_range.2 K,rfl⟩)) (by rw [V] at hN;unfold Rows.uptoBulk at hN;omega)) G N;refine ⟨x,C,fun j A=>?_⟩;rw [←R,←F j A,Go.Deep.add_add]
  obtain ⟨l,L,C⟩:=ZmQ f J;refine ⟨some a,cap,l,by rw [L],⟨Zan l,(fun h=>by cases h),fun j u O=>⟨a,rfl,?_⟩⟩,by omega,?_,fun i s=>(C i (by omega)).1⟩
  rotate_left
  ·rw [V] at hN;dsimp only at hN;have:=ZmL ((List.range f).map D) ((List.range (k-f)).map fun j=>D (f+j));simp only [List.length_map,List.length_range] at this;omega
  have U:=Cells.pos (α:=α);have A:j<l.length*Cells.n α:=by have:=(List.getElem?_eq_some_iff.1 O).1;rwa [Zan] at this
  have o:j / Cells.n α<l.length:=(Nat.div_lt_iff_lt_mul U).2 A;have q:j % Cells.n α<Cells.n α:=Nat.mod_lt _ U;have p:j=j / Cells.n α*Cells.n α+j % Cells.n α:=by rw [Nat.mul_comm];exact (Nat.div_add_mod j _).symm
  have S:=(C (j / Cells.n α) (by omega)).2 (j % Cells.n α) q;rw [p,Zaq l _ o _ q] at O;rw [←p] at S;rw [S,←O];simp [o]
theorem ZmT {cs:List Value} (e:cs.length=2):∃ a b,cs=[a,b]:=by
 match cs,e with
 | [a,b],_=>exact ⟨a,b,rfl⟩
theorem ZmU {cs:List Value} (e:cs.length=3):∃ a b c,cs=[a,b,c]:=by
 match cs,e with
 | [a,b,c],_=>exact ⟨a,b,c,rfl⟩
theorem ZmV {cs:List Value} (e:cs.length=4):∃ a b c d,cs=[a,b,c,d]:=by
 match cs,e with
 | [a,b,c,d],_=>exact ⟨a,b,c,d,rfl⟩
theorem ZmW {cs:List Value} (i:cs.length=7):∃ a b c d e f g,cs=[a,b,c,d,e,f,g]:=by
 match cs,i with
 | [a,b,c,d,e,f,g],_=>exact ⟨a,b,c,d,e,f,g,rfl⟩
end
section
variable {H:Type}{enc:TypeId × Value→H}{W:World}
section
variable (n:Nat)(cs:List Value)(z:DataW H × List MemPlace)
include n cs z
theorem ZmX (_:Rows.uptoBulk z.1≤1048576) (_:cs.length=Cells.n Int) (h:DataW.trod enc Tryz.prog W 0 (fun _=>true) true n 3 cs=some z):∃ x:Int,cs=Cells.cells x∧True:=by obtain ⟨k,e,_⟩:=DataW.trod_int Tryz.underlying3 h;exact ⟨k,e,trivial⟩
theorem ZmY (_:Rows.uptoBulk z.1≤1048576) (E:cs.length=Cells.n Ty) (h:DataW.trod enc Tryz.prog W 0 (fun _=>true) true n 38 cs=some z):∃ x:Ty,cs=Cells.cells x∧True:=by obtain ⟨xs,n,_,_,_,hlen,C⟩:=DataW.trod_struct Tryz.underlying38 h;obtain ⟨a,b,rfl⟩:=ZmT E;have A:=C 0 _ rfl;have h1:=C 1 _ rfl;rw [show xs[0]?=some (xs[0]'(by rw [hlen];decide)) by simp] at A;rw [show xs[1]?=some (xs[1]'(by rw [hlen];decide)) by simp] at h1;obtain ⟨k0,e0,_⟩:=DataW.trod_int Tryz.underlying3 A;obtain ⟨k1,D,_⟩:=DataW.trod_int Tryz.underlying3 h1;have f:[a]=[Value.int .i64 k0]:=e0;have y:[b]=[Value.int .i64 k1]:=D;cases f;cases y;exact ⟨⟨k0,k1⟩,rfl,trivial⟩
theorem ZmZ (_:Rows.uptoBulk z.1≤1048576) (G:cs.length=Cells.n In3) (h:DataW.trod enc Tryz.prog W 0 (fun _=>true) true n 72 cs=some z):∃ x:In3,cs=Cells.cells x∧True:=by obtain ⟨xs,n,_,_,_,hlen,C⟩:=DataW.trod_struct Tryz.underlying72 h;obtain ⟨a,b,c,rfl⟩:=ZmU G;have h0:=C 0 _ rfl;have h1:=C 1 _ rfl;have D:=C 2 _ rfl;rw [show xs[0]?=some (xs[0]'(by rw [hlen];decide)) by simp] at h0;rw [show xs[1]?=some (xs[1]'(by rw [hlen];decide)) by simp] at h1;rw [show xs[2]?=some (xs[2]'(by rw [hlen];decide)) by simp] at D;obtain ⟨k0,e0,_⟩:=DataW.trod_int Tryz.underlying3 h0;obtain ⟨k1,E,_⟩:=DataW.trod_int Tryz.underlying3 h1;obtain ⟨k2,F,_⟩:=DataW.trod_int Tryz.underlying3 D;have f:[a]=[Value.int .i64 k0]:=e0;have y:[b]=[Value.int .i64 k1]:=E;have A:[c]=[Value.int .i64 k2]:=F;cases f;cases y;cases A;exact ⟨⟨k0,k1,k2⟩,rfl,trivial⟩
end
theorem Zm0 {z:DataW H × List MemPlace}{e:List (DataW H × List MemPlace)} (f:z=(.agg (e.map (·.1)),e.flatMap (·.2))) (g:Rows.uptoBulk z.1≤1048576) {i:Nat} (j:i<e.length):Rows.uptoBulk (e[i]).1≤1048576:=by refine Nat.le_trans (ZmR (l:=e.map (·.1)) (List.mem_map.2 ⟨e[i],List.getElem_mem j,rfl⟩)) ?_;rw [f] at g;unfold Rows.uptoBulk at g;omega
def Zm1 (W:World) (x:Cls × CHd):Prop:=Zas W x.2.fo x.2.fc x.1.f∧Zas W x.2.mo x.2.mc x.1.m∧x.1.f.length≤x.2.fc∧x.1.f.length≤1048576∧x.1.m.length≤1048576
def Zm2 (W:World) (x:Mth × MHd):Prop:=Zas W x.2.po x.2.pc x.1.p∧Zas W x.2.lo x.2.lc x.1.l∧Zas W x.2.ko x.2.kc x.1.k∧x.1.p.length≤1048576∧x.1.l.length≤1048576∧x.1.k.length≤1048576
instance:Inhabited (Cls × CHd):=⟨default,default⟩
instance:Inhabited (Mth × MHd):=⟨default,default⟩
theorem Zm3 (n:Nat) (cs:List Value) (z:DataW H × List MemPlace) (Z:Rows.uptoBulk z.1≤1048576) (X:cs.length=Cells.n (Cls × CHd)) (h:DataW.trod enc Tryz.prog W 0 (fun _=>true) true n 44 cs=some z):∃ x:Cls × CHd,cs=Cells.cells x∧Zm1 W x:=by obtain ⟨xs,n,_,J,_,hlen,y⟩:=DataW.trod_struct Tryz.underlying44 h;have hp:∀ i (hi:i<xs.length),Rows.uptoBulk (xs[i]).1≤1048576:=fun i hi=>Zm0 J Z hi;obtain ⟨a,b,c,d,rfl⟩:=ZmV X;have M:=y 0 _ rfl;have h1:=y 1 _ rfl;have N:=y 2 _ rfl;have R:=y 3 _ rfl;rw [show xs[0]?=some (xs[0]'(by rw [hlen];decide)) by simp] at M;rw [show xs[1]?=some (xs[1]'(by rw [hlen];decide)) by simp] at h1;rw [show xs[2]?=some (xs[2]'(by rw [hlen];decide)) by simp] at N;rw [show xs[3]?=some (xs[3]'(by rw [hlen];decide)) by simp] at R;obtain ⟨k0,e0,_⟩:=DataW.trod_string Tryz.underlying9 M;obtain ⟨k1,T,_⟩:=DataW.trod_int Tryz.underlying3 h1;have A:[a]=[Value.string k0]:=e0;have C:[b]=[Value.int .i64 k1]:=T;cases A;cases C;obtain ⟨V,U,f,rfl,F,E,D,_⟩:=ZmS (α:=Ty) (v:=c) (hp 2 _) Tryz.underlying23 (by kernel_rfl) ZmY N;obtain ⟨mo,mc,l,rfl,I,Y,G,_⟩:=ZmS (α:=Int) (v:=d) (hp 3 _) Tryz.underlying27 (by kernel_rfl) ZmX R;exact ⟨(⟨k0,k1,f,l⟩,⟨V,U,mo,mc⟩),rfl,F,I,E,D,G⟩
theorem Zm4 (n:Nat) (cs:List Value) (z:DataW H × List MemPlace) (hz:Rows.uptoBulk z.1≤1048576) (Y:cs.length=Cells.n (Mth × MHd)) (h:DataW.trod enc Tryz.prog W 0 (fun _=>true) true n 70 cs=some z):∃ x:Mth × MHd,cs=Cells.cells x∧Zm2 W x:=by
 obtain ⟨xs,n,_,M,_,hlen,f⟩:=DataW.trod_struct Tryz.underlying70 h;have hp:∀ i (hi:i<xs.length),Rows.uptoBulk (xs[i]).1≤1048576:=fun i hi=>Zm0 M hz hi;obtain ⟨a,b,c,d,r,s,k,rfl⟩:=ZmW Y;have N:=f 0 _ rfl;have h1:=f 1 _ rfl;have R:=f 2 _ rfl;have T:=f 3 _ rfl;have U:=f 4 _ rfl;have V:=f 5 _ rfl;rw [show xs[0]?=some (xs[0]'(by rw [hlen];decide)) by simp] at N;rw [show xs[1]?=some (xs[1]'(by rw [hlen];decide)) by simp] at h1;rw [show xs[2]?=some (xs[2]'(by rw [hlen];decide)) by simp] at R;rw [show xs[3]?=some (xs[3]'(by rw [hlen];decide)) by simp] at T;rw [show xs[4]?=some (xs[4]'(by rw [hlen];decide)) by simp] at U;rw [show xs[5]?=some (xs[5]'(by rw [hlen];decide)) by simp] at V;obtain ⟨k0,e0,_⟩:=DataW.trod_string Tryz.underlying9 N;obtain ⟨k1,X,_⟩:=DataW.trod_int Tryz.underlying3 h1;have y:[a]=[Value.string k0]:=e0;have A:[b]=[Value.int .i64 k1]:=X;cases y;cases A;obtain ⟨po,pc,p,rfl,I,aa,G,_⟩:=ZmS (α:=Ty) (v:=c) (hp 2 _) Tryz.underlying23 (by kernel_rfl) ZmY R;obtain ⟨lo,lc,l,rfl,F,Z,E,_⟩:=ZmS (α:=Ty) (v:=d) (hp 3 _) Tryz.underlying23 (by kernel_rfl) ZmY T;obtain ⟨t,ht,_⟩:=ZmY (cs:=[r,s]) _ _ (hp 4 _) rfl U;have J:[r,s]=[Value.int .i64 t.k,Value.int .i64 t.c]:=ht;cases J;obtain ⟨ko,kc,q,rfl,D,hkl,C,_⟩:=ZmS (α:=In3) (v:=k) (hp 5 _) Tryz.underlying68 (by kernel_rfl) ZmZ V;exact ⟨(⟨k0,k1,p,l,t,q⟩,⟨po,pc,lo,lc,ko,kc⟩),rfl,I,F,D,G,E,C⟩
theorem Zm5 {α β:Type} [Inhabited α] [Inhabited (α × β)] (l:List (α × β)) {i:Nat} (e:i<l.length):(l.map Prod.fst).getD i default=(l.getD i default).1:=by simp [e]
theorem Zm6 {α β:Type} [Inhabited β] [Inhabited (α × β)] (l:List (α × β)):((l.map Prod.fst).mapIdx fun i x=>(x,(l.getD i default).2))=l:=by
 apply List.ext_getElem
 ·simp
 ·intro i f e;simp [e]
structure MdB (m:Md):Prop where
 z:m.cl.length≤1048576∧m.st.length≤1048576∧m.me.length≤1048576
 c:∀ i,i<m.cl.length→(m.cl.getD i default).f.length≤1048576∧(m.cl.getD i default).m.length≤1048576
 m:∀ i,i<m.me.length→(m.me.getD i default).p.length≤1048576∧(m.me.getD i default).l.length≤1048576∧(m.me.getD i default).k.length≤1048576
section
variable {r:Reach}{b0:Nat}{v:Value}{d:DataW H}{ps:List MemPlace}(hval:Value.okWide Tryz.prog W r b0 26 v)(hd:DataW.Trod enc Tryz.prog W 0 (fun _=>true) true 26 v d ps)(hN:Rows.uptoBulk d≤1048576)
include r b0 v d ps hval hd hN
theorem Zm7:
  ∃ h m,v=.agg (HM.mk h m)∧Zaz W h m∧MdB m:=by
 obtain ⟨T,U,V,X,Y,Z,y2,y3,n,rfl,o,_,E,F,G,I⟩:=Go.Joins.open_agg4 Tryz.underlying26 (by kernel_rfl) (by kernel_rfl) hval hd;rw [o] at hN;simp only [Rows.uptoBulk,Rows.uptoBulkAll] at hN;obtain ⟨y,u,j,rfl,l,J,K,g⟩:=ZmS (α:=Cls × CHd) (v:=T) (by omega) Tryz.underlying22 (by kernel_rfl) Zm3 E;obtain ⟨R,Q,S,rfl,q,N,O,_⟩:=ZmS (α:=Ty) (v:=U) (by omega) Tryz.underlying23 (by kernel_rfl) ZmY F;obtain ⟨C,A,k,rfl,p,L,M,f⟩:=ZmS (α:=Mth × MHd) (v:=V) (by omega) Tryz.underlying24 (by kernel_rfl) Zm4 G;obtain ⟨s,D,_⟩:=DataW.trod_int Tryz.underlying3 I;obtain rfl:X=_:=by simpa using D
 refine ⟨⟨y,u,R,Q,C,A,fun i=>(j.getD i default).2,fun i=>(k.getD i default).2⟩,⟨j.map Prod.fst,S,k.map Prod.fst,s⟩,by simp,?_,⟨by dsimp only;simp only [List.length_map];omega,fun i e=>?_,fun i e=>?_⟩⟩
 rotate_left
 ·dsimp only at e ⊢;rw [List.length_map] at e;rw [Zm5 _ e];exact (g i e).2.2.2
 ·dsimp only at e ⊢;rw [List.length_map] at e;rw [Zm5 _ e];exact (f i e).2.2.2
 refine ⟨?_,q,?_,?_,?_,?_,?_,?_,?_,?_,?_⟩
 ·show Zas W y u ((j.map Prod.fst).mapIdx fun i x=>(x,(j.getD i default).2));rw [Zm6];exact l
 ·show Zas W C A ((k.map Prod.fst).mapIdx fun i x=>(x,(k.getD i default).2));rw [Zm6];exact p
 all_goals try (intro i e;dsimp only at e ⊢;rw [List.length_map] at e;rw [Zm5 _ e])
 ·exact (g i e).1
 ·exact (g i e).2.1
 ·exact (f i e).1
 ·exact (f i e).2.1
 ·exact (f i e).2.2.1
 ·exact (g i e).2.2.1
 ·have:=(f i e).2.2.2;omega
 ·dsimp only;simp only [List.length_map];omega
theorem Zm8:
  ∃ h m,v=.agg (HM.mk h m)∧Zaz W h m:=by
 obtain ⟨h,m,e,f,_⟩:=Zm7 hval hd hN;exact ⟨h,m,e,f⟩
end
theorem Zm9 {r:Reach}{b0:Nat}{v:Value}{d:DataW H}{ps:List MemPlace} (hval:Value.okWide Tryz.prog W r b0 38 v) (hd:DataW.Trod enc Tryz.prog W 0 (fun _=>true) true 38 v d ps) :
  ∃ t:Ty,v=.agg #[.int .i64 t.k,.int .i64 t.c]:=by
 obtain ⟨v0,A,y0,y1,n,rfl,_,_,y,h1⟩:=Go.Joins.open_agg2 Tryz.underlying38 (by kernel_rfl) (by kernel_rfl) hval hd;obtain ⟨k0,e0,_⟩:=DataW.trod_int Tryz.underlying3 y;obtain ⟨k1,f,_⟩:=DataW.trod_int Tryz.underlying3 h1;obtain rfl:v0=_:=by simpa using e0
 obtain rfl:A=_:=by simpa using f
 exact ⟨⟨k0,k1⟩,rfl⟩
end
end
