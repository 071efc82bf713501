import Derived.Test.YtfmcclhfnpcokaaGreatG2
import Derived.Test.YtfmcclhfnpcokaaGreatG22
set_option linter.all false
set_option maxRecDepth 100000
set_option maxHeartbeats 8000000
namespace Go.Proofs.YtfmcclhfnpcokaaGreat
section
open Go.RowKit
def cl3 (a b c:Int):Array Value:=#[.int .i64 a,.int .i64 b,.int .i64 c]
theorem Zmp (a b c:Int):(cl3 a b c)[0]?=some (.int .i64 a):=rfl
theorem Zmq (a b c:Int):(cl3 a b c)[1]?=some (.int .i64 b):=rfl
theorem Zmr (a b c:Int):(cl3 a b c)[2]?=some (.int .i64 c):=rfl
def stg (x y z a b c:Int):Nat→Array Value
 | 0=>cl3 a b c
 | 1=>cl3 x b c
 | 2=>cl3 x y c
 | _=>cl3 x y z
def Zms (n:Int):Int:=if n≤1000000001 then n else 1000000001
def Zmt (a b:Int):Int:=if a≤b then b else a
section
variable {a b c x:Int}{w:World}{B:Nat}{t:TypeId}(h:Blk w B (cl3 a b c) t){v:Value}(hv:v=.int .i64 x)
include a b c x w B t h v hv
theorem Zmu:Blk (w.setCell ⟨B,0,none⟩ v) B (cl3 x b c) t:=by subst hv;exact h.set 0 _
theorem Zmv:Blk (w.setCell ⟨B,1,none⟩ v) B (cl3 a x c) t:=by subst hv;exact h.set 1 _
theorem Zmw:Blk (w.setCell ⟨B,2,none⟩ v) B (cl3 a b x) t:=by subst hv;exact h.set 2 _
end
theorem Zmx {a b c x y z:Int}{w:World}{B:Nat}{t:TypeId} (h:Blk w B (cl3 a b c) t):Blk (((w.setCell ⟨B,0,none⟩ (.int .i64 x)).setCell ⟨B,1,none⟩ (.int .i64 y)).setCell ⟨B,2,none⟩ (.int .i64 z)) B (cl3 x y z) t:=
 Zmw (Zmv (Zmu h rfl) rfl) rfl
theorem Zmy {B b:Nat}{w w':World} (h:Below B w w') (i:Nat) (v:Value) (d:B≤b):Below B w (w'.setCell ⟨b,i,none⟩ v):=h.setCell d v
theorem Zmz {B b:Nat}{w w':World} (h:Below B w w') (x y z:Value) (d:B≤b):Below B w (((w'.setCell ⟨b,0,none⟩ x).setCell ⟨b,1,none⟩ y).setCell ⟨b,2,none⟩ z):=((h.setCell d x).setCell d y).setCell d z
theorem ZmA (f g j l m n:Int) (w:World) (Q:0≤f) (K:f≤1000000001) (R:0≤g) (L:g≤1000000001) (S:0≤j) (M:j≤1000000001) (T:0≤l) (N:l≤1000000001) (U:0≤m) (O:m≤1000000001) (V:0≤n) (P:n≤1000000001) :
  Calls Tryz.prog 140 #[.agg #[.int .i64 f,.int .i64 g,.int .i64 j],.agg #[.int .i64 l,.int .i64 m,.int .i64 n]] w fun e w'=>e=.returned (.agg #[.int .i64 (Zms (f+l)),.int .i64 (Zms (g+m)),.int .i64 (Zms (j+n))])∧Below w.heap.size w w':=by
 obtain ⟨B,u⟩:∃ B,B=w.heap.size:=⟨_,rfl⟩;go_enter Tryz.func140,Tryz.ntmps140;go_wp2;have H:=Zh (show Blk (((w.alloc (.cells (cl3 f g j) 45)).alloc (.cells (cl3 l m n) 45)).alloc (.cells (cl3 0 0 0) 45)) B (cl3 f g j) 45∧Blk (((w.alloc (.cells (cl3 f g j) 45)).alloc (.cells (cl3 l m n) 45)).alloc (.cells (cl3 0 0 0) 45)) (B+1) (cl3 l m n) 45∧Blk (((w.alloc (.cells (cl3 f g j) 45)).alloc (.cells (cl3 l m n) 45)).alloc (.cells (cl3 0 0 0) 45)) (B+1+1) (cl3 0 0 0) 45∧Below w.heap.size w (((w.alloc (.cells (cl3 f g j) 45)).alloc (.cells (cl3 l m n) 45)).alloc (.cells (cl3 0 0 0) 45)) from
  ⟨((Blk.new' _ _ u).alloc _).alloc _,(Blk.new' _ _ (by simp [u])).alloc _,Blk.new' _ _ (by simp [u]),(((Below.refl _ _).alloc (Nat.le_refl _) _).alloc (by simp) _).alloc (by simp;omega) _⟩)
 rw [←u]
 change Code.wp _ _ _ _ (((w.alloc (.cells (cl3 f g j) 45)).alloc (.cells (cl3 l m n) 45)).alloc (.cells (cl3 0 0 0) 45))
 revert H
 generalize (((w.alloc (.cells (cl3 f g j) 45)).alloc (.cells (cl3 l m n) 45)).alloc (.cells (cl3 0 0 0) 45))=w1;intro H;have C:=Zh u;clear u
 go_loopw [5] (fun i wr=>∃ k:Nat,k≤3∧i=.int .i64 k∧Blk wr B (stg (Zms (f+l)) (Zms (g+m)) (Zms (j+n)) f g j k) 45∧Blk wr (B+1) (cl3 l m n) 45∧Blk wr (B+1+1) (cl3 0 0 0) 45∧Below w.heap.size w wr) (fun i _=>3-(intOf i).toNat)
 case atStart=>exact ⟨0,by omega,rfl,H.out⟩
 case round=>
  obtain ⟨k,hk,rfl,d,A,J,s⟩:=hrel;have r:=Zh d;have o:=Zh A;have q:=Zh J;have D:=Zh s;clear d A J s H;rcases (show k=0∨k=1∨k=2∨k=3 by omega) with rfl|rfl|rfl|rfl
  ·have d:Blk wr B (cl3 (f) (g) (j)) 45:=r.out;have E:=d.cell 0 (Zmp _ _ _);have G:=d.frozen 0;have F:=o.out.cell 0 (Zmp _ _ _);have p:=Zh d;clear d r;go_wp2;refine Zaf 10 (by kernel_rfl) (by kernel_rfl) ?_;simp only [List.take_succ_cons,List.take_zero,List.drop_succ_cons,List.drop_zero]
   repeat still_step
   refine wpStill_nil ?_;go_wp2
   all_goals
    go_roundw
    case rel=>exact ⟨1,by omega,by go_num,(Zmu p.out (by unfold Zms;first|rfl|(congr 1;(repeat' split)<;>omega))).drew,(o.out.other (by simp) _).drew,(q.out.other (by show B+1+1≠B;omega) _).drew,(Zmy D.out _ _ (by have:=C.out;omega)).drew⟩
    case measure=>simp [intOf]
  ·have d:Blk wr B (cl3 (Zms (f+l)) (g) (j)) 45:=r.out;have E:=d.cell 1 (Zmq _ _ _);have G:=d.frozen 1;have F:=o.out.cell 1 (Zmq _ _ _);have p:=Zh d;clear d r;go_wp2;refine Zaf 10 (by kernel_rfl) (by kernel_rfl) ?_;simp only [List.take_succ_cons,List.take_zero,List.drop_succ_cons,List.drop_zero]
   repeat still_step
   refine wpStill_nil ?_;go_wp2
   all_goals
    go_roundw
    case rel=>exact ⟨2,by omega,by go_num,(Zmv p.out (by unfold Zms;first|rfl|(congr 1;(repeat' split)<;>omega))).drew,(o.out.other (by simp) _).drew,(q.out.other (by show B+1+1≠B;omega) _).drew,(Zmy D.out _ _ (by have:=C.out;omega)).drew⟩
    case measure=>simp [intOf]
  ·have d:Blk wr B (cl3 (Zms (f+l)) (Zms (g+m)) (j)) 45:=r.out;have E:=d.cell 2 (Zmr _ _ _);have G:=d.frozen 2;have F:=o.out.cell 2 (Zmr _ _ _);have p:=Zh d;clear d r;go_wp2;refine Zaf 10 (by kernel_rfl) (by kernel_rfl) ?_;simp only [List.take_succ_cons,List.take_zero,List.drop_succ_cons,List.drop_zero]
   repeat still_step
   refine wpStill_nil ?_;go_wp2
   all_goals
    go_roundw
    case rel=>exact ⟨3,by omega,by go_num,(Zmw p.out (by unfold Zms;first|rfl|(congr 1;(repeat' split)<;>omega))).drew,(o.out.other (by simp) _).drew,(q.out.other (by show B+1+1≠B;omega) _).drew,(Zmy D.out _ _ (by have:=C.out;omega)).drew⟩
    case measure=>simp [intOf]
  ·have d:Blk wr B (cl3 (Zms (f+l)) (Zms (g+m)) (Zms (j+n))) 45:=r.out;have Z:=d.cell 0 (Zmp _ _ _);have E:=d.cell 1 (Zmq _ _ _);have F:=d.cell 2 (Zmr _ _ _);have g0:=q.out.cell 0 (Zmp _ _ _);have g1:=q.out.cell 1 (Zmq _ _ _);have g2:=q.out.cell 2 (Zmr _ _ _);have f0:=q.out.frozen 0;have G:=q.out.frozen 1;have f2:=q.out.frozen 2;clear r d;go_wp2;have I:=Zmx (x:=Zms (f+l)) (y:=Zms (g+m)) (z:=Zms (j+n)) q.out;have W:=I.cell 0 (Zmp _ _ _);have X:=I.cell 1 (Zmq _ _ _);have Y:=I.cell 2 (Zmr _ _ _);exact bodyPost_ret (v:=.agg #[.int .i64 (Zms (f+l)),.int .i64 (Zms (g+m)),.int .i64 (Zms (j+n))]) (by simp [results,Tryz.results140,go_sem,W,X,Y]) rfl ⟨rfl,Zmz D.out _ _ _ (by have:=C.out;omega)⟩
def ZmB (f:Nat) (caps:Array Value) (w:World) (F:Int→Int→Int) (x y:Int):Prop:=
 ∀ W,Below w.heap.size w W→Calls Tryz.prog f (#[.int .i64 x,.int .i64 y]++caps) W fun e w'=>e=.returned (.int .i64 (F x y))∧∃ k,w'=W.drewN k
theorem ZmC (f:Nat) (p:Array Value) (F:Int→Int→Int) (g l n j m o:Int) (w:World)
  (cf:∀ A W,(callFunc f A).run Tryz.prog W=.ok (.enter f A) W)
  (S:ZmB f p w F g j) (T:ZmB f p w F l m) (U:ZmB f p w F n o) :
  Calls Tryz.prog 85 #[.agg #[.int .i64 g,.int .i64 l,.int .i64 n],.agg #[.int .i64 j,.int .i64 m,.int .i64 o],.func (.func f) #[] p] w fun e w'=>e=.returned (.agg #[.int .i64 (Zms (F g j)),.int .i64 (Zms (F l m)),.int .i64 (Zms (F n o))])∧Below w.heap.size w w':=by
 have O:=Zh S;have P:=Zh T;have Q:=Zh U;clear S T U;obtain ⟨B,E⟩:∃ B,B=w.heap.size:=⟨_,rfl⟩;go_enter Tryz.func85,Tryz.ntmps85;go_wp2;have H:=Zh (show Blk ((((w.alloc (.cells (cl3 g l n) 45)).alloc (.cells (cl3 j m o) 45)).alloc (.cells (cl3 0 0 0) 45)).alloc (.cells (cl3 0 0 0) 45)) B (cl3 g l n) 45∧Blk ((((w.alloc (.cells (cl3 g l n) 45)).alloc (.cells (cl3 j m o) 45)).alloc (.cells (cl3 0 0 0) 45)).alloc (.cells (cl3 0 0 0) 45)) (B+1) (cl3 j m o) 45∧Blk ((((w.alloc (.cells (cl3 g l n) 45)).alloc (.cells (cl3 j m o) 45)).alloc (.cells (cl3 0 0 0) 45)).alloc (.cells (cl3 0 0 0) 45)) (B+1+1) (cl3 0 0 0) 45∧Blk ((((w.alloc (.cells (cl3 g l n) 45)).alloc (.cells (cl3 j m o) 45)).alloc (.cells (cl3 0 0 0) 45)).alloc (.cells (cl3 0 0 0) 45)) (B+1+1+1) (cl3 0 0 0) 45∧Below w.heap.size w ((((w.alloc (.cells (cl3 g l n) 45)).alloc (.cells (cl3 j m o) 45)).alloc (.cells (cl3 0 0 0) 45)).alloc (.cells (cl3 0 0 0) 45)) from
  ⟨(((Blk.new' _ _ E).alloc _).alloc _).alloc _,((Blk.new' _ _ (by simp [E])).alloc _).alloc _,(Blk.new' _ _ (by simp [E])).alloc _,Blk.new' _ _ (by simp [E]),((((Below.refl _ _).alloc (Nat.le_refl _) _).alloc (by simp) _).alloc (by simp;omega) _).alloc (by simp;omega) _⟩)
 rw [←E]
 change Code.wp _ _ _ _ ((((w.alloc (.cells (cl3 g l n) 45)).alloc (.cells (cl3 j m o) 45)).alloc (.cells (cl3 0 0 0) 45)).alloc (.cells (cl3 0 0 0) 45))
 revert H
 generalize ((((w.alloc (.cells (cl3 g l n) 45)).alloc (.cells (cl3 j m o) 45)).alloc (.cells (cl3 0 0 0) 45)).alloc (.cells (cl3 0 0 0) 45))=w1;intro H;have J:=Zh E;clear E
 go_loopw [9] (fun i wr=>∃ k:Nat,k≤3∧i=.int .i64 k∧Blk wr B (cl3 g l n) 45∧Blk wr (B+1) (cl3 j m o) 45∧Blk wr (B+1+1) (cl3 0 0 0) 45∧Blk wr (B+1+1+1) (stg (Zms (F g j)) (Zms (F l m)) (Zms (F n o)) 0 0 0 k) 45∧Below w.heap.size w wr) (fun i _=>3-(intOf i).toNat)
 case atStart=>exact ⟨0,by omega,rfl,H.out⟩
 case round=>
  obtain ⟨k,hk,rfl,V,I,X,d,D⟩:=hrel;have G:=Zh V;have q:=Zh I;have s:=Zh X;have C:=Zh d;have u:=Zh D;clear V I X d D H;rcases (show k=0∨k=1∨k=2∨k=3 by omega) with rfl|rfl|rfl|rfl
  ·have d:Blk wr (B+1+1+1) (cl3 (0) (0) (0)) 45:=C.out;have K:=G.out.cell 0 (Zmp _ _ _);have M:=d.frozen 0;have R:=d.cell 0 (Zmp _ _ _);have L:=q.out.cell 0 (Zmp _ _ _);have r:=Zh d;clear d C;go_wp2;refine Zda 11 (by kernel_rfl) (by kernel_rfl) ?_;simp only [List.take_succ_cons,List.take_zero,List.drop_succ_cons,List.drop_zero]
   repeat (first|go_big_quiet_step (exact Calls.quiet_of (O.out _ (below_drewN u.out _)))|quiet_step (exact Calls.quiet_of (O.out _ (below_drewN u.out _))))
   refine wpQuiet_nil ?_;rintro _ ⟨nq,rfl⟩;go_wp2
   all_goals
    go_roundw
    case rel=>exact ⟨1,by omega,by go_num,(G.out.drewN _).other (by show B≠B+1+1+1;omega) _,(q.out.drewN _).other (by show B+1≠B+1+1+1;omega) _,(s.out.drewN _).other (by show B+1+1≠B+1+1+1;omega) _,Zmu (r.out.drewN _) (by unfold Zms;first|rfl|(congr 1;(repeat' split)<;>omega)),Zmy (below_drewN u.out _) _ _ (by have:=J.out;omega)⟩
    case measure=>simp [intOf]
  ·have d:Blk wr (B+1+1+1) (cl3 (Zms (F g j)) (0) (0)) 45:=C.out;have K:=G.out.cell 1 (Zmq _ _ _);have M:=d.frozen 1;have R:=d.cell 1 (Zmq _ _ _);have L:=q.out.cell 1 (Zmq _ _ _);have r:=Zh d;clear d C;go_wp2;refine Zda 11 (by kernel_rfl) (by kernel_rfl) ?_;simp only [List.take_succ_cons,List.take_zero,List.drop_succ_cons,List.drop_zero]
   repeat (first|go_big_quiet_step (exact Calls.quiet_of (P.out _ (below_drewN u.out _)))|quiet_step (exact Calls.quiet_of (P.out _ (below_drewN u.out _))))
   refine wpQuiet_nil ?_;rintro _ ⟨nq,rfl⟩;go_wp2
   all_goals
    go_roundw
    case rel=>exact ⟨2,by omega,by go_num,(G.out.drewN _).other (by show B≠B+1+1+1;omega) _,(q.out.drewN _).other (by show B+1≠B+1+1+1;omega) _,(s.out.drewN _).other (by show B+1+1≠B+1+1+1;omega) _,Zmv (r.out.drewN _) (by unfold Zms;first|rfl|(congr 1;(repeat' split)<;>omega)),Zmy (below_drewN u.out _) _ _ (by have:=J.out;omega)⟩
    case measure=>simp [intOf]
  ·have d:Blk wr (B+1+1+1) (cl3 (Zms (F g j)) (Zms (F l m)) (0)) 45:=C.out;have K:=G.out.cell 2 (Zmr _ _ _);have M:=d.frozen 2;have R:=d.cell 2 (Zmr _ _ _);have L:=q.out.cell 2 (Zmr _ _ _);have r:=Zh d;clear d C;go_wp2;refine Zda 11 (by kernel_rfl) (by kernel_rfl) ?_;simp only [List.take_succ_cons,List.take_zero,List.drop_succ_cons,List.drop_zero]
   repeat (first|go_big_quiet_step (exact Calls.quiet_of (Q.out _ (below_drewN u.out _)))|quiet_step (exact Calls.quiet_of (Q.out _ (below_drewN u.out _))))
   refine wpQuiet_nil ?_;rintro _ ⟨nq,rfl⟩;go_wp2
   all_goals
    go_roundw
    case rel=>exact ⟨3,by omega,by go_num,(G.out.drewN _).other (by show B≠B+1+1+1;omega) _,(q.out.drewN _).other (by show B+1≠B+1+1+1;omega) _,(s.out.drewN _).other (by show B+1+1≠B+1+1+1;omega) _,Zmw (r.out.drewN _) (by unfold Zms;first|rfl|(congr 1;(repeat' split)<;>omega)),Zmy (below_drewN u.out _) _ _ (by have:=J.out;omega)⟩
    case measure=>simp [intOf]
  ·have d:Blk wr (B+1+1+1) (cl3 (Zms (F g j)) (Zms (F l m)) (Zms (F n o))) 45:=C.out;have c0:=d.cell 0 (Zmp _ _ _);have K:=d.cell 1 (Zmq _ _ _);have L:=d.cell 2 (Zmr _ _ _);have g0:=s.out.cell 0 (Zmp _ _ _);have g1:=s.out.cell 1 (Zmq _ _ _);have g2:=s.out.cell 2 (Zmr _ _ _);have f0:=s.out.frozen 0;have M:=s.out.frozen 1;have f2:=s.out.frozen 2;clear C d;go_wp2;have N:=Zmx (x:=Zms (F g j)) (y:=Zms (F l m)) (z:=Zms (F n o)) s.out;have Y:=N.cell 0 (Zmp _ _ _);have Z:=N.cell 1 (Zmq _ _ _);have q2:=N.cell 2 (Zmr _ _ _);exact bodyPost_ret (v:=.agg #[.int .i64 (Zms (F g j)),.int .i64 (Zms (F l m)),.int .i64 (Zms (F n o))]) (by simp [results,Tryz.results85,go_sem,Y,Z,q2]) rfl ⟨rfl,Zmz u.out _ _ _ (by have:=J.out;omega)⟩
end
section
open Go.RowKit
attribute [local go_sem] World.cell?_alloc_some
def ZmD (n:Int) (arr:Bool):Int × Int × Int:=if 1+n≤2 then (1,0,0) else if 1+n≤4 then (0,1,0) else if arr=false∨n≤7 then (0,0,1) else (0,0,1+(n+7) / 8)
def ag3 (t:Int × Int × Int):Value:=.agg #[.int .i64 t.1,.int .i64 t.2.1,.int .i64 t.2.2]
theorem ZmE {w w1:World}{B:Nat}{a b c:Int} (h:Blk w1 B #[.int .i64 0,.int .i64 0,.int .i64 0] 45) (e:Below w.heap.size w w1) (d:w.heap.size≤B):Blk (((w1.setCell ⟨B,0,none⟩ (.int .i64 a)).setCell ⟨B,1,none⟩ (.int .i64 b)).setCell ⟨B,2,none⟩ (.int .i64 c)) B #[.int .i64 a,.int .i64 b,.int .i64 c] 45∧Below w.heap.size w (((w1.setCell ⟨B,0,none⟩ (.int .i64 a)).setCell ⟨B,1,none⟩ (.int .i64 b)).setCell ⟨B,2,none⟩ (.int .i64 c)):=
 ⟨((h.set 0 _).set 1 _).set 2 _,ZcS (j:=2) (ZcS (j:=1) (ZcS (j:=0) e d _) d _) d _⟩
theorem ZmF (n:Int) (d:Bool) (w:World) (l:0≤n) (m:n≤100000):Calls Tryz.prog 270 #[.int .i64 n,.bool d] w (Ret w (ag3 (ZmD n d))):=by
 have f:=Blk.new w #[.int .i64 0,.int .i64 0,.int .i64 0] 45;have j:=Zh (fun a b c=>ZmE (w:=w) (a:=a) (b:=b) (c:=c) f bE (Nat.le_refl _));have k:=Zh (show ZmD n d=ZmD n d from rfl);obtain ⟨v,hv⟩:∃ v,v=ZmD n d:=⟨_,rfl⟩;rw [←hv];have e:=Zh hv;have g:IntKind.i64.wrap (1+n)=1+n:=IntWalk.i64_in _ (by omega);have i:IntKind.i64.wrap (n+7)=n+7:=IntWalk.i64_in _ (by omega);clear f hv;go_enter Tryz.func270,Tryz.ntmps270;go_wp2
 all_goals
  refine bodyPost_ret (v:=ag3 v) (by rw [e.out];unfold ZmD;simp [results,Tryz.results270,go_sem,ag3];grind) rfl ⟨rfl,by exact bE⟩
def szV (m:Md) (i:In3):Int × Int × Int:=if i.op=14 then ZmD (m.cl.getD i.a.toNat default).f.length false else if i.op=15∨i.op=16 then ZmD i.a true else (0,0,0)
def ZmG (m:Md) (i:In3):Prop:=(i.op=14→0≤i.a∧i.a<m.cl.length∧(m.cl.getD i.a.toNat default).f.length≤100000)∧(i.op=15∨i.op=16→0≤i.a∧i.a≤1000)
theorem ZmH (m:Md) (h:Hd) (i:In3) (w:World) (H:Zaz w h m) (hi:ZmG m i):Calls Tryz.prog 210 #[.agg (HM.mk h m),ZI.i i] w (Ret w (ag3 (szV m i))):=by
 obtain ⟨l,z,T⟩:=i;obtain ⟨r,s⟩:=hi;dsimp only at r s ⊢;obtain ⟨G,k⟩:∃ G,G=((w.alloc (.cells (HM.mk h m) 26)).alloc (.cells #[.int .i64 l,.int .i64 z,.int .i64 T] 72)).alloc (.cells #[.int .i64 0,.int .i64 0,.int .i64 0] 45):=⟨_,rfl⟩;have W:Below w.heap.size w G:=by rw [k];exact bE
 have hX:Blk G w.heap.size (HM.mk h m) 26:=by rw [k];exact ((Blk.new _ _ _).alloc _).alloc _
 have hI:Blk G (w.heap.size+1) #[.int .i64 l,.int .i64 z,.int .i64 T] 72:=by rw [k];exact (Blk.new' (w:=w.alloc (.cells (HM.mk h m) 26)) _ _ (by simp)).alloc _
 have hR:Blk G (w.heap.size+2) #[.int .i64 0,.int .i64 0,.int .i64 0] 45:=by rw [k];exact Blk.new' (w:=(w.alloc (.cells (HM.mk h m) 26)).alloc (.cells #[.int .i64 l,.int .i64 z,.int .i64 T] 72)) _ _ (by simp)
 have U:=Zh W;have HX:=Zh hX;have Y:=Zh hI;have y:=Zh hR;have Hj:=Zh (H.old W);have S:=Zh k;obtain ⟨v,hv⟩:∃ v,v=szV m ⟨l,z,T⟩:=⟨_,rfl⟩;rw [←hv];clear k W hX hI hR H;have i0:=Y.out.cell 0 (v:=.int .i64 l) rfl;have i1:=Y.out.cell 1 (v:=.int .i64 z) rfl;by_cases q14:l=14
 ·subst q14;obtain ⟨Z,h1,h2⟩:=r rfl;obtain ⟨a,rfl⟩:∃ d:Nat,z=d:=⟨z.toNat,by omega⟩;have V:a<m.cl.length:=by omega
  obtain ⟨ad,I,-,-,e2,-⟩:=Hj.out.cls V;have x0:=HX.out.cell 0 (v:=.slice h.co m.cl.length h.cc) rfl;rw [I] at x0 S ⊢;have g:v=ZmD (m.cl.getD a default).f.length false:=by rw [hv];unfold szV;rw [if_pos rfl];rfl
  rw [Int.toNat_natCast] at h2;generalize (m.cl.getD a default).f.length=n at e2 g h2;have o:=Zh (fun X=>ZmF n false X (by omega) (by omega));rw [←g] at o;clear hv g r s I;go_enter Tryz.func210,Tryz.ntmps210
  go_upto_region 1 with fail
  rw [←S.out]
  go_wp2_with (go_at_call 270;refine (o.out _).mono ?_;rintro e w2 ⟨rfl,u⟩;have A:=Zh (Zag U.out u);have f:=y.out.old u;obtain ⟨D,E,F⟩:=v;have M:=f.cell 0 (v:=.int .i64 0) rfl;have N:=f.cell 1 (v:=.int .i64 0) rfl;have O:=f.cell 2 (v:=.int .i64 0) rfl;have J:=f.frozen 0;have K:=f.frozen 1;have L:=f.frozen 2;have hl:=f.lt;have C:=Zh f;unfold ag3)
  have j:=ZmE (w:=w) (a:=D) (b:=E) (c:=F) C.out A.out (by omega);have P:=j.1.cell 0 (v:=.int .i64 D) rfl;have Q:=j.1.cell 1 (v:=.int .i64 E) rfl;have R:=j.1.cell 2 (v:=.int .i64 F) rfl;exact bodyPost_ret (v:=ag3 (D,E,F)) (by simp [results,Tryz.results210,go_sem,P,Q,R,ag3]) rfl ⟨rfl,j.2⟩
 ·by_cases q15:l=15∨l=16
  ·obtain ⟨Z,h1⟩:=s q15;have g:v=ZmD z true:=by rw [hv];unfold szV;rw [if_neg q14,if_pos q15]
   have o:=Zh (fun X=>ZmF z true X Z (by omega));rw [←g] at o;clear hv g r s;have q2:l=15∨(l=16∧¬ l=15):=by omega
   rcases q2 with q|⟨q,q3⟩
   all_goals
    subst q;go_enter Tryz.func210,Tryz.ntmps210
    go_upto_region 1 with fail
    rw [←S.out]
    go_wp2_with (go_at_call 270;refine (o.out _).mono ?_;rintro e w2 ⟨rfl,u⟩;have A:=Zh (Zag U.out u);have f:=y.out.old u;obtain ⟨D,E,F⟩:=v;have M:=f.cell 0 (v:=.int .i64 0) rfl;have N:=f.cell 1 (v:=.int .i64 0) rfl;have O:=f.cell 2 (v:=.int .i64 0) rfl;have J:=f.frozen 0;have K:=f.frozen 1;have L:=f.frozen 2;have hl:=f.lt;have C:=Zh f;unfold ag3)
    have j:=ZmE (w:=w) (a:=D) (b:=E) (c:=F) C.out A.out (by omega);have P:=j.1.cell 0 (v:=.int .i64 D) rfl;have Q:=j.1.cell 1 (v:=.int .i64 E) rfl;have R:=j.1.cell 2 (v:=.int .i64 F) rfl;exact bodyPost_ret (v:=ag3 (D,E,F)) (by simp [results,Tryz.results210,go_sem,P,Q,R,ag3]) rfl ⟨rfl,j.2⟩
  ·have g:v=(0,0,0):=by rw [hv];unfold szV;rw [if_neg q14,if_neg q15]
   subst g;have ag:¬ l=15:=fun q=>q15 (.inl q);have am:¬ l=16:=fun q=>q15 (.inr q);have M:=y.out.cell 0 (v:=.int .i64 0) rfl;have N:=y.out.cell 1 (v:=.int .i64 0) rfl;have O:=y.out.cell 2 (v:=.int .i64 0) rfl;have J:=y.out.frozen 0;have K:=y.out.frozen 1;have L:=y.out.frozen 2;have hl:=y.out.lt;clear hv r s;go_enter Tryz.func210,Tryz.ntmps210
   go_upto_region 1 with fail
   rw [←S.out];go_wp2
   all_goals
    have j:=ZmE (w:=w) (a:=0) (b:=0) (c:=0) y.out U.out (by omega);have P:=j.1.cell 0 (v:=.int .i64 0) rfl;have Q:=j.1.cell 1 (v:=.int .i64 0) rfl;have R:=j.1.cell 2 (v:=.int .i64 0) rfl;exact bodyPost_ret (v:=ag3 (0,0,0)) (by simp [results,Tryz.results210,go_sem,P,Q,R,ag3]) rfl ⟨rfl,j.2⟩
end
section
open Go.RowKit Go.Maps
def ZmI (w w':World):Prop:=∀ p v,w.cell? p=some v→w'.cell? p=some v
theorem ZmI.refl (w:World):ZmI w w:=fun _ _ h=>h
theorem ZmI.trans {a b c:World} (h:ZmI a b) (k:ZmI b c):ZmI a c:=fun p v q=>k p v (h p v q)
theorem ZmI.of {a b:World} (h:Below a.heap.size a b):ZmI a b:=fun _ _ d=>(h.cell (Zad d)).trans d
theorem ZmJ {α:Type} [Cells α] {w w':World}{ao:Option Addr}{c:Nat}{L:List α} (h:Zas w ao c L) (f:ZmI w w'):Zas w' ao c L:=
 ⟨h.1,h.2.1,fun j u g=>by obtain ⟨a,d,e⟩:=h.2.2 j u g;exact ⟨a,d,f _ _ e⟩⟩
theorem Zaz.keeps {w w':World}{h:Hd}{m:Md} (H:Zaz w h m) (hk:ZmI w w'):Zaz w' h m:=
 ⟨ZmJ H.cl hk,ZmJ H.st hk,ZmJ H.me hk,fun i d=>ZmJ (H.f i d) hk,fun i d=>ZmJ (H.t i d) hk,fun i d=>ZmJ (H.p i d) hk,fun i d=>ZmJ (H.l i d) hk,fun i d=>ZmJ (H.k i d) hk,H.bf,H.bm,H.bz⟩
theorem Cs.keeps {w w':World} (hk:ZmI w w'):∀ {l:List (Addr × Value)},Cs l w→Cs l w'
 | [],_=>trivial
 | (_,_) :: _,h=>⟨hk _ _ h.1,Cs.keeps hk h.2⟩
def ZmK (w:World) (M:Nat):Prop:=∃ es c,w.heap[M]?=some (.map es c)
theorem ZmL:∀ (n:Nat) (l:List Nat),l.Nodup→(∀ k∈l,k<n)→l.length≤n
 |0,l,_,h=>by
  cases l with
  | nil=>simp
  | cons x r=>have:=h x (by simp);omega
 |n+1,l,hn,h=>by
  have j:=ZmL n (l.filter fun x=>decide (x≠n)) (hn.filter _) (fun k f=>by simp at f;have:=h k f.1;omega);have g:∀ l:List Nat,l.Nodup→l.length≤(l.filter fun x=>decide (x≠n)).length+1:=by
   intro l
   induction l with
   | nil=>intro _;simp
   |cons x r ih=>
    intro d;rw [List.nodup_cons] at d;by_cases hx:x=n
    ·have:r.filter (fun x=>decide (x≠n))=r:=List.filter_eq_self.2 fun y i=>by have:y≠n:=fun e=>d.1 (by rw [hx,←e];exact i);simp [this]
     rw [List.filter_cons_of_neg (by simp [hx]),this];simp
    ·have:=ih d.2;rw [List.filter_cons_of_pos (by simp [hx])];simp only [List.length_cons];omega
  have:=g l hn;omega
theorem ZmK.lt {w:World}{M:Nat} (H:ZmK w M):M<w.heap.size:=by obtain ⟨d,c,h⟩:=H;exact (Array.getElem?_eq_some_iff.1 h).1
def Bd (n:Int):Prop:=0≤n∧n≤1000000001
def cdM (m:Md) (k:Nat):List In3:=(m.me.getD k default).k
end
section
abbrev T3:=Int × Int × Int
def z3:T3:=(0,0,0)
def plT (a b:T3):T3:=(Zms (a.1+b.1),Zms (a.2.1+b.2.1),Zms (a.2.2+b.2.2))
def mxT (a b:T3):T3:=(Zmt a.1 b.1,Zmt a.2.1 b.2.1,Zmt a.2.2 b.2.2)
def mlT (a:T3) (n:Int):T3:=(Zms (a.1*n),Zms (a.2.1*n),Zms (a.2.2*n))
def BdT (a:T3):Prop:=Bd a.1∧Bd a.2.1∧Bd a.2.2
theorem ZmM {n:Int} (h:0≤n):Bd (Zms n):=by unfold Bd Zms;split<;>omega
theorem ZmN {a b:Int} (h:Bd a) (g:Bd b):Bd (Zmt a b):=by unfold Zmt;split<;>assumption
theorem BdT.z:BdT z3:=by simp [BdT,Bd,z3]
theorem BdT.pl {a b:T3} (h:BdT a) (g:BdT b):BdT (plT a b):=
 ⟨ZmM (Int.add_nonneg h.1.1 g.1.1),ZmM (Int.add_nonneg h.2.1.1 g.2.1.1),ZmM (Int.add_nonneg h.2.2.1 g.2.2.1)⟩
theorem BdT.mx {a b:T3} (h:BdT a) (g:BdT b):BdT (mxT a b):=⟨ZmN h.1 g.1,ZmN h.2.1 g.2.1,ZmN h.2.2 g.2.2⟩
theorem BdT.ml {a:T3}{n:Int} (h:BdT a) (hn:0≤n):BdT (mlT a n):=
 ⟨ZmM (Int.mul_nonneg h.1.1 hn),ZmM (Int.mul_nonneg h.2.1.1 hn),ZmM (Int.mul_nonneg h.2.2.1 hn)⟩
theorem ZmO {n:Int}{b:Bool} (d:0≤n) (e:n≤1000):BdT (ZmD n b):=by
 unfold ZmD BdT Bd;split
 ·simp
 ·split
  ·simp
  ·split
   ·simp
   ·simp;omega
def ZmP (t:Ty) (i:In3):Bool:=decide (t.k=3∧i.op=15∨t.k=4∧i.op=16∧i.b=t.c)
def ZmQ (t:Ty) (c:List In3):List Int:=(c.filter (ZmP t)).map (·.a)
def ZmR (m:Md) (t:Ty):List Int:=m.me.flatMap fun x=>ZmQ t x.k
def ZmS (l:List Int) (n:Int):Int:=l.foldl Zmt n
def ZmT (m:Md) (t:Ty):Int:=ZmS (ZmR m t) 0
def ZmU (l:List Int) (a:T3):T3:=l.foldl (fun o n=>mxT o (ZmD n true)) a
def ZmV (m:Md) (t:Ty):T3:=ZmU (ZmR m t) z3
def ZmW (m:Md) (c:Nat):Bool:=m.me.any fun x=>x.k.any fun i=>decide (i.op=14∧i.a=c)
def ZmX (m:Md) (c:Nat):List Nat:=(List.range m.cl.length).filter fun d=>ZaI m (d+1) d c&&ZmW m d
def ZmY (m:Md) (V:Nat→Option T3) (t:Ty):Option T3:=
 if t.k=3 then some (ZmV m t) else if t.k=2 then V t.c.toNat
 else if t.k=4 then (if ZmT m t=0 then some (ZmV m t) else match V t.c.toNat with|none=>none|some x=>some (plT (ZmV m t) (mlT x (ZmT m t)))) else some z3
def ZmZ (F:Ty→Option T3):T3→List Ty→Option T3
 | a,[]=>some a
 | a,t :: r=>match F t with|none=>none|some x=>ZmZ F (plT a x) r
def fsC (m:Md) (d:Nat):List Ty:=(m.cl.getD d default).f
def szC (m:Md) (d:Nat):T3:=ZmD (fsC m d).length false
def Zm0 (m:Md) (V:Nat→Option T3):T3→List Nat→Option T3
 | a,[]=>some a
 | a,d :: r=>match ZmZ (ZmY m V) (szC m d) (fsC m d) with|none=>none|some s=>Zm0 m V (mxT a s) r
def Zm1 (m:Md):Nat→Nat→Option T3
 | 0,_=>none
 | n+1,c=>Zm0 m (Zm1 m n) z3 (ZmX m c)
def Zm2 (m:Md) (c:Nat):Option T3:=Zm1 m m.cl.length c
def Zm3 (m:Md) (t:Ty):Option T3:=ZmY m (Zm2 m) t
def Le (V W:Nat→Option T3):Prop:=∀ c x,V c=some x→W c=some x
theorem Zm4 {F G:Ty→Option T3} (h:∀ t x,F t=some x→G t=some x):∀ {l:List Ty}{a s:T3},ZmZ F a l=some s→ZmZ G a l=some s
 | [],_,_,e=>e
 |t :: r,a,s,e=>by
  unfold ZmZ at e ⊢;cases hf:F t with
  | none=>rw [hf] at e;cases e
  | some x=>rw [hf] at e;rw [h t x hf];exact Zm4 h e
theorem Zm5 {m:Md}{V W:Nat→Option T3} (h:Le V W) (t:Ty) (x:T3) (e:ZmY m V t=some x):ZmY m W t=some x:=by
 unfold ZmY at e ⊢;by_cases q3:t.k=3
 ·rw [if_pos q3] at e ⊢;exact e
 rw [if_neg q3] at e ⊢;by_cases q2:t.k=2
 ·rw [if_pos q2] at e ⊢;exact h _ _ e
 rw [if_neg q2] at e ⊢;by_cases q4:t.k=4
 ·rw [if_pos q4] at e ⊢;by_cases ql:ZmT m t=0
  ·rw [if_pos ql] at e ⊢;exact e
  rw [if_neg ql] at e ⊢;cases hv:V t.c.toNat with
  | none=>rw [hv] at e;cases e
  | some y=>rw [hv] at e;rw [h _ _ hv];exact e
 ·rw [if_neg q4] at e ⊢;exact e
theorem Zm6 {m:Md}{V W:Nat→Option T3} (h:Le V W):∀ {l:List Nat}{a s:T3},Zm0 m V a l=some s→Zm0 m W a l=some s
 | [],_,_,e=>e
 |d :: r,a,s,e=>by
  unfold Zm0 at e ⊢;cases hf:ZmZ (ZmY m V) (szC m d) (fsC m d) with
  | none=>rw [hf] at e;cases e
  | some x=>rw [hf] at e;rw [Zm4 (Zm5 h) hf];exact Zm6 h e
theorem Zm7 (m:Md):∀ n,Le (Zm1 m n) (Zm1 m (n+1))
 | 0=>fun _ _ e=>by cases e
 |n+1=>fun c x e=>by unfold Zm1 at e ⊢;exact Zm6 (Zm7 m n) e
theorem Zm8 {m:Md}{c d:Nat} (h:d∈ZmX m c):d<m.cl.length:=List.mem_range.1 (List.mem_filter.1 h).1
theorem Zm9 {m:Md} (e:Za2 m=true) {d:Nat} (f:d<m.cl.length):∀ t∈fsC m d,Zfk m t:=by have h:=ZfN e (c:=d) (by omega) (by omega);rwa [Int.toNat_natCast] at h
theorem Zna {m:Md}{V W:Nat→Option T3} (h:∀ c,c<m.cl.length→V c=W c) {t:Ty} (d:Zfk m t):ZmY m V t=ZmY m W t:=by
 unfold ZmY;by_cases q:t.k=2∨t.k=4
 ·have f:=ZfH d q;rw [h t.c.toNat (by omega)]
 ·rw [if_neg (fun e=>q (.inl e)),if_neg (fun e=>q (.inr e)),if_neg (fun e=>q (.inl e)),if_neg (fun e=>q (.inr e))]
theorem Znb {F G:Ty→Option T3}:∀ {l:List Ty}{a:T3},(∀ t∈l,F t=G t)→ZmZ F a l=ZmZ G a l
 | [],_,_=>rfl
 |t :: r,a,h=>by
  unfold ZmZ;rw [h t (by simp)];cases G t with
  | none=>rfl
  | some x=>exact Znb fun u d=>h u (by simp [d])
theorem Znc {m:Md} (f:Za2 m=true) {V W:Nat→Option T3} (h:∀ c,c<m.cl.length→V c=W c):∀ {l:List Nat}{a:T3},(∀ d∈l,d<m.cl.length)→Zm0 m V a l=Zm0 m W a l
 | [],_,_=>rfl
 |d :: r,a,hl=>by
  unfold Zm0;rw [Znb fun t i=>Zna h (Zm9 f (hl d (by simp)) t i)];cases ZmZ (ZmY m W) (szC m d) (fsC m d) with
  | none=>rfl
  | some x=>exact Znc f h fun e g=>hl e (by simp [g])
def Znd (m:Md) (n:Nat):Nat:=((List.range m.cl.length).filter fun c=>(Zm1 m n c).isSome).length
theorem Zne {α:Type} (p q:α→Bool) (h:∀ x,p x=true→q x=true):∀ l:List α,(l.filter p).length≤(l.filter q).length∧((l.filter p).length=(l.filter q).length→∀ x∈l,q x=p x)
 | []=>by simp
 |x :: r=>by
  obtain ⟨i,g⟩:=Zne p q h r;cases hp:p x with
  |true=>
   have f:=h x hp;simp only [List.filter_cons_of_pos hp,List.filter_cons_of_pos f,List.length_cons];refine ⟨by omega,fun e y d=>?_⟩;rcases List.mem_cons.1 d with rfl|d
   ·rw [hp,f]
   ·exact g (by omega) y d
  |false=>
   cases f:q x with
   |true=>
    simp only [List.filter_cons_of_neg (show ¬ p x=true by simp [hp]),List.filter_cons_of_pos f,List.length_cons];exact ⟨by omega,fun e=>by omega⟩
   |false=>
    simp only [List.filter_cons_of_neg (show ¬ p x=true by simp [hp]),List.filter_cons_of_neg (show ¬ q x=true by simp [f])];refine ⟨i,fun e y d=>?_⟩;rcases List.mem_cons.1 d with rfl|d
    ·rw [hp,f]
    ·exact g e y d
theorem Znf (m:Md) (n:Nat):Znd m n≤Znd m (n+1)∧(Znd m n=Znd m (n+1)→∀ c,c<m.cl.length→Zm1 m (n+1) c=Zm1 m n c):=by
 have f:=Zne (fun c=>(Zm1 m n c).isSome) (fun c=>(Zm1 m (n+1) c).isSome) (fun c h=>by
  obtain ⟨x,i⟩:=Option.isSome_iff_exists.1 h;simp [Zm7 m n c x i]) (List.range m.cl.length)
 refine ⟨f.1,fun e c g=>?_⟩;have d:=f.2 e c (List.mem_range.2 g);cases hv:Zm1 m n c with
 |none=>
  rw [hv] at d;cases hw:Zm1 m (n+1) c with
  | none=>rfl
  | some x=>rw [hw] at d;cases d
 | some x=>exact Zm7 m n c x hv
theorem Zng {m:Md} (f:Za2 m=true) {n:Nat} (h:∀ c,c<m.cl.length→Zm1 m (n+1) c=Zm1 m n c):∀ j c,c<m.cl.length→Zm1 m (n+j) c=Zm1 m n c
 | 0,_,_=>rfl
 |j+1,c,hc=>by rw [←h c hc];show Zm0 m (Zm1 m (n+j)) z3 (ZmX m c)=Zm0 m (Zm1 m n) z3 (ZmX m c);exact Znc f (fun d e=>Zng f h j d e) fun d e=>Zm8 e
theorem Znh (m:Md):∀ n,(∃ k,k<n∧Znd m k=Znd m (k+1))∨n≤Znd m n
 | 0=>.inr (Nat.zero_le _)
 |n+1=>by
  rcases Znh m n with ⟨k,d,e⟩|h
  ·exact .inl ⟨k,by omega,e⟩
  ·have:=(Znf m n).1;by_cases e:Znd m n=Znd m (n+1)
   ·exact .inl ⟨n,by omega,e⟩
   ·exact .inr (by omega)
theorem Zni (m:Md) (n:Nat):Znd m n≤m.cl.length:=by have:=List.length_filter_le (fun c=>(Zm1 m n c).isSome) (List.range m.cl.length);rwa [List.length_range] at this
theorem Znj {m:Md} (j:Za2 m=true) (n:Nat) (h:m.cl.length≤n):∀ c,c<m.cl.length→Zm1 m n c=Zm2 m c:=by
 have f:∃ k,k≤m.cl.length∧∀ c,c<m.cl.length→Zm1 m (k+1) c=Zm1 m k c:=by
  rcases Znh m (m.cl.length+1) with ⟨k,l,e⟩|d
  ·exact ⟨k,by omega,(Znf m k).2 e⟩
  ·have:=Zni m (m.cl.length+1);omega
 obtain ⟨k,l,e⟩:=f;intro c i;have d:=Zng j e (n-k) c i;have g:=Zng j e (m.cl.length-k) c i;rw [show k+(n-k)=n by omega] at d;rw [show k+(m.cl.length-k)=m.cl.length by omega] at g;unfold Zm2;rw [d,g]
theorem Znk {m:Md} (e:Za2 m=true) {c:Nat} (d:c<m.cl.length):Zm2 m c=Zm0 m (Zm2 m) z3 (ZmX m c):=by rw [←Znj e (m.cl.length+1) (by omega) c d];rfl
def Znl (m:Md) (f:Ty) (d:Nat):Prop:=(f.k=2∨f.k=4∧ZmT m f≠0)∧f.c.toNat=d
def Dep (m:Md) (c d:Nat):Prop:=∃ e∈ZmX m c,∃ f∈fsC m e,Znl m f d
theorem Znm {m:Md}{V:Nat→Option T3}{f:Ty}{d:Nat} (h:Znl m f d) (hv:V d=none):ZmY m V f=none:=by
 obtain ⟨e,rfl⟩:=h;unfold ZmY;rcases e with q|⟨q,hl⟩
 ·rw [if_neg (by omega),if_pos q];exact hv
 ·rw [if_neg (by omega),if_neg (by omega),if_pos q,if_neg hl,hv]
theorem Znn {F:Ty→Option T3}:∀ {l:List Ty}{a:T3}{f:Ty},f∈l→F f=none→ZmZ F a l=none
 |t :: r,a,f,hf,h=>by
  unfold ZmZ;rcases List.mem_cons.1 hf with rfl|hf
  ·rw [h]
  ·cases F t with
   | none=>rfl
   | some x=>exact Znn hf h
theorem Zno {m:Md}{V:Nat→Option T3}:∀ {l:List Nat}{a:T3}{e:Nat},e∈l→ZmZ (ZmY m V) (szC m e) (fsC m e)=none→Zm0 m V a l=none
 |d :: r,a,e,he,h=>by
  unfold Zm0;rcases List.mem_cons.1 he with rfl|he
  ·rw [h]
  ·cases ZmZ (ZmY m V) (szC m d) (fsC m d) with
   | none=>rfl
   | some x=>exact Zno he h
theorem Znp {m:Md}{V:Nat→Option T3}{c d:Nat} (h:Dep m c d) (hv:V d=none):Zm0 m V z3 (ZmX m c)=none:=by obtain ⟨e,g,f,i,j⟩:=h;exact Zno g (Znn i (Znm j hv))
inductive Znq (m:Md):Nat→Nat→Prop where
 | refl (c:Nat):Znq m c c
 | step {c d u:Nat}:Dep m c d→Znq m d u→Znq m c u
theorem Znr {m:Md}{c d n:Nat}{x:T3} (h:Dep m c d) (hv:Zm1 m (n+1) c=some x):∃ y,Zm1 m n d=some y:=by
 cases hd:Zm1 m n d with
 | some y=>exact ⟨y,rfl⟩
 |none=>
  have:=Znp h hd;unfold Zm1 at hv;rw [hv] at this;cases this
theorem Zns {m:Md}{c u:Nat} (h:Znq m c u):∀ {n:Nat}{x:T3},Zm1 m n c=some x→∃ y,Zm1 m n u=some y:=by
 induction h with
 | refl c=>exact fun e=>⟨_,e⟩
 |step hd _ ih=>
  intro n x e;cases n with
  | zero=>cases e
  |succ n=>
   obtain ⟨y,d⟩:=Znr hd e;exact ih (Zm7 m n _ _ d)
theorem Znt {m:Md}{c d:Nat} (h:Dep m c d) (f:Znq m d c):∀ n,Zm1 m n c=none
 | 0=>rfl
 |n+1=>by
  cases e:Zm1 m (n+1) c with
  | none=>rfl
  |some x=>
   obtain ⟨y,i⟩:=Znr h e;obtain ⟨z,g⟩:=Zns f i;rw [Znt h f n] at g;cases g
def Znu (m:Md) (U:List Nat) (c:Nat):Prop:=Zm2 m c=none∨∃ u∈U,Znq m c u
theorem Znu.up {m:Md} (hm:Za2 m=true) {U:List Nat}{c d:Nat} (hc:c<m.cl.length) (h:Dep m c d) (hs:Znu m (c :: U) d):Znu m U c:=by
 rcases hs with hn|⟨u,hu,hp⟩
 ·left
  rw [Znk hm hc];exact Znp h hn
 ·rcases List.mem_cons.1 hu with rfl|hu
  ·exact .inl (Znt h hp _)
  ·exact .inr ⟨u,hu,.step h hp⟩
theorem Znu.nil {m:Md}{c:Nat} (h:Znu m [] c):Zm2 m c=none:=h.elim id fun ⟨_,hu,_⟩=>by cases hu
end
section
open Go.RowKit
attribute [local go_sem] World.cell?_alloc_some
end
