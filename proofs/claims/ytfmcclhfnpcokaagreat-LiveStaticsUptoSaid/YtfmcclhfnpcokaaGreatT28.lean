import Derived.Test.YtfmcclhfnpcokaaGreatT24
set_option linter.all false
set_option maxHeartbeats 2000000
namespace Go.Proofs.YtfmcclhfnpcokaaGreat
theorem j7{p:Prop}(h:p:=by
 clear h;go_enter Tryz.func75,Tryz.ntmps75
 go_wp2_with (go_at_call 135;refine (Zpy _ _ a b c _ (by simp [go_sem]) (by simp [go_sem]) (by simp [go_sem])).mono ?_;rintro e w' ⟨rfl,rfl⟩)
 exact ZpL (F:=w.heap.size+1) Tryz.results75 rfl rfl rfl (by simp [go_sem]) (by simp [go_sem]) (by simp [go_sem]) (((Below.refl _ _).alloc (Nat.le_refl _) _).alloc (by simp) _)):p:=h
theorem j10{p:Prop}(h:p:=by
 go_enter Tryz.func203,Tryz.ntmps203;go_wp2
 go_quiet (fail)
 go_wp2;go_ret;exact ⟨Zaa HV.out.symm,_,rfl⟩):p:=h
theorem j17{p:Prop}(h:p:=by
 go_wp2
 all_goals
  go_round
  case rel=>exact .inr (.inl ⟨rfl,by first|rfl|(congr 1;omega)⟩)
  case measure=>simp [intOf]):p:=h
theorem j20{p:Prop}(h:p:=by
 go_ret;exact ⟨Zab (by rw [HT.out];rfl),(Below.refl _ _).alloc (Nat.le_refl _) _⟩):p:=h
section
open Go.RowKit
def tB (a b c:Int):Bool:=decide (0≤a∧a≤1000000000∧0≤b∧b≤1000000000∧0≤c∧c≤1000000000)
theorem Zpt {a b c:Int}:tB a b c=true↔0≤a∧a≤1000000000∧0≤b∧b≤1000000000∧0≤c∧c≤1000000000:=by simp [tB]
theorem Zpu {a b c:Int}:tB a b c=false↔¬ (0≤a∧a≤1000000000∧0≤b∧b≤1000000000∧0≤c∧c≤1000000000):=by simp [tB]
def Zpv (a b c:Int):Int:=min (min a b) c
def Zpw (a b c:Int):Int:=max (max a b) c
section
variable (g o:Nat)(a b c:Int)(w:World)(h0:w.cell? ⟨g,o,none⟩=some (.int .i64 a))(h1:w.cell? ⟨g,o+1,none⟩=some (.int .i64 b))(h2:w.cell? ⟨g,o+2,none⟩=some (.int .i64 c))
include g o a b c w h0 h1 h2
theorem Zpx:
  Calls Tryz.prog 147 #[.slice (some ⟨g,o,none⟩) 3 3] w fun e w'=>e=.returned (.int .i64 (Zpv a b c))∧w=w':=by
 go_enter Tryz.func147,Tryz.ntmps147;go_wp2
 go_loop [3,4] (fun m i=>(i=.int .i64 1∧m=.int .i64 a)∨(i=.int .i64 2∧m=.int .i64 (min a b))∨(i=.int .i64 3∧m=.int .i64 (Zpv a b c))) (fun _ i=>3-(intOf i).toNat)
 case atStart=>exact .inl ⟨rfl,rfl⟩
 case round=>
  rcases hrel with ⟨rfl,rfl⟩|⟨rfl,rfl⟩|⟨rfl,rfl⟩
  ·exact j17
  ·go_wp2
   all_goals
    go_round
    case rel=>exact .inr (.inr ⟨rfl,by unfold Zpv;first|rfl|(congr 1;omega)⟩)
    case measure=>simp [intOf]
  ·go_wp2;go_ret;exact ⟨rfl,rfl⟩
theorem Zpy:
  Calls Tryz.prog 135 #[.slice (some ⟨g,o,none⟩) 3 3] w fun e w'=>e=.returned (.int .i64 (Zpw a b c))∧w=w':=by
 go_enter Tryz.func135,Tryz.ntmps135;go_wp2
 go_loop [3,4] (fun m i=>(i=.int .i64 1∧m=.int .i64 a)∨(i=.int .i64 2∧m=.int .i64 (max a b))∨(i=.int .i64 3∧m=.int .i64 (Zpw a b c))) (fun _ i=>3-(intOf i).toNat)
 case atStart=>exact .inl ⟨rfl,rfl⟩
 case round=>
  rcases hrel with ⟨rfl,rfl⟩|⟨rfl,rfl⟩|⟨rfl,rfl⟩
  ·exact j17
  ·go_wp2
   all_goals
    go_round
    case rel=>exact .inr (.inr ⟨rfl,by unfold Zpw;first|rfl|(congr 1;omega)⟩)
    case measure=>simp [intOf]
  ·go_wp2;go_ret;exact ⟨rfl,rfl⟩
end
theorem Zpz (a b c:Int) (w:World) :
  Calls Tryz.prog 146 #[.agg #[.int .i64 a,.int .i64 b,.int .i64 c]] w fun e w'=>e=.returned (.bool (!tB a b c))∧Below w.heap.size w w':=by
 by_cases hm:Zpv a b c<0
 ·have d:tB a b c=false:=by rw [Zpu];unfold Zpv at hm;omega
  have HT:=Zh d;clear d;go_enter Tryz.func146,Tryz.ntmps146
  go_wp2_with (go_at_call 147;refine (Zpx _ _ a b c _ (by simp [go_sem]) (by simp [go_sem]) (by simp [go_sem])).mono ?_;rintro e w' ⟨rfl,rfl⟩)
  exact j20
 ·by_cases hx:1000000000<Zpw a b c
  ·have d:tB a b c=false:=by rw [Zpu];unfold Zpw at hx;omega
   have HT:=Zh d;clear d;go_enter Tryz.func146,Tryz.ntmps146
   go_wp2_with (first|(go_at_call 147;refine (Zpx _ _ a b c _ (by simp [go_sem]) (by simp [go_sem]) (by simp [go_sem])).mono ?_;rintro e w' ⟨rfl,rfl⟩)|(go_at_call 135;refine (Zpy _ _ a b c _ (by simp [go_sem]) (by simp [go_sem]) (by simp [go_sem])).mono ?_;rintro e w' ⟨rfl,rfl⟩))
   exact j20
  ·have d:tB a b c=true:=by rw [Zpt];unfold Zpw at hx;unfold Zpv at hm;omega
   have HT:=Zh d;clear d;go_enter Tryz.func146,Tryz.ntmps146
   go_wp2_with (first|(go_at_call 147;refine (Zpx _ _ a b c _ (by simp [go_sem]) (by simp [go_sem]) (by simp [go_sem])).mono ?_;rintro e w' ⟨rfl,rfl⟩)|(go_at_call 135;refine (Zpy _ _ a b c _ (by simp [go_sem]) (by simp [go_sem]) (by simp [go_sem])).mono ?_;rintro e w' ⟨rfl,rfl⟩))
   go_ret;exact ⟨Zab (by rw [HT.out];simp;omega),(Below.refl _ _).alloc (Nat.le_refl _) _⟩
def ZpA (w:World) (g o:Nat) (x:Int × Int × Int):Prop:=w.cell? ⟨g,o,none⟩=some (.int .i64 x.1)∧w.cell? ⟨g,o+1,none⟩=some (.int .i64 x.2.1)∧w.cell? ⟨g,o+2,none⟩=some (.int .i64 x.2.2)
theorem ZpA.below {w w':World}{g o:Nat}{x:Int × Int × Int} (h:ZpA w g o x) (hb:Below w.heap.size w w'):ZpA w' g o x:=by
 have d:=Zad h.1;refine ⟨?_,?_,?_⟩
 ·rw [hb.cell (p:=⟨g,o,none⟩) d];exact h.1
 ·rw [hb.cell (p:=⟨g,o+1,none⟩) d];exact h.2.1
 ·rw [hb.cell (p:=⟨g,o+2,none⟩) d];exact h.2.2
def tBx (x:Int × Int × Int):Bool:=tB x.1 x.2.1 x.2.2
def ZpB (xs:List (Int × Int × Int)) (w:World) (e:Ending) (w':World):Prop:=
 ∃ r:Int,e=.returned (.int .i64 r)∧Below w.heap.size w w'∧(xs.all tBx=true→r=-1)∧(xs.all tBx=false→0≤r)
section
variable (g o:Nat)(xs:List (Int × Int × Int))(w:World)(hl:xs.length≤10)(h:∀ i,i<xs.length→ZpA w g (o+i*3) (xs.getD i (0,0,0)))
include g o xs w hl h
theorem ZpC:
  Calls Tryz.prog 207 #[.slice (some ⟨g,o,none⟩) xs.length xs.length,.func (.func 146) #[] #[]] w (ZpB xs w):=by
 have H:=Zh h;clear h;go_enter Tryz.func207,Tryz.ntmps207;go_wp2
 go_loopw [8] (fun i wr=>∃ k:Nat,k≤xs.length∧i=.int .i64 k∧Below w.heap.size w wr∧∀ j,j<k→tBx (xs.getD j (0,0,0))=true) (fun i _=>xs.length-(intOf i).toNat)
 case atStart=>exact ⟨0,by omega,rfl,Below.refl _ _,fun j l=>by omega⟩
 case round=>
  obtain ⟨k,A,rfl,r,l⟩:=hrel;have q:=Zh l;have m:=Zh r;clear l r;by_cases hlt:k<xs.length
  ·have y:=(H.out k hlt).below m.out;have s:xs[k]?=some (xs.getD k (0,0,0)):=by simp [hlt]
   have p:=Zh s;clear s
   revert y p
   generalize n:xs.getD k (0,0,0)=x;have v:=Zh n;clear n;obtain ⟨a,b,c⟩:=x;rintro ⟨h0,h1,h2⟩ p;simp only [] at h0 h1 h2;cases hp:tB a b c
   ·go_wp2_with (go_at_call 146;refine (Zpz a b c _).mono ?_;rintro e z ⟨rfl,f⟩)
    go_ret;refine ⟨k,rfl,Zag m.out f,fun d=>?_,fun _=>by omega⟩;have:=List.all_eq_true.1 d (a,b,c) (List.mem_of_getElem? p.out);simp [tBx,hp] at this
   ·go_wp2_with (go_at_call 146;refine (Zpz a b c _).mono ?_;rintro e z ⟨rfl,f⟩)
    go_roundw
    case rel=>
     refine ⟨k+1,by omega,by go_num,Zag m.out f,fun j l=>?_⟩;by_cases hjk:j<k
     ·exact q.out j hjk
     ·obtain rfl:j=k:=by omega
      rw [v.out];exact hp
    case measure=>simp [intOf];omega
  ·have t:k=xs.length:=by omega
   have u:=Zh t;clear t;go_wp2;go_ret;refine ⟨-1,rfl,m.out,fun _=>rfl,fun d=>?_⟩
   exfalso
   have:xs.all tBx=true:=by rw [List.all_eq_true];intro x n;obtain ⟨j,l,rfl⟩:=List.getElem_of_mem n;have:=q.out j (by have:=u.out;omega);rwa [List.getD_eq_getElem?_getD,List.getElem?_eq_getElem l] at this
   rw [this] at d;cases d
theorem ZpD:
  Calls Tryz.prog 145 #[.slice (some ⟨g,o,none⟩) xs.length xs.length,.func (.func 146) #[] #[]] w fun e w'=>e=.returned (.bool (!xs.all tBx))∧Below w.heap.size w w':=by
 have H:=Zh h;clear h;go_enter Tryz.func145,Tryz.ntmps145
 go_wp2_with (go_at_call 207;refine (ZpC g o xs _ hl H.out).mono ?_;rintro e k ⟨r,rfl,d,f,j⟩)
 go_ret;refine ⟨Zab ?_,d⟩;cases ha:xs.all tBx
 ·have:=j ha;simpa using this
 ·have:=f ha;subst this;simp
theorem ZpE:
  Calls Tryz.prog 84 #[.slice (some ⟨g,o,none⟩) xs.length xs.length] w fun e w'=>e=.returned (.bool (xs.all tBx))∧Below w.heap.size w w':=by
 have H:=Zh h;clear h;go_enter Tryz.func84,Tryz.ntmps84
 go_wp2_with (go_at_call 145;refine (ZpD g o xs _ hl H.out).mono ?_;rintro e f ⟨rfl,d⟩)
 go_ret;exact ⟨Zab (by simp),d⟩
end
theorem ZpF (g:Nat) (a b c:Int) (w:World) (h:Blk w g (cl3 a b c) 45) :
  Calls Tryz.prog 84 #[.slice (some ⟨g,0,none⟩) 1 1] w fun e w'=>e=.returned (.bool (tB a b c))∧Below w.heap.size w w':=by
 refine (ZpE g 0 [(a,b,c)] w (by simp) ?_).mono fun e w' ⟨h1,h2⟩=>⟨h1.trans (Zab (by simp [tBx])),h2⟩;intro i d
 match i,d with
 | 0,_=>exact ⟨h.cell 0 (Zmp _ _ _),h.cell 1 (Zmq _ _ _),h.cell 2 (Zmr _ _ _)⟩
theorem ZpG (g:Nat) (a b c d f j:Int) (w:World) (t:TypeId) (h:Blk w g #[.int .i64 a,.int .i64 b,.int .i64 c,.int .i64 d,.int .i64 f,.int .i64 j] t) :
  Calls Tryz.prog 84 #[.slice (some ⟨g,0,none⟩) 2 2] w fun e w'=>e=.returned (.bool (tB a b c&&tB d f j))∧Below w.heap.size w w':=by
 refine (ZpE g 0 [(a,b,c),(d,f,j)] w (by simp) ?_).mono fun e w' ⟨h1,h2⟩=>⟨h1.trans (Zab (by simp [tBx])),h2⟩;intro i k
 match i,k with
 | 0,_=>exact ⟨h.cell 0 rfl,h.cell 1 rfl,h.cell 2 rfl⟩
 | 1,_=>exact ⟨h.cell 3 rfl,h.cell 4 rfl,h.cell 5 rfl⟩
theorem Blk.c3 {w:World}{B:Nat}{a b c:Int}{t:TypeId} (h:Blk w B (cl3 a b c) t):w.cell? ⟨B,0,none⟩=some (.int .i64 a)∧w.cell? ⟨B,1,none⟩=some (.int .i64 b)∧w.cell? ⟨B,2,none⟩=some (.int .i64 c):=
 ⟨h.cell 0 (Zmp _ _ _),h.cell 1 (Zmq _ _ _),h.cell 2 (Zmr _ _ _)⟩
theorem Blk.f3 {w:World}{B:Nat}{a b c:Int}{t:TypeId} (h:Blk w B (cl3 a b c) t):w.frozen? ⟨B,0,none⟩=false∧w.frozen? ⟨B,1,none⟩=false∧w.frozen? ⟨B,2,none⟩=false:=
 ⟨h.frozen 0,h.frozen 1,h.frozen 2⟩
def ZpH (a b c:Int):Bool:=decide (1000000000<a∨1000000000<b∨1000000000<c)
theorem ZpI {a b c:Int} (h:ZpH a b c=true):1000000000<a∨1000000000<b∨1000000000<c:=by simpa [ZpH] using h
theorem ZpJ {a b c:Int} (h:ZpH a b c=false):a≤1000000000∧b≤1000000000∧c≤1000000000:=by
 have:¬ (1000000000<a∨1000000000<b∨1000000000<c):=by simpa [ZpH] using h
 omega
def ZpK (x y z e:Int) (w:World) (en:Ending) (w':World):Prop:=
 en=.returned (.tuple #[.agg #[.int .i64 x,.int .i64 y,.int .i64 z],.int .i64 e])∧Below w.heap.size w w'
theorem ZpL {F:Nat}{f:Func}{r:Nat}{w w':World}{a:Act}{s:Nat}{x y z e:Int} (d:f.results=#[.cell r 45,.tmp s]) (l:a.tmps[r]?.getD undef=.pointer (some ⟨F,0,none⟩)) (m:a.tmps[s]?.getD undef=.int .i64 e) (k:a.defers=[])
  (h0:w'.cell? ⟨F,0,none⟩=some (.int .i64 x)) (h1:w'.cell? ⟨F,1,none⟩=some (.int .i64 y)) (h2:w'.cell? ⟨F,2,none⟩=some (.int .i64 z)) (j:Below w.heap.size w w') :
  bodyPost Tryz.prog f (ZpK x y z e w) .ret a w':=
 bodyPost_ret (v:=.tuple #[.agg #[.int .i64 x,.int .i64 y,.int .i64 z],.int .i64 e]) (by simp [results,d,go_sem,l,m,h0,h1,h2]) k ⟨rfl,j⟩
theorem ZpM (a b c:Int) (w:World) (h:ZpH a b c=false) :
  Calls Tryz.prog 75 #[.agg #[.int .i64 a,.int .i64 b,.int .i64 c],.bool true] w (ZpK a b c 0 w):=by
 have d:Zpw a b c≤1000000000:=by have:=ZpJ h;unfold Zpw;omega
 exact j7
theorem ZpN (a b c:Int) (w:World) (h:ZpH a b c=true) :
  Calls Tryz.prog 75 #[.agg #[.int .i64 a,.int .i64 b,.int .i64 c],.bool true] w (ZpK 0 0 0 6 w):=by
 have d:1000000000<Zpw a b c:=by have:=ZpI h;unfold Zpw;omega
 exact j7
def pgV (a b c:Int):Int:=(a+7) / 8+(b+3) / 4+(c+1) / 2
theorem ZpO (a b c:Int) (w:World) (h:tB a b c=true) :
  Calls Tryz.prog 72 #[.agg #[.int .i64 a,.int .i64 b,.int .i64 c]] w fun e w'=>e=.returned (.tuple #[.int .i64 (pgV a b c),.int .i64 0])∧Below w.heap.size w w':=by
 obtain ⟨j,k,l,m,n,p⟩:=Zpt.1 h;go_enter Tryz.func72,Tryz.ntmps72
 go_wp2_with (go_at_call 84;refine (ZpF _ a b c _ (Blk.new' _ _ (by simp))).mono ?_;rintro e t ⟨rfl,d⟩;have f:=(((Blk.new w (cl3 a b c) 45).alloc _).old d).c3;obtain ⟨q,r,s⟩:=f)
 go_ret2;exact ⟨Zac (by unfold pgV;omega) rfl,Zag (((Below.refl _ _).alloc (Nat.le_refl _) _).alloc (by simp) _) d⟩
def ZpP (n x:Int):Int:=if 0<x∧1000000001 / x<n then 1000000001 else x*n
theorem ZpQ {n x:Int} (h:0≤x):Zms (ZpP n x)=Zms (x*n):=by
 unfold ZpP;split
 ·rename_i h1;obtain ⟨h1,h2⟩:=h1;have d:=Int.lt_ediv_add_one_mul_self 1000000001 h1;have e:(1000000001 / x+1)*x≤n*x:=Int.mul_le_mul_of_nonneg_right (by omega) h;have f:1000000001<x*n:=by rw [Int.mul_comm];omega
  unfold Zms;rw [if_pos (by omega),if_neg (by omega)]
 ·rfl
theorem ZpR {n x:Int} (h:0≤x) (f:x≤1000000001) (e:0≤n) (d:n≤1000):0≤x*n∧x*n≤1000000001000:=by have h1:=Int.mul_nonneg h e;have h2:x*n≤1000000001*1000:=Int.mul_le_mul f d e (by decide);omega
theorem ZpS (x y n:Int) (g:Nat) (w:World) (q:0≤x) (f:x≤1000000001) (m:0≤n) (d:n≤1000) (t:w.cell? ⟨g,0,none⟩=some (.int .i64 n)) :
  Calls Tryz.prog 203 #[.int .i64 x,.int .i64 y,ZQ.p g] w fun e w'=>e=.returned (.int .i64 (ZpP n x))∧∃ k,w'=w.drewN k:=by
 have l:=ZpR q f m d;have u:IntKind.i64.wrap (x*n)=x*n:=IntWalk.i64_in _ (by omega);clear l;by_cases h0:0<x
 ·have j:=IntWalk.tdiv_le 1000000001 x (by decide) (by omega);obtain ⟨r,s⟩:=j;by_cases h1:1000000001 / x<n
  ·have HV:Hid (ZpP n x=1000000001):=by show _=_;unfold ZpP;rw [if_pos ⟨h0,h1⟩]
   exact j10
  ·have HV:Hid (ZpP n x=x*n):=by show _=_;unfold ZpP;rw [if_neg (by omega)]
   exact j10
 ·have HV:Hid (ZpP n x=x*n):=by show _=_;unfold ZpP;rw [if_neg (by omega)]
  have j:decide (0<x)=false:=by simpa using h0
  exact j10
theorem ZpT (A:Array Value) (W:World):(callFunc 86 A).run Tryz.prog W=.ok (.enter 86 A) W:=by kernel_rfl
theorem ZpU (A:Array Value) (W:World):(callFunc 150 A).run Tryz.prog W=.ok (.enter 150 A) W:=by kernel_rfl
theorem ZpV (A:Array Value) (W:World):(callFunc 203 A).run Tryz.prog W=.ok (.enter 203 A) W:=by kernel_rfl
theorem ZpW (w:World) (x y:Int) (f:0≤x) (d:x≤1000000001) (hy:0≤y) (e:y≤1000000001):ZmC 86 #[] w (·+·) x y:=by intro W _;show Calls Tryz.prog 86 #[.int .i64 x,.int .i64 y] W _;go_enter Tryz.func86,Tryz.ntmps86;go_wp2;go_ret;exact ⟨rfl,0,rfl⟩
theorem ZpX (w:World) (x y:Int):ZmC 150 #[] w Zmt x y:=by
 intro W _;show Calls Tryz.prog 150 #[.int .i64 x,.int .i64 y] W _;go_enter Tryz.func150,Tryz.ntmps150;go_wp2
 all_goals
  go_ret;exact ⟨Zaa (by unfold Zmt;split<;>omega),0,rfl⟩
def ZpY (a0 a1 a2 b0 b1 b2:Int):(Int × Int × Int) × Int:=
 if (tB a0 a1 a2&&tB b0 b1 b2)=false then ((0,0,0),1)
 else if ZpH (Zms (a0+b0)) (Zms (a1+b1)) (Zms (a2+b2)) then ((0,0,0),6)
 else ((Zms (a0+b0),Zms (a1+b1),Zms (a2+b2)),0)
def ZpZ (r:(Int × Int × Int) × Int) (w:World):Ending→World→Prop:=ZpK r.1.1 r.1.2.1 r.1.2.2 r.2 w
theorem ZpK.to {x y z e:Int}{r:(Int × Int × Int) × Int}{w:World}{en:Ending}{w':World} (h:ZpK x y z e w en w') (hr:r=((x,y,z),e)):ZpZ r w en w':=by subst hr;exact h
theorem Zp0 (f j k l m n:Int) (w:World) :
  Calls Tryz.prog 29 #[.agg #[.int .i64 f,.int .i64 j,.int .i64 k],.agg #[.int .i64 l,.int .i64 m,.int .i64 n]] w (ZpZ (ZpY f j k l m n) w):=by
 have S:=Zh (show Blk ((((w.alloc (.cells (cl3 f j k) 45)).alloc (.cells (cl3 l m n) 45)).alloc (.cells (cl3 0 0 0) 45)).alloc (.cells #[.int .i64 f,.int .i64 j,.int .i64 k,.int .i64 l,.int .i64 m,.int .i64 n] 45)) w.heap.size (cl3 f j k) 45 from ((Blk.new' _ _ rfl).alloc _).alloc _ |>.alloc _);have P:=Zh (show Blk ((((w.alloc (.cells (cl3 f j k) 45)).alloc (.cells (cl3 l m n) 45)).alloc (.cells (cl3 0 0 0) 45)).alloc (.cells #[.int .i64 f,.int .i64 j,.int .i64 k,.int .i64 l,.int .i64 m,.int .i64 n] 45)) (w.heap.size+1) (cl3 l m n) 45 from (Blk.new' _ _ (by simp)).alloc _ |>.alloc _);have O:=Zh (show Blk ((((w.alloc (.cells (cl3 f j k) 45)).alloc (.cells (cl3 l m n) 45)).alloc (.cells (cl3 0 0 0) 45)).alloc (.cells #[.int .i64 f,.int .i64 j,.int .i64 k,.int .i64 l,.int .i64 m,.int .i64 n] 45)) (w.heap.size+1+1) (cl3 0 0 0) 45 from (Blk.new' _ _ (by simp)).alloc _);have T:=Zh (show Below w.heap.size w ((((w.alloc (.cells (cl3 f j k) 45)).alloc (.cells (cl3 l m n) 45)).alloc (.cells (cl3 0 0 0) 45)).alloc (.cells #[.int .i64 f,.int .i64 j,.int .i64 k,.int .i64 l,.int .i64 m,.int .i64 n] 45)) from ((((Below.refl _ _).alloc (Nat.le_refl _) _).alloc (by simp) _).alloc (by simp;omega) _).alloc (by simp;omega) _);by_cases hv:(tB f j k&&tB l m n)=false
 ·refine Calls.mono (R:=ZpK 0 0 0 1 w) ?_ (fun e W h=>h.to (by unfold ZpY;rw [if_pos hv]));go_enter Tryz.func29,Tryz.ntmps29
  go_wp2_with fail
  refine (ZpG (w.heap.size+1+1+1) f j k l m n _ 45 (Blk.new' _ _ (by simp))).mono ?_;rintro e X ⟨rfl,d⟩;have C:=(S.out.old d).c3;obtain ⟨I,J,K⟩:=C;have D:=(P.out.old d).c3;obtain ⟨L,M,N⟩:=D;have E:=(O.out.old d).c3;obtain ⟨q,r,s⟩:=E;have G:=(O.out.old d).f3;obtain ⟨t,u,v⟩:=G;clear I J K L M N
  go_wp2_with fail
  have H:=Zmx (x:=0) (y:=0) (z:=0) (O.out.old d);exact ZpL (F:=w.heap.size+1+1) Tryz.results29 rfl rfl rfl H.c3.1 H.c3.2.1 H.c3.2.2 (Zmz (Zag T.out d) _ _ _ (by omega))
 have Q:(tB f j k&&tB l m n)=true:=by simpa using hv
 obtain ⟨U,V⟩:tB f j k=true∧tB l m n=true:=by simpa using Q
 obtain ⟨Y,Z,aa,ab,ac,ad⟩:=Zpt.1 U;obtain ⟨ae,af,ag,ah,ai,aj⟩:=Zpt.1 V;cases hbig:ZpH (Zms (f+l)) (Zms (j+m)) (Zms (k+n))
 ·refine Calls.mono (R:=ZpK (Zms (f+l)) (Zms (j+m)) (Zms (k+n)) 0 w) ?_ (fun e W h=>h.to (by unfold ZpY;rw [if_neg (by rw [Q];decide),hbig];rfl));go_enter Tryz.func29,Tryz.ntmps29
  go_wp2_with fail
  refine (ZpG (w.heap.size+1+1+1) f j k l m n _ 45 (Blk.new' _ _ (by simp))).mono ?_;rintro e X ⟨rfl,d⟩;have C:=(S.out.old d).c3;obtain ⟨I,J,K⟩:=C;have D:=(P.out.old d).c3;obtain ⟨L,M,N⟩:=D;have E:=(O.out.old d).c3;obtain ⟨q,r,s⟩:=E;have G:=(O.out.old d).f3;obtain ⟨t,u,v⟩:=G
  go_wp2_with fail
  clear I J K L M N q r s t u v;refine (ZmD 86 #[] (·+·) f j k l m n _ ZpT (ZpW _ _ _ (by omega) (by omega) (by omega) (by omega)) (ZpW _ _ _ (by omega) (by omega) (by omega) (by omega)) (ZpW _ _ _ (by omega) (by omega) (by omega) (by omega))).mono ?_;rintro e w2 ⟨rfl,A⟩
  go_wp2_with fail
  refine (ZpM _ _ _ _ hbig).mono ?_;rintro e w3 ⟨rfl,B⟩;have p:=(((O.out.old d).old A).old B);obtain ⟨q,r,s⟩:=p.c3;obtain ⟨t,u,v⟩:=p.f3
  go_wp2_with fail
  have H:=Zmx (x:=Zms (f+l)) (y:=Zms (j+m)) (z:=Zms (k+n)) p;exact ZpL (F:=w.heap.size+1+1) Tryz.results29 rfl rfl rfl H.c3.1 H.c3.2.1 H.c3.2.2 (Zmz (Zag (Zag (Zag T.out d) A) B) _ _ _ (by omega))
 ·refine Calls.mono (R:=ZpK (0) (0) (0) 6 w) ?_ (fun e W h=>h.to (by unfold ZpY;rw [if_neg (by rw [Q];decide),hbig];rfl));go_enter Tryz.func29,Tryz.ntmps29
  go_wp2_with fail
  refine (ZpG (w.heap.size+1+1+1) f j k l m n _ 45 (Blk.new' _ _ (by simp))).mono ?_;rintro e X ⟨rfl,d⟩;have C:=(S.out.old d).c3;obtain ⟨I,J,K⟩:=C;have D:=(P.out.old d).c3;obtain ⟨L,M,N⟩:=D;have E:=(O.out.old d).c3;obtain ⟨q,r,s⟩:=E;have G:=(O.out.old d).f3;obtain ⟨t,u,v⟩:=G
  go_wp2_with fail
  clear I J K L M N q r s t u v;refine (ZmD 86 #[] (·+·) f j k l m n _ ZpT (ZpW _ _ _ (by omega) (by omega) (by omega) (by omega)) (ZpW _ _ _ (by omega) (by omega) (by omega) (by omega)) (ZpW _ _ _ (by omega) (by omega) (by omega) (by omega))).mono ?_;rintro e w2 ⟨rfl,A⟩
  go_wp2_with fail
  refine (ZpN _ _ _ _ hbig).mono ?_;rintro e w3 ⟨rfl,B⟩;have p:=(((O.out.old d).old A).old B);obtain ⟨q,r,s⟩:=p.c3;obtain ⟨t,u,v⟩:=p.f3
  go_wp2_with fail
  have H:=Zmx (x:=0) (y:=0) (z:=0) p;exact ZpL (F:=w.heap.size+1+1) Tryz.results29 rfl rfl rfl H.c3.1 H.c3.2.1 H.c3.2.2 (Zmz (Zag (Zag (Zag T.out d) A) B) _ _ _ (by omega))
theorem Zp1 {F:Nat}{f:Func}{r:Nat}{w w':World}{a:Act}{x y z:Int} (d:f.results=#[.cell r 45]) (l:a.tmps[r]?.getD undef=.pointer (some ⟨F,0,none⟩)) (k:a.defers=[])
  (h0:w'.cell? ⟨F,0,none⟩=some (.int .i64 x)) (h1:w'.cell? ⟨F,1,none⟩=some (.int .i64 y)) (h2:w'.cell? ⟨F,2,none⟩=some (.int .i64 z)) (j:Below w.heap.size w w') :
  bodyPost Tryz.prog f (fun e w'=>e=.returned (.agg #[.int .i64 x,.int .i64 y,.int .i64 z])∧Below w.heap.size w w') .ret a w':=
 bodyPost_ret (v:=.agg #[.int .i64 x,.int .i64 y,.int .i64 z]) (by simp [results,d,go_sem,l,h0,h1,h2]) k ⟨rfl,j⟩
theorem Zp2 (w:World) (g:Nat) (n x y:Int) (l:0≤x) (e:x≤1000000001) (k:0≤n) (d:n≤1000) (f:w.cell? ⟨g,0,none⟩=some (.int .i64 n)):ZmC 203 #[ZQ.p g] w (fun x _=>ZpP n x) x y:=by intro W j;exact ZpS x y n g W l e k d (by rw [j.cell (p:=⟨g,0,none⟩) (Zad f)];exact f)
theorem Zp3 (a b c n:Int) (w:World) (B:0≤a∧a≤1000000001∧0≤b∧b≤1000000001∧0≤c∧c≤1000000001) (C:0≤n∧n≤1000) :
  Calls Tryz.prog 137 #[.agg #[.int .i64 a,.int .i64 b,.int .i64 c],.int .i64 n] w fun e w'=>e=.returned (.agg #[.int .i64 (Zms (a*n)),.int .i64 (Zms (b*n)),.int .i64 (Zms (c*n))])∧Below w.heap.size w w':=by
 obtain ⟨p,u,q,v,r,A⟩:=B;obtain ⟨l,m⟩:=C;have j:=Zh (show Blk (((w.alloc (.cells (cl3 a b c) 45)).alloc (.cells #[.int .i64 n] 3)).alloc (.cells (cl3 0 0 0) 45)) (w.heap.size+1+1) (cl3 0 0 0) 45 from Blk.new' _ _ (by simp));have t:=Zh (show Blk (((w.alloc (.cells (cl3 a b c) 45)).alloc (.cells #[.int .i64 n] 3)).alloc (.cells (cl3 0 0 0) 45)) (w.heap.size+1) #[.int .i64 n] 3 from (Blk.new' _ _ (by simp)).alloc _);have s:=Zh (show Below w.heap.size w (((w.alloc (.cells (cl3 a b c) 45)).alloc (.cells #[.int .i64 n] 3)).alloc (.cells (cl3 0 0 0) 45)) from (((Below.refl _ _).alloc (Nat.le_refl _) _).alloc (by simp) _).alloc (by simp;omega) _);go_enter Tryz.func137,Tryz.ntmps137
 go_wp2_with fail
 have f:=t.out.cell 0 rfl;refine (ZmD 203 #[.pointer (some ⟨w.heap.size+1,0,none⟩)] (fun x _=>ZpP n x) a b c 0 0 0 _ ZpV (Zp2 _ _ _ _ _ p u l m f) (Zp2 _ _ _ _ _ q v l m f) (Zp2 _ _ _ _ _ r A l m f)).mono ?_;clear f;rintro e K ⟨rfl,d⟩;rw [ZpQ p,ZpQ q,ZpQ r];obtain ⟨H,I,J⟩:=(j.out.old d).f3;obtain ⟨D,E,G⟩:=(j.out.old d).c3
 go_wp2_with fail
 have k:=Zmx (x:=Zms (a*n)) (y:=Zms (b*n)) (z:=Zms (c*n)) (j.out.old d);exact Zp1 (F:=w.heap.size+1+1) Tryz.results137 rfl rfl k.c3.1 k.c3.2.1 k.c3.2.2 (Zmz (Zag s.out d) _ _ _ (by omega))
theorem Zp4 {P:Program}{t e:TypeId} (k:P.underlying t=some (.array 3 e)) (d:P.underlying e=some (.int .i64)) (j:∀ w,(sizeOf e).run P w=.ok 1 w) (f:∀ w,(isAgg e).run P w=.ok false w) (a b c x y z:Int) (w:World) :
  (Op.equalIn 10000 t (.agg #[.int .i64 a,.int .i64 b,.int .i64 c]) (.agg #[.int .i64 x,.int .i64 y,.int .i64 z])).run P w=.ok (a == x&&(b == y&&c == z)) w:=by
 have h1:∀ (p q:Int) (w:World),(Op.equalIn 9999 e (.int .i64 p) (.int .i64 q)).run P w=.ok (p == q) w:=fun p q w=>run_equalIn_int w 9998 e .i64 .i64 p q d;show (Op.equalIn (9999+1) t _ _).run P w=_;rw [Op.equalIn];simp only [Sem.run_bind,run_underlying k,Result.andThen_ok];cases h2:(a == x)<;>cases h3:(b == y)<;>cases h4:(c == z)<;>simp [go_sem,j,f,h1,h2,h3,h4,Std.Legacy.Range.forIn_eq_forIn_range',List.range']
theorem Zp5 (w:World):(sizeOf 3).run Tryz.prog w=.ok 1 w:=by kernel_rfl
theorem Zp6 (w:World):(isAgg 3).run Tryz.prog w=.ok false w:=by kernel_rfl
theorem eq3 (a b c x y z:Int) (w:World):(Op.equalIn 10000 45 (.agg #[.int .i64 a,.int .i64 b,.int .i64 c]) (.agg #[.int .i64 x,.int .i64 y,.int .i64 z])).run Tryz.prog w=.ok (a == x&&(b == y&&c == z)) w:=
 Zp4 Tryz.underlying45 Tryz.underlying3 Zp5 Zp6 a b c x y z w
theorem Zp7 (w:World):Calls Tryz.prog 72 #[.agg #[.int .i64 9,.int .i64 1,.int .i64 0]] w fun e w'=>e=.returned (.tuple #[.int .i64 3,.int .i64 0])∧Below w.heap.size w w':=
 (ZpO 9 1 0 w (by decide)).mono fun _ _ ⟨h1,h2⟩=>⟨h1.trans (Zac (by decide) rfl),h2⟩
theorem Zp8 (w:World):Calls Tryz.prog 29 #[.agg #[.int .i64 1,.int .i64 2,.int .i64 3],.agg #[.int .i64 4,.int .i64 5,.int .i64 6]] w (ZpK 5 7 9 0 w):=by
 have h:ZpY 1 2 3 4 5 6=((5,7,9),0):=by decide
 have:=Zp0 1 2 3 4 5 6 w;rw [h] at this;exact this
theorem Zp9 (w:World):Calls Tryz.prog 22 #[] w fun e w'=>e=.returned (.bool true)∧Below w.heap.size w w':=by
 have j:=eq3;go_enter Tryz.func22,Tryz.ntmps22
 go_wp2_with (first|(go_at_call 72;refine (Zp7 _).mono ?_;rintro e k ⟨rfl,d⟩)|(go_at_call 29;refine (Zp8 _).mono ?_;rintro e l ⟨rfl,f⟩))
 go_ret;exact ⟨rfl,Zag (Zag d f) ((Below.refl _ _).alloc (Nat.le_refl _) _)⟩
theorem Zqa {a:Int} (h:Bd a):Zms a=a:=if_pos h.2
theorem Zqb (a b:T3) (w:World) (d:BdT a) (e:BdT b):Calls Tryz.prog 85 #[ag3 a,ag3 b,.func (.func 86) #[] #[]] w (Ret w (ag3 (plT a b))):=
 ZmD 86 #[] (·+·) _ _ _ _ _ _ w ZpT (ZpW _ _ _ d.1.1 d.1.2 e.1.1 e.1.2) (ZpW _ _ _ d.2.1.1 d.2.1.2 e.2.1.1 e.2.1.2) (ZpW _ _ _ d.2.2.1 d.2.2.2 e.2.2.1 e.2.2.2)
theorem Zqc {a b:T3} (d:BdT a) (e:BdT b):(Zms (Zmt a.1 b.1),Zms (Zmt a.2.1 b.2.1),Zms (Zmt a.2.2 b.2.2))=mxT a b:=by rw [Zqa (ZmO d.1 e.1),Zqa (ZmO d.2.1 e.2.1),Zqa (ZmO d.2.2 e.2.2)];rfl
theorem Zqd (a b:T3) (w:World) (d:BdT a) (e:BdT b):Calls Tryz.prog 85 #[ag3 a,ag3 b,.func (.func 150) #[] #[]] w (Ret w (ag3 (mxT a b))):=by have h:=ZmD 150 #[] Zmt a.1 a.2.1 a.2.2 b.1 b.2.1 b.2.2 w ZpU (ZpX _ _ _) (ZpX _ _ _) (ZpX _ _ _);rw [←Zqc d e];exact h
theorem Zqe (a:T3) (n:Int) (w:World) (d:BdT a) (h0:0≤n) (h1:n≤1000):Calls Tryz.prog 137 #[ag3 a,.int .i64 n] w (Ret w (ag3 (mlT a n))):=
 Zp3 _ _ _ n w ⟨d.1.1,d.1.2,d.2.1.1,d.2.1.2,d.2.2.1,d.2.2.2⟩ ⟨h0,h1⟩
def Zqf:Option T3→T3 × Int
 | none=>(z3,10)
 | some x=>if ZpH x.1 x.2.1 x.2.2 then (z3,6) else (x,0)
def Zqg (r:T3 × Int) (w:World):Ending→World→Prop:=ZpK r.1.1 r.1.2.1 r.1.2.2 r.2 w
theorem Zqh (x:T3) (w:World):Calls Tryz.prog 75 #[ag3 x,.bool false] w (Zqg (z3,10) w):=by
 obtain ⟨a,b,c⟩:=x;unfold ag3;go_enter Tryz.func75,Tryz.ntmps75
 go_wp2_with fail
 exact ZpL (F:=w.heap.size+1) Tryz.results75 rfl rfl rfl (by simp [go_sem,z3]) (by simp [go_sem,z3]) (by simp [go_sem,z3]) (((Below.refl _ _).alloc (Nat.le_refl _) _).alloc (by simp) _)
theorem Zqi (x:T3) (w:World):Calls Tryz.prog 75 #[ag3 x,.bool true] w (Zqg (Zqf (some x)) w):=by
 cases h:ZpH x.1 x.2.1 x.2.2
 ·have:=ZpM x.1 x.2.1 x.2.2 w h;rw [show Zqf (some x)=(x,0) by show (if ZpH x.1 x.2.1 x.2.2=true then (z3,(6:Int)) else (x,0))=_;rw [h];rfl];exact this
 ·have:=ZpN x.1 x.2.1 x.2.2 w h;rw [show Zqf (some x)=(z3,6) by show (if ZpH x.1 x.2.1 x.2.2=true then (z3,(6:Int)) else (x,0))=_;rw [h];rfl];exact this
end
section
def ofV (m:Md) (O R:Nat→Option T3) (t:Ty):Option T3:=if t.k=3 then some (ZmW m t) else if t.k=4 then R t.c.toNat else if t.k=2 then O t.c.toNat else some z3
def Zqj (m:Md) (F:Ty→Option T3):T3→List Nat→Option T3
 | a,[]=>some a
 | a,d :: r=>match Zm0 F (szC m d) (fsC m d) with|none=>none|some s=>Zqj m F (mxT a s) r
theorem Zqk (m:Md) (V:Nat→Option T3):∀ (l:List Nat) (a:T3),Zm1 m V a l=Zqj m (ZmZ m V) a l
 | [],_=>rfl
 |d :: r,a=>by
  unfold Zm1 Zqj;cases Zm0 (ZmZ m V) (szC m d) (fsC m d) with
  | none=>rfl
  | some s=>exact Zqk m V r _
theorem Zql {F G:Ty→Option T3}:∀ {l:List Ty}{a s:T3},(∀ t∈l,∀ x,F t=some x→G t=some x)→Zm0 F a l=some s→Zm0 G a l=some s
 | [],_,_,_,e=>e
 |t :: r,a,s,h,e=>by
  unfold Zm0 at e ⊢;cases hf:F t with
  | none=>rw [hf] at e;cases e
  | some x=>rw [hf] at e;rw [h t (by simp) x hf];exact Zql (fun u d=>h u (by simp [d])) e
theorem Zqm {m:Md} (f:Za2 m=true) {F G:Ty→Option T3} (h:∀ t,Zfk m t→∀ x,F t=some x→G t=some x):∀ {l:List Nat}{a s:T3},(∀ d∈l,d<m.cl.length)→Zqj m F a l=some s→Zqj m G a l=some s
 | [],_,_,_,e=>e
 |d :: r,a,s,hl,e=>by
  unfold Zqj at e ⊢;cases hf:Zm0 F (szC m d) (fsC m d) with
  | none=>rw [hf] at e;cases e
  |some x=>
   rw [hf] at e;rw [Zql (fun t j=>h t (Zna f (hl d (by simp)) t j)) hf];exact Zqm f h (fun u k=>hl u (by simp [k])) e
def rfV (m:Md) (V:Nat→Option T3) (c:Nat):Option T3:=ZmZ m V ⟨4,c⟩
def Zqn (f:Nat→Option T3) (c:Nat) (x:Option T3):Nat→Option T3:=fun j=>if j=c then x else f j
abbrev Tbs:=(Nat→Option T3) × (Nat→Option T3)
def stepO (m:Md) (s:Tbs) (c:Nat):Tbs:=if (s.1 c).isSome then s else (Zqn s.1 c (Zqj m (ofV m s.1 s.2) z3 (ZmY m c)),s.2)
def stepR (m:Md) (s:Tbs) (c:Nat):Tbs:=if (s.2 c).isSome then s else (s.1,Zqn s.2 c (rfV m s.1 c))
def Zqo (m:Md) (s:Tbs) (c:Nat):Tbs:=stepR m (stepO m s c) c
def Zqp (m:Md):Tbs→List Nat→Tbs
 | s,[]=>s
 | s,c :: r=>Zqp m (Zqo m s c) r
def Zqq (m:Md):Nat→Tbs
 | 0=>(fun _=>none,fun _=>none)
 | k+1=>Zqp m (Zqq m k) (List.range m.cl.length)
structure Snd (m:Md) (s:Tbs):Prop where
 o:∀ c x,s.1 c=some x→c<m.cl.length∧Zm3 m c=some x
 r:∀ c x,s.2 c=some x→c<m.cl.length∧rfV m (Zm3 m) c=some x
theorem Zqr {m:Md}{s:Tbs} (H:Snd m s) {t:Ty} (j:Zfk m t) {x:T3} (e:ofV m s.1 s.2 t=some x):Zm4 m t=some x:=by
 unfold ofV at e;unfold Zm4 ZmZ;by_cases q3:t.k=3
 ·rw [if_pos q3] at e ⊢;exact e
 rw [if_neg q3] at e ⊢;by_cases q2:t.k=2
 ·rw [if_neg (by omega),if_pos q2] at e;rw [if_pos q2];exact (H.o _ _ e).2
 rw [if_neg q2];by_cases q4:t.k=4
 ·rw [if_pos q4] at e;have h:=(H.r _ _ e).2;have d:=ZfH j (.inr q4);have f:(⟨4,(t.c.toNat:Nat)⟩:Ty)=t:=by obtain ⟨k,c⟩:=t;dsimp only at q4 d ⊢;subst q4;rw [Int.toNat_of_nonneg d.1]
  unfold rfV ZmZ at h;rw [f,if_neg q3,if_neg q2] at h;exact h
 ·rw [if_neg q4,if_neg q2] at e;rw [if_neg q4];exact e
theorem Zqs {m:Md} (e:Za2 m=true) {c:Nat} (d:c<m.cl.length):Zm3 m c=Zqj m (Zm4 m) z3 (ZmY m c):=by rw [Znl e d,Zqk];rfl
theorem Snd.stepO {m:Md} (hm:Za2 m=true) {s:Tbs} (H:Snd m s) {c:Nat} (hc:c<m.cl.length):Snd m (stepO m s c):=by
 unfold Proofs.YtfmcclhfnpcokaaGreat.stepO;split
 ·exact H
 ·refine ⟨fun j x e=>?_,H.r⟩;dsimp only [Zqn] at e;split at e
  ·rename_i q;subst q;refine ⟨hc,?_⟩;rw [Zqs hm hc];exact Zqm hm (fun t k x e=>Zqr H k e) (fun d f=>Zm9 f) e
  ·exact H.o j x e
theorem Snd.stepR {m:Md}{s:Tbs} (H:Snd m s) {c:Nat} (hc:c<m.cl.length):Snd m (stepR m s c):=by
 unfold Proofs.YtfmcclhfnpcokaaGreat.stepR;split
 ·exact H
 ·refine ⟨H.o,fun j x e=>?_⟩;dsimp only [Zqn] at e;split at e
  ·rename_i q;subst q;exact ⟨hc,Zm6 (fun d y f=>(H.o d y f).2) _ x e⟩
  ·exact H.r j x e
theorem Snd.round {m:Md} (hm:Za2 m=true):∀ {l:List Nat}{s:Tbs},(∀ c∈l,c<m.cl.length)→Snd m s→Snd m (Zqp m s l)
 | [],_,_,H=>H
 | c :: r,s,hl,H=>Snd.round (s:=Zqo m s c) hm (fun d e=>hl d (by simp [e])) ((H.stepO hm (hl c (by simp))).stepR (hl c (by simp)))
theorem Zqt {m:Md} (d:Za2 m=true):∀ k,Snd m (Zqq m k)
 | 0=>⟨fun _ _ e=>(by cases e),fun _ _ e=>(by cases e)⟩
 | k+1=>(Zqt d k).round d fun _ h=>List.mem_range.1 h
def LeS (s u:Tbs):Prop:=Le s.1 u.1∧Le s.2 u.2
theorem LeS.refl (s:Tbs):LeS s s:=⟨fun _ _ e=>e,fun _ _ e=>e⟩
theorem LeS.trans {a b c:Tbs} (h:LeS a b) (g:LeS b c):LeS a c:=⟨fun j x e=>g.1 j x (h.1 j x e),fun j x e=>g.2 j x (h.2 j x e)⟩
theorem Zqu {f:Nat→Option T3}{c:Nat}{x:Option T3} (h:f c=none):Le f (Zqn f c x):=by
 intro j y e;unfold Zqn;split
 ·rename_i q;subst q;rw [h] at e;cases e
 ·exact e
theorem Zqv {x:Option T3} (h:¬ x.isSome=true):x=none:=by cases x<;>simp_all
theorem Zqw (m:Md) (s:Tbs) (c:Nat):LeS s (stepO m s c):=by
 unfold stepO;split
 ·exact LeS.refl s
 ·rename_i q;exact ⟨Zqu (Zqv q),fun _ _ e=>e⟩
theorem Zqx (m:Md) (s:Tbs) (c:Nat):LeS s (stepR m s c):=by
 unfold stepR;split
 ·exact LeS.refl s
 ·rename_i q;exact ⟨fun _ _ e=>e,Zqu (Zqv q)⟩
theorem Zqy (m:Md) (s:Tbs) (c:Nat):LeS s (Zqo m s c):=(Zqw m s c).trans (Zqx m _ c)
theorem Zqz (m:Md):∀ (l:List Nat) (s:Tbs),LeS s (Zqp m s l)
 | [],s=>LeS.refl s
 | c :: r,s=>(Zqy m s c).trans (Zqz m r _)
structure Has (m:Md) (s:Tbs) (V W:Nat→Option T3):Prop where
 o:∀ c,c<m.cl.length→∀ x,V c=some x→s.1 c=some x
 r:∀ c,c<m.cl.length→∀ x,rfV m W c=some x→s.2 c=some x
theorem Has.le {m:Md}{s u:Tbs}{V W:Nat→Option T3} (H:Has m s V W) (h:LeS s u):Has m u V W:=
 ⟨fun c d x e=>h.1 c x (H.o c d x e),fun c d x e=>h.2 c x (H.r c d x e)⟩
theorem ZqA {m:Md}{s:Tbs}{V:Nat→Option T3} (H:Has m s V V) {t:Ty} (f:Zfk m t) {x:T3} (e:ZmZ m V t=some x):ofV m s.1 s.2 t=some x:=by
 unfold ZmZ at e;unfold ofV;by_cases q3:t.k=3
 ·rw [if_pos q3] at e ⊢;exact e
 rw [if_neg q3] at e ⊢;by_cases q2:t.k=2
 ·have d:=ZfH f (.inl q2);rw [if_pos q2] at e;rw [if_neg (by omega),if_pos q2];exact H.o _ (by omega) _ e
 rw [if_neg q2] at e;by_cases q4:t.k=4
 ·have d:=ZfH f (.inr q4);rw [if_pos q4];refine H.r _ (by omega) _ ?_;have j:(⟨4,(t.c.toNat:Nat)⟩:Ty)=t:=by obtain ⟨k,c⟩:=t;dsimp only at q4 d ⊢;subst q4;rw [Int.toNat_of_nonneg d.1]
  unfold rfV ZmZ;rw [j,if_neg q3,if_neg q2];exact e
 ·rw [if_neg q4] at e;rw [if_neg q4,if_neg q2];exact e
theorem ZqB {m:Md} (n:Za2 m=true) {s:Tbs} (S:Snd m s) {c:Nat} (k:c<m.cl.length) {V:Nat→Option T3} (j:∀ d,d<m.cl.length→∀ x,V d=some x→s.1 d=some x) {x:T3} (e:rfV m V c=some x):(stepR m s c).2 c=some x:=by
 have h:rfV m s.1 c=some x:=by
  unfold rfV ZmZ at e ⊢;rw [if_neg (show ¬ (4:Int)=3 by decide),if_neg (show ¬ (4:Int)=2 by decide),if_pos rfl] at e ⊢;split at e
  ·rename_i q;rw [if_pos q];exact e
  ·rename_i q;rw [if_neg q];rw [show ((⟨4,(c:Int)⟩:Ty)).c.toNat=c from Int.toNat_natCast c] at e ⊢;cases hv:V c with
   | none=>rw [hv] at e;cases e
   | some y=>rw [hv] at e;rw [j c k y hv];exact e
 unfold stepR;split
 ·rename_i q;obtain ⟨y,f⟩:=Option.isSome_iff_exists.1 q;have h1:=(S.r c y f).2;have h2:rfV m (Zm3 m) c=some x:=Zm6 (fun d z l=>(S.o d z l).2) _ x h;rw [f];rw [h1] at h2;exact h2
 ·show Zqn s.2 c (rfV m s.1 c) c=some x;unfold Zqn;rw [if_pos rfl];exact h
theorem ZqC {m:Md} (j:Za2 m=true) {s:Tbs} (S:Snd m s) {c:Nat} (n:c<m.cl.length) {V:Nat→Option T3} (H:Has m s V V) {x:T3} (e:Zm1 m V z3 (ZmY m c)=some x):(stepO m s c).1 c=some x:=by
 have h:Zqj m (ofV m s.1 s.2) z3 (ZmY m c)=some x:=by rw [Zqk] at e;exact Zqm j (fun t k x e=>ZqA H k e) (fun d f=>Zm9 f) e
 unfold stepO;split
 ·rename_i q;obtain ⟨y,l⟩:=Option.isSome_iff_exists.1 q;have h1:=(S.o c y l).2;have h2:Zm3 m c=some x:=by rw [Zqs j n];exact Zqm j (fun t k x e=>Zqr S k e) (fun d f=>Zm9 f) h
  rw [l];rw [h1] at h2;exact h2
 ·show Zqn s.1 c _ c=some x;unfold Zqn;rw [if_pos rfl];exact h
theorem ZqD {m:Md} (p:Za2 m=true) (P:Tbs→Prop) (j:∀ {s u},LeS s u→P s→P u) (Q:Nat→Tbs→Prop) (k:∀ {c s u},LeS s u→Q c s→Q c u):∀ {l:List Nat}{s:Tbs},(∀ c∈l,c<m.cl.length)→Snd m s→P s→(∀ c∈l,∀ s,Snd m s→P s→Q c (Zqo m s c))→∀ c∈l,Q c (Zqp m s l)
 |d :: r,s,hl,S,hp,hs,c,hc=>by
  have n:=hl d (by simp);rcases List.mem_cons.1 hc with rfl|hc
  ·exact k (Zqz m r _) (hs c (by simp) s S hp)
  ·exact ZqD p P j Q k (fun e f=>hl e (by simp [f])) ((S.stepO p n).stepR n) (j (Zqy m s d) hp) (fun e f=>hs e (by simp [f])) c hc
theorem ZqE {m:Md} (j:Za2 m=true):∀ k,(∀ c,c<m.cl.length→∀ x,Zm2 m k c=some x→(Zqq m (2*k)).1 c=some x)∧Has m (Zqq m (2*k+1)) (Zm2 m k) (Zm2 m k)
 |k=>by
  have p:∀ k,(∀ c,c<m.cl.length→∀ x,Zm2 m k c=some x→(Zqq m (2*k)).1 c=some x)→Has m (Zqq m (2*k+1)) (Zm2 m k) (Zm2 m k):=by
   intro k h;refine ⟨fun c f x e=>(Zqz m _ _).1 c x (h c f x e),fun c f=>?_⟩;exact ZqD j (fun s=>∀ d,d<m.cl.length→∀ x,Zm2 m k d=some x→s.1 d=some x) (fun hl l d q x e=>hl.1 d x (l d q x e)) (fun c s=>∀ x,rfV m (Zm2 m k) c=some x→s.2 c=some x) (fun hl r x e=>hl.2 _ x (r x e)) (fun _ h=>List.mem_range.1 h) (Zqt j _) h
    (fun c f s S l x e=>ZqB j (S.stepO j (List.mem_range.1 f)) (List.mem_range.1 f) (fun d q y t=>(Zqw m s c).1 d y (l d q y t)) e) c (List.mem_range.2 f)
  have n:∀ k,∀ c,c<m.cl.length→∀ x,Zm2 m k c=some x→(Zqq m (2*k)).1 c=some x:=by
   intro k
   induction k with
   | zero=>exact fun c _ x e=>by cases e
   |succ k ih=>
    intro c f;have H:=p k ih;exact ZqD j (fun s=>Has m s (Zm2 m k) (Zm2 m k)) (fun hl l=>l.le hl) (fun c s=>∀ x,Zm2 m (k+1) c=some x→s.1 c=some x) (fun hl r x e=>hl.1 _ x (r x e)) (fun _ h=>List.mem_range.1 h) (Zqt j _) H
     (fun c f s S l x e=>(Zqx m _ c).1 c x (ZqC j S (List.mem_range.1 f) l e)) c (List.mem_range.2 f)
  exact ⟨n k,p k (n k)⟩
theorem ZqF {m:Md} (d:Za2 m=true) {c:Nat} (e:c<m.cl.length):(Zqq m (2*m.cl.length+1)).1 c=Zm3 m c:=by
 cases hv:Zm3 m c with
 | some x=>exact (ZqE d m.cl.length).2.o c e x hv
 |none=>
  cases h:(Zqq m (2*m.cl.length+1)).1 c with
  | none=>rfl
  | some x=>have:=((Zqt d _).o c x h).2;rw [hv] at this;cases this
theorem ZqG {m:Md} (d:Za2 m=true) {t:Ty} (e:Zfk m t):ofV m (Zqq m (2*m.cl.length+1)).1 (Zqq m (2*m.cl.length+1)).2 t=Zm4 m t:=by
 cases hv:Zm4 m t with
 | some x=>exact ZqA (ZqE d m.cl.length).2 e hv
 |none=>
  cases h:ofV m (Zqq m (2*m.cl.length+1)).1 (Zqq m (2*m.cl.length+1)).2 t with
  | none=>rfl
  | some x=>have:=Zqr (Zqt d _) e h;rw [hv] at this;cases this
end
section
theorem ZqH (m:Md) (c:Nat):Asc ((ZmY m c).map fun d:Nat=>(d:Int)):=by unfold Asc ZmY;rw [List.pairwise_map];refine List.Pairwise.filter _ ?_;refine List.Pairwise.imp ?_ (List.pairwise_lt_range (n:=m.cl.length));intro a b h;omega
theorem ZqI {m:Md}{c:Nat}{l:List Int} (h:∀ x:Int,x∈l↔∃ d∈ZmY m c,x=(d:Int)):ZaN l=(ZmY m c).map fun d:Nat=>(d:Int):=by refine (ZdA (ZqH m c) fun x=>?_).symm;rw [h x,List.mem_map];exact ⟨fun ⟨d,hd,e⟩=>⟨d,hd,e.symm⟩,fun ⟨d,hd,e⟩=>⟨d,hd,e.symm⟩⟩
theorem ZqJ {m:Md}{c d:Nat}:d∈ZmY m c↔d<m.cl.length∧ZaI m (d+1) d c=true∧ZmX m d=true:=by unfold ZmY;rw [List.mem_filter,List.mem_range,Bool.and_eq_true]
theorem ZqK (l:List Int) (n a:Int):ZmT (l++[n]) a=Zmt (ZmT l a) n:=by simp [ZmT]
theorem ZqL (l:List Int) (n:Int) (a:T3):ZmV (l++[n]) a=mxT (ZmV l a) (ZmE n true):=by simp [ZmV]
theorem ZqM {F:Ty→Option T3}:∀ (l:List Ty) (t:Ty) (a:T3),Zm0 F a (l++[t])=match Zm0 F a l with|none=>none|some s=>match F t with|none=>none|some x=>some (plT s x)
 |[],t,a=>by
  show Zm0 F a [t]=_;unfold Zm0;cases F t with
  | none=>rfl
  | some x=>rfl
 |u :: r,t,a=>by
  show Zm0 F a (u :: (r++[t]))=_;unfold Zm0;cases F u with
  | none=>rfl
  | some x=>exact ZqM r t _
theorem ZqN {m:Md}{F:Ty→Option T3}:∀ (l:List Nat) (d:Nat) (a:T3),Zqj m F a (l++[d])=match Zqj m F a l with|none=>none|some b=>match Zm0 F (szC m d) (fsC m d) with|none=>none|some s=>some (mxT b s)
 |[],d,a=>by
  show Zqj m F a [d]=_;unfold Zqj;cases Zm0 F (szC m d) (fsC m d) with
  | none=>rfl
  | some x=>rfl
 |u :: r,d,a=>by
  show Zqj m F a (u :: (r++[d]))=_;unfold Zqj;cases Zm0 F (szC m u) (fsC m u) with
  | none=>rfl
  | some x=>exact ZqN r d _
end
section
theorem ZqO (t:Ty) (a b:List In3):ZmR t (a++b)=ZmR t a++ZmR t b:=by simp [ZmR]
theorem ZqP (t:Ty) (i:In3):ZmR t [i]=if ZmQ t i=true then [i.a] else []:=by
 unfold ZmR;cases h:ZmQ t i<;>simp [h]
def ZqQ (m:Md) (t:Ty) (i j:Nat):List Int:=((m.me.take i).flatMap fun x=>ZmR t x.k)++ZmR t ((cdM m i).take j)
theorem ZqR (m:Md) (t:Ty):ZqQ m t 0 0=[]:=by simp [ZqQ,ZmR]
theorem ZqS {m:Md}{t:Ty}{i j:Nat} (d:j<(cdM m i).length):ZqQ m t i (j+1)=ZqQ m t i j++if ZmQ t ((cdM m i).getD j default)=true then [((cdM m i).getD j default).a] else []:=by unfold ZqQ;rw [Zam _ _ d,ZqO,ZqP,List.append_assoc]
theorem ZqT {m:Md}{t:Ty}{i:Nat} (d:i<m.me.length):ZqQ m t (i+1) 0=ZqQ m t i (cdM m i).length:=by unfold ZqQ;rw [Zam _ _ d,List.flatMap_append,List.take_length];simp [ZmR,cdM]
theorem ZqU (m:Md) (t:Ty):ZqQ m t m.me.length 0=ZmS m t:=by unfold ZqQ ZmS;rw [List.take_length];simp [ZmR]
def ZqV (c:Nat) (i:In3):Bool:=decide (i.op=14∧i.a=c)
def ZqW (m:Md) (c i j:Nat):Bool:=((m.me.take i).any fun x=>x.k.any (ZqV c))||((cdM m i).take j).any (ZqV c)
theorem ZqX (m:Md) (c:Nat):ZqW m c 0 0=false:=by simp [ZqW]
theorem ZqY {m:Md}{c i j:Nat} (d:j<(cdM m i).length):ZqW m c i (j+1)=(ZqW m c i j||ZqV c ((cdM m i).getD j default)):=by unfold ZqW;rw [Zam _ _ d,List.any_append];simp only [List.any_cons,List.any_nil,Bool.or_false,Bool.or_assoc]
theorem ZqZ {m:Md}{c i:Nat} (d:i<m.me.length):ZqW m c (i+1) 0=ZqW m c i (cdM m i).length:=by unfold ZqW;rw [Zam _ _ d,List.any_append,List.take_length];simp [cdM]
theorem Zq0 (m:Md) (c:Nat):ZqW m c m.me.length 0=ZmX m c:=by unfold ZqW ZmX;rw [List.take_length];simp only [List.take_zero,List.any_nil,Bool.or_false];rfl
end
