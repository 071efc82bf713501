import Derived.Test.YtfmcclhfnpcokaaGreatU24
set_option linter.all false
set_option maxHeartbeats 2000000
namespace Go.Proofs.YtfmcclhfnpcokaaGreat
theorem j2{p:Prop}(h:p:=by
 clear h;go_enter Tryz.func75,Tryz.ntmps75
 go_wp2_with (go_at_call 135;refine (Zpd _ _ a b c _ (by simp [go_sem]) (by simp [go_sem]) (by simp [go_sem])).mono ?_;rintro e w' ⟨rfl,rfl⟩)
 exact Zpq (F:=w.heap.size+1) Tryz.results75 rfl rfl rfl (by simp [go_sem]) (by simp [go_sem]) (by simp [go_sem]) (((Below.refl _ _).alloc (Nat.le_refl _) _).alloc (by simp) _)):p:=h
theorem j3{p:Prop}(h:p:=by
 go_enter Tryz.func203,Tryz.ntmps203;go_wp2
 go_quiet (fail)
 go_wp2;go_ret;exact ⟨Zaa HV.out.symm,_,rfl⟩):p:=h
theorem j8{p:Prop}(h:p:=by
 go_wp2
 all_goals
  go_round
  case rel=>exact .inr (.inl ⟨rfl,by first|rfl|(congr 1;omega)⟩)
  case measure=>simp [intOf]):p:=h
theorem j10{p:Prop}(h:p:=by
 go_ret;exact ⟨Zab (by rw [HT.out];rfl),(Below.refl _ _).alloc (Nat.le_refl _) _⟩):p:=h
section
open Go.RowKit
def tB (a b c:Int):Bool:=decide (0≤a∧a≤1000000000∧0≤b∧b≤1000000000∧0≤c∧c≤1000000000)
theorem Zo8 {a b c:Int}:tB a b c=true↔0≤a∧a≤1000000000∧0≤b∧b≤1000000000∧0≤c∧c≤1000000000:=by simp [tB]
theorem Zo9 {a b c:Int}:tB a b c=false↔¬ (0≤a∧a≤1000000000∧0≤b∧b≤1000000000∧0≤c∧c≤1000000000):=by simp [tB]
def Zpa (a b c:Int):Int:=min (min a b) c
def Zpb (a b c:Int):Int:=max (max a b) c
section
variable (g o:Nat)(a b c:Int)(w:World)(h0:w.cell? ⟨g,o,none⟩=some (.int .i64 a))(h1:w.cell? ⟨g,o+1,none⟩=some (.int .i64 b))(h2:w.cell? ⟨g,o+2,none⟩=some (.int .i64 c))
include g o a b c w h0 h1 h2
theorem Zpc:
  Calls Tryz.prog 147 #[.slice (some ⟨g,o,none⟩) 3 3] w fun e w'=>e=.returned (.int .i64 (Zpa a b c))∧w=w':=by
 go_enter Tryz.func147,Tryz.ntmps147;go_wp2
 go_loop [3,4] (fun m i=>(i=.int .i64 1∧m=.int .i64 a)∨(i=.int .i64 2∧m=.int .i64 (min a b))∨(i=.int .i64 3∧m=.int .i64 (Zpa a b c))) (fun _ i=>3-(intOf i).toNat)
 case atStart=>exact .inl ⟨rfl,rfl⟩
 case round=>
  rcases hrel with ⟨rfl,rfl⟩|⟨rfl,rfl⟩|⟨rfl,rfl⟩
  ·exact j8
  ·go_wp2
   all_goals
    go_round
    case rel=>exact .inr (.inr ⟨rfl,by unfold Zpa;first|rfl|(congr 1;omega)⟩)
    case measure=>simp [intOf]
  ·go_wp2;go_ret;exact ⟨rfl,rfl⟩
theorem Zpd:
  Calls Tryz.prog 135 #[.slice (some ⟨g,o,none⟩) 3 3] w fun e w'=>e=.returned (.int .i64 (Zpb a b c))∧w=w':=by
 go_enter Tryz.func135,Tryz.ntmps135;go_wp2
 go_loop [3,4] (fun m i=>(i=.int .i64 1∧m=.int .i64 a)∨(i=.int .i64 2∧m=.int .i64 (max a b))∨(i=.int .i64 3∧m=.int .i64 (Zpb a b c))) (fun _ i=>3-(intOf i).toNat)
 case atStart=>exact .inl ⟨rfl,rfl⟩
 case round=>
  rcases hrel with ⟨rfl,rfl⟩|⟨rfl,rfl⟩|⟨rfl,rfl⟩
  ·exact j8
  ·go_wp2
   all_goals
    go_round
    case rel=>exact .inr (.inr ⟨rfl,by unfold Zpb;first|rfl|(congr 1;omega)⟩)
    case measure=>simp [intOf]
  ·go_wp2;go_ret;exact ⟨rfl,rfl⟩
end
theorem Zpe (a b c:Int) (w:World) :
  Calls Tryz.prog 146 #[.agg #[.int .i64 a,.int .i64 b,.int .i64 c]] w fun e w'=>e=.returned (.bool (!tB a b c))∧Below w.heap.size w w':=by
 by_cases hm:Zpa a b c<0
 ·have d:tB a b c=false:=by rw [Zo9];unfold Zpa at hm;omega
  have HT:=Zh d;clear d;go_enter Tryz.func146,Tryz.ntmps146
  go_wp2_with (go_at_call 147;refine (Zpc _ _ a b c _ (by simp [go_sem]) (by simp [go_sem]) (by simp [go_sem])).mono ?_;rintro e w' ⟨rfl,rfl⟩)
  exact j10
 ·by_cases hx:1000000000<Zpb a b c
  ·have d:tB a b c=false:=by rw [Zo9];unfold Zpb at hx;omega
   have HT:=Zh d;clear d;go_enter Tryz.func146,Tryz.ntmps146
   go_wp2_with (first|(go_at_call 147;refine (Zpc _ _ a b c _ (by simp [go_sem]) (by simp [go_sem]) (by simp [go_sem])).mono ?_;rintro e w' ⟨rfl,rfl⟩)|(go_at_call 135;refine (Zpd _ _ a b c _ (by simp [go_sem]) (by simp [go_sem]) (by simp [go_sem])).mono ?_;rintro e w' ⟨rfl,rfl⟩))
   exact j10
  ·have d:tB a b c=true:=by rw [Zo8];unfold Zpb at hx;unfold Zpa at hm;omega
   have HT:=Zh d;clear d;go_enter Tryz.func146,Tryz.ntmps146
   go_wp2_with (first|(go_at_call 147;refine (Zpc _ _ a b c _ (by simp [go_sem]) (by simp [go_sem]) (by simp [go_sem])).mono ?_;rintro e w' ⟨rfl,rfl⟩)|(go_at_call 135;refine (Zpd _ _ a b c _ (by simp [go_sem]) (by simp [go_sem]) (by simp [go_sem])).mono ?_;rintro e w' ⟨rfl,rfl⟩))
   go_ret;exact ⟨Zab (by rw [HT.out];simp;omega),(Below.refl _ _).alloc (Nat.le_refl _) _⟩
def Zpf (w:World) (g o:Nat) (x:Int × Int × Int):Prop:=w.cell? ⟨g,o,none⟩=some (.int .i64 x.1)∧w.cell? ⟨g,o+1,none⟩=some (.int .i64 x.2.1)∧w.cell? ⟨g,o+2,none⟩=some (.int .i64 x.2.2)
theorem Zpf.below {w w':World}{g o:Nat}{x:Int × Int × Int} (h:Zpf w g o x) (hb:Below w.heap.size w w'):Zpf w' g o x:=by
 have d:=Zad h.1;refine ⟨?_,?_,?_⟩
 ·rw [hb.cell (p:=⟨g,o,none⟩) d];exact h.1
 ·rw [hb.cell (p:=⟨g,o+1,none⟩) d];exact h.2.1
 ·rw [hb.cell (p:=⟨g,o+2,none⟩) d];exact h.2.2
def tBx (x:Int × Int × Int):Bool:=tB x.1 x.2.1 x.2.2
def Zpg (xs:List (Int × Int × Int)) (w:World) (e:Ending) (w':World):Prop:=
 ∃ r:Int,e=.returned (.int .i64 r)∧Below w.heap.size w w'∧(xs.all tBx=true→r=-1)∧(xs.all tBx=false→0≤r)
section
variable (g o:Nat)(xs:List (Int × Int × Int))(w:World)(hl:xs.length≤10)(h:∀ i,i<xs.length→Zpf w g (o+i*3) (xs.getD i (0,0,0)))
include g o xs w hl h
theorem Zph:
  Calls Tryz.prog 207 #[.slice (some ⟨g,o,none⟩) xs.length xs.length,.func (.func 146) #[] #[]] w (Zpg xs w):=by
 have H:=Zh h;clear h;go_enter Tryz.func207,Tryz.ntmps207;go_wp2
 go_loopw [8] (fun i wr=>∃ k:Nat,k≤xs.length∧i=.int .i64 k∧Below w.heap.size w wr∧∀ j,j<k→tBx (xs.getD j (0,0,0))=true) (fun i _=>xs.length-(intOf i).toNat)
 case atStart=>exact ⟨0,by omega,rfl,Below.refl _ _,fun j l=>by omega⟩
 case round=>
  obtain ⟨k,A,rfl,r,l⟩:=hrel;have q:=Zh l;have m:=Zh r;clear l r;by_cases hlt:k<xs.length
  ·have y:=(H.out k hlt).below m.out;have s:xs[k]?=some (xs.getD k (0,0,0)):=by simp [hlt]
   have p:=Zh s;clear s
   revert y p
   generalize n:xs.getD k (0,0,0)=x;have v:=Zh n;clear n;obtain ⟨a,b,c⟩:=x;rintro ⟨h0,h1,h2⟩ p;simp only [] at h0 h1 h2;cases hp:tB a b c
   ·go_wp2_with (go_at_call 146;refine (Zpe a b c _).mono ?_;rintro e z ⟨rfl,f⟩)
    go_ret;refine ⟨k,rfl,Zag m.out f,fun d=>?_,fun _=>by omega⟩;have:=List.all_eq_true.1 d (a,b,c) (List.mem_of_getElem? p.out);simp [tBx,hp] at this
   ·go_wp2_with (go_at_call 146;refine (Zpe a b c _).mono ?_;rintro e z ⟨rfl,f⟩)
    go_roundw
    case rel=>
     refine ⟨k+1,by omega,by go_num,Zag m.out f,fun j l=>?_⟩;by_cases hjk:j<k
     ·exact q.out j hjk
     ·obtain rfl:j=k:=by omega
      rw [v.out];exact hp
    case measure=>simp [intOf];omega
  ·have t:k=xs.length:=by omega
   have u:=Zh t;clear t;go_wp2;go_ret;refine ⟨-1,rfl,m.out,fun _=>rfl,fun d=>?_⟩
   exfalso
   have:xs.all tBx=true:=by rw [List.all_eq_true];intro x n;obtain ⟨j,l,rfl⟩:=List.getElem_of_mem n;have:=q.out j (by have:=u.out;omega);rwa [List.getD_eq_getElem?_getD,List.getElem?_eq_getElem l] at this
   rw [this] at d;cases d
theorem Zpi:
  Calls Tryz.prog 145 #[.slice (some ⟨g,o,none⟩) xs.length xs.length,.func (.func 146) #[] #[]] w fun e w'=>e=.returned (.bool (!xs.all tBx))∧Below w.heap.size w w':=by
 have H:=Zh h;clear h;go_enter Tryz.func145,Tryz.ntmps145
 go_wp2_with (go_at_call 207;refine (Zph g o xs _ hl H.out).mono ?_;rintro e k ⟨r,rfl,d,f,j⟩)
 go_ret;refine ⟨Zab ?_,d⟩;cases ha:xs.all tBx
 ·have:=j ha;simpa using this
 ·have:=f ha;subst this;simp
theorem Zpj:
  Calls Tryz.prog 84 #[.slice (some ⟨g,o,none⟩) xs.length xs.length] w fun e w'=>e=.returned (.bool (xs.all tBx))∧Below w.heap.size w w':=by
 have H:=Zh h;clear h;go_enter Tryz.func84,Tryz.ntmps84
 go_wp2_with (go_at_call 145;refine (Zpi g o xs _ hl H.out).mono ?_;rintro e f ⟨rfl,d⟩)
 go_ret;exact ⟨Zab (by simp),d⟩
end
theorem Zpk (g:Nat) (a b c:Int) (w:World) (h:Blk w g (cl3 a b c) 45) :
  Calls Tryz.prog 84 #[.slice (some ⟨g,0,none⟩) 1 1] w fun e w'=>e=.returned (.bool (tB a b c))∧Below w.heap.size w w':=by
 refine (Zpj g 0 [(a,b,c)] w (by simp) ?_).mono fun e w' ⟨h1,h2⟩=>⟨h1.trans (Zab (by simp [tBx])),h2⟩;intro i d
 match i,d with
 | 0,_=>exact ⟨h.cell 0 (Zmp _ _ _),h.cell 1 (Zmq _ _ _),h.cell 2 (Zmr _ _ _)⟩
theorem Zpl (g:Nat) (a b c d f j:Int) (w:World) (t:TypeId) (h:Blk w g #[.int .i64 a,.int .i64 b,.int .i64 c,.int .i64 d,.int .i64 f,.int .i64 j] t) :
  Calls Tryz.prog 84 #[.slice (some ⟨g,0,none⟩) 2 2] w fun e w'=>e=.returned (.bool (tB a b c&&tB d f j))∧Below w.heap.size w w':=by
 refine (Zpj g 0 [(a,b,c),(d,f,j)] w (by simp) ?_).mono fun e w' ⟨h1,h2⟩=>⟨h1.trans (Zab (by simp [tBx])),h2⟩;intro i k
 match i,k with
 | 0,_=>exact ⟨h.cell 0 rfl,h.cell 1 rfl,h.cell 2 rfl⟩
 | 1,_=>exact ⟨h.cell 3 rfl,h.cell 4 rfl,h.cell 5 rfl⟩
theorem Blk.c3 {w:World}{B:Nat}{a b c:Int}{t:TypeId} (h:Blk w B (cl3 a b c) t):w.cell? ⟨B,0,none⟩=some (.int .i64 a)∧w.cell? ⟨B,1,none⟩=some (.int .i64 b)∧w.cell? ⟨B,2,none⟩=some (.int .i64 c):=
 ⟨h.cell 0 (Zmp _ _ _),h.cell 1 (Zmq _ _ _),h.cell 2 (Zmr _ _ _)⟩
theorem Blk.f3 {w:World}{B:Nat}{a b c:Int}{t:TypeId} (h:Blk w B (cl3 a b c) t):w.frozen? ⟨B,0,none⟩=false∧w.frozen? ⟨B,1,none⟩=false∧w.frozen? ⟨B,2,none⟩=false:=
 ⟨h.frozen 0,h.frozen 1,h.frozen 2⟩
def Zpm (a b c:Int):Bool:=decide (1000000000<a∨1000000000<b∨1000000000<c)
theorem Zpn {a b c:Int} (h:Zpm a b c=true):1000000000<a∨1000000000<b∨1000000000<c:=by simpa [Zpm] using h
theorem Zpo {a b c:Int} (h:Zpm a b c=false):a≤1000000000∧b≤1000000000∧c≤1000000000:=by
 have:¬ (1000000000<a∨1000000000<b∨1000000000<c):=by simpa [Zpm] using h
 omega
def Zpp (x y z e:Int) (w:World) (en:Ending) (w':World):Prop:=
 en=.returned (.tuple #[.agg #[.int .i64 x,.int .i64 y,.int .i64 z],.int .i64 e])∧Below w.heap.size w w'
theorem Zpq {F:Nat}{f:Func}{r:Nat}{w w':World}{a:Act}{s:Nat}{x y z e:Int} (d:f.results=#[.cell r 45,.tmp s]) (l:a.tmps[r]?.getD undef=.pointer (some ⟨F,0,none⟩)) (m:a.tmps[s]?.getD undef=.int .i64 e) (k:a.defers=[])
  (h0:w'.cell? ⟨F,0,none⟩=some (.int .i64 x)) (h1:w'.cell? ⟨F,1,none⟩=some (.int .i64 y)) (h2:w'.cell? ⟨F,2,none⟩=some (.int .i64 z)) (j:Below w.heap.size w w') :
  bodyPost Tryz.prog f (Zpp x y z e w) .ret a w':=
 bodyPost_ret (v:=.tuple #[.agg #[.int .i64 x,.int .i64 y,.int .i64 z],.int .i64 e]) (by simp [results,d,go_sem,l,m,h0,h1,h2]) k ⟨rfl,j⟩
theorem Zpr (a b c:Int) (w:World) (h:Zpm a b c=false) :
  Calls Tryz.prog 75 #[.agg #[.int .i64 a,.int .i64 b,.int .i64 c],.bool true] w (Zpp a b c 0 w):=by
 have d:Zpb a b c≤1000000000:=by have:=Zpo h;unfold Zpb;omega
 exact j2
theorem Zps (a b c:Int) (w:World) (h:Zpm a b c=true) :
  Calls Tryz.prog 75 #[.agg #[.int .i64 a,.int .i64 b,.int .i64 c],.bool true] w (Zpp 0 0 0 6 w):=by
 have d:1000000000<Zpb a b c:=by have:=Zpn h;unfold Zpb;omega
 exact j2
def pgV (a b c:Int):Int:=(a+7) / 8+(b+3) / 4+(c+1) / 2
theorem Zpt (a b c:Int) (w:World) (h:tB a b c=true) :
  Calls Tryz.prog 72 #[.agg #[.int .i64 a,.int .i64 b,.int .i64 c]] w fun e w'=>e=.returned (.tuple #[.int .i64 (pgV a b c),.int .i64 0])∧Below w.heap.size w w':=by
 obtain ⟨j,k,l,m,n,p⟩:=Zo8.1 h;go_enter Tryz.func72,Tryz.ntmps72
 go_wp2_with (go_at_call 84;refine (Zpk _ a b c _ (Blk.new' _ _ (by simp))).mono ?_;rintro e t ⟨rfl,d⟩;have f:=(((Blk.new w (cl3 a b c) 45).alloc _).old d).c3;obtain ⟨q,r,s⟩:=f)
 go_ret2;exact ⟨Zac (by unfold pgV;omega) rfl,Zag (((Below.refl _ _).alloc (Nat.le_refl _) _).alloc (by simp) _) d⟩
def Zpu (n x:Int):Int:=if 0<x∧1000000001 / x<n then 1000000001 else x*n
theorem Zpv {n x:Int} (h:0≤x):Zms (Zpu n x)=Zms (x*n):=by
 unfold Zpu;split
 ·rename_i h1;obtain ⟨h1,h2⟩:=h1;have d:=Int.lt_ediv_add_one_mul_self 1000000001 h1;have e:(1000000001 / x+1)*x≤n*x:=Int.mul_le_mul_of_nonneg_right (by omega) h;have f:1000000001<x*n:=by rw [Int.mul_comm];omega
  unfold Zms;rw [if_pos (by omega),if_neg (by omega)]
 ·rfl
theorem Zpw {n x:Int} (h:0≤x) (f:x≤1000000001) (e:0≤n) (d:n≤1000):0≤x*n∧x*n≤1000000001000:=by have h1:=Int.mul_nonneg h e;have h2:x*n≤1000000001*1000:=Int.mul_le_mul f d e (by decide);omega
theorem Zpx (x y n:Int) (g:Nat) (w:World) (q:0≤x) (f:x≤1000000001) (m:0≤n) (d:n≤1000) (t:w.cell? ⟨g,0,none⟩=some (.int .i64 n)) :
  Calls Tryz.prog 203 #[.int .i64 x,.int .i64 y,ZQ.p g] w fun e w'=>e=.returned (.int .i64 (Zpu n x))∧∃ k,w'=w.drewN k:=by
 have l:=Zpw q f m d;have u:IntKind.i64.wrap (x*n)=x*n:=IntWalk.i64_in _ (by omega);clear l;by_cases h0:0<x
 ·have j:=IntWalk.tdiv_le 1000000001 x (by decide) (by omega);obtain ⟨r,s⟩:=j;by_cases h1:1000000001 / x<n
  ·have HV:Hid (Zpu n x=1000000001):=by show _=_;unfold Zpu;rw [if_pos ⟨h0,h1⟩]
   exact j3
  ·have HV:Hid (Zpu n x=x*n):=by show _=_;unfold Zpu;rw [if_neg (by omega)]
   exact j3
 ·have HV:Hid (Zpu n x=x*n):=by show _=_;unfold Zpu;rw [if_neg (by omega)]
  have j:decide (0<x)=false:=by simpa using h0
  exact j3
theorem Zpy (A:Array Value) (W:World):(callFunc 86 A).run Tryz.prog W=.ok (.enter 86 A) W:=by kernel_rfl
theorem Zpz (A:Array Value) (W:World):(callFunc 150 A).run Tryz.prog W=.ok (.enter 150 A) W:=by kernel_rfl
theorem ZpA (A:Array Value) (W:World):(callFunc 203 A).run Tryz.prog W=.ok (.enter 203 A) W:=by kernel_rfl
theorem ZpB (w:World) (x y:Int) (f:0≤x) (d:x≤1000000001) (hy:0≤y) (e:y≤1000000001):ZmB 86 #[] w (·+·) x y:=by intro W _;show Calls Tryz.prog 86 #[.int .i64 x,.int .i64 y] W _;go_enter Tryz.func86,Tryz.ntmps86;go_wp2;go_ret;exact ⟨rfl,0,rfl⟩
theorem ZpC (w:World) (x y:Int):ZmB 150 #[] w Zmt x y:=by
 intro W _;show Calls Tryz.prog 150 #[.int .i64 x,.int .i64 y] W _;go_enter Tryz.func150,Tryz.ntmps150;go_wp2
 all_goals
  go_ret;exact ⟨Zaa (by unfold Zmt;split<;>omega),0,rfl⟩
def ZpD (a0 a1 a2 b0 b1 b2:Int):(Int × Int × Int) × Int:=
 if (tB a0 a1 a2&&tB b0 b1 b2)=false then ((0,0,0),1)
 else if Zpm (Zms (a0+b0)) (Zms (a1+b1)) (Zms (a2+b2)) then ((0,0,0),6)
 else ((Zms (a0+b0),Zms (a1+b1),Zms (a2+b2)),0)
def ZpE (r:(Int × Int × Int) × Int) (w:World):Ending→World→Prop:=Zpp r.1.1 r.1.2.1 r.1.2.2 r.2 w
theorem Zpp.to {x y z e:Int}{r:(Int × Int × Int) × Int}{w:World}{en:Ending}{w':World} (h:Zpp x y z e w en w') (hr:r=((x,y,z),e)):ZpE r w en w':=by subst hr;exact h
theorem ZpF (f j k l m n:Int) (w:World) :
  Calls Tryz.prog 29 #[.agg #[.int .i64 f,.int .i64 j,.int .i64 k],.agg #[.int .i64 l,.int .i64 m,.int .i64 n]] w (ZpE (ZpD f j k l m n) w):=by
 have S:=Zh (show Blk ((((w.alloc (.cells (cl3 f j k) 45)).alloc (.cells (cl3 l m n) 45)).alloc (.cells (cl3 0 0 0) 45)).alloc (.cells #[.int .i64 f,.int .i64 j,.int .i64 k,.int .i64 l,.int .i64 m,.int .i64 n] 45)) w.heap.size (cl3 f j k) 45 from ((Blk.new' _ _ rfl).alloc _).alloc _ |>.alloc _);have P:=Zh (show Blk ((((w.alloc (.cells (cl3 f j k) 45)).alloc (.cells (cl3 l m n) 45)).alloc (.cells (cl3 0 0 0) 45)).alloc (.cells #[.int .i64 f,.int .i64 j,.int .i64 k,.int .i64 l,.int .i64 m,.int .i64 n] 45)) (w.heap.size+1) (cl3 l m n) 45 from (Blk.new' _ _ (by simp)).alloc _ |>.alloc _);have O:=Zh (show Blk ((((w.alloc (.cells (cl3 f j k) 45)).alloc (.cells (cl3 l m n) 45)).alloc (.cells (cl3 0 0 0) 45)).alloc (.cells #[.int .i64 f,.int .i64 j,.int .i64 k,.int .i64 l,.int .i64 m,.int .i64 n] 45)) (w.heap.size+1+1) (cl3 0 0 0) 45 from (Blk.new' _ _ (by simp)).alloc _);have T:=Zh (show Below w.heap.size w ((((w.alloc (.cells (cl3 f j k) 45)).alloc (.cells (cl3 l m n) 45)).alloc (.cells (cl3 0 0 0) 45)).alloc (.cells #[.int .i64 f,.int .i64 j,.int .i64 k,.int .i64 l,.int .i64 m,.int .i64 n] 45)) from ((((Below.refl _ _).alloc (Nat.le_refl _) _).alloc (by simp) _).alloc (by simp;omega) _).alloc (by simp;omega) _);by_cases hv:(tB f j k&&tB l m n)=false
 ·refine Calls.mono (R:=Zpp 0 0 0 1 w) ?_ (fun e W h=>h.to (by unfold ZpD;rw [if_pos hv]));go_enter Tryz.func29,Tryz.ntmps29
  go_wp2_with fail
  refine (Zpl (w.heap.size+1+1+1) f j k l m n _ 45 (Blk.new' _ _ (by simp))).mono ?_;rintro e X ⟨rfl,d⟩;have C:=(S.out.old d).c3;obtain ⟨I,J,K⟩:=C;have D:=(P.out.old d).c3;obtain ⟨L,M,N⟩:=D;have E:=(O.out.old d).c3;obtain ⟨q,r,s⟩:=E;have G:=(O.out.old d).f3;obtain ⟨t,u,v⟩:=G;clear I J K L M N
  go_wp2_with fail
  have H:=Zmx (x:=0) (y:=0) (z:=0) (O.out.old d);exact Zpq (F:=w.heap.size+1+1) Tryz.results29 rfl rfl rfl H.c3.1 H.c3.2.1 H.c3.2.2 (Zmz (Zag T.out d) _ _ _ (by omega))
 have Q:(tB f j k&&tB l m n)=true:=by simpa using hv
 obtain ⟨U,V⟩:tB f j k=true∧tB l m n=true:=by simpa using Q
 obtain ⟨Y,Z,aa,ab,ac,ad⟩:=Zo8.1 U;obtain ⟨ae,af,ag,ah,ai,aj⟩:=Zo8.1 V;cases hbig:Zpm (Zms (f+l)) (Zms (j+m)) (Zms (k+n))
 ·refine Calls.mono (R:=Zpp (Zms (f+l)) (Zms (j+m)) (Zms (k+n)) 0 w) ?_ (fun e W h=>h.to (by unfold ZpD;rw [if_neg (by rw [Q];decide),hbig];rfl));go_enter Tryz.func29,Tryz.ntmps29
  go_wp2_with fail
  refine (Zpl (w.heap.size+1+1+1) f j k l m n _ 45 (Blk.new' _ _ (by simp))).mono ?_;rintro e X ⟨rfl,d⟩;have C:=(S.out.old d).c3;obtain ⟨I,J,K⟩:=C;have D:=(P.out.old d).c3;obtain ⟨L,M,N⟩:=D;have E:=(O.out.old d).c3;obtain ⟨q,r,s⟩:=E;have G:=(O.out.old d).f3;obtain ⟨t,u,v⟩:=G
  go_wp2_with fail
  clear I J K L M N q r s t u v;refine (ZmC 86 #[] (·+·) f j k l m n _ Zpy (ZpB _ _ _ (by omega) (by omega) (by omega) (by omega)) (ZpB _ _ _ (by omega) (by omega) (by omega) (by omega)) (ZpB _ _ _ (by omega) (by omega) (by omega) (by omega))).mono ?_;rintro e w2 ⟨rfl,A⟩
  go_wp2_with fail
  refine (Zpr _ _ _ _ hbig).mono ?_;rintro e w3 ⟨rfl,B⟩;have p:=(((O.out.old d).old A).old B);obtain ⟨q,r,s⟩:=p.c3;obtain ⟨t,u,v⟩:=p.f3
  go_wp2_with fail
  have H:=Zmx (x:=Zms (f+l)) (y:=Zms (j+m)) (z:=Zms (k+n)) p;exact Zpq (F:=w.heap.size+1+1) Tryz.results29 rfl rfl rfl H.c3.1 H.c3.2.1 H.c3.2.2 (Zmz (Zag (Zag (Zag T.out d) A) B) _ _ _ (by omega))
 ·refine Calls.mono (R:=Zpp (0) (0) (0) 6 w) ?_ (fun e W h=>h.to (by unfold ZpD;rw [if_neg (by rw [Q];decide),hbig];rfl));go_enter Tryz.func29,Tryz.ntmps29
  go_wp2_with fail
  refine (Zpl (w.heap.size+1+1+1) f j k l m n _ 45 (Blk.new' _ _ (by simp))).mono ?_;rintro e X ⟨rfl,d⟩;have C:=(S.out.old d).c3;obtain ⟨I,J,K⟩:=C;have D:=(P.out.old d).c3;obtain ⟨L,M,N⟩:=D;have E:=(O.out.old d).c3;obtain ⟨q,r,s⟩:=E;have G:=(O.out.old d).f3;obtain ⟨t,u,v⟩:=G
  go_wp2_with fail
  clear I J K L M N q r s t u v;refine (ZmC 86 #[] (·+·) f j k l m n _ Zpy (ZpB _ _ _ (by omega) (by omega) (by omega) (by omega)) (ZpB _ _ _ (by omega) (by omega) (by omega) (by omega)) (ZpB _ _ _ (by omega) (by omega) (by omega) (by omega))).mono ?_;rintro e w2 ⟨rfl,A⟩
  go_wp2_with fail
  refine (Zps _ _ _ _ hbig).mono ?_;rintro e w3 ⟨rfl,B⟩;have p:=(((O.out.old d).old A).old B);obtain ⟨q,r,s⟩:=p.c3;obtain ⟨t,u,v⟩:=p.f3
  go_wp2_with fail
  have H:=Zmx (x:=0) (y:=0) (z:=0) p;exact Zpq (F:=w.heap.size+1+1) Tryz.results29 rfl rfl rfl H.c3.1 H.c3.2.1 H.c3.2.2 (Zmz (Zag (Zag (Zag T.out d) A) B) _ _ _ (by omega))
theorem ZpG {F:Nat}{f:Func}{r:Nat}{w w':World}{a:Act}{x y z:Int} (d:f.results=#[.cell r 45]) (l:a.tmps[r]?.getD undef=.pointer (some ⟨F,0,none⟩)) (k:a.defers=[])
  (h0:w'.cell? ⟨F,0,none⟩=some (.int .i64 x)) (h1:w'.cell? ⟨F,1,none⟩=some (.int .i64 y)) (h2:w'.cell? ⟨F,2,none⟩=some (.int .i64 z)) (j:Below w.heap.size w w') :
  bodyPost Tryz.prog f (fun e w'=>e=.returned (.agg #[.int .i64 x,.int .i64 y,.int .i64 z])∧Below w.heap.size w w') .ret a w':=
 bodyPost_ret (v:=.agg #[.int .i64 x,.int .i64 y,.int .i64 z]) (by simp [results,d,go_sem,l,h0,h1,h2]) k ⟨rfl,j⟩
theorem ZpH (w:World) (g:Nat) (n x y:Int) (l:0≤x) (e:x≤1000000001) (k:0≤n) (d:n≤1000) (f:w.cell? ⟨g,0,none⟩=some (.int .i64 n)):ZmB 203 #[ZQ.p g] w (fun x _=>Zpu n x) x y:=by intro W j;exact Zpx x y n g W l e k d (by rw [j.cell (p:=⟨g,0,none⟩) (Zad f)];exact f)
theorem ZpI (a b c n:Int) (w:World) (B:0≤a∧a≤1000000001∧0≤b∧b≤1000000001∧0≤c∧c≤1000000001) (C:0≤n∧n≤1000) :
  Calls Tryz.prog 137 #[.agg #[.int .i64 a,.int .i64 b,.int .i64 c],.int .i64 n] w fun e w'=>e=.returned (.agg #[.int .i64 (Zms (a*n)),.int .i64 (Zms (b*n)),.int .i64 (Zms (c*n))])∧Below w.heap.size w w':=by
 obtain ⟨p,u,q,v,r,A⟩:=B;obtain ⟨l,m⟩:=C;have j:=Zh (show Blk (((w.alloc (.cells (cl3 a b c) 45)).alloc (.cells #[.int .i64 n] 3)).alloc (.cells (cl3 0 0 0) 45)) (w.heap.size+1+1) (cl3 0 0 0) 45 from Blk.new' _ _ (by simp));have t:=Zh (show Blk (((w.alloc (.cells (cl3 a b c) 45)).alloc (.cells #[.int .i64 n] 3)).alloc (.cells (cl3 0 0 0) 45)) (w.heap.size+1) #[.int .i64 n] 3 from (Blk.new' _ _ (by simp)).alloc _);have s:=Zh (show Below w.heap.size w (((w.alloc (.cells (cl3 a b c) 45)).alloc (.cells #[.int .i64 n] 3)).alloc (.cells (cl3 0 0 0) 45)) from (((Below.refl _ _).alloc (Nat.le_refl _) _).alloc (by simp) _).alloc (by simp;omega) _);go_enter Tryz.func137,Tryz.ntmps137
 go_wp2_with fail
 have f:=t.out.cell 0 rfl;refine (ZmC 203 #[.pointer (some ⟨w.heap.size+1,0,none⟩)] (fun x _=>Zpu n x) a b c 0 0 0 _ ZpA (ZpH _ _ _ _ _ p u l m f) (ZpH _ _ _ _ _ q v l m f) (ZpH _ _ _ _ _ r A l m f)).mono ?_;clear f;rintro e K ⟨rfl,d⟩;rw [Zpv p,Zpv q,Zpv r];obtain ⟨H,I,J⟩:=(j.out.old d).f3;obtain ⟨D,E,G⟩:=(j.out.old d).c3
 go_wp2_with fail
 have k:=Zmx (x:=Zms (a*n)) (y:=Zms (b*n)) (z:=Zms (c*n)) (j.out.old d);exact ZpG (F:=w.heap.size+1+1) Tryz.results137 rfl rfl k.c3.1 k.c3.2.1 k.c3.2.2 (Zmz (Zag s.out d) _ _ _ (by omega))
theorem ZpJ {P:Program}{t e:TypeId} (k:P.underlying t=some (.array 3 e)) (d:P.underlying e=some (.int .i64)) (j:∀ w,(sizeOf e).run P w=.ok 1 w) (f:∀ w,(isAgg e).run P w=.ok false w) (a b c x y z:Int) (w:World) :
  (Op.equalIn 10000 t (.agg #[.int .i64 a,.int .i64 b,.int .i64 c]) (.agg #[.int .i64 x,.int .i64 y,.int .i64 z])).run P w=.ok (a == x&&(b == y&&c == z)) w:=by
 have h1:∀ (p q:Int) (w:World),(Op.equalIn 9999 e (.int .i64 p) (.int .i64 q)).run P w=.ok (p == q) w:=fun p q w=>run_equalIn_int w 9998 e .i64 .i64 p q d;show (Op.equalIn (9999+1) t _ _).run P w=_;rw [Op.equalIn];simp only [Sem.run_bind,run_underlying k,Result.andThen_ok];cases h2:(a == x)<;>cases h3:(b == y)<;>cases h4:(c == z)<;>simp [go_sem,j,f,h1,h2,h3,h4,Std.Legacy.Range.forIn_eq_forIn_range',List.range']
theorem ZpK (w:World):(sizeOf 3).run Tryz.prog w=.ok 1 w:=by kernel_rfl
theorem ZpL (w:World):(isAgg 3).run Tryz.prog w=.ok false w:=by kernel_rfl
theorem eq3 (a b c x y z:Int) (w:World):(Op.equalIn 10000 45 (.agg #[.int .i64 a,.int .i64 b,.int .i64 c]) (.agg #[.int .i64 x,.int .i64 y,.int .i64 z])).run Tryz.prog w=.ok (a == x&&(b == y&&c == z)) w:=
 ZpJ Tryz.underlying45 Tryz.underlying3 ZpK ZpL a b c x y z w
theorem ZpM (w:World):Calls Tryz.prog 72 #[.agg #[.int .i64 9,.int .i64 1,.int .i64 0]] w fun e w'=>e=.returned (.tuple #[.int .i64 3,.int .i64 0])∧Below w.heap.size w w':=
 (Zpt 9 1 0 w (by decide)).mono fun _ _ ⟨h1,h2⟩=>⟨h1.trans (Zac (by decide) rfl),h2⟩
theorem ZpN (w:World):Calls Tryz.prog 29 #[.agg #[.int .i64 1,.int .i64 2,.int .i64 3],.agg #[.int .i64 4,.int .i64 5,.int .i64 6]] w (Zpp 5 7 9 0 w):=by
 have h:ZpD 1 2 3 4 5 6=((5,7,9),0):=by decide
 have:=ZpF 1 2 3 4 5 6 w;rw [h] at this;exact this
theorem ZpO (w:World):Calls Tryz.prog 22 #[] w fun e w'=>e=.returned (.bool true)∧Below w.heap.size w w':=by
 have j:=eq3;go_enter Tryz.func22,Tryz.ntmps22
 go_wp2_with (first|(go_at_call 72;refine (ZpM _).mono ?_;rintro e k ⟨rfl,d⟩)|(go_at_call 29;refine (ZpN _).mono ?_;rintro e l ⟨rfl,f⟩))
 go_ret;exact ⟨rfl,Zag (Zag d f) ((Below.refl _ _).alloc (Nat.le_refl _) _)⟩
theorem ZpP {a:Int} (h:Bd a):Zms a=a:=if_pos h.2
theorem ZpQ (a b:T3) (w:World) (d:BdT a) (e:BdT b):Calls Tryz.prog 85 #[ag3 a,ag3 b,.func (.func 86) #[] #[]] w (Ret w (ag3 (plT a b))):=
 ZmC 86 #[] (·+·) _ _ _ _ _ _ w Zpy (ZpB _ _ _ d.1.1 d.1.2 e.1.1 e.1.2) (ZpB _ _ _ d.2.1.1 d.2.1.2 e.2.1.1 e.2.1.2) (ZpB _ _ _ d.2.2.1 d.2.2.2 e.2.2.1 e.2.2.2)
theorem ZpR {a b:T3} (d:BdT a) (e:BdT b):(Zms (Zmt a.1 b.1),Zms (Zmt a.2.1 b.2.1),Zms (Zmt a.2.2 b.2.2))=mxT a b:=by rw [ZpP (ZmN d.1 e.1),ZpP (ZmN d.2.1 e.2.1),ZpP (ZmN d.2.2 e.2.2)];rfl
theorem ZpS (a b:T3) (w:World) (d:BdT a) (e:BdT b):Calls Tryz.prog 85 #[ag3 a,ag3 b,.func (.func 150) #[] #[]] w (Ret w (ag3 (mxT a b))):=by have h:=ZmC 150 #[] Zmt a.1 a.2.1 a.2.2 b.1 b.2.1 b.2.2 w Zpz (ZpC _ _ _) (ZpC _ _ _) (ZpC _ _ _);rw [←ZpR d e];exact h
theorem ZpT (a:T3) (n:Int) (w:World) (d:BdT a) (h0:0≤n) (h1:n≤1000):Calls Tryz.prog 137 #[ag3 a,.int .i64 n] w (Ret w (ag3 (mlT a n))):=
 ZpI _ _ _ n w ⟨d.1.1,d.1.2,d.2.1.1,d.2.1.2,d.2.2.1,d.2.2.2⟩ ⟨h0,h1⟩
def ZpU:Option T3→T3 × Int
 | none=>(z3,10)
 | some x=>if Zpm x.1 x.2.1 x.2.2 then (z3,6) else (x,0)
def ZpV (r:T3 × Int) (w:World):Ending→World→Prop:=Zpp r.1.1 r.1.2.1 r.1.2.2 r.2 w
theorem ZpW (x:T3) (w:World):Calls Tryz.prog 75 #[ag3 x,.bool false] w (ZpV (z3,10) w):=by
 obtain ⟨a,b,c⟩:=x;unfold ag3;go_enter Tryz.func75,Tryz.ntmps75
 go_wp2_with fail
 exact Zpq (F:=w.heap.size+1) Tryz.results75 rfl rfl rfl (by simp [go_sem,z3]) (by simp [go_sem,z3]) (by simp [go_sem,z3]) (((Below.refl _ _).alloc (Nat.le_refl _) _).alloc (by simp) _)
theorem ZpX (x:T3) (w:World):Calls Tryz.prog 75 #[ag3 x,.bool true] w (ZpV (ZpU (some x)) w):=by
 cases h:Zpm x.1 x.2.1 x.2.2
 ·have:=Zpr x.1 x.2.1 x.2.2 w h;rw [show ZpU (some x)=(x,0) by show (if Zpm x.1 x.2.1 x.2.2=true then (z3,(6:Int)) else (x,0))=_;rw [h];rfl];exact this
 ·have:=Zps x.1 x.2.1 x.2.2 w h;rw [show ZpU (some x)=(z3,6) by show (if Zpm x.1 x.2.1 x.2.2=true then (z3,(6:Int)) else (x,0))=_;rw [h];rfl];exact this
end
section
def ZpY (m:Md) (F:Ty→Option T3):T3→List Nat→Option T3
 | a,[]=>some a
 | a,d :: r=>match ZmZ F (szC m d) (fsC m d) with|none=>none|some s=>ZpY m F (mxT a s) r
theorem ZpZ (m:Md) (V:Nat→Option T3):∀ (l:List Nat) (a:T3),Zm0 m V a l=ZpY m (ZmY m V) a l
 | [],_=>rfl
 |d :: r,a=>by
  unfold Zm0 ZpY;cases ZmZ (ZmY m V) (szC m d) (fsC m d) with
  | none=>rfl
  | some s=>exact ZpZ m V r _
theorem Zp0 {m:Md} (e:Za2 m=true) {c:Nat} (d:c<m.cl.length):Zm2 m c=ZpY m (Zm3 m) z3 (ZmX m c):=by rw [Znk e d,ZpZ];rfl
end
section
theorem Zp1 (m:Md) (c:Nat):Asc ((ZmX m c).map fun d:Nat=>(d:Int)):=by unfold Asc ZmX;rw [List.pairwise_map];refine List.Pairwise.filter _ ?_;refine List.Pairwise.imp ?_ (List.pairwise_lt_range (n:=m.cl.length));intro a b h;omega
theorem Zp2 {m:Md}{c:Nat}{l:List Int} (h:∀ x:Int,x∈l↔∃ d∈ZmX m c,x=(d:Int)):ZaN l=(ZmX m c).map fun d:Nat=>(d:Int):=by refine (ZdA (Zp1 m c) fun x=>?_).symm;rw [h x,List.mem_map];exact ⟨fun ⟨d,hd,e⟩=>⟨d,hd,e.symm⟩,fun ⟨d,hd,e⟩=>⟨d,hd,e.symm⟩⟩
theorem Zp3 {m:Md}{c d:Nat}:d∈ZmX m c↔d<m.cl.length∧ZaI m (d+1) d c=true∧ZmW m d=true:=by unfold ZmX;rw [List.mem_filter,List.mem_range,Bool.and_eq_true]
theorem Zp4 (l:List Int) (n a:Int):ZmS (l++[n]) a=Zmt (ZmS l a) n:=by simp [ZmS]
theorem Zp5 (l:List Int) (n:Int) (a:T3):ZmU (l++[n]) a=mxT (ZmU l a) (ZmD n true):=by simp [ZmU]
theorem Zp6 {F:Ty→Option T3}:∀ (l:List Ty) (t:Ty) (a:T3),ZmZ F a (l++[t])=match ZmZ F a l with|none=>none|some s=>match F t with|none=>none|some x=>some (plT s x)
 |[],t,a=>by
  show ZmZ F a [t]=_;unfold ZmZ;cases F t with
  | none=>rfl
  | some x=>rfl
 |u :: r,t,a=>by
  show ZmZ F a (u :: (r++[t]))=_;unfold ZmZ;cases F u with
  | none=>rfl
  | some x=>exact Zp6 r t _
theorem Zp7 {m:Md}{F:Ty→Option T3}:∀ (l:List Nat) (d:Nat) (a:T3),ZpY m F a (l++[d])=match ZpY m F a l with|none=>none|some b=>match ZmZ F (szC m d) (fsC m d) with|none=>none|some s=>some (mxT b s)
 |[],d,a=>by
  show ZpY m F a [d]=_;unfold ZpY;cases ZmZ F (szC m d) (fsC m d) with
  | none=>rfl
  | some x=>rfl
 |u :: r,d,a=>by
  show ZpY m F a (u :: (r++[d]))=_;unfold ZpY;cases ZmZ F (szC m u) (fsC m u) with
  | none=>rfl
  | some x=>exact Zp7 r d _
end
section
theorem Zp8 (t:Ty) (a b:List In3):ZmQ t (a++b)=ZmQ t a++ZmQ t b:=by simp [ZmQ]
theorem Zp9 (t:Ty) (i:In3):ZmQ t [i]=if ZmP t i=true then [i.a] else []:=by
 unfold ZmQ;cases h:ZmP t i<;>simp [h]
def Zqa (m:Md) (t:Ty) (i j:Nat):List Int:=((m.me.take i).flatMap fun x=>ZmQ t x.k)++ZmQ t ((cdM m i).take j)
theorem Zqb (m:Md) (t:Ty):Zqa m t 0 0=[]:=by simp [Zqa,ZmQ]
theorem Zqc {m:Md}{t:Ty}{i j:Nat} (d:j<(cdM m i).length):Zqa m t i (j+1)=Zqa m t i j++if ZmP t ((cdM m i).getD j default)=true then [((cdM m i).getD j default).a] else []:=by unfold Zqa;rw [Zam _ _ d,Zp8,Zp9,List.append_assoc]
theorem Zqd {m:Md}{t:Ty}{i:Nat} (d:i<m.me.length):Zqa m t (i+1) 0=Zqa m t i (cdM m i).length:=by unfold Zqa;rw [Zam _ _ d,List.flatMap_append,List.take_length];simp [ZmQ,cdM]
theorem Zqe (m:Md) (t:Ty):Zqa m t m.me.length 0=ZmR m t:=by unfold Zqa ZmR;rw [List.take_length];simp [ZmQ]
def Zqf (c:Nat) (i:In3):Bool:=decide (i.op=14∧i.a=c)
def Zqg (m:Md) (c i j:Nat):Bool:=((m.me.take i).any fun x=>x.k.any (Zqf c))||((cdM m i).take j).any (Zqf c)
theorem Zqh (m:Md) (c:Nat):Zqg m c 0 0=false:=by simp [Zqg]
theorem Zqi {m:Md}{c i j:Nat} (d:j<(cdM m i).length):Zqg m c i (j+1)=(Zqg m c i j||Zqf c ((cdM m i).getD j default)):=by unfold Zqg;rw [Zam _ _ d,List.any_append];simp only [List.any_cons,List.any_nil,Bool.or_false,Bool.or_assoc]
theorem Zqj {m:Md}{c i:Nat} (d:i<m.me.length):Zqg m c (i+1) 0=Zqg m c i (cdM m i).length:=by unfold Zqg;rw [Zam _ _ d,List.any_append,List.take_length];simp [cdM]
theorem Zqk (m:Md) (c:Nat):Zqg m c m.me.length 0=ZmW m c:=by unfold Zqg ZmW;rw [List.take_length];simp only [List.take_zero,List.any_nil,Bool.or_false];rfl
end
