import Derived.Test.YtcfjblcgceednaaGreatG22
import Derived.Lib.AppendZeros
set_option linter.all false
set_option maxRecDepth 100000
set_option maxHeartbeats 8000000
namespace Go.Proofs.YtcfjblcgceednaaGreat
theorem j9{p:Prop}(h:p:=by
 clear hv;go_enter Tryz.func346,Tryz.ntmps346
 go_wp2_with (go_at_call 363;refine (Zna _ _).mono ?_;rintro e w' ⟨rfl,rfl⟩)
 go_ret;exact ⟨rfl,rfl⟩):p:=h
theorem j12{p:Prop}(h:p:=by
 go_wp2;go_roundw
 case rel=>
  refine ⟨k+1,by omega,by go_num,HL1.out,fun i hi=>?_⟩;by_cases hik:i<k
  ·exact Q1.out i hik
  ·obtain rfl:i=k:=by omega
   rw [←HX.out];simp [hI]
 case measure=>simp [intOf];omega):p:=h
theorem j20{p:Prop}(h:p:=by
 rintro e w1 ⟨⟨r,rfl,hr⟩,hb1⟩;have HR:=Zh hr;clear hr;go_wp2;go_ret;exact ⟨Zaa HR.out,hb1⟩):p:=h
theorem j22{p:Prop}(h:p:=by
 by_cases h:-2147483648≤n
 all_goals
  go_wp2;go_ret;exact ⟨Zaa (by simp [vB];try omega),rfl⟩):p:=h
section
open Go.RowKit
theorem ret_i64 {a b:Int} (h:a=b):Ending.returned (.int .i64 a)=.returned (.int .i64 b):=by rw [h]
def vB (n:Int):Bool:=decide (-2147483648≤n)&&decide (n≤2147483647)
theorem Zm8 {a:Int}:vB a=true↔-2147483648≤a∧a≤2147483647:=by simp [vB]
theorem ww (n:Int):wrap64 (wrap32 n)=wrap32 n:=by unfold wrap64 wrap32;omega
theorem Zm9 (n:Int) (w:World) :
  Calls Tryz.prog 143 #[.int .i64 n] w fun e w'=>e=.returned (.bool (vB n))∧w=w':=by
 go_enter Tryz.func143,Tryz.ntmps143;exact j22
theorem Zna (n:Int) (w:World) :
  Calls Tryz.prog 363 #[.int .i64 n] w fun e w'=>e=.returned (.bool (vB n))∧w=w':=by
 go_enter Tryz.func363,Tryz.ntmps363;exact j22
def Znb:List Int→Bool
 | []=>true
 | x :: r=>vB x&&Znb r
theorem Znc (xs:List Int) (k:Nat) (h:k<xs.length):Znb (xs.take (k+1))=(Znb (xs.take k)&&vB (xs.getD k 0)):=by
 induction xs generalizing k with
 | nil=>simp at h
 |cons x r ih=>
  cases k with
  | zero=>simp [Znb]
  | succ k=>simp at h;simp [Znb,ih k (by omega),Bool.and_assoc]
theorem Znd (xs:List Int) (k:Nat) (h:k<xs.length) (a:vB (xs.getD k 0)=false):Znb xs=false:=by
 induction xs generalizing k with
 | nil=>simp at h
 |cons x r ih=>
  cases k with
  | zero=>simp at a;simp [Znb,a]
  | succ k=>simp at h a;simp [Znb,ih k (by omega) (by simpa using a)]
theorem Zne (a:Addr) (xs:List Int) (w:World) (q:0<xs.length) (hl:xs.length≤10) (hc:∀ i,i<xs.length→w.cell? (a.add i)=some (.int .i64 (xs.getD i 0))) :
  Calls Tryz.prog 286 #[.slice (some a) xs.length xs.length] w fun e w'=>e=.returned (.bool (Znb xs))∧w=w':=by
 go_enter Tryz.func286,Tryz.ntmps286;go_wp2
 go_loop [7] (fun i=>∃ k:Nat,k≤xs.length∧i=.int .i64 k∧Znb (xs.take k)=true) (fun i=>xs.length-(intOf i).toNat)
 case atStart=>exact ⟨0,by omega,rfl,rfl⟩
 case round=>
  obtain ⟨k,r,rfl,d⟩:=hrel;by_cases hlt:k<xs.length
  ·have c:=hc k hlt;have g:=Znc xs k hlt;have f:=Znd xs k hlt
   revert c g f
   generalize xs.getD k 0=x;intro c g f;have p:=Zh g;have h:=Zh d;have o:=Zh f;clear g d f hc;cases hv:vB x
   all_goals
    have j:=Zh hv
    go_wp2_with (go_at_call 143;refine (Zm9 _ _).mono ?_;rintro e w' ⟨rfl,rfl⟩)
   ·go_ret;exact ⟨Zaa (o.out j.out).symm,rfl⟩
   ·go_round
    case rel=>exact ⟨k+1,by omega,by go_num,by rw [p.out,h.out,j.out];rfl⟩
    case measure=>simp [intOf];omega
  ·have m:k=xs.length:=by omega
   have h:Hid (Znb xs=true):=by rw [m,List.take_length] at d;exact Zh d
   clear d hc m;go_wp2;go_ret;exact ⟨Zaa h.out.symm,rfl⟩
theorem Znf (a b:Int) (c:Addr) (w:World) (d:w.cell? c=some (.int .i64 a)) (f:w.cell? (c.add 1)=some (.int .i64 b)) :
  Calls Tryz.prog 286 #[.slice (some c) 2 2] w fun e w'=>e=.returned (.bool (vB a&&vB b))∧w=w':=by
 refine (Zne c [a,b] w (by simp) (by simp) ?_).mono ?_
 ·intro i g
  match i,g with
  | 0,_=>simpa [Addr.add] using d
  | 1,_=>simpa using f
 ·rintro e w' ⟨rfl,rfl⟩;exact ⟨by simp [Znb],rfl⟩
theorem Zng (n:Int) (w:World):Calls Tryz.prog 283 #[.int .i64 n] w fun e w'=>e=.returned (.int .i64 (wrap32 n))∧w=w':=by go_enter Tryz.func283,Tryz.ntmps283;go_wp2;go_ret;exact ⟨congrArg (fun z=>Ending.returned (.int .i64 z)) (ww n),rfl⟩
def res (n:Int):Int:=n % 4294967296
theorem Znh (n:Int) (w:World):Calls Tryz.prog 154 #[.int .i64 n] w fun e w'=>e=.returned (.int .i64 (res n))∧w=w':=by
 have c:n.tmod 4294967296=if 0≤n then n % 4294967296 else -((-n) % 4294967296):=by
  split
  ·exact Int.tmod_eq_emod_of_nonneg (by assumption)
  ·have:=Int.neg_tmod (a:=-n) (b:=4294967296);rw [Int.neg_neg] at this;rw [this,Int.tmod_eq_emod_of_nonneg (by omega)]
 by_cases hneg:n.tmod 4294967296<0
 all_goals
  obtain ⟨x,g⟩:∃ x,n.tmod 4294967296=x:=⟨_,rfl⟩;rw [g] at hneg c;have h:-4294967296<x∧x<4294967296:=by rw [c];split<;>omega
  have d:res n=if x<0 then x+4294967296 else x:=by unfold res;rw [c];split<;>split<;>omega
  have f:=Zh d;clear d c;go_enter Tryz.func154,Tryz.ntmps154;go_wp2;go_ret;exact ⟨ret_i64 (by rw [f.out];split<;>omega),rfl⟩
theorem Zni (n:Int):wrap32 n=if 2147483648≤res n then res n-4294967296 else res n:=by
 unfold wrap32 res;split<;>omega
theorem Znj (n:Int):0≤res n∧res n<4294967296:=by unfold res;omega
theorem Znk (n:Int) (w:World):Calls Tryz.prog 94 #[.int .i64 n] w fun e w'=>e=.returned (.int .i64 (wrap32 n))∧w=w':=by
 have a:=Zni n;obtain ⟨g,i⟩:=Znj n;have c:=Zh a;have R:=Znh n w;have f:=Zh R;clear a R;by_cases h:2147483648≤res n
 all_goals
  have d:=Zh h;go_enter Tryz.func94,Tryz.ntmps94
  go_wp2_with (go_at_call 154;refine f.out.mono ?_;rintro e w' ⟨rfl,rfl⟩)
  go_ret;exact ⟨ret_i64 (by rw [c.out];have:=d.out;split<;>omega),rfl⟩
end
section
open Go.RowKit
theorem Znl (a b:Int) (w:World) (hv:(vB a&&vB b)=true) :
  Calls Tryz.prog 346 #[.int .i64 a,.int .i64 b] w fun e w'=>e=.returned (.int .i64 0)∧w=w':=by
 obtain ⟨c,d⟩:vB a=true∧vB b=true:=by simpa using hv
 exact j9
theorem Znm (a b:Int) (w:World) (hv:(vB a&&vB b)=false) :
  Calls Tryz.prog 346 #[.int .i64 a,.int .i64 b] w fun e w'=>e=.returned (.int .i64 1)∧w=w':=by
 cases h1:vB a
 ·exact j9
 ·have c:vB b=false:=by simpa [h1] using hv
  exact j9
def Znn (a b:Int):Int:=a.tdiv b
theorem Zno {a b:Int} (c:vB a=true):-2147483648≤Znn a b∧Znn a b≤2147483648:=by
 rw [Zm8] at c;have h:(Znn a b).natAbs≤a.natAbs:=by unfold Znn;rw [Int.natAbs_tdiv];exact Nat.div_le_self _ _
 omega
theorem Znp (a b:Int) (w:World) (f:(vB a&&vB b)=true) (g:b≠0) :
  Calls Tryz.prog 347 #[.int .i64 a,.int .i64 b] w fun e w'=>e=.returned (.int .i64 (Znn a b))∧w=w':=by
 have p:(b == 0)=false:=by simpa using g
 obtain ⟨c,d⟩:vB a=true∧vB b=true:=by simpa using f
 obtain ⟨m,o⟩:-2147483648≤a.tdiv b∧a.tdiv b≤2147483648:=Zno (b:=b) c;rw [Zm8] at c d;obtain ⟨h,i⟩:=c;obtain ⟨j,k⟩:=d;clear f;by_cases ha:a<0<;>by_cases hb':b<0
 all_goals
  go_enter Tryz.func347,Tryz.ntmps347;go_wp2;go_ret;exact ⟨ret_i64 (by first|rfl|(unfold Znn;omega)|(unfold Znn;rw [←Int.tdiv_eq_ediv_of_nonneg (by omega)];simp)),rfl⟩
theorem Znq (a b:Int) (w:World) (c:(vB a&&vB b)=false) :
  Calls Tryz.prog 287 #[.int .i64 a,.int .i64 b] w fun e w'=>e=.returned (.tuple #[.int .i64 0,.int .i64 1])∧w=w':=by
 have d:=Zh c;clear c;go_enter Tryz.func287,Tryz.ntmps287
 go_wp2_with (go_at_call 346;refine (Znm _ _ _ d.out).mono ?_;rintro e w' ⟨rfl,rfl⟩)
 go_ret2;exact ⟨rfl,rfl⟩
theorem Znr (a:Int) (w:World) (c:vB a=true) :
  Calls Tryz.prog 287 #[.int .i64 a,.int .i64 0] w fun e w'=>e=.returned (.tuple #[.int .i64 0,.int .i64 5])∧w=w':=by
 have c:(vB a&&vB 0)=true:=by rw [c];decide
 have d:=Zh c;clear c;go_enter Tryz.func287,Tryz.ntmps287
 go_wp2_with (go_at_call 346;refine (Znl _ _ _ d.out).mono ?_;rintro e w' ⟨rfl,rfl⟩)
 go_ret2;exact ⟨rfl,rfl⟩
theorem Zns (a b:Int) (w:World) (f:(vB a&&vB b)=true) (c:b≠0) :
  Calls Tryz.prog 287 #[.int .i64 a,.int .i64 b] w fun e w'=>e=.returned (.tuple #[.int .i64 (wrap32 (Znn a b)),.int .i64 0])∧w=w':=by
 have h:(b == 0)=false:=by simpa using c
 have d:=Zh f;have g:=Zh c;clear f c;go_enter Tryz.func287,Tryz.ntmps287
 go_wp2_with (first|(go_at_call 346;refine (Znl _ _ _ d.out).mono ?_;rintro e w' ⟨rfl,rfl⟩)|(go_at_call 347;refine (Znp _ _ _ d.out g.out).mono ?_;rintro e w' ⟨rfl,rfl⟩)|(go_at_call 94;refine (Znk _ _).mono ?_;rintro e w' ⟨rfl,rfl⟩))
 go_ret2;exact ⟨rfl,rfl⟩
end
section
open Go.RowKit
attribute [local go_sem] World.cell?_alloc_some
theorem Znt (n:Nat) (hn:n≤1000000) (W:World):Calls Tryz.prog 146 #[.slice none 0 0,.int .i64 n] W fun e w'=>(∃ ao cap,e=.returned (.slice ao 0 cap)∧w'.ownsRow W.heap.size 76 2 (.slice ao 0 cap) 0 [])∧Below W.heap.size W w':=by
 have j:¬ (n:Int) < 0:=by omega
 have i:IntKind.i64.wrap ((n:Int)-0)=n:=IntWalk.i64_in _ (by omega);by_cases hz:n=0
 ·subst hz;go_enter Tryz.func146,Tryz.ntmps146;go_wp2;go_ret;exact ⟨⟨none,0,rfl,World.ownsRow_nil _ _ _ _⟩,Below.refl _ _⟩
 ·have k:(n:Int) > 0:=by omega
  have g:=Zh (Lib.run_append_nil_zeros (P:=Tryz.prog) W 23 3 23 76 (Tryz.prog.info? 76).get! (.agg #[.int .i64 0,.int .i64 0]) .i64 .i64 Tryz.underlying23 Tryz.underlying3 (by kernel_rfl) (by kernel_rfl) n (by omega) (of_decide_eq_true (by kernel_rfl)) (by omega) (by rw [show (Tryz.prog.info? 76).get!.bytes=16 by kernel_rfl];omega));have a:=grownCap_ge W n 0 76;have d:=grownCap_le_maxLen W n 0 76 (by unfold maxLen;omega);have f:=Zh (And.intro a d);generalize hc:grownCap W n 0 76=c at g f;clear a d hc;go_enter Tryz.func146,Tryz.ntmps146
  go_wp2_with (at_builtin;refine Lib.wpList_append_run _ rfl _ _ _ _ rfl _ _ rfl rfl _ _ g.out ?_)
  go_ret;have h:=f.out;refine ⟨⟨_,c,rfl,?_⟩,?_⟩
  ·refine World.ownsRow_made (e:=76) (size:=2) W.drew _ c (Nat.le_refl _) h.2 ?_;rw [Array.size_append,size_zeroCells,size_zeroCells];show n*2+(c-n)*2=c*2;omega
  ·exact bal (Below.refl _ _).drew _
def Znu (w:World) (ao:Option Addr) (cap:Nat) (hs:List SH) (ls:List (List Ty)):Prop:=Zar w ao cap hs∧hs.length=ls.length∧∀ i,i<hs.length→(hs.getD i default).n=(ls.getD i []).length∧Zar w (hs.getD i default).ao (hs.getD i default).c (ls.getD i [])
theorem Znu.old {w w':World}{ao:Option Addr}{cap:Nat}{hs:List SH}{ls:List (List Ty)} (h:Znu w ao cap hs ls) (hb:Below w.heap.size w w'):Znu w' ao cap hs ls:=⟨h.1.old hb,h.2.1,fun i a=>⟨(h.2.2 i a).1,(h.2.2 i a).2.old hb⟩⟩
def Znv (ls:List (List Ty)) (j:Nat):List Ty:=(ls.take j).flatten
theorem Znw (ls:List (List Ty)) (j:Nat) (a:j<ls.length):Znv ls (j+1)=Znv ls j++ls.getD j []:=by unfold Znv;rw [List.take_succ_eq_append_getElem a,List.flatten_append];simp [a]
theorem Znx (ls:List (List Ty)) (j:Nat):(Znv ls j).length≤ls.flatten.length:=by
 unfold Znv
 conv=>rhs;rw [←List.take_append_drop j ls,List.flatten_append,List.length_append]
 omega
theorem Zny (ls:List (List Ty)) {n:Nat} (h:n=ls.length):Znv ls n=ls.flatten:=by subst h;unfold Znv;rw [List.take_length]
theorem Znz (W:World) (ao:Option Addr) (cap n:Nat) (d:List SH) (ls:List (List Ty)) (H:Znu W ao cap d ls) (hn:d.length=n) (ai:n≤1000) (hl:ls.flatten.length≤1000000):Calls Tryz.prog 83 #[.slice ao n cap] W (Zfg 76 W ls.flatten):=by
 subst hn;have y:=Zh H;have G:=H.2.1;obtain ⟨S,u⟩:∃ S,S=ls.flatten:=⟨_,rfl⟩;have x:=Zh u.symm;have q:=Zh hl;rw [←u] at hl ⊢;clear H u;go_enter Tryz.func83,Tryz.ntmps83;go_wp2
 go_loopw [3,11] (fun s i wr=>∃ j:Nat,j≤d.length∧i=.int .i64 j∧s=.int .i64 (Znv ls j).length∧wr=W) (fun _ i _=>d.length-(intOf i).toNat)
 case atStart=>exact ⟨0,Nat.zero_le _,rfl,rfl,rfl⟩
 case round=>
  obtain ⟨j,X,rfl,rfl,rfl⟩:=hrel;rename World=>wo;by_cases hjl:j<d.length
  ·have k:(j:Int) < d.length:=by omega
   have Z:IntKind.i64.wrap ((j:Int)+1)=((j+1:Nat):Int):=IntWalk.i64_in _ (by omega);have t:=Znw ls j (by omega);have o:=Nat.le_trans (Znx ls (j+1)) q.out;have A:=(y.out.2.2 j hjl).1;obtain ⟨ad,rfl,r⟩:=ZlZ y.out.1 hjl;rw [A] at r;obtain ⟨a,T⟩:∃ a,a=(Znv ls j).length:=⟨_,rfl⟩;obtain ⟨b,U⟩:∃ b,b=(ls.getD j []).length:=⟨_,rfl⟩;obtain ⟨c,hc⟩:∃ c,c=(Znv ls (j+1)).length:=⟨_,rfl⟩;have B:c=a+b:=by rw [hc,t,List.length_append,T,U]
   rw [←U] at r;rw [←hc] at o;rw [←T];have aj:IntKind.i64.wrap ((a:Int)+b)=((c:Nat):Int):=by rw [B];exact IntWalk.i64_in _ (by omega)
   have h0:¬ ((c:Nat):Int) < 0:=by omega
   have HC:=Zh hc;generalize (d.getD j default).ao=N at r;generalize (d.getD j default).c=M at r;clear t o A T U hc B;go_wp2;exact ⟨⟨j+1,hjl,rfl,by rw [HC.out],by trivial⟩,by simp [intOf];omega⟩
  ·obtain rfl:j=d.length:=by omega
   have k:¬ ((d.length:Nat):Int) < d.length:=by omega
   rw [Zny ls G,x.out];have P:=Zh (Znt S.length hl wo)
   go_upto_region 10 with (go_at_call 146;refine P.out.mono ?_;rintro e w1 ⟨⟨go,gc,rfl,f⟩,C⟩;have HO:=Zh f;have HB:=Zh C;clear f C)
   go_upto_region 11 with fail
   go_loopw [6,27] (fun s i wr=>∃ (j:Nat) (J:Option Addr) (I:Nat),j≤d.length∧i=.int .i64 j∧s=.slice J (Znv ls j).length I∧Hid (wr.ownsRow wo.heap.size 76 2 (.slice J (Znv ls j).length I) (Znv ls j).length (Zak (Znv ls j)))∧Hid (Below wo.heap.size wo wr)) (fun _ i _=>d.length-(intOf i).toNat)
   case atStart=>exact ⟨0,go,gc,Nat.zero_le _,rfl,rfl,HO.out,HB.out⟩
   case round=>
    obtain ⟨j,J,I,X,rfl,rfl,h,g⟩:=hrel;rename World=>wi;have o:=Nat.le_trans (Znx ls j) q.out;by_cases hjl:j<d.length
    ·have k:(j:Int) < d.length:=by omega
     have Z:IntKind.i64.wrap ((j:Int)+1)=((j+1:Nat):Int):=IntWalk.i64_in _ (by omega);have t:=Znw ls j (by omega);have V:=Nat.le_trans (Znx ls (j+1)) q.out;have A:=(y.out.2.2 j hjl).1;have Y:=((y.out.2.2 j hjl).2).old g.out;obtain ⟨ad,rfl,r⟩:=ZlZ (y.out.1.old g.out) hjl;rw [A] at r;obtain ⟨L,p⟩:∃ L,L=(Znv ls j):=⟨_,rfl⟩;obtain ⟨K,v⟩:∃ K,K=ls.getD j []:=⟨_,rfl⟩;obtain ⟨N,E⟩:∃ N,N=(d.getD j default).ao:=⟨_,rfl⟩;obtain ⟨M,D⟩:∃ M,M=(d.getD j default).c:=⟨_,rfl⟩;rw [←v,←E,←D] at r Y;rw [←p] at h o;rw [←p,←v] at t;rw [t,List.length_append] at V;rw [←p];have HF:=Zh t;have HR:=Zh Y;have f:=h.out;clear t A Y p v E D
     go_wp2_with (at_builtin;refine Zaj rfl (.tmp 31) (.tmp 32) 23 rfl wo.heap.size 76 2 16 Zff (.slice J L.length I) L.length (Zak L) rfl f N K.length M (Zak K) rfl HR.out (Zaq K) (by omega) (by unfold maxLen;omega) (by have:=g.out.size;omega) ?_;intro R z ak m F;have Q:=Zh m;have O:=Zh (ZcV g.out F (fun j X=>(f.lt j X).1));clear m F)
     refine ⟨⟨j+1,R,z,hjl,rfl,by rw [HF.out,List.length_append],?_,O.out⟩,by simp [intOf];omega⟩;rw [HF.out,List.length_append,Zan];exact Q.out
    ·obtain rfl:j=d.length:=by omega
     have k:¬ ((d.length:Nat):Int) < d.length:=by omega
     rw [Zny ls G] at h ⊢;rw [x.out] at h ⊢;go_wp2;go_ret;exact ⟨⟨J,I,rfl,h.out⟩,g.out⟩
end
section
open Go.RowKit
theorem ZnA {m:Md} (e:Za1 m=true) {lo:List Ty} (c:∀ t∈lo,Zfi m t) {k:Nat} (d:k<m.me.length) (r:Ty):∀ (l:List In3) (n:Nat) (s:Ps),(∀ i∈l,ZfR m k i∧0≤i.op∧i.op<36)→Wf m s l→(∀ t∈(ZeE m lo r n l s).1,Zfj m t)∧(ZeE m lo r n l s).1.length≤l.length+1
 |[],n,s,_,hw=>by
  unfold ZeE;split
  ·exact ⟨fun t a=>by rw [List.mem_singleton.1 a];exact hw.stk,by simp⟩
  ·exact ⟨fun t a=>(by cases a),by simp⟩
 |i :: l,n,s,hi,hw=>by
  unfold ZeE;split
  ·rename_i g;obtain ⟨o,p⟩:=hi i List.mem_cons_self;obtain ⟨f,q⟩:=ZnA e c d r l (n+1) _ (fun j h=>hi j (List.mem_cons_of_mem _ h)) (Zgo e c d p o hw g);dsimp only;split
   ·refine ⟨fun t a=>?_,by simp;omega⟩;rcases List.mem_cons.1 a with rfl|a
    ·exact hw.stk
    ·exact f t a
   ·exact ⟨fun t a=>(by cases a),by simp⟩
  ·exact ⟨fun t a=>(by cases a),by simp⟩
theorem ZnB (m:Md) (k:Int):(∀ t∈(ZeH m k).1,Zfj m t)∧(ZeH m k).1.length≤121:=by
 unfold ZeH;split
 ·rename_i h;obtain ⟨f,j,o⟩:=h;have e:k.toNat<m.me.length:=by omega
  have c:=ZfN f e;obtain ⟨a,b⟩:=ZnA f (ZfO f e) e (m.me.getD k.toNat default).r (m.me.getD k.toNat default).k 0 ⟨[],[]⟩ (fun i d=>⟨ZfS (c.i i d).1 (c.i i d).2,ZfQ (c.i i d).1⟩) (Zfo c.n);have:=c.z.2.2;exact ⟨a,by unfold ZeG;omega⟩
 ·exact ⟨fun t g=>(by cases g),by simp⟩
theorem ZjL.rows {w:World}{N:Nat}{so:Option Addr}{sc:Nat}{rows:List SH}{m:Md}{k:Int} (H:ZjJ w N so sc rows (ZeH m k).1):rows.length≤121:=by rw [H.len];exact (ZnB m k).2
theorem ZnC {m:Md}{k:Int}{i:Nat} (a:i<(ZeH m k).1.length):Zfj m ((ZeH m k).1.getD i []):=(ZnB m k).1 _ (ZfU [] a)
end
section
open Go.RowKit
structure Ins where
 d:Int
 a:Int
 b:Int
 c:Int
 deriving DecidableEq
instance:Inhabited Ins:=⟨⟨0,0,0,0⟩⟩
def Ins.cells (x:Ins):List Value:=[.int .i64 x.d,.int .i64 x.a,.int .i64 x.b,.int .i64 x.c]
def ZnD (l:List Ins):List Value:=l.flatMap Ins.cells
theorem ZnE (l:List Ins) (i:Nat) (c:i<l.length) (j:Nat) (d:j<4):(ZnD l)[i*4+j]?=(l.getD i default).cells[j]?:=by
 induction l generalizing i with
 | nil=>cases c
 |cons x r ih=>
  cases i with
  |zero=>
   simp only [ZnD,List.flatMap_cons,Nat.zero_mul,Nat.zero_add,List.getD_cons_zero];rw [List.getElem?_append_left (by simp [Ins.cells];omega)]
  |succ i=>
   have a:=ih i (by simpa using c);simp only [ZnD,List.flatMap_cons,List.getD_cons_succ] at a ⊢;rw [List.getElem?_append_right (by simp [Ins.cells];omega),←a];congr 1;simp [Ins.cells];omega
def ZnF (w:World) (ao:Option Addr) (cap:Nat) (l:List Ins):Prop:=SlA w 4 ao l.length cap (ZnD l)
theorem ZnG (a:Addr) (n j:Nat) (c:0<j):a.add (n+j)=⟨(a.add n).block,(a.add n).off+j,none⟩:=by
 unfold Addr.add;rw [if_neg (by omega)];split
 ·subst_vars;simp
 ·simp [Nat.add_assoc]
theorem ZnF.cell {w:World}{ao:Option Addr}{cap:Nat}{l:List Ins} (h:ZnF w ao cap l) {i:Nat} (hi:i<l.length) :
  ∃ ad,ao=some ad∧w.cell? (ad.add (i*4))=some (.int .i64 (l.getD i default).d)∧w.cell? ⟨(ad.add (i*4)).block,(ad.add (i*4)).off+1,none⟩=some (.int .i64 (l.getD i default).a)∧w.cell? ⟨(ad.add (i*4)).block,(ad.add (i*4)).off+2,none⟩=some (.int .i64 (l.getD i default).b)∧w.cell? ⟨(ad.add (i*4)).block,(ad.add (i*4)).off+3,none⟩=some (.int .i64 (l.getD i default).c):=by
 obtain ⟨ad,j,p⟩:=h.2.2 (i*4+0) _ (ZnE l i hi 0 (by omega));obtain ⟨k,a,e⟩:=h.2.2 (i*4+1) _ (ZnE l i hi 1 (by omega));obtain ⟨m,c,f⟩:=h.2.2 (i*4+2) _ (ZnE l i hi 2 (by omega));obtain ⟨o,d,g⟩:=h.2.2 (i*4+3) _ (ZnE l i hi 3 (by omega));rw [j] at a c d;obtain rfl:=Option.some.inj a;obtain rfl:=Option.some.inj c;obtain rfl:=Option.some.inj d;rw [ZnG _ _ _ (by decide)] at e f g;exact ⟨ad,j,p,e,f,g⟩
structure Cd where
 l:List Ins
 h:List Int
 deriving DecidableEq
structure ZnH (w:World) (lo:Option Addr) (lc:Nat) (ho:Option Addr) (hc:Nat) (c:Cd):Prop where
 l:ZnF w lo lc c.l
 h:SlA w 1 ho c.h.length hc (c.h.map (Value.int .i64))
theorem ZnH.old {w w':World}{lo ho:Option Addr}{lc hc:Nat}{c:Cd} (h:ZnH w lo lc ho hc c) (hb:Below w.heap.size w w'):ZnH w' lo lc ho hc c:=⟨SlA.old h.l hb,SlA.old h.h hb⟩
theorem ZnF.len {w:World}{ao:Option Addr}{cap:Nat}{l:List Ins} (h:ZnF w ao cap l) (hn:0<l.length):∃ ad,ao=some ad:=by obtain ⟨ad,a,_⟩:=h.cell hn;exact ⟨ad,a⟩
theorem ZnI (w:World) (xs:Array Value) (t:TypeId) {n size:Nat} (h:xs.size=n*size):SlA (w.alloc (.cells xs t)) size (some ⟨w.heap.size,0,none⟩) n n xs.toList:=by
 refine ⟨by simpa using h,(fun h=>by cases h),fun j u c=>⟨_,rfl,?_⟩⟩;have a:(⟨w.heap.size,0,none⟩:Addr).add j=⟨w.heap.size,j,none⟩:=by unfold Addr.add;split<;>simp_all
 rw [a];exact (Blk.new w xs t).cell j (by simpa using c)
theorem Blk.grown {w w':World}{b:Nat}{xs:Array Value}{t:TypeId}{row:Option Nat} (h:Blk w b xs t) (hg:w.grownBy w' row) (hne:some b≠row):Blk w' b xs t:=by unfold Blk;rw [hg.block b h.lt hne];exact h
end
section
open Go.RowKit
def inB (n lo hi:Int):Bool:=decide (lo≤n)&&decide (n≤hi)
def rgB (n:Int):Bool:=inB n 0 39
def ZnJ (x:Ins) (n:Int):Bool:=
 if x.d=0 then inB x.a (-1) 39&&(x.b == 0)&&(x.c == 0)
 else if x.d=1 then rgB x.a&&vB x.b&&(x.c == 0)
 else if x.d=2 then rgB x.a&&rgB x.b&&(x.c == 0)
 else if x.d=4 then inB x.a 0 (n-1)&&(x.b == 0)&&(x.c == 0)
 else if x.d=5 then inB x.a 0 (n-1)&&rgB x.b&&(x.c == 0)
 else if x.d=6 then inB x.a 0 3&&rgB x.b&&(x.c == 0)
 else if x.d=7 then inB x.a 1 17&&(x.b == 0)&&(x.c == 0)
 else if x.d=8 then inB x.a 0 (n-1)&&rgB x.b&&rgB x.c
 else if 11≤x.d∧x.d≤16 then rgB x.a&&rgB x.b&&rgB x.c
 else false
def ZnK (c:Cd):Bool:=decide (1≤c.l.length)&&decide (c.l.length≤600)&&decide (c.h.length=c.l.length)&&c.l.all (fun x=>ZnJ x c.l.length)&&c.h.all (fun n=>inB n (-1) (c.l.length-1))
theorem ZnL {c:Cd} (h:¬ (1≤c.l.length∧c.l.length≤600∧c.h.length=c.l.length)):ZnK c=false:=by
 cases hc:ZnK c
 ·rfl
 ·exfalso;apply h;simp [ZnK] at hc;obtain ⟨⟨⟨⟨a,d⟩,e⟩,_⟩,_⟩:=hc;exact ⟨a,d,e⟩
theorem ZnM {w:World}{ao:Option Addr}{n cap:Nat}{c:List Int} (h:SlA w 1 ao n cap (c.map (Value.int .i64))) {i:Nat} (e:i<c.length):∃ d,ao=some d∧w.cell? (d.add i)=some (.int .i64 (c.getD i 0)):=by obtain ⟨a,f,hc⟩:=h.2.2 i (.int .i64 (c.getD i 0)) (by rw [List.getElem?_map,List.getElem?_eq_getElem e];simp [e]);exact ⟨a,f,hc⟩
end
section
open Go.RowKit
theorem ZnN (n:Int) (w:World) :
  Calls Tryz.prog 280 #[.int .i64 n] w fun e w'=>e=.returned (.bool (rgB n))∧w=w':=by
 go_enter Tryz.func280,Tryz.ntmps280;by_cases h:0≤n
 all_goals
  go_wp2;go_ret;exact ⟨Zaa (by rw [Bool.eq_iff_iff];simp [rgB,inB];omega),rfl⟩
theorem ZnO (x:Ins) (n:Int) (w:World) (_h0:0≤n) (_h1:n≤1000) :
  Calls Tryz.prog 207 #[.agg #[.int .i64 x.d,.int .i64 x.a,.int .i64 x.b,.int .i64 x.c],.int .i64 n] w fun e w'=>e=.returned (.bool (ZnJ x n))∧Below w.heap.size w w':=by
 obtain ⟨d,a,b,c⟩:=x;dsimp only;rcases (show d=0∨d=1∨d=2∨d=4∨d=5∨d=6∨d=7∨d=8∨d=11∨d=12∨d=13∨d=14∨d=15∨d=16∨(d≠0∧d≠1∧d≠2∧d≠4∧d≠5∧d≠6∧d≠7∧d≠8∧d≠11∧d≠12∧d≠13∧d≠14∧d≠15∧d≠16) by omega) with rfl|rfl|rfl|rfl|rfl|rfl|rfl|rfl|rfl|rfl|rfl|rfl|rfl|rfl|⟨n0,n1,n2,n4,n5,n6,n7,n8,n11,n12,n13,n14,n15,n16⟩
 all_goals
  go_enter Tryz.func207,Tryz.ntmps207
  go_wp2_with (first
   | (go_at_call 280;refine (ZnN _ _).mono ?_;rintro e w' ⟨rfl,rfl⟩)
   | (go_at_call 143;refine (Zm9 _ _).mono ?_;rintro e w' ⟨rfl,rfl⟩))
  all_goals
   go_ret;refine ⟨Zaa ?_,(Below.refl _ _).alloc (Nat.le_refl _) _⟩
   first
    | (simp [ZnJ,inB,rgB,vB] at *;done)
    | (simp [ZnJ,inB,rgB,vB] at *;omega)
    | (rw [Bool.eq_iff_iff];simp [ZnJ,inB,rgB,vB] at *;done)
    | (rw [Bool.eq_iff_iff];simp [ZnJ,inB,rgB,vB] at *;omega)
    | (clear _h0;unfold ZnJ;dsimp only;rw [if_neg n0,if_neg n1,if_neg n2,if_neg n4,if_neg n5,if_neg n6,if_neg n7,if_neg n8,if_neg (by omega)])
end
section
open Go.RowKit
theorem ZnP (x:Ins) (n:Nat) (b:Nat) (w:World) (hn:n≤1000) (hc:w.cell? ⟨b,0,none⟩=some (.int .i64 n)) :
  Calls Tryz.prog 206 #[.agg #[.int .i64 x.d,.int .i64 x.a,.int .i64 x.b,.int .i64 x.c],ZQ.p b] w fun e w'=>e=.returned (.bool (!ZnJ x n))∧Below w.heap.size w w':=by
 have hl:b<w.heap.size:=Zac hc;go_enter Tryz.func206,Tryz.ntmps206
 go_wp2_with fail
 refine (ZnO x n _ (by omega) (by omega)).mono ?_;rintro e c ⟨rfl,a⟩
 go_wp2_with fail
 go_ret;exact ⟨rfl,((Below.refl w.heap.size w).alloc (Nat.le_refl _) _).trans (a.mono (by simp))⟩
theorem ZnQ (h:Int) (n:Nat) (b:Nat) (w:World) (hc:w.cell? ⟨b,0,none⟩=some (.int .i64 n)) :
  Calls Tryz.prog 208 #[.int .i64 h,ZQ.p b] w fun e w'=>e=.returned (.bool (!inB h (-1) (n-1)))∧w=w':=by
 by_cases h1:h < -1
 all_goals
  go_enter Tryz.func208,Tryz.ntmps208;go_wp2;go_ret;exact ⟨Zaa (by rw [Bool.eq_iff_iff];simp [inB];omega),rfl⟩
theorem ZnF.old {w w':World}{ao:Option Addr}{cap:Nat}{l:List Ins} (h:ZnF w ao cap l) (hb:Below w.heap.size w w'):ZnF w' ao cap l:=SlA.old h hb
theorem ZnR {α:Type}{l:List α}{p:α→Bool}{d:α}{k:Nat} (a:k<l.length) (h:p (l.getD k d)=true):l.any p=true:=by rw [List.any_eq_true];exact ⟨l[k],List.getElem_mem a,by simpa [a] using h⟩
theorem ZnS {α:Type}{l:List α}{p:α→Bool}{d:α} (h:∀ i,i<l.length→p (l.getD i d)=false):l.any p=false:=by rw [List.any_eq_false];intro x c;obtain ⟨i,a,rfl⟩:=List.getElem_of_mem c;have:=h i a;simpa [a] using this
section
variable (l:List Ins)(ao:Option Addr)(cap n b:Nat)(w:World)(hn:n≤1000)(hlen:l.length≤1000)(hl:ZnF w ao cap l)(hc:w.cell? ⟨b,0,none⟩=some (.int .i64 n))
include l ao cap n b w hn hlen hl hc
theorem ZnT:
  Calls Tryz.prog 279 #[.slice ao l.length cap,.func (Fn.func 206) #[] #[ZQ.p b]] w fun e w'=>(∃ r:Int,e=.returned (.int .i64 r)∧decide (0≤r)=l.any (fun x=>!ZnJ x n))∧Below w.heap.size w w':=by
 have v:∀ A W,(callFunc 206 A).run Tryz.prog W=.ok (.enter 206 A) W:=fun A W=>by kernel_rfl
 have m:=Zh hl;have h:=Zh hc;clear hl hc;go_enter Tryz.func279,Tryz.ntmps279;go_wp2
 go_loopw [8] (fun i wr=>∃ (k:Nat),k≤l.length∧i=.int .i64 k∧Below w.heap.size w wr∧(∀ i,i<k→(!ZnJ (l.getD i default) n)=false)) (fun i _=>l.length-(intOf i).toNat)
 case atStart=>exact ⟨0,by omega,rfl,Below.refl _ _,by omega⟩
 case round=>
  obtain ⟨k,y,rfl,a,j⟩:=hrel;have c:=Zh a;have Q1:=Zh j;clear a j;by_cases hkl:k<l.length
  ·obtain ⟨u,rfl,o,q,s,t⟩:=(m.out.old c.out).cell hkl;obtain ⟨x,g⟩:∃ x,x=l.getD k default:=⟨_,rfl⟩;rw [←g] at o q s t;have HX:=Zh g;clear g
   go_wp2_with fail
   refine (ZnP x n b _ hn (by rw [c.out.cell (Zac h.out)];exact h.out)).mono ?_;rintro e z ⟨rfl,f⟩;have HL1:=Zh (Zaf c.out f);rcases hI:ZnJ x n with _|_
   ·go_wp2;go_ret;exact ⟨⟨_,rfl,by rw [ZnR (d:=default) hkl (by rw [←HX.out];simp [hI])];simp⟩,HL1.out⟩
   ·exact j12
  ·go_wp2;go_ret;exact ⟨⟨_,rfl,(ZnS (d:=default) fun i hi=>Q1.out i (by omega)).symm⟩,c.out⟩
theorem ZnU:
  Calls Tryz.prog 205 #[.slice ao l.length cap,.func (Fn.func 206) #[] #[ZQ.p b]] w fun e w'=>e=.returned (.bool (l.any fun x=>!ZnJ x n))∧Below w.heap.size w w':=by
 have c:=Zh hl;have a:=Zh hc;clear hl hc;go_enter Tryz.func205,Tryz.ntmps205
 go_wp2_with fail
 refine (ZnT l ao cap n b w hn hlen c.out a.out).mono ?_;exact j20
end
theorem ZnV (l:List Int) (ao:Option Addr) (cap n b:Nat) (w:World) (_hn:n≤1000) (hlen:l.length≤1000) (hl:SlA w 1 ao l.length cap (l.map (Value.int .i64))) (hc:w.cell? ⟨b,0,none⟩=some (.int .i64 n)) :
  Calls Tryz.prog 178 #[.slice ao l.length cap,.func (Fn.func 208) #[] #[ZQ.p b]] w fun e w'=>(∃ r:Int,e=.returned (.int .i64 r)∧decide (0≤r)=l.any (fun x=>!inB x (-1) (n-1)))∧Below w.heap.size w w':=by
 have q:∀ A W,(callFunc 208 A).run Tryz.prog W=.ok (.enter 208 A) W:=fun A W=>by kernel_rfl
 have j:=Zh hl;have g:=Zh hc;clear hl hc;go_enter Tryz.func178,Tryz.ntmps178;go_wp2
 go_loopw [8] (fun i wr=>∃ (k:Nat),k≤l.length∧i=.int .i64 k∧Below w.heap.size w wr∧(∀ i,i<k→(!inB (l.getD i 0) (-1) (n-1))=false)) (fun i _=>l.length-(intOf i).toNat)
 case atStart=>exact ⟨0,by omega,rfl,Below.refl _ _,by omega⟩
 case round=>
  obtain ⟨k,s,rfl,a,h⟩:=hrel;have c:=Zh a;have Q1:=Zh h;clear a h;by_cases hkl:k<l.length
  ·obtain ⟨o,rfl,m⟩:=ZnM (SlA.old j.out c.out) hkl;obtain ⟨x,f⟩:∃ x,x=l.getD k 0:=⟨_,rfl⟩;rw [←f] at m;have HX:=Zh f;clear f
   go_wp2_with fail
   refine (ZnQ x n b _ (by rw [c.out.cell (Zac g.out)];exact g.out)).mono ?_;rintro e t ⟨rfl,rfl⟩;have HL1:=Zh c.out;rcases hI:inB x (-1) (n-1) with _|_
   ·go_wp2;go_ret;exact ⟨⟨_,rfl,by rw [ZnR (d:=0) hkl (by rw [←HX.out];simp [hI])];simp⟩,HL1.out⟩
   ·exact j12
  ·go_wp2;go_ret;exact ⟨⟨_,rfl,(ZnS (d:=0) fun i hi=>Q1.out i (by omega)).symm⟩,c.out⟩
theorem ZnW (l:List Int) (ao:Option Addr) (cap n b:Nat) (w:World) (hn:n≤1000) (hlen:l.length≤1000) (hl:SlA w 1 ao l.length cap (l.map (Value.int .i64))) (hc:w.cell? ⟨b,0,none⟩=some (.int .i64 n)) :
  Calls Tryz.prog 117 #[.slice ao l.length cap,.func (Fn.func 208) #[] #[ZQ.p b]] w fun e w'=>e=.returned (.bool (l.any fun x=>!inB x (-1) (n-1)))∧Below w.heap.size w w':=by
 have c:=Zh hl;have a:=Zh hc;clear hl hc;go_enter Tryz.func117,Tryz.ntmps117
 go_wp2_with fail
 refine (ZnV l ao cap n b w hn hlen c.out a.out).mono ?_;exact j20
theorem ZnX {c:Cd} (a:1≤c.l.length) (d:c.l.length≤600) (e:c.h.length=c.l.length):ZnK c=(!(c.l.any fun x=>!ZnJ x c.l.length)&&!(c.h.any fun n=>!inB n (-1) (c.l.length-1))):=by simp [ZnK,a,d,e,List.all_eq_not_any_not]
theorem ZnY (W:World) (lo:Option Addr) (lc:Nat) (h:Option Addr) (hc:Nat) (c:Cd) (g:ZnH W lo lc h hc c) :
    Calls Tryz.prog 141 #[.agg #[.slice lo c.l.length lc,.slice h c.h.length hc]] W fun e w'=>e=.returned (.bool (ZnK c))∧Below W.heap.size W w':=by
 by_cases hlen:1≤c.l.length∧c.l.length≤600∧c.h.length=c.l.length
 · obtain ⟨o,p,j⟩:=hlen;rw [j];have i:=Zh j;clear j;have m:=Zh g;clear g;go_enter Tryz.func141,Tryz.ntmps141
   go_wp2_with fail
   have f:=Zh (((Below.refl W.heap.size W).alloc (Nat.le_refl _) (.cells #[.slice lo c.l.length lc,.slice h c.l.length hc] 111)).alloc (by simp) (.cells #[.int .i64 c.l.length] 3));refine (ZnU c.l lo lc c.l.length (W.heap.size+1) _ (by omega) (by omega) (m.out.l.old f.out) (by go_simp)).mono ?_;rintro e r ⟨rfl,d⟩;have a:=Zh (f.out.trans (d.mono (by simp;omega)));have t:r.cell? ⟨W.heap.size,1,none⟩=some (.slice h c.l.length hc):=by rw [d.cell (by simp;omega)];go_simp
   have s:r.cell? ⟨W.heap.size+1,0,none⟩=some (.int .i64 c.l.length):=by rw [d.cell (by simp)];go_simp
   rcases hI:c.l.any (fun x=>!ZnJ x c.l.length) with _|_
   · go_wp2_with fail
     have q:=ZnW c.h h hc c.l.length (W.heap.size+1) _ (by omega) (by have:=i.out;omega) (m.out.h.old a.out) s;rw [i.out] at q;refine q.mono ?_;rintro e u ⟨rfl,k⟩;go_wp2;go_ret;exact ⟨Zaa (by rw [ZnX o p i.out,hI];simp),Zaf a.out k⟩
   · go_wp2;go_ret;exact ⟨Zaa (by rw [ZnX o p i.out,hI];simp),a.out⟩
 · go_enter Tryz.func141,Tryz.ntmps141
   go_wp2_with fail
   all_goals try (exfalso;simp only [bne_eq_false_iff_eq] at *;omega)
   all_goals
     (go_ret
      exact ⟨Zaa (ZnL (by omega)).symm,((Below.refl _ _).alloc (Nat.le_refl _) _).alloc (by simp) _⟩)
end
