/- Joined texts. The first: The functions of layer 1 (word) and of its reference, each by a contract: part one, what has no memory but the list that 'words' reads. -/
import Derived.Test.YtcfjblcgceednaaGreatG22
import Derived.Lib.AppendZeros
import Derived.Lib.SmallJoins
set_option linter.all false
set_option linter.unusedVariables false
set_option linter.unusedSimpArgs false
set_option maxRecDepth 100000
set_option maxHeartbeats 8000000
namespace Go.Proofs.YtcfjblcgceednaaGreat
theorem j3{p:Prop}(h:p:=by
 go_wp2
 go_roundw
 case rel=>
  refine ⟨k+1,by omega,by go_num,HL1.out,fun i hi=>?_⟩
  by_cases hik:i<k
  ·exact Q1.out i hik
  ·obtain rfl:i=k:=by omega
   rw [←HX.out];simp [hI]
 case measure=>simp [intOf];omega):p:=h
theorem j6{p:Prop}(h:p:=by
 rintro e w1 ⟨⟨r,rfl,hr⟩,hb1⟩
 have HR:=Zh hr
 clear hr
 go_wp2
 go_ret
 exact ⟨Zaa HR.out,hb1⟩):p:=h
section
open Go.RowKit
def vB (n:Int):Bool:=decide (-2147483648≤n)&&decide (n≤2147483647)
theorem Zm6 {a:Int}:vB a=true↔-2147483648≤a∧a≤2147483647:=by simp [vB]
theorem ww (n:Int):wrap64 (wrap32 n)=wrap32 n:=by unfold wrap64 wrap32;omega
theorem Zm7 (n:Int) (w:World) :
  Calls Tryz.prog 143 #[.int .i64 n] w fun e w'=>e=.returned (.bool (vB n))∧w=w':=by
 go_enter Tryz.func143,Tryz.ntmps143
 by_cases h:-2147483648≤n
 all_goals
  go_wp2
  go_ret
  exact ⟨Zaa (by simp [vB];try omega),rfl⟩
def Zm8:List Int→Bool
 | []=>true
 | x :: r=>vB x&&Zm8 r
theorem Zm9 (xs:List Int) (k:Nat) (h:k<xs.length):Zm8 (xs.take (k+1))=(Zm8 (xs.take k)&&vB (xs.getD k 0)):=by
 induction xs generalizing k with
 | nil=>simp at h
 |cons x r ih=>
  cases k with
  | zero=>simp [Zm8]
  | succ k=>simp at h;simp [Zm8,ih k (by omega),Bool.and_assoc]
theorem Zna (xs:List Int) (k:Nat) (h:k<xs.length) (hk:vB (xs.getD k 0)=false):Zm8 xs=false:=by
 induction xs generalizing k with
 | nil=>simp at h
 |cons x r ih=>
  cases k with
  | zero=>simp at hk;simp [Zm8,hk]
  | succ k=>simp at h hk;simp [Zm8,ih k (by omega) (by simpa using hk)]
theorem Znb (a:Addr) (xs:List Int) (w:World) (h0:0<xs.length) (hl:xs.length≤10) (hc:∀ i,i<xs.length→w.cell? (a.add i)=some (.int .i64 (xs.getD i 0))) :
  Calls Tryz.prog 286 #[.slice (some a) xs.length xs.length] w fun e w'=>e=.returned (.bool (Zm8 xs))∧w=w':=by
 go_enter Tryz.func286,Tryz.ntmps286
 go_wp2
 go_loop [7] (fun i=>∃ k:Nat,k≤xs.length∧i=.int .i64 k∧Zm8 (xs.take k)=true) (fun i=>xs.length-(intOf i).toNat)
 case atStart=>exact ⟨0,by omega,rfl,rfl⟩
 case round=>
  obtain ⟨k,hk,rfl,ha⟩:=hrel
  by_cases hlt:k<xs.length
  ·have hcell:=hc k hlt
   have ht:=Zm9 xs k hlt
   have hf:=Zna xs k hlt
   revert hcell ht hf
   generalize xs.getD k 0=x
   intro hcell ht hf
   have HT:=Zh ht
   have HA:=Zh ha
   have HF:=Zh hf
   clear ht ha hf hc
   cases hv:vB x
   all_goals
    have HV:=Zh hv
    go_wp2_with (go_at_call 143;refine (Zm7 _ _).mono ?_;rintro e w' ⟨rfl,rfl⟩)
   ·go_ret
    exact ⟨Zaa (HF.out HV.out).symm,rfl⟩
   ·go_round
    case rel=>exact ⟨k+1,by omega,by go_num,by rw [HT.out,HA.out,HV.out];rfl⟩
    case measure=>simp [intOf];omega
  ·have he:k=xs.length:=by omega
   have HA:Hid (Zm8 xs=true):=by rw [he,List.take_length] at ha;exact Zh ha
   clear ha hc he
   go_wp2
   go_ret
   exact ⟨Zaa HA.out.symm,rfl⟩
theorem Znc (a b:Int) (ad:Addr) (w:World) (h0:w.cell? ad=some (.int .i64 a)) (h1:w.cell? (ad.add 1)=some (.int .i64 b)) :
  Calls Tryz.prog 286 #[.slice (some ad) 2 2] w fun e w'=>e=.returned (.bool (vB a&&vB b))∧w=w':=by
 refine (Znb ad [a,b] w (by simp) (by simp) ?_).mono ?_
 ·intro i hi
  match i,hi with
  | 0,_=>simpa [Addr.add] using h0
  | 1,_=>simpa using h1
 ·rintro e w' ⟨rfl,rfl⟩
  exact ⟨by simp [Zm8],rfl⟩
theorem Znd (n:Int) (w:World):Calls Tryz.prog 283 #[.int .i64 n] w fun e w'=>e=.returned (.int .i64 (wrap32 n))∧w=w':=by
 go_enter Tryz.func283,Tryz.ntmps283
 go_wp2
 go_ret
 exact ⟨congrArg (fun z=>Ending.returned (.int .i64 z)) (ww n),rfl⟩
end
section
open Go.RowKit
theorem Zne (a b:Int) (w:World):Calls Tryz.prog 282 #[.int .i64 a,.int .i64 b] w fun e w'=>e=.returned (.int .i64 (wrap64 (a+b)))∧w=w':=by
 go_enter Tryz.func282,Tryz.ntmps282
 go_wp2
 go_ret
 exact ⟨rfl,rfl⟩
theorem Znf (f g:Nat) (a b c d:Int) (w:World) (hv:(vB a&&vB b)=true)
  (cf:∀ A W,(callFunc f A).run Tryz.prog W=.ok (.enter f A) W) (cg:∀ A W,(callFunc g A).run Tryz.prog W=.ok (.enter g A) W)
  (hf:∀ W,Calls Tryz.prog f #[.int .i64 a,.int .i64 b] W fun e w'=>e=.returned (.int .i64 c)∧W=w')
  (hg:∀ W,Calls Tryz.prog g #[.int .i64 c] W fun e w'=>e=.returned (.int .i64 d)∧W=w') :
  Calls Tryz.prog 281 #[.int .i64 a,.int .i64 b,.func (.func f) #[] #[],.func (.func g) #[] #[]] w fun e w'=>e=.returned (.tuple #[.int .i64 d,.int .i64 0])∧Below w.heap.size w w':=by
 have HF:=Zh hf
 have HG:=Zh hg
 clear hf hg
 go_enter Tryz.func281,Tryz.ntmps281
 go_wp2_with (first|(go_at_call 286;refine (Znc a b _ _ (by simp [go_sem]) (by simp [go_sem,Addr.add])).mono ?_;rintro e w' ⟨rfl,rfl⟩)|(refine (HF.out _).mono ?_;rintro e w' ⟨rfl,rfl⟩)|(refine (HG.out _).mono ?_;rintro e w' ⟨rfl,rfl⟩))
 go_ret2
 exact ⟨rfl,(Below.refl _ _).alloc (Nat.le_refl _) _⟩
theorem Zng (A:Array Value) (W:World):(callFunc 282 A).run Tryz.prog W=.ok (.enter 282 A) W:=by kernel_rfl
theorem Znh (A:Array Value) (W:World):(callFunc 283 A).run Tryz.prog W=.ok (.enter 283 A) W:=by kernel_rfl
theorem Zni {a b:Int} (h:(vB a&&vB b)=true):wrap64 (a+b)=a+b:=by
 obtain ⟨h1,h2⟩:vB a=true∧vB b=true:=by simpa using h
 rw [Zm6] at h1 h2;exact IntWalk.wrap64_in _ (by omega)
theorem Znj (a b:Int) (w:World) (hv:(vB a&&vB b)=true) :
  Calls Tryz.prog 209 #[.int .i64 a,.int .i64 b] w fun e w'=>e=.returned (.tuple #[.int .i64 (wrap32 (a+b)),.int .i64 0])∧Below w.heap.size w w':=by
 have HV:=Zh hv
 clear hv
 go_enter Tryz.func209,Tryz.ntmps209
 go_wp2_with (first|(go_at_call 281;refine (Znf 282 283 _ _ _ _ _ HV.out Zng Znh (fun W=>by have h:=Zne a b W;rw [Zni HV.out] at h;exact h) (Znd _)).mono ?_;rintro e w' ⟨rfl,hb⟩))
 go_ret2
 exact ⟨rfl,hb⟩
end
section
open Go.RowKit
structure Ins where
 d:Int
 a:Int
 b:Int
 c:Int
 deriving DecidableEq
instance:Inhabited Ins:=⟨⟨0,0,0,0⟩⟩
def Ins.cells (x:Ins):List Value:=[.int .i64 x.d,.int .i64 x.a,.int .i64 x.b,.int .i64 x.c]
def Znk (l:List Ins):List Value:=l.flatMap Ins.cells
theorem Znl (l:List Ins) (i:Nat) (hi:i<l.length) (j:Nat) (hj:j<4):(Znk l)[i*4+j]?=(l.getD i default).cells[j]?:=by
 induction l generalizing i with
 | nil=>cases hi
 |cons x r ih=>
  cases i with
  |zero=>
   simp only [Znk,List.flatMap_cons,Nat.zero_mul,Nat.zero_add,List.getD_cons_zero]
   rw [List.getElem?_append_left (by simp [Ins.cells];omega)]
  |succ i=>
   have h1:=ih i (by simpa using hi)
   simp only [Znk,List.flatMap_cons,List.getD_cons_succ] at h1 ⊢
   rw [List.getElem?_append_right (by simp [Ins.cells];omega),←h1]
   congr 1
   simp [Ins.cells];omega
def Znm (w:World) (ao:Option Addr) (cap:Nat) (l:List Ins):Prop:=SlA w 4 ao l.length cap (Znk l)
theorem Znn (a:Addr) (n j:Nat) (hj:0<j):a.add (n+j)=⟨(a.add n).block,(a.add n).off+j,none⟩:=by
 unfold Addr.add
 rw [if_neg (by omega)]
 split
 ·subst_vars;simp
 ·simp [Nat.add_assoc]
theorem Znm.cell {w:World}{ao:Option Addr}{cap:Nat}{l:List Ins} (h:Znm w ao cap l) {i:Nat} (hi:i<l.length) :
  ∃ ad,ao=some ad∧w.cell? (ad.add (i*4))=some (.int .i64 (l.getD i default).d)∧w.cell? ⟨(ad.add (i*4)).block,(ad.add (i*4)).off+1,none⟩=some (.int .i64 (l.getD i default).a)∧w.cell? ⟨(ad.add (i*4)).block,(ad.add (i*4)).off+2,none⟩=some (.int .i64 (l.getD i default).b)∧w.cell? ⟨(ad.add (i*4)).block,(ad.add (i*4)).off+3,none⟩=some (.int .i64 (l.getD i default).c):=by
 obtain ⟨ad,ha,h0⟩:=h.2.2 (i*4+0) _ (Znl l i hi 0 (by omega))
 obtain ⟨ad1,ha1,h1⟩:=h.2.2 (i*4+1) _ (Znl l i hi 1 (by omega))
 obtain ⟨ad2,ha2,h2⟩:=h.2.2 (i*4+2) _ (Znl l i hi 2 (by omega))
 obtain ⟨ad3,ha3,h3⟩:=h.2.2 (i*4+3) _ (Znl l i hi 3 (by omega))
 rw [ha] at ha1 ha2 ha3
 obtain rfl:=Option.some.inj ha1
 obtain rfl:=Option.some.inj ha2
 obtain rfl:=Option.some.inj ha3
 rw [Znn _ _ _ (by decide)] at h1 h2 h3
 exact ⟨ad,ha,h0,h1,h2,h3⟩
structure Cd where
 l:List Ins
 h:List Int
 deriving DecidableEq
structure Zno (w:World) (lo:Option Addr) (lc:Nat) (ho:Option Addr) (hc:Nat) (c:Cd):Prop where
 l:Znm w lo lc c.l
 h:SlA w 1 ho c.h.length hc (c.h.map (Value.int .i64))
theorem Zno.old {w w':World}{lo ho:Option Addr}{lc hc:Nat}{c:Cd} (h:Zno w lo lc ho hc c) (hb:Below w.heap.size w w'):Zno w' lo lc ho hc c:=⟨SlA.old h.l hb,SlA.old h.h hb⟩
theorem Znm.len {w:World}{ao:Option Addr}{cap:Nat}{l:List Ins} (h:Znm w ao cap l) (hn:0<l.length):∃ ad,ao=some ad:=by
 obtain ⟨ad,ha,_⟩:=h.cell hn
 exact ⟨ad,ha⟩
theorem Znp (w:World) (xs:Array Value) (t:TypeId) {n size:Nat} (h:xs.size=n*size):SlA (w.alloc (.cells xs t)) size (some ⟨w.heap.size,0,none⟩) n n xs.toList:=by
 refine ⟨by simpa using h,(fun h=>by cases h),fun j u hu=>⟨_,rfl,?_⟩⟩
 have hadd:(⟨w.heap.size,0,none⟩:Addr).add j=⟨w.heap.size,j,none⟩:=by unfold Addr.add;split<;>simp_all
 rw [hadd]
 exact (Blk.new w xs t).cell j (by simpa using hu)
theorem Blk.grown {w w':World}{b:Nat}{xs:Array Value}{t:TypeId}{row:Option Nat} (h:Blk w b xs t) (hg:w.grownBy w' row) (hne:some b≠row):Blk w' b xs t:=by
 unfold Blk;rw [hg.block b h.lt hne];exact h
end
section
open Go.RowKit
def inB (n lo hi:Int):Bool:=decide (lo≤n)&&decide (n≤hi)
def rgB (n:Int):Bool:=inB n 0 39
def Znq (x:Ins) (n:Int):Bool:=
 if x.d=0 then inB x.a (-1) 39&&(x.b == 0)&&(x.c == 0)
 else if x.d=1 then rgB x.a&&vB x.b&&(x.c == 0)
 else if x.d=2 then rgB x.a&&rgB x.b&&(x.c == 0)
 else if x.d=4 then inB x.a 0 (n-1)&&(x.b == 0)&&(x.c == 0)
 else if x.d=5 then inB x.a 0 (n-1)&&rgB x.b&&(x.c == 0)
 else if x.d=6 then inB x.a 0 3&&rgB x.b&&(x.c == 0)
 else if x.d=7 then inB x.a 1 17&&(x.b == 0)&&(x.c == 0)
 else if x.d=8 then inB x.a 0 (n-1)&&rgB x.b&&rgB x.c
 else if 11≤x.d∧x.d≤16 then rgB x.a&&rgB x.b&&rgB x.c
 else false
def Znr (c:Cd):Bool:=decide (1≤c.l.length)&&decide (c.l.length≤600)&&decide (c.h.length=c.l.length)&&c.l.all (fun x=>Znq x c.l.length)&&c.h.all (fun n=>inB n (-1) (c.l.length-1))
theorem Zns {c:Cd} (h:¬ (1≤c.l.length∧c.l.length≤600∧c.h.length=c.l.length)):Znr c=false:=by
 cases hc:Znr c
 ·rfl
 ·exfalso;apply h;simp [Znr] at hc;obtain ⟨⟨⟨⟨h1,h2⟩,h3⟩,_⟩,_⟩:=hc;exact ⟨h1,h2,h3⟩
theorem Znt {w:World}{ao:Option Addr}{n cap:Nat}{zs:List Int} (h:SlA w 1 ao n cap (zs.map (Value.int .i64))) {i:Nat} (hi:i<zs.length):∃ ad,ao=some ad∧w.cell? (ad.add i)=some (.int .i64 (zs.getD i 0)):=by
 obtain ⟨a,ha,hc⟩:=h.2.2 i (.int .i64 (zs.getD i 0)) (by rw [List.getElem?_map,List.getElem?_eq_getElem hi];simp [hi])
 exact ⟨a,ha,hc⟩
end
section
open Go.RowKit
theorem Znu (n:Int) (w:World) :
  Calls Tryz.prog 280 #[.int .i64 n] w fun e w'=>e=.returned (.bool (rgB n))∧w=w':=by
 go_enter Tryz.func280,Tryz.ntmps280
 by_cases h:0≤n
 all_goals
  go_wp2
  go_ret
  exact ⟨Zaa (by rw [Bool.eq_iff_iff];simp [rgB,inB];omega),rfl⟩
theorem Znv (x:Ins) (n:Int) (w:World) (_h0:0≤n) (_h1:n≤1000) :
  Calls Tryz.prog 207 #[.agg #[.int .i64 x.d,.int .i64 x.a,.int .i64 x.b,.int .i64 x.c],.int .i64 n] w fun e w'=>e=.returned (.bool (Znq x n))∧Below w.heap.size w w':=by
 obtain ⟨d,a,b,c⟩:=x
 dsimp only
 rcases (show d=0∨d=1∨d=2∨d=4∨d=5∨d=6∨d=7∨d=8∨d=11∨d=12∨d=13∨d=14∨d=15∨d=16∨(d≠0∧d≠1∧d≠2∧d≠4∧d≠5∧d≠6∧d≠7∧d≠8∧d≠11∧d≠12∧d≠13∧d≠14∧d≠15∧d≠16) by omega) with rfl|rfl|rfl|rfl|rfl|rfl|rfl|rfl|rfl|rfl|rfl|rfl|rfl|rfl|⟨n0,n1,n2,n4,n5,n6,n7,n8,n11,n12,n13,n14,n15,n16⟩
 all_goals
  go_enter Tryz.func207,Tryz.ntmps207
  go_wp2_with (first
   | (go_at_call 280;refine (Znu _ _).mono ?_;rintro e w' ⟨rfl,rfl⟩)
   | (go_at_call 143;refine (Zm7 _ _).mono ?_;rintro e w' ⟨rfl,rfl⟩))
  all_goals
   go_ret
   refine ⟨Zaa ?_,(Below.refl _ _).alloc (Nat.le_refl _) _⟩
   first
    | (simp [Znq,inB,rgB,vB] at *;done)
    | (simp [Znq,inB,rgB,vB] at *;omega)
    | (rw [Bool.eq_iff_iff];simp [Znq,inB,rgB,vB] at *;done)
    | (rw [Bool.eq_iff_iff];simp [Znq,inB,rgB,vB] at *;omega)
    | (clear _h0;unfold Znq;dsimp only;rw [if_neg n0,if_neg n1,if_neg n2,if_neg n4,if_neg n5,if_neg n6,if_neg n7,if_neg n8,if_neg (by omega)])
end
section
open Go.RowKit
theorem Znw (x:Ins) (n:Nat) (b:Nat) (w:World) (hn:n≤1000) (hc:w.cell? ⟨b,0,none⟩=some (.int .i64 n)) :
  Calls Tryz.prog 206 #[.agg #[.int .i64 x.d,.int .i64 x.a,.int .i64 x.b,.int .i64 x.c],.pointer (some ⟨b,0,none⟩)] w fun e w'=>e=.returned (.bool (!Znq x n))∧Below w.heap.size w w':=by
 have hl:b<w.heap.size:=Zac hc
 go_enter Tryz.func206,Tryz.ntmps206
 go_wp2_with fail
 refine (Znv x n _ (by omega) (by omega)).mono ?_
 rintro e w1 ⟨rfl,hb1⟩
 go_wp2_with fail
 go_ret
 exact ⟨rfl,((Below.refl w.heap.size w).alloc (Nat.le_refl _) _).trans (hb1.mono (by simp))⟩
theorem Znx (h:Int) (n:Nat) (b:Nat) (w:World) (hc:w.cell? ⟨b,0,none⟩=some (.int .i64 n)) :
  Calls Tryz.prog 208 #[.int .i64 h,.pointer (some ⟨b,0,none⟩)] w fun e w'=>e=.returned (.bool (!inB h (-1) (n-1)))∧w=w':=by
 by_cases h1:h < -1
 all_goals
  go_enter Tryz.func208,Tryz.ntmps208
  go_wp2
  go_ret
  exact ⟨Zaa (by rw [Bool.eq_iff_iff];simp [inB];omega),rfl⟩
theorem Znm.old {w w':World}{ao:Option Addr}{cap:Nat}{l:List Ins} (h:Znm w ao cap l) (hb:Below w.heap.size w w'):Znm w' ao cap l:=SlA.old h hb
theorem Zny {α:Type}{l:List α}{p:α→Bool}{d:α}{k:Nat} (hk:k<l.length) (h:p (l.getD k d)=true):l.any p=true:=by
 rw [List.any_eq_true]
 exact ⟨l[k],List.getElem_mem hk,by simpa [hk] using h⟩
theorem Znz {α:Type}{l:List α}{p:α→Bool}{d:α} (h:∀ i,i<l.length→p (l.getD i d)=false):l.any p=false:=by
 rw [List.any_eq_false]
 intro x hx
 obtain ⟨i,hi,rfl⟩:=List.getElem_of_mem hx
 have:=h i hi
 simpa [hi] using this
section
variable (l:List Ins)(ao:Option Addr)(cap n b:Nat)(w:World)(hn:n≤1000)(hlen:l.length≤1000)(hl:Znm w ao cap l)(hc:w.cell? ⟨b,0,none⟩=some (.int .i64 n))
include l ao cap n b w hn hlen hl hc
theorem ZnA:
  Calls Tryz.prog 279 #[.slice ao l.length cap,.func (Fn.func 206) #[] #[.pointer (some ⟨b,0,none⟩)]] w fun e w'=>(∃ r:Int,e=.returned (.int .i64 r)∧decide (0≤r)=l.any (fun x=>!Znq x n))∧Below w.heap.size w w':=by
 have cf:∀ A W,(callFunc 206 A).run Tryz.prog W=.ok (.enter 206 A) W:=fun A W=>by kernel_rfl
 have HI:=Zh hl
 have HC:=Zh hc
 clear hl hc
 go_enter Tryz.func279,Tryz.ntmps279
 go_wp2
 go_loopw [8] (fun i wr=>∃ (k:Nat),k≤l.length∧i=.int .i64 k∧Below w.heap.size w wr∧(∀ i,i<k→(!Znq (l.getD i default) n)=false)) (fun i _=>l.length-(intOf i).toNat)
 case atStart=>exact ⟨0,by omega,rfl,Below.refl _ _,by omega⟩
 case round=>
  obtain ⟨k,hk,rfl,hbel,q1⟩:=hrel
  have HL:=Zh hbel
  have Q1:=Zh q1
  clear hbel q1
  by_cases hkl:k<l.length
  ·obtain ⟨ad,rfl,e0,e1,e2,e3⟩:=(HI.out.old HL.out).cell hkl
   obtain ⟨x,hx⟩:∃ x,x=l.getD k default:=⟨_,rfl⟩
   rw [←hx] at e0 e1 e2 e3
   have HX:=Zh hx
   clear hx
   go_wp2_with fail
   refine (Znw x n b _ hn (by rw [HL.out.cell (Zac HC.out)];exact HC.out)).mono ?_
   rintro e w1 ⟨rfl,hb1⟩
   have HL1:=Zh (Zaf HL.out hb1)
   rcases hI:Znq x n with _|_
   ·go_wp2
    go_ret
    exact ⟨⟨_,rfl,by rw [Zny (d:=default) hkl (by rw [←HX.out];simp [hI])];simp⟩,HL1.out⟩
   ·exact j3
  ·go_wp2
   go_ret
   exact ⟨⟨_,rfl,(Znz (d:=default) fun i hi=>Q1.out i (by omega)).symm⟩,HL.out⟩
theorem ZnB:
  Calls Tryz.prog 205 #[.slice ao l.length cap,.func (Fn.func 206) #[] #[.pointer (some ⟨b,0,none⟩)]] w fun e w'=>e=.returned (.bool (l.any fun x=>!Znq x n))∧Below w.heap.size w w':=by
 have HI:=Zh hl
 have HC:=Zh hc
 clear hl hc
 go_enter Tryz.func205,Tryz.ntmps205
 go_wp2_with fail
 refine (ZnA l ao cap n b w hn hlen HI.out HC.out).mono ?_
 exact j6
end
theorem ZnC (l:List Int) (ao:Option Addr) (cap n b:Nat) (w:World) (_hn:n≤1000) (hlen:l.length≤1000) (hl:SlA w 1 ao l.length cap (l.map (Value.int .i64))) (hc:w.cell? ⟨b,0,none⟩=some (.int .i64 n)) :
  Calls Tryz.prog 178 #[.slice ao l.length cap,.func (Fn.func 208) #[] #[.pointer (some ⟨b,0,none⟩)]] w fun e w'=>(∃ r:Int,e=.returned (.int .i64 r)∧decide (0≤r)=l.any (fun x=>!inB x (-1) (n-1)))∧Below w.heap.size w w':=by
 have cf:∀ A W,(callFunc 208 A).run Tryz.prog W=.ok (.enter 208 A) W:=fun A W=>by kernel_rfl
 have HI:=Zh hl
 have HC:=Zh hc
 clear hl hc
 go_enter Tryz.func178,Tryz.ntmps178
 go_wp2
 go_loopw [8] (fun i wr=>∃ (k:Nat),k≤l.length∧i=.int .i64 k∧Below w.heap.size w wr∧(∀ i,i<k→(!inB (l.getD i 0) (-1) (n-1))=false)) (fun i _=>l.length-(intOf i).toNat)
 case atStart=>exact ⟨0,by omega,rfl,Below.refl _ _,by omega⟩
 case round=>
  obtain ⟨k,hk,rfl,hbel,q1⟩:=hrel
  have HL:=Zh hbel
  have Q1:=Zh q1
  clear hbel q1
  by_cases hkl:k<l.length
  ·obtain ⟨ad,rfl,e0⟩:=Znt (SlA.old HI.out HL.out) hkl
   obtain ⟨x,hx⟩:∃ x,x=l.getD k 0:=⟨_,rfl⟩
   rw [←hx] at e0
   have HX:=Zh hx
   clear hx
   go_wp2_with fail
   refine (Znx x n b _ (by rw [HL.out.cell (Zac HC.out)];exact HC.out)).mono ?_
   rintro e w1 ⟨rfl,rfl⟩
   have HL1:=Zh HL.out
   rcases hI:inB x (-1) (n-1) with _|_
   ·go_wp2
    go_ret
    exact ⟨⟨_,rfl,by rw [Zny (d:=0) hkl (by rw [←HX.out];simp [hI])];simp⟩,HL1.out⟩
   ·exact j3
  ·go_wp2
   go_ret
   exact ⟨⟨_,rfl,(Znz (d:=0) fun i hi=>Q1.out i (by omega)).symm⟩,HL.out⟩
theorem ZnD (l:List Int) (ao:Option Addr) (cap n b:Nat) (w:World) (hn:n≤1000) (hlen:l.length≤1000) (hl:SlA w 1 ao l.length cap (l.map (Value.int .i64))) (hc:w.cell? ⟨b,0,none⟩=some (.int .i64 n)) :
  Calls Tryz.prog 117 #[.slice ao l.length cap,.func (Fn.func 208) #[] #[.pointer (some ⟨b,0,none⟩)]] w fun e w'=>e=.returned (.bool (l.any fun x=>!inB x (-1) (n-1)))∧Below w.heap.size w w':=by
 have HI:=Zh hl
 have HC:=Zh hc
 clear hl hc
 go_enter Tryz.func117,Tryz.ntmps117
 go_wp2_with fail
 refine (ZnC l ao cap n b w hn hlen HI.out HC.out).mono ?_
 exact j6
theorem ZnE {c:Cd} (h1:1≤c.l.length) (h2:c.l.length≤600) (h3:c.h.length=c.l.length):Znr c=(!(c.l.any fun x=>!Znq x c.l.length)&&!(c.h.any fun n=>!inB n (-1) (c.l.length-1))):=by
 simp [Znr,h1,h2,h3,List.all_eq_not_any_not]
theorem ZnF (W:World) (lo:Option Addr) (lc:Nat) (ho:Option Addr) (hc:Nat) (c:Cd) (hcd:Zno W lo lc ho hc c) :
    Calls Tryz.prog 141 #[.agg #[.slice lo c.l.length lc,.slice ho c.h.length hc]] W fun e w'=>e=.returned (.bool (Znr c))∧Below W.heap.size W w':=by
 by_cases hlen:1≤c.l.length∧c.l.length≤600∧c.h.length=c.l.length
 · obtain ⟨g1,g2,g3⟩:=hlen
   rw [g3]
   have HN:=Zh g3
   clear g3
   have HC:=Zh hcd
   clear hcd
   go_enter Tryz.func141,Tryz.ntmps141
   go_wp2_with fail
   have hb0:=Zh (((Below.refl W.heap.size W).alloc (Nat.le_refl _) (.cells #[.slice lo c.l.length lc,.slice ho c.l.length hc] 111)).alloc (by simp) (.cells #[.int .i64 c.l.length] 3))
   refine (ZnB c.l lo lc c.l.length (W.heap.size+1) _ (by omega) (by omega) (HC.out.l.old hb0.out) (by go_simp)).mono ?_
   rintro e w1 ⟨rfl,hb1⟩
   have hL1:=Zh (hb0.out.trans (hb1.mono (by simp;omega)))
   have c1:w1.cell? ⟨W.heap.size,1,none⟩=some (.slice ho c.l.length hc):=by rw [hb1.cell (by simp;omega)];go_simp
   have c2:w1.cell? ⟨W.heap.size+1,0,none⟩=some (.int .i64 c.l.length):=by rw [hb1.cell (by simp)];go_simp
   rcases hI:c.l.any (fun x=>!Znq x c.l.length) with _|_
   · go_wp2_with fail
     have hq:=ZnD c.h ho hc c.l.length (W.heap.size+1) _ (by omega) (by have:=HN.out;omega) (HC.out.h.old hL1.out) c2
     rw [HN.out] at hq
     refine hq.mono ?_
     rintro e w2 ⟨rfl,hb2⟩
     go_wp2
     go_ret
     exact ⟨Zaa (by rw [ZnE g1 g2 HN.out,hI];simp),Zaf hL1.out hb2⟩
   · go_wp2
     go_ret
     exact ⟨Zaa (by rw [ZnE g1 g2 HN.out,hI];simp),hL1.out⟩
 · go_enter Tryz.func141,Tryz.ntmps141
   go_wp2_with fail
   all_goals try (exfalso;simp only [bne_eq_false_iff_eq] at *;omega)
   all_goals
     (go_ret
      exact ⟨Zaa (Zns (by omega)).symm,((Below.refl _ _).alloc (Nat.le_refl _) _).alloc (by simp) _⟩)
end
section
open Go.RowKit
theorem ZnG:El Tryz.prog 22 99 4 72:=El.mk' (z:=.agg #[.string ⟨#[]⟩,.int .i64 0,.slice none 0 0,.slice none 0 0]) Tryz.underlying22 (by kernel_rfl) (by kernel_rfl) (by decide)
theorem ZnH:El Tryz.prog 24 81 7 112:=El.mk' (z:=.agg #[.string ⟨#[]⟩,.int .i64 0,.slice none 0 0,.slice none 0 0,.int .i64 0,.int .i64 0,.slice none 0 0]) Tryz.underlying24 (by kernel_rfl) (by kernel_rfl) (by decide)
theorem ZnI:El Tryz.prog 79 78 3 24:=El.mk' (z:=.agg #[.int .i64 0,.int .i64 0,.int .i64 0]) Tryz.underlying79 (by kernel_rfl) (by kernel_rfl) (by decide)
def ZnJ {α β:Type} [Inhabited α] (l:List α) (f:Nat→β):Nat→List (α × β)
 | 0=>[]
 | k+1=>ZnJ l f k++[(l.getD k default,f k)]
theorem ZnK {α β:Type} [Inhabited α] (l:List α) (f:Nat→β) (k:Nat):(ZnJ l f k).length=k:=by
 induction k with
 | zero=>rfl
 | succ k ih=>simp [ZnJ,ih]
theorem ZnL {α β:Type} [Inhabited α] (l:List α) {f g:Nat→β}:∀ k,(∀ i,i<k→f i=g i)→ZnJ l f k=ZnJ l g k
 | 0,_=>rfl
 | k+1,h=>by unfold ZnJ;rw [ZnL l k fun i hi=>h i (by omega),h k (by omega)]
theorem ZnM {α β:Type} [Inhabited α] (l:List α) (f:Nat→β):∀ k i,i<k→(ZnJ l f k)[i]?=some (l.getD i default,f i)
 | 0,_,h=>by omega
 |k+1,i,h=>by
  unfold ZnJ
  by_cases hi:i<k
  ·rw [List.getElem?_append_left (by rw [ZnK];exact hi)];exact ZnM l f k i hi
  ·obtain rfl:i=k:=by omega
   rw [List.getElem?_append_right (by rw [ZnK];omega),ZnK];simp
theorem ZnN {α β:Type} [Inhabited α] (l:List α) (f:Nat→β):ZnJ l f l.length=l.mapIdx fun i x=>(x,f i):=by
 refine List.ext_getElem? fun i=>?_
 by_cases hi:i<l.length
 ·rw [ZnM l f l.length i hi];simp [hi]
 ·rw [List.getElem?_eq_none (by rw [ZnK];omega),List.getElem?_eq_none (by simp;omega)]
structure Kp (ts:List TypeId) (N:Nat) (w w':World):Prop where
 bw:Below N w w'
 blk:∀ (k:Nat) (cur:Array Value) (e:TypeId),w.heap[k]?=some (Obj.cells cur e (0,0))→e ∉ ts→w'.heap[k]?=w.heap[k]?
theorem Kp.refl (ts:List TypeId) (N:Nat) (w:World):Kp ts N w w:=⟨Below.refl _ _,fun _ _ _ _ _=>rfl⟩
section
variable {ts:List TypeId}{N:Nat}
include ts N
theorem Kp.trans {a b c:World} (h:Kp ts N a b) (g:Kp ts N b c):Kp ts N a c:=
 ⟨h.bw.trans g.bw,fun k cur e hk h1=>(g.blk k cur e ((h.blk k cur e hk h1).trans hk) h1).trans (h.blk k cur e hk h1)⟩
theorem Kp.of {w w':World} (h:Below w.heap.size w w') (hN:N≤w.heap.size):Kp ts N w w':=
 ⟨h.mono hN,fun k cur e hk _=>h.block k (Array.getElem?_eq_some_iff.1 hk).1⟩
theorem Kp.set {w w':World} (h:Kp ts N w w') {b:Nat} {xs:Array Value} {t:TypeId} (hb:Blk w' b xs t) (ht:t∈ts) (hN:N≤b) (i:Nat) (v:Value):Kp ts N w (w'.setCell ⟨b,i,none⟩ v):=by
 refine h.trans ⟨(Below.refl N w').setCell (p:=⟨b,i,none⟩) hN v,fun k cur e hk h1=>?_⟩
 refine heap_setCell_other w' ⟨b,i,none⟩ k v ?_
 rintro rfl
 rw [show w'.heap[k]?=_ from hb] at hk
 cases hk
 exact h1 ht
theorem Kp.grown {w w':World} {base:Nat} {e:TypeId} {size:Nat} {v:Value} {n:Nat} {xs:List Value} (ho:w.ownsRow base e size v n xs) (hg:w.grownBy w' v.ownBlock) (hN:N≤base) (hs:N≤w.heap.size) (he:e∈ts):Kp ts N w w':=by
 refine ⟨(Below.refl N w).grown hg hs (fun k hk=>Nat.le_trans hN (ho.lt k hk).1),fun k cur e' hk h1=>hg.block k (Array.getElem?_eq_some_iff.1 hk).1 ?_⟩
 intro q
 rcases ho.2 with ⟨hv,_⟩|⟨g,c,cur',hv,_,hh,_⟩
 ·rw [hv] at q;cases q
 ·rw [hv] at q
  cases q
  rw [hk] at hh
  cases hh
  exact h1 he
theorem Kp.own {w w':World} (h:Kp ts N w w') {base:Nat} {e:TypeId} {size:Nat} {v:Value} {n:Nat} {xs:List Value} (ho:w.ownsRow base e size v n xs) (h1:e ∉ ts:=by decide):w'.ownsRow base e size v n xs:=by
 refine ZhI ho fun k hk=>?_
 rcases ho.2 with ⟨hv,_⟩|⟨g,c,cur',hv,_,hh,_⟩
 ·rw [hv] at hk;cases hk
 ·rw [hv] at hk
  cases hk
  exact h.blk g cur' e hh h1
end
theorem ZnO (w:World) (base:Nat) (e:TypeId) (size:Nat) (hb:base≤w.heap.size):(w.alloc (.cells #[] e)).ownsRow base e size (.slice (some ⟨w.heap.size,0,none⟩) 0 0) 0 []:=
 ⟨by simp,.inr ⟨w.heap.size,0,#[],rfl,hb,Blk.new w #[] e,Nat.le_refl _,Nat.zero_le _,by simp,by simp⟩⟩
structure CpC (w:World) (N:Nat) (c:CHd) (x:Cls):Prop where
 f:w.ownsRow N 76 2 (.slice c.fo x.f.length c.fc) x.f.length (Zak x.f)
 m:w.ownsRow N 3 1 (.slice c.mo x.m.length c.mc) x.m.length (Zak x.m)
structure CpM (w:World) (N:Nat) (c:MHd) (x:Mth):Prop where
 p:w.ownsRow N 76 2 (.slice c.po x.p.length c.pc) x.p.length (Zak x.p)
 l:w.ownsRow N 76 2 (.slice c.lo x.l.length c.lc) x.l.length (Zak x.l)
 k:w.ownsRow N 78 3 (.slice c.ko x.k.length c.kc) x.k.length (Zak x.k)
theorem CpC.kp {ts:List TypeId}{w w':World}{N B:Nat}{c:CHd}{x:Cls} (h:CpC w N c x) (hk:Kp ts B w w') (h1:76 ∉ ts:=by decide) (h2:3 ∉ ts:=by decide):CpC w' N c x:=⟨hk.own h.f h1,hk.own h.m h2⟩
theorem CpM.kp {ts:List TypeId}{w w':World}{N B:Nat}{c:MHd}{x:Mth} (h:CpM w N c x) (hk:Kp ts B w w') (h1:76 ∉ ts:=by decide) (h2:78 ∉ ts:=by decide):CpM w' N c x:=⟨hk.own h.p h1,hk.own h.l h1,hk.own h.k h2⟩
structure ZnP (w:World) (N:Nat) (h:Hd) (m:Md):Prop where
 cl:w.ownsRow N 99 4 (.slice h.co m.cl.length h.cc) m.cl.length (Zak (Zau h m))
 st:w.ownsRow N 76 2 (.slice h.so m.st.length h.sc) m.st.length (Zak m.st)
 me:w.ownsRow N 81 7 (.slice h.eo m.me.length h.ec) m.me.length (Zak (Zav h m))
 c:∀ i,i<m.cl.length→CpC w N (h.c i) (m.cl.getD i default)
 m:∀ i,i<m.me.length→CpM w N (h.e i) (m.me.getD i default)
structure ZnQ (m:Md):Prop where
 cl:m.cl.length≤2000000
 st:m.st.length≤2000000
 me:m.me.length≤2000000
 c:∀ i,i<m.cl.length→(m.cl.getD i default).f.length≤2000000∧(m.cl.getD i default).m.length≤2000000
 m:∀ i,i<m.me.length→(m.me.getD i default).p.length≤2000000∧(m.me.getD i default).l.length≤2000000∧(m.me.getD i default).k.length≤2000000
theorem ZnR {w:World}{base:Nat}{e:TypeId}{size:Nat}{ao:Option Addr}{n cap:Nat}{xs:List Value} (h:w.ownsRow base e size (.slice ao n cap) n xs):n≤cap:=by
 rcases h.2 with ⟨hv,hn⟩|⟨g,c,cur,hv,_,_,hn,_⟩
 ·cases hv;omega
 ·cases hv;exact hn
theorem ZnP.at_ {w:World}{N:Nat}{h:Hd}{m:Md} (H:ZnP w N h m) (hs:ZnQ m):Zay w h m where
 cl:=Zar.of_own (by rw [Zaw];exact H.cl)
 st:=Zar.of_own H.st
 me:=Zar.of_own (by rw [Zax];exact H.me)
 f i hi:=Zar.of_own (H.c i hi).f
 t i hi:=Zar.of_own (H.c i hi).m
 p i hi:=Zar.of_own (H.m i hi).p
 l i hi:=Zar.of_own (H.m i hi).l
 k i hi:=Zar.of_own (H.m i hi).k
 bf i hi:=ZnR (H.c i hi).f
 bm i hi:=by have:=hs.m i hi;omega
 bz:=by have:=hs.cl;have:=hs.st;have:=hs.me;omega
end
section
open Go.RowKit
attribute [local go_sem] World.cell?_alloc_some
theorem ZnS (n:Nat) (hn:n≤1000000) (W:World):Calls Tryz.prog 146 #[.slice none 0 0,.int .i64 n] W fun e w'=>(∃ ao cap,e=.returned (.slice ao 0 cap)∧w'.ownsRow W.heap.size 76 2 (.slice ao 0 cap) 0 [])∧Below W.heap.size W w':=by
 have h0:¬ (n:Int) < 0:=by omega
 have hw0:IntKind.i64.wrap ((n:Int)-0)=n:=IntWalk.i64_in _ (by omega)
 by_cases hz:n=0
 ·subst hz
  go_enter Tryz.func146,Tryz.ntmps146
  go_wp2
  go_ret
  exact ⟨⟨none,0,rfl,World.ownsRow_nil _ _ _ _⟩,Below.refl _ _⟩
 ·have h1:(n:Int) > 0:=by omega
  have hA:=Zh (Lib.run_append_nil_zeros (P:=Tryz.prog) W 23 3 23 76 (Tryz.prog.info? 76).get! (.agg #[.int .i64 0,.int .i64 0]) .i64 .i64 Tryz.underlying23 Tryz.underlying3 (by kernel_rfl) (by kernel_rfl) n (by omega) (of_decide_eq_true (by kernel_rfl)) (by omega) (by rw [show (Tryz.prog.info? 76).get!.bytes=16 by kernel_rfl];omega))
  have hge:=grownCap_ge W n 0 76
  have hle:=grownCap_le_maxLen W n 0 76 (by unfold maxLen;omega)
  have HG:=Zh (And.intro hge hle)
  generalize hc:grownCap W n 0 76=c at hA HG
  clear hge hle hc
  go_enter Tryz.func146,Tryz.ntmps146
  go_wp2_with (at_builtin;refine Lib.wpList_append_run _ rfl _ _ _ _ rfl _ _ rfl rfl _ _ hA.out ?_)
  go_ret
  have hg:=HG.out
  refine ⟨⟨_,c,rfl,?_⟩,?_⟩
  ·refine World.ownsRow_made (e:=76) (size:=2) W.drew _ c (Nat.le_refl _) hg.2 ?_
   rw [Array.size_append,size_zeroCells,size_zeroCells]
   show n*2+(c-n)*2=c*2
   omega
  ·exact bal (Below.refl _ _).drew _
def ZnT (w:World) (ao:Option Addr) (cap:Nat) (hs:List SH) (ls:List (List Ty)):Prop:=Zar w ao cap hs∧hs.length=ls.length∧∀ i,i<hs.length→(hs.getD i default).n=(ls.getD i []).length∧Zar w (hs.getD i default).ao (hs.getD i default).c (ls.getD i [])
theorem ZnT.old {w w':World}{ao:Option Addr}{cap:Nat}{hs:List SH}{ls:List (List Ty)} (h:ZnT w ao cap hs ls) (hb:Below w.heap.size w w'):ZnT w' ao cap hs ls:=⟨h.1.old hb,h.2.1,fun i hi=>⟨(h.2.2 i hi).1,(h.2.2 i hi).2.old hb⟩⟩
def ZnU (ls:List (List Ty)) (j:Nat):List Ty:=(ls.take j).flatten
theorem ZnV (ls:List (List Ty)) (j:Nat) (hj:j<ls.length):ZnU ls (j+1)=ZnU ls j++ls.getD j []:=by
 unfold ZnU
 rw [List.take_succ_eq_append_getElem hj,List.flatten_append];simp [hj]
theorem ZnW (ls:List (List Ty)) (j:Nat):(ZnU ls j).length≤ls.flatten.length:=by
 unfold ZnU
 conv=>rhs;rw [←List.take_append_drop j ls,List.flatten_append,List.length_append]
 omega
theorem ZnX (ls:List (List Ty)) {n:Nat} (h:n=ls.length):ZnU ls n=ls.flatten:=by subst h;unfold ZnU;rw [List.take_length]
theorem ZnY (W:World) (ao:Option Addr) (cap n:Nat) (hs:List SH) (ls:List (List Ty)) (H:ZnT W ao cap hs ls) (hn:hs.length=n) (hn9:n≤1000) (hl:ls.flatten.length≤1000000):Calls Tryz.prog 83 #[.slice ao n cap] W (Zfg 76 W ls.flatten):=by
 subst hn
 have HS:=Zh H
 have hln:=H.2.1
 obtain ⟨fl,hfl⟩:∃ fl,fl=ls.flatten:=⟨_,rfl⟩
 have HFl:=Zh hfl.symm
 have HLe:=Zh hl
 rw [←hfl] at hl ⊢
 clear H hfl
 go_enter Tryz.func83,Tryz.ntmps83
 go_wp2
 go_loopw [3,11] (fun s i wr=>∃ j:Nat,j≤hs.length∧i=.int .i64 j∧s=.int .i64 (ZnU ls j).length∧wr=W) (fun _ i _=>hs.length-(intOf i).toNat)
 case atStart=>exact ⟨0,Nat.zero_le _,rfl,rfl,rfl⟩
 case round=>
  obtain ⟨j,hj,rfl,rfl,rfl⟩:=hrel
  rename World=>wo
  by_cases hjl:j<hs.length
  ·have hjl2:(j:Int) < hs.length:=by omega
   have hwj:IntKind.i64.wrap ((j:Int)+1)=((j+1:Nat):Int):=IntWalk.i64_in _ (by omega)
   have hf:=ZnV ls j (by omega)
   have hf2:=Nat.le_trans (ZnW ls (j+1)) HLe.out
   have h2:=(HS.out.2.2 j hjl).1
   obtain ⟨ad,rfl,c0⟩:=ZlZ HS.out.1 hjl
   rw [h2] at c0
   obtain ⟨a,ha⟩:∃ a,a=(ZnU ls j).length:=⟨_,rfl⟩
   obtain ⟨b,hb⟩:∃ b,b=(ls.getD j []).length:=⟨_,rfl⟩
   obtain ⟨c,hc⟩:∃ c,c=(ZnU ls (j+1)).length:=⟨_,rfl⟩
   have hab:c=a+b:=by rw [hc,hf,List.length_append,ha,hb]
   rw [←hb] at c0
   rw [←hc] at hf2
   rw [←ha]
   have hwa:IntKind.i64.wrap ((a:Int)+b)=((c:Nat):Int):=by rw [hab];exact IntWalk.i64_in _ (by omega)
   have h0:¬ ((c:Nat):Int) < 0:=by omega
   have HC:=Zh hc
   generalize (hs.getD j default).ao=bo at c0
   generalize (hs.getD j default).c=bc at c0
   clear hf hf2 h2 ha hb hc hab
   go_wp2
   exact ⟨⟨j+1,hjl,rfl,by rw [HC.out],by trivial⟩,by simp [intOf];omega⟩
  ·obtain rfl:j=hs.length:=by omega
   have hjl2:¬ ((hs.length:Nat):Int) < hs.length:=by omega
   rw [ZnX ls hln,HFl.out]
   have HGr:=Zh (ZnS fl.length hl wo)
   go_upto_region 10 with (go_at_call 146;refine HGr.out.mono ?_;rintro e w1 ⟨⟨go,gc,rfl,hown⟩,hb1⟩;have HO:=Zh hown;have HB:=Zh hb1;clear hown hb1)
   go_upto_region 11 with fail
   go_loopw [6,27] (fun s i wr=>∃ (j:Nat) (oo:Option Addr) (oc:Nat),j≤hs.length∧i=.int .i64 j∧s=.slice oo (ZnU ls j).length oc∧Hid (wr.ownsRow wo.heap.size 76 2 (.slice oo (ZnU ls j).length oc) (ZnU ls j).length (Zak (ZnU ls j)))∧Hid (Below wo.heap.size wo wr)) (fun _ i _=>hs.length-(intOf i).toNat)
   case atStart=>exact ⟨0,go,gc,Nat.zero_le _,rfl,rfl,HO.out,HB.out⟩
   case round=>
    obtain ⟨j,oo,oc,hj,rfl,rfl,HOj,HBj⟩:=hrel
    rename World=>wi
    have hf2:=Nat.le_trans (ZnW ls j) HLe.out
    by_cases hjl:j<hs.length
    ·have hjl2:(j:Int) < hs.length:=by omega
     have hwj:IntKind.i64.wrap ((j:Int)+1)=((j+1:Nat):Int):=IntWalk.i64_in _ (by omega)
     have hf:=ZnV ls j (by omega)
     have hf3:=Nat.le_trans (ZnW ls (j+1)) HLe.out
     have h2:=(HS.out.2.2 j hjl).1
     have hr:=((HS.out.2.2 j hjl).2).old HBj.out
     obtain ⟨ad,rfl,c0⟩:=ZlZ (HS.out.1.old HBj.out) hjl
     rw [h2] at c0
     obtain ⟨zs,hzs⟩:∃ zs,zs=(ZnU ls j):=⟨_,rfl⟩
     obtain ⟨ts,hts⟩:∃ ts,ts=ls.getD j []:=⟨_,rfl⟩
     obtain ⟨bo,hbo⟩:∃ bo,bo=(hs.getD j default).ao:=⟨_,rfl⟩
     obtain ⟨bc,hbc⟩:∃ bc,bc=(hs.getD j default).c:=⟨_,rfl⟩
     rw [←hts,←hbo,←hbc] at c0 hr
     rw [←hzs] at HOj hf2
     rw [←hzs,←hts] at hf
     rw [hf,List.length_append] at hf3
     rw [←hzs]
     have HF:=Zh hf
     have HR:=Zh hr
     have hown:=HOj.out
     clear hf h2 hr hzs hts hbo hbc
     go_wp2_with (at_builtin;refine Zaj rfl (.tmp 31) (.tmp 32) 23 rfl wo.heap.size 76 2 16 Zff (.slice oo zs.length oc) zs.length (Zak zs) rfl hown bo ts.length bc (Zak ts) rfl HR.out (Zaq ts) (by omega) (by unfold maxLen;omega) (by have:=HBj.out.size;omega) ?_;intro ao1 cap1 w10 hown9 hg9;have HO9:=Zh hown9;have HB9:=Zh (ZcV HBj.out hg9 (fun j hj=>(hown.lt j hj).1));clear hown9 hg9)
     refine ⟨⟨j+1,ao1,cap1,hjl,rfl,by rw [HF.out,List.length_append],?_,HB9.out⟩,by simp [intOf];omega⟩
     rw [HF.out,List.length_append,Zan]
     exact HO9.out
    ·obtain rfl:j=hs.length:=by omega
     have hjl2:¬ ((hs.length:Nat):Int) < hs.length:=by omega
     rw [ZnX ls hln] at HOj ⊢
     rw [HFl.out] at HOj ⊢
     go_wp2
     go_ret
     exact ⟨⟨oo,oc,rfl,HOj.out⟩,HBj.out⟩
end
section
open Go.ChangeShapes Go.WideShapes Go.ChangeAt Go.RowKit
theorem ZnZ {H:Type} (d:DataW H):1≤Rows.uptoBulk d:=by
 cases d with
 | lit l=>cases l<;>simp [Rows.uptoBulk]
 | nil=>simp [Rows.uptoBulk]
 | ptr d=>simp [Rows.uptoBulk]
 | slice elems spare=>simp [Rows.uptoBulk]
 | agg parts=>simp [Rows.uptoBulk]
 | iface t d=>simp [Rows.uptoBulk]
 | map entries=>simp [Rows.uptoBulk]
 | held h=>simp [Rows.uptoBulk]
theorem Zn0 {H:Type} (l:List (DataW H)):l.length≤Rows.uptoBulkAll l:=by
 induction l with
 | nil=>simp [Rows.uptoBulkAll]
 | cons x r ih=>have:=ZnZ x;simp only [Rows.uptoBulkAll,List.length_cons];omega
theorem Zn1 {H:Type} (elems spare:List (DataW H)):elems.length+spare.length+1≤Rows.uptoBulk (.slice elems spare):=by
 have h1:=Zn0 elems
 have h2:=Zn0 spare
 simp only [Rows.uptoBulk]
 omega
theorem Zn2 {H:Type}{l:List (DataW H)} (hk:Rows.uptoSmall H l=true):Rows.uptoBulkAll l≤1048576:=of_decide_eq_true hk
theorem Zn3 {H:Type} (k:IntKind) (zs:List Int):(lits (H:=H) k zs).length=zs.length:=by simp [lits]
theorem Zn4 {H:Type}{enc:TypeId × Value→H}{P:Program}{W:World}{r:Reach}{b0:Nat}{t e:TypeId}{k:IntKind}{v:Value}{d:DataW H}{ps:List MemPlace}
  (ht:P.underlying t=some (.slice e)) (he:P.underlying e=some (.int k)) (hc:P.cellsOf e=1)
  (hval:Value.okWide P W r b0 t v) (hd:DataW.Trod enc P W 0 (fun _=>true) true t v d ps) :
  ∃ a cap zs,v=.slice a zs.length cap∧(Sl k W a zs∧(a=none→cap=0))∧(∀ n∈zs,(Lit.int k n).wf=true)∧zs.length≤maxLen∧zs.length≤Rows.uptoBulk d:=by
 obtain ⟨a,len,cap,rfl⟩:=okWide_slice ht hval
 obtain ⟨fuel,hf⟩:=hd
 rcases open_ints ht he hc hf with ⟨hcs,_⟩|⟨x,l,c,zs,hcs,_,hl,hm,hz,hx,hcell,hwz⟩
 ·simp [Value.cells] at hcs
  obtain ⟨rfl,rfl,rfl⟩:=hcs
  exact ⟨none,0,[],rfl,⟨fun i hi=>by simp at hi,fun _=>rfl⟩,by simp,by simp,by simp⟩
 ·simp [Value.cells] at hcs
  obtain ⟨rfl,rfl,rfl⟩:=hcs
  have hz':zs.length=cap:=by simpa using hz
  obtain ⟨rfl,_⟩:=Prod.mk.inj hx
  refine ⟨some x,cap,zs.take len,by rw [List.length_take,Nat.min_eq_left (by omega)],⟨?_,fun h=>by cases h⟩,fun n hn=>hwz n (List.mem_of_mem_take hn),by rw [List.length_take];omega,?_⟩
  ·intro i hi
   rw [List.length_take] at hi
   refine ⟨x,rfl,?_⟩
   rw [hcell i (by omega),List.getD_eq_getElem?_getD,List.getD_eq_getElem?_getD,List.getElem?_take_of_lt (by omega)]
  ·refine Nat.le_trans ?_ (Zn1 _ _)
   rw [Zn3];omega
theorem Zn5 {n:Int} (h:(Lit.int .i64 n).wf=true):-9223372036854775808≤n∧n≤9223372036854775807:=by
 simpa [Lit.wf,IntKind.min,IntKind.max,IntKind.bits,IntKind.signed] using h
end
end Go.Proofs.YtcfjblcgceednaaGreat
