/- Joined texts. The first: Searches by a closure, told by what the closure answers at each element: slices.IndexFunc, ContainsFunc. (printed by gen_find.py) -/
import Derived.Test.YtfkbfjhocmbneaaGreatG1
import Derived.Deep.QuietTactic
import Derived.BigQuiet
import Derived.Lib.Hide
import Derived.WalkKit
set_option linter.all false
set_option linter.unusedVariables false
set_option linter.unusedSimpArgs false
set_option maxRecDepth 100000
set_option maxHeartbeats 80000000
namespace Go.Proofs.YtfkbfjhocmbneaaGreat
theorem k23{p:Prop}(h:p:=by
 have HX:=Lib.hid hx
 have HGk:=Lib.hid hgk
 clear hx hgk
 rcases hI:p x with _|_
 ·exact k35
 ·rw [hI] at HGk
  have HP:=Lib.hid hI
  clear hI
  go_wp2_with fail
  refine HGk.out.mono ?_
  rintro e w1 ⟨rfl,hb1⟩
  have HL1:=Lib.hid (bthen HL.out hb1)
  go_wp2
  go_ret
  exact ⟨⟨_,rfl,by rw [any_ofV (d:=default) hkl (by rw [←HX.out];exact HP.out)];simp⟩,HL1.out⟩):p:=h
theorem k35{p:Prop}(h:p:=by
 rw [hI] at HGk
 have HP:=Lib.hid hI
 clear hI
 go_wp2_with fail
 refine HGk.out.mono ?_
 rintro e w1 ⟨rfl,hb1⟩
 have HL1:=Lib.hid (bthen HL.out hb1)
 go_wp2
 go_roundw
 case rel=>
  refine ⟨k+1,by omega,by go_num,HL1.out,fun i hi=>?_⟩
  by_cases hik:i<k
  ·exact Q1.out i hik
  ·obtain rfl:i=k:=by omega
   rw [←HX.out];exact HP.out
 case measure=>simp [intOf];omega):p:=h
theorem k46{p:Prop}(h:p:=by
 go_wp2_with fail
 refine HI.out.mono ?_
 rintro e w1 ⟨⟨r,rfl,hr⟩,hb1⟩
 have HR:=Lib.hid hr
 clear hr
 go_wp2
 go_ret
 exact ret_ok (bool_eq HR.out) hb1):p:=h
theorem k70{p:Prop}(h:p:=by
 go_wp2_with fail
 go_ret3
 exact ⟨.inr ⟨rfl,HE.out⟩,rfl⟩):p:=h
theorem k92{p:Prop}(h:p:=by
 go_wp2
 go_ret
 exact ⟨⟨_,rfl,(any_notV (d:=default) fun i hi=>Q1.out i (by omega)).symm⟩,HL.out⟩):p:=h
theorem k98{p:Prop}(h:p:=by
 simp only [List.getD_eq_getElem?_getD,List.getElem?_set]
 split
 ·subst_vars;simp [hi]
 ·rfl):p:=h
section
open Go.RowKit
section
variable (l:List In3)(ao:Option Addr)(cap g:Nat)(caps:Array Value)(p:In3→Bool)(w:World)(hlen:l.length≤1000000)(hl:RowAt w ao cap l)(cf:∀ A W,(callFunc g (A++caps)).run Tryz.prog W=.ok (.enter g (A++caps)) W)(hg:∀ k,k<l.length→∀ w',Below w.heap.size w w'→Calls Tryz.prog g (#[.agg #[.int .i64 (l.getD k default).op,.int .i64 (l.getD k default).a,.int .i64 (l.getD k default).b]]++caps) w' (Ret w' (.bool (p (l.getD k default)))))
include l ao cap g caps p w hlen hl cf hg
theorem idxIn_any:
  Calls Tryz.prog 242 #[.slice ao l.length cap,.func (Fn.func g) #[] caps] w fun e w'=>(∃ r:Int,e=.returned (.int .i64 r)∧decide (0≤r)=l.any p)∧Below w.heap.size w w':=by
 have HI:=Lib.hid hl
 have HG:=Lib.hid hg
 clear hl hg
 go_enter Tryz.func242,Tryz.ntmps242
 go_wp2
 go_loopw [8] (fun i wr=>∃ (k:Nat),k≤l.length∧i=.int .i64 k∧Below w.heap.size w wr∧(∀ i,i<k→p (l.getD i default)=false)) (fun i _=>l.length-(intOf i).toNat)
 case atStart=>exact ⟨0,by omega,rfl,Below.refl _ _,by omega⟩
 case round=>
  obtain ⟨k,hk,rfl,hbel,q1⟩:=hrel
  have HL:=Lib.hid hbel
  have Q1:=Lib.hid q1
  clear hbel q1
  by_cases hkl:k<l.length
  ·obtain ⟨ad,rfl,e0,e1,e2⟩:=row_in (HI.out.old HL.out) hkl
   have hgk:=HG.out k hkl _ HL.out
   obtain ⟨x,hx⟩:∃ x,x=l.getD k default:=⟨_,rfl⟩
   rw [←hx] at e0  e1  e2 hgk
   exact k23
  ·exact k92
theorem conIn_any:
  Calls Tryz.prog 206 #[.slice ao l.length cap,.func (Fn.func g) #[] caps] w (Ret w (.bool (l.any p))):=by
 have HI:=Lib.hid (idxIn_any l ao cap g caps p w hlen hl cf hg)
 clear hl hg cf
 go_enter Tryz.func206,Tryz.ntmps206
 exact k46
end
section
variable (l:List Ty)(ao:Option Addr)(cap g:Nat)(caps:Array Value)(p:Ty→Bool)(w:World)(hlen:l.length≤1000000)(hl:RowAt w ao cap l)(cf:∀ A W,(callFunc g (A++caps)).run Tryz.prog W=.ok (.enter g (A++caps)) W)(hg:∀ k,k<l.length→∀ w',Below w.heap.size w w'→Calls Tryz.prog g (#[.agg #[.int .i64 (l.getD k default).k,.int .i64 (l.getD k default).c]]++caps) w' (Ret w' (.bool (p (l.getD k default)))))
include l ao cap g caps p w hlen hl cf hg
theorem idxTy_any:
  Calls Tryz.prog 245 #[.slice ao l.length cap,.func (Fn.func g) #[] caps] w fun e w'=>(∃ r:Int,e=.returned (.int .i64 r)∧decide (0≤r)=l.any p)∧Below w.heap.size w w':=by
 have HI:=Lib.hid hl
 have HG:=Lib.hid hg
 clear hl hg
 go_enter Tryz.func245,Tryz.ntmps245
 go_wp2
 go_loopw [8] (fun i wr=>∃ (k:Nat),k≤l.length∧i=.int .i64 k∧Below w.heap.size w wr∧(∀ i,i<k→p (l.getD i default)=false)) (fun i _=>l.length-(intOf i).toNat)
 case atStart=>exact ⟨0,by omega,rfl,Below.refl _ _,by omega⟩
 case round=>
  obtain ⟨k,hk,rfl,hbel,q1⟩:=hrel
  have HL:=Lib.hid hbel
  have Q1:=Lib.hid q1
  clear hbel q1
  by_cases hkl:k<l.length
  ·obtain ⟨ad,rfl,e0,e1⟩:=row_ty (HI.out.old HL.out) hkl
   have hgk:=HG.out k hkl _ HL.out
   obtain ⟨x,hx⟩:∃ x,x=l.getD k default:=⟨_,rfl⟩
   rw [←hx] at e0  e1 hgk
   exact k23
  ·exact k92
theorem conTy_any:
  Calls Tryz.prog 211 #[.slice ao l.length cap,.func (Fn.func g) #[] caps] w (Ret w (.bool (l.any p))):=by
 have HI:=Lib.hid (idxTy_any l ao cap g caps p w hlen hl cf hg)
 clear hl hg cf
 go_enter Tryz.func211,Tryz.ntmps211
 exact k46
end
section
variable (l:List Int)(ao:Option Addr)(cap g:Nat)(caps:Array Value)(p:Int→Bool)(w:World)(hlen:l.length≤1000000)(hl:RowAt w ao cap l)(cf:∀ A W,(callFunc g (A++caps)).run Tryz.prog W=.ok (.enter g (A++caps)) W)(hg:∀ k,k<l.length→∀ w',Below w.heap.size w w'→Calls Tryz.prog g (#[.int .i64 (l.getD k 0)]++caps) w' (Ret w' (.bool (p (l.getD k 0)))))
include l ao cap g caps p w hlen hl cf hg
theorem idxInt_any:
  Calls Tryz.prog 240 #[.slice ao l.length cap,.func (Fn.func g) #[] caps] w fun e w'=>(∃ r:Int,e=.returned (.int .i64 r)∧decide (0≤r)=l.any p)∧Below w.heap.size w w':=by
 have HI:=Lib.hid hl
 have HG:=Lib.hid hg
 clear hl hg
 go_enter Tryz.func240,Tryz.ntmps240
 go_wp2
 go_loopw [8] (fun i wr=>∃ (k:Nat),k≤l.length∧i=.int .i64 k∧Below w.heap.size w wr∧(∀ i,i<k→p (l.getD i 0)=false)) (fun i _=>l.length-(intOf i).toNat)
 case atStart=>exact ⟨0,by omega,rfl,Below.refl _ _,by omega⟩
 case round=>
  obtain ⟨k,hk,rfl,hbel,q1⟩:=hrel
  have HL:=Lib.hid hbel
  have Q1:=Lib.hid q1
  clear hbel q1
  by_cases hkl:k<l.length
  ·obtain ⟨ad,rfl,e0⟩:=row_int (HI.out.old HL.out) hkl
   have hgk:=HG.out k hkl _ HL.out
   obtain ⟨x,hx⟩:∃ x,x=l.getD k 0:=⟨_,rfl⟩
   rw [←hx] at e0 hgk
   have HX:=Lib.hid hx
   have HGk:=Lib.hid hgk
   clear hx hgk
   rcases hI:p x with _|_
   ·exact k35
   ·rw [hI] at HGk
    have HP:=Lib.hid hI
    clear hI
    go_wp2_with fail
    refine HGk.out.mono ?_
    rintro e w1 ⟨rfl,hb1⟩
    have HL1:=Lib.hid (bthen HL.out hb1)
    go_wp2
    go_ret
    exact ⟨⟨_,rfl,by rw [any_ofV (d:=0) hkl (by rw [←HX.out];exact HP.out)];simp⟩,HL1.out⟩
  ·go_wp2
   go_ret
   exact ⟨⟨_,rfl,(any_notV (d:=0) fun i hi=>Q1.out i (by omega)).symm⟩,HL.out⟩
theorem conInt_any:
  Calls Tryz.prog 195 #[.slice ao l.length cap,.func (Fn.func g) #[] caps] w (Ret w (.bool (l.any p))):=by
 have HI:=Lib.hid (idxInt_any l ao cap g caps p w hlen hl cf hg)
 clear hl hg cf
 go_enter Tryz.func195,Tryz.ntmps195
 exact k46
end
end
section
open Go.RowKit
theorem flip_same {P:Program}{f:Nat}{args:Array Value}{w:World}{v:Value} (h:Calls P f args w fun e w'=>e=.returned v∧w=w'):Calls P f args w fun e w'=>e=.returned v∧w'=w:=h.mono fun _ _ ⟨a,b⟩=>⟨a,b.symm⟩
theorem ret2_ii {a b c d:Int} (h1:a=c) (h2:b=d):Ending.returned (.tuple #[.int .i64 a,.int .i64 b])=.returned (.tuple #[.int .i64 c,.int .i64 d]):=by rw [h1,h2]
def cntO (op:Int):Int:=if op=12∨op=16∨op=30 then 2 else if op=1∨op=2∨op=3∨op=14∨op=15∨op=17∨op=18∨op=22∨op=23∨op=24∨op=25∨op=26∨op=27∨op=28∨op=31∨op=32 then 1 else 0
theorem operands_any (op:Int) (w:World):Calls Tryz.prog 83 #[.int .i64 op] w fun e w'=>e=.returned (.tuple #[.int .i64 (cntO op),.int .i64 (if op<0∨36≤op then 3 else 0)])∧w=w':=by
 generalize hq:cntO op=q
 generalize hr:(if op<0∨36≤op then (3:Int) else 0)=r
 have HQ:=Lib.hid hq
 have HR:=Lib.hid hr
 clear hq hr
 go_enter Tryz.func83,Tryz.ntmps83
 go_wp2
 all_goals
  go_ret2
  refine ⟨ret2_ii ?_ ?_,rfl⟩
  ·rw [←HQ.out];grind [cntO]
  ·rw [←HR.out];grind
theorem rin3_any (n lo hi:Int) (w:World):Calls Tryz.prog 84 #[.int .i64 n,.int .i64 lo,.int .i64 hi] w fun e w'=>e=.returned (.bool (inI n lo hi))∧w=w':=by
 go_enter Tryz.func84,Tryz.ntmps84
 go_wp2
 all_goals
  go_ret
  refine ⟨ret_bool ?_,rfl⟩
  unfold inI
  grind
theorem rmost3_any (n:Int) (p:Bool) (h:-1000≤n) (h2:n≤1000) (w:World):Calls Tryz.prog 85 #[.int .i64 n,.bool p] w fun e w'=>e=.returned (.int .i64 (if p then 59 else n-1))∧w=w':=by
 cases p
 all_goals
  go_enter Tryz.func85,Tryz.ntmps85
  go_wp2
  go_ret
  exact ⟨by simp,rfl⟩
theorem ropens_any (op:Int) (w:World):Calls Tryz.prog 81 #[.int .i64 op] w fun e w'=>e=.returned (.bool (opensV op))∧w=w':=by
 go_enter Tryz.func81,Tryz.ntmps81
 go_wp2
 all_goals
  go_ret
  refine ⟨ret_bool ?_,rfl⟩
  unfold opensV inI
  grind
end
section
open Go.RowKit
theorem rVk {p:Prop} (h:p:=by
 as_aux_lemma=>
  generalize hq:insnV p _=q
  have HQ:=Lib.hid hq
  clear hq
  go_enter Tryz.func49,Tryz.ntmps49
  go_wp2_with (first
   | (go_at_call 83;refine (operands_any _ _).mono ?_;rintro e w' ⟨rfl,rfl⟩;simp only [cntO])
   | (go_at_call 84;refine (rin3_any _ _ _ _).mono ?_;rintro e w' ⟨rfl,rfl⟩)
   | (go_at_call 85;refine (rmost3_any _ _ (by omega) (by omega) _).mono ?_;rintro e w' ⟨rfl,rfl⟩))
  all_goals
   first
    | go_ret
    | (go_quiet (first|(go_at_call 84;exact Calls.quiet_of_same (flip_same (rin3_any _ _ _ _)))|(go_at_call 85;exact Calls.quiet_of_same (flip_same (rmost3_any _ _ (by omega) (by omega) _))));go_wp2;all_goals go_ret)
  all_goals
   refine ret_ok (bool_eq ?_) bE
   rw [←HQ.out,HI.out]
   clear HQ HI
   unfold inI at *
   grind
 ):p:=h
theorem rValidI_any (i:In3) (p:Bool) (w:World):Calls Tryz.prog 49 #[.agg #[.int .i64 i.op,.int .i64 i.a,.int .i64 i.b],.bool p] w (Ret w (.bool (insnV p i))):=by
 obtain ⟨op,a,b⟩:=i
 dsimp only
 by_cases h:0≤op∧op<36
 ·rcases (show op=0∨op=1∨op=2∨op=3∨op=4∨op=5∨op=6∨op=7∨op=8∨op=9∨op=10∨op=11∨op=12∨op=13∨op=14∨op=15∨op=16∨op=17∨op=18∨op=19∨op=20∨op=21∨op=22∨op=23∨op=24∨op=25∨op=26∨op=27∨op=28∨op=29∨op=30∨op=31∨op=32∨op=33∨op=34∨op=35 by omega) with rfl|rfl|rfl|rfl|rfl|rfl|rfl|rfl|rfl|rfl|rfl|rfl|rfl|rfl|rfl|rfl|rfl|rfl|rfl|rfl|rfl|rfl|rfl|rfl|rfl|rfl|rfl|rfl|rfl|rfl|rfl|rfl|rfl|rfl|rfl|rfl
  ·have HI:=Lib.hid (show insnV p ⟨0,a,b⟩=(inI a 0 0&&inI b 0 0&&true) by cases p<;>rfl)
   exact rVk
  ·have HI:=Lib.hid (show insnV p ⟨1,a,b⟩=(inI a (-2147483648) 2147483647&&inI b 0 0&&true) by cases p<;>rfl)
   exact rVk
  ·have HI:=Lib.hid (show insnV p ⟨2,a,b⟩=(inI a 0 9&&inI b 0 0&&true) by cases p<;>rfl)
   exact rVk
  ·have HI:=Lib.hid (show insnV p ⟨3,a,b⟩=(inI a 0 9&&inI b 0 0&&true) by cases p<;>rfl)
   exact rVk
  ·have HI:=Lib.hid (show insnV p ⟨4,a,b⟩=(inI a 0 0&&inI b 0 0&&true) by cases p<;>rfl)
   exact rVk
  ·have HI:=Lib.hid (show insnV p ⟨5,a,b⟩=(inI a 0 0&&inI b 0 0&&true) by cases p<;>rfl)
   exact rVk
  ·have HI:=Lib.hid (show insnV p ⟨6,a,b⟩=(inI a 0 0&&inI b 0 0&&true) by cases p<;>rfl)
   exact rVk
  ·have HI:=Lib.hid (show insnV p ⟨7,a,b⟩=(inI a 0 0&&inI b 0 0&&true) by cases p<;>rfl)
   exact rVk
  ·have HI:=Lib.hid (show insnV p ⟨8,a,b⟩=(inI a 0 0&&inI b 0 0&&true) by cases p<;>rfl)
   exact rVk
  ·have HI:=Lib.hid (show insnV p ⟨9,a,b⟩=(inI a 0 0&&inI b 0 0&&true) by cases p<;>rfl)
   exact rVk
  ·have HI:=Lib.hid (show insnV p ⟨10,a,b⟩=(inI a 0 0&&inI b 0 0&&true) by cases p<;>rfl)
   exact rVk
  ·have HI:=Lib.hid (show insnV p ⟨11,a,b⟩=(inI a 0 0&&inI b 0 0&&true) by cases p<;>rfl)
   exact rVk
  ·have HI:=Lib.hid (show insnV p ⟨12,a,b⟩=(inI a 2 4&&inI b 0 (if p then 59 else 9)&&!(decide (a=3)&&decide (b≠0))) by cases p<;>rfl)
   rcases hI:inI a 2 4 with _|_<;>exact rVk
  ·have HI:=Lib.hid (show insnV p ⟨13,a,b⟩=(inI a 0 0&&inI b 0 0&&true) by cases p<;>rfl)
   exact rVk
  ·have HI:=Lib.hid (show insnV p ⟨14,a,b⟩=(inI a 0 (if p then 59 else 9)&&inI b 0 0&&true) by cases p<;>rfl)
   exact rVk
  ·have HI:=Lib.hid (show insnV p ⟨15,a,b⟩=(inI a 0 48&&inI b 0 0&&true) by cases p<;>rfl)
   exact rVk
  ·have HI:=Lib.hid (show insnV p ⟨16,a,b⟩=(inI a 0 48&&inI b 0 (if p then 59 else 9)&&true) by cases p<;>rfl)
   rcases hI:inI a 0 48 with _|_<;>exact rVk
  ·have HI:=Lib.hid (show insnV p ⟨17,a,b⟩=(inI a 0 (if p then 59 else 6)&&inI b 0 0&&true) by cases p<;>rfl)
   exact rVk
  ·have HI:=Lib.hid (show insnV p ⟨18,a,b⟩=(inI a 0 (if p then 59 else 6)&&inI b 0 0&&true) by cases p<;>rfl)
   exact rVk
  ·have HI:=Lib.hid (show insnV p ⟨19,a,b⟩=(inI a 0 0&&inI b 0 0&&true) by cases p<;>rfl)
   exact rVk
  ·have HI:=Lib.hid (show insnV p ⟨20,a,b⟩=(inI a 0 0&&inI b 0 0&&true) by cases p<;>rfl)
   exact rVk
  ·have HI:=Lib.hid (show insnV p ⟨21,a,b⟩=(inI a 0 0&&inI b 0 0&&true) by cases p<;>rfl)
   exact rVk
  ·have HI:=Lib.hid (show insnV p ⟨22,a,b⟩=(inI a 0 (if p then 59 else 9)&&inI b 0 0&&true) by cases p<;>rfl)
   exact rVk
  ·have HI:=Lib.hid (show insnV p ⟨23,a,b⟩=(inI a 0 (if p then 59 else 9)&&inI b 0 0&&true) by cases p<;>rfl)
   exact rVk
  ·have HI:=Lib.hid (show insnV p ⟨24,a,b⟩=(inI a 0 (if p then 59 else 9)&&inI b 0 0&&true) by cases p<;>rfl)
   exact rVk
  ·have HI:=Lib.hid (show insnV p ⟨25,a,b⟩=(inI a 0 (if p then 59 else 15)&&inI b 0 0&&true) by cases p<;>rfl)
   exact rVk
  ·have HI:=Lib.hid (show insnV p ⟨26,a,b⟩=(inI a 0 (if p then 59 else 15)&&inI b 0 0&&true) by cases p<;>rfl)
   exact rVk
  ·have HI:=Lib.hid (show insnV p ⟨27,a,b⟩=(inI a 0 3&&inI b 0 0&&true) by cases p<;>rfl)
   exact rVk
  ·have HI:=Lib.hid (show insnV p ⟨28,a,b⟩=(inI a 0 9&&inI b 0 0&&true) by cases p<;>rfl)
   exact rVk
  ·have HI:=Lib.hid (show insnV p ⟨29,a,b⟩=(inI a 0 0&&inI b 0 0&&true) by cases p<;>rfl)
   exact rVk
  ·have HI:=Lib.hid (show insnV p ⟨30,a,b⟩=(inI a 0 50&&inI b 0 9&&true) by cases p<;>rfl)
   rcases hI:inI a 0 50 with _|_<;>exact rVk
  ·have HI:=Lib.hid (show insnV p ⟨31,a,b⟩=(inI a 0 5&&inI b 0 0&&true) by cases p<;>rfl)
   exact rVk
  ·have HI:=Lib.hid (show insnV p ⟨32,a,b⟩=(inI a 1 24&&inI b 0 0&&true) by cases p<;>rfl)
   exact rVk
  ·have HI:=Lib.hid (show insnV p ⟨33,a,b⟩=(inI a 0 0&&inI b 0 0&&true) by cases p<;>rfl)
   exact rVk
  ·have HI:=Lib.hid (show insnV p ⟨34,a,b⟩=(inI a 0 0&&inI b 0 0&&true) by cases p<;>rfl)
   exact rVk
  ·have HI:=Lib.hid (show insnV p ⟨35,a,b⟩=(inI a 0 0&&inI b 0 0&&true) by cases p<;>rfl)
   exact rVk
 ·have hq:insnV p ⟨op,a,b⟩=false:=by
   exact k78
  rw [hq]
  have ho:=operands_any op
  rw [if_pos (show op<0∨36≤op by omega)] at ho
  generalize cntO op=q at ho
  have HO:=Lib.hid ho
  clear ho hq h
  go_enter Tryz.func49,Tryz.ntmps49
  go_wp2_with fail
  refine (HO.out _).mono ?_
  rintro e w' ⟨rfl,rfl⟩
  go_wp2_with fail
  go_ret
  exact ret_ok rfl bE
end
section
theorem nestF_app (s:List Br × Nat):∀ (x y:List In3),nestF s (x++y)=match nestF s x with
  | none=>none
  | some t=>nestF t y:=by
 intro x
 induction x generalizing s with
 | nil=>intro y;rfl
 | cons i x ih=>
  intro y
  simp only [List.cons_append,nestF]
  cases nestS s i with
  | none=>rfl
  | some t=>exact ih t y
def Run (l:List In3) (a b:Nat) (s t:List Br × Nat):Prop:=a≤b∧b≤l.length∧nestF s ((l.drop a).take (b-a))=some t
def Dead (l:List In3) (a:Nat) (s:List Br × Nat):Prop:=∀ t,nestF s (l.drop a)=some t→t.1≠[]
theorem drop_at {l:List In3}{a b:Nat} (h:a≤b):l.drop a=(l.drop a).take (b-a)++l.drop b:=by
 conv=>lhs;rw [←List.take_append_drop (b-a) (l.drop a)]
 rw [List.drop_drop,show a+(b-a)=b by omega]
section
variable {l:List In3}{a b c:Nat}{s t u:List Br × Nat}
theorem Run.refl (h:a≤l.length) (s:List Br × Nat):Run l a a s s:=⟨Nat.le_refl _,h,by simp [nestF]⟩
theorem Run.trans (h1:Run l a b s t) (h2:Run l b c t u):Run l a c s u:=by
 refine ⟨Nat.le_trans h1.1 h2.1,h2.2.1,?_⟩
 have e:(l.drop a).take (c-a)=(l.drop a).take (b-a)++(l.drop b).take (c-b):=by
  have:=h1.1;have:=h2.1
  rw [show c-a=(b-a)+(c-b) by omega,List.take_add,List.drop_drop,show a+(b-a)=b by omega]
 rw [e,nestF_app,h1.2.2]
 exact h2.2.2
theorem Run.step (h:a<l.length) (h1:nestS s (l.getD a default)=some t):Run l a (a+1) s t:=by
 refine ⟨by omega,by omega,?_⟩
 rw [show a+1-a=1 by omega,List.drop_eq_getElem_cons h]
 simp only [List.take_succ_cons,List.take_zero,nestF]
 rw [show l.getD a default=l[a] by simp [h]] at h1
 rw [h1]
theorem Run.dead (h:Run l a b s t) (hd:Dead l b t):Dead l a s:=by
 intro u hu
 rw [drop_at h.1,nestF_app,h.2.2] at hu
 exact hd u hu
theorem dead_step (h:a<l.length) (h1:nestS s (l.getD a default)=none):Dead l a s:=by
 intro u hu
 rw [List.drop_eq_getElem_cons h] at hu
 simp only [nestF] at hu
 rw [show l.getD a default=l[a] by simp [h]] at h1
 rw [h1] at hu
 cases hu
theorem dead_end (h:s.1≠[]):Dead l l.length s:=by
 intro u hu
 rw [List.drop_length] at hu
 cases hu
 exact h
end
def Good (l:List In3) (a b d:Nat):Prop:=∀ S D,S.length≤D→Run l a b (S,D) (S,max D (S.length+d))
def Stuck (l:List In3) (a:Nat):Prop:=∀ S D,S.length≤D→Dead l a (S,D)
section
variable {l:List In3}{a b n e d i:Nat}
theorem good_le (h:Good l a b d):a≤b∧b≤l.length:=by obtain ⟨h1,h2,_⟩:=h [] 0 (Nat.le_refl _);exact ⟨h1,h2⟩
theorem good_refl (h:a≤l.length):Good l a a 0:=fun S D hD=>by
 rw [show max D (S.length+0)=D by omega];exact Run.refl h _
theorem good_both (h1:Good l a b d) (h2:Good l b n e):Good l a n (max d e):=fun S D hD=>by
 have:=(h1 S D hD).trans (h2 S (max D (S.length+d)) (by omega))
 rwa [show max (max D (S.length+d)) (S.length+e)=max D (S.length+max d e) by omega] at this
theorem plain_step {i:In3}{s:List Br × Nat} (h1:opensV i.op=false) (h2:i.op≠34) (h3:i.op≠35):nestS s i=some s:=by
 unfold nestS;rw [h1,if_neg (by decide),if_neg h2,if_neg h3]
theorem good_plain (h:Good l a b d) (hb:b<l.length) (h1:opensV (l.getD b default).op=false) (h2:(l.getD b default).op≠34) (h3:(l.getD b default).op≠35):Good l a (b+1) d:=fun S D hD=>(h S D hD).trans (Run.step hb (plain_step h1 h2 h3))
theorem open_step {l:List In3}{a:Nat} (ha:a<l.length) (h1:opensV (l.getD a default).op=true) (S:List Br) (D:Nat):Run l a (a+1) (S,D) (⟨(l.getD a default).op,false⟩ :: S,max D (S.length+1)):=
 Run.step ha (by unfold nestS;rw [h1,if_pos rfl])
theorem opens_not {op:Int} (h:op=34∨op=35):opensV op=false:=by unfold opensV inI;rcases h with rfl|rfl<;>decide
theorem else_step {l:List In3}{n:Nat} (hn:n<l.length) (h:(l.getD n default).op=34) (b:Br) (S:List Br) (D:Nat) (hb:(b.op=29∨b.op=33)∧b.e=false):Run l n (n+1) (b :: S,D) (⟨b.op,true⟩ :: S,D):=
 Run.step hn (by unfold nestS;rw [opens_not (.inl h),if_neg (by decide),if_pos h];simp only [if_pos hb])
theorem else_dead {l:List In3}{n:Nat} (hn:n<l.length) (h:(l.getD n default).op=34) (b:Br) (S:List Br) (D:Nat) (hb:¬ ((b.op=29∨b.op=33)∧b.e=false)):Dead l n (b :: S,D):=
 dead_step hn (by unfold nestS;rw [opens_not (.inl h),if_neg (by decide),if_pos h];simp only [if_neg hb])
theorem end_step {l:List In3}{n:Nat} (hn:n<l.length) (h:(l.getD n default).op=35) (b:Br) (S:List Br) (D:Nat) (hb:¬ (b.op=33∧b.e=false)):Run l n (n+1) (b :: S,D) (S,D):=
 Run.step hn (by unfold nestS;rw [opens_not (.inr h),if_neg (by decide),if_neg (by omega),if_pos h];simp only [if_neg hb])
theorem end_dead {l:List In3}{n:Nat} (hn:n<l.length) (h:(l.getD n default).op=35) (b:Br) (S:List Br) (D:Nat) (hb:b.op=33∧b.e=false):Dead l n (b :: S,D):=
 dead_step hn (by unfold nestS;rw [opens_not (.inr h),if_neg (by decide),if_neg (by omega),if_pos h];simp only [if_pos hb])
theorem dead_nil {l:List In3}{n:Nat} (hn:n<l.length) (h:(l.getD n default).op=34∨(l.getD n default).op=35) (D:Nat):Dead l n ([],D):=
 dead_step hn (by
  unfold nestS
  rw [opens_not h,if_neg (by decide)]
  rcases h with h|h
  ·rw [if_pos h]
  ·rw [if_neg (by omega),if_pos h])
section
variable (ha:a<l.length)(h1:opensV (l.getD a default).op=true)(hg:Good l (a+1) n d)
include ha h1 hg
theorem first_part (S:List Br) (D:Nat) (_hD:S.length≤D):Run l a n (S,D) (⟨(l.getD a default).op,false⟩ :: S,max (max D (S.length+1)) (S.length+1+d)):=
 (open_step ha h1 S D).trans (hg (⟨(l.getD a default).op,false⟩ :: S) (max D (S.length+1)) (by simp;omega))
theorem second_part (hn:n<l.length) (h34:(l.getD n default).op=34) (hop:(l.getD a default).op=29∨(l.getD a default).op=33) (hg2:Good l (n+1) e i) (S:List Br) (D:Nat) (hD:S.length≤D):
  Run l a e (S,D) (⟨(l.getD a default).op,true⟩ :: S,max (max (max D (S.length+1)) (S.length+1+d)) (S.length+1+i)):=
 ((first_part ha h1 hg S D hD).trans (else_step hn h34 _ S _ ⟨hop,rfl⟩)).trans (hg2 _ _ (by simp;omega))
theorem br_one (hn:n<l.length) (h35:(l.getD n default).op=35) (hop:(l.getD a default).op≠33):Good l a (n+1) (d+1):=fun S D hD=>by
 have:=(first_part ha h1 hg S D hD).trans (end_step hn h35 _ S _ (fun h=>hop h.1))
 rwa [show max (max D (S.length+1)) (S.length+1+d)=max D (S.length+(d+1)) by omega] at this
theorem br_two (hn:n<l.length) (h34:(l.getD n default).op=34) (hop:(l.getD a default).op=29∨(l.getD a default).op=33) (hg2:Good l (n+1) e i) (he:e<l.length) (h35:(l.getD e default).op=35):Good l a (e+1) (max d i+1):=fun S D hD=>by
 have:=(second_part ha h1 hg hn h34 hop hg2 S D hD).trans (end_step he h35 _ S _ (fun h=>by cases h.2))
 rwa [show max (max (max D (S.length+1)) (S.length+1+d)) (S.length+1+i)=max D (S.length+(max d i+1)) by omega] at this
end
theorem st_good (h:Good l a b d) (h2:Stuck l b):Stuck l a:=fun S D hD=>(h S D hD).dead (h2 _ _ (by omega))
section
variable (ha:a<l.length)(h1:opensV (l.getD a default).op=true)
include ha h1
theorem st_open (h:Stuck l (a+1)):Stuck l a:=fun S D hD=>(open_step ha h1 S D).dead (h _ _ (by simp;omega))
theorem st_never (hg:Good l (a+1) l.length d):Stuck l a:=fun S D hD=>(first_part ha h1 hg S D hD).dead (dead_end (by simp))
theorem st_else (hg:Good l (a+1) n d) (hn:n<l.length) (h34:(l.getD n default).op=34) (hop:¬ ((l.getD a default).op=29∨(l.getD a default).op=33)):Stuck l a:=fun S D hD=>(first_part ha h1 hg S D hD).dead (else_dead hn h34 _ S _ (fun h=>hop h.1))
theorem st_second (hg:Good l (a+1) n d) (hn:n<l.length) (h34:(l.getD n default).op=34) (hop:(l.getD a default).op=29∨(l.getD a default).op=33) (h:Stuck l (n+1)):Stuck l a:=fun S D hD=>
 ((first_part ha h1 hg S D hD).trans (else_step hn h34 _ S _ ⟨hop,rfl⟩)).dead (h _ _ (by simp;omega))
theorem st_never2 (hg:Good l (a+1) n d) (hn:n<l.length) (h34:(l.getD n default).op=34) (hop:(l.getD a default).op=29∨(l.getD a default).op=33) (hg2:Good l (n+1) l.length i):Stuck l a:=fun S D hD=>(second_part ha h1 hg hn h34 hop hg2 S D hD).dead (dead_end (by simp))
theorem st_else2 (hg:Good l (a+1) n d) (hn:n<l.length) (h34:(l.getD n default).op=34) (hop:(l.getD a default).op=29∨(l.getD a default).op=33) (hg2:Good l (n+1) e i) (he:e<l.length) (h342:(l.getD e default).op=34):Stuck l a:=fun S D hD=>
 (second_part ha h1 hg hn h34 hop hg2 S D hD).dead (else_dead he h342 _ S _ (fun h=>by cases h.2))
theorem st_try (hg:Good l (a+1) n d) (hn:n<l.length) (h35:(l.getD n default).op=35) (hop:(l.getD a default).op=33):Stuck l a:=fun S D hD=>(first_part ha h1 hg S D hD).dead (end_dead hn h35 _ S _ ⟨hop,rfl⟩)
end
theorem nestV_good (h:Good l 0 l.length d):nestV l=decide (d≤6):=by
 obtain ⟨_,_,h3⟩:=h [] 0 (Nat.le_refl _)
 simp only [List.drop_zero,Nat.sub_zero,List.take_length] at h3
 unfold nestV
 rw [h3]
 simp
theorem nestV_dead (h:Dead l 0 ([],0)):nestV l=false:=by
 unfold nestV
 cases hf:nestF ([],0) l with
 | none=>rfl
 | some t=>
  have:=h t (by rw [List.drop_zero];exact hf)
  obtain ⟨st,d⟩:=t
  cases st with
  | nil=>exact absurd rfl this
  | cons b r=>rfl
theorem nestV_stuck (h:Stuck l 0):nestV l=false:=nestV_dead (h [] 0 (Nat.le_refl _))
theorem nestV_stray (h:Good l 0 n d) (hn:n<l.length) (ho:(l.getD n default).op=34∨(l.getD n default).op=35):nestV l=false:=nestV_dead ((h [] 0 (Nat.le_refl _)).dead (dead_nil hn ho _))
end
theorem nestS_bound {s t:List Br × Nat}{i:In3} (h:nestS s i=some t):t.1.length≤s.1.length+1∧t.2≤max s.2 (s.1.length+1):=by
 obtain ⟨S,D⟩:=s
 unfold nestS at h
 split at h
 ·cases h;exact ⟨by simp,by dsimp only;omega⟩
 ·split at h
  ·cases S with
   | nil=>cases h
   | cons b r=>
    dsimp only at h
    split at h
    ·cases h;exact ⟨by simp,by dsimp only;omega⟩
    ·cases h
  ·split at h
   ·cases S with
    | nil=>cases h
    | cons b r=>
     dsimp only at h
     split at h
     ·cases h
     ·cases h;exact ⟨by simp only [List.length_cons];omega,by dsimp only;omega⟩
   ·cases h;exact ⟨by omega,by dsimp only;omega⟩
theorem nestF_bound:∀ (x:List In3) (s t:List Br × Nat),nestF s x=some t→t.1.length≤s.1.length+x.length∧t.2≤max s.2 (s.1.length+x.length)
 | [],s,t,h=>by cases h;exact ⟨by simp,by omega⟩
 | i :: x,s,t,h=>by
  unfold nestF at h
  split at h
  ·cases h
  ·rename_i u hu
   have h1:=nestS_bound hu
   have h2:=nestF_bound x u t h
   simp only [List.length_cons]
   omega
theorem good_depth {l:List In3}{a b d:Nat} (h:Good l a b d):d≤b-a:=by
 obtain ⟨h1,h2,h3⟩:=h [] 0 (Nat.le_refl _)
 have:=(nestF_bound _ _ _ h3).2
 simp only [List.length_nil,List.length_take,List.length_drop] at this
 omega
end
section
def isOp (l:List In3) (o:Nat):Prop:=opensV (l.getD o default).op=true
def Mat (l:List In3) (o:Nat) (alt:Int) (en:Nat):Prop:=
  o<l.length∧isOp l o∧en<l.length∧(l.getD en default).op=35 ∧
  ((alt=-1∧(l.getD o default).op≠33∧∃ d,Good l (o+1) en d) ∨
   ∃ n:Nat,alt=n∧n<l.length∧(l.getD n default).op=34∧((l.getD o default).op=29∨(l.getD o default).op=33)∧(∃ d,Good l (o+1) n d)∧∃ d,Good l (n+1) en d)
section
variable {l:List In3}{a n m d e:Nat}(h1:Good l a n d)(hn:n<l.length)(ho:(l.getD n default).op=34∨(l.getD n default).op=35)(h2:Good l a m e)
include l a n m d e h1 hn ho h2
theorem good_first_le:m≤n:=by
 rcases Nat.lt_or_ge n m with h|h
 ·obtain ⟨p1,p2,p3⟩:=h1 [] 0 (Nat.le_refl _)
  obtain ⟨q1,q2,q3⟩:=h2 [] 0 (Nat.le_refl _)
  have e1:(l.drop a).take (m-a)=(l.drop a).take (n-a)++(l.drop n).take (m-n):=by
   rw [show m-a=(n-a)+(m-n) by omega,List.take_add,List.drop_drop,show a+(n-a)=n by omega]
  rw [e1,nestF_app,p3] at q3
  dsimp only at q3
  rw [List.drop_eq_getElem_cons hn,show m-n=(m-n-1)+1 by omega,List.take_succ_cons] at q3
  unfold nestF at q3
  have hx:l[n]=l.getD n default:=by simp [hn]
  rw [hx] at q3
  have hno:nestS ([],max 0 (0+d)) (l.getD n default)=none:=by
   unfold nestS
   rw [opens_not ho,if_neg (by decide)]
   rcases ho with ho|ho
   ·rw [if_pos ho]
   ·rw [if_neg (by omega),if_pos ho]
  simp only [List.length_nil] at q3
  rw [hno] at q3
  cases q3
 ·exact h
theorem good_first (hm:m<l.length) (ho2:(l.getD m default).op=34∨(l.getD m default).op=35):n=m:=
 Nat.le_antisymm (good_first_le h2 hm ho2 h1) (good_first_le h1 hn ho h2)
end
theorem mat_one {l:List In3}{o:Nat}{a b:Int}{n m:Nat} (h:Mat l o a n) (g:Mat l o b m):a=b∧n=m:=by
 obtain ⟨h0,h1,h2,h3,h4⟩:=h
 obtain ⟨g0,g1,g2,g3,g4⟩:=g
 rcases h4 with ⟨rfl,h5,d,h6⟩|⟨x,rfl,h5,h6,h7,⟨d,h8⟩,i,h9⟩
 ·rcases g4 with ⟨rfl,g5,e,g6⟩|⟨y,rfl,g5,g6,g7,⟨e,g8⟩,j,g9⟩
  ·exact ⟨rfl,good_first h6 h2 (.inr h3) g6 g2 (.inr g3)⟩
  ·have:=good_first h6 h2 (.inr h3) g8 g5 (.inl g6)
   subst this
   omega
 ·rcases g4 with ⟨rfl,g5,e,g6⟩|⟨y,rfl,g5,g6,g7,⟨e,g8⟩,j,g9⟩
  ·have:=good_first h8 h5 (.inl h6) g6 g2 (.inr g3)
   subst this
   omega
  ·have:=good_first h8 h5 (.inl h6) g8 g5 (.inl g6)
   subst this
   exact ⟨rfl,good_first h9 h2 (.inr h3) g9 g2 (.inr g3)⟩
theorem mat_lt {l:List In3}{o:Nat}{a:Int}{n:Nat} (h:Mat l o a n):o<n:=by
 obtain ⟨_,_,_,_,h4⟩:=h
 rcases h4 with ⟨_,_,d,h6⟩|⟨x,_,_,_,_,⟨d,h8⟩,i,h9⟩
 ·have:=(good_le h6).1;omega
 ·have:=(good_le h8).1;have:=(good_le h9).1;omega
theorem mat_good {l:List In3}{o:Nat}{a:Int}{n:Nat} (h:Mat l o a n):∃ d,Good l o (n+1) d:=by
 obtain ⟨h0,h1,h2,h3,h4⟩:=h
 rcases h4 with ⟨_,h5,d,h6⟩|⟨x,_,h5,h6,h7,⟨d,h8⟩,i,h9⟩
 ·exact ⟨_,br_one h0 h1 h6 h2 h3 h5⟩
 ·exact ⟨_,br_two h0 h1 h8 h5 h6 h7 h9 h2 h3⟩
def OpnR (l:List In3) (E:Nat→Int):List Nat→Nat→Prop
 | [],k=>∃ d,Good l 0 k d
 | o :: r,k=>o<k∧o<l.length∧isOp l o∧OpnR l E r o ∧
  ((E o=-1∧∃ d,Good l (o+1) k d)∨∃ n:Nat,E o=n∧n<l.length∧(l.getD n default).op=34∧((l.getD o default).op=29∨(l.getD o default).op=33)∧(∃ d,Good l (o+1) n d)∧∃ d,Good l (n+1) k d)
theorem opn_congr {l:List In3}{E E':Nat→Int}:∀ {os:List Nat}{k:Nat},(∀ o,o<k→E' o=E o)→OpnR l E os k→OpnR l E' os k
 | [],_,_,h=>h
 | o :: r,k,he,h=>by
  obtain ⟨h1,h2,h3,h4,h5⟩:=h
  refine ⟨h1,h2,h3,opn_congr (fun x hx=>he x (by omega)) h4,?_⟩
  rw [he o h1]
  exact h5
theorem opn_lt {l:List In3}{E:Nat→Int}:∀ {os:List Nat}{k:Nat},OpnR l E os k→∀ o∈os,o<k
 | [],_,_,_,ho=>by cases ho
 | o :: r,k,h,x,hx=>by
  rcases List.mem_cons.1 hx with rfl|hx
  ·exact h.1
  ·have:=opn_lt h.2.2.2.1 x hx
   have:=h.1
   omega
theorem opn_plain {l:List In3}{E:Nat→Int}{os:List Nat}{k:Nat} (h:OpnR l E os k) (hk:k<l.length) (h1:¬ isOp l k) (h2:(l.getD k default).op≠34) (h3:(l.getD k default).op≠35):OpnR l E os (k+1):=by
 have h1':opensV (l.getD k default).op=false:=by simpa [isOp] using h1
 cases os with
 | nil=>obtain ⟨d,h⟩:=h;exact ⟨d,good_plain h hk h1' h2 h3⟩
 | cons o r=>
  obtain ⟨a,b,c,e,f⟩:=h
  refine ⟨by omega,b,c,e,?_⟩
  rcases f with ⟨f,d,g⟩|⟨n,f1,f2,f3,f4,f5,d,g⟩
  ·exact .inl ⟨f,d,good_plain g hk h1' h2 h3⟩
  ·exact .inr ⟨n,f1,f2,f3,f4,f5,d,good_plain g hk h1' h2 h3⟩
theorem opn_open {l:List In3}{E:Nat→Int}{os:List Nat}{k:Nat} (h:OpnR l E os k) (hk:k<l.length) (h1:isOp l k) (he:E k=-1):OpnR l E (k :: os) (k+1):=
 ⟨by omega,hk,h1,h,.inl ⟨he,0,good_refl (by omega)⟩⟩
theorem opn_else {l:List In3}{E E':Nat→Int}{o:Nat}{r:List Nat}{k:Nat} (h:OpnR l E (o :: r) k) (hk:k<l.length) (h1:(l.getD k default).op=34) (h2:(l.getD o default).op=29∨(l.getD o default).op=33) (h3:E o=-1) (he:E' o=k) (hne:∀ x,x<k→x≠o→E' x=E x):OpnR l E' (o :: r) (k+1):=by
 obtain ⟨a,b,c,e,f⟩:=h
 refine ⟨by omega,b,c,opn_congr (fun x hx=>hne x (by omega) (by omega)) e,.inr ⟨k,he,hk,h1,h2,?_,0,good_refl (by omega)⟩⟩
 rcases f with ⟨_,g⟩|⟨n,f1,_⟩
 ·exact g
 ·omega
section
variable {l:List In3}{E:Nat→Int}{o:Nat}{r:List Nat}{k:Nat}(h:OpnR l E (o :: r) k)(hk:k<l.length)(h1:(l.getD k default).op=35)(h2:(l.getD o default).op=33→0≤E o)
include l E o r k h hk h1 h2
theorem opn_mat:Mat l o (E o) k:=by
 obtain ⟨a,b,c,e,f⟩:=h
 refine ⟨b,c,hk,h1,?_⟩
 rcases f with ⟨f,g⟩|f
 ·exact .inl ⟨f,fun q=>by have:=h2 q;omega,g⟩
 ·exact .inr f
theorem opn_end:OpnR l E r (k+1):=by
 obtain ⟨d,hg⟩:=mat_good (opn_mat h hk h1 h2)
 obtain ⟨a,b,c,e,f⟩:=h
 cases r with
 | nil=>obtain ⟨d2,e⟩:=e;exact ⟨_,good_both e hg⟩
 | cons o2 r=>
  obtain ⟨a2,b2,c2,e2,f2⟩:=e
  refine ⟨by omega,b2,c2,e2,?_⟩
  rcases f2 with ⟨f2,d3,g⟩|⟨n,p1,p2,p3,p4,p5,d3,g⟩
  ·exact .inl ⟨f2,_,good_both g hg⟩
  ·exact .inr ⟨n,p1,p2,p3,p4,p5,_,good_both g hg⟩
end
structure Arr (l:List In3) (k:Nat) (os:List Nat) (P E Q:Nat→Int):Prop where
 opn:OpnR l E os k
 cls:∀ o,o<k→isOp l o→o ∉ os→∃ n:Nat,Q o=n∧n<k∧Mat l o (E o) n
 par:∀ j,j<k→(P j=-1∧∀ o,o<j→isOp l o→o ∉ os∧Q o<j)∨∃ o:Nat,P j=o∧o<j∧isOp l o∧(o∈os∨(j:Int)≤Q o)∧∀ x,o<x→x<j→isOp l x→x ∉ os∧Q x<j
theorem arr_start (l:List In3) (P E Q:Nat→Int):Arr l 0 [] P E Q:=⟨⟨0,good_refl (Nat.zero_le _)⟩,fun o h=>by omega,fun j h=>by omega⟩
def topR:List Nat→Int
 | []=>-1
 | o :: _=>o
theorem arr_next {l:List In3}{k:Nat}{os os':List Nat}{P E Q P' E' Q':Nat→Int} (h:Arr l k os P E Q) (hopn:OpnR l E' os' (k+1)) (hP:P' k=topR os) (hP2:∀ x,x<k→P' x=P x) (hos:∀ x,x<k→x∈os'→x∈os)
  (hQ:∀ x,x<k→x ∉ os→Q' x=Q x∧E' x=E x) (hcl:∀ x,x<k→x∈os→x ∉ os'→Q' x=k∧Mat l x (E' x) k) (hkop:isOp l k→k∈os'):Arr l (k+1) os' P' E' Q':=by
 have hold:∀ x,x<k→isOp l x→x ∉ os→Q' x<k:=fun x hx ho hn=>by
  obtain ⟨n,h1,h2,_⟩:=h.cls x hx ho hn
  rw [(hQ x hx hn).1,h1];omega
 refine ⟨hopn,fun o ho hop hn=>?_,fun j hj=>?_⟩
 ·by_cases hok:o=k
  ·subst hok;exact absurd (hkop hop) hn
  ·by_cases hm:o∈os
   ·obtain ⟨q1,q2⟩:=hcl o (by omega) hm hn
    exact ⟨k,q1,by omega,q2⟩
   ·obtain ⟨n,h1,h2,h3⟩:=h.cls o (by omega) hop hm
    obtain ⟨q1,q2⟩:=hQ o (by omega) hm
    exact ⟨n,by rw [q1,h1],by omega,by rw [q2];exact h3⟩
 ·by_cases hjk:j=k
  ·subst hjk
   rw [hP]
   have ho:=h.opn
   cases os with
   | nil=>exact .inl ⟨rfl,fun o h1 h2=>⟨fun h3=>(by have:=hos o h1 h3;cases this),hold o h1 h2 (by simp)⟩⟩
   | cons o r=>
    refine .inr ⟨o,rfl,ho.1,ho.2.2.1,?_,fun x h1 h2 h3=>?_⟩
    ·by_cases hm:o∈os'
     ·exact .inl hm
     ·right;rw [(hcl o ho.1 List.mem_cons_self hm).1];exact Int.le_refl _
    ·have hx:x ∉ o :: r:=fun hx=>by
      rcases List.mem_cons.1 hx with rfl|hx
      ·omega
      ·have:=opn_lt ho.2.2.2.1 x hx;omega
     exact ⟨fun h4=>hx (hos x h2 h4),hold x h2 h3 hx⟩
  ·rw [hP2 j (by omega)]
   have keep:∀ x,x<j→x ∉ os→Q x<j→x ∉ os'∧Q' x<j:=fun x h1 h2 h3=>⟨fun h4=>h2 (hos x (by omega) h4),by rw [(hQ x (by omega) h2).1];exact h3⟩
   rcases h.par j (by omega) with ⟨h1,h2⟩|⟨o,h1,h2,h3,h4,h5⟩
   ·exact .inl ⟨h1,fun o h3 h4=>keep o h3 (h2 o h3 h4).1 (h2 o h3 h4).2⟩
   ·refine .inr ⟨o,h1,h2,h3,?_,fun x h6 h7 h8=>keep x h7 (h5 x h6 h7 h8).1 (h5 x h6 h7 h8).2⟩
    by_cases hm':o∈os'
    ·exact .inl hm'
    ·by_cases hm:o∈os
     ·right;rw [(hcl o (by omega) hm hm').1];omega
     ·right
      rw [(hQ o (by omega) hm).1]
      rcases h4 with h4|h4
      ·exact absurd h4 hm
      ·exact h4
section
variable {l:List In3}{k:Nat}{os:List Nat}{P E Q P' E' Q':Nat→Int} (h:Arr l k os P E Q) (hk:k<l.length) (hP:P' k=topR os) (hP2:∀ x,x<k→P' x=P x)
include h hk hP hP2
theorem arr_plain (hE:∀ x,x<k→E' x=E x) (hQ:∀ x,x<k→Q' x=Q x) (h1:¬ isOp l k) (h2:(l.getD k default).op≠34) (h3:(l.getD k default).op≠35):Arr l (k+1) os P' E' Q':=
 arr_next h (opn_plain (opn_congr hE h.opn) hk h1 h2 h3) hP hP2 (fun _ _ q=>q) (fun x hx _=>⟨hQ x hx,hE x hx⟩) (fun _ _ q1 q2=>absurd q1 q2) (fun q=>absurd q h1)
theorem arr_open (hE:∀ x,x<k→E' x=E x) (hQ:∀ x,x<k→Q' x=Q x) (h1:isOp l k) (he:E' k=-1):Arr l (k+1) (k :: os) P' E' Q':=
 arr_next h (opn_open (opn_congr hE h.opn) hk h1 he) hP hP2 (fun x hx q=>(List.mem_cons.1 q).resolve_left (by omega)) (fun x hx _=>⟨hQ x hx,hE x hx⟩) (fun x _ q1 q2=>absurd (List.mem_cons_of_mem k q1) q2) (fun _=>List.mem_cons_self)
end
section
variable {l:List In3}{k o:Nat}{r:List Nat}{P E Q P' E' Q':Nat→Int} (h:Arr l k (o :: r) P E Q) (hk:k<l.length) (hP:P' k=o) (hP2:∀ x,x<k→P' x=P x)
include h hk hP hP2
theorem arr_else (hE:∀ x,x<k→x≠o→E' x=E x) (hQ:∀ x,x<k→Q' x=Q x) (h1:(l.getD k default).op=34) (h2:(l.getD o default).op=29∨(l.getD o default).op=33) (h3:E o=-1) (he:E' o=k):Arr l (k+1) (o :: r) P' E' Q':=by
 have ho:=h.opn
 refine arr_next h ?_ hP hP2 (fun _ _ q=>q) (fun x hx q=>⟨hQ x hx,hE x hx fun e=>q (e▸List.mem_cons_self)⟩) (fun _ _ q1 q2=>absurd q1 q2) (fun q=>by unfold isOp at q;rw [opens_not (.inl h1)] at q;cases q)
 exact opn_else ho hk h1 h2 h3 he hE
theorem arr_end (hE:∀ x,x<k→E' x=E x) (hQ:∀ x,x<k→x≠o→Q' x=Q x) (h1:(l.getD k default).op=35) (h2:(l.getD o default).op=33→0≤E o) (hq:Q' o=k):Arr l (k+1) r P' E' Q':=by
 have ho:=opn_congr hE h.opn
 have hol:=h.opn.1
 have h2':(l.getD o default).op=33→0≤E' o:=fun q=>by rw [hE o hol];exact h2 q
 refine arr_next h (opn_end ho hk h1 h2') hP hP2 (fun x hx q=>List.mem_cons_of_mem o q) (fun x hx q=>⟨hQ x hx fun e=>q (e▸List.mem_cons_self),hE x hx⟩) (fun x hx q1 q2=>?_) (fun q=>by unfold isOp at q;rw [opens_not (.inr h1)] at q;cases q)
 rcases List.mem_cons.1 q1 with rfl|q1
 ·exact ⟨hq,opn_mat ho hk h1 h2'⟩
 ·exact absurd q1 q2
end
theorem arr_done {l:List In3}{P E Q:Nat→Int} (h:Arr l l.length [] P E Q) {o:Nat} (ho:o<l.length) (hop:isOp l o):∃ n:Nat,Q o=n∧Mat l o (E o) n:=by
 obtain ⟨n,h1,_,h3⟩:=h.cls o ho hop (by simp)
 exact ⟨n,h1,h3⟩
def gx (L:List Int):Nat→Int:=fun x=>L.getD x 0
theorem gx_set (L:List Int) (i:Nat) (v:Int) (hi:i<L.length) (x:Nat):gx (L.set i v) x=if i=x then v else gx L x:=by
 unfold gx
 exact k98
theorem gx_old {L:List Int}{i:Nat}{v:Int} (hi:i<L.length):∀ x,x<i→gx (L.set i v) x=gx L x:=fun x hx=>by rw [gx_set L i v hi,if_neg (by omega)]
section
variable {l:List In3}{k:Nat}{os:List Nat}{P E Q:List Int}{p:Int}{X:Prop} (h:Arr l k os.reverse (gx P) (gx E) (gx Q)) (hk:k<l.length) (hL:P.length=l.length∧E.length=l.length∧Q.length=l.length∧X) (hp:p=topR os.reverse)
include h hk hL hp
theorem arrL_plain (h1:¬ isOp l k) (h2:(l.getD k default).op≠34) (h3:(l.getD k default).op≠35):RowKit.Hid (Arr l (k+1) os.reverse (gx (P.set k p)) (gx (E.set k (-1))) (gx (Q.set k (-1)))):=
 arr_plain h hk (by rw [gx_set P k p (by omega),if_pos rfl,hp]) (gx_old (by omega)) (gx_old (by omega)) (gx_old (by omega)) h1 h2 h3
theorem arrL_open (h1:isOp l k):RowKit.Hid (Arr l (k+1) (os++[k]).reverse (gx (P.set k p)) (gx (E.set k (-1))) (gx (Q.set k (-1)))):=by
 rw [List.reverse_append]
 exact arr_open h hk (by rw [gx_set P k p (by omega),if_pos rfl,hp];rfl) (gx_old (by omega)) (gx_old (by omega)) (gx_old (by omega)) h1 (by rw [gx_set E k _ (by omega),if_pos rfl])
end
section
variable {l:List In3}{k o:Nat}{os:List Nat}{P E Q:List Int}{X:Prop} (h:Arr l k (os++[o]).reverse (gx P) (gx E) (gx Q)) (hk:k<l.length) (hL:P.length=l.length∧E.length=l.length∧Q.length=l.length∧X)
include h hk hL
theorem arrL_else (he:¬ 0≤E.getD o 0) (h1:(l.getD k default).op=34) (h2:(l.getD o default).op=29∨(l.getD o default).op=33):RowKit.Hid (Arr l (k+1) (os++[o]).reverse (gx (P.set k o)) (gx ((E.set k (-1)).set o k)) (gx (Q.set k (-1)))):=by
 rw [List.reverse_append] at h ⊢
 have ho:=h.opn
 have hok:o<k:=ho.1
 have hE:gx E o=-1:=by
  rcases ho.2.2.2.2 with ⟨q,_⟩|⟨n,q,_⟩
  ·exact q
  ·exact absurd (show 0≤gx E o by omega) he
 have hes:∀ a,gx ((E.set k (-1)).set o k) a=if o=a then (k:Int) else gx (E.set k (-1)) a:=gx_set _ _ _ (by rw [List.length_set];omega)
 exact arr_else h hk (by rw [gx_set P k _ (by omega),if_pos rfl]) (gx_old (by omega)) (fun x hx hxo=>by rw [hes,if_neg (fun q=>hxo q.symm)];exact gx_old (by omega) x hx) (gx_old (by omega)) h1 h2 hE (by rw [hes,if_pos rfl])
theorem arrL_end (h2:¬ ((l.getD o default).op=33∧¬ 0≤E.getD o 0)) (h1:(l.getD k default).op=35):RowKit.Hid (Arr l (k+1) os.reverse (gx (P.set k o)) (gx (E.set k (-1))) (gx ((Q.set k (-1)).set o k))):=by
 rw [List.reverse_append] at h
 have hok:o<k:=h.opn.1
 have hqs:∀ a,gx ((Q.set k (-1)).set o k) a=if o=a then (k:Int) else gx (Q.set k (-1)) a:=gx_set _ _ _ (by rw [List.length_set];omega)
 exact arr_end h hk (by rw [gx_set P k _ (by omega),if_pos rfl]) (gx_old (by omega)) (gx_old (by omega)) (fun x hx hxo=>by rw [hqs,if_neg (fun q=>hxo q.symm)];exact gx_old (by omega) x hx) h1 (fun q=>by
  by_cases q2:0≤E.getD o 0
  ·exact q2
  ·exact absurd ⟨q,q2⟩ h2) (by rw [hqs,if_pos rfl])
end
theorem topR_snoc (os:List Nat) (o:Nat):(o:Int)=topR (os++[o]).reverse:=by rw [List.reverse_append];rfl
end
section
open Go.RowKit
def PartsP (l:List In3) (a:Nat) (e:Ending):Prop:=
 (∃ n d:Nat,e=.returned (.tuple #[.int .i64 n,.int .i64 d])∧Good l a n d∧(n<l.length→(l.getD n default).op=34∨(l.getD n default).op=35))∨(e=.returned (.tuple #[.int .i64 0,.int .i64 (-1)])∧Stuck l a)
def BrP (l:List In3) (a:Nat) (e:Ending):Prop:=
 (∃ (alt:Int) (n d:Nat),e=.returned (.tuple #[.int .i64 alt,.int .i64 n,.int .i64 d])∧a<n∧n<l.length∧Good l a (n+1) (d+1)∧Mat l a alt n)∨(e=.returned (.tuple #[.int .i64 0,.int .i64 0,.int .i64 (-1)])∧Stuck l a)
theorem ret3_c {a b c d:Int} (h:c=d):Ending.returned (.tuple #[.int .i64 a,.int .i64 b,.int .i64 c])=.returned (.tuple #[.int .i64 a,.int .i64 b,.int .i64 d]):=by rw [h]
theorem max_nat (a b:Nat):max (a:Int) ((b:Int)+1)=((max a (b+1):Nat):Int):=by omega
theorem max_nat2 (a b:Nat):max (a:Int) (b:Int)=((max a b:Nat):Int):=by omega
section
variable (l:List In3)(ao:Option Addr)(cap:Nat)(w:World)(hl:RowAt w ao cap l)(hlen:l.length≤1000)(m:Nat)
include l ao cap w hl hlen m
theorem parts_of (hb:∀ a,a<l.length→l.length-a≤m→opensV (l.getD a default).op=true→Calls Tryz.prog 82 #[.slice ao l.length cap,.int .i64 a] w fun e w'=>BrP l a e∧w=w') (a:Nat) (ha:a≤l.length) (ham:l.length-a≤m):
  Calls Tryz.prog 88 #[.slice ao l.length cap,.int .i64 a] w fun e w'=>PartsP l a e∧w=w':=by
 have HL:=Lib.hid hl
 have HBr:=Lib.hid hb
 have HG0:=Lib.hid (good_refl (l:=l) ha)
 clear hl hb
 go_enter Tryz.func88,Tryz.ntmps88
 go_wp2
 go_loop [1,6] (fun i d=>∃ b k:Nat,i=.int .i64 b∧d=.int .i64 k∧a≤b∧b≤l.length∧Good l a b k) (fun i _=>l.length-(intOf i).toNat)
 case atStart=>exact ⟨a,0,rfl,rfl,Nat.le_refl _,ha,HG0.out⟩
 case round=>
  obtain ⟨b,k,rfl,rfl,hab,hbl,hg⟩:=hrel
  have HG:=Lib.hid hg
  clear hg
  by_cases hb:b<l.length
  ·obtain ⟨ad,rfl,e0,_,_⟩:=row_in HL.out hb
   have hb2:(b:Int) < l.length:=by omega
   have HBb:=HBr.out b hb (by omega)
   have HGp:=Lib.hid (good_plain HG.out hb)
   generalize hx:(l.getD b default).op=x at e0 HBb
   rw [hx] at HGp
   have HX:=Lib.hid hx
   have HB2:=Lib.hid HBb
   have hw:IntKind.i64.wrap ((b:Int)+1)=b+1:=IntWalk.i64_in _ (by omega)
   clear hx HBb
   by_cases h34:x=34
   ·subst h34
    go_wp2
    go_ret2
    exact ⟨.inl ⟨b,k,rfl,HG.out,fun _=>by rw [HX.out];exact .inl rfl⟩,rfl⟩
   by_cases h35:x=35
   ·subst h35
    go_wp2
    go_ret2
    exact ⟨.inl ⟨b,k,rfl,HG.out,fun _=>by rw [HX.out];exact .inr rfl⟩,rfl⟩
   have n34:(x != 34)=true:=by simp [h34]
   have n35:(x != 35)=true:=by simp [h35]
   rcases hop:opensV x with _|_
   ·have HO:=Lib.hid hop
    clear hop
    go_wp2_with (go_at_call 81;refine (ropens_any _ _).mono ?_;rintro e w' ⟨rfl,rfl⟩;rw [HO.out])
    go_round
    case rel=>exact ⟨b+1,k,by go_num,rfl,by omega,by omega,HGp.out HO.out h34 h35⟩
    case measure=>simp [intOf];omega
   ·have HO:=Lib.hid hop
    clear hop
    go_wp2_with (go_at_call 81;refine (ropens_any _ _).mono ?_;rintro e w' ⟨rfl,rfl⟩;rw [HO.out])
    refine (HB2.out HO.out).mono ?_
    rintro e w' ⟨⟨alt,n,d,rfl,hbn,hnl,hgn,-⟩|⟨rfl,hst⟩,rfl⟩
    ·have HGn:=Lib.hid (good_both HG.out hgn)
     have hdp:=good_depth hgn
     clear hgn
     have hw2:IntKind.i64.wrap ((n:Int)+1)=n+1:=IntWalk.i64_in _ (by omega)
     have hdl:d+1≤1000000:=by omega
     have hw3:IntKind.i64.wrap ((d:Int)+1)=d+1:=IntWalk.i64_in _ (by omega)
     go_wp2_with fail
     exact ⟨⟨n+1,max k (d+1),by go_num,int_eq (by first|omega|(split<;>omega)),by omega,by omega,HGn.out⟩,by show l.length-((n:Int)+1).toNat<l.length-(b:Int).toNat;omega⟩
    ·have HSt:=Lib.hid (st_good HG.out hst)
     clear hst
     go_wp2_with fail
     go_ret2
     exact ⟨.inr ⟨rfl,HSt.out⟩,rfl⟩
  ·have hbe:b=l.length:=by omega
   subst hbe
   go_wp2
   go_ret2
   exact ⟨.inl ⟨l.length,k,rfl,HG.out,fun h=>by omega⟩,rfl⟩
theorem bracket_of (hp:∀ a,a≤l.length→l.length-a≤m→Calls Tryz.prog 88 #[.slice ao l.length cap,.int .i64 a] w fun e w'=>PartsP l a e∧w=w') (a:Nat) (ha:a<l.length) (ham:l.length-a≤m+1) (hop:opensV (l.getD a default).op=true):
  Calls Tryz.prog 82 #[.slice ao l.length cap,.int .i64 a] w fun e w'=>BrP l a e∧w=w':=by
 have HL:=Lib.hid hl
 have HP:=Lib.hid hp
 have HO:=Lib.hid hop
 have ha1:(a:Int) < l.length:=by omega
 have hw:IntKind.i64.wrap ((a:Int)+1)=(a:Int)+1:=IntWalk.i64_in _ (by omega)
 have hpa:=hp (a+1) (by omega) (by omega)
 rw [show ((a+1:Nat):Int)=(a:Int)+1 by omega] at hpa
 have HPa:=Lib.hid hpa
 obtain ⟨ad,rfl,e0,_,_⟩:=row_in hl ha
 clear hl hp hop hpa
 generalize hx:(l.getD a default).op=x at e0 HO
 have HX:=Lib.hid hx
 have HO2:=Lib.hid (show opensV (l.getD a default).op=true by rw [hx];exact HO.out)
 have hx1:29≤x∧x≤33:=by have:=HO.out;simpa [opensV,inI] using this
 obtain ⟨hx1,hx2⟩:=hx1
 clear hx
 go_enter Tryz.func82,Tryz.ntmps82
 go_wp2_with fail
 refine HPa.out.mono ?_
 rintro e w' ⟨⟨n,d,rfl,hg,hn⟩|⟨rfl,hst⟩,rfl⟩
 ·have HG:=Lib.hid hg
  have HN:=Lib.hid hn
  obtain ⟨hgn,hgl⟩:=good_le hg
  have hdp:=good_depth hg
  clear hg hn
  by_cases hnl:n<l.length
  ·have hnl2:(n:Int) < l.length:=by omega
   have hnl3:¬ ((l.length:Int)≤n):=by omega
   have hnl4:¬ (l.length≤n):=by omega
   have hw2:IntKind.i64.wrap ((n:Int)+1)=(n:Int)+1:=IntWalk.i64_in _ (by omega)
   obtain ⟨ad',hadd,f0,_,_⟩:=row_in HL.out hnl
   obtain rfl:=Option.some.inj hadd
   clear hadd
   have hy:=HN.out hnl
   generalize hyy:(l.getD n default).op=y at f0 hy
   have HY:=Lib.hid hyy
   clear hyy
   rcases hy with rfl|rfl
   ·have HS:=Lib.hid (fun h=>st_else ha HO2.out HG.out hnl HY.out h)
    by_cases h29:x=29∨x=33
    ·have HS1:=Lib.hid (show (l.getD a default).op=29∨(l.getD a default).op=33 by rw [HX.out];exact h29)
     have hpn:=HP.out (n+1) (by omega) (by omega)
     rw [show ((n+1:Nat):Int)=(n:Int)+1 by omega] at hpn
     have HPn:=Lib.hid hpn
     have hxx:¬ ((x != 29)=true∧(x != 33)=true):=by rcases h29 with rfl|rfl<;>simp
     clear hpn
     rcases h29 with rfl|rfl
     all_goals
      go_wp2_with fail
      refine HPn.out.mono ?_
      rintro e w' ⟨⟨q,i,rfl,hg,hn⟩|⟨rfl,hst⟩,rfl⟩
      ·have HG2:=Lib.hid hg
       have HN2:=Lib.hid hn
       obtain ⟨hgq,hgq2⟩:=good_le hg
       have hdp2:=good_depth hg
       clear hg hn
       by_cases hql:q<l.length
       ·have hql2:(q:Int) < l.length:=by omega
        have hql3:¬ ((l.length:Int)≤q):=by omega
        have hql4:¬ (l.length≤q):=by omega
        obtain ⟨ad',hadd,g0,_,_⟩:=row_in HL.out hql
        obtain rfl:=Option.some.inj hadd
        clear hadd
        have hz:=HN2.out hql
        generalize hzz:(l.getD q default).op=z at g0 hz
        have HZ:=Lib.hid hzz
        clear hzz
        rcases hz with rfl|rfl
        ·have HE:=Lib.hid (st_else2 ha HO2.out HG.out hnl HY.out HS1.out HG2.out hql HZ.out)
         go_wp2_with fail
         go_ret3
         exact ⟨.inr ⟨rfl,HE.out⟩,rfl⟩
        ·have HE:=Lib.hid (br_two ha HO2.out HG.out hnl HY.out HS1.out HG2.out hql HZ.out)
         have HMt:=Lib.hid (show Mat l a n q from ⟨ha,HO2.out,hql,HZ.out,.inr ⟨n,rfl,hnl,HY.out,HS1.out,⟨_,HG.out⟩,_,HG2.out⟩⟩)
         go_wp2_with fail
         all_goals
          go_ret3
          exact ⟨.inl ⟨n,q,max d i,ret3_c (by omega),by omega,by omega,HE.out,HMt.out⟩,rfl⟩
       ·have hqe:q=l.length:=by omega
        subst hqe
        have HE:=Lib.hid (st_never2 ha HO2.out HG.out hnl HY.out HS1.out HG2.out)
        go_wp2_with fail
        go_ret3
        exact ⟨.inr ⟨rfl,HE.out⟩,rfl⟩
      ·have HE:=Lib.hid (st_second ha HO2.out HG.out hnl HY.out HS1.out hst)
       clear hst
       go_wp2_with fail
       go_ret3
       exact ⟨.inr ⟨rfl,HE.out⟩,rfl⟩
    ·have n29:(x != 29)=true:=by simp;omega
     have n33:(x != 33)=true:=by simp;omega
     have HE:=Lib.hid (HS.out (by rw [HX.out];exact h29))
     exact k70
   ·by_cases h33:x=33
    ·subst h33
     have HE:=Lib.hid (st_try ha HO2.out HG.out hnl HY.out HX.out)
     exact k70
    ·have n33:(x == 33)=false:=by simp [h33]
     have HE:=Lib.hid (br_one ha HO2.out HG.out hnl HY.out (by rw [HX.out];exact h33))
     have HMt:=Lib.hid (show Mat l a (-1) n from ⟨ha,HO2.out,hnl,HY.out,.inl ⟨rfl,(by rw [HX.out];exact h33),_,HG.out⟩⟩)
     go_wp2_with fail
     go_ret3
     exact ⟨.inl ⟨-1,n,d,rfl,by omega,by omega,HE.out,HMt.out⟩,rfl⟩
  ·have hne:n=l.length:=by omega
   subst hne
   have HE:=Lib.hid (st_never ha HO2.out HG.out)
   exact k70
 ·have HE:=Lib.hid (st_open ha HO2.out hst)
  clear hst
  exact k70
end
theorem pb_any (l:List In3) (ao:Option Addr) (cap:Nat) (w:World) (hl:RowAt w ao cap l) (hlen:l.length≤1000):∀ (m a:Nat),a≤l.length→l.length-a≤m →
  Calls Tryz.prog 88 #[.slice ao l.length cap,.int .i64 a] w fun e w'=>PartsP l a e∧w=w'
 | 0,a,ha,hm=>parts_of l ao cap w hl hlen 0 (fun b hb hbm _=>by omega) a ha hm
 | m+1,a,ha,hm=>parts_of l ao cap w hl hlen (m+1) (fun b hb hbm ho=>bracket_of l ao cap w hl hlen m (pb_any l ao cap w hl hlen m) b hb hbm ho) a ha hm
theorem parts_any (l:List In3) (ao:Option Addr) (cap:Nat) (w:World) (hl:RowAt w ao cap l) (hlen:l.length≤1000) (a:Nat) (ha:a≤l.length) :
  Calls Tryz.prog 88 #[.slice ao l.length cap,.int .i64 a] w fun e w'=>PartsP l a e∧w=w':=pb_any l ao cap w hl hlen _ a ha (Nat.le_refl _)
theorem rCheck3_any (l:List In3) (ao:Option Addr) (cap:Nat) (p:Bool) (w:World) (hl:RowAt w ao cap l) :
  Calls Tryz.prog 53 #[.slice ao l.length cap,.bool p] w (Ret w (.int .i64 (codeE p l))):=by
 have HL:=Lib.hid hl
 generalize hq:codeE p l=q
 have HQ:=Lib.hid hq
 clear hl hq
 by_cases hlen:l.length≤120
 ·have hl3:¬ (l.length:Int) > 120:=by omega
  have hl4:¬ (120:Int) < l.length:=by omega
  have hl5:¬ 120<l.length:=by omega
  go_enter Tryz.func53,Tryz.ntmps53
  go_wp2
  go_loopw [5] (fun i wr=>∃ (k:Nat),k≤l.length∧i=.int .i64 k∧Below w.heap.size w wr∧(∀ j,j<k→insnV p (l.getD j default)=true)) (fun i _=>l.length-(intOf i).toNat)
  case atStart=>exact ⟨0,by omega,rfl,Below.refl _ _,by omega⟩
  case round=>
   obtain ⟨k,hk,rfl,hbel,q1⟩:=hrel
   have Q1:=Lib.hid q1
   clear q1
   by_cases hkl:k<l.length
   ·obtain ⟨ad,rfl,e0,e1,e2⟩:=row_in (HL.out.old hbel) hkl
    have hva:=rValidI_any (l.getD k default) p wr
    obtain ⟨x,hx⟩:∃ x,x=l.getD k default:=⟨_,rfl⟩
    rw [←hx] at e0 e1 e2 hva
    have HX:=Lib.hid hx
    have HVa:=Lib.hid hva
    have hkl2:(k:Int) < l.length:=by omega
    have hkw:IntKind.i64.wrap ((k:Int)+1)=k+1:=IntWalk.i64_in _ (by omega)
    clear hx hva
    rcases hI:insnV p x with _|_
    ·rw [hI] at HVa
     have HP:=Lib.hid hI
     clear hI
     go_wp2_with fail
     refine HVa.out.mono ?_
     rintro e w1 ⟨rfl,hb1⟩
     go_wp2
     go_ret
     refine ret_ok (int_eq ?_) (bthen hbel hb1)
     rw [←HQ.out,codeE,if_neg (by omega),if_neg]
     intro hall
     have:=List.all_eq_true.1 hall x (by rw [HX.out,List.getD_eq_getElem?_getD,List.getElem?_eq_getElem hkl];exact List.getElem_mem hkl)
     rw [HP.out] at this
     cases this
    ·rw [hI] at HVa
     have HP:=Lib.hid hI
     clear hI
     go_wp2_with fail
     refine HVa.out.mono ?_
     rintro e w1 ⟨rfl,hb1⟩
     have hb2:=bthen hbel hb1
     clear hb1 hbel
     go_wp2
     go_roundw
     case rel=>
      refine ⟨k+1,by omega,by go_num,hb2,fun j hj=>?_⟩
      by_cases hjk:j<k
      ·exact Q1.out j hjk
      ·obtain rfl:j=k:=by omega
       rw [←HX.out];exact HP.out
     case measure=>simp [intOf];omega
   ·have hall:l.all (insnV p)=true:=by
     rw [List.all_eq_true]
     intro x hx
     obtain ⟨j,hj,rfl⟩:=List.mem_iff_getElem.1 hx
     have:=Q1.out j (by omega)
     simpa [hj] using this
    have HE:=Lib.hid (show q=if nestV l then 0 else 7 by rw [←HQ.out,codeE,if_neg (by omega),if_pos hall])
    have hpa:=parts_any l ao cap wr (HL.out.old hbel) (by omega) 0 (by omega)
    have HPa:=Lib.hid hpa
    clear hall hpa
    go_wp2_with fail
    refine HPa.out.mono ?_
    rintro e w' ⟨⟨n,d,rfl,hg,hn⟩|⟨rfl,hst⟩,rfl⟩
    ·have HG:=Lib.hid hg
     have HN:=Lib.hid hn
     obtain ⟨_,hgl⟩:=good_le hg
     clear hg hn
     by_cases hnl:n<l.length
     ·have hnl2:(n:Int) < l.length:=by omega
      have HV:=Lib.hid (nestV_stray HG.out hnl (HN.out hnl))
      go_wp2_with fail
      go_ret
      exact ret_ok (int_eq (by rw [HE.out,HV.out];rfl)) hbel
     ·have hne:n=l.length:=by omega
      subst hne
      have HV:=Lib.hid (nestV_good HG.out)
      go_wp2_with fail
      all_goals
       go_ret
       refine ret_ok (int_eq ?_) hbel
       rw [HE.out,HV.out]
       first
        | (rw [decide_eq_true (by omega)];rfl)
        | (rw [decide_eq_false (by omega)];rfl)
    ·have HV:=Lib.hid (nestV_stuck hst)
     clear hst
     go_wp2_with fail
     go_ret
     exact ret_ok (int_eq (by rw [HE.out,HV.out];rfl)) hbel
 ·have hl3:(120:Int) < l.length:=by omega
  have hl5:120<l.length:=by omega
  go_enter Tryz.func53,Tryz.ntmps53
  go_wp2
  go_ret
  exact ret_ok (int_eq (by rw [←HQ.out,codeE,if_pos hl5])) (Below.refl _ _)
end
end Go.Proofs.YtfkbfjhocmbneaaGreat
