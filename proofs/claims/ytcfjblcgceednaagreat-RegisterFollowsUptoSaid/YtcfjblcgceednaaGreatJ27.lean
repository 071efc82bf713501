import Derived.Test.YtcfjblcgceednaaGreatJ25
import Derived.Test.YtcfjblcgceednaaGreatJ26
set_option linter.all false
set_option maxRecDepth 100000
set_option maxHeartbeats 8000000
namespace Go.Proofs.YtcfjblcgceednaaGreat
section
open Go.RowKit
theorem Zoq (a b:Int) (w:World):Calls Tryz.prog 282 #[.int .i64 a,.int .i64 b] w fun e w'=>e=.returned (.int .i64 (wrap64 (a+b)))∧w=w':=by go_enter Tryz.func282,Tryz.ntmps282;go_wp2;go_ret;exact ⟨rfl,rfl⟩
theorem Zor (f g:Nat) (a b c d:Int) (w:World) (n:(vB a&&vB b)=true)
  (l:∀ A W,(callFunc f A).run Tryz.prog W=.ok (.enter f A) W) (m:∀ A W,(callFunc g A).run Tryz.prog W=.ok (.enter g A) W)
  (h:∀ W,Calls Tryz.prog f #[.int .i64 a,.int .i64 b] W fun e w'=>e=.returned (.int .i64 c)∧W=w')
  (i:∀ W,Calls Tryz.prog g #[.int .i64 c] W fun e w'=>e=.returned (.int .i64 d)∧W=w') :
  Calls Tryz.prog 281 #[.int .i64 a,.int .i64 b,.func (.func f) #[] #[],.func (.func g) #[] #[]] w fun e w'=>e=.returned (.tuple #[.int .i64 d,.int .i64 0])∧Below w.heap.size w w':=by
 have j:=Zh h;have k:=Zh i;clear h i;go_enter Tryz.func281,Tryz.ntmps281
 go_wp2_with (first|(go_at_call 286;refine (Znf a b _ _ (by simp [go_sem]) (by simp [go_sem,Addr.add])).mono ?_;rintro e w' ⟨rfl,rfl⟩)|(refine (j.out _).mono ?_;rintro e w' ⟨rfl,rfl⟩)|(refine (k.out _).mono ?_;rintro e w' ⟨rfl,rfl⟩))
 go_ret2;exact ⟨rfl,(Below.refl _ _).alloc (Nat.le_refl _) _⟩
theorem Zos (A:Array Value) (W:World):(callFunc 282 A).run Tryz.prog W=.ok (.enter 282 A) W:=by kernel_rfl
theorem Zot (A:Array Value) (W:World):(callFunc 283 A).run Tryz.prog W=.ok (.enter 283 A) W:=by kernel_rfl
theorem Zou {a b:Int} (h:(vB a&&vB b)=true):wrap64 (a+b)=a+b:=by
 obtain ⟨c,d⟩:vB a=true∧vB b=true:=by simpa using h
 rw [Zm8] at c d;exact IntWalk.wrap64_in _ (by omega)
theorem Zov (a b:Int) (w:World) (d:(vB a&&vB b)=true) :
  Calls Tryz.prog 209 #[.int .i64 a,.int .i64 b] w fun e w'=>e=.returned (.tuple #[.int .i64 (wrap32 (a+b)),.int .i64 0])∧Below w.heap.size w w':=by
 have c:=Zh d;clear d;go_enter Tryz.func209,Tryz.ntmps209
 go_wp2_with (first|(go_at_call 281;refine (Zor 282 283 _ _ _ _ _ c.out Zos Zot (fun W=>by have h:=Zoq a b W;rw [Zou c.out] at h;exact h) (Zng _)).mono ?_;rintro e w' ⟨rfl,f⟩))
 go_ret2;exact ⟨rfl,f⟩
end
section
open Go.RowKit
theorem Zow (g n:Nat):(⟨g,0,none⟩:Addr).add n=⟨g,n,none⟩:=by unfold Addr.add;split<;>simp_all
end
section
open Go.RowKit
attribute [local go_sem] Zow
end
