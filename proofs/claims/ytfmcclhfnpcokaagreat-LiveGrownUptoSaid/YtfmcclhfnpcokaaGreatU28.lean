import Derived.Test.YtfmcclhfnpcokaaGreatU24
import Derived.Test.YtfmcclhfnpcokaaGreatU25
set_option linter.all false
set_option maxRecDepth 100000
set_option maxHeartbeats 8000000
namespace Go.Proofs.YtfmcclhfnpcokaaGreat
section
open Go.RowKit
theorem Zql : Tryz.prog.fieldsOf 72 = #[⟨"Op", 3, 0, false, "", "", 0⟩, ⟨"A", 3, 1, false, "", "", 8⟩, ⟨"B", 3, 2, false, "", "", 16⟩] := by kernel_rfl
theorem Zqm (w:World) (op:BinOp) (x y:Operand) (a ys:Array Value):Sem.run Tryz.prog (eqGuard op 72 x y (.agg a) (.agg ys)) w=.ok () w:=run_eqGuard_agg w op 72 x y a ys (by kernel_rfl)
end
section
open Go.RowKit
theorem Zqn (w:World) (a b c x y z:Int):Sem.run Tryz.prog (Op.equalIn 10000 72 (.agg #[.int .i64 a,.int .i64 b,.int .i64 c]) (.agg #[.int .i64 x,.int .i64 y,.int .i64 z])) w=.ok (decide ((⟨a,b,c⟩:In3)=⟨x,y,z⟩)) w:=by
 have h:Tryz.prog.underlying 72=some (.struct (Tryz.prog.fieldsOf 72)):=by kernel_rfl
 rw [run_equalIn_agg _ _ _ _ _ h (by kernel_rfl),Zql];have e:∀ (x y z:Int) w,Sem.run Tryz.prog (part 3 #[.int .i64 x,.int .i64 y,.int .i64 z] 0) w=.ok (.int .i64 x) w:=fun x y z w=>by kernel_rfl
 have f:∀ (x y z:Int) w,Sem.run Tryz.prog (part 3 #[.int .i64 x,.int .i64 y,.int .i64 z] 1) w=.ok (.int .i64 y) w:=fun x y z w=>by kernel_rfl
 have g:∀ (x y z:Int) w,Sem.run Tryz.prog (part 3 #[.int .i64 x,.int .i64 y,.int .i64 z] 2) w=.ok (.int .i64 z) w:=fun x y z w=>by kernel_rfl
 have d:∀ (x y:Int) w,Sem.run Tryz.prog (Op.equalIn 9999 3 (.int .i64 x) (.int .i64 y)) w=.ok (x == y) w:=fun x y w=>run_equalIn_int w 9998 3 .i64 .i64 x y Tryz.underlying3;simp only [Op.eqFields,Sem.run_bind,e,f,g,d,Result.andThen_ok];by_cases h1:a=x<;>by_cases h2:b=y<;>by_cases h3:c=z<;>simp [h1,h2,h3,Op.eqFields,e,f,g,d]
theorem Zqo (w:World) (a b c x y z:Int):Sem.run Tryz.prog (binOp .eql 72 (.agg #[.int .i64 a,.int .i64 b,.int .i64 c]) (.agg #[.int .i64 x,.int .i64 y,.int .i64 z])) w=.ok (.bool (decide ((⟨a,b,c⟩:In3)=⟨x,y,z⟩))) w:=by rw [run_eql_struct,Zqn];rfl
theorem Zqp {m:Md} (b:Za2 m=true) {d:Nat} (a:d<m.cl.length):(fsC m d).length≤7:=by have h:=Zip b d a;unfold ZaL at h;simp only [Bool.and_eq_true,decide_eq_true_eq] at h;have:=h.1.1.1.1.2;exact this
end
