/- Rows.LiveStaticsUptoSaid: for every input of bulk at most 1048576 the law returns true and leaves its arguments as they were; the bound is the statement's own. -/
import Derived.Test.YtfmcclhfnpcokaaGreatT25
import Derived.Test.YtfmcclhfnpcokaaGreatT40
namespace Go.Proofs.YtfmcclhfnpcokaaGreat.liveStatics
open Go.ChangeShapes Go.WideShapes Go.ChangeAt Go.RowKit
open Go.ChangeMaps (open_string shut_string)
set_option linter.unusedVariables false
theorem own : ownKnob Tryz.prog.godebug = none := by kernel_rfl
theorem laidOut : laidOutB Tryz.prog = true := by kernel_rfl
set_option maxRecDepth 100000 in
theorem contract (H : Type) (enc : TypeId × Value → H) (W : World) (base : Nat) (b : Array Value) (ds D : List (DataW H)) (g : List MemPlace)
    (f : ∀ (j : Nat) t v, Tryz.f6.params[j]? = some t → b[j]? = some v → Value.okWide Tryz.prog W .any base t v)
    (G : DataW.Whole enc Tryz.prog Tryz.f6.params.toList Rows.liveStaticsSpec.vars false W b.toList ds D g) (hk : Rows.uptoSmall H (ds ++ D) = true) :
    Calls Tryz.prog 6 b W fun e C => ∃ v, e = .returned v ∧ Rows.liveStaticsSpec.post enc Tryz.prog Tryz.f6 false true false false W b v C := by
  have s : ∀ (j : Nat) t v, Tryz.f6.params[j]? = some t → b[j]? = some v → Value.okWide Tryz.prog W .any base t v := f;have y := G;obtain ⟨p, q, u, M, rfl, N, T⟩ := G;have F : DataW.TrodAll enc Tryz.prog W 0 (fun _ => true) true Tryz.f6.params.toList b.toList ds p := u;rw [Tryz.params6] at F s;obtain ⟨v0, X, Z, J, p0, q0, z, rfl, rfl, E, V⟩ := trodAll_cons F;obtain ⟨rfl, rfl, rfl⟩ := trodAll_nil V;obtain rfl : b = #[v0] := by cases b; simp_all
  obtain ⟨rfl, rfl⟩ := trodVars_none M;have hB := ZnV hk;simp only [Rows.uptoBulkAll, List.append_nil, Nat.add_zero] at hB;have k0 := E;have B : ∀ x ∈ p0, x.block < W.heap.size := by obtain ⟨m, R⟩ := k0; exact DataW.trod_lt m _ _ _ R
  obtain ⟨A, U, rfl, I, Y⟩ := Zog (s 0 26 v0 rfl rfl) E (by omega);clear u f;refine (ZtS U A W I).mono fun e C ⟨he, bel⟩ => ?_;subst he;exact ⟨_, rfl, _, _, _, [], _, [], y, trodAll_mk1 (shut_bool Tryz.underlying4 _), (trodAll_cons_mk (Below.trod laidOut (by kernel_rfl) (of_decide_eq_true (by kernel_rfl)) k0 bel B) trodAll_mk0), rfl, bel.frame _, fun h => by cases h⟩

set_option maxRecDepth 100000 in
theorem lifted (f : Os) (a : f.Started) (H : Type) (enc : TypeId × Value → H) (F : Stop.Interp) :
    ReturnsInHanded {} Tryz.checked f 6 .any ((Rows.OpenSpec.upto Rows.liveStaticsSpec).pre6 enc Tryz.prog Tryz.f6 Rows.liveStaticsUptoRow.domain false) (((Rows.OpenSpec.upto Rows.liveStaticsSpec).at F).post enc Tryz.prog Tryz.f6 false true false false) := by
  refine returnsInHanded_of_cond (C := Tryz.checked) (s := Rows.OpenSpec.upto Rows.liveStaticsSpec) (k := Rows.uptoSmall) rfl own a (by kernel_rfl) Tryz.func6
    (OpenSpec.witness (enc := enc) (C := Tryz.checked) (s := Rows.OpenSpec.upto Rows.liveStaticsSpec) (k := Rows.uptoSmall) rfl false ⟨#[], #[.agg #[.slice none 0 0, .slice none 0 0, .slice none 0 0, .int .i64 0]], []⟩ 8 (by kernel_rfl) (by kernel_rfl) (by kernel_rfl)
      (x := ([.agg [.nil, .nil, .nil, .lit (.int .i64 0)]], [], [])) (by kernel_rfl) rfl (by kernel_rfl)) ?_
  intro W d c g h b e i _ j _;exact contract H enc W d c g h b e i j

set_option maxHeartbeats 100000000 in
theorem closed : joinedFacts Tryz.checked.prog 6 Tryz.f6 (Rows.OpenSpec.upto Rows.liveStaticsSpec).bare Rows.liveStaticsUptoRow = true := by
  unfold joinedFacts;simp only [Bool.and_eq_true]
  repeat' apply And.intro
  all_goals (as_aux_lemma => kernel_rfl)
/-- THE STATEMENT -/
theorem proved : Rows.LiveStaticsUptoSaid :=
  OpenClaim.holds_of_cond 6 Tryz.f6 rfl rfl rfl rfl rfl rfl rfl ⟨rfl, rfl, rfl, rfl, rfl⟩ rfl rfl rfl rfl rfl (by kernel_rfl) Tryz.func6 closed
    (of_decide_eq_true (by kernel_rfl)) (by unfold Func.isWrapper; first | (rw [if_pos (by decide +kernel)]; kernel_rfl) | (rw [if_neg (by decide +kernel)]; exact ⟨rfl, rfl⟩))
    (fun c a H b _ F => lifted c a H b F)
#print axioms proved
end Go.Proofs.YtfmcclhfnpcokaaGreat.liveStatics
