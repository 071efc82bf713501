import Derived.Test.YtfmcclhfnpcokaaGreatT25
import Derived.Test.YtfmcclhfnpcokaaGreatT40
namespace Go.Proofs.YtfmcclhfnpcokaaGreat.liveTypes
open Go.ChangeShapes Go.WideShapes Go.ChangeAt Go.RowKit
open Go.ChangeMaps (open_string shut_string)
set_option linter.unusedVariables false
theorem own : ownKnob Tryz.prog.godebug = none := by kernel_rfl
theorem laidOut : laidOutB Tryz.prog = true := by kernel_rfl
set_option maxRecDepth 100000 in
theorem contract (H : Type) (enc : TypeId × Value → H) (W : World) (base : Nat) (f : Array Value) (ds N : List (DataW H)) (A : List MemPlace)
    (z : ∀ (j : Nat) t v, Tryz.f7.params[j]? = some t → f[j]? = some v → Value.okWide Tryz.prog W .any base t v)
    (U : DataW.Whole enc Tryz.prog Tryz.f7.params.toList Rows.liveTypesSpec.vars false W f.toList ds N A) (hk : Rows.uptoSmall H (ds ++ N) = true) :
    Calls Tryz.prog 7 f W fun e M => ∃ v, e = .returned v ∧ Rows.liveTypesSpec.post enc Tryz.prog Tryz.f7 false true false false W f v M := by
  have y : ∀ (j : Nat) t v, Tryz.f7.params[j]? = some t → f[j]? = some v → Value.okWide Tryz.prog W .any base t v := z;have D := U;obtain ⟨p, q, C, hV, rfl, ac, ae⟩ := U;have T : DataW.TrodAll enc Tryz.prog W 0 (fun _ => true) true Tryz.f7.params.toList f.toList ds p := C;rw [Tryz.params7] at T y;obtain ⟨v0, ag, d0, Z, p0, q0, E, rfl, rfl, R, r0⟩ := trodAll_cons T;obtain ⟨V, ah, d1, aa, p1, q1, rfl, rfl, rfl, h1, r1⟩ := trodAll_cons r0;obtain ⟨rfl, rfl, rfl⟩ := trodAll_nil r1;obtain rfl : f = #[v0, V] := by cases f; simp_all
  obtain ⟨rfl, rfl⟩ := trodVars_none hV;have hB := ZnV hk;simp only [Rows.uptoBulkAll, List.append_nil, Nat.add_zero] at hB;have k0 := R;have I : ∀ x ∈ p0, x.block < W.heap.size := by obtain ⟨m, G⟩ := k0; exact DataW.trod_lt m _ _ _ G
  obtain ⟨F, m0, rfl, X, Y⟩ := Zog (y 0 26 v0 rfl rfl) R (by omega);have k1 := h1;have J : ∀ x ∈ p1, x.block < W.heap.size := by obtain ⟨m, G⟩ := k1; exact DataW.trod_lt m _ _ _ G
  obtain ⟨t1, rfl⟩ := Zoi (y 1 38 V rfl rfl) h1;clear C z;refine (ZtO m0 F t1 W X (Zoj Y)).mono fun e M ⟨he, bel⟩ => ?_;subst he;exact ⟨_, rfl, _, _, _, [], _, [], D, trodAll_mk1 (shut_bool Tryz.underlying4 _), (trodAll_cons_mk (Below.trod laidOut (by kernel_rfl) (of_decide_eq_true (by kernel_rfl)) k0 bel I) (trodAll_cons_mk (Below.trod laidOut (by kernel_rfl) (of_decide_eq_true (by kernel_rfl)) k1 bel J) trodAll_mk0)), rfl, bel.frame _, fun h => by cases h⟩

set_option maxRecDepth 100000 in
theorem lifted (f : Os) (a : f.Started) (H : Type) (enc : TypeId × Value → H) (F : Stop.Interp) :
    ReturnsInHanded {} Tryz.checked f 7 .any ((Rows.OpenSpec.upto Rows.liveTypesSpec).pre6 enc Tryz.prog Tryz.f7 Rows.liveTypesUptoRow.domain false) (((Rows.OpenSpec.upto Rows.liveTypesSpec).at F).post enc Tryz.prog Tryz.f7 false true false false) := by
  refine returnsInHanded_of_cond (C := Tryz.checked) (s := Rows.OpenSpec.upto Rows.liveTypesSpec) (k := Rows.uptoSmall) rfl own a (by kernel_rfl) Tryz.func7
    (OpenSpec.witness (enc := enc) (C := Tryz.checked) (s := Rows.OpenSpec.upto Rows.liveTypesSpec) (k := Rows.uptoSmall) rfl false ⟨#[], #[.agg #[.slice none 0 0, .slice none 0 0, .slice none 0 0, .int .i64 0], .agg #[.int .i64 0, .int .i64 0]], []⟩ 8 (by kernel_rfl) (by kernel_rfl) (by kernel_rfl)
      (x := ([.agg [.nil, .nil, .nil, .lit (.int .i64 0)], .agg [.lit (.int .i64 0), .lit (.int .i64 0)]], [], [])) (by kernel_rfl) rfl (by kernel_rfl)) ?_
  intro W d c g h b e i _ j _;exact contract H enc W d c g h b e i j

set_option maxHeartbeats 100000000 in
theorem closed : joinedFacts Tryz.checked.prog 7 Tryz.f7 (Rows.OpenSpec.upto Rows.liveTypesSpec).bare Rows.liveTypesUptoRow = true := by
  unfold joinedFacts;simp only [Bool.and_eq_true]
  repeat' apply And.intro
  all_goals (as_aux_lemma => kernel_rfl)
/-- THE STATEMENT -/
theorem proved : Rows.LiveTypesUptoSaid :=
  OpenClaim.holds_of_cond 7 Tryz.f7 rfl rfl rfl rfl rfl rfl rfl ⟨rfl, rfl, rfl, rfl, rfl⟩ rfl rfl rfl rfl rfl (by kernel_rfl) Tryz.func7 closed
    (of_decide_eq_true (by kernel_rfl)) (by unfold Func.isWrapper; first | (rw [if_pos (by decide +kernel)]; kernel_rfl) | (rw [if_neg (by decide +kernel)]; exact ⟨rfl, rfl⟩))
    (fun c a H b _ F => lifted c a H b F)
#print axioms proved
end Go.Proofs.YtfmcclhfnpcokaaGreat.liveTypes
