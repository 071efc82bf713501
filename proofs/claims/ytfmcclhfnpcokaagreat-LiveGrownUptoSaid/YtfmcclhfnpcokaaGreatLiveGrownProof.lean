import Derived.Test.YtfmcclhfnpcokaaGreatU25
import Derived.Test.YtfmcclhfnpcokaaGreatU39
namespace Go.Proofs.YtfmcclhfnpcokaaGreat.liveGrown
open Go.ChangeShapes Go.WideShapes Go.ChangeAt Go.RowKit
open Go.ChangeMaps (open_string shut_string)
set_option linter.unusedVariables false
theorem own : ownKnob Tryz.prog.godebug = none := by kernel_rfl
theorem laidOut : laidOutB Tryz.prog = true := by kernel_rfl
set_option maxRecDepth 100000 in
theorem contract (H : Type) (enc : TypeId × Value → H) (W : World) (base : Nat) (f : Array Value) (ds R : List (DataW H)) (A : List MemPlace)
    (z : ∀ (j : Nat) t v, Tryz.f5.params[j]? = some t → f[j]? = some v → Value.okWide Tryz.prog W .any base t v)
    (V : DataW.Whole enc Tryz.prog Tryz.f5.params.toList Rows.liveGrownSpec.vars false W f.toList ds R A) (hk : Rows.uptoSmall H (ds ++ R) = true) :
    Calls Tryz.prog 5 f W fun e N => ∃ v, e = .returned v ∧ Rows.liveGrownSpec.post enc Tryz.prog Tryz.f5 false true false false W f v N := by
  have y : ∀ (j : Nat) t v, Tryz.f5.params[j]? = some t → f[j]? = some v → Value.okWide Tryz.prog W .any base t v := z;have E := V;obtain ⟨p, q, C, hV, rfl, ah, ai⟩ := V;have U : DataW.TrodAll enc Tryz.prog W 0 (fun _ => true) true Tryz.f5.params.toList f.toList ds p := C;rw [Tryz.params5] at U y;obtain ⟨v0, an, d0, ac, p0, q0, F, rfl, rfl, h0, r0⟩ := trodAll_cons U;obtain ⟨X, ao, d1, ae, p1, q1, rfl, rfl, rfl, h1, r1⟩ := trodAll_cons r0;obtain ⟨Y, ap, d2, af, p2, q2, rfl, rfl, rfl, T, r2⟩ := trodAll_cons r1;obtain ⟨rfl, rfl, rfl⟩ := trodAll_nil r2;obtain rfl : f = #[v0, X, Y] := by cases f; simp_all
  obtain ⟨rfl, rfl⟩ := trodVars_none hV;have hB := ZnG hk;simp only [Rows.uptoBulkAll, List.append_nil, Nat.add_zero] at hB;have k0 := h0;have I : ∀ x ∈ p0, x.block < W.heap.size := by obtain ⟨m, D⟩ := k0; exact DataW.trod_lt m _ _ _ D
  obtain ⟨G, m0, rfl, H0⟩ := Zn2 (y 0 26 v0 rfl rfl) h0 (by omega);have k1 := h1;have J : ∀ x ∈ p1, x.block < W.heap.size := by obtain ⟨m, D⟩ := k1; exact DataW.trod_lt m _ _ _ D
  obtain ⟨t1, rfl⟩ := Zn3 (y 1 38 X rfl rfl) h1;have k2 := T;have M : ∀ x ∈ p2, x.block < W.heap.size := by obtain ⟨m, D⟩ := k2; exact DataW.trod_lt m _ _ _ D
  obtain ⟨a2, cap2, Z, rfl, s2, w2, l2, b2⟩ := ZnI Tryz.underlying27 Tryz.underlying3 (by kernel_rfl) (y 2 27 Y rfl rfl) T;have n2 : Z.length ≤ 1048576 := by omega
  clear C z;refine (Zse m0 G t1 a2 cap2 Z W H0 (Zsb s2)).mono fun e N ⟨he, bel⟩ => ?_;subst he;exact ⟨_, rfl, _, _, _, [], _, [], E, trodAll_mk1 (shut_bool Tryz.underlying4 _), (trodAll_cons_mk (Below.trod laidOut (by kernel_rfl) (of_decide_eq_true (by kernel_rfl)) k0 bel I) (trodAll_cons_mk (Below.trod laidOut (by kernel_rfl) (of_decide_eq_true (by kernel_rfl)) k1 bel J) (trodAll_cons_mk (Below.trod laidOut (by kernel_rfl) (of_decide_eq_true (by kernel_rfl)) k2 bel M) trodAll_mk0))), rfl, bel.frame _, fun h => by cases h⟩

set_option maxRecDepth 100000 in
theorem lifted (f : Os) (a : f.Started) (H : Type) (enc : TypeId × Value → H) (F : Stop.Interp) :
    ReturnsInHanded {} Tryz.checked f 5 .any ((Rows.OpenSpec.upto Rows.liveGrownSpec).pre6 enc Tryz.prog Tryz.f5 Rows.liveGrownUptoRow.domain false) (((Rows.OpenSpec.upto Rows.liveGrownSpec).at F).post enc Tryz.prog Tryz.f5 false true false false) := by
  refine returnsInHanded_of_cond (C := Tryz.checked) (s := Rows.OpenSpec.upto Rows.liveGrownSpec) (k := Rows.uptoSmall) rfl own a (by kernel_rfl) Tryz.func5
    (OpenSpec.witness (enc := enc) (C := Tryz.checked) (s := Rows.OpenSpec.upto Rows.liveGrownSpec) (k := Rows.uptoSmall) rfl false ⟨#[], #[.agg #[.slice none 0 0, .slice none 0 0, .slice none 0 0, .int .i64 0], .agg #[.int .i64 0, .int .i64 0], .slice none 0 0], []⟩ 8 (by kernel_rfl) (by kernel_rfl) (by kernel_rfl)
      (x := ([.agg [.nil, .nil, .nil, .lit (.int .i64 0)], .agg [.lit (.int .i64 0), .lit (.int .i64 0)], .nil], [], [])) (by kernel_rfl) rfl (by kernel_rfl)) ?_
  intro W d c g h b e i _ j _;exact contract H enc W d c g h b e i j

set_option maxHeartbeats 100000000 in
theorem closed : joinedFacts Tryz.checked.prog 5 Tryz.f5 (Rows.OpenSpec.upto Rows.liveGrownSpec).bare Rows.liveGrownUptoRow = true := by
  unfold joinedFacts;simp only [Bool.and_eq_true]
  repeat' apply And.intro
  all_goals (as_aux_lemma => kernel_rfl)
/-- THE STATEMENT -/
theorem proved : Rows.LiveGrownUptoSaid :=
  OpenClaim.holds_of_cond 5 Tryz.f5 rfl rfl rfl rfl rfl rfl rfl ⟨rfl, rfl, rfl, rfl, rfl⟩ rfl rfl rfl rfl rfl (by kernel_rfl) Tryz.func5 closed
    (of_decide_eq_true (by kernel_rfl)) (by unfold Func.isWrapper; first | (rw [if_pos (by decide +kernel)]; kernel_rfl) | (rw [if_neg (by decide +kernel)]; exact ⟨rfl, rfl⟩))
    (fun c a H b _ F => lifted c a H b F)
#print axioms proved
end Go.Proofs.YtfmcclhfnpcokaaGreat.liveGrown
