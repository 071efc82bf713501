import Derived.Test.YtcfjblcgceednaaGreatJ26
import Derived.Test.YtcfjblcgceednaaGreatJ42
namespace Go.Proofs.YtcfjblcgceednaaGreat.registerFollows
open Go.ChangeShapes Go.WideShapes Go.ChangeAt Go.RowKit
open Go.ChangeMaps (open_string shut_string)
set_option linter.unusedVariables false
theorem row_of_sl {w:World}{a:Option Addr}{cap:Nat}{zs:List Int} (h:Sl .i64 w a zs∧(a=none→cap=0)):Zar w a cap zs:=by
  have fl:∀ l:List Int,Zak l=l.map (Value.int .i64):=fun l=>by
    induction l with
    | nil=>rfl
    | cons x r ih=>simp only [Zak,List.flatMap_cons,List.map_cons] at ih ⊢;rw [ih];rfl
  refine ⟨?_,fun e=>⟨?_,h.2 e⟩,fun j u hu=>?_⟩
  · rw [fl,List.length_map];show zs.length=zs.length*1;omega
  · by_cases hz:zs.length=0
    · exact hz
    · obtain ⟨ad,h1,_⟩:=h.1 0 (by omega)
      rw [e] at h1;cases h1
  · rw [fl,List.getElem?_map] at hu
    have hj:j<zs.length:=by
      by_cases hj:j<zs.length
      · exact hj
      · rw [List.getElem?_eq_none (by omega)] at hu;cases hu
    obtain ⟨ad,h1,h2⟩:=h.1 j hj
    rw [List.getElem?_eq_getElem hj] at hu
    cases hu
    refine ⟨ad,h1,?_⟩
    rw [h2,List.getD_eq_getElem?_getD,List.getElem?_eq_getElem hj];rfl
theorem own : ownKnob Tryz.prog.godebug = none := by kernel_rfl
theorem laidOut : laidOutB Tryz.prog = true := by kernel_rfl
set_option maxRecDepth 100000 in
theorem contract (H : Type) (enc : TypeId × Value → H) (W : World) (base : Nat) (f : Array Value) (E T : List (DataW H)) (A : List MemPlace)
    (z : ∀ (j : Nat) t v, Tryz.f9.params[j]? = some t → f[j]? = some v → Value.okWide Tryz.prog W .any base t v)
    (X : DataW.Whole enc Tryz.prog Tryz.f9.params.toList Rows.registerFollowsSpec.vars false W f.toList E T A) (hk : Rows.uptoSmall H (E ++ T) = true) :
    Calls Tryz.prog 9 f W fun e R => ∃ v, e = .returned v ∧ Rows.registerFollowsSpec.post enc Tryz.prog Tryz.f9 false true false false W f v R := by
  have y : ∀ (j : Nat) t v, Tryz.f9.params[j]? = some t → f[j]? = some v → Value.okWide Tryz.prog W .any base t v := z;have F := X;obtain ⟨p, q, C, hV, rfl, ak, al⟩ := X;have V : DataW.TrodAll enc Tryz.prog W 0 (fun _ => true) true Tryz.f9.params.toList f.toList E p := C;rw [Tryz.params9] at V y;obtain ⟨v0, aq, d0, af, p0, q0, G, rfl, rfl, h0, r0⟩ := trodAll_cons V;obtain ⟨Y, ar, d1, ag, p1, q1, rfl, rfl, rfl, h1, r1⟩ := trodAll_cons r0;obtain ⟨Z, au, d2, ah, p2, q2, rfl, rfl, rfl, U, r2⟩ := trodAll_cons r1;obtain ⟨rfl, rfl, rfl⟩ := trodAll_nil r2;obtain rfl : f = #[v0, Y, Z] := by cases f; simp_all
  obtain ⟨rfl, rfl⟩ := trodVars_none hV;have hB := Zn2 hk;simp only [Rows.uptoBulkAll, List.append_nil, Nat.add_zero] at hB;have k0 := h0;have J : ∀ x ∈ p0, x.block < W.heap.size := by obtain ⟨m, D⟩ := k0; exact DataW.trod_lt m _ _ _ D
  obtain ⟨I, m0, rfl, H0⟩ := Zoo (y 0 26 v0 rfl rfl) h0 (by omega);have k1 := h1;have M : ∀ x ∈ p1, x.block < W.heap.size := by obtain ⟨m, D⟩ := k1; exact DataW.trod_lt m _ _ _ D
  obtain ⟨a1, rfl, aj, rfl, w1⟩ := open_int Tryz.underlying3 (y 1 3 Y rfl rfl) h1;have k2 := U;have N : ∀ x ∈ p2, x.block < W.heap.size := by obtain ⟨m, D⟩ := k2; exact DataW.trod_lt m _ _ _ D
  obtain ⟨a2, cap2, z2, rfl, s2, w2, l2, b2⟩ := Zn4 Tryz.underlying34 Tryz.underlying3 (by kernel_rfl) (y 2 34 Z rfl rfl) U;have n2 : z2.length ≤ 1048576 := by omega
  clear C z;refine (Zss m0 I a1 a2 cap2 z2 W H0 (row_of_sl s2)).mono fun e R ⟨he, bel⟩ => ?_;subst he;exact ⟨_, rfl, _, _, _, [], _, [], F, trodAll_mk1 (shut_bool Tryz.underlying4 _), (trodAll_cons_mk (Below.trod laidOut (by kernel_rfl) (of_decide_eq_true (by kernel_rfl)) k0 bel J) (trodAll_cons_mk (Below.trod laidOut (by kernel_rfl) (of_decide_eq_true (by kernel_rfl)) k1 bel M) (trodAll_cons_mk (Below.trod laidOut (by kernel_rfl) (of_decide_eq_true (by kernel_rfl)) k2 bel N) trodAll_mk0))), rfl, bel.frame _, fun h => by cases h⟩

set_option maxRecDepth 100000 in
theorem lifted (f : Os) (a : f.Started) (H : Type) (enc : TypeId × Value → H) (F : Stop.Interp) :
    ReturnsInHanded {} Tryz.checked f 9 .any ((Rows.OpenSpec.upto Rows.registerFollowsSpec).pre6 enc Tryz.prog Tryz.f9 Rows.registerFollowsUptoRow.domain false) (((Rows.OpenSpec.upto Rows.registerFollowsSpec).at F).post enc Tryz.prog Tryz.f9 false true false false) := by
  refine returnsInHanded_of_cond (C := Tryz.checked) (s := Rows.OpenSpec.upto Rows.registerFollowsSpec) (k := Rows.uptoSmall) rfl own a (by kernel_rfl) Tryz.func9
    (OpenSpec.witness (enc := enc) (C := Tryz.checked) (s := Rows.OpenSpec.upto Rows.registerFollowsSpec) (k := Rows.uptoSmall) rfl false ⟨#[], #[.agg #[.slice none 0 0, .slice none 0 0, .slice none 0 0, .int .i64 0], .int .i64 0, .slice none 0 0], []⟩ 8 (by kernel_rfl) (by kernel_rfl) (by kernel_rfl)
      (x := ([.agg [.nil, .nil, .nil, .lit (.int .i64 0)], .lit (.int .i64 0), .nil], [], [])) (by kernel_rfl) rfl (by kernel_rfl)) ?_
  intro W d c g h b e i _ j _;exact contract H enc W d c g h b e i j

set_option maxHeartbeats 100000000 in
theorem closed : joinedFacts Tryz.checked.prog 9 Tryz.f9 (Rows.OpenSpec.upto Rows.registerFollowsSpec).bare Rows.registerFollowsUptoRow = true := by
  unfold joinedFacts;simp only [Bool.and_eq_true]
  repeat' apply And.intro
  all_goals (as_aux_lemma => kernel_rfl)
/-- THE STATEMENT -/
theorem proved : Rows.RegisterFollowsUptoSaid :=
  OpenClaim.holds_of_cond 9 Tryz.f9 rfl rfl rfl rfl rfl rfl rfl ⟨rfl, rfl, rfl, rfl, rfl⟩ rfl rfl rfl rfl rfl (by kernel_rfl) Tryz.func9 closed
    (of_decide_eq_true (by kernel_rfl)) (by unfold Func.isWrapper; first | (rw [if_pos (by decide +kernel)]; kernel_rfl) | (rw [if_neg (by decide +kernel)]; exact ⟨rfl, rfl⟩))
    (fun c a H b _ F => lifted c a H b F)
#print axioms proved
