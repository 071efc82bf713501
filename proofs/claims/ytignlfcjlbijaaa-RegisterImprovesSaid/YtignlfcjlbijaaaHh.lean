/- XHg's law in any order of the operations that the walker names. -/
import Derived.Test.YtignlfcjlbijaaaHg
namespace Go.Proofs.Ytignlfcjlbijaaa
open Go.RowKit

section
variable {P : Program} {ops : Array Oper} {md : Region.Mode} {S : World → Prop} {Q : Exit → Act → World → Prop}

/-- the walk in a named order; true: the operation may change the world -/
def wpMixP (P : Program) (ops : Array Oper) (Q : Exit → Act → World → Prop) (S : World → Prop) : List (Bool × Nat) → Act → World → Prop
  | [], a, w => Q .normal a w
  | (false, i) :: t, a, w => ∃ o v, ops[i]? = some o ∧ YieldsIf P ops S o v a ∧ wpMixP P ops Q S t (a.put o.dst v) w
  | (true, i) :: t, a, w => wpOp P ops Q i (fun a' w' => S w' ∧ wpMixP P ops Q S t a' w') a w
def lexP (md : Region.Mode) (ops : Array Oper) : List (Bool × Nat) → Array Bool → Bool
  | [], listed => decide (Region.ready md ops listed = [])
  | (false, k) :: t, listed => (Region.ready md ops listed).contains k && Region.free md ops listed k && lexP md ops t (listed.setIfInBounds k true)
  | (true, k) :: t, listed => decide (Region.ready md ops listed = [k]) && lexP md ops t (listed.setIfInBounds k true)

theorem mixM_lexP (hQ : ∀ c a d v w, Q (.panic c) (Act.put a d v) w → Q (.panic c) a w) (hsel : Region.noSelect ops = true) :
    ∀ (t : List (Bool × Nat)) (listed : Array Bool) (a : Act) (w : World), S w → lexP md ops t listed = true → wpMixP P ops Q S t a w → mixM P md ops Q S t.length listed a w
  | [], listed, a, w, _, hB, h => ⟨by simpa [lexP] using hB, h⟩
  | (false, k) :: t, listed, a, w, hS, hB, h => by
    simp only [lexP, Bool.and_eq_true] at hB
    obtain ⟨⟨hr, hf⟩, hB'⟩ := hB
    obtain ⟨o, v, h0, hy, hK⟩ := h
    exact mixM_first h0 (Region.noSelect_spec hsel) hQ t.length listed a w (Region.free_spec h0 hf) (by simpa using hr) hy hS (mixM_lexP hQ hsel t _ _ _ hS hB' hK)
  | (true, k) :: t, listed, a, w, hS, hB, h => by
    simp only [lexP, Bool.and_eq_true, decide_eq_true_eq] at hB
    refine ⟨by rw [hB.1]; simp, fun i hi => ?_⟩
    rw [hB.1] at hi
    obtain rfl : i = k := by simpa using hi
    exact wpOp_mono (fun a' w' h' => ⟨h'.1, mixM_lexP hQ hsel t _ _ _ h'.1 hB.2 h'.2⟩) h

def lexPB (md : Region.Mode) (ops : Array Oper) (t : List (Bool × Nat)) : Bool := Region.noSelect ops && decide (t.length = ops.size) && lexP md ops t (Array.replicate ops.size false)

theorem wp_mixP {id : Nat} {a : Act} {w : World} {l : List Oper} (S : World → Prop) (t : List (Bool × Nat)) (hm : P.follows .mixedOrders = true) (hB : lexPB .any l.toArray t = true) (hQ : ∀ c a d v w, Q (.panic c) (Act.put a d v) w → Q (.panic c) a w) (hS : S w.drew)
    (h : wpMixP P l.toArray Q S t a w.drew) : (Code.region id l.toArray true).wp P Q a w := by
  simp only [lexPB, Bool.and_eq_true, decide_eq_true_eq] at hB
  obtain ⟨⟨hsel, ht⟩, hlex⟩ := hB
  refine wp_region_any hm ?_
  have := mixM_lexP (P := P) (Q := Q) (S := S) (md := .any) hQ hsel t _ a w.drew hS hlex h
  rw [ht] at this
  exact mixM_run _ _ _ _ this

/-- the same with the operations beside their numbers -/
def wpMixL (P : Program) (ops : Array Oper) (Q : Exit → Act → World → Prop) (S : World → Prop) : List (Bool × Nat × Oper) → Act → World → Prop
  | [], a, w => Q .normal a w
  | (false, _, o) :: t, a, w => ∃ v, YieldsIf P ops S o v a ∧ wpMixL P ops Q S t (a.put o.dst v) w
  | (true, i, _) :: t, a, w => wpOp P ops Q i (fun a' w' => S w' ∧ wpMixL P ops Q S t a' w') a w
def opAt (l : List Oper) (i : Nat) : Oper := l.getD i { dst := none, op := Op.move (Operand.const undef), type := 0, pos := "", after := #[], guard := none }
theorem mixP_of_L {l : List Oper} : ∀ (t : List (Bool × Nat)) (a : Act) (w : World), (∀ p ∈ t, p.2 < l.length) → wpMixL P l.toArray Q S (t.map fun p => (p.1, p.2, opAt l p.2)) a w → wpMixP P l.toArray Q S t a w
  | [], _, _, _, h => h
  | (false, i) :: t, a, w, hl, h => by
    obtain ⟨v, h1, h2⟩ := h
    have hi : i < l.length := hl (false, i) (by simp)
    exact ⟨opAt l i, v, by simp [opAt, hi], h1, mixP_of_L t _ _ (fun p hp => hl p (by simp [hp])) h2⟩
  | (true, i) :: t, a, w, hl, h => wpOp_mono (fun a' w' h' => ⟨h'.1, mixP_of_L t _ _ (fun p hp => hl p (by simp [hp])) h'.2⟩) h
theorem wp_mixL {id : Nat} {a : Act} {w : World} {l : List Oper} (S : World → Prop) (t : List (Bool × Nat)) (hm : P.follows .mixedOrders = true) (hB : (lexPB .any l.toArray t && t.all fun p => decide (p.2 < l.length)) = true) (hQ : ∀ c a d v w, Q (.panic c) (Act.put a d v) w → Q (.panic c) a w) (hS : S w.drew)
    (h : wpMixL P l.toArray Q S (t.map fun p => (p.1, p.2, opAt l p.2)) a w.drew) : (Code.region id l.toArray true).wp P Q a w := by
  rw [Bool.and_eq_true] at hB
  exact wp_mixP S t hm hB.1 hQ hS (mixP_of_L t _ _ (fun p hp => by simpa using List.all_eq_true.1 hB.2 p hp) h)

theorem wpMixL_plain {t : List (Bool × Nat × Oper)} {k : Nat} {o : Oper} {a : Act} {w : World} (h : ∃ v, YieldsIf P ops S o v a ∧ wpMixL P ops Q S t (a.put o.dst v) w) : wpMixL P ops Q S ((false, k, o) :: t) a w := h
theorem wpMixL_one {t : List (Bool × Nat × Oper)} {k : Nat} {o : Oper} {a : Act} {w : World} (ho : ops[k]? = some o) (hw : Region.wanted o (yielded ops a.tmps) = true)
    (h : ∀ Kv : Act → World → Prop, (∀ a w, S w → wpMixL P ops Q S t a w → Kv a w) → o.wp P a w Kv Q) : wpMixL P ops Q S ((true, k, o) :: t) a w := by
  show wpOp P ops Q k _ a w
  unfold wpOp
  simp only [ho, hw, if_true]
  exact .inl (h _ fun _ _ h1 h2 => ⟨h1, h2⟩)
theorem wpMixL_nil {a : Act} {w : World} (h : Q .normal a w) : wpMixL P ops Q S [] a w := h
end


end Go.Proofs.Ytignlfcjlbijaaa
