/- A region that draws its order, walked in the text's order: each operation is either plain (it yields one value in every world that meets S: it may come up early or late) or it may change the world, keeping S; two of the latter never stand ready together. -/
import Derived.Test.YtignlfcjlbijaaaHe
namespace Go.Proofs.Ytignlfcjlbijaaa
open Go.RowKit

section
variable {P : Program} {ops : Array Oper} {md : Region.Mode} {S : World → Prop} {Q : Exit → Act → World → Prop}

/-- whatever order is picked from here on, S holds behind each and Q behind all -/
def mixM (P : Program) (md : Region.Mode) (ops : Array Oper) (Q : Exit → Act → World → Prop) (S : World → Prop) : Nat → Array Bool → Act → World → Prop
  | 0, listed, a, w => Region.ready md ops listed = [] ∧ Q .normal a w
  | f + 1, listed, a, w => Region.ready md ops listed ≠ [] ∧ ∀ i ∈ Region.ready md ops listed, wpOp P ops Q i (fun a' w' => S w' ∧ mixM P md ops Q S f (listed.setIfInBounds i true) a' w') a w

theorem mixM_run (f : Nat) : ∀ (listed : Array Bool) (a : Act) (w : World), mixM P md ops Q S f listed a w → wpAny P md ops Q f listed a w := by
  induction f with
  | zero => intro listed a w h; exact h
  | succ f ih =>
    intro listed a w h
    exact ⟨fun h0 => absurd h0 h.1, fun i hi => wpOp_mono (fun a' w' h' => ih _ a' w' h'.2) (h.2 i hi)⟩

theorem mixM_first {i : Nat} {oi : Oper} {v : Value} (hi : ops[i]? = some oi) (hsel : ∀ (j : Nat) (o : Oper) cs b, ops[j]? = some o → o.op ≠ .select cs b)
    (hQ : ∀ c a d v w, Q (.panic c) (Act.put a d v) w → Q (.panic c) a w) (f : Nat) :
    ∀ (listed : Array Bool) (a : Act) (w : World),
      (∀ j oj, ops[j]? = some oj → j ≠ i → listed.getD j true = false → (∀ e ∈ oj.after, Region.binds md e = true → e.on ≠ i) → oi.apart ops oj = true) →
      i ∈ Region.ready md ops listed → YieldsIf P ops S oi v a → S w →
      mixM P md ops Q S f (listed.setIfInBounds i true) (a.put oi.dst v) w → mixM P md ops Q S (f + 1) listed a w := by
  induction f with
  | zero =>
    intro listed a w _ hr hy hS H
    refine ⟨fun h => (by rw [h] at hr; cases hr), fun j hj => ?_⟩
    by_cases hji : j = i
    · subst hji; exact hy.wpOp hi hS ⟨hS, H⟩
    · have := ready_mono hj hji
      rw [H.1] at this; cases this
  | succ f ih =>
    intro listed a w hfree hr hy hS H
    refine ⟨fun h => (by rw [h] at hr; cases hr), fun j hj => ?_⟩
    by_cases hji : j = i
    · subst hji; exact hy.wpOp hi hS ⟨hS, H⟩
    have h1 := H.2 j (ready_mono hj hji)
    obtain ⟨hjun, oj, hoj, hall⟩ := mem_ready.1 hj
    have hnot : ∀ e ∈ oj.after, Region.binds md e = true → e.on ≠ i := by
      intro e he hb heq
      have h2 := hall e he hb
      rw [heq, getD_both (mem_ready.1 hr).1] at h2
      cases h2
    have h2 := wpOp_putIf hoj (hfree j oj hoj hji hjun hnot) (fun cs b => hsel i oi cs b hi) (fun cs b => hsel j oj cs b hoj) (fun c a w => hQ c _ _ _ w) hy h1
    refine wpOp_mono (fun a' w' h3 => ⟨h3.2.1, ih (listed.setIfInBounds j true) a' w' ?_ (ready_mono hr (Ne.symm hji)) h3.1 h3.2.1 ?_⟩) h2
    · intro k ok hk hki hun hno
      refine hfree k ok hk hki ?_ hno
      by_cases hjk : j = k
      · subst hjk; exact hjun
      · rw [getD_set_ne true hjk] at hun; exact hun
    · rw [Array.setIfInBounds_comm _ _ hji]; exact h3.2.2

/-- the walk in the text's order; true: the operation may change the world -/
def wpMix (P : Program) (ops : Array Oper) (Q : Exit → Act → World → Prop) (S : World → Prop) : List Bool → List Oper → Nat → Act → World → Prop
  | false :: t, o :: l, k, a, w => ∃ v, YieldsIf P ops S o v a ∧ wpMix P ops Q S t l (k + 1) (a.put o.dst v) w
  | true :: t, _ :: l, k, a, w => wpOp P ops Q k (fun a' w' => S w' ∧ wpMix P ops Q S t l (k + 1) a' w') a w
  | _, _, _, a, w => Q .normal a w
def lexT (md : Region.Mode) (ops : Array Oper) : List Bool → Nat → Array Bool → Bool
  | [], _, listed => decide (Region.ready md ops listed = [])
  | false :: t, k, listed => (Region.ready md ops listed).contains k && Region.free md ops listed k && lexT md ops t (k + 1) (listed.setIfInBounds k true)
  | true :: t, k, listed => decide (Region.ready md ops listed = [k]) && lexT md ops t (k + 1) (listed.setIfInBounds k true)

theorem mixM_lex (hQ : ∀ c a d v w, Q (.panic c) (Act.put a d v) w → Q (.panic c) a w) (hsel : Region.noSelect ops = true) (l : List Oper) :
    ∀ (t : List Bool) (k : Nat) (listed : Array Bool) (a : Act) (w : World), t.length = l.length → (∀ j, j < l.length → l[j]? = ops[k + j]?) → S w →
    lexT md ops t k listed = true → wpMix P ops Q S t l k a w → mixM P md ops Q S l.length listed a w := by
  induction l with
  | nil =>
    intro t k listed a w ht _ _ hB h
    obtain rfl : t = [] := by simpa using ht
    exact ⟨by simpa [lexT] using hB, h⟩
  | cons o l ih =>
    intro t k listed a w ht hl hS hB h
    cases t with
    | nil => simp at ht
    | cons b t =>
      have h0 : ops[k]? = some o := by simpa using (hl 0 (by simp)).symm
      have hl' : ∀ j, j < l.length → l[j]? = ops[k + 1 + j]? := fun j hj => by have := hl (j + 1) (by simp; omega); simpa [Nat.add_assoc, Nat.add_comm 1 j] using this
      have ht' : t.length = l.length := by simpa using ht
      cases b with
      | false =>
        simp only [lexT, Bool.and_eq_true] at hB
        obtain ⟨⟨hr, hf⟩, hB'⟩ := hB
        obtain ⟨v, hy, hK⟩ := h
        exact mixM_first h0 (Region.noSelect_spec hsel) hQ l.length listed a w (Region.free_spec h0 hf) (by simpa using hr) hy hS (ih t (k + 1) _ _ _ ht' hl' hS hB' hK)
      | true =>
        simp only [lexT, Bool.and_eq_true, decide_eq_true_eq] at hB
        refine ⟨by rw [hB.1]; simp, fun i hi => ?_⟩
        rw [hB.1] at hi
        obtain rfl : i = k := by simpa using hi
        exact wpOp_mono (fun a' w' h' => ⟨h'.1, ih t (i + 1) _ _ _ ht' hl' h'.1 hB.2 h'.2⟩) h

def lexTB (md : Region.Mode) (ops : Array Oper) (t : List Bool) : Bool := Region.noSelect ops && decide (t.length = ops.size) && lexT md ops t 0 (Array.replicate ops.size false)

theorem wp_mix {id : Nat} {a : Act} {w : World} {l : List Oper} (S : World → Prop) (t : List Bool) (hm : P.follows .mixedOrders = true) (hB : lexTB .any l.toArray t = true) (hQ : ∀ c a d v w, Q (.panic c) (Act.put a d v) w → Q (.panic c) a w) (hS : S w.drew)
    (h : wpMix P l.toArray Q S t l 0 a w.drew) : (Code.region id l.toArray true).wp P Q a w := by
  simp only [lexTB, Bool.and_eq_true, decide_eq_true_eq] at hB
  obtain ⟨⟨hsel, ht⟩, hlex⟩ := hB
  refine wp_region_any hm ?_
  have := mixM_lex (P := P) (Q := Q) (S := S) (md := .any) hQ hsel l t 0 _ a w.drew (by simpa using ht) (fun j _ => by simp) hS hlex h
  exact mixM_run _ _ _ _ this

theorem wpMix_plain {t : List Bool} {o : Oper} {l : List Oper} {k : Nat} {a : Act} {w : World} (h : ∃ v, YieldsIf P ops S o v a ∧ wpMix P ops Q S t l (k + 1) (a.put o.dst v) w) : wpMix P ops Q S (false :: t) (o :: l) k a w := h
/-- an operation that may change the world -/
theorem wpMix_one {t : List Bool} {l : List Oper} {k : Nat} {a : Act} {w : World} (o : Oper) (ho : ops[k]? = some o) (hw : Region.wanted o (yielded ops a.tmps) = true)
    (h : ∀ Kv : Act → World → Prop, (∀ a w, S w → wpMix P ops Q S t l (k + 1) a w → Kv a w) → o.wp P a w Kv Q) : wpMix P ops Q S (true :: t) (o :: l) k a w := by
  show wpOp P ops Q k _ a w
  unfold wpOp
  simp only [ho, hw, if_true]
  exact .inl (h _ fun _ _ h1 h2 => ⟨h1, h2⟩)
theorem wpMix_nil {k : Nat} {a : Act} {w : World} (h : Q .normal a w) : wpMix P ops Q S [] [] k a w := h
end


end Go.Proofs.Ytignlfcjlbijaaa
