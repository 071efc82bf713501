/- XHh's law where two operations that change the world may stand ready together: both ways are walked. -/
import Derived.Test.YtignlfcjlbijaaaHh
namespace Go.Proofs.Ytignlfcjlbijaaa
open Go.RowKit

inductive Ord
  | done
  | plain (i : Nat) (t : Ord)
  | one (i : Nat) (t : Ord)
  | two (i j : Nat) (t u : Ord)
def Ord.len : Ord → Nat
  | .done => 0
  | .plain _ t => t.len + 1
  | .one _ t => t.len + 1
  | .two _ _ t _ => t.len + 1
def Ord.inB (n : Nat) : Ord → Bool
  | .done => true
  | .plain i t => decide (i < n) && t.inB n
  | .one i t => decide (i < n) && t.inB n
  | .two i j t u => decide (i < n) && decide (j < n) && t.inB n && u.inB n
section
variable {P : Program} {ops : Array Oper} {md : Region.Mode} {S : World → Prop} {Q : Exit → Act → World → Prop}

def wpMixO (P : Program) (l : List Oper) (Q : Exit → Act → World → Prop) (S : World → Prop) : Ord → Act → World → Prop
  | .done, a, w => Q .normal a w
  | .plain i t, a, w => ∃ v, YieldsIf P l.toArray S (opAt l i) v a ∧ wpMixO P l Q S t (a.put (opAt l i).dst v) w
  | .one i t, a, w => wpOp P l.toArray Q i (fun a' w' => S w' ∧ wpMixO P l Q S t a' w') a w
  | .two i j t u, a, w => wpOp P l.toArray Q i (fun a' w' => S w' ∧ wpMixO P l Q S t a' w') a w ∧ wpOp P l.toArray Q j (fun a' w' => S w' ∧ wpMixO P l Q S u a' w') a w
def lexO (md : Region.Mode) (ops : Array Oper) : Ord → Array Bool → Bool
  | .done, listed => decide (Region.ready md ops listed = [])
  | .plain k t, listed => (Region.ready md ops listed).contains k && Region.free md ops listed k && lexO md ops t (listed.setIfInBounds k true)
  | .one k t, listed => decide (Region.ready md ops listed = [k]) && lexO md ops t (listed.setIfInBounds k true)
  | .two i j t u, listed => decide (Region.ready md ops listed = [i, j]) && decide (t.len = u.len) && lexO md ops t (listed.setIfInBounds i true) && lexO md ops u (listed.setIfInBounds j true)

theorem mixM_lexO {l : List Oper} (hQ : ∀ c a d v w, Q (.panic c) (Act.put a d v) w → Q (.panic c) a w) (hsel : Region.noSelect l.toArray = true) :
    ∀ (t : Ord) (listed : Array Bool) (a : Act) (w : World), t.inB l.length = true → S w → lexO md l.toArray t listed = true → wpMixO P l Q S t a w → mixM P md l.toArray Q S t.len listed a w
  | .done, listed, a, w, _, _, hB, h => ⟨by simpa [lexO] using hB, h⟩
  | .plain k t, listed, a, w, hi, hS, hB, h => by
    simp only [lexO, Bool.and_eq_true] at hB
    simp only [Ord.inB, Bool.and_eq_true, decide_eq_true_eq] at hi
    obtain ⟨⟨hr, hf⟩, hB'⟩ := hB
    obtain ⟨v, hy, hK⟩ := h
    have h0 : l.toArray[k]? = some (opAt l k) := by simp [opAt, hi.1]
    exact mixM_first h0 (Region.noSelect_spec hsel) hQ t.len listed a w (Region.free_spec h0 hf) (by simpa using hr) hy hS (mixM_lexO hQ hsel t _ _ _ hi.2 hS hB' hK)
  | .one k t, listed, a, w, hi, hS, hB, h => by
    simp only [lexO, Bool.and_eq_true, decide_eq_true_eq] at hB
    simp only [Ord.inB, Bool.and_eq_true, decide_eq_true_eq] at hi
    refine ⟨by rw [hB.1]; simp, fun i hin => ?_⟩
    rw [hB.1] at hin
    obtain rfl : i = k := by simpa using hin
    exact wpOp_mono (fun a' w' h' => ⟨h'.1, mixM_lexO hQ hsel t _ _ _ hi.2 h'.1 hB.2 h'.2⟩) h
  | .two i j t u, listed, a, w, hi, hS, hB, h => by
    simp only [lexO, Bool.and_eq_true, decide_eq_true_eq] at hB
    simp only [Ord.inB, Bool.and_eq_true, decide_eq_true_eq] at hi
    refine ⟨by rw [hB.1.1.1]; simp, fun k hin => ?_⟩
    rw [hB.1.1.1] at hin
    rcases (show k = i ∨ k = j by simpa using hin) with rfl | rfl
    · exact wpOp_mono (fun a' w' h' => ⟨h'.1, mixM_lexO hQ hsel t _ _ _ hi.1.2 h'.1 hB.1.2 h'.2⟩) h.1
    · have hlen : (Ord.two i k t u).len = u.len + 1 := by rw [← hB.1.1.2]; rfl
      show wpOp P l.toArray Q k (fun a' w' => S w' ∧ mixM P md l.toArray Q S t.len (listed.setIfInBounds k true) a' w') a w
      rw [hB.1.1.2]
      exact wpOp_mono (fun a' w' h' => ⟨h'.1, mixM_lexO hQ hsel u _ _ _ hi.2 h'.1 hB.2 h'.2⟩) h.2

theorem wp_mixO {id : Nat} {a : Act} {w : World} {l : List Oper} (S : World → Prop) (t : Ord) (hm : P.follows .mixedOrders = true)
    (hB : (Region.noSelect l.toArray && decide (t.len = l.length) && t.inB l.length && lexO .any l.toArray t (Array.replicate l.length false)) = true) (hQ : ∀ c a d v w, Q (.panic c) (Act.put a d v) w → Q (.panic c) a w) (hS : S w.drew)
    (h : wpMixO P l Q S t a w.drew) : (Code.region id l.toArray true).wp P Q a w := by
  simp only [Bool.and_eq_true, decide_eq_true_eq] at hB
  obtain ⟨⟨⟨hsel, hlen⟩, hin⟩, hlex⟩ := hB
  refine wp_region_any hm ?_
  have := mixM_lexO (P := P) (Q := Q) (S := S) (md := .any) hQ hsel t _ a w.drew hin hS hlex h
  rw [hlen] at this
  have h2 := mixM_run _ _ _ _ this
  simpa using h2

theorem wpMixO_plain {l : List Oper} {k : Nat} {t : Ord} {a : Act} {w : World} (h : ∃ v, YieldsIf P l.toArray S (opAt l k) v a ∧ wpMixO P l Q S t (a.put (opAt l k).dst v) w) : wpMixO P l Q S (.plain k t) a w := h
theorem wpOp_one {a : Act} {w : World} {k : Nat} {K : Act → World → Prop} (o : Oper) (ho : ops[k]? = some o) (hw : Region.wanted o (yielded ops a.tmps) = true) (h : ∀ Kv : Act → World → Prop, (∀ a w, K a w → Kv a w) → o.wp P a w Kv Q) : wpOp P ops Q k K a w := by
  unfold wpOp
  simp only [ho, hw, if_true]
  exact .inl (h _ fun _ _ h1 => h1)
theorem wpMixO_one {l : List Oper} {k : Nat} {t : Ord} {a : Act} {w : World} (h : wpOp P l.toArray Q k (fun a' w' => S w' ∧ wpMixO P l Q S t a' w') a w) : wpMixO P l Q S (.one k t) a w := h
theorem wpMixO_two {l : List Oper} {i j : Nat} {t u : Ord} {a : Act} {w : World} (h1 : wpOp P l.toArray Q i (fun a' w' => S w' ∧ wpMixO P l Q S t a' w') a w) (h2 : wpOp P l.toArray Q j (fun a' w' => S w' ∧ wpMixO P l Q S u a' w') a w) : wpMixO P l Q S (.two i j t u) a w := ⟨h1, h2⟩
theorem wpMixO_done {l : List Oper} {a : Act} {w : World} (h : Q .normal a w) : wpMixO P l Q S .done a w := h
end


end Go.Proofs.Ytignlfcjlbijaaa
