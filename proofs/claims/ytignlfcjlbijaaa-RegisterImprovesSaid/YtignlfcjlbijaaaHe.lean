/- XHd's law with any number of operations in the middle: an operation of the head may come up as late as behind all of them. -/
import Derived.Test.YtignlfcjlbijaaaHd
import Derived.Test.YtignlfcjlbijaaaSl
namespace Go.Proofs.Ytignlfcjlbijaaa
open Go.RowKit

section
variable {P : Program} {ops : Array Oper} {md : Region.Mode} {S : World → Prop} {Q : Exit → Act → World → Prop}

/-- q operations from number k on, one behind the other, S behind each; then R -/
def wpMids (P : Program) (ops : Array Oper) (Q : Exit → Act → World → Prop) (S : World → Prop) (R : Act → World → Prop) : Nat → Nat → Act → World → Prop
  | 0, _, a, w => R a w
  | q + 1, k, a, w => wpOp P ops Q k (fun a' w' => S w' ∧ wpMids P ops Q S R q (k + 1) a' w') a w
def lexMid (md : Region.Mode) (ops : Array Oper) (g : Nat) : Nat → Nat → Array Bool → Bool
  | 0, k, listed => Region.seqB md ops g k listed
  | q + 1, k, listed => decide (Region.ready md ops listed = [k]) && lexMid md ops g q (k + 1) (listed.setIfInBounds k true)
def lexQ (md : Region.Mode) (ops : Array Oper) (g q : Nat) : Nat → Nat → Array Bool → Bool
  | 0, k, listed => lexMid md ops g q k listed
  | c + 1, k, listed => (Region.ready md ops listed).contains k && Region.free md ops listed k && lexQ md ops g q c (k + 1) (listed.setIfInBounds k true)

theorem headM_mids {n g : Nat} {R : Act → World → Prop} (q : Nat) : ∀ (k : Nat) (listed : Array Bool) (a : Act) (w : World), k + q = n → lexMid md ops g q k listed = true → wpMids P ops Q S R q k a w →
    headM P md ops Q S n (fun listed' a' w' => Region.seqB md ops g n listed' = true ∧ R a' w') q listed a w := by
  induction q with
  | zero =>
    intro k listed a w hk hB h
    obtain rfl : k = n := by simpa using hk
    exact ⟨hB, h⟩
  | succ q ih =>
    intro k listed a w hk hB h
    simp only [lexMid, Bool.and_eq_true, decide_eq_true_eq] at hB
    refine ⟨by rw [hB.1]; simp, fun i hi => ?_⟩
    rw [hB.1] at hi
    obtain rfl : i = k := by simpa using hi
    exact ⟨by omega, wpOp_mono (fun a' w' h' => ⟨h'.1, ih (i + 1) _ _ _ (by omega) hB.2 h'.2⟩) h⟩

theorem headM_lexQ {n g q : Nat} {R : Act → World → Prop} (hQ : ∀ c a d v w, Q (.panic c) (Act.put a d v) w → Q (.panic c) a w) (hsel : Region.noSelect ops = true) (hs : Region.sinkB md ops n = true) (hc : Region.chainB md ops n = true) (hn : n < ops.size) (hq : 0 < q) (l : List Oper) :
    ∀ (k : Nat) (listed : Array Bool) (a : Act) (w : World), (∀ j, j < l.length → l[j]? = ops[k + j]?) → k + l.length + q = n → HeadInv md ops n listed → S w →
    lexQ md ops g q l.length k listed = true → wpHead P ops S (fun a => wpMids P ops Q S R q (n - q) a w) l a →
    headM P md ops Q S n (fun listed' a' w' => Region.seqB md ops g n listed' = true ∧ R a' w') (l.length + q) listed a w := by
  induction l with
  | nil =>
    intro k listed a w _ hk _ _ hB h
    obtain rfl : n = k + q := by simpa using hk.symm
    rw [wpHead, Nat.add_sub_cancel] at h
    rw [show ([] : List Oper).length + q = q by simp]
    exact headM_mids q k listed a w rfl hB h
  | cons o l ih =>
    intro k listed a w hl hk inv hS hB h
    have h0 : ops[k]? = some o := by simpa using (hl 0 (by simp)).symm
    simp only [List.length_cons, lexQ, Bool.and_eq_true] at hB
    obtain ⟨⟨hr, hf⟩, hB'⟩ := hB
    have hkn : k < n := by simp only [List.length_cons] at hk; omega
    have hr' : k ∈ Region.ready md ops listed := by simpa using hr
    obtain ⟨v, hy, hK⟩ := h
    rw [show (o :: l).length + q = (l.length + q) + 1 by simp; omega]
    refine headM_first h0 (Region.noSelect_spec hsel) hQ hs hc hn hkn (fun listed' a' w' hL => seqB_ready hL.1) (l.length + q) listed a w inv (Region.free_spec h0 hf) hr' hy hS ?_
    exact ih (k + 1) _ _ _ (fun j hj => by have := hl (j + 1) (by simp; omega); simpa [Nat.add_assoc, Nat.add_comm 1 j] using this) (by simp only [List.length_cons] at hk; omega) (inv.set hr' hkn) hS hB' hK

def lexQB (md : Region.Mode) (ops : Array Oper) (m q : Nat) : Bool :=
  Region.noSelect ops && decide (m + q < ops.size) && decide (0 < q) && Region.sinkB md ops (m + q) && Region.chainB md ops (m + q) && lexQ md ops (ops.size - (m + q)) q m 0 (Array.replicate ops.size false)

theorem wp_held_tails {id : Nat} {a : Act} {w : World} {l : List Oper} (S : World → Prop) (m q : Nat) (hm : P.follows .mixedOrders = true) (hB : lexQB .any l.toArray m q = true) (hQ : ∀ c a d v w, Q (.panic c) (Act.put a d v) w → Q (.panic c) a w) (hS : S w.drew)
    (h : wpHead P l.toArray S (fun a => wpMids P l.toArray Q S (fun a' w' => wpList P l.toArray Q (l.drop (m + q)) a' w') q m a w.drew) (l.take m) a) : (Code.region id l.toArray true).wp P Q a w := by
  simp only [lexQB, Bool.and_eq_true, decide_eq_true_eq] at hB
  obtain ⟨⟨⟨⟨⟨hsel, hn⟩, hq⟩, hs⟩, hc⟩, hlex⟩ := hB
  have hn' : m + q < l.length := by simpa using hn
  have htl : (l.take m).length = m := by simp; omega
  have hdl : (l.drop (m + q)).length = l.toArray.size - (m + q) := by simp
  have inv0 : HeadInv .any l.toArray (m + q) (Array.replicate l.toArray.size false) :=
    ⟨by simp, fun j oj _ hl => (by rw [getD_replicate_false] at hl; cases hl), fun t _ ht => getD_in (by simpa using ht) (getD_replicate_false _ _)⟩
  have H := headM_lexQ (P := P) (Q := Q) (S := S) (md := .any) (n := m + q) (q := q) (g := l.toArray.size - (m + q)) (R := fun a' w' => wpList P l.toArray Q (l.drop (m + q)) a' w') hQ hsel hs hc hn hq (l.take m) 0 _ a w.drew (fun j hj => by
    have hj' : j < m := by rw [htl] at hj; exact hj
    simp [hj']) (by rw [htl]; omega) inv0 hS (by rw [htl]; exact hlex) (by rw [Nat.add_sub_cancel]; exact h)
  refine wp_region_any hm ?_
  have := headM_run (g := l.toArray.size - (m + q)) (fun listed a' w' hL => by
    have := wpAny_of_seq (md := .any) (Q' := Q) (l.drop (m + q)) (m + q) listed a' w' (fun j => by simp [List.getElem?_drop]) (by rw [hdl]; exact hL.1) hL.2
    rwa [hdl] at this) _ _ _ _ H
  rw [htl, show m + q + (l.toArray.size - (m + q)) = l.toArray.size by omega] at this
  exact this

theorem wpHead_nil {R : Act → Prop} {a : Act} (h : R a) : wpHead P ops S R [] a := h
/-- one operation of the middle -/
theorem wpMids_one {R : Act → World → Prop} {q k : Nat} {a : Act} {w : World} (o : Oper) (ho : ops[k]? = some o) (hw : Region.wanted o (yielded ops a.tmps) = true)
    (h : ∀ Kv : Act → World → Prop, (∀ a w, S w → wpMids P ops Q S R q (k + 1) a w → Kv a w) → o.wp P a w Kv Q) : wpMids P ops Q S R (q + 1) k a w := by
  show wpOp P ops Q k _ a w
  unfold wpOp
  simp only [ho, hw, if_true]
  exact .inl (h _ fun _ _ h1 h2 => ⟨h1, h2⟩)
end

/-- append of a slice that is there to one of the call's own, as one operation -/
theorem wp_append_sl {P : Program} {w : World} {o : Oper} {a : Act} {K : Act → World → Prop} {Q : Exit → Act → World → Prop} (s x : Operand) (t : TypeId)
    (ho : o.op = .call { callee := .builtin .append, args := #[s, x], argTypes := #[t, t] })
    (base : Nat) (e : TypeId) (size bytes : Nat) (hel : El P t e size bytes)
    (v : Value) (n : Nat) (xs : List Value) (hs : a.eval s = v) (hown : w.ownsRow base e size v n xs)
    (ad : Addr) (m c : Nat) (news : List Value) (hx : a.eval x = .slice (some ad) m c) (hsl : SlA w size (some ad) m c news) (h1 : ∀ u ∈ news, u.oneCell' = true) (hm : 0 < m)
    (hbytes : (n + m) * bytes ≤ 140737488355328) (h63 : n + m ≤ maxLen) (hbase : base ≤ w.heap.size)
    (h : ∀ ao' cap' w', w'.ownsRow base e size (.slice ao' (n + m) cap') (n + m) (xs ++ news) → w.grownBy w' v.ownBlock → K (a.put o.dst (.slice ao' (n + m) cap')) w') : o.wp P a w K Q := by
  obtain ⟨i, z, hi, hz, hsize, hby, hzs⟩ := hel.info
  refine wp_append_own _ s x t ho base e i z size bytes hel.und hi hz hsize hby hzs hel.pos v n xs hs hown ad m c news hx hsl.1 (fun j u hu => ?_) h1 h63 hbytes hbase ?_
  · obtain ⟨a', ha', hc⟩ := hsl.2.2 j u hu
    obtain rfl := Option.some.inj ha'
    exact hc
  · intro v' w' hown' hg _
    rcases hown'.2 with ⟨rfl, hnm⟩ | ⟨g, c, cur, rfl, hr⟩
    · omega
    · exact h _ c w' hown' hg

end Go.Proofs.Ytignlfcjlbijaaa
