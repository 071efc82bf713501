/- Slices: what one reads as, and append to one of the call's own. -/
import Derived.Test.YtignlfcjlbijaaaBa
import Derived.Laws.AppendOwnNone
namespace Go.Proofs.Ytignlfcjlbijaaa
open Go.RowKit

theorem add_block (a : Addr) (j : Nat) : (a.add j).block = a.block := by unfold Addr.add; split <;> rfl
/-- A slice value '.slice ao n cap' with n elements of 'size' cells each, whose cells are xs. -/
def SlA (w : World) (size : Nat) (ao : Option Addr) (n cap : Nat) (xs : List Value) : Prop :=
  xs.length = n * size ∧ (ao = none → n = 0 ∧ cap = 0) ∧ ∀ j u, xs[j]? = some u → ∃ a, ao = some a ∧ w.cell? (a.add j) = some u
theorem SlA.below {w w' : World} {size : Nat} {ao : Option Addr} {n cap : Nat} {xs : List Value} (h : SlA w size ao n cap xs) {B : Nat} (hb : Below B w w') (hB : ∀ (a : Addr) (j : Nat) (u : Value), ao = some a → xs[j]? = some u → a.block < B) : SlA w' size ao n cap xs := by
  refine ⟨h.1, h.2.1, fun j u hu => ?_⟩
  obtain ⟨a, ha, hc⟩ := h.2.2 j u hu
  exact ⟨a, ha, by rw [hb.cell (p := a.add j) (by rw [add_block]; exact hB a j u ha hu)]; exact hc⟩
theorem SlA.old {w w' : World} {size : Nat} {ao : Option Addr} {n cap : Nat} {xs : List Value} (h : SlA w size ao n cap xs) (hb : Below w.heap.size w w') : SlA w' size ao n cap xs := by
  refine h.below hb fun a j u ha hu => ?_
  obtain ⟨a', ha', hc⟩ := h.2.2 j u hu
  rw [ha] at ha'
  obtain rfl := Option.some.inj ha'
  have := cell_lt hc; rwa [add_block] at this
theorem SlA.alloc {w : World} {size : Nat} {ao : Option Addr} {n cap : Nat} {xs : List Value} (h : SlA w size ao n cap xs) (o : Obj) : SlA (w.alloc o) size ao n cap xs :=
  h.old ((Below.refl _ _).alloc (Nat.le_refl _) _)

theorem SlA.ints {k : IntKind} {w : World} {ao : Option Addr} {n cap : Nat} {zs : List Int} (h : SlA w 1 ao n cap (zs.map (Value.int k))) : n = zs.length ∧ Sl k w ao zs := by
  refine ⟨by simpa using h.1.symm, fun i hi => ?_⟩
  obtain ⟨a, ha, hc⟩ := h.2.2 i (.int k (zs.getD i 0)) (by rw [List.getElem?_map, List.getElem?_eq_getElem hi]; simp [hi])
  exact ⟨a, ha, hc⟩
theorem SlA.of_ints {k : IntKind} {w : World} {ao : Option Addr} {cap : Nat} {zs : List Int} (h : Sl k w ao zs) (hn : ao = none → cap = 0) : SlA w 1 ao zs.length cap (zs.map (Value.int k)) := by
  refine ⟨by simp, fun ha => ⟨?_, hn ha⟩, fun j u hu => ?_⟩
  · cases zs with
    | nil => rfl
    | cons z r => obtain ⟨a, ha', _⟩ := h 0 (by simp); rw [ha] at ha'; cases ha'
  · rw [List.getElem?_map] at hu
    obtain ⟨z, hz, rfl⟩ := Option.map_eq_some_iff.1 hu
    have hj : j < zs.length := (List.getElem?_eq_some_iff.1 hz).1
    obtain ⟨a, ha, hc⟩ := h j hj
    refine ⟨a, ha, ?_⟩
    rw [hc, List.getD_eq_getElem?_getD, hz]; rfl

/-- What is needed of a slice's element type. -/
structure El (P : Program) (t e : TypeId) (size bytes : Nat) : Prop where
  und : P.underlying t = some (.slice e)
  info : ∃ i z, P.info? e = some i ∧ i.zero = some z ∧ i.size = size ∧ i.bytes = bytes ∧ z.cells.size = size
  pos : 0 < size
theorem El.mk' {P : Program} {t e : TypeId} {size bytes : Nat} {z : Value} (ht : P.underlying t = some (.slice e)) (h : (P.info? e).map (fun i => (i.zero, i.size, i.bytes)) = some (some z, size, bytes)) (hz : z.cells.size = size) (hp : 0 < size) : El P t e size bytes := by
  obtain ⟨i, hi, h0, h1, h2⟩ := info_parts h
  exact ⟨ht, ⟨i, z, hi, h0, h1, h2, hz⟩, hp⟩

theorem ownsRow_slA {w : World} {base : Nat} {e : TypeId} {size : Nat} {ao : Option Addr} {m n cap : Nat} {xs : List Value} (h : w.ownsRow base e size (.slice ao m cap) n xs) : m = n ∧ SlA w size ao n cap xs := by
  obtain ⟨h1, h2⟩ := h
  rcases h2 with ⟨h2, rfl⟩ | ⟨g, c, cur, hv, _, hg, _, _, _, ht⟩
  · cases h2
    exact ⟨rfl, h1, fun _ => ⟨rfl, rfl⟩, fun j u hu => by simp at h1; subst h1; simp at hu⟩
  · cases hv
    refine ⟨rfl, h1, (fun h => by cases h), fun j u hu => ⟨_, rfl, ?_⟩⟩
    have hadd : (⟨g, 0, none⟩ : Addr).add j = ⟨g, j, none⟩ := by unfold Addr.add; split <;> simp_all
    rw [hadd, cell_of_row w g j cur e (0, 0) hg]
    rw [← ht, List.getElem?_take] at hu
    split at hu
    · simpa using hu
    · cases hu

theorem ownsRow_some {w : World} {base : Nat} {e : TypeId} {size : Nat} {ao : Option Addr} {m n cap : Nat} {xs : List Value} (h : w.ownsRow base e size (.slice ao m cap) n xs) (hn : 0 < n) : ∃ g, ao = some ⟨g, 0, none⟩ := by
  rcases h.2 with ⟨_, rfl⟩ | ⟨g, c, cur, hv, _⟩
  · omega
  · cases hv; exact ⟨g, rfl⟩
/-- append of a slice, whatever it is, to one of the call's own -/
theorem wpList_append_sl {P : Program} {w : World} {ops : Array Oper} {rest : List Oper} {o : Oper} {a : Act} {Q : Exit → Act → World → Prop} (hgd : o.guard = none) (s x : Operand) (t : TypeId)
    (ho : o.op = .call { callee := .builtin .append, args := #[s, x], argTypes := #[t, t] })
    (base : Nat) (e : TypeId) (size bytes : Nat) (hel : El P t e size bytes)
    (v : Value) (n : Nat) (xs : List Value) (hs : a.eval s = v) (hown : w.ownsRow base e size v n xs)
    (bo : Option Addr) (m c : Nat) (news : List Value) (hx : a.eval x = .slice bo m c) (hsl : SlA w size bo m c news) (h1 : ∀ u ∈ news, u.oneCell' = true)
    (hbytes : (n + m) * bytes ≤ 140737488355328) (h63 : n + m ≤ maxLen) (hbase : base ≤ w.heap.size)
    (h : ∀ ao' cap' w', w'.ownsRow base e size (.slice ao' (n + m) cap') (n + m) (xs ++ news) → w.grownBy w' v.ownBlock → wpList P ops Q rest (a.put o.dst (.slice ao' (n + m) cap')) w') : wpList P ops Q (o :: rest) a w := by
  obtain ⟨i, z, hi, hz, hsize, hby, hzs⟩ := hel.info
  cases bo with
  | none =>
    obtain ⟨rfl, rfl⟩ := hsl.2.1 rfl
    have hn : news = [] := by have := hsl.1; simpa using this
    subst hn
    have hv : ∃ ao cap, v = .slice ao n cap := by
      rcases hown.2 with ⟨rfl, rfl⟩ | ⟨g, c, cur, rfl, _⟩
      · exact ⟨_, _, rfl⟩
      · exact ⟨_, _, rfl⟩
    obtain ⟨ao, cap, rfl⟩ := hv
    refine wpList_append_own_none hgd s x t ho base e i size hel.und hi _ n xs hs hown hx ?_
    exact h ao cap w (by simpa using hown) ⟨rfl, rfl, rfl, Nat.le_refl _, fun _ _ _ => rfl⟩
  | some ad =>
    refine wpList_append_own _ hgd s x t ho base e i z size bytes hel.und hi hz hsize hby hzs hel.pos v n xs hs hown ad m c news hx hsl.1 (fun j u hu => ?_) h1 h63 hbytes hbase ?_
    · obtain ⟨a', ha', hc⟩ := hsl.2.2 j u hu
      obtain rfl := Option.some.inj ha'
      exact hc
    · intro v' w' hown' hg _
      rcases hown'.2 with ⟨rfl, hnm⟩ | ⟨g, c, cur, rfl, hr⟩
      · have := h none 0 w'
        rw [hnm] at this hown'
        exact this hown' hg
      · exact h _ c w' hown' hg

end Go.Proofs.Ytignlfcjlbijaaa
