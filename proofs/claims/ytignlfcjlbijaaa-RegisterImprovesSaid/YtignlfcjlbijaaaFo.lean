/- How an argument that is register code is opened. -/
import Derived.Test.YtignlfcjlbijaaaFr
import Derived.Test.YtignlfcjlbijaaaRa
import Derived.Deep.Slices
import Derived.Deep.Fields
import Derived.ChangeSame
namespace Go.Proofs.Ytignlfcjlbijaaa
open Go.ChangeShapes Go.WideShapes Go.ChangeAt Go.RowKit Go.Deep

section
variable {H : Type} {enc : TypeId × Value → H} {P : Program} {w : World} {base : Nat} {spare : Nat → Bool} {held : Bool}
theorem open_slice_fields {t e : TypeId} {fs : Array Field} {fuel : Nat} {cs : List Value} {x : DataW H × List MemPlace} (ht : P.underlying t = some (.slice e)) (he : P.underlying e = some (.struct fs))
    (hone : oneCellFields P fs = true) (hC : P.cellsOf e = fs.size) (h : DataW.trod enc P w base spare held fuel t cs = some x) :
    (cs = [.slice none 0 0] ∧ x = (.nil, [])) ∨
    ∃ (a : Addr) (len cap m : Nat) (D : Nat → DataW H) (Pl : Nat → List MemPlace), cs = [.slice (some a) len cap] ∧ base ≤ a.block ∧ len ≤ cap ∧ cap ≤ maxLen ∧ m = (if spare a.block then cap else len) ∧
      x = (.slice ((List.range len).map D) ((List.range (m - len)).map fun j => D (len + j)), MemPlace.row a (m * fs.size) ++ (List.range m).flatMap Pl) ∧
      ∀ i, i < m → ∃ (ys : List (DataW H × List MemPlace)) (n : Nat), D i = .agg (ys.map (·.1)) ∧ Pl i = ys.flatMap (·.2) ∧ ys.length = fs.size ∧
        ∀ (j : Nat) (f : Field), fs[j]? = some f → ∃ (v : Value) (y : DataW H × List MemPlace), w.cell? (a.add (i * fs.size + j)) = some v ∧ ys[j]? = some y ∧ DataW.trod enc P w base spare held n f.type [v] = some y := by
  rcases open_slice ht h with h0 | ⟨a, len, cap, m, n, D, Pl, hcs, hb, hl, hm, hmm, hx, hi⟩
  · exact .inl h0
  · refine .inr ⟨a, len, cap, m, D, Pl, hcs, hb, hl, hm, hmm, by rw [hC] at hx; exact hx, fun i him => ?_⟩
    obtain ⟨cs', hc, ht'⟩ := hi i him
    rw [hC] at hc
    obtain ⟨ys, n', hn', hy, hlen, hyl, hf⟩ := DataW.trod_struct he ht'
    obtain ⟨_, hcl, hat⟩ := World.cells?_some hc
    simp only [Prod.mk.injEq] at hy
    refine ⟨ys, n', hy.1, hy.2, hyl, fun j f hj => ?_⟩
    obtain ⟨ho, hk⟩ := hone_of hone j f hj
    have hjl : j < fs.size := (Array.getElem?_eq_some_iff.1 hj).1
    have hcell := hat j hjl
    have hv : cs'[j]? = some (cs'[j]'(by omega)) := List.getElem?_eq_getElem (by omega)
    have h1 := hf j f hj
    rw [ho, hk] at h1
    have hone' : (cs'.drop j).take 1 = [cs'[j]'(by omega)] := by
      rw [List.drop_eq_getElem_cons (by omega)]
      rfl
    rw [hone'] at h1
    have hys : ys[j]? = some (ys[j]'(by omega)) := List.getElem?_eq_getElem (by omega)
    refine ⟨_, _, ?_, hys, h1.trans hys⟩
    rw [← Go.Deep.add_add, hcell, hv]
end

theorem list_of_each {α : Type} [Inhabited α] {Q : Nat → α → Prop} : ∀ n, (∀ i, i < n → ∃ x, Q i x) → ∃ l : List α, l.length = n ∧ ∀ i, i < n → Q i (l.getD i default)
  | 0, _ => ⟨[], rfl, fun i hi => by omega⟩
  | n + 1, h => by
    obtain ⟨l, hl, hq⟩ := list_of_each n fun i hi => h i (by omega)
    obtain ⟨x, hx⟩ := h n (by omega)
    refine ⟨l ++ [x], by simp [hl], fun i hi => ?_⟩
    by_cases hin : i < n
    · rw [List.getD_eq_getElem?_getD, List.getElem?_append_left (by omega), ← List.getD_eq_getElem?_getD]; exact hq i hin
    · obtain rfl : i = n := by omega
      rw [List.getD_eq_getElem?_getD, List.getElem?_append_right (by omega), hl]; simpa using hx

set_option maxHeartbeats 1000000 in
theorem open_ins {H : Type} {enc : TypeId × Value → H} {P : Program} {W : World} {t e ti : TypeId} {f0 f1 f2 f3 : Field} {fuel : Nat} {v : Value} {y : DataW H × List MemPlace}
    (ht : P.underlying t = some (.slice e)) (he : P.underlying e = some (.struct #[f0, f1, f2, f3])) (hone : oneCellFields P #[f0, f1, f2, f3] = true) (hC : P.cellsOf e = 4)
    (hf : f0.type = ti ∧ f1.type = ti ∧ f2.type = ti ∧ f3.type = ti) (hti : P.underlying ti = some (.int .i64)) (h : DataW.trod enc P W 0 (fun _ => true) true fuel t [v] = some y) :
    ∃ lo lc l, v = .slice lo l.length lc ∧ InsAt W lo lc l ∧ l.length ≤ maxLen ∧ l.length ≤ Rows.uptoBulk y.1 := by
  obtain ⟨t0, t1, t2, t3⟩ := hf
  rcases open_slice_fields ht he hone hC h with ⟨hcs, _⟩ | ⟨a, len, cap, m, D, Pl, hcs, _, hl, hm, hmm, hx, hi⟩
  · obtain rfl : v = .slice none 0 0 := by simpa using hcs
    exact ⟨none, 0, [], rfl, ⟨by simp [flat], fun _ => ⟨rfl, rfl⟩, fun j u hu => by simp [flat] at hu⟩, by simp, by simp⟩
  · obtain rfl : v = .slice (some a) len cap := by simpa using hcs
    have hlm : len ≤ m := by simp at hmm; omega
    have hex : ∀ i, i < len → ∃ x : Ins, W.cell? (a.add (i * 4 + 0)) = some (.int .i64 x.d) ∧ W.cell? (a.add (i * 4 + 1)) = some (.int .i64 x.a) ∧ W.cell? (a.add (i * 4 + 2)) = some (.int .i64 x.b) ∧ W.cell? (a.add (i * 4 + 3)) = some (.int .i64 x.c) := by
      intro i hil
      obtain ⟨ys, n, _, _, _, hg⟩ := hi i (by omega)
      obtain ⟨v0, z0, c0, _, h0⟩ := hg 0 f0 rfl
      obtain ⟨v1, z1, c1, _, h1⟩ := hg 1 f1 rfl
      obtain ⟨v2, z2, c2, _, h2⟩ := hg 2 f2 rfl
      obtain ⟨v3, z3, c3, _, h3⟩ := hg 3 f3 rfl
      rw [t0] at h0
      rw [t1] at h1
      rw [t2] at h2
      rw [t3] at h3
      obtain ⟨n0, e0, _⟩ := DataW.trod_int hti h0
      obtain ⟨n1, e1, _⟩ := DataW.trod_int hti h1
      obtain ⟨n2, e2, _⟩ := DataW.trod_int hti h2
      obtain ⟨n3, e3, _⟩ := DataW.trod_int hti h3
      obtain rfl : v0 = _ := by simpa using e0
      obtain rfl : v1 = _ := by simpa using e1
      obtain rfl : v2 = _ := by simpa using e2
      obtain rfl : v3 = _ := by simpa using e3
      exact ⟨⟨n0, n1, n2, n3⟩, c0, c1, c2, c3⟩
    obtain ⟨l, hll, hq⟩ := list_of_each len hex
    refine ⟨some a, cap, l, by rw [hll], ⟨flat_length l, (fun h => by cases h), fun j u hu => ⟨a, rfl, ?_⟩⟩, by omega, ?_⟩
    · have hj : j < l.length * 4 := by
        have := (List.getElem?_eq_some_iff.1 hu).1
        rwa [flat_length] at this
      have hi4 : j / 4 < l.length := by omega
      have hjj : j = j / 4 * 4 + j % 4 := by omega
      obtain ⟨q0, q1, q2, q3⟩ := hq (j / 4) (by omega)
      rw [hjj] at hu ⊢
      rw [flat_get l (j / 4) hi4 (j % 4) (by omega)] at hu
      rcases (show j % 4 = 0 ∨ j % 4 = 1 ∨ j % 4 = 2 ∨ j % 4 = 3 by omega) with hr | hr | hr | hr <;> rw [hr] at hu ⊢
      · obtain rfl : Value.int .i64 _ = u := by simpa [Ins.cells] using hu
        exact q0
      · obtain rfl : Value.int .i64 _ = u := by simpa [Ins.cells] using hu
        exact q1
      · obtain rfl : Value.int .i64 _ = u := by simpa [Ins.cells] using hu
        exact q2
      · obtain rfl : Value.int .i64 _ = u := by simpa [Ins.cells] using hu
        exact q3
    · rw [hx]
      refine Nat.le_trans ?_ (slice_bulk _ _)
      simp only [List.length_map, List.length_range]
      omega

theorem open_ints1 {H : Type} {enc : TypeId × Value → H} {P : Program} {W : World} {t e : TypeId} {k : IntKind} {v : Value} {fuel : Nat} {y : DataW H × List MemPlace}
    (ht : P.underlying t = some (.slice e)) (he : P.underlying e = some (.int k)) (hc : P.cellsOf e = 1) (hf : DataW.trod enc P W 0 (fun _ => true) true fuel t [v] = some y) :
    ∃ a cap zs, v = .slice a zs.length cap ∧ (Sl k W a zs ∧ (a = none → cap = 0)) ∧ (∀ n ∈ zs, (Lit.int k n).wf = true) ∧ zs.length ≤ maxLen := by
  rcases open_ints ht he hc hf with ⟨hcs, _⟩ | ⟨x, l, c, zs, hcs, _, hl, hm, hz, hx, hcell, hwz⟩
  · obtain rfl : v = .slice none 0 0 := by simpa using hcs
    exact ⟨none, 0, [], rfl, ⟨fun i hi => by simp at hi, fun _ => rfl⟩, by simp, by simp⟩
  · obtain rfl : v = .slice (some x) l c := by simpa using hcs
    have hz' : zs.length = c := by simpa using hz
    refine ⟨some x, c, zs.take l, by rw [List.length_take, Nat.min_eq_left (by omega)], ⟨?_, fun h => by cases h⟩, fun n hn => hwz n (List.mem_of_mem_take hn), by rw [List.length_take]; omega⟩
    intro i hi
    rw [List.length_take] at hi
    refine ⟨x, rfl, ?_⟩
    rw [hcell i (by omega), List.getD_eq_getElem?_getD, List.getD_eq_getElem?_getD, List.getElem?_take_of_lt (by omega)]

theorem open_code {H : Type} {enc : TypeId × Value → H} {W : World} {r : Reach} {b0 : Nat} {v : Value} {d : DataW H} {ps : List MemPlace}
    (hval : Value.okWide Try.prog W r b0 25 v) (hd : DataW.Trod enc Try.prog W 0 (fun _ => true) true 25 v d ps) :
    ∃ lo lc ho hc c, v = .agg #[.slice lo c.l.length lc, .slice ho c.h.length hc] ∧ CdAt W lo lc ho hc c ∧ c.l.length ≤ maxLen ∧ c.h.length ≤ maxLen := by
  obtain ⟨v0, v1, y0, y1, n, rfl, rfl, rfl, h0, h1⟩ := Go.Joins.open_agg2 Try.underlying25 (by kernel_rfl) (by kernel_rfl) hval hd
  obtain ⟨lo, lc, l, rfl, hl, hl2, _⟩ := open_ins (ti := 3) Try.underlying22 Try.underlying60 (by kernel_rfl) (by kernel_rfl) ⟨rfl, rfl, rfl, rfl⟩ Try.underlying3 h0
  obtain ⟨ho, hc, zs, rfl, hz, _, hz2⟩ := open_ints1 Try.underlying23 Try.underlying3 (by kernel_rfl) h1
  exact ⟨lo, lc, ho, hc, ⟨l, zs⟩, rfl, ⟨hl, SlA.of_ints hz.1 hz.2⟩, hl2, hz2⟩

end Go.Proofs.Ytignlfcjlbijaaa
