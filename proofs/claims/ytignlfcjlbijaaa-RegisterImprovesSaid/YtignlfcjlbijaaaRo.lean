/- Whether what was told is equal, and whether code is equal. -/
import Derived.Test.YtignlfcjlbijaaaRk
import Derived.Laws.StructEq
namespace Go.Proofs.Ytignlfcjlbijaaa
open Go.RowKit

theorem size_int (w : World) : (sizeOf 3).run Try.prog w = .ok 1 w := by kernel_rfl
theorem agg_int (w : World) : (isAgg 3).run Try.prog w = .ok false w := by kernel_rfl
theorem eqArr2 {P : Program} {t e : TypeId} (ht : P.underlying t = some (.array 2 e)) (he : P.underlying e = some (.int .i64)) (hs : ∀ w, (sizeOf e).run P w = .ok 1 w) (hg : ∀ w, (isAgg e).run P w = .ok false w) (a b x y : Int) (w : World) :
    (Op.equalIn 10000 t (.agg #[.int .i64 a, .int .i64 b]) (.agg #[.int .i64 x, .int .i64 y])).run P w = .ok (a == x && b == y) w := by
  have h1 : ∀ (p q : Int) (w : World), (Op.equalIn 9999 e (.int .i64 p) (.int .i64 q)).run P w = .ok (p == q) w := fun p q w => run_equalIn_int w 9998 e .i64 .i64 p q he
  show (Op.equalIn (9999 + 1) t _ _).run P w = _
  rw [Op.equalIn]
  simp only [Sem.run_bind, run_underlying ht, Result.andThen_ok]
  cases h2 : (a == x) <;> cases h3 : (b == y) <;> simp [go_sem, hs, hg, h1, h2, h3, Std.Legacy.Range.forIn_eq_forIn_range', List.range']
theorem eqT2 (a b x y : Int) (w : World) : (Op.equalIn 10000 45 (.agg #[.int .i64 a, .int .i64 b]) (.agg #[.int .i64 x, .int .i64 y])).run Try.prog w = .ok (a == x && b == y) w :=
  eqArr2 Try.underlying45 Try.underlying3 size_int agg_int a b x y w
theorem eqPair (x y : Int × Int) (w : World) : (Op.equalIn 10000 45 (.agg #[.int .i64 x.1, .int .i64 x.2]) (.agg #[.int .i64 y.1, .int .i64 y.2])).run Try.prog w = .ok (decide (x = y)) w := by
  rw [eqT2]; congr 1; cases x; cases y; rw [Bool.eq_iff_iff]; simp
theorem eqIns (x y : Ins) : (x.d == y.d && (x.a == y.a && (x.b == y.b && x.c == y.c))) = decide (x = y) := by
  cases x; cases y; rw [Bool.eq_iff_iff]; simp [Ins.mk.injEq]
theorem eqRef (x y : Ins) (w : World) : (Op.equalIn 10000 60 (.agg #[.int .i64 x.d, .int .i64 x.a, .int .i64 x.b, .int .i64 x.c]) (.agg #[.int .i64 y.d, .int .i64 y.a, .int .i64 y.b, .int .i64 y.c])).run Try.prog w = .ok (decide (x = y)) w := by
  have h1 : ∀ (p q : Int) (w : World), (Op.equalIn 9999 3 (.int .i64 p) (.int .i64 q)).run Try.prog w = .ok (p == q) w := fun p q w => run_equalIn_int w 9998 _ .i64 .i64 p q Try.underlying3
  have hs := size_int
  have hg := agg_int
  rw [← eqIns, show (10000 : Nat) = 9999 + 1 from rfl, run_equalIn_agg w 9999 _ _ _ (by kernel_rfl) (by kernel_rfl)]
  simp only [Program.fieldsOf, Try.underlying60]
  cases h2 : (x.d == y.d) <;> cases h3 : (x.a == y.a) <;> cases h4 : (x.b == y.b) <;> cases h5 : (x.c == y.c) <;> simp [go_sem, hs, hg, h1, h2, h3, h4, h5]
theorem eqReg (x y : Ins) (w : World) : (Op.equalIn 10000 53 (.agg #[.int .i64 x.d, .int .i64 x.a, .int .i64 x.b, .int .i64 x.c]) (.agg #[.int .i64 y.d, .int .i64 y.a, .int .i64 y.b, .int .i64 y.c])).run Try.prog w = .ok (decide (x = y)) w := by
  have h1 : ∀ (p q : Int) (w : World), (Op.equalIn 9999 3 (.int .i64 p) (.int .i64 q)).run Try.prog w = .ok (p == q) w := fun p q w => run_equalIn_int w 9998 _ .i64 .i64 p q Try.underlying3
  have hs := size_int
  have hg := agg_int
  rw [← eqIns, show (10000 : Nat) = 9999 + 1 from rfl, run_equalIn_agg w 9999 _ _ _ (by kernel_rfl) (by kernel_rfl)]
  simp only [Program.fieldsOf, Try.underlying53]
  cases h2 : (x.d == y.d) <;> cases h3 : (x.a == y.a) <;> cases h4 : (x.b == y.b) <;> cases h5 : (x.c == y.c) <;> simp [go_sem, hs, hg, h1, h2, h3, h4, h5]

theorem flatT_get (l : List (Int × Int)) (i : Nat) (hi : i < l.length) (j : Nat) (hj : j < 2) : (flatT l)[i * 2 + j]? = [Value.int .i64 (l.getD i default).1, .int .i64 (l.getD i default).2][j]? := by
  induction l generalizing i with
  | nil => cases hi
  | cons x r ih =>
    cases i with
    | zero =>
      simp only [flatT, List.flatMap_cons, Nat.zero_mul, Nat.zero_add, List.getD_cons_zero]
      rw [List.getElem?_append_left (by simp; omega)]
    | succ i =>
      have h1 := ih i (by simpa using hi)
      simp only [flatT, List.flatMap_cons, List.getD_cons_succ] at h1 ⊢
      rw [List.getElem?_append_right (by simp; omega), ← h1]
      congr 1
      simp; omega
/-- a slice of what was told -/
def TAt (w : World) (ao : Option Addr) (cap : Nat) (l : List (Int × Int)) : Prop := SlA w 2 ao l.length cap (flatT l)
theorem TAt.cell {w : World} {ao : Option Addr} {cap : Nat} {l : List (Int × Int)} (h : TAt w ao cap l) {i : Nat} (hi : i < l.length) :
    ∃ ad, ao = some ad ∧ w.cell? (ad.add (i * 2)) = some (.int .i64 (l.getD i default).1) ∧ w.cell? ⟨(ad.add (i * 2)).block, (ad.add (i * 2)).off + 1, none⟩ = some (.int .i64 (l.getD i default).2) := by
  obtain ⟨ad, ha, h0⟩ := h.2.2 (i * 2 + 0) _ (flatT_get l i hi 0 (by omega))
  obtain ⟨ad1, ha1, h1⟩ := h.2.2 (i * 2 + 1) _ (flatT_get l i hi 1 (by omega))
  rw [ha] at ha1
  obtain rfl := Option.some.inj ha1
  rw [add_next _ _ _ (by decide)] at h1
  exact ⟨ad, ha, h0, h1⟩
theorem TAt.old {w w' : World} {ao : Option Addr} {cap : Nat} {l : List (Int × Int)} (h : TAt w ao cap l) (hb : Below w.heap.size w w') : TAt w' ao cap l := SlA.old h hb

theorem list_eq_of {α : Type} [Inhabited α] {l m : List α} (h : l.length = m.length) (h2 : ∀ k, k < l.length → l.getD k default = m.getD k default) : l = m := by
  refine List.ext_getElem h fun i h1 h3 => ?_
  have := h2 i h1
  simpa [h1, h3] using this
theorem list_ne_of {α : Type} [Inhabited α] {l m : List α} (k : Nat) (h2 : l.getD k default ≠ m.getD k default) : l ≠ m := by
  intro h; subst h; exact h2 rfl

set_option maxHeartbeats 4000000 in
theorem told_any (W : World) (ao : Option Addr) (acap : Nat) (l : List (Int × Int)) (bo : Option Addr) (bcap : Nat) (m : List (Int × Int)) (ha : TAt W ao acap l) (hb : TAt W bo bcap m) (hl : l.length ≤ 1000000) :
    Calls Try.prog 32 #[.slice ao l.length acap, .slice bo m.length bcap] W fun e w' => e = .returned (.bool (decide (l = m))) ∧ Below W.heap.size W w' := by
  by_cases hlen : l.length = m.length
  · have HA := Lib.hid ha
    have HB := Lib.hid hb
    have HN := Lib.hid hlen
    rw [← hlen]
    clear ha hb hlen
    go_enter Try.func32, Try.ntmps32
    go_wp2
    go_loopw [5] (fun i wr => ∃ (k : Nat), k ≤ l.length ∧ i = .int .i64 k ∧ Below W.heap.size W wr ∧ (∀ i, i < k → l.getD i default = m.getD i default)) (fun i _ => l.length - (intOf i).toNat)
    case atStart => exact ⟨0, by omega, rfl, Below.refl _ _, by omega⟩
    case round =>
      obtain ⟨k, hk, rfl, hbel, q1⟩ := hrel
      have HL := Lib.hid hbel
      have Q1 := Lib.hid q1
      clear hbel q1
      by_cases hkl : k < l.length
      · obtain ⟨ad, ha, e0, e1⟩ := (HA.out.old HL.out).cell hkl
        obtain ⟨ad2, ha2, d0, d1⟩ := (HB.out.old HL.out).cell (i := k) (by have := HN.out; omega)
        generalize hx : l.getD k default = x at e0 e1
        generalize hy : m.getD k default = y at d0 d1
        have HX := Lib.hid hx
        have HY := Lib.hid hy
        have HAd := Lib.hid ha
        have HAd2 := Lib.hid ha2
        subst ha ha2
        clear hx hy
        have hkl2 : (k : Int) < l.length := by omega
        have heq := eqPair
        go_wp2
        refine wp_still_all (by kernel_rfl) (by kernel_rfl) ?_
        repeat still_step
        refine wpStill_nil ?_
        clear e0 e1 d0 d1 heq
        rcases hq : decide (x = y) with _ | _
        · have hxy := Lib.hid (of_decide_eq_false hq)
          clear hq
          go_wp2
          go_ret
          exact ⟨ret_bool (decide_eq_false (list_ne_of k (by rw [HX.out, HY.out]; exact hxy.out))).symm, HL.out.drew⟩
        · have hxy := Lib.hid (of_decide_eq_true hq)
          clear hq
          go_wp2
          refine ⟨⟨k + 1, by omega, by go_num, HL.out.drew, fun i hi => ?_⟩, by show l.length - ((k : Int) + 1).toNat < l.length - (k : Int).toNat; omega⟩
          by_cases hik : i < k
          · exact Q1.out i hik
          · obtain rfl : i = k := by omega
            rw [HX.out, HY.out]; exact hxy.out
      · go_wp2
        go_ret
        exact ⟨ret_bool (decide_eq_true (list_eq_of HN.out (fun i hi => Q1.out i (by omega)))).symm, HL.out⟩
  · go_enter Try.func32, Try.ntmps32
    go_wp2
    go_ret
    exact ⟨ret_bool (decide_eq_false (fun h => hlen (by rw [h]))).symm, Below.refl _ _⟩

end Go.Proofs.Ytignlfcjlbijaaa
