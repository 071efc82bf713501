/- The program's Valid: two searches by a closure. -/
import Derived.Test.YtignlfcjlbijaaaRe
namespace Go.Proofs.Ytignlfcjlbijaaa
open Go.RowKit

set_option maxHeartbeats 1000000 in
theorem valid1_any (x : Ins) (n : Nat) (b : Nat) (w : World) (hn : n ≤ 1000) (hc : w.cell? ⟨b, 0, none⟩ = some (.int .i64 n)) :
    Calls Try.prog 38 #[.agg #[.int .i64 x.d, .int .i64 x.a, .int .i64 x.b, .int .i64 x.c], .pointer (some ⟨b, 0, none⟩)] w fun e w' => e = .returned (.bool (!insV x n)) ∧ Below w.heap.size w w' := by
  have hl : b < w.heap.size := cell_lt hc
  go_enter Try.func38, Try.ntmps38
  go_wp2_with fail
  refine (validI_any x n _ (by omega) (by omega)).mono ?_
  rintro e w1 ⟨rfl, hb1⟩
  go_wp2_with fail
  go_ret
  exact ⟨rfl, ((Below.refl w.heap.size w).alloc (Nat.le_refl _) _).trans (hb1.mono (by simp))⟩
set_option maxHeartbeats 1000000 in
theorem valid2_any (h : Int) (n : Nat) (b : Nat) (w : World) (hc : w.cell? ⟨b, 0, none⟩ = some (.int .i64 n)) :
    Calls Try.prog 40 #[.int .i64 h, .pointer (some ⟨b, 0, none⟩)] w fun e w' => e = .returned (.bool (!inB h (-1) (n - 1))) ∧ w = w' := by
  by_cases h1 : h < -1
  all_goals
    go_enter Try.func40, Try.ntmps40
    go_wp2
    go_ret
    exact ⟨ret_bool (by rw [Bool.eq_iff_iff]; simp [inB]; omega), rfl⟩

theorem InsAt.old {w w' : World} {ao : Option Addr} {cap : Nat} {l : List Ins} (h : InsAt w ao cap l) (hb : Below w.heap.size w w') : InsAt w' ao cap l := SlA.old h hb
theorem any_of {α : Type} {l : List α} {p : α → Bool} {d : α} {k : Nat} (hk : k < l.length) (h : p (l.getD k d) = true) : l.any p = true := by
  rw [List.any_eq_true]
  exact ⟨l[k], List.getElem_mem hk, by simpa [hk] using h⟩
theorem any_not {α : Type} {l : List α} {p : α → Bool} {d : α} (h : ∀ i, i < l.length → p (l.getD i d) = false) : l.any p = false := by
  rw [List.any_eq_false]
  intro x hx
  obtain ⟨i, hi, rfl⟩ := List.getElem_of_mem hx
  have := h i hi
  simpa [hi] using this

set_option maxHeartbeats 4000000 in
theorem idx1_any (l : List Ins) (ao : Option Addr) (cap n b : Nat) (w : World) (hn : n ≤ 1000) (hlen : l.length ≤ 1000) (hl : InsAt w ao cap l) (hc : w.cell? ⟨b, 0, none⟩ = some (.int .i64 n)) :
    Calls Try.prog 56 #[.slice ao l.length cap, .func (Fn.func 38) #[] #[.pointer (some ⟨b, 0, none⟩)]] w fun e w' => (∃ r : Int, e = .returned (.int .i64 r) ∧ decide (0 ≤ r) = l.any (fun x => !insV x n)) ∧ Below w.heap.size w w' := by
  have cf : ∀ A W, (callFunc 38 A).run Try.prog W = .ok (.enter 38 A) W := fun A W => by kernel_rfl
  have HI := Lib.hid hl
  have HC := Lib.hid hc
  clear hl hc
  go_enter Try.func56, Try.ntmps56
  go_wp2
  go_loopw [8] (fun i wr => ∃ (k : Nat), k ≤ l.length ∧ i = .int .i64 k ∧ Below w.heap.size w wr ∧ (∀ i, i < k → (!insV (l.getD i default) n) = false)) (fun i _ => l.length - (intOf i).toNat)
  case atStart => exact ⟨0, by omega, rfl, Below.refl _ _, by omega⟩
  case round =>
    obtain ⟨k, hk, rfl, hbel, q1⟩ := hrel
    have HL := Lib.hid hbel
    have Q1 := Lib.hid q1
    clear hbel q1
    by_cases hkl : k < l.length
    · obtain ⟨ad, rfl, e0, e1, e2, e3⟩ := (HI.out.old HL.out).cell hkl
      obtain ⟨x, hx⟩ : ∃ x, x = l.getD k default := ⟨_, rfl⟩
      rw [← hx] at e0 e1 e2 e3
      have HX := Lib.hid hx
      clear hx
      go_wp2_with fail
      refine (valid1_any x n b _ hn (by rw [HL.out.cell (cell_lt HC.out)]; exact HC.out)).mono ?_
      rintro e w1 ⟨rfl, hb1⟩
      have HL1 := Lib.hid (bthen HL.out hb1)
      rcases hI : insV x n with _ | _
      · go_wp2
        go_ret
        exact ⟨⟨_, rfl, by rw [any_of (d := default) hkl (by rw [← HX.out]; simp [hI])]; simp⟩, HL1.out⟩
      · go_wp2
        go_roundw
        case rel =>
          refine ⟨k + 1, by omega, by go_num, HL1.out, fun i hi => ?_⟩
          by_cases hik : i < k
          · exact Q1.out i hik
          · obtain rfl : i = k := by omega
            rw [← HX.out]; simp [hI]
        case measure => simp [intOf]; omega
    · go_wp2
      go_ret
      exact ⟨⟨_, rfl, (any_not (d := default) fun i hi => Q1.out i (by omega)).symm⟩, HL.out⟩

set_option maxHeartbeats 1000000 in
theorem con1_any (l : List Ins) (ao : Option Addr) (cap n b : Nat) (w : World) (hn : n ≤ 1000) (hlen : l.length ≤ 1000) (hl : InsAt w ao cap l) (hc : w.cell? ⟨b, 0, none⟩ = some (.int .i64 n)) :
    Calls Try.prog 37 #[.slice ao l.length cap, .func (Fn.func 38) #[] #[.pointer (some ⟨b, 0, none⟩)]] w fun e w' => e = .returned (.bool (l.any fun x => !insV x n)) ∧ Below w.heap.size w w' := by
  have HI := Lib.hid hl
  have HC := Lib.hid hc
  clear hl hc
  go_enter Try.func37, Try.ntmps37
  go_wp2_with fail
  refine (idx1_any l ao cap n b w hn hlen HI.out HC.out).mono ?_
  rintro e w1 ⟨⟨r, rfl, hr⟩, hb1⟩
  have HR := Lib.hid hr
  clear hr
  go_wp2
  go_ret
  exact ⟨ret_bool HR.out, hb1⟩

set_option maxHeartbeats 4000000 in
theorem idx2_any (l : List Int) (ao : Option Addr) (cap n b : Nat) (w : World) (_hn : n ≤ 1000) (hlen : l.length ≤ 1000) (hl : SlA w 1 ao l.length cap (l.map (Value.int .i64))) (hc : w.cell? ⟨b, 0, none⟩ = some (.int .i64 n)) :
    Calls Try.prog 46 #[.slice ao l.length cap, .func (Fn.func 40) #[] #[.pointer (some ⟨b, 0, none⟩)]] w fun e w' => (∃ r : Int, e = .returned (.int .i64 r) ∧ decide (0 ≤ r) = l.any (fun x => !inB x (-1) (n - 1))) ∧ Below w.heap.size w w' := by
  have cf : ∀ A W, (callFunc 40 A).run Try.prog W = .ok (.enter 40 A) W := fun A W => by kernel_rfl
  have HI := Lib.hid hl
  have HC := Lib.hid hc
  clear hl hc
  go_enter Try.func46, Try.ntmps46
  go_wp2
  go_loopw [8] (fun i wr => ∃ (k : Nat), k ≤ l.length ∧ i = .int .i64 k ∧ Below w.heap.size w wr ∧ (∀ i, i < k → (!inB (l.getD i 0) (-1) (n - 1)) = false)) (fun i _ => l.length - (intOf i).toNat)
  case atStart => exact ⟨0, by omega, rfl, Below.refl _ _, by omega⟩
  case round =>
    obtain ⟨k, hk, rfl, hbel, q1⟩ := hrel
    have HL := Lib.hid hbel
    have Q1 := Lib.hid q1
    clear hbel q1
    by_cases hkl : k < l.length
    · obtain ⟨ad, rfl, e0⟩ := sla_int (SlA.old HI.out HL.out) hkl
      obtain ⟨x, hx⟩ : ∃ x, x = l.getD k 0 := ⟨_, rfl⟩
      rw [← hx] at e0
      have HX := Lib.hid hx
      clear hx
      go_wp2_with fail
      refine (valid2_any x n b _ (by rw [HL.out.cell (cell_lt HC.out)]; exact HC.out)).mono ?_
      rintro e w1 ⟨rfl, rfl⟩
      have HL1 := Lib.hid HL.out
      rcases hI : inB x (-1) (n - 1) with _ | _
      · go_wp2
        go_ret
        exact ⟨⟨_, rfl, by rw [any_of (d := 0) hkl (by rw [← HX.out]; simp [hI])]; simp⟩, HL1.out⟩
      · go_wp2
        go_roundw
        case rel =>
          refine ⟨k + 1, by omega, by go_num, HL1.out, fun i hi => ?_⟩
          by_cases hik : i < k
          · exact Q1.out i hik
          · obtain rfl : i = k := by omega
            rw [← HX.out]; simp [hI]
        case measure => simp [intOf]; omega
    · go_wp2
      go_ret
      exact ⟨⟨_, rfl, (any_not (d := 0) fun i hi => Q1.out i (by omega)).symm⟩, HL.out⟩

set_option maxHeartbeats 1000000 in
theorem con2_any (l : List Int) (ao : Option Addr) (cap n b : Nat) (w : World) (hn : n ≤ 1000) (hlen : l.length ≤ 1000) (hl : SlA w 1 ao l.length cap (l.map (Value.int .i64))) (hc : w.cell? ⟨b, 0, none⟩ = some (.int .i64 n)) :
    Calls Try.prog 26 #[.slice ao l.length cap, .func (Fn.func 40) #[] #[.pointer (some ⟨b, 0, none⟩)]] w fun e w' => e = .returned (.bool (l.any fun x => !inB x (-1) (n - 1))) ∧ Below w.heap.size w w' := by
  have HI := Lib.hid hl
  have HC := Lib.hid hc
  clear hl hc
  go_enter Try.func26, Try.ntmps26
  go_wp2_with fail
  refine (idx2_any l ao cap n b w hn hlen HI.out HC.out).mono ?_
  rintro e w1 ⟨⟨r, rfl, hr⟩, hb1⟩
  have HR := Lib.hid hr
  clear hr
  go_wp2
  go_ret
  exact ⟨ret_bool HR.out, hb1⟩

theorem codeV_eq {c : Cd} (h1 : 1 ≤ c.l.length) (h2 : c.l.length ≤ 600) (h3 : c.h.length = c.l.length) : codeV c = (!(c.l.any fun x => !insV x c.l.length) && !(c.h.any fun n => !inB n (-1) (c.l.length - 1))) := by
  simp [codeV, h1, h2, h3, List.all_eq_not_any_not]
set_option maxHeartbeats 4000000 in
theorem Valid_any (W : World) (lo : Option Addr) (lc : Nat) (ho : Option Addr) (hc : Nat) (c : Cd) (hcd : CdAt W lo lc ho hc c) :
    Calls Try.prog 21 #[.agg #[.slice lo c.l.length lc, .slice ho c.h.length hc]] W fun e w' => e = .returned (.bool (codeV c)) ∧ Below W.heap.size W w' := by
  by_cases hlen : 1 ≤ c.l.length ∧ c.l.length ≤ 600 ∧ c.h.length = c.l.length
  · obtain ⟨g1, g2, g3⟩ := hlen
    rw [g3]
    have HN := Lib.hid g3
    clear g3
    have HC := Lib.hid hcd
    clear hcd
    go_enter Try.func21, Try.ntmps21
    go_wp2_with fail
    have hb0 := Lib.hid (((Below.refl W.heap.size W).alloc (Nat.le_refl _) (.cells #[.slice lo c.l.length lc, .slice ho c.l.length hc] 30)).alloc (by simp) (.cells #[.int .i64 c.l.length] 3))
    refine (con1_any c.l lo lc c.l.length (W.heap.size + 1) _ (by omega) (by omega) (HC.out.l.old hb0.out) (by go_simp)).mono ?_
    rintro e w1 ⟨rfl, hb1⟩
    have hL1 := Lib.hid (hb0.out.trans (hb1.mono (by simp; omega)))
    have c1 : w1.cell? ⟨W.heap.size, 1, none⟩ = some (.slice ho c.l.length hc) := by rw [hb1.cell (by simp; omega)]; go_simp
    have c2 : w1.cell? ⟨W.heap.size + 1, 0, none⟩ = some (.int .i64 c.l.length) := by rw [hb1.cell (by simp)]; go_simp
    rcases hI : c.l.any (fun x => !insV x c.l.length) with _ | _
    · go_wp2_with fail
      have hq := con2_any c.h ho hc c.l.length (W.heap.size + 1) _ (by omega) (by have := HN.out; omega) (HC.out.h.old hL1.out) c2
      rw [HN.out] at hq
      refine hq.mono ?_
      rintro e w2 ⟨rfl, hb2⟩
      go_wp2
      go_ret
      exact ⟨ret_bool (by rw [codeV_eq g1 g2 HN.out, hI]; simp), bthen hL1.out hb2⟩
    · go_wp2
      go_ret
      exact ⟨ret_bool (by rw [codeV_eq g1 g2 HN.out, hI]; simp), hL1.out⟩
  · go_enter Try.func21, Try.ntmps21
    go_wp2_with fail
    all_goals try (exfalso; simp only [bne_eq_false_iff_eq] at *; omega)
    all_goals
      (go_ret
       exact ⟨ret_bool (codeV_len (by omega)).symm, ((Below.refl _ _).alloc (Nat.le_refl _) _).alloc (by simp) _⟩)

end Go.Proofs.Ytignlfcjlbijaaa
