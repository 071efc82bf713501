/- Which triples are valid, and which are too large: layer 17's functions and those of its reference, each by a contract. -/
import Derived.Test.YtenaklaajdpimaaLa
namespace Go.Proofs.Ytenaklaajdpimaa
open Go.RowKit

/-- a valid triple -/
def tB (a b c : Int) : Bool := decide (0 ≤ a ∧ a ≤ 1000000000 ∧ 0 ≤ b ∧ b ≤ 1000000000 ∧ 0 ≤ c ∧ c ≤ 1000000000)
theorem tB_iff {a b c : Int} : tB a b c = true ↔ 0 ≤ a ∧ a ≤ 1000000000 ∧ 0 ≤ b ∧ b ≤ 1000000000 ∧ 0 ≤ c ∧ c ≤ 1000000000 := by simp [tB]
theorem tB_not {a b c : Int} : tB a b c = false ↔ ¬ (0 ≤ a ∧ a ≤ 1000000000 ∧ 0 ≤ b ∧ b ≤ 1000000000 ∧ 0 ≤ c ∧ c ≤ 1000000000) := by simp [tB]
def min3 (a b c : Int) : Int := min (min a b) c
def max3 (a b c : Int) : Int := max (max a b) c

set_option maxHeartbeats 1000000 in
theorem smin_any (g o : Nat) (a b c : Int) (w : World) (h0 : w.cell? ⟨g, o, none⟩ = some (.int .i64 a)) (h1 : w.cell? ⟨g, o + 1, none⟩ = some (.int .i64 b)) (h2 : w.cell? ⟨g, o + 2, none⟩ = some (.int .i64 c)) :
    Calls Try.prog 30 #[.slice (some ⟨g, o, none⟩) 3 3] w fun e w' => e = .returned (.int .i64 (min3 a b c)) ∧ w = w' := by
  go_enter Try.func30, Try.ntmps30
  go_wp2
  go_loop [3, 4] (fun m i => (i = .int .i64 1 ∧ m = .int .i64 a) ∨ (i = .int .i64 2 ∧ m = .int .i64 (min a b)) ∨ (i = .int .i64 3 ∧ m = .int .i64 (min3 a b c))) (fun _ i => 3 - (intOf i).toNat)
  case atStart => exact .inl ⟨rfl, rfl⟩
  case round =>
    rcases hrel with ⟨rfl, rfl⟩ | ⟨rfl, rfl⟩ | ⟨rfl, rfl⟩
    · go_wp2
      all_goals
        go_round
        case rel => exact .inr (.inl ⟨rfl, by congr 1; omega⟩)
        case measure => simp [intOf]
    · go_wp2
      all_goals
        go_round
        case rel => exact .inr (.inr ⟨rfl, by unfold min3; congr 1; omega⟩)
        case measure => simp [intOf]
    · go_wp2
      go_ret
      exact ⟨rfl, rfl⟩
set_option maxHeartbeats 1000000 in
theorem smax_any (g o : Nat) (a b c : Int) (w : World) (h0 : w.cell? ⟨g, o, none⟩ = some (.int .i64 a)) (h1 : w.cell? ⟨g, o + 1, none⟩ = some (.int .i64 b)) (h2 : w.cell? ⟨g, o + 2, none⟩ = some (.int .i64 c)) :
    Calls Try.prog 31 #[.slice (some ⟨g, o, none⟩) 3 3] w fun e w' => e = .returned (.int .i64 (max3 a b c)) ∧ w = w' := by
  go_enter Try.func31, Try.ntmps31
  go_wp2
  go_loop [3, 4] (fun m i => (i = .int .i64 1 ∧ m = .int .i64 a) ∨ (i = .int .i64 2 ∧ m = .int .i64 (max a b)) ∨ (i = .int .i64 3 ∧ m = .int .i64 (max3 a b c))) (fun _ i => 3 - (intOf i).toNat)
  case atStart => exact .inl ⟨rfl, rfl⟩
  case round =>
    rcases hrel with ⟨rfl, rfl⟩ | ⟨rfl, rfl⟩ | ⟨rfl, rfl⟩
    · go_wp2
      all_goals
        go_round
        case rel => exact .inr (.inl ⟨rfl, by congr 1; omega⟩)
        case measure => simp [intOf]
    · go_wp2
      all_goals
        go_round
        case rel => exact .inr (.inr ⟨rfl, by unfold max3; congr 1; omega⟩)
        case measure => simp [intOf]
    · go_wp2
      go_ret
      exact ⟨rfl, rfl⟩

set_option maxHeartbeats 1000000 in
theorem are1_any (a b c : Int) (w : World) :
    Calls Try.prog 29 #[.agg #[.int .i64 a, .int .i64 b, .int .i64 c]] w fun e w' => e = .returned (.bool (!tB a b c)) ∧ Below w.heap.size w w' := by
  by_cases hm : min3 a b c < 0
  · have ht : tB a b c = false := by rw [tB_not]; unfold min3 at hm; omega
    have HT := Lib.hid ht
    clear ht
    go_enter Try.func29, Try.ntmps29
    go_wp2_with (go_at_call 30; refine (smin_any _ _ a b c _ (by simp [go_sem]) (by simp [go_sem]) (by simp [go_sem])).mono ?_; rintro e w' ⟨rfl, rfl⟩)
    go_ret
    exact ⟨ret_bool (by rw [HT.out]; rfl), (Below.refl _ _).alloc (Nat.le_refl _) _⟩
  · by_cases hx : 1000000000 < max3 a b c
    · have ht : tB a b c = false := by rw [tB_not]; unfold max3 at hx; omega
      have HT := Lib.hid ht
      clear ht
      go_enter Try.func29, Try.ntmps29
      go_wp2_with (first | (go_at_call 30; refine (smin_any _ _ a b c _ (by simp [go_sem]) (by simp [go_sem]) (by simp [go_sem])).mono ?_; rintro e w' ⟨rfl, rfl⟩) | (go_at_call 31; refine (smax_any _ _ a b c _ (by simp [go_sem]) (by simp [go_sem]) (by simp [go_sem])).mono ?_; rintro e w' ⟨rfl, rfl⟩))
      go_ret
      exact ⟨ret_bool (by rw [HT.out]; rfl), (Below.refl _ _).alloc (Nat.le_refl _) _⟩
    · have ht : tB a b c = true := by rw [tB_iff]; unfold max3 at hx; unfold min3 at hm; omega
      have HT := Lib.hid ht
      clear ht
      go_enter Try.func29, Try.ntmps29
      go_wp2_with (first | (go_at_call 30; refine (smin_any _ _ a b c _ (by simp [go_sem]) (by simp [go_sem]) (by simp [go_sem])).mono ?_; rintro e w' ⟨rfl, rfl⟩) | (go_at_call 31; refine (smax_any _ _ a b c _ (by simp [go_sem]) (by simp [go_sem]) (by simp [go_sem])).mono ?_; rintro e w' ⟨rfl, rfl⟩))
      go_ret
      exact ⟨ret_bool (by rw [HT.out]; simp; omega), (Below.refl _ _).alloc (Nat.le_refl _) _⟩

theorem cf_are1 (A : Array Value) (W : World) : (callFunc 29 A).run Try.prog W = .ok (.enter 29 A) W := by kernel_rfl

/-- the cells of a triple -/
def Tri1 (w : World) (g o : Nat) (x : Int × Int × Int) : Prop := w.cell? ⟨g, o, none⟩ = some (.int .i64 x.1) ∧ w.cell? ⟨g, o + 1, none⟩ = some (.int .i64 x.2.1) ∧ w.cell? ⟨g, o + 2, none⟩ = some (.int .i64 x.2.2)
theorem Tri1.below {w w' : World} {g o : Nat} {x : Int × Int × Int} (h : Tri1 w g o x) (hb : Below w.heap.size w w') : Tri1 w' g o x := by
  have hlt := cell_lt h.1
  refine ⟨?_, ?_, ?_⟩
  · rw [hb.cell (p := ⟨g, o, none⟩) hlt]; exact h.1
  · rw [hb.cell (p := ⟨g, o + 1, none⟩) hlt]; exact h.2.1
  · rw [hb.cell (p := ⟨g, o + 2, none⟩) hlt]; exact h.2.2
def tBx (x : Int × Int × Int) : Bool := tB x.1 x.2.1 x.2.2
/-- the index of the first that is not valid, or -1 -/
def IndexPost (xs : List (Int × Int × Int)) (w : World) (e : Ending) (w' : World) : Prop :=
  ∃ r : Int, e = .returned (.int .i64 r) ∧ Below w.heap.size w w' ∧ (xs.all tBx = true → r = -1) ∧ (xs.all tBx = false → 0 ≤ r)

set_option maxHeartbeats 1000000 in
theorem index_any (g o : Nat) (xs : List (Int × Int × Int)) (w : World) (hl : xs.length ≤ 10) (h : ∀ i, i < xs.length → Tri1 w g (o + i * 3) (xs.getD i (0, 0, 0))) :
    Calls Try.prog 33 #[.slice (some ⟨g, o, none⟩) xs.length xs.length, .func (.func 29) #[] #[]] w (IndexPost xs w) := by
  have H := Lib.hid h
  clear h
  go_enter Try.func33, Try.ntmps33
  go_wp2
  go_loopw [8] (fun i wr => ∃ k : Nat, k ≤ xs.length ∧ i = .int .i64 k ∧ Below w.heap.size w wr ∧ ∀ j, j < k → tBx (xs.getD j (0, 0, 0)) = true) (fun i _ => xs.length - (intOf i).toNat)
  case atStart => exact ⟨0, by omega, rfl, Below.refl _ _, fun j hj => by omega⟩
  case round =>
    obtain ⟨k, hk, rfl, hb, hj⟩ := hrel
    have HJ := Lib.hid hj
    have HB := Lib.hid hb
    clear hj hb
    by_cases hlt : k < xs.length
    · have ht := (H.out k hlt).below HB.out
      have hd : xs[k]? = some (xs.getD k (0, 0, 0)) := by simp [hlt]
      have HD := Lib.hid hd
      clear hd
      revert ht HD
      generalize hx : xs.getD k (0, 0, 0) = x
      have HX := Lib.hid hx
      clear hx
      obtain ⟨a, b, c⟩ := x
      rintro ⟨h0, h1, h2⟩ HD
      simp only [] at h0 h1 h2
      cases hp : tB a b c
      · go_wp2_with (go_at_call 29; refine (are1_any a b c _).mono ?_; rintro e w1 ⟨rfl, hb1⟩)
        go_ret
        refine ⟨k, rfl, bthen HB.out hb1, fun hall => ?_, fun _ => by omega⟩
        have := List.all_eq_true.1 hall (a, b, c) (List.mem_of_getElem? HD.out)
        simp [tBx, hp] at this
      · go_wp2_with (go_at_call 29; refine (are1_any a b c _).mono ?_; rintro e w1 ⟨rfl, hb1⟩)
        go_roundw
        case rel =>
          refine ⟨k + 1, by omega, by go_num, bthen HB.out hb1, fun j hj => ?_⟩
          by_cases hjk : j < k
          · exact HJ.out j hjk
          · obtain rfl : j = k := by omega
            rw [HX.out]; exact hp
        case measure => simp [intOf]; omega
    · have he : k = xs.length := by omega
      have HE := Lib.hid he
      clear he
      go_wp2
      go_ret
      refine ⟨-1, rfl, HB.out, fun _ => rfl, fun hall => ?_⟩
      exfalso
      have : xs.all tBx = true := by
        rw [List.all_eq_true]
        intro x hx
        obtain ⟨j, hj, rfl⟩ := List.getElem_of_mem hx
        have := HJ.out j (by have := HE.out; omega)
        rwa [List.getD_eq_getElem?_getD, List.getElem?_eq_getElem hj] at this
      rw [this] at hall; cases hall

set_option maxHeartbeats 1000000 in
theorem contains_any (g o : Nat) (xs : List (Int × Int × Int)) (w : World) (hl : xs.length ≤ 10) (h : ∀ i, i < xs.length → Tri1 w g (o + i * 3) (xs.getD i (0, 0, 0))) :
    Calls Try.prog 28 #[.slice (some ⟨g, o, none⟩) xs.length xs.length, .func (.func 29) #[] #[]] w fun e w' => e = .returned (.bool (!xs.all tBx)) ∧ Below w.heap.size w w' := by
  have H := Lib.hid h
  clear h
  go_enter Try.func28, Try.ntmps28
  go_wp2_with (go_at_call 33; refine (index_any g o xs _ hl H.out).mono ?_; rintro e w1 ⟨r, rfl, hb1, hr1, hr2⟩)
  go_ret
  refine ⟨ret_bool ?_, hb1⟩
  cases ha : xs.all tBx
  · have := hr2 ha; simpa using this
  · have := hr1 ha; subst this; simp

set_option maxHeartbeats 1000000 in
theorem are_any (g o : Nat) (xs : List (Int × Int × Int)) (w : World) (hl : xs.length ≤ 10) (h : ∀ i, i < xs.length → Tri1 w g (o + i * 3) (xs.getD i (0, 0, 0))) :
    Calls Try.prog 17 #[.slice (some ⟨g, o, none⟩) xs.length xs.length] w fun e w' => e = .returned (.bool (xs.all tBx)) ∧ Below w.heap.size w w' := by
  have H := Lib.hid h
  clear h
  go_enter Try.func17, Try.ntmps17
  go_wp2_with (go_at_call 28; refine (contains_any g o xs _ hl H.out).mono ?_; rintro e w1 ⟨rfl, hb1⟩)
  go_ret
  exact ⟨ret_bool (by simp), hb1⟩

theorem are1 (g : Nat) (a b c : Int) (w : World) (h : Blk w g (cl3 a b c) 22) :
    Calls Try.prog 17 #[.slice (some ⟨g, 0, none⟩) 1 1] w fun e w' => e = .returned (.bool (tB a b c)) ∧ Below w.heap.size w w' := by
  refine (are_any g 0 [(a, b, c)] w (by simp) ?_).mono fun e w' ⟨h1, h2⟩ => ⟨h1.trans (ret_bool (by simp [tBx])), h2⟩
  intro i hi
  match i, hi with
  | 0, _ => exact ⟨h.cell 0 (cl3_0 _ _ _), h.cell 1 (cl3_1 _ _ _), h.cell 2 (cl3_2 _ _ _)⟩
theorem are2 (g : Nat) (a b c a' b' c' : Int) (w : World) (t : TypeId) (h : Blk w g #[.int .i64 a, .int .i64 b, .int .i64 c, .int .i64 a', .int .i64 b', .int .i64 c'] t) :
    Calls Try.prog 17 #[.slice (some ⟨g, 0, none⟩) 2 2] w fun e w' => e = .returned (.bool (tB a b c && tB a' b' c')) ∧ Below w.heap.size w w' := by
  refine (are_any g 0 [(a, b, c), (a', b', c')] w (by simp) ?_).mono fun e w' ⟨h1, h2⟩ => ⟨h1.trans (ret_bool (by simp [tBx])), h2⟩
  intro i hi
  match i, hi with
  | 0, _ => exact ⟨h.cell 0 rfl, h.cell 1 rfl, h.cell 2 rfl⟩
  | 1, _ => exact ⟨h.cell 3 rfl, h.cell 4 rfl, h.cell 5 rfl⟩

end Go.Proofs.Ytenaklaajdpimaa
