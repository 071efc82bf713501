/- What is told of triples, their pages and multiples: layer 17's functions and those of its reference, each by a contract. -/
import Derived.Test.YtenaklaajdpimaaLb
import Derived.Deep.QuietTactic
import Derived.BigQuiet
namespace Go.Proofs.Ytenaklaajdpimaa
open Go.RowKit

theorem Blk.c3 {w : World} {B : Nat} {a b c : Int} {t : TypeId} (h : Blk w B (cl3 a b c) t) : w.cell? ⟨B, 0, none⟩ = some (.int .i64 a) ∧ w.cell? ⟨B, 1, none⟩ = some (.int .i64 b) ∧ w.cell? ⟨B, 2, none⟩ = some (.int .i64 c) :=
  ⟨h.cell 0 (cl3_0 _ _ _), h.cell 1 (cl3_1 _ _ _), h.cell 2 (cl3_2 _ _ _)⟩
theorem Blk.f3 {w : World} {B : Nat} {a b c : Int} {t : TypeId} (h : Blk w B (cl3 a b c) t) : w.frozen? ⟨B, 0, none⟩ = false ∧ w.frozen? ⟨B, 1, none⟩ = false ∧ w.frozen? ⟨B, 2, none⟩ = false :=
  ⟨h.frozen 0, h.frozen 1, h.frozen 2⟩

/-- one of the numbers is too large -/
def bigB (a b c : Int) : Bool := decide (1000000000 < a ∨ 1000000000 < b ∨ 1000000000 < c)
theorem bigB_t {a b c : Int} (h : bigB a b c = true) : 1000000000 < a ∨ 1000000000 < b ∨ 1000000000 < c := by simpa [bigB] using h
theorem bigB_f {a b c : Int} (h : bigB a b c = false) : a ≤ 1000000000 ∧ b ≤ 1000000000 ∧ c ≤ 1000000000 := by
  have : ¬ (1000000000 < a ∨ 1000000000 < b ∨ 1000000000 < c) := by simpa [bigB] using h
  omega

set_option maxHeartbeats 1000000 in
theorem rtriple_any (a b c : Int) (w : World) :
    Calls Try.prog 21 #[.agg #[.int .i64 a, .int .i64 b, .int .i64 c]] w fun e w' => e = .returned (.bool (tB a b c)) ∧ Below w.heap.size w w' := by
  obtain ⟨T, hT⟩ : ∃ T, T = tB a b c := ⟨_, rfl⟩
  have HT := Lib.hid hT
  rw [← hT]
  clear hT
  go_enter Try.func21, Try.ntmps21
  go_wp2
  go_loop [3] (fun i => i = .int .i64 0 ∨ (i = .int .i64 1 ∧ 0 ≤ a ∧ a ≤ 1000000000) ∨ (i = .int .i64 2 ∧ 0 ≤ a ∧ a ≤ 1000000000 ∧ 0 ≤ b ∧ b ≤ 1000000000) ∨ (i = .int .i64 3 ∧ 0 ≤ a ∧ a ≤ 1000000000 ∧ 0 ≤ b ∧ b ≤ 1000000000 ∧ 0 ≤ c ∧ c ≤ 1000000000)) (fun i => 3 - (intOf i).toNat)
  case atStart => exact .inl rfl
  case round =>
    rcases hrel with rfl | ⟨rfl, a0, a1⟩ | ⟨rfl, a0, a1, b0, b1⟩ | ⟨rfl, a0, a1, b0, b1, c0, c1⟩
    · rcases (show a < 0 ∨ (0 ≤ a ∧ 1000000000 < a) ∨ (0 ≤ a ∧ a ≤ 1000000000) by omega) with h | ⟨h, h'⟩ | ⟨h, h'⟩
      · go_wp2
        go_ret
        exact ⟨ret_bool (by rw [HT.out]; exact (tB_not.2 (by omega)).symm), (Below.refl _ _).alloc (Nat.le_refl _) _⟩
      · go_wp2
        go_ret
        exact ⟨ret_bool (by rw [HT.out]; exact (tB_not.2 (by omega)).symm), (Below.refl _ _).alloc (Nat.le_refl _) _⟩
      · go_wp2
        go_round
        case rel => exact .inr (.inl ⟨rfl, h, h'⟩)
        case measure => simp [intOf]
    · rcases (show b < 0 ∨ (0 ≤ b ∧ 1000000000 < b) ∨ (0 ≤ b ∧ b ≤ 1000000000) by omega) with h | ⟨h, h'⟩ | ⟨h, h'⟩
      · go_wp2
        go_ret
        exact ⟨ret_bool (by rw [HT.out]; exact (tB_not.2 (by omega)).symm), (Below.refl _ _).alloc (Nat.le_refl _) _⟩
      · go_wp2
        go_ret
        exact ⟨ret_bool (by rw [HT.out]; exact (tB_not.2 (by omega)).symm), (Below.refl _ _).alloc (Nat.le_refl _) _⟩
      · go_wp2
        go_round
        case rel => exact .inr (.inr (.inl ⟨rfl, a0, a1, h, h'⟩))
        case measure => simp [intOf]
    · rcases (show c < 0 ∨ (0 ≤ c ∧ 1000000000 < c) ∨ (0 ≤ c ∧ c ≤ 1000000000) by omega) with h | ⟨h, h'⟩ | ⟨h, h'⟩
      · go_wp2
        go_ret
        exact ⟨ret_bool (by rw [HT.out]; exact (tB_not.2 (by omega)).symm), (Below.refl _ _).alloc (Nat.le_refl _) _⟩
      · go_wp2
        go_ret
        exact ⟨ret_bool (by rw [HT.out]; exact (tB_not.2 (by omega)).symm), (Below.refl _ _).alloc (Nat.le_refl _) _⟩
      · go_wp2
        go_round
        case rel => exact .inr (.inr (.inr ⟨rfl, a0, a1, b0, b1, h, h'⟩))
        case measure => simp [intOf]
    · go_wp2
      go_ret
      exact ⟨ret_bool (by rw [HT.out]; exact (tB_iff.2 ⟨a0, a1, b0, b1, c0, c1⟩).symm), (Below.refl _ _).alloc (Nat.le_refl _) _⟩

/-- A triple and an error, returned. -/
def Ret4 (x y z e : Int) (w : World) (en : Ending) (w' : World) : Prop :=
  en = .returned (.tuple #[.agg #[.int .i64 x, .int .i64 y, .int .i64 z], .int .i64 e]) ∧ Below w.heap.size w w'

theorem ret4_end {F : Nat} {fn : Func} {r : Nat} {w w' : World} {a : Act} {s : Nat} {x y z e : Int} (hres : fn.results = #[.cell r 22, .tmp s]) (hr : a.tmps[r]?.getD undef = .pointer (some ⟨F, 0, none⟩)) (hs : a.tmps[s]?.getD undef = .int .i64 e) (hd : a.defers = [])
    (h0 : w'.cell? ⟨F, 0, none⟩ = some (.int .i64 x)) (h1 : w'.cell? ⟨F, 1, none⟩ = some (.int .i64 y)) (h2 : w'.cell? ⟨F, 2, none⟩ = some (.int .i64 z)) (hb : Below w.heap.size w w') :
    bodyPost Try.prog fn (Ret4 x y z e w) .ret a w' :=
  bodyPost_ret (v := .tuple #[.agg #[.int .i64 x, .int .i64 y, .int .i64 z], .int .i64 e]) (by simp [results, hres, go_sem, hr, hs, h0, h1, h2]) hd ⟨rfl, hb⟩

set_option maxHeartbeats 1000000 in
theorem told_small (a b c : Int) (w : World) (h : bigB a b c = false) :
    Calls Try.prog 18 #[.agg #[.int .i64 a, .int .i64 b, .int .i64 c], .bool true] w (Ret4 a b c 0 w) := by
  have hm : max3 a b c ≤ 1000000000 := by have := bigB_f h; unfold max3; omega
  clear h
  go_enter Try.func18, Try.ntmps18
  go_wp2_with (go_at_call 31; refine (smax_any _ _ a b c _ (by simp [go_sem]) (by simp [go_sem]) (by simp [go_sem])).mono ?_; rintro e w' ⟨rfl, rfl⟩)
  exact ret4_end (F := w.heap.size + 1) Try.results18 rfl rfl rfl (by simp [go_sem]) (by simp [go_sem]) (by simp [go_sem]) (((Below.refl _ _).alloc (Nat.le_refl _) _).alloc (by simp) _)
set_option maxHeartbeats 1000000 in
theorem told_big (a b c : Int) (w : World) (h : bigB a b c = true) :
    Calls Try.prog 18 #[.agg #[.int .i64 a, .int .i64 b, .int .i64 c], .bool true] w (Ret4 0 0 0 6 w) := by
  have hm : 1000000000 < max3 a b c := by have := bigB_t h; unfold max3; omega
  clear h
  go_enter Try.func18, Try.ntmps18
  go_wp2_with (go_at_call 31; refine (smax_any _ _ a b c _ (by simp [go_sem]) (by simp [go_sem]) (by simp [go_sem])).mono ?_; rintro e w' ⟨rfl, rfl⟩)
  exact ret4_end (F := w.heap.size + 1) Try.results18 rfl rfl rfl (by simp [go_sem]) (by simp [go_sem]) (by simp [go_sem]) (((Below.refl _ _).alloc (Nat.le_refl _) _).alloc (by simp) _)

set_option maxHeartbeats 1000000 in
theorem rtold_any (a b c : Int) (w : World) :
    Calls Try.prog 22 #[.agg #[.int .i64 a, .int .i64 b, .int .i64 c]] w (fun e w' => (bigB a b c = false → Ret4 a b c 0 w e w') ∧ (bigB a b c = true → Ret4 0 0 0 6 w e w')) := by
  cases hb : bigB a b c
  · obtain ⟨a1, b1, c1⟩ := bigB_f hb
    have : Calls Try.prog 22 #[.agg #[.int .i64 a, .int .i64 b, .int .i64 c]] w (Ret4 a b c 0 w) := by
      clear hb
      go_enter Try.func22, Try.ntmps22
      go_wp2
      go_loop [4] (fun i => i = .int .i64 0 ∨ i = .int .i64 1 ∨ i = .int .i64 2 ∨ i = .int .i64 3) (fun i => 3 - (intOf i).toNat)
      case atStart => exact .inl rfl
      case round =>
        rcases hrel with rfl | rfl | rfl | rfl
        · go_wp2
          go_round
          case rel => exact .inr (.inl rfl)
          case measure => simp [intOf]
        · go_wp2
          go_round
          case rel => exact .inr (.inr (.inl rfl))
          case measure => simp [intOf]
        · go_wp2
          go_round
          case rel => exact .inr (.inr (.inr rfl))
          case measure => simp [intOf]
        · go_wp2
          exact ret4_end (F := w.heap.size + 1) Try.results22 rfl rfl rfl (by simp [go_sem]) (by simp [go_sem]) (by simp [go_sem]) (((Below.refl _ _).alloc (Nat.le_refl _) _).alloc (by simp) _)
    exact this.mono fun e w' h => ⟨fun _ => h, fun h => by cases h⟩
  · have : Calls Try.prog 22 #[.agg #[.int .i64 a, .int .i64 b, .int .i64 c]] w (Ret4 0 0 0 6 w) := by
      have HB := Lib.hid (bigB_t hb)
      clear hb
      go_enter Try.func22, Try.ntmps22
      go_wp2
      go_loop [4] (fun i => i = .int .i64 0 ∨ (i = .int .i64 1 ∧ a ≤ 1000000000) ∨ (i = .int .i64 2 ∧ a ≤ 1000000000 ∧ b ≤ 1000000000)) (fun i => 3 - (intOf i).toNat)
      case atStart => exact .inl rfl
      case round =>
        rcases hrel with rfl | ⟨rfl, a1⟩ | ⟨rfl, a1, b1⟩
        · by_cases h : a ≤ 1000000000
          · go_wp2
            go_round
            case rel => exact .inr (.inl ⟨rfl, h⟩)
            case measure => simp [intOf]
          · go_wp2
            exact ret4_end (F := w.heap.size + 1) Try.results22 rfl rfl rfl (by simp [go_sem]) (by simp [go_sem]) (by simp [go_sem]) (((Below.refl _ _).alloc (Nat.le_refl _) _).alloc (by simp) _)
        · by_cases h : b ≤ 1000000000
          · go_wp2
            go_round
            case rel => exact .inr (.inr ⟨rfl, a1, h⟩)
            case measure => simp [intOf]
          · go_wp2
            exact ret4_end (F := w.heap.size + 1) Try.results22 rfl rfl rfl (by simp [go_sem]) (by simp [go_sem]) (by simp [go_sem]) (((Below.refl _ _).alloc (Nat.le_refl _) _).alloc (by simp) _)
        · have h : 1000000000 < c := by have := HB.out; omega
          go_wp2
          exact ret4_end (F := w.heap.size + 1) Try.results22 rfl rfl rfl (by simp [go_sem]) (by simp [go_sem]) (by simp [go_sem]) (((Below.refl _ _).alloc (Nat.le_refl _) _).alloc (by simp) _)
    exact this.mono fun e w' h => ⟨(fun h => by cases h), fun _ => h⟩

/-- the pages of three numbers of blocks -/
def pgV (a b c : Int) : Int := (a + 7) / 8 + (b + 3) / 4 + (c + 1) / 2
set_option maxHeartbeats 1000000 in
theorem rpages_any (a b c : Int) (w : World) (h : tB a b c = true) :
    Calls Try.prog 27 #[.agg #[.int .i64 a, .int .i64 b, .int .i64 c]] w fun e w' => e = .returned (.int .i64 (pgV a b c)) ∧ Below w.heap.size w w' := by
  obtain ⟨a0, a1, b0, b1, c0, c1⟩ := tB_iff.1 h
  clear h
  go_enter Try.func27, Try.ntmps27
  go_wp2
  go_ret
  exact ⟨rfl, (Below.refl _ _).alloc (Nat.le_refl _) _⟩
set_option maxHeartbeats 1000000 in
theorem pages_ok (a b c : Int) (w : World) (h : tB a b c = true) :
    Calls Try.prog 10 #[.agg #[.int .i64 a, .int .i64 b, .int .i64 c]] w fun e w' => e = .returned (.tuple #[.int .i64 (pgV a b c), .int .i64 0]) ∧ Below w.heap.size w w' := by
  obtain ⟨a0, a1, b0, b1, c0, c1⟩ := tB_iff.1 h
  go_enter Try.func10, Try.ntmps10
  go_wp2_with (go_at_call 17; refine (are1 _ a b c _ (Blk.new' _ _ (by simp))).mono ?_; rintro e w1 ⟨rfl, hb1⟩; have hq := (((Blk.new w (cl3 a b c) 22).alloc _).old hb1).c3; obtain ⟨q0, q1, q2⟩ := hq)
  go_ret2
  exact ⟨ret_two (by unfold pgV; omega) rfl, bthen (((Below.refl _ _).alloc (Nat.le_refl _) _).alloc (by simp) _) hb1⟩
set_option maxHeartbeats 1000000 in
theorem pages_no (a b c : Int) (w : World) (h : tB a b c = false) :
    Calls Try.prog 10 #[.agg #[.int .i64 a, .int .i64 b, .int .i64 c]] w fun e w' => e = .returned (.tuple #[.int .i64 0, .int .i64 1]) ∧ Below w.heap.size w w' := by
  go_enter Try.func10, Try.ntmps10
  go_wp2_with (go_at_call 17; refine (are1 _ a b c _ (Blk.new' _ _ (by simp))).mono ?_; rintro e w1 ⟨rfl, hb1⟩)
  go_ret2
  exact ⟨rfl, bthen (((Below.refl _ _).alloc (Nat.le_refl _) _).alloc (by simp) _) hb1⟩
set_option maxHeartbeats 1000000 in
theorem rPages_ok (a b c : Int) (w : World) (h : tB a b c = true) :
    Calls Try.prog 11 #[.agg #[.int .i64 a, .int .i64 b, .int .i64 c]] w fun e w' => e = .returned (.tuple #[.int .i64 (pgV a b c), .int .i64 0]) ∧ Below w.heap.size w w' := by
  have hp : pgV a b c ≤ 1000000000 := by have := tB_iff.1 h; unfold pgV; omega
  go_enter Try.func11, Try.ntmps11
  go_wp2_with (first | (go_at_call 21; refine (rtriple_any a b c _).mono ?_; rintro e w1 ⟨rfl, hb1⟩; have hq := ((Blk.new w (cl3 a b c) 22).old hb1).c3; obtain ⟨q0, q1, q2⟩ := hq))
  refine (rpages_any a b c _ h).mono ?_
  rintro e w2 ⟨rfl, hb2⟩
  have hq := (((Blk.new w (cl3 a b c) 22).old hb1).old hb2).c3
  obtain ⟨r0, r1, r2⟩ := hq
  go_wp2_with fail
  refine (rpages_any a b c _ h).mono ?_
  rintro e w3 ⟨rfl, hb3⟩
  go_wp2_with fail
  go_ret2
  exact ⟨rfl, bthen (bthen (bthen ((Below.refl _ _).alloc (Nat.le_refl _) _) hb1) hb2) hb3⟩
set_option maxHeartbeats 1000000 in
theorem rPages_no (a b c : Int) (w : World) (h : tB a b c = false) :
    Calls Try.prog 11 #[.agg #[.int .i64 a, .int .i64 b, .int .i64 c]] w fun e w' => e = .returned (.tuple #[.int .i64 0, .int .i64 1]) ∧ Below w.heap.size w w' := by
  go_enter Try.func11, Try.ntmps11
  go_wp2_with (first | (go_at_call 21; refine (rtriple_any a b c _).mono ?_; rintro e w1 ⟨rfl, hb1⟩))
  go_ret2
  exact ⟨rfl, bthen ((Below.refl _ _).alloc (Nat.le_refl _) _) hb1⟩

end Go.Proofs.Ytenaklaajdpimaa
