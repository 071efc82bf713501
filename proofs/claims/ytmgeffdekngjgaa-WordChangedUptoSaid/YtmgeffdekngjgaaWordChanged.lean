/- The walk of WordChanged: one byte that is changed changes the sum. -/
import Derived.Test.YtmgeffdekngjgaaWordSums
namespace Go.Proofs.Ytmgeffdekngjgaa
open Go.RowKit

theorem xor_same (x y : BitVec 8) (h : x ^^^ y = x) : y = 0#8 := by
  have h2 := congrArg (fun t => x ^^^ t) h
  simpa [← BitVec.xor_assoc] using h2
theorem xor_byte (a b : Int) (a0 : 0 ≤ a) (a1 : a ≤ 255) (b0 : 0 ≤ b) (b1 : b ≤ 255) (hb : b ≠ 0) :
    bits BinOp.xor IntKind.u8 a b ≠ a ∧ 0 ≤ bits BinOp.xor IntKind.u8 a b ∧ bits BinOp.xor IntKind.u8 a b ≤ 255 := by
  have e : bits BinOp.xor IntKind.u8 a b = IntKind.u8.wrap ((BitVec.ofInt 8 a ^^^ BitVec.ofInt 8 b).toNat : Int) := rfl
  have hlt := (BitVec.ofInt 8 a ^^^ BitVec.ofInt 8 b).isLt
  have e2 : bits BinOp.xor IntKind.u8 a b = ((BitVec.ofInt 8 a ^^^ BitVec.ofInt 8 b).toNat : Int) := by
    rw [e]; exact IntWalk.u8_in _ (by omega)
  refine ⟨fun h => hb ?_, by omega, by omega⟩
  have h3 : (BitVec.ofInt 8 a ^^^ BitVec.ofInt 8 b) = BitVec.ofInt 8 a := by
    apply BitVec.eq_of_toNat_eq
    have ha : (BitVec.ofInt 8 a).toNat = a.toNat := by rw [BitVec.toNat_ofInt]; omega
    rw [ha]; omega
  have h4 := congrArg BitVec.toNat (xor_same _ _ h3)
  rw [BitVec.toNat_ofInt] at h4
  simp at h4
  omega
theorem and_mask (k : Int) : 0 ≤ bits BinOp.and IntKind.i64 k 1073741823 ∧ bits BinOp.and IntKind.i64 k 1073741823 ≤ 1073741823 := by
  have e : bits BinOp.and IntKind.i64 k 1073741823 = IntKind.i64.wrap ((BitVec.ofInt 64 k &&& BitVec.ofInt 64 1073741823).toNat : Int) := rfl
  have h : (BitVec.ofInt 64 k &&& BitVec.ofInt 64 1073741823).toNat ≤ 1073741823 := by
    rw [BitVec.toNat_and]; exact Nat.le_trans Nat.and_le_right (by decide)
  rw [e, IntWalk.i64_in _ (by omega)]
  omega

theorem step_inj {s t c : Int} (hs : 0 ≤ s ∧ s ≤ 65520) (ht : 0 ≤ t ∧ t ≤ 65520) (h : (s * 257 + c + 1) % 65521 = (t * 257 + c + 1) % 65521) : s = t := by omega
theorem sumF_inj {s t : Int} (l : List Int) (hs : 0 ≤ s ∧ s ≤ 65520) (ht : 0 ≤ t ∧ t ≤ 65520) (h : sumF s l = sumF t l) : s = t := by
  induction l generalizing s t with
  | nil => exact h
  | cons c r ih => exact step_inj hs ht (ih (s := (s * 257 + c + 1) % 65521) (t := (t * 257 + c + 1) % 65521) (by omega) (by omega) h)
theorem sumF_set (s : Int) (hs : 0 ≤ s ∧ s ≤ 65520) (l : List Int) (i : Nat) (hi : i < l.length) (z : Int) (hb : IsB l) (hz : 0 ≤ z ∧ z ≤ 255) (hne : z ≠ l.getD i 0) :
    sumF s (l.set i z) ≠ sumF s l := by
  induction l generalizing s i with
  | nil => simp at hi
  | cons c r ih =>
    cases i with
    | zero =>
      intro h
      have hc := hb 0 (by simp)
      simp at hc hne
      have h' : sumF ((s * 257 + z + 1) % 65521) r = sumF ((s * 257 + c + 1) % 65521) r := h
      have := sumF_inj r (by omega) (by omega) h'
      omega
    | succ i =>
      have hb' : IsB r := fun j hj => by have := hb (j + 1) (by simpa using hj); simpa using this
      exact ih ((s * 257 + c + 1) % 65521) (by omega) i (by simpa using hi) hb' (by simpa using hne)
theorem isB_set {l : List Int} (h : IsB l) (i : Nat) (z : Int) (hz : 0 ≤ z ∧ z ≤ 255) : IsB (l.set i z) := by
  intro j hj
  rw [List.length_set] at hj
  have := h j hj
  rw [List.getD_eq_getElem?_getD, List.getElem?_set]
  split
  · split
    · exact hz
    · simp
  · rwa [List.getD_eq_getElem?_getD] at this

set_option maxHeartbeats 1000000 in
theorem wordChanged_walk (n : Int) (a1 : Option Addr) (c1 : Nat) (z1 : List Int) (k : Int) (by' : Int) (w : World)
    (s1 : Sl .u8 w a1 z1 ∧ (a1 = none → c1 = 0)) (b1 : IsB z1) (l1 : z1.length ≤ 1048576) (y1 : 0 ≤ by') (y2 : by' ≤ 255) :
    Calls Try.prog 4 #[.int .i64 n, .slice a1 z1.length c1, .int .i64 k, .int .u8 by'] w fun e w' => e = .returned (.bool true) ∧ Below w.heap.size w w' := by
  by_cases h0 : z1.length = 0
  · have h1 : ((z1.length : Int) == 0) = true := by simp [h0]
    clear s1 b1 l1
    have H0 := Lib.hid h0
    clear h0
    go_enter Try.func4, Try.ntmps4
    go_wp2_with (go_at_call 13; refine (sane_any _).mono ?_; rintro e w3 ⟨rfl, hb3⟩)
    go_ret
    exact ⟨rfl, hb3⟩
  have h0' : ((z1.length : Int) == 0) = false := by simp; intro h; simp [h] at h0
  have h0'' : 0 < z1.length := by omega
  clear h0
  by_cases hby : by' = 0
  · subst hby
    clear s1 b1 l1
    go_enter Try.func4, Try.ntmps4
    go_wp2_with (go_at_call 13; refine (sane_any _).mono ?_; rintro e w3 ⟨rfl, hb3⟩)
    go_ret
    exact ⟨rfl, hb3⟩
  have hbz : (by' == 0) = false := by simpa using hby
  obtain ⟨q1, q2⟩ := and_mask k
  obtain ⟨i, hi⟩ : ∃ i : Nat, (bits BinOp.and IntKind.i64 k 1073741823).tmod z1.length = i := by
    refine ⟨((bits BinOp.and IntKind.i64 k 1073741823).tmod z1.length).toNat, ?_⟩
    have := Int.tmod_nonneg (z1.length : Int) q1
    omega
  have hlt : i < z1.length := by
    have := Int.tmod_lt_of_pos (bits BinOp.and IntKind.i64 k 1073741823) (b := (z1.length : Int)) (by omega)
    omega
  clear q1 q2
  obtain ⟨d1, d2⟩ := b1 i hlt
  obtain ⟨x1, x2, x3⟩ := xor_byte _ _ d1 d2 y1 y2 hby
  have hq : (sumF (n % 65521) (z1.set i (bits BinOp.xor IntKind.u8 (z1.getD i 0) by')) != sumF (n % 65521) z1) = true := by
    simpa using sumF_set (n % 65521) (by omega) z1 i hlt _ b1 ⟨x2, x3⟩ x1
  have HB := Lib.hid (isB_set b1 i _ ⟨x2, x3⟩)
  have hgl : z1[i]? = some (z1.getD i 0) := by simp [hlt]
  have HG := Lib.hid hgl
  clear hgl
  revert hq HB HG
  generalize z1.getD i 0 = z at *
  generalize hx : bits BinOp.xor IntKind.u8 z by' = x at *
  intro hq HB HG
  have S1 := Lib.hid s1
  have B1 := Lib.hid b1
  clear s1 b1 hby
  go_enter Try.func4, Try.ntmps4
  go_wp2_with (first
    | (at_builtin; refine wpList_append_sl rfl (.tmp 18) (.tmp 19) 22 rfl w.heap.size 5 1 1 el_bytes (.slice (some ⟨w.heap.size, 0, none⟩) 0 0) 0 [] rfl (World.ownsRow_made _ #[] 0 (Nat.le_refl _) (by decide) rfl) a1 z1.length c1 (z1.map (.int .u8)) rfl ((SlA.of_ints S1.out.1 S1.out.2).alloc _) (one_ints _ _) (by omega) (by unfold maxLen; omega) (by simp) ?_; intro ao1 cp1 w1 hown1 hg1; simp only [Nat.zero_add, List.nil_append] at hown1; have hb1 := Lib.hid (((Below.refl w.heap.size w).alloc (Nat.le_refl _) _).grown hg1 (by simp) (by intro k hk; simp [Value.ownBlock] at hk; omega)); obtain ⟨g, hg⟩ := ownsRow_some hown1 h0''; rw [hg] at hown1 ⊢; have hc1 := hown1.cellAt i (by omega); rw [List.getElem?_map, HG.out] at hc1; simp only [Option.map_some] at hc1; have hf1 := hown1.frozenAt i; have hown1' := Lib.hid hown1; clear hown1 hg1 hg))
  obtain ⟨hst, hgr⟩ := hown1'.out.stored i (.int .u8 x)
  rw [← List.map_set] at hst
  have hb2 := hb1.out.grown hgr hb1.out.size (fun k hk => (hown1'.out.lt k hk).1)
  have hs := (ownsRow_slA hst).2.ints.2
  refine (sum_len _ _ _ _ (z1.set i x) _ (by simp) hs HB.out (by simp; unfold maxLen; omega)).mono ?_
  clear hs hst hgr
  have HB2 := Lib.hid hb2
  clear hb2
  rintro e w' ⟨rfl, rfl⟩
  go_wp2_with fail
  refine (sum_any _ _ _ _ _ (S1.out.1.below HB2.out) B1.out (by unfold maxLen; omega)).mono ?_
  rintro e w' ⟨rfl, rfl⟩
  go_wp2_with (go_at_call 13; refine (sane_any _).mono ?_; rintro e w3 ⟨rfl, hb3⟩)
  go_ret
  exact ⟨rfl, bthen HB2.out hb3⟩

end Go.Proofs.Ytmgeffdekngjgaa
