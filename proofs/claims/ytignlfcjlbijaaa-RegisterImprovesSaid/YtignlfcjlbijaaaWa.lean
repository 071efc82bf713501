/- The functions of layer 1 (word) and of its reference, each by a contract: part one, what has no memory but the list that 'words' reads. -/
import Derived.Test.YtignlfcjlbijaaaBa
namespace Go.Proofs.Ytignlfcjlbijaaa
open Go.RowKit

def vB (n : Int) : Bool := decide (-2147483648 ≤ n) && decide (n ≤ 2147483647)
theorem vB_t {a : Int} (h : -2147483648 ≤ a) (h' : a ≤ 2147483647) : vB a = true := by simp [vB, *]
theorem vB_iff {a : Int} : vB a = true ↔ -2147483648 ≤ a ∧ a ≤ 2147483647 := by simp [vB]
theorem ww (n : Int) : wrap64 (wrap32 n) = wrap32 n := by unfold wrap64 wrap32; omega
theorem wrap32_vB (n : Int) : vB (wrap32 n) = true := by rw [vB_iff]; unfold wrap32; omega
theorem wrap32_of_vB {n : Int} (h : vB n = true) : wrap32 n = n := by rw [vB_iff] at h; unfold wrap32; omega

set_option maxHeartbeats 400000 in
theorem valid_any (n : Int) (w : World) :
    Calls Try.prog 28 #[.int .i64 n] w fun e w' => e = .returned (.bool (vB n)) ∧ w = w' := by
  go_enter Try.func28, Try.ntmps28
  by_cases h : -2147483648 ≤ n
  all_goals
    go_wp2
    go_ret
    exact ⟨ret_bool (by simp [vB]; try omega), rfl⟩

set_option maxHeartbeats 400000 in
theorem rvalid_any (n : Int) (w : World) :
    Calls Try.prog 30 #[.int .i64 n] w fun e w' => e = .returned (.bool (vB n)) ∧ w = w' := by
  go_enter Try.func30, Try.ntmps30
  by_cases h : -2147483648 ≤ n
  all_goals
    go_wp2
    go_ret
    exact ⟨ret_bool (by simp [vB]; try omega), rfl⟩

def allV : List Int → Bool
  | [] => true
  | x :: r => vB x && allV r

theorem allV_take_succ (xs : List Int) (k : Nat) (h : k < xs.length) : allV (xs.take (k+1)) = (allV (xs.take k) && vB (xs.getD k 0)) := by
  induction xs generalizing k with
  | nil => simp at h
  | cons x r ih =>
    cases k with
    | zero => simp [allV]
    | succ k => simp at h; simp [allV, ih k (by omega), Bool.and_assoc]

theorem allV_false (xs : List Int) (k : Nat) (h : k < xs.length) (hk : vB (xs.getD k 0) = false) : allV xs = false := by
  induction xs generalizing k with
  | nil => simp at h
  | cons x r ih =>
    cases k with
    | zero => simp at hk; simp [allV, hk]
    | succ k => simp at h hk; simp [allV, ih k (by omega) (by simpa using hk)]

set_option maxHeartbeats 400000 in
theorem words_any (a : Addr) (xs : List Int) (w : World) (h0 : 0 < xs.length) (hl : xs.length ≤ 10) (hc : ∀ i, i < xs.length → w.cell? (a.add i) = some (.int .i64 (xs.getD i 0))) :
    Calls Try.prog 63 #[.slice (some a) xs.length xs.length] w fun e w' => e = .returned (.bool (allV xs)) ∧ w = w' := by
  go_enter Try.func63, Try.ntmps63
  go_wp2
  go_loop [7] (fun i => ∃ k : Nat, k ≤ xs.length ∧ i = .int .i64 k ∧ allV (xs.take k) = true) (fun i => xs.length - (intOf i).toNat)
  case atStart => exact ⟨0, by omega, rfl, rfl⟩
  case round =>
    obtain ⟨k, hk, rfl, ha⟩ := hrel
    by_cases hlt : k < xs.length
    · have hcell := hc k hlt
      have ht := allV_take_succ xs k hlt
      have hf := allV_false xs k hlt
      revert hcell ht hf
      generalize xs.getD k 0 = x
      intro hcell ht hf
      have HT := Lib.hid ht
      have HA := Lib.hid ha
      have HF := Lib.hid hf
      clear ht ha hf hc
      cases hv : vB x
      all_goals
        have HV := Lib.hid hv
        go_wp2_with (go_at_call 28; refine (valid_any _ _).mono ?_; rintro e w' ⟨rfl, rfl⟩)
      · go_ret
        exact ⟨ret_bool (HF.out HV.out).symm, rfl⟩
      · go_round
        case rel => exact ⟨k+1, by omega, by go_num, by rw [HT.out, HA.out, HV.out]; rfl⟩
        case measure => simp [intOf]; omega
    · have he : k = xs.length := by omega
      have HA : Hid (allV xs = true) := by rw [he, List.take_length] at ha; exact Lib.hid ha
      clear ha hc he
      go_wp2
      go_ret
      exact ⟨ret_bool HA.out.symm, rfl⟩

theorem words2 (a b : Int) (ad : Addr) (w : World) (h0 : w.cell? ad = some (.int .i64 a)) (h1 : w.cell? (ad.add 1) = some (.int .i64 b)) :
    Calls Try.prog 63 #[.slice (some ad) 2 2] w fun e w' => e = .returned (.bool (vB a && vB b)) ∧ w = w' := by
  refine (words_any ad [a, b] w (by simp) (by simp) ?_).mono ?_
  · intro i hi
    match i, hi with
    | 0, _ => simpa [Addr.add] using h0
    | 1, _ => simpa using h1
  · rintro e w' ⟨rfl, rfl⟩
    exact ⟨by simp [allV], rfl⟩

theorem words1 (a : Int) (ad : Addr) (w : World) (h0 : w.cell? ad = some (.int .i64 a)) :
    Calls Try.prog 63 #[.slice (some ad) 1 1] w fun e w' => e = .returned (.bool (vB a)) ∧ w = w' := by
  refine (words_any ad [a] w (by simp) (by simp) ?_).mono ?_
  · intro i hi
    match i, hi with
    | 0, _ => simpa [Addr.add] using h0
  · rintro e w' ⟨rfl, rfl⟩
    exact ⟨by simp [allV], rfl⟩

set_option maxHeartbeats 400000 in
theorem wrap_any (n : Int) (w : World) : Calls Try.prog 60 #[.int .i64 n] w fun e w' => e = .returned (.int .i64 (wrap32 n)) ∧ w = w' := by
  go_enter Try.func60, Try.ntmps60
  go_wp2
  go_ret
  exact ⟨ret_i64 (ww n), rfl⟩

def satV (n : Int) : Int := max (-2147483648) (min n 2147483647)
theorem satV_vB (n : Int) : vB (satV n) = true := by rw [vB_iff]; unfold satV; omega
theorem satV_of_vB {n : Int} (h : vB n = true) : satV n = n := by rw [vB_iff] at h; unfold satV; omega

def res (n : Int) : Int := n % 4294967296
set_option maxHeartbeats 400000 in
theorem residue_any (n : Int) (w : World) : Calls Try.prog 66 #[.int .i64 n] w fun e w' => e = .returned (.int .i64 (res n)) ∧ w = w' := by
  have ht : n.tmod 4294967296 = if 0 ≤ n then n % 4294967296 else -((-n) % 4294967296) := by
    split
    · exact Int.tmod_eq_emod_of_nonneg (by assumption)
    · have := Int.neg_tmod (a := -n) (b := 4294967296); rw [Int.neg_neg] at this; rw [this, Int.tmod_eq_emod_of_nonneg (by omega)]
  by_cases hneg : n.tmod 4294967296 < 0
  all_goals
    obtain ⟨x, hx⟩ : ∃ x, n.tmod 4294967296 = x := ⟨_, rfl⟩
    rw [hx] at hneg ht
    have b1 : -4294967296 < x ∧ x < 4294967296 := by rw [ht]; split <;> omega
    have b2 : res n = if x < 0 then x + 4294967296 else x := by unfold res; rw [ht]; split <;> split <;> omega
    have HB := Lib.hid b2
    clear b2 ht
    go_enter Try.func66, Try.ntmps66
    go_wp2
    go_ret
    exact ⟨ret_i64 (by rw [HB.out]; split <;> omega), rfl⟩

theorem res_wrap (n : Int) : wrap32 n = if 2147483648 ≤ res n then res n - 4294967296 else res n := by
  unfold wrap32 res; split <;> omega
theorem res_range (n : Int) : 0 ≤ res n ∧ res n < 4294967296 := by unfold res; omega

set_option maxHeartbeats 400000 in
theorem rwrap_any (n : Int) (w : World) : Calls Try.prog 64 #[.int .i64 n] w fun e w' => e = .returned (.int .i64 (wrap32 n)) ∧ w = w' := by
  have h1 := res_wrap n
  obtain ⟨h2, h3⟩ := res_range n
  have H1 := Lib.hid h1
  have R := residue_any n w
  have HR := Lib.hid R
  clear h1 R
  by_cases h : 2147483648 ≤ res n
  all_goals
    have HH := Lib.hid h
    go_enter Try.func64, Try.ntmps64
    go_wp2_with (go_at_call 66; refine HR.out.mono ?_; rintro e w' ⟨rfl, rfl⟩)
    go_ret
    exact ⟨ret_i64 (by rw [H1.out]; have := HH.out; split <;> omega), rfl⟩

end Go.Proofs.Ytignlfcjlbijaaa
