/- Sums, bytes, shifts and bits of layer 1 and of its reference, each function by a contract. -/
import Derived.Test.YtmgeffdekngjgaaWc
namespace Go.Proofs.Ytmgeffdekngjgaa
open Go.RowKit

def sumF (s : Int) (l : List Int) : Int := l.foldl (fun s c => (s * 257 + c + 1) % 65521) s
theorem sumF_take (s : Int) (l : List Int) (k : Nat) (h : k < l.length) : sumF s (l.take (k+1)) = (sumF s (l.take k) * 257 + l.getD k 0 + 1) % 65521 := by
  rw [take_snoc l k h]; simp [sumF]
theorem sumF_range (s : Int) (l : List Int) (hs : 0 ≤ s ∧ s ≤ 65520) : 0 ≤ sumF s l ∧ sumF s l ≤ 65520 := by
  induction l generalizing s with
  | nil => exact hs
  | cons x r ih => show 0 ≤ sumF ((s * 257 + x + 1) % 65521) r ∧ sumF ((s * 257 + x + 1) % 65521) r ≤ 65520; exact ih _ (by omega)
theorem sumF_append (s : Int) (l r : List Int) : sumF s (l ++ r) = sumF (sumF s l) r := by simp [sumF]
theorem start_eq (n : Int) : (n.tmod 65521 + 65521) % 65521 = n % 65521 ∧ -65521 < n.tmod 65521 ∧ n.tmod 65521 < 65521 := by
  have ht : n.tmod 65521 = if 0 ≤ n then n % 65521 else -((-n) % 65521) := by
    split
    · exact Int.tmod_eq_emod_of_nonneg (by assumption)
    · have := Int.neg_tmod (a := -n) (b := 65521); rw [Int.neg_neg] at this; rw [this, Int.tmod_eq_emod_of_nonneg (by omega)]
  have h2 : -65521 < n.tmod 65521 ∧ n.tmod 65521 < 65521 := by rw [ht]; split <;> omega
  refine ⟨?_, h2⟩
  rw [ht]; split <;> omega

set_option maxHeartbeats 400000 in
theorem sum_any (n : Int) (a : Option Addr) (cap : Nat) (zs : List Int) (w : World) (hc : Sl .u8 w a zs) (hb : IsB zs) (hl : zs.length ≤ maxLen) :
    Calls Try.prog 11 #[.int .i64 n, .slice a zs.length cap] w fun e w' => e = .returned (.int .i64 (sumF (n % 65521) zs)) ∧ w = w' := by
  unfold maxLen at hl
  obtain ⟨s1, s2, s3⟩ := start_eq n
  have S1 := Lib.hid s1
  clear s1
  have R : ∀ l, 0 ≤ sumF (n % 65521) l ∧ sumF (n % 65521) l ≤ 65520 := fun l => sumF_range _ l (by omega)
  have HR := Lib.hid R
  clear R
  have hs := Lib.hid (sumF_take (n % 65521) zs)
  have HC := Lib.hid hc
  have HB := Lib.hid hb
  clear hc hb
  go_enter Try.func11, Try.ntmps11
  go_wp2
  go_loop [5, 14] (fun s i => ∃ k : Nat, k ≤ zs.length ∧ i = .int .i64 k ∧ s = .int .i64 (sumF (n % 65521) (zs.take k))) (fun _ i => zs.length - (intOf i).toNat)
  case atStart => exact ⟨0, by omega, rfl, by have h := S1.out; simp only [List.take_zero, sumF, List.foldl_nil]; rw [h]⟩
  case round =>
    obtain ⟨k, hk, rfl, rfl⟩ := hrel
    by_cases hlt : k < zs.length
    · obtain ⟨ad, rfl, hcell⟩ := HC.out k hlt
      have HT := Lib.hid (hs.out k hlt)
      obtain ⟨z1, z2⟩ := HB.out k hlt
      obtain ⟨q1, q2⟩ := HR.out (zs.take k)
      revert hcell HT z1 z2 q1 q2
      generalize zs.getD k 0 = z
      generalize hq : sumF (n % 65521) (zs.take k) = q
      clear hq
      intro hcell HT z1 z2 q1 q2
      go_wp2
      go_round
      case rel => exact ⟨k+1, by omega, by go_num, by rw [HT.out]⟩
      case measure => simp [intOf]; omega
    · have he : k = zs.length := by omega
      have HK := Lib.hid he
      clear he
      go_wp2
      go_ret
      exact ⟨ret_i64 (by rw [HK.out, List.take_length]), rfl⟩

set_option maxHeartbeats 400000 in
theorem rsum_any (n : Int) (a : Option Addr) (cap : Nat) (zs : List Int) (w : World) (hc : Sl .u8 w a zs) (hb : IsB zs) (hl : zs.length ≤ maxLen) :
    Calls Try.prog 12 #[.int .i64 n, .slice a zs.length cap] w fun e w' => e = .returned (.int .i64 (sumF (n % 65521) zs)) ∧ w = w' := by
  unfold maxLen at hl
  have s1 : n % 65521 = if n.tmod 65521 < 0 then n.tmod 65521 + 65521 else n.tmod 65521 := by
    have h := start_eq n
    split <;> omega
  obtain ⟨_, s2, s3⟩ := start_eq n
  have S1 := Lib.hid s1
  clear s1
  have R : ∀ l, 0 ≤ sumF (n % 65521) l ∧ sumF (n % 65521) l ≤ 65520 := fun l => sumF_range _ l (by omega)
  have HR := Lib.hid R
  clear R
  have hs := Lib.hid (sumF_take (n % 65521) zs)
  have HC := Lib.hid hc
  have HB := Lib.hid hb
  clear hc hb
  by_cases hneg : n.tmod 65521 < 0
  all_goals
    go_enter Try.func12, Try.ntmps12
    go_wp2
    go_loop [5, 6] (fun s i => ∃ k : Nat, k ≤ zs.length ∧ i = .int .i64 k ∧ s = .int .i64 (sumF (n % 65521) (zs.take k))) (fun _ i => zs.length - (intOf i).toNat)
    case atStart => exact ⟨0, by omega, rfl, by have h := S1.out; simp only [List.take_zero, sumF, List.foldl_nil]; congr 1; rw [h]; split <;> omega⟩
    case round =>
      obtain ⟨k, hk, rfl, rfl⟩ := hrel
      by_cases hlt : k < zs.length
      · obtain ⟨ad, rfl, hcell⟩ := HC.out k hlt
        have HT := Lib.hid (hs.out k hlt)
        obtain ⟨z1, z2⟩ := HB.out k hlt
        obtain ⟨q1, q2⟩ := HR.out (zs.take k)
        revert hcell HT z1 z2 q1 q2
        generalize zs.getD k 0 = z
        generalize hq : sumF (n % 65521) (zs.take k) = q
        clear hq
        intro hcell HT z1 z2 q1 q2
        go_wp2
        go_round
        case rel => exact ⟨k+1, by omega, by go_num, by rw [HT.out]⟩
        case measure => simp [intOf]; omega
      · have he : k = zs.length := by omega
        have HK := Lib.hid he
        clear he
        go_wp2
        go_ret
        exact ⟨ret_i64 (by rw [HK.out, List.take_length]), rfl⟩

end Go.Proofs.Ytmgeffdekngjgaa
