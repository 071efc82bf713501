/- How many bits are 1: word.Ones, its reference, math/bits.OnesCount32, each by a contract. -/
import Derived.Test.YtmgeffdekngjgaaWd
import Derived.Lib.Tables
import Derived.Lib.BitFns
import Derived.Deep.QuietTactic
import Derived.BigQuiet
namespace Go.Proofs.Ytmgeffdekngjgaa
open Go.RowKit

/-- the bits of x that are 1, of its lowest f bits -/
def popN : Nat → Nat → Nat
  | 0, _ => 0
  | f + 1, x => x % 2 + popN f (x / 2)
theorem popN_le (f x : Nat) : popN f x ≤ f := by
  induction f generalizing x with
  | zero => simp [popN]
  | succ f ih => have := ih (x / 2); simp only [popN]; omega
theorem popN_add (f g x : Nat) : popN (f + g) x = popN f x + popN g (x / 2 ^ f) := by
  induction f generalizing x with
  | zero => simp [popN]
  | succ f ih =>
    rw [Nat.succ_add]; simp only [popN]; rw [ih (x / 2), Nat.div_div_eq_div_mul, Nat.pow_succ, Nat.mul_comm 2]; omega
theorem popN_mod (f x : Nat) : popN f (x % 2 ^ f) = popN f x := by
  induction f generalizing x with
  | zero => simp [popN]
  | succ f ih =>
    simp only [popN]
    have h1 : x % 2 ^ (f + 1) % 2 = x % 2 := by rw [Nat.pow_succ, Nat.mul_comm]; exact Nat.mod_mul_right_mod x 2 (2 ^ f)
    have h2 : x % 2 ^ (f + 1) / 2 = (x / 2) % 2 ^ f := by rw [Nat.pow_succ, Nat.mul_comm, Nat.mod_mul_right_div_self]
    rw [h1, h2, ih]
theorem popN_compl (f x : Nat) (h : x < 2 ^ f) : popN f (2 ^ f - 1 - x) + popN f x = f := by
  induction f generalizing x with
  | zero => simp [popN]
  | succ f ih =>
    simp only [popN]
    rw [Nat.pow_succ] at h ⊢
    have e1 : (2 ^ f * 2 - 1 - x) / 2 = 2 ^ f - 1 - x / 2 := by omega
    have e2 : (2 ^ f * 2 - 1 - x) % 2 + x % 2 = 1 := by omega
    have := ih (x / 2) (by omega)
    rw [e1]; omega
theorem pop8_popN : ∀ n : Fin 256, Lib.pop8 (n.val : Int) = (popN 8 n.val : Int) := by decide +kernel
theorem pop8_of (x : Int) (h0 : 0 ≤ x) (h1 : x ≤ 255) : Lib.pop8 x = (popN 8 x.toNat : Int) := by
  have e := pop8_popN ⟨x.toNat, by omega⟩
  simpa [Int.toNat_of_nonneg h0] using e

theorem mask8 (x : Int) (h0 : 0 ≤ x) (h1 : x < 4294967296) : bits BinOp.and IntKind.u32 x 255 = x % 256 := by
  have h := bits_mask .u32 32 (by decide) (fun n a b => by rw [IntKind.wrap_u32]; omega) 8 (by decide) x h0 (by omega)
  simpa using h

set_option maxHeartbeats 1000000 in
set_option maxRecDepth 100000 in
theorem ones32_any (x : Int) (w : World) (h0 : 0 ≤ x) (h1 : x ≤ 4294967295) :
    Calls Try.prog 47 #[.int .u32 x] w fun e w' => e = .returned (.int .i64 (popN 32 x.toNat)) ∧ Below w.heap.size w w' := by
  have m1 := mask8 (x / 65536) (by omega) (by omega)
  have m2 := mask8 (x / 256) (by omega) (by omega)
  have m3 := mask8 x (by omega) (by omega)
  have a1 : 0 ≤ x / 16777216 := by omega
  have a2 : x / 16777216 ≤ 255 := by omega
  have p1 := pop8_of (x / 16777216) a1 a2
  have p2 := pop8_of (x / 65536 % 256) (by omega) (by omega)
  have p3 := pop8_of (x / 256 % 256) (by omega) (by omega)
  have p4 := pop8_of (x % 256) (by omega) (by omega)
  have l1 := popN_le 8 (x / 16777216).toNat
  have l2 := popN_le 8 (x / 65536 % 256).toNat
  have l3 := popN_le 8 (x / 256 % 256).toNat
  have l4 := popN_le 8 (x % 256).toNat
  have hs : (popN 32 x.toNat : Int) = Lib.pop8 (x / 16777216) + Lib.pop8 (x / 65536 % 256) + Lib.pop8 (x / 256 % 256) + Lib.pop8 (x % 256) := by
    have e1 : (x / 16777216).toNat = x.toNat / 256 / 256 / 256 % 2 ^ 8 := by omega
    have e2 : (x / 65536 % 256).toNat = x.toNat / 256 / 256 % 2 ^ 8 := by omega
    have e3 : (x / 256 % 256).toNat = x.toNat / 256 % 2 ^ 8 := by omega
    have e4 : (x % 256).toNat = x.toNat % 2 ^ 8 := by omega
    rw [p1, p2, p3, p4, e1, e2, e3, e4, popN_mod, popN_mod, popN_mod, popN_mod]
    have q1 := popN_add 8 24 x.toNat
    have q2 := popN_add 8 16 (x.toNat / 256)
    have q3 := popN_add 8 8 (x.toNat / 256 / 256)
    simp only [Nat.reducePow, Nat.reduceAdd] at q1 q2 q3
    omega
  have HS := Lib.hid hs
  clear hs
  have b1 : 0 ≤ Lib.pop8 (x / 16777216) ∧ Lib.pop8 (x / 16777216) ≤ 8 := by rw [p1]; omega
  have b2 : 0 ≤ Lib.pop8 (x / 65536 % 256) ∧ Lib.pop8 (x / 65536 % 256) ≤ 8 := by rw [p2]; omega
  have b3 : 0 ≤ Lib.pop8 (x / 256 % 256) ∧ Lib.pop8 (x / 256 % 256) ≤ 8 := by rw [p3]; omega
  have b4 : 0 ≤ Lib.pop8 (x % 256) ∧ Lib.pop8 (x % 256) ≤ 8 := by rw [p4]; omega
  clear p1 p2 p3 p4 l1 l2 l3 l4
  revert b1 b2 b3 b4
  generalize hg1 : Lib.pop8 (x / 16777216) = y1 at *
  generalize hg2 : Lib.pop8 (x / 65536 % 256) = y2 at *
  generalize hg3 : Lib.pop8 (x / 256 % 256) = y3 at *
  generalize hg4 : Lib.pop8 (x % 256) = y4 at *
  rintro ⟨c1, d1⟩ ⟨c2, d2⟩ ⟨c3, d3⟩ ⟨c4, d4⟩
  have t1 : IntKind.u8.wrap (y1 + y2) = y1 + y2 := IntWalk.u8_in _ (by omega)
  have t2 : IntKind.u8.wrap (y1 + y2 + y3) = y1 + y2 + y3 := IntWalk.u8_in _ (by omega)
  have t3 : IntKind.u8.wrap (y1 + y2 + y3 + y4) = y1 + y2 + y3 + y4 := IntWalk.u8_in _ (by omega)
  have t4 : IntKind.i64.wrap (y1 + y2 + y3 + y4) = y1 + y2 + y3 + y4 := IntWalk.i64_in _ (by omega)
  go_enter Try.func47, Try.ntmps47
  go_wp2
  go_quiet (fail)
  go_wp2
  go_ret
  exact ⟨ret_i64 HS.out.symm, below_drewN (Below.refl _ _) _⟩

end Go.Proofs.Ytmgeffdekngjgaa
