/- Reached of whatever code, on both sides. -/
import Derived.Test.YtignlfcjlbijaaaSc
import Derived.Test.YtignlfcjlbijaaaSa
import Derived.Test.YtignlfcjlbijaaaHh
namespace Go.Proofs.Ytignlfcjlbijaaa
open Go.RowKit

theorem blk_sla {w : World} {O : Nat} {xs : List Value} {t : TypeId} (h : Blk w O xs.toArray t) : SlA w 1 (some ⟨O, 0, none⟩) xs.length xs.length xs := by
  refine ⟨by simp, (fun h => by cases h), fun j u hu => ⟨_, rfl, ?_⟩⟩
  rw [show (⟨O, 0, none⟩ : Addr).add j = ⟨O, j, none⟩ by unfold Addr.add; split <;> simp_all]
  exact h.cell j (by simpa using hu)

/-- what Reached answers: no list for code that is not valid -/
def RchOk (c : Cd) (bs : List Bool) : Prop := if codeV c then bs.length = c.l.length ∧ ∀ i, bs.getD i false = true ↔ Reach c i else bs = []
theorem RchOk.eq {c : Cd} {bs bs2 : List Bool} (h : RchOk c bs) (h2 : RchOk c bs2) : bs = bs2 := by
  unfold RchOk at h h2
  split at h
  · rename_i hv
    rw [if_pos hv] at h2
    refine list_eq_of (h.1.trans h2.1.symm) fun k hk => ?_
    have : (bs.getD k false = true) ↔ (bs2.getD k false = true) := (h.2 k).trans (h2.2 k).symm
    exact Bool.eq_iff_iff.2 this
  · rename_i hv
    rw [if_neg hv] at h2
    rw [h, h2]

set_option maxHeartbeats 2000000 in
theorem Reached_all (W : World) (lo : Option Addr) (lc : Nat) (ho : Option Addr) (hc : Nat) (c : Cd) (hcd : CdAt W lo lc ho hc c) :
    Calls Try.prog 19 #[.agg #[.slice lo c.l.length lc, .slice ho c.h.length hc]] W fun e w' => ∃ (ro : Option Addr) (rc : Nat) (bs : List Bool), e = .returned (.tuple #[.slice ro bs.length rc, .int .i64 (if codeV c then 0 else 1)]) ∧ Below W.heap.size W w' ∧ SlA w' 1 ro bs.length rc (bs.map Value.bool) ∧ RchOk c bs := by
  rcases hv : codeV c with _ | _
  · have HV := Lib.hid hv
    have HC := Lib.hid hcd
    clear hv hcd
    obtain ⟨B, hB⟩ : ∃ B, B = W.heap.size := ⟨_, rfl⟩
    go_enter Try.func19, Try.ntmps19
    go_wp2_with fail
    have hb0 := (Below.refl W.heap.size W).alloc (Nat.le_refl _) (.cells #[.slice lo c.l.length lc, .slice ho c.h.length hc] 30)
    refine (Valid_any _ lo lc ho hc c (HC.out.old hb0)).mono ?_
    rw [HV.out]
    rintro e w1 ⟨rfl, hb1⟩
    have HL := Lib.hid (bthen hb0 hb1)
    clear hb0 hb1
    go_wp2_with fail
    go_ret2
    exact ⟨none, 0, [], rfl, HL.out, ⟨rfl, fun _ => ⟨rfl, rfl⟩, fun j u hu => by simp at hu⟩, by unfold RchOk; rw [HV.out]; simp⟩
  · refine (Reached_any W lo lc ho hc c hcd hv).mono ?_
    rintro e w1 ⟨O, bs, rfl, hb, _, hO, hl, hr⟩
    have h1 := blk_sla hO
    rw [List.length_map] at h1
    exact ⟨_, _, bs, by rw [hl]; rfl, hb, h1, by unfold RchOk; rw [if_pos hv]; exact ⟨hl, hr⟩⟩
set_option maxHeartbeats 2000000 in
theorem rReached_all (W : World) (lo : Option Addr) (lc : Nat) (ho : Option Addr) (hc : Nat) (c : Cd) (hcd : CdAt W lo lc ho hc c) :
    Calls Try.prog 20 #[.agg #[.slice lo c.l.length lc, .slice ho c.h.length hc]] W fun e w' => ∃ (ro : Option Addr) (rc : Nat) (bs : List Bool), e = .returned (.tuple #[.slice ro bs.length rc, .int .i64 (if codeV c then 0 else 1)]) ∧ Below W.heap.size W w' ∧ SlA w' 1 ro bs.length rc (bs.map Value.bool) ∧ RchOk c bs := by
  rcases hv : codeV c with _ | _
  · have HV := Lib.hid hv
    have HC := Lib.hid hcd
    clear hv hcd
    obtain ⟨B, hB⟩ : ∃ B, B = W.heap.size := ⟨_, rfl⟩
    go_enter Try.func20, Try.ntmps20
    go_wp2_with fail
    have hb0 := (Below.refl W.heap.size W).alloc (Nat.le_refl _) (.cells #[.slice lo c.l.length lc, .slice ho c.h.length hc] 25)
    refine (rValid_any _ lo lc ho hc c (HC.out.old hb0)).mono ?_
    rw [HV.out]
    rintro e w1 ⟨rfl, hb1⟩
    have HL := Lib.hid (bthen hb0 hb1)
    clear hb0 hb1
    go_wp2_with fail
    go_ret2
    exact ⟨none, 0, [], rfl, HL.out, ⟨rfl, fun _ => ⟨rfl, rfl⟩, fun j u hu => by simp at hu⟩, by unfold RchOk; rw [HV.out]; simp⟩
  · refine (rReached_any W lo lc ho hc c hcd hv).mono ?_
    rintro e w1 ⟨O, bs, rfl, hb, _, hO, hl, hr⟩
    have h1 := blk_sla hO
    rw [List.length_map] at h1
    exact ⟨_, _, bs, by rw [hl]; rfl, hb, h1, by unfold RchOk; rw [if_pos hv]; exact ⟨hl, hr⟩⟩

theorem wrap_bv (v : BitVec 64) : BitVec.ofInt 64 (IntKind.i64.wrap (v.toNat : Int)) = v := by
  apply BitVec.eq_of_toNat_eq
  rw [BitVec.toNat_ofInt, IntKind.wrap_i64]
  have := v.isLt
  omega
theorem xor_ne (y b : Int) (h1 : -9223372036854775808 ≤ b) (h2 : b ≤ 9223372036854775807) (h0 : b ≠ 0) : bits .xor .i64 y b ≠ y := by
  intro h
  have e : bits .xor .i64 y b = IntKind.i64.wrap ((BitVec.ofInt 64 y ^^^ BitVec.ofInt 64 b).toNat : Int) := rfl
  have h3 : BitVec.ofInt 64 y = BitVec.ofInt 64 y ^^^ BitVec.ofInt 64 b := by
    have := wrap_bv (BitVec.ofInt 64 y ^^^ BitVec.ofInt 64 b)
    rw [← e, h] at this
    exact this
  have h4 : BitVec.ofInt 64 y ^^^ BitVec.ofInt 64 y = BitVec.ofInt 64 y ^^^ (BitVec.ofInt 64 y ^^^ BitVec.ofInt 64 b) := congrArg (BitVec.ofInt 64 y ^^^ ·) h3
  rw [← BitVec.xor_assoc, BitVec.xor_self, BitVec.zero_xor] at h4
  have h5 := congrArg BitVec.toNat h4
  rw [BitVec.toNat_ofInt] at h5
  simp at h5
  omega

end Go.Proofs.Ytignlfcjlbijaaa
