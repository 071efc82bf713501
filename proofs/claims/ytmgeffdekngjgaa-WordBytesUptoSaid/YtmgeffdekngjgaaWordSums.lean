/- The walk of WordSums: for every number and two slices of bytes it returns true. -/
import Derived.Test.YtmgeffdekngjgaaWs
import Derived.Test.YtmgeffdekngjgaaSl
namespace Go.Proofs.Ytmgeffdekngjgaa
open Go.RowKit

theorem el_bytes : El Try.prog 22 5 1 1 := El.mk' (z := .int .u8 0) Try.underlying22 (by kernel_rfl) rfl (by decide)
theorem one_ints (k : IntKind) (zs : List Int) : ∀ u ∈ zs.map (Value.int k), u.oneCell' = true := by
  intro u hu; obtain ⟨z, _, rfl⟩ := List.mem_map.1 hu; rfl
theorem sum_len (n : Int) (a : Option Addr) (m cap : Nat) (zs : List Int) (w : World) (hm : m = zs.length) (hc : Sl .u8 w a zs) (hb : IsB zs) (hl : zs.length ≤ maxLen) :
    Calls Try.prog 11 #[.int .i64 n, .slice a m cap] w fun e w' => e = .returned (.int .i64 (sumF (n % 65521) zs)) ∧ w = w' := by
  subst hm; exact sum_any n a cap zs w hc hb hl
theorem isB_append {l r : List Int} (h : IsB l) (h' : IsB r) : IsB (l ++ r) := by
  intro i hi
  rw [List.getD_eq_getElem?_getD, List.getElem?_append]
  split
  · rename_i h1; have := h i h1; rwa [List.getD_eq_getElem?_getD] at this
  · have := h' (i - l.length) (by simp at hi; omega); rwa [List.getD_eq_getElem?_getD] at this

set_option maxHeartbeats 1000000 in
theorem wordSums_walk (n : Int) (a1 : Option Addr) (c1 : Nat) (z1 : List Int) (a2 : Option Addr) (c2 : Nat) (z2 : List Int) (w : World)
    (s1 : Sl .u8 w a1 z1 ∧ (a1 = none → c1 = 0)) (b1 : IsB z1) (l1 : z1.length ≤ 1048576) (s2 : Sl .u8 w a2 z2 ∧ (a2 = none → c2 = 0)) (b2 : IsB z2) (l2 : z2.length ≤ 1048576) :
    Calls Try.prog 3 #[.int .i64 n, .slice a1 z1.length c1, .slice a2 z2.length c2] w fun e w' => e = .returned (.bool true) ∧ Below w.heap.size w w' := by
  have hr := sumF_range (n % 65521) z1 (by omega)
  obtain ⟨r1, r2⟩ := hr
  have hq : (sumF (n % 65521) (z1 ++ z2) == sumF (sumF (n % 65521) z1 % 65521) z2) = true := by
    rw [sumF_append, Int.emod_eq_of_lt r1 (by omega)]; simp
  have S1 := Lib.hid s1
  have S2 := Lib.hid s2
  have B1 := Lib.hid b1
  have B2 := Lib.hid b2
  clear s1 s2 b1 b2
  go_enter Try.func3, Try.ntmps3
  go_wp2_with (first
    | (go_at_call 11; refine (sum_any _ _ _ _ _ S1.out.1 B1.out (by unfold maxLen; omega)).mono ?_; rintro e w' ⟨rfl, rfl⟩)
    | (at_builtin; refine wpList_append_sl rfl (.tmp 12) (.tmp 13) 22 rfl w.heap.size 5 1 1 el_bytes (.slice (some ⟨w.heap.size, 0, none⟩) 0 0) 0 [] rfl (World.ownsRow_made _ #[] 0 (Nat.le_refl _) (by decide) rfl) a1 z1.length c1 (z1.map (.int .u8)) rfl ((SlA.of_ints S1.out.1 S1.out.2).alloc _) (one_ints _ _) (by omega) (by unfold maxLen; omega) (by simp) ?_; intro ao1 cp1 w1 hown1 hg1; simp only [Nat.zero_add, List.nil_append] at hown1; have hb1 := Lib.hid (((Below.refl w.heap.size w).alloc (Nat.le_refl _) _).grown hg1 (by simp) (by intro k hk; simp [Value.ownBlock] at hk; omega)); have hown1' := Lib.hid hown1; clear hown1 hg1)
    | (at_builtin; refine wpList_append_sl rfl (.tmp 14) (.tmp 15) 22 rfl w.heap.size 5 1 1 el_bytes (.slice ao1 z1.length cp1) z1.length (z1.map (.int .u8)) rfl hown1'.out a2 z2.length c2 (z2.map (.int .u8)) rfl ((SlA.of_ints S2.out.1 S2.out.2).old hb1.out) (one_ints _ _) (by omega) (by unfold maxLen; omega) hb1.out.size ?_; intro ao2 cp2 w2 hown2 hg2; have hb2 := Lib.hid (hb1.out.grown hg2 hb1.out.size (fun k hk => (hown1'.out.lt k hk).1)); have hown2' := Lib.hid hown2; clear hown2 hg2))
  refine (rsum_any _ _ _ _ _ (S1.out.1.below hb2.out) B1.out (by unfold maxLen; omega)).mono ?_
  rintro e w' ⟨rfl, rfl⟩
  go_wp2_with fail
  have hs := (ownsRow_slA hown2'.out).2
  rw [← List.map_append] at hs
  refine (sum_len _ _ _ _ (z1 ++ z2) _ (by simp) hs.ints.2 (isB_append B1.out B2.out) (by simp; unfold maxLen; omega)).mono ?_
  clear hs
  rintro e w' ⟨rfl, rfl⟩
  go_wp2_with fail
  refine (sum_any _ _ _ _ _ (S2.out.1.below hb2.out) B2.out (by unfold maxLen; omega)).mono ?_
  rintro e w' ⟨rfl, rfl⟩
  go_wp2_with (go_at_call 13; refine (sane_any _).mono ?_; rintro e w3 ⟨rfl, hb3⟩)
  go_ret
  exact ⟨rfl, bthen hb2.out hb3⟩

end Go.Proofs.Ytmgeffdekngjgaa
