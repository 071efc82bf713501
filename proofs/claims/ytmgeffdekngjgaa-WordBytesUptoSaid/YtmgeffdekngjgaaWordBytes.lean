/- The walk of WordBytes: for every number and slice of bytes it returns true. -/
import Derived.Test.YtmgeffdekngjgaaWg
import Derived.Test.YtmgeffdekngjgaaWordSums
namespace Go.Proofs.Ytmgeffdekngjgaa
open Go.RowKit

theorem sl_empty (k : IntKind) (w : World) (a : Option Addr) : Sl k w a [] := fun i hi => by simp at hi
theorem sla_of {k : IntKind} {w : World} {ao : Option Addr} {m cap : Nat} {zs : List Int} (h : Sl k w ao zs) (hn : ao = none → cap = 0) (hm : m = zs.length) : SlA w 1 ao m cap (zs.map (Value.int k)) := by
  subst hm; exact SlA.of_ints h hn

set_option maxHeartbeats 1000000 in
theorem wordBytes_nn (n : Int) (a1 : Option Addr) (c1 : Nat) (z1 : List Int) (w : World) (hv : vB n = false) (hl : z1.length ≠ 4)
    (s1 : Sl .u8 w a1 z1 ∧ (a1 = none → c1 = 0)) (b1 : IsB z1) (l1 : z1.length ≤ 1048576) :
    Calls Try.prog 9 #[.int .i64 n, .slice a1 z1.length c1] w fun e w' => e = .returned (.bool true) ∧ Below w.heap.size w w' := by
  have S1 := Lib.hid s1
  have B1 := Lib.hid b1
  have HV := Lib.hid hv
  have HL := Lib.hid hl
  have HR := Lib.hid (res_range n)
  clear s1 b1 hv hl
  go_enter Try.func9, Try.ntmps9
  go_wp2_with (first
    | (go_at_call 32; refine (bytes_no _ _ HV.out).mono ?_; rintro e w1 ⟨rfl, hb1⟩)
    | (go_at_call 33; refine (rbytes_no _ _ HV.out).mono ?_; rintro e w2 ⟨rfl, rfl⟩)
    | (at_builtin; refine wpList_append_sl rfl (.tmp 28) (.tmp 29) 22 rfl w1.heap.size 5 1 1 el_bytes (.slice (some ⟨w1.heap.size, 0, none⟩) 0 0) 0 [] rfl (World.ownsRow_made _ #[] 0 (Nat.le_refl _) (by decide) rfl) a1 z1.length c1 (z1.map (.int .u8)) rfl ((sla_of (S1.out.1.below (hb1)) S1.out.2 rfl).alloc _) (one_ints _ _) (by omega) (by unfold maxLen; omega) (by simp) ?_; intro ao1 cp1 w3 hown1 hg1; simp only [Nat.zero_add, List.nil_append] at hown1; have hb3 := ((Below.refl w1.heap.size w1).alloc (Nat.le_refl _) _).grown hg1 (by simp) (by intro k hk; simp [Value.ownBlock] at hk; omega); have hb13 := bthen (hb1) hb3; have HS3 := Lib.hid (ownsRow_slA hown1).2.ints.2; have HS1 := Lib.hid (S1.out.1.below hb13); clear hown1 hg1 hb3))
  refine (fromBytes_no _ _ _ _ HL.out).mono ?_
  rintro e w4 ⟨rfl, rfl⟩
  go_wp2_with fail
  refine (rfromBytes_no _ _ _ _ HL.out).mono ?_
  rintro e w5 ⟨rfl, rfl⟩
  have k1 := conv_sl w3 22 5 Try.underlying22 Try.underlying5 none 0 0 [] rfl (sl_empty _ _ _) 9 Try.underlying9
  have k2 := conv_sl w3 22 5 Try.underlying22 Try.underlying5 a1 z1.length c1 z1 rfl HS1.out 9 Try.underlying9
  have k3 := conv_sl w3 22 5 Try.underlying22 Try.underlying5 ao1 z1.length cp1 z1 rfl HS3.out 9 Try.underlying9
  go_wp2_with (first | (go_at_call 24; refine (same_any _ _ _ _ _).mono ?_; rintro e w' ⟨rfl, rfl⟩) | (go_at_call 13; refine (sane_any _).mono ?_; rintro e w6 ⟨rfl, hb6⟩))
  go_ret
  exact ⟨rfl, bthen (hb13) hb6⟩

set_option maxHeartbeats 1000000 in
theorem wordBytes_ny (n : Int) (a1 : Option Addr) (c1 : Nat) (z1 : List Int) (w : World) (hv : vB n = false) (hl : z1.length = 4)
    (s1 : Sl .u8 w a1 z1 ∧ (a1 = none → c1 = 0)) (b1 : IsB z1) (_ : z1.length ≤ 1048576) :
    Calls Try.prog 9 #[.int .i64 n, .slice a1 4 c1] w fun e w' => e = .returned (.bool true) ∧ Below w.heap.size w w' := by
  have S1 := Lib.hid s1
  have B1 := Lib.hid b1
  have HV := Lib.hid hv
  have HL := Lib.hid hl
  have HR := Lib.hid (res_range n)
  have hm : 4 = z1.length := hl.symm
  have HM := Lib.hid hm
  have E2 := Lib.hid (bytes4_fromB z1 hl b1)
  have V2 := Lib.hid (wrap32_vB (fromB z1))
  clear s1 b1 hv hl hm
  go_enter Try.func9, Try.ntmps9
  go_wp2_with (first
    | (go_at_call 32; refine (bytes_no _ _ HV.out).mono ?_; rintro e w1 ⟨rfl, hb1⟩)
    | (go_at_call 33; refine (rbytes_no _ _ HV.out).mono ?_; rintro e w2 ⟨rfl, rfl⟩)
    | (at_builtin; refine wpList_append_sl rfl (.tmp 28) (.tmp 29) 22 rfl w1.heap.size 5 1 1 el_bytes (.slice (some ⟨w1.heap.size, 0, none⟩) 0 0) 0 [] rfl (World.ownsRow_made _ #[] 0 (Nat.le_refl _) (by decide) rfl) a1 4 c1 (z1.map (.int .u8)) rfl ((sla_of (S1.out.1.below (hb1)) S1.out.2 HM.out).alloc _) (one_ints _ _) (by omega) (by unfold maxLen; omega) (by simp) ?_; intro ao1 cp1 w3 hown1 hg1; simp only [Nat.zero_add, List.nil_append] at hown1; have hb3 := ((Below.refl w1.heap.size w1).alloc (Nat.le_refl _) _).grown hg1 (by simp) (by intro k hk; simp [Value.ownBlock] at hk; omega); have hb13 := bthen (hb1) hb3; have HS3 := Lib.hid (ownsRow_slA hown1).2.ints.2; have HS1 := Lib.hid (S1.out.1.below hb13); clear hown1 hg1 hb3))
  refine (fromBytes_ok a1 c1 z1 _ HL.out HS1.out B1.out).mono ?_
  rintro e w4 ⟨rfl, rfl⟩
  go_wp2_with fail
  refine (rfromBytes_ok ao1 cp1 z1 _ HL.out HS3.out B1.out).mono ?_
  rintro e w5 ⟨rfl, rfl⟩
  have k1 := conv_sl w3 22 5 Try.underlying22 Try.underlying5 none 0 0 [] rfl (sl_empty _ _ _) 9 Try.underlying9
  have k2 := conv_sl w3 22 5 Try.underlying22 Try.underlying5 a1 4 c1 z1 HM.out HS1.out 9 Try.underlying9
  have k3 := conv_sl w3 22 5 Try.underlying22 Try.underlying5 ao1 4 cp1 z1 HM.out HS3.out 9 Try.underlying9
  go_wp2_with (first | (go_at_call 24; refine (same_any _ _ _ _ _).mono ?_; rintro e w' ⟨rfl, rfl⟩))
  refine (bytes_ok (wrap32 (fromB z1)) _ V2.out).mono ?_
  rintro e w8 ⟨g8, rfl, hb8, s8⟩
  rw [E2.out] at s8
  have k6 := conv_sl w8 22 5 Try.underlying22 Try.underlying5 (some ⟨g8, 0, none⟩) 4 4 z1 HM.out s8 9 Try.underlying9
  have k7 := conv_sl w8 22 5 Try.underlying22 Try.underlying5 ao1 4 cp1 z1 HM.out (HS3.out.below hb8) 9 Try.underlying9
  clear s8
  go_wp2_with (first | (go_at_call 24; refine (same_any _ _ _ _ _).mono ?_; rintro e w' ⟨rfl, rfl⟩) | (go_at_call 13; refine (sane_any _).mono ?_; rintro e w6 ⟨rfl, hb6⟩))
  go_ret
  exact ⟨rfl, bthen (bthen hb13 hb8) hb6⟩

set_option maxHeartbeats 1000000 in
theorem wordBytes_yn (n : Int) (a1 : Option Addr) (c1 : Nat) (z1 : List Int) (w : World) (hv : vB n = true) (hl : z1.length ≠ 4)
    (s1 : Sl .u8 w a1 z1 ∧ (a1 = none → c1 = 0)) (b1 : IsB z1) (l1 : z1.length ≤ 1048576) :
    Calls Try.prog 9 #[.int .i64 n, .slice a1 z1.length c1] w fun e w' => e = .returned (.bool true) ∧ Below w.heap.size w w' := by
  have S1 := Lib.hid s1
  have B1 := Lib.hid b1
  have HV := Lib.hid hv
  have HL := Lib.hid hl
  have HR := Lib.hid (res_range n)
  have E1 := Lib.hid ((congrArg wrap32 (fromB_bytes4 (res n))).trans (res_back hv))
  clear s1 b1 hv hl
  go_enter Try.func9, Try.ntmps9
  go_wp2_with (first
    | (go_at_call 32; refine (bytes_ok _ _ HV.out).mono ?_; rintro e w1 ⟨g1, rfl, hb1, sp⟩; have SP := Lib.hid sp; clear sp)
    | (go_at_call 33; refine (rbytes_ok _ _ HV.out).mono ?_; rintro e w2 ⟨g2, rfl, hb2, sq⟩; have SP2 := Lib.hid (SP.out.below hb2); have SQ := Lib.hid sq; clear sq)
    | (at_builtin; refine wpList_append_sl rfl (.tmp 28) (.tmp 29) 22 rfl w2.heap.size 5 1 1 el_bytes (.slice (some ⟨w2.heap.size, 0, none⟩) 0 0) 0 [] rfl (World.ownsRow_made _ #[] 0 (Nat.le_refl _) (by decide) rfl) a1 z1.length c1 (z1.map (.int .u8)) rfl ((sla_of (S1.out.1.below (bthen hb1 hb2)) S1.out.2 rfl).alloc _) (one_ints _ _) (by omega) (by unfold maxLen; omega) (by simp) ?_; intro ao1 cp1 w3 hown1 hg1; simp only [Nat.zero_add, List.nil_append] at hown1; have hb3 := ((Below.refl w2.heap.size w2).alloc (Nat.le_refl _) _).grown hg1 (by simp) (by intro k hk; simp [Value.ownBlock] at hk; omega); have hb13 := bthen (bthen hb1 hb2) hb3; have SP3 := Lib.hid (SP2.out.below hb3); have SQ3 := Lib.hid (SQ.out.below hb3); have HS3 := Lib.hid (ownsRow_slA hown1).2.ints.2; have HS1 := Lib.hid (S1.out.1.below hb13); clear hown1 hg1 hb3))
  refine (fromBytes_no _ _ _ _ HL.out).mono ?_
  rintro e w4 ⟨rfl, rfl⟩
  go_wp2_with fail
  refine (rfromBytes_no _ _ _ _ HL.out).mono ?_
  rintro e w5 ⟨rfl, rfl⟩
  have k1 := conv_sl w3 22 5 Try.underlying22 Try.underlying5 (some ⟨g1, 0, none⟩) 4 4 (bytes4 (res n)) rfl SP3.out 9 Try.underlying9
  have k1' := conv_sl w3 22 5 Try.underlying22 Try.underlying5 (some ⟨g2, 0, none⟩) 4 4 (bytes4 (res n)) rfl SQ3.out 9 Try.underlying9
  have k2 := conv_sl w3 22 5 Try.underlying22 Try.underlying5 a1 z1.length c1 z1 rfl HS1.out 9 Try.underlying9
  have k3 := conv_sl w3 22 5 Try.underlying22 Try.underlying5 ao1 z1.length cp1 z1 rfl HS3.out 9 Try.underlying9
  go_wp2_with (first | (go_at_call 24; refine (same_any _ _ _ _ _).mono ?_; rintro e w' ⟨rfl, rfl⟩))
  refine (fromBytes_ok (some ⟨g1, 0, none⟩) 4 (bytes4 (res n)) _ rfl SP3.out (isB_bytes4 HR.out)).mono ?_
  rintro e w7 ⟨rfl, rfl⟩
  rw [E1.out]
  clear k1 k1' k2 k3
  go_wp2_with (first | (go_at_call 24; refine (same_any _ _ _ _ _).mono ?_; rintro e w' ⟨rfl, rfl⟩) | (go_at_call 13; refine (sane_any _).mono ?_; rintro e w6 ⟨rfl, hb6⟩))
  go_ret
  exact ⟨rfl, bthen (hb13) hb6⟩

set_option maxHeartbeats 1000000 in
theorem wordBytes_yy (n : Int) (a1 : Option Addr) (c1 : Nat) (z1 : List Int) (w : World) (hv : vB n = true) (hl : z1.length = 4)
    (s1 : Sl .u8 w a1 z1 ∧ (a1 = none → c1 = 0)) (b1 : IsB z1) (_ : z1.length ≤ 1048576) :
    Calls Try.prog 9 #[.int .i64 n, .slice a1 4 c1] w fun e w' => e = .returned (.bool true) ∧ Below w.heap.size w w' := by
  have S1 := Lib.hid s1
  have B1 := Lib.hid b1
  have HV := Lib.hid hv
  have HL := Lib.hid hl
  have HR := Lib.hid (res_range n)
  have hm : 4 = z1.length := hl.symm
  have HM := Lib.hid hm
  have E1 := Lib.hid ((congrArg wrap32 (fromB_bytes4 (res n))).trans (res_back hv))
  have E2 := Lib.hid (bytes4_fromB z1 hl b1)
  have V2 := Lib.hid (wrap32_vB (fromB z1))
  clear s1 b1 hv hl hm
  go_enter Try.func9, Try.ntmps9
  go_wp2_with (first
    | (go_at_call 32; refine (bytes_ok _ _ HV.out).mono ?_; rintro e w1 ⟨g1, rfl, hb1, sp⟩; have SP := Lib.hid sp; clear sp)
    | (go_at_call 33; refine (rbytes_ok _ _ HV.out).mono ?_; rintro e w2 ⟨g2, rfl, hb2, sq⟩; have SP2 := Lib.hid (SP.out.below hb2); have SQ := Lib.hid sq; clear sq)
    | (at_builtin; refine wpList_append_sl rfl (.tmp 28) (.tmp 29) 22 rfl w2.heap.size 5 1 1 el_bytes (.slice (some ⟨w2.heap.size, 0, none⟩) 0 0) 0 [] rfl (World.ownsRow_made _ #[] 0 (Nat.le_refl _) (by decide) rfl) a1 4 c1 (z1.map (.int .u8)) rfl ((sla_of (S1.out.1.below (bthen hb1 hb2)) S1.out.2 HM.out).alloc _) (one_ints _ _) (by omega) (by unfold maxLen; omega) (by simp) ?_; intro ao1 cp1 w3 hown1 hg1; simp only [Nat.zero_add, List.nil_append] at hown1; have hb3 := ((Below.refl w2.heap.size w2).alloc (Nat.le_refl _) _).grown hg1 (by simp) (by intro k hk; simp [Value.ownBlock] at hk; omega); have hb13 := bthen (bthen hb1 hb2) hb3; have SP3 := Lib.hid (SP2.out.below hb3); have SQ3 := Lib.hid (SQ.out.below hb3); have HS3 := Lib.hid (ownsRow_slA hown1).2.ints.2; have HS1 := Lib.hid (S1.out.1.below hb13); clear hown1 hg1 hb3))
  refine (fromBytes_ok a1 c1 z1 _ HL.out HS1.out B1.out).mono ?_
  rintro e w4 ⟨rfl, rfl⟩
  go_wp2_with fail
  refine (rfromBytes_ok ao1 cp1 z1 _ HL.out HS3.out B1.out).mono ?_
  rintro e w5 ⟨rfl, rfl⟩
  have k1 := conv_sl w3 22 5 Try.underlying22 Try.underlying5 (some ⟨g1, 0, none⟩) 4 4 (bytes4 (res n)) rfl SP3.out 9 Try.underlying9
  have k1' := conv_sl w3 22 5 Try.underlying22 Try.underlying5 (some ⟨g2, 0, none⟩) 4 4 (bytes4 (res n)) rfl SQ3.out 9 Try.underlying9
  have k2 := conv_sl w3 22 5 Try.underlying22 Try.underlying5 a1 4 c1 z1 HM.out HS1.out 9 Try.underlying9
  have k3 := conv_sl w3 22 5 Try.underlying22 Try.underlying5 ao1 4 cp1 z1 HM.out HS3.out 9 Try.underlying9
  go_wp2_with (first | (go_at_call 24; refine (same_any _ _ _ _ _).mono ?_; rintro e w' ⟨rfl, rfl⟩))
  refine (fromBytes_ok (some ⟨g1, 0, none⟩) 4 (bytes4 (res n)) _ rfl SP3.out (isB_bytes4 HR.out)).mono ?_
  rintro e w7 ⟨rfl, rfl⟩
  rw [E1.out]
  clear k1 k1' k2 k3
  go_wp2_with (first | (go_at_call 24; refine (same_any _ _ _ _ _).mono ?_; rintro e w' ⟨rfl, rfl⟩))
  refine (bytes_ok (wrap32 (fromB z1)) _ V2.out).mono ?_
  rintro e w8 ⟨g8, rfl, hb8, s8⟩
  rw [E2.out] at s8
  have k6 := conv_sl w8 22 5 Try.underlying22 Try.underlying5 (some ⟨g8, 0, none⟩) 4 4 z1 HM.out s8 9 Try.underlying9
  have k7 := conv_sl w8 22 5 Try.underlying22 Try.underlying5 ao1 4 cp1 z1 HM.out (HS3.out.below hb8) 9 Try.underlying9
  clear s8
  go_wp2_with (first | (go_at_call 24; refine (same_any _ _ _ _ _).mono ?_; rintro e w' ⟨rfl, rfl⟩) | (go_at_call 13; refine (sane_any _).mono ?_; rintro e w6 ⟨rfl, hb6⟩))
  go_ret
  exact ⟨rfl, bthen (bthen hb13 hb8) hb6⟩

theorem wordBytes_walk (n : Int) (a1 : Option Addr) (c1 : Nat) (z1 : List Int) (w : World) (s1 : Sl .u8 w a1 z1 ∧ (a1 = none → c1 = 0)) (b1 : IsB z1) (l1 : z1.length ≤ 1048576) :
    Calls Try.prog 9 #[.int .i64 n, .slice a1 z1.length c1] w fun e w' => e = .returned (.bool true) ∧ Below w.heap.size w w' := by
  cases hv : vB n
  all_goals
    by_cases hl : z1.length = 4
  · rw [hl]; exact wordBytes_ny n a1 c1 z1 w hv hl s1 b1 l1
  · exact wordBytes_nn n a1 c1 z1 w hv hl s1 b1 l1
  · rw [hl]; exact wordBytes_yy n a1 c1 z1 w hv hl s1 b1 l1
  · exact wordBytes_yn n a1 c1 z1 w hv hl s1 b1 l1

end Go.Proofs.Ytmgeffdekngjgaa
