/- Where a run can go behind an instruction (the program's follows). -/
import Derived.Test.YtignlfcjlbijaaaRs
import Derived.Deep.Cut
namespace Go.Proofs.Ytignlfcjlbijaaa
open Go.RowKit

def nxV (c : Cd) (i : Nat) : List Nat := if i + 1 < c.l.length then [i + 1] else []
def hdV (c : Cd) (i : Nat) : List Nat := if 0 ≤ c.h.getD i 0 then [(c.h.getD i 0).toNat] else []
def folV (c : Cd) (i : Nat) : List Nat :=
  let x := c.l.getD i default
  if x.d = 0 then [] else if x.d = 4 then [x.a.toNat] else if x.d = 5 ∨ x.d = 8 then x.a.toNat :: nxV c i
  else if x.d = 7 then hdV c i else if x.d = 14 then hdV c i ++ nxV c i else nxV c i

theorem own_full (w : World) (xs : Array Value) (e : TypeId) {base : Nat} (hb : base ≤ w.heap.size) (hm : xs.size ≤ maxLen) : (w.alloc (.cells xs e)).ownsRow base e 1 (.slice (some ⟨w.heap.size, 0, none⟩) xs.size xs.size) xs.size xs.toList :=
  ⟨by simp, .inr ⟨w.heap.size, xs.size, xs, rfl, hb, heap_alloc_new w _, Nat.le_refl _, hm, by simp, List.take_of_length_le (by simp)⟩⟩
theorem own_take {w : World} {base : Nat} {e : TypeId} {size g cap n : Nat} {xs : List Value} (h : w.ownsRow base e size (.slice (some ⟨g, 0, none⟩) n cap) n xs) {m : Nat} (hm : m ≤ n) : w.ownsRow base e size (.slice (some ⟨g, 0, none⟩) m cap) m (xs.take (m * size)) := by
  obtain ⟨h1, h2⟩ := h
  have hms : m * size ≤ n * size := Nat.mul_le_mul_right _ hm
  rcases h2 with ⟨h0, _⟩ | ⟨g', cap', cur, hv, hg, hh, hn, hcap, hsz, htake⟩
  · cases h0
  · cases hv
    refine ⟨by rw [List.length_take, h1]; exact Nat.min_eq_left hms, .inr ⟨g, cap, cur, rfl, hg, hh, by omega, hcap, hsz, ?_⟩⟩
    rw [← htake, List.take_take, Nat.min_eq_left hms]
theorem nats_one (l : List Nat) : ∀ u ∈ l.map (fun j : Nat => Value.int .i64 j), u.oneCell' = true := by
  intro u hu; obtain ⟨z, _, rfl⟩ := List.mem_map.1 hu; rfl

set_option maxHeartbeats 4000000 in
theorem follows_any (W : World) (lo : Option Addr) (lc : Nat) (ho : Option Addr) (hc : Nat) (c : Cd) (hcd : CdAt W lo lc ho hc c) (hv : codeV c = true) (i : Nat) (hi : i < c.l.length) :
    Calls Try.prog 55 #[.agg #[.slice lo c.l.length lc, .slice ho c.h.length hc], .int .i64 i] W fun e w' => ∃ so sc, e = .returned (.slice so (folV c i).length sc) ∧ Below W.heap.size W w' ∧ w'.ownsRow W.heap.size 3 1 (.slice so (folV c i).length sc) (folV c i).length ((folV c i).map (fun j : Nat => Value.int .i64 j)) := by
  obtain ⟨B, hB⟩ : ∃ B, B = W.heap.size := ⟨_, rfl⟩
  obtain ⟨v1, v2, v3, v4, v5⟩ := codeV_ins hv
  have hx := v4 _ hi
  have hz5 := v5 _ hi
  obtain ⟨x, hxx⟩ : ∃ x, x = c.l.getD i default := ⟨_, rfl⟩
  obtain ⟨z, hzz⟩ : ∃ z, z = c.h.getD i 0 := ⟨_, rfl⟩
  rw [← hxx] at hx
  rw [← hzz] at hz5
  simp only [inB, Bool.and_eq_true, decide_eq_true_eq] at hz5
  have hil : (i : Int) < c.l.length := by omega
  have hih : (i : Int) < c.h.length := by omega
  have hiw : IntKind.i64.wrap ((i : Int) + 1) = i + 1 := IntWalk.i64_in _ (by omega)
  obtain ⟨ad, had, e0, e1, e2, e3⟩ := (hcd.old ((Below.refl W.heap.size W).alloc (Nat.le_refl _) (.cells #[.slice lo c.l.length lc, .slice ho c.h.length hc] 30))).l.cell hi
  rw [← hxx] at e0 e1 e2 e3
  have HX := Lib.hid hxx
  have HZ := Lib.hid hzz
  have HV := Lib.hid hx
  have HC := Lib.hid hcd
  have HV3 := Lib.hid v3
  have HV2 := Lib.hid v2
  clear hxx hzz hx hcd v1 v2 v3 v4 v5 hv
  subst had
  go_enter Try.func55, Try.ntmps55
  go_upto_region 2 with fail
  have hbl := ((Below.refl W.heap.size W).alloc (Nat.le_refl _) (.cells #[.slice (some ad) c.l.length lc, .slice ho c.h.length hc] 30)).alloc (by simp) (.cells #[.int .i64 x.d, .int .i64 x.a, .int .i64 x.b, .int .i64 x.c] 53)
  have hA := (Blk.new' (w := W) #[.slice (some ad) c.l.length lc, .slice ho c.h.length hc] 30 hB).alloc (.cells #[.int .i64 x.d, .int .i64 x.a, .int .i64 x.b, .int .i64 x.c] 53)
  have hR : Blk ((W.alloc (.cells #[.slice (some ad) c.l.length lc, .slice ho c.h.length hc] 30)).alloc (.cells #[.int .i64 x.d, .int .i64 x.a, .int .i64 x.b, .int .i64 x.c] 53)) (B+1) #[.int .i64 x.d, .int .i64 x.a, .int .i64 x.b, .int .i64 x.c] 53 := Blk.new' _ _ (by simp [hB])
  have hSz : B + 2 ≤ ((W.alloc (.cells #[.slice (some ad) c.l.length lc, .slice ho c.h.length hc] 30)).alloc (.cells #[.int .i64 x.d, .int .i64 x.a, .int .i64 x.b, .int .i64 x.c] 53)).heap.size := by simp [hB]
  rw [← hB]
  have HBB := Lib.hid hB
  clear hB e0 e1 e2 e3
  generalize ((W.alloc (.cells #[.slice (some ad) c.l.length lc, .slice ho c.h.length hc] 30)).alloc (.cells #[.int .i64 x.d, .int .i64 x.a, .int .i64 x.b, .int .i64 x.c] 53)) = w1 at hbl hA hR hSz ⊢
  obtain ⟨ah, hah, eh⟩ := sla_int (HC.out.old hbl).h (show i < c.h.length by omega)
  rw [← HZ.out] at eh
  have HAh := Lib.hid hah
  subst hah
  have HL1 := Lib.hid hbl
  have HA1 := Lib.hid hA
  have HR1 := Lib.hid hR
  have HSz1 := Lib.hid hSz
  have lR := hR.lt
  have lB := hA.lt
  obtain ⟨d, a, b, c'⟩ := x
  have b0 : w1.cell? ⟨B, 0, none⟩ = some (.slice (some ad) c.l.length lc) := hA.cell 0 rfl
  have b1 : w1.cell? ⟨B, 1, none⟩ = some (.slice (some ah) c.h.length hc) := hA.cell 1 rfl
  have r0 : w1.cell? ⟨B+1, 0, none⟩ = some (.int .i64 d) := hR.cell 0 rfl
  have r1 : w1.cell? ⟨B+1, 1, none⟩ = some (.int .i64 a) := hR.cell 1 rfl
  clear hbl hA hR hSz
  --CASES
  rcases (show d = 0 ∨ d = 1 ∨ d = 2 ∨ d = 4 ∨ d = 5 ∨ d = 6 ∨ d = 7 ∨ d = 8 ∨ d = 11 ∨ d = 12 ∨ d = 13 ∨ d = 14 ∨ d = 15 ∨ d = 16 ∨ ¬ (d = 0 ∨ d = 1 ∨ d = 2 ∨ d = 4 ∨ d = 5 ∨ d = 6 ∨ d = 7 ∨ d = 8 ∨ d = 11 ∨ d = 12 ∨ d = 13 ∨ d = 14 ∨ d = 15 ∨ d = 16) by omega) with rfl | rfl | rfl | rfl | rfl | rfl | rfl | rfl | rfl | rfl | rfl | rfl | rfl | rfl | hd
  · have HF := Lib.hid (show folV c i = [] by unfold folV; rw [← HX.out]; simp)
    go_wp2_with fail
    go_ret
    exact ⟨none, 0, by rw [HF.out]; rfl, HL1.out, by rw [HF.out]; exact own_mono (World.ownsRow_nil _ (B+2) _ _) (by have := HBB.out; omega)⟩
  · have HF := Lib.hid (show folV c i = nxV c i by unfold folV; rw [← HX.out]; simp)
    by_cases hnx : i + 1 < c.l.length
    · have hnx2 : (i : Int) + 1 < c.l.length := by omega
      have HF := Lib.hid (HF.out.trans (show _ = [i + 1] by rw [show nxV c i = [i + 1] by unfold nxV; rw [if_pos hnx]]; try rfl))
      go_wp2_with (first
        | (at_builtin; refine wpList_append_sl rfl (.tmp 56) (.tmp 59) 23 rfl (B+2) 3 1 8 elInt (.slice none 0 0) 0 [] rfl (World.ownsRow_nil _ _ _ _) _ 1 1 [.int .i64 ((i : Int) + 1)] rfl (sla_built _ #[.int .i64 ((i : Int) + 1)] 3 rfl) (by intro u hu; simp at hu; subst hu; rfl) (by omega) (by unfold maxLen; omega) (by have := HSz1.out; simp; omega) ?_
           intro ao2 cap2 w2 hown hg
           have hbl := (HL1.out.alloc HL1.out.size (.cells #[.int .i64 ((i : Int) + 1)] 3)).grown hg (by have := HL1.out.size; simp; omega) (by intro k hk; simp [Value.ownBlock] at hk)
           have hA := (HA1.out.alloc (.cells #[.int .i64 ((i : Int) + 1)] 3)).grown hg (by simp [Value.ownBlock])
           have hR := (HR1.out.alloc (.cells #[.int .i64 ((i : Int) + 1)] 3)).grown hg (by simp [Value.ownBlock])
           have HO2 := Lib.hid hown
           have HL2 := Lib.hid hbl
           have HA2 := Lib.hid hA
           have HR2 := Lib.hid hR
           have HSz2 := Lib.hid (show B + 2 ≤ w2.heap.size by have := HSz1.out; have := hg.size; simp at this; omega)
           have b0 : w2.cell? ⟨B, 0, none⟩ = some (.slice (some ad) c.l.length lc) := hA.cell 0 rfl
           have r0 : w2.cell? ⟨B+1, 0, none⟩ = some (.int .i64 1) := hR.cell 0 rfl
           clear hown hg hbl hA hR))
      go_ret
      exact ⟨ao2, cap2, by rw [HF.out]; rfl, HL2.out, by rw [HF.out]; exact own_mono (HO2.out) (by have := HBB.out; omega)⟩
    · have hnx2 : ¬ ((i : Int) + 1 < c.l.length) := by omega
      have HF := Lib.hid (HF.out.trans (show _ = [] by rw [show nxV c i = [] by unfold nxV; rw [if_neg hnx]]; try rfl))
      go_wp2_with fail
      go_ret
      exact ⟨none, 0, by rw [HF.out]; rfl, HL1.out, by rw [HF.out]; exact own_mono (World.ownsRow_nil _ (B+2) _ _) (by have := HBB.out; omega)⟩
  · have HF := Lib.hid (show folV c i = nxV c i by unfold folV; rw [← HX.out]; simp)
    by_cases hnx : i + 1 < c.l.length
    · have hnx2 : (i : Int) + 1 < c.l.length := by omega
      have HF := Lib.hid (HF.out.trans (show _ = [i + 1] by rw [show nxV c i = [i + 1] by unfold nxV; rw [if_pos hnx]]; try rfl))
      go_wp2_with (first
        | (at_builtin; refine wpList_append_sl rfl (.tmp 56) (.tmp 59) 23 rfl (B+2) 3 1 8 elInt (.slice none 0 0) 0 [] rfl (World.ownsRow_nil _ _ _ _) _ 1 1 [.int .i64 ((i : Int) + 1)] rfl (sla_built _ #[.int .i64 ((i : Int) + 1)] 3 rfl) (by intro u hu; simp at hu; subst hu; rfl) (by omega) (by unfold maxLen; omega) (by have := HSz1.out; simp; omega) ?_
           intro ao2 cap2 w2 hown hg
           have hbl := (HL1.out.alloc HL1.out.size (.cells #[.int .i64 ((i : Int) + 1)] 3)).grown hg (by have := HL1.out.size; simp; omega) (by intro k hk; simp [Value.ownBlock] at hk)
           have hA := (HA1.out.alloc (.cells #[.int .i64 ((i : Int) + 1)] 3)).grown hg (by simp [Value.ownBlock])
           have hR := (HR1.out.alloc (.cells #[.int .i64 ((i : Int) + 1)] 3)).grown hg (by simp [Value.ownBlock])
           have HO2 := Lib.hid hown
           have HL2 := Lib.hid hbl
           have HA2 := Lib.hid hA
           have HR2 := Lib.hid hR
           have HSz2 := Lib.hid (show B + 2 ≤ w2.heap.size by have := HSz1.out; have := hg.size; simp at this; omega)
           have b0 : w2.cell? ⟨B, 0, none⟩ = some (.slice (some ad) c.l.length lc) := hA.cell 0 rfl
           have r0 : w2.cell? ⟨B+1, 0, none⟩ = some (.int .i64 2) := hR.cell 0 rfl
           clear hown hg hbl hA hR))
      go_ret
      exact ⟨ao2, cap2, by rw [HF.out]; rfl, HL2.out, by rw [HF.out]; exact own_mono (HO2.out) (by have := HBB.out; omega)⟩
    · have hnx2 : ¬ ((i : Int) + 1 < c.l.length) := by omega
      have HF := Lib.hid (HF.out.trans (show _ = [] by rw [show nxV c i = [] by unfold nxV; rw [if_neg hnx]]; try rfl))
      go_wp2_with fail
      go_ret
      exact ⟨none, 0, by rw [HF.out]; rfl, HL1.out, by rw [HF.out]; exact own_mono (World.ownsRow_nil _ (B+2) _ _) (by have := HBB.out; omega)⟩
  · have hv1 := HV.out
    simp [insV, inB] at hv1
    obtain ⟨ja, rfl⟩ : ∃ ja : Nat, a = ja := ⟨a.toNat, by omega⟩
    clear hv1
    have HF := Lib.hid (show folV c i = [ja] by unfold folV; rw [← HX.out]; simp)
    go_wp2_with fail
    go_ret
    exact ⟨_, _, by rw [HF.out]; rfl, HL1.out.alloc HL1.out.size _, by rw [HF.out]; exact own_mono (own_full w1 #[.int .i64 ja] 3 (base := B) (by have := HL1.out.size; have := HBB.out; omega) (by unfold maxLen; simp)) (by have := HBB.out; omega)⟩
  · have hv1 := HV.out
    simp [insV, inB] at hv1
    obtain ⟨ja, rfl⟩ : ∃ ja : Nat, a = ja := ⟨a.toNat, by omega⟩
    clear hv1
    have HF := Lib.hid (show folV c i = ja :: nxV c i by unfold folV; rw [← HX.out]; simp)
    by_cases hnx : i + 1 < c.l.length
    · have hnx2 : (i : Int) + 1 < c.l.length := by omega
      have HF := Lib.hid (HF.out.trans (show _ = [ja, i + 1] by rw [show nxV c i = [i + 1] by unfold nxV; rw [if_pos hnx]]; try rfl))
      go_wp2_with (first
        | (at_builtin; refine wpList_append_sl rfl (.tmp 24) (.tmp 27) 23 rfl (B+2) 3 1 8 elInt (.slice none 0 0) 0 [] rfl (World.ownsRow_nil _ _ _ _) _ 1 1 [.int .i64 ja] rfl (sla_built _ #[.int .i64 ja] 3 rfl) (by intro u hu; simp at hu; subst hu; rfl) (by omega) (by unfold maxLen; omega) (by have := HSz1.out; simp; omega) ?_
           intro ao1 cap1 w2 hown hg
           have hbl := (HL1.out.alloc HL1.out.size (.cells #[.int .i64 ja] 3)).grown hg (by have := HL1.out.size; simp; omega) (by intro k hk; simp [Value.ownBlock] at hk)
           have hA := (HA1.out.alloc (.cells #[.int .i64 ja] 3)).grown hg (by simp [Value.ownBlock])
           have hR := (HR1.out.alloc (.cells #[.int .i64 ja] 3)).grown hg (by simp [Value.ownBlock])
           have HO1 := Lib.hid hown
           have HL2 := Lib.hid hbl
           have HA2 := Lib.hid hA
           have HR2 := Lib.hid hR
           have HSz2 := Lib.hid (show B + 2 ≤ w2.heap.size by have := HSz1.out; have := hg.size; simp at this; omega)
           have b0 : w2.cell? ⟨B, 0, none⟩ = some (.slice (some ad) c.l.length lc) := hA.cell 0 rfl
           have r0 : w2.cell? ⟨B+1, 0, none⟩ = some (.int .i64 5) := hR.cell 0 rfl
           clear hown hg hbl hA hR)
        | (at_builtin; refine wpList_append_sl rfl (.tmp 56) (.tmp 59) 23 rfl (B+2) 3 1 8 elInt (.slice ao1 1 cap1) 1 [.int .i64 ja] rfl (HO1.out.alloc _) _ 1 1 [.int .i64 ((i : Int) + 1)] rfl (sla_built _ #[.int .i64 ((i : Int) + 1)] 3 rfl) (by intro u hu; simp at hu; subst hu; rfl) (by omega) (by unfold maxLen; omega) (by have := HSz2.out; simp; omega) ?_
           intro ao2 cap2 w3 hown hg
           have hbl := (HL2.out.alloc HL2.out.size (.cells #[.int .i64 ((i : Int) + 1)] 3)).grown hg (by have := HL2.out.size; simp; omega) (by intro k hk; have := (HO1.out.lt k hk).1; have := HBB.out; omega)
           have hA := (HA2.out.alloc (.cells #[.int .i64 ((i : Int) + 1)] 3)).grown hg (own_ne HO1.out (by omega))
           have hR := (HR2.out.alloc (.cells #[.int .i64 ((i : Int) + 1)] 3)).grown hg (own_ne HO1.out (by omega))
           have HO2 := Lib.hid hown
           have HL3 := Lib.hid hbl
           have HA3 := Lib.hid hA
           have HR3 := Lib.hid hR
           have HSz3 := Lib.hid (show B + 2 ≤ w3.heap.size by have := HSz2.out; have := hg.size; simp at this; omega)
           have b0 : w3.cell? ⟨B, 0, none⟩ = some (.slice (some ad) c.l.length lc) := hA.cell 0 rfl
           have r0 : w3.cell? ⟨B+1, 0, none⟩ = some (.int .i64 5) := hR.cell 0 rfl
           clear hown hg hbl hA hR))
      go_ret
      exact ⟨ao2, cap2, by rw [HF.out]; rfl, HL3.out, by rw [HF.out]; exact own_mono (HO2.out) (by have := HBB.out; omega)⟩
    · have hnx2 : ¬ ((i : Int) + 1 < c.l.length) := by omega
      have HF := Lib.hid (HF.out.trans (show _ = [ja] by rw [show nxV c i = [] by unfold nxV; rw [if_neg hnx]]; try rfl))
      go_wp2_with (first
        | (at_builtin; refine wpList_append_sl rfl (.tmp 24) (.tmp 27) 23 rfl (B+2) 3 1 8 elInt (.slice none 0 0) 0 [] rfl (World.ownsRow_nil _ _ _ _) _ 1 1 [.int .i64 ja] rfl (sla_built _ #[.int .i64 ja] 3 rfl) (by intro u hu; simp at hu; subst hu; rfl) (by omega) (by unfold maxLen; omega) (by have := HSz1.out; simp; omega) ?_
           intro ao1 cap1 w2 hown hg
           have hbl := (HL1.out.alloc HL1.out.size (.cells #[.int .i64 ja] 3)).grown hg (by have := HL1.out.size; simp; omega) (by intro k hk; simp [Value.ownBlock] at hk)
           have hA := (HA1.out.alloc (.cells #[.int .i64 ja] 3)).grown hg (by simp [Value.ownBlock])
           have hR := (HR1.out.alloc (.cells #[.int .i64 ja] 3)).grown hg (by simp [Value.ownBlock])
           have HO1 := Lib.hid hown
           have HL2 := Lib.hid hbl
           have HA2 := Lib.hid hA
           have HR2 := Lib.hid hR
           have HSz2 := Lib.hid (show B + 2 ≤ w2.heap.size by have := HSz1.out; have := hg.size; simp at this; omega)
           have b0 : w2.cell? ⟨B, 0, none⟩ = some (.slice (some ad) c.l.length lc) := hA.cell 0 rfl
           have r0 : w2.cell? ⟨B+1, 0, none⟩ = some (.int .i64 5) := hR.cell 0 rfl
           clear hown hg hbl hA hR))
      go_ret
      exact ⟨ao1, cap1, by rw [HF.out]; rfl, HL2.out, by rw [HF.out]; exact own_mono (HO1.out) (by have := HBB.out; omega)⟩
  · have HF := Lib.hid (show folV c i = nxV c i by unfold folV; rw [← HX.out]; simp)
    by_cases hnx : i + 1 < c.l.length
    · have hnx2 : (i : Int) + 1 < c.l.length := by omega
      have HF := Lib.hid (HF.out.trans (show _ = [i + 1] by rw [show nxV c i = [i + 1] by unfold nxV; rw [if_pos hnx]]; try rfl))
      go_wp2_with (first
        | (at_builtin; refine wpList_append_sl rfl (.tmp 56) (.tmp 59) 23 rfl (B+2) 3 1 8 elInt (.slice none 0 0) 0 [] rfl (World.ownsRow_nil _ _ _ _) _ 1 1 [.int .i64 ((i : Int) + 1)] rfl (sla_built _ #[.int .i64 ((i : Int) + 1)] 3 rfl) (by intro u hu; simp at hu; subst hu; rfl) (by omega) (by unfold maxLen; omega) (by have := HSz1.out; simp; omega) ?_
           intro ao2 cap2 w2 hown hg
           have hbl := (HL1.out.alloc HL1.out.size (.cells #[.int .i64 ((i : Int) + 1)] 3)).grown hg (by have := HL1.out.size; simp; omega) (by intro k hk; simp [Value.ownBlock] at hk)
           have hA := (HA1.out.alloc (.cells #[.int .i64 ((i : Int) + 1)] 3)).grown hg (by simp [Value.ownBlock])
           have hR := (HR1.out.alloc (.cells #[.int .i64 ((i : Int) + 1)] 3)).grown hg (by simp [Value.ownBlock])
           have HO2 := Lib.hid hown
           have HL2 := Lib.hid hbl
           have HA2 := Lib.hid hA
           have HR2 := Lib.hid hR
           have HSz2 := Lib.hid (show B + 2 ≤ w2.heap.size by have := HSz1.out; have := hg.size; simp at this; omega)
           have b0 : w2.cell? ⟨B, 0, none⟩ = some (.slice (some ad) c.l.length lc) := hA.cell 0 rfl
           have r0 : w2.cell? ⟨B+1, 0, none⟩ = some (.int .i64 6) := hR.cell 0 rfl
           clear hown hg hbl hA hR))
      go_ret
      exact ⟨ao2, cap2, by rw [HF.out]; rfl, HL2.out, by rw [HF.out]; exact own_mono (HO2.out) (by have := HBB.out; omega)⟩
    · have hnx2 : ¬ ((i : Int) + 1 < c.l.length) := by omega
      have HF := Lib.hid (HF.out.trans (show _ = [] by rw [show nxV c i = [] by unfold nxV; rw [if_neg hnx]]; try rfl))
      go_wp2_with fail
      go_ret
      exact ⟨none, 0, by rw [HF.out]; rfl, HL1.out, by rw [HF.out]; exact own_mono (World.ownsRow_nil _ (B+2) _ _) (by have := HBB.out; omega)⟩
  · by_cases hz0 : 0 ≤ z
    · obtain ⟨zn, rfl⟩ : ∃ zn : Nat, z = zn := ⟨z.toNat, by omega⟩
      have HF := Lib.hid (show folV c i = [zn] by unfold folV hdV; rw [← HX.out, ← HZ.out]; simp)
      go_wp2_with (first
        | (at_builtin; refine wpList_append_sl rfl (.tmp 38) (.tmp 44) 23 rfl (B+2) 3 1 8 elInt (.slice none 0 0) 0 [] rfl (World.ownsRow_nil _ _ _ _) _ 1 1 [.int .i64 zn] rfl (sla_built _ #[.int .i64 zn] 3 rfl) (by intro u hu; simp at hu; subst hu; rfl) (by omega) (by unfold maxLen; omega) (by have := HSz1.out; simp; omega) ?_
           intro ao1 cap1 w2 hown hg
           have hbl := (HL1.out.alloc HL1.out.size (.cells #[.int .i64 zn] 3)).grown hg (by have := HL1.out.size; simp; omega) (by intro k hk; simp [Value.ownBlock] at hk)
           have hA := (HA1.out.alloc (.cells #[.int .i64 zn] 3)).grown hg (by simp [Value.ownBlock])
           have hR := (HR1.out.alloc (.cells #[.int .i64 zn] 3)).grown hg (by simp [Value.ownBlock])
           have HO1 := Lib.hid hown
           have HL2 := Lib.hid hbl
           have HA2 := Lib.hid hA
           have HR2 := Lib.hid hR
           have HSz2 := Lib.hid (show B + 2 ≤ w2.heap.size by have := HSz1.out; have := hg.size; simp at this; omega)
           have b0 : w2.cell? ⟨B, 0, none⟩ = some (.slice (some ad) c.l.length lc) := hA.cell 0 rfl
           have r0 : w2.cell? ⟨B+1, 0, none⟩ = some (.int .i64 7) := hR.cell 0 rfl
           clear hown hg hbl hA hR))
      go_ret
      exact ⟨ao1, cap1, by rw [HF.out]; rfl, HL2.out, by rw [HF.out]; exact own_mono (HO1.out) (by have := HBB.out; omega)⟩
    · have HF := Lib.hid (show folV c i = [] by unfold folV hdV; rw [← HX.out, ← HZ.out]; simp [hz0])
      go_wp2_with fail
      go_ret
      exact ⟨none, 0, by rw [HF.out]; rfl, HL1.out, by rw [HF.out]; exact own_mono (World.ownsRow_nil _ (B+2) _ _) (by have := HBB.out; omega)⟩
  · have hv1 := HV.out
    simp [insV, inB] at hv1
    obtain ⟨ja, rfl⟩ : ∃ ja : Nat, a = ja := ⟨a.toNat, by omega⟩
    clear hv1
    have HF := Lib.hid (show folV c i = ja :: nxV c i by unfold folV; rw [← HX.out]; simp)
    by_cases hnx : i + 1 < c.l.length
    · have hnx2 : (i : Int) + 1 < c.l.length := by omega
      have HF := Lib.hid (HF.out.trans (show _ = [ja, i + 1] by rw [show nxV c i = [i + 1] by unfold nxV; rw [if_pos hnx]]; try rfl))
      go_wp2_with (first
        | (at_builtin; refine wpList_append_sl rfl (.tmp 24) (.tmp 27) 23 rfl (B+2) 3 1 8 elInt (.slice none 0 0) 0 [] rfl (World.ownsRow_nil _ _ _ _) _ 1 1 [.int .i64 ja] rfl (sla_built _ #[.int .i64 ja] 3 rfl) (by intro u hu; simp at hu; subst hu; rfl) (by omega) (by unfold maxLen; omega) (by have := HSz1.out; simp; omega) ?_
           intro ao1 cap1 w2 hown hg
           have hbl := (HL1.out.alloc HL1.out.size (.cells #[.int .i64 ja] 3)).grown hg (by have := HL1.out.size; simp; omega) (by intro k hk; simp [Value.ownBlock] at hk)
           have hA := (HA1.out.alloc (.cells #[.int .i64 ja] 3)).grown hg (by simp [Value.ownBlock])
           have hR := (HR1.out.alloc (.cells #[.int .i64 ja] 3)).grown hg (by simp [Value.ownBlock])
           have HO1 := Lib.hid hown
           have HL2 := Lib.hid hbl
           have HA2 := Lib.hid hA
           have HR2 := Lib.hid hR
           have HSz2 := Lib.hid (show B + 2 ≤ w2.heap.size by have := HSz1.out; have := hg.size; simp at this; omega)
           have b0 : w2.cell? ⟨B, 0, none⟩ = some (.slice (some ad) c.l.length lc) := hA.cell 0 rfl
           have r0 : w2.cell? ⟨B+1, 0, none⟩ = some (.int .i64 8) := hR.cell 0 rfl
           clear hown hg hbl hA hR)
        | (at_builtin; refine wpList_append_sl rfl (.tmp 56) (.tmp 59) 23 rfl (B+2) 3 1 8 elInt (.slice ao1 1 cap1) 1 [.int .i64 ja] rfl (HO1.out.alloc _) _ 1 1 [.int .i64 ((i : Int) + 1)] rfl (sla_built _ #[.int .i64 ((i : Int) + 1)] 3 rfl) (by intro u hu; simp at hu; subst hu; rfl) (by omega) (by unfold maxLen; omega) (by have := HSz2.out; simp; omega) ?_
           intro ao2 cap2 w3 hown hg
           have hbl := (HL2.out.alloc HL2.out.size (.cells #[.int .i64 ((i : Int) + 1)] 3)).grown hg (by have := HL2.out.size; simp; omega) (by intro k hk; have := (HO1.out.lt k hk).1; have := HBB.out; omega)
           have hA := (HA2.out.alloc (.cells #[.int .i64 ((i : Int) + 1)] 3)).grown hg (own_ne HO1.out (by omega))
           have hR := (HR2.out.alloc (.cells #[.int .i64 ((i : Int) + 1)] 3)).grown hg (own_ne HO1.out (by omega))
           have HO2 := Lib.hid hown
           have HL3 := Lib.hid hbl
           have HA3 := Lib.hid hA
           have HR3 := Lib.hid hR
           have HSz3 := Lib.hid (show B + 2 ≤ w3.heap.size by have := HSz2.out; have := hg.size; simp at this; omega)
           have b0 : w3.cell? ⟨B, 0, none⟩ = some (.slice (some ad) c.l.length lc) := hA.cell 0 rfl
           have r0 : w3.cell? ⟨B+1, 0, none⟩ = some (.int .i64 8) := hR.cell 0 rfl
           clear hown hg hbl hA hR))
      go_ret
      exact ⟨ao2, cap2, by rw [HF.out]; rfl, HL3.out, by rw [HF.out]; exact own_mono (HO2.out) (by have := HBB.out; omega)⟩
    · have hnx2 : ¬ ((i : Int) + 1 < c.l.length) := by omega
      have HF := Lib.hid (HF.out.trans (show _ = [ja] by rw [show nxV c i = [] by unfold nxV; rw [if_neg hnx]]; try rfl))
      go_wp2_with (first
        | (at_builtin; refine wpList_append_sl rfl (.tmp 24) (.tmp 27) 23 rfl (B+2) 3 1 8 elInt (.slice none 0 0) 0 [] rfl (World.ownsRow_nil _ _ _ _) _ 1 1 [.int .i64 ja] rfl (sla_built _ #[.int .i64 ja] 3 rfl) (by intro u hu; simp at hu; subst hu; rfl) (by omega) (by unfold maxLen; omega) (by have := HSz1.out; simp; omega) ?_
           intro ao1 cap1 w2 hown hg
           have hbl := (HL1.out.alloc HL1.out.size (.cells #[.int .i64 ja] 3)).grown hg (by have := HL1.out.size; simp; omega) (by intro k hk; simp [Value.ownBlock] at hk)
           have hA := (HA1.out.alloc (.cells #[.int .i64 ja] 3)).grown hg (by simp [Value.ownBlock])
           have hR := (HR1.out.alloc (.cells #[.int .i64 ja] 3)).grown hg (by simp [Value.ownBlock])
           have HO1 := Lib.hid hown
           have HL2 := Lib.hid hbl
           have HA2 := Lib.hid hA
           have HR2 := Lib.hid hR
           have HSz2 := Lib.hid (show B + 2 ≤ w2.heap.size by have := HSz1.out; have := hg.size; simp at this; omega)
           have b0 : w2.cell? ⟨B, 0, none⟩ = some (.slice (some ad) c.l.length lc) := hA.cell 0 rfl
           have r0 : w2.cell? ⟨B+1, 0, none⟩ = some (.int .i64 8) := hR.cell 0 rfl
           clear hown hg hbl hA hR))
      go_ret
      exact ⟨ao1, cap1, by rw [HF.out]; rfl, HL2.out, by rw [HF.out]; exact own_mono (HO1.out) (by have := HBB.out; omega)⟩
  · have HF := Lib.hid (show folV c i = nxV c i by unfold folV; rw [← HX.out]; simp)
    by_cases hnx : i + 1 < c.l.length
    · have hnx2 : (i : Int) + 1 < c.l.length := by omega
      have HF := Lib.hid (HF.out.trans (show _ = [i + 1] by rw [show nxV c i = [i + 1] by unfold nxV; rw [if_pos hnx]]; try rfl))
      go_wp2_with (first
        | (at_builtin; refine wpList_append_sl rfl (.tmp 56) (.tmp 59) 23 rfl (B+2) 3 1 8 elInt (.slice none 0 0) 0 [] rfl (World.ownsRow_nil _ _ _ _) _ 1 1 [.int .i64 ((i : Int) + 1)] rfl (sla_built _ #[.int .i64 ((i : Int) + 1)] 3 rfl) (by intro u hu; simp at hu; subst hu; rfl) (by omega) (by unfold maxLen; omega) (by have := HSz1.out; simp; omega) ?_
           intro ao2 cap2 w2 hown hg
           have hbl := (HL1.out.alloc HL1.out.size (.cells #[.int .i64 ((i : Int) + 1)] 3)).grown hg (by have := HL1.out.size; simp; omega) (by intro k hk; simp [Value.ownBlock] at hk)
           have hA := (HA1.out.alloc (.cells #[.int .i64 ((i : Int) + 1)] 3)).grown hg (by simp [Value.ownBlock])
           have hR := (HR1.out.alloc (.cells #[.int .i64 ((i : Int) + 1)] 3)).grown hg (by simp [Value.ownBlock])
           have HO2 := Lib.hid hown
           have HL2 := Lib.hid hbl
           have HA2 := Lib.hid hA
           have HR2 := Lib.hid hR
           have HSz2 := Lib.hid (show B + 2 ≤ w2.heap.size by have := HSz1.out; have := hg.size; simp at this; omega)
           have b0 : w2.cell? ⟨B, 0, none⟩ = some (.slice (some ad) c.l.length lc) := hA.cell 0 rfl
           have r0 : w2.cell? ⟨B+1, 0, none⟩ = some (.int .i64 11) := hR.cell 0 rfl
           clear hown hg hbl hA hR))
      go_ret
      exact ⟨ao2, cap2, by rw [HF.out]; rfl, HL2.out, by rw [HF.out]; exact own_mono (HO2.out) (by have := HBB.out; omega)⟩
    · have hnx2 : ¬ ((i : Int) + 1 < c.l.length) := by omega
      have HF := Lib.hid (HF.out.trans (show _ = [] by rw [show nxV c i = [] by unfold nxV; rw [if_neg hnx]]; try rfl))
      go_wp2_with fail
      go_ret
      exact ⟨none, 0, by rw [HF.out]; rfl, HL1.out, by rw [HF.out]; exact own_mono (World.ownsRow_nil _ (B+2) _ _) (by have := HBB.out; omega)⟩
  · have HF := Lib.hid (show folV c i = nxV c i by unfold folV; rw [← HX.out]; simp)
    by_cases hnx : i + 1 < c.l.length
    · have hnx2 : (i : Int) + 1 < c.l.length := by omega
      have HF := Lib.hid (HF.out.trans (show _ = [i + 1] by rw [show nxV c i = [i + 1] by unfold nxV; rw [if_pos hnx]]; try rfl))
      go_wp2_with (first
        | (at_builtin; refine wpList_append_sl rfl (.tmp 56) (.tmp 59) 23 rfl (B+2) 3 1 8 elInt (.slice none 0 0) 0 [] rfl (World.ownsRow_nil _ _ _ _) _ 1 1 [.int .i64 ((i : Int) + 1)] rfl (sla_built _ #[.int .i64 ((i : Int) + 1)] 3 rfl) (by intro u hu; simp at hu; subst hu; rfl) (by omega) (by unfold maxLen; omega) (by have := HSz1.out; simp; omega) ?_
           intro ao2 cap2 w2 hown hg
           have hbl := (HL1.out.alloc HL1.out.size (.cells #[.int .i64 ((i : Int) + 1)] 3)).grown hg (by have := HL1.out.size; simp; omega) (by intro k hk; simp [Value.ownBlock] at hk)
           have hA := (HA1.out.alloc (.cells #[.int .i64 ((i : Int) + 1)] 3)).grown hg (by simp [Value.ownBlock])
           have hR := (HR1.out.alloc (.cells #[.int .i64 ((i : Int) + 1)] 3)).grown hg (by simp [Value.ownBlock])
           have HO2 := Lib.hid hown
           have HL2 := Lib.hid hbl
           have HA2 := Lib.hid hA
           have HR2 := Lib.hid hR
           have HSz2 := Lib.hid (show B + 2 ≤ w2.heap.size by have := HSz1.out; have := hg.size; simp at this; omega)
           have b0 : w2.cell? ⟨B, 0, none⟩ = some (.slice (some ad) c.l.length lc) := hA.cell 0 rfl
           have r0 : w2.cell? ⟨B+1, 0, none⟩ = some (.int .i64 12) := hR.cell 0 rfl
           clear hown hg hbl hA hR))
      go_ret
      exact ⟨ao2, cap2, by rw [HF.out]; rfl, HL2.out, by rw [HF.out]; exact own_mono (HO2.out) (by have := HBB.out; omega)⟩
    · have hnx2 : ¬ ((i : Int) + 1 < c.l.length) := by omega
      have HF := Lib.hid (HF.out.trans (show _ = [] by rw [show nxV c i = [] by unfold nxV; rw [if_neg hnx]]; try rfl))
      go_wp2_with fail
      go_ret
      exact ⟨none, 0, by rw [HF.out]; rfl, HL1.out, by rw [HF.out]; exact own_mono (World.ownsRow_nil _ (B+2) _ _) (by have := HBB.out; omega)⟩
  · have HF := Lib.hid (show folV c i = nxV c i by unfold folV; rw [← HX.out]; simp)
    by_cases hnx : i + 1 < c.l.length
    · have hnx2 : (i : Int) + 1 < c.l.length := by omega
      have HF := Lib.hid (HF.out.trans (show _ = [i + 1] by rw [show nxV c i = [i + 1] by unfold nxV; rw [if_pos hnx]]; try rfl))
      go_wp2_with (first
        | (at_builtin; refine wpList_append_sl rfl (.tmp 56) (.tmp 59) 23 rfl (B+2) 3 1 8 elInt (.slice none 0 0) 0 [] rfl (World.ownsRow_nil _ _ _ _) _ 1 1 [.int .i64 ((i : Int) + 1)] rfl (sla_built _ #[.int .i64 ((i : Int) + 1)] 3 rfl) (by intro u hu; simp at hu; subst hu; rfl) (by omega) (by unfold maxLen; omega) (by have := HSz1.out; simp; omega) ?_
           intro ao2 cap2 w2 hown hg
           have hbl := (HL1.out.alloc HL1.out.size (.cells #[.int .i64 ((i : Int) + 1)] 3)).grown hg (by have := HL1.out.size; simp; omega) (by intro k hk; simp [Value.ownBlock] at hk)
           have hA := (HA1.out.alloc (.cells #[.int .i64 ((i : Int) + 1)] 3)).grown hg (by simp [Value.ownBlock])
           have hR := (HR1.out.alloc (.cells #[.int .i64 ((i : Int) + 1)] 3)).grown hg (by simp [Value.ownBlock])
           have HO2 := Lib.hid hown
           have HL2 := Lib.hid hbl
           have HA2 := Lib.hid hA
           have HR2 := Lib.hid hR
           have HSz2 := Lib.hid (show B + 2 ≤ w2.heap.size by have := HSz1.out; have := hg.size; simp at this; omega)
           have b0 : w2.cell? ⟨B, 0, none⟩ = some (.slice (some ad) c.l.length lc) := hA.cell 0 rfl
           have r0 : w2.cell? ⟨B+1, 0, none⟩ = some (.int .i64 13) := hR.cell 0 rfl
           clear hown hg hbl hA hR))
      go_ret
      exact ⟨ao2, cap2, by rw [HF.out]; rfl, HL2.out, by rw [HF.out]; exact own_mono (HO2.out) (by have := HBB.out; omega)⟩
    · have hnx2 : ¬ ((i : Int) + 1 < c.l.length) := by omega
      have HF := Lib.hid (HF.out.trans (show _ = [] by rw [show nxV c i = [] by unfold nxV; rw [if_neg hnx]]; try rfl))
      go_wp2_with fail
      go_ret
      exact ⟨none, 0, by rw [HF.out]; rfl, HL1.out, by rw [HF.out]; exact own_mono (World.ownsRow_nil _ (B+2) _ _) (by have := HBB.out; omega)⟩
  · by_cases hz0 : 0 ≤ z
    · obtain ⟨zn, rfl⟩ : ∃ zn : Nat, z = zn := ⟨z.toNat, by omega⟩
      have HF := Lib.hid (show folV c i = [zn] ++ nxV c i by unfold folV hdV; rw [← HX.out, ← HZ.out]; simp)
      by_cases hnx : i + 1 < c.l.length
      · have hnx2 : (i : Int) + 1 < c.l.length := by omega
        have HF := Lib.hid (HF.out.trans (show _ = [zn, i + 1] by rw [show nxV c i = [i + 1] by unfold nxV; rw [if_pos hnx]]; try rfl))
        go_wp2_with (first
          | (at_builtin; refine wpList_append_sl rfl (.tmp 38) (.tmp 44) 23 rfl (B+2) 3 1 8 elInt (.slice none 0 0) 0 [] rfl (World.ownsRow_nil _ _ _ _) _ 1 1 [.int .i64 zn] rfl (sla_built _ #[.int .i64 zn] 3 rfl) (by intro u hu; simp at hu; subst hu; rfl) (by omega) (by unfold maxLen; omega) (by have := HSz1.out; simp; omega) ?_
             intro ao1 cap1 w2 hown hg
             have hbl := (HL1.out.alloc HL1.out.size (.cells #[.int .i64 zn] 3)).grown hg (by have := HL1.out.size; simp; omega) (by intro k hk; simp [Value.ownBlock] at hk)
             have hA := (HA1.out.alloc (.cells #[.int .i64 zn] 3)).grown hg (by simp [Value.ownBlock])
             have hR := (HR1.out.alloc (.cells #[.int .i64 zn] 3)).grown hg (by simp [Value.ownBlock])
             have HO1 := Lib.hid hown
             have HL2 := Lib.hid hbl
             have HA2 := Lib.hid hA
             have HR2 := Lib.hid hR
             have HSz2 := Lib.hid (show B + 2 ≤ w2.heap.size by have := HSz1.out; have := hg.size; simp at this; omega)
             have b0 : w2.cell? ⟨B, 0, none⟩ = some (.slice (some ad) c.l.length lc) := hA.cell 0 rfl
             have r0 : w2.cell? ⟨B+1, 0, none⟩ = some (.int .i64 14) := hR.cell 0 rfl
             clear hown hg hbl hA hR)
          | (at_builtin; refine wpList_append_sl rfl (.tmp 56) (.tmp 59) 23 rfl (B+2) 3 1 8 elInt (.slice ao1 1 cap1) 1 [.int .i64 zn] rfl (HO1.out.alloc _) _ 1 1 [.int .i64 ((i : Int) + 1)] rfl (sla_built _ #[.int .i64 ((i : Int) + 1)] 3 rfl) (by intro u hu; simp at hu; subst hu; rfl) (by omega) (by unfold maxLen; omega) (by have := HSz2.out; simp; omega) ?_
             intro ao2 cap2 w3 hown hg
             have hbl := (HL2.out.alloc HL2.out.size (.cells #[.int .i64 ((i : Int) + 1)] 3)).grown hg (by have := HL2.out.size; simp; omega) (by intro k hk; have := (HO1.out.lt k hk).1; have := HBB.out; omega)
             have hA := (HA2.out.alloc (.cells #[.int .i64 ((i : Int) + 1)] 3)).grown hg (own_ne HO1.out (by omega))
             have hR := (HR2.out.alloc (.cells #[.int .i64 ((i : Int) + 1)] 3)).grown hg (own_ne HO1.out (by omega))
             have HO2 := Lib.hid hown
             have HL3 := Lib.hid hbl
             have HA3 := Lib.hid hA
             have HR3 := Lib.hid hR
             have HSz3 := Lib.hid (show B + 2 ≤ w3.heap.size by have := HSz2.out; have := hg.size; simp at this; omega)
             have b0 : w3.cell? ⟨B, 0, none⟩ = some (.slice (some ad) c.l.length lc) := hA.cell 0 rfl
             have r0 : w3.cell? ⟨B+1, 0, none⟩ = some (.int .i64 14) := hR.cell 0 rfl
             clear hown hg hbl hA hR))
        go_ret
        exact ⟨ao2, cap2, by rw [HF.out]; rfl, HL3.out, by rw [HF.out]; exact own_mono (HO2.out) (by have := HBB.out; omega)⟩
      · have hnx2 : ¬ ((i : Int) + 1 < c.l.length) := by omega
        have HF := Lib.hid (HF.out.trans (show _ = [zn] by rw [show nxV c i = [] by unfold nxV; rw [if_neg hnx]]; try rfl))
        go_wp2_with (first
          | (at_builtin; refine wpList_append_sl rfl (.tmp 38) (.tmp 44) 23 rfl (B+2) 3 1 8 elInt (.slice none 0 0) 0 [] rfl (World.ownsRow_nil _ _ _ _) _ 1 1 [.int .i64 zn] rfl (sla_built _ #[.int .i64 zn] 3 rfl) (by intro u hu; simp at hu; subst hu; rfl) (by omega) (by unfold maxLen; omega) (by have := HSz1.out; simp; omega) ?_
             intro ao1 cap1 w2 hown hg
             have hbl := (HL1.out.alloc HL1.out.size (.cells #[.int .i64 zn] 3)).grown hg (by have := HL1.out.size; simp; omega) (by intro k hk; simp [Value.ownBlock] at hk)
             have hA := (HA1.out.alloc (.cells #[.int .i64 zn] 3)).grown hg (by simp [Value.ownBlock])
             have hR := (HR1.out.alloc (.cells #[.int .i64 zn] 3)).grown hg (by simp [Value.ownBlock])
             have HO1 := Lib.hid hown
             have HL2 := Lib.hid hbl
             have HA2 := Lib.hid hA
             have HR2 := Lib.hid hR
             have HSz2 := Lib.hid (show B + 2 ≤ w2.heap.size by have := HSz1.out; have := hg.size; simp at this; omega)
             have b0 : w2.cell? ⟨B, 0, none⟩ = some (.slice (some ad) c.l.length lc) := hA.cell 0 rfl
             have r0 : w2.cell? ⟨B+1, 0, none⟩ = some (.int .i64 14) := hR.cell 0 rfl
             clear hown hg hbl hA hR))
        go_ret
        exact ⟨ao1, cap1, by rw [HF.out]; rfl, HL2.out, by rw [HF.out]; exact own_mono (HO1.out) (by have := HBB.out; omega)⟩
    · have HF := Lib.hid (show folV c i = nxV c i by unfold folV hdV; rw [← HX.out, ← HZ.out]; simp [hz0])
      by_cases hnx : i + 1 < c.l.length
      · have hnx2 : (i : Int) + 1 < c.l.length := by omega
        have HF := Lib.hid (HF.out.trans (show _ = [i + 1] by rw [show nxV c i = [i + 1] by unfold nxV; rw [if_pos hnx]]; try rfl))
        go_wp2_with (first
          | (at_builtin; refine wpList_append_sl rfl (.tmp 56) (.tmp 59) 23 rfl (B+2) 3 1 8 elInt (.slice none 0 0) 0 [] rfl (World.ownsRow_nil _ _ _ _) _ 1 1 [.int .i64 ((i : Int) + 1)] rfl (sla_built _ #[.int .i64 ((i : Int) + 1)] 3 rfl) (by intro u hu; simp at hu; subst hu; rfl) (by omega) (by unfold maxLen; omega) (by have := HSz1.out; simp; omega) ?_
             intro ao2 cap2 w2 hown hg
             have hbl := (HL1.out.alloc HL1.out.size (.cells #[.int .i64 ((i : Int) + 1)] 3)).grown hg (by have := HL1.out.size; simp; omega) (by intro k hk; simp [Value.ownBlock] at hk)
             have hA := (HA1.out.alloc (.cells #[.int .i64 ((i : Int) + 1)] 3)).grown hg (by simp [Value.ownBlock])
             have hR := (HR1.out.alloc (.cells #[.int .i64 ((i : Int) + 1)] 3)).grown hg (by simp [Value.ownBlock])
             have HO2 := Lib.hid hown
             have HL2 := Lib.hid hbl
             have HA2 := Lib.hid hA
             have HR2 := Lib.hid hR
             have HSz2 := Lib.hid (show B + 2 ≤ w2.heap.size by have := HSz1.out; have := hg.size; simp at this; omega)
             have b0 : w2.cell? ⟨B, 0, none⟩ = some (.slice (some ad) c.l.length lc) := hA.cell 0 rfl
             have r0 : w2.cell? ⟨B+1, 0, none⟩ = some (.int .i64 14) := hR.cell 0 rfl
             clear hown hg hbl hA hR))
        go_ret
        exact ⟨ao2, cap2, by rw [HF.out]; rfl, HL2.out, by rw [HF.out]; exact own_mono (HO2.out) (by have := HBB.out; omega)⟩
      · have hnx2 : ¬ ((i : Int) + 1 < c.l.length) := by omega
        have HF := Lib.hid (HF.out.trans (show _ = [] by rw [show nxV c i = [] by unfold nxV; rw [if_neg hnx]]; try rfl))
        go_wp2_with fail
        go_ret
        exact ⟨none, 0, by rw [HF.out]; rfl, HL1.out, by rw [HF.out]; exact own_mono (World.ownsRow_nil _ (B+2) _ _) (by have := HBB.out; omega)⟩
  · have HF := Lib.hid (show folV c i = nxV c i by unfold folV; rw [← HX.out]; simp)
    by_cases hnx : i + 1 < c.l.length
    · have hnx2 : (i : Int) + 1 < c.l.length := by omega
      have HF := Lib.hid (HF.out.trans (show _ = [i + 1] by rw [show nxV c i = [i + 1] by unfold nxV; rw [if_pos hnx]]; try rfl))
      go_wp2_with (first
        | (at_builtin; refine wpList_append_sl rfl (.tmp 56) (.tmp 59) 23 rfl (B+2) 3 1 8 elInt (.slice none 0 0) 0 [] rfl (World.ownsRow_nil _ _ _ _) _ 1 1 [.int .i64 ((i : Int) + 1)] rfl (sla_built _ #[.int .i64 ((i : Int) + 1)] 3 rfl) (by intro u hu; simp at hu; subst hu; rfl) (by omega) (by unfold maxLen; omega) (by have := HSz1.out; simp; omega) ?_
           intro ao2 cap2 w2 hown hg
           have hbl := (HL1.out.alloc HL1.out.size (.cells #[.int .i64 ((i : Int) + 1)] 3)).grown hg (by have := HL1.out.size; simp; omega) (by intro k hk; simp [Value.ownBlock] at hk)
           have hA := (HA1.out.alloc (.cells #[.int .i64 ((i : Int) + 1)] 3)).grown hg (by simp [Value.ownBlock])
           have hR := (HR1.out.alloc (.cells #[.int .i64 ((i : Int) + 1)] 3)).grown hg (by simp [Value.ownBlock])
           have HO2 := Lib.hid hown
           have HL2 := Lib.hid hbl
           have HA2 := Lib.hid hA
           have HR2 := Lib.hid hR
           have HSz2 := Lib.hid (show B + 2 ≤ w2.heap.size by have := HSz1.out; have := hg.size; simp at this; omega)
           have b0 : w2.cell? ⟨B, 0, none⟩ = some (.slice (some ad) c.l.length lc) := hA.cell 0 rfl
           have r0 : w2.cell? ⟨B+1, 0, none⟩ = some (.int .i64 15) := hR.cell 0 rfl
           clear hown hg hbl hA hR))
      go_ret
      exact ⟨ao2, cap2, by rw [HF.out]; rfl, HL2.out, by rw [HF.out]; exact own_mono (HO2.out) (by have := HBB.out; omega)⟩
    · have hnx2 : ¬ ((i : Int) + 1 < c.l.length) := by omega
      have HF := Lib.hid (HF.out.trans (show _ = [] by rw [show nxV c i = [] by unfold nxV; rw [if_neg hnx]]; try rfl))
      go_wp2_with fail
      go_ret
      exact ⟨none, 0, by rw [HF.out]; rfl, HL1.out, by rw [HF.out]; exact own_mono (World.ownsRow_nil _ (B+2) _ _) (by have := HBB.out; omega)⟩
  · have HF := Lib.hid (show folV c i = nxV c i by unfold folV; rw [← HX.out]; simp)
    by_cases hnx : i + 1 < c.l.length
    · have hnx2 : (i : Int) + 1 < c.l.length := by omega
      have HF := Lib.hid (HF.out.trans (show _ = [i + 1] by rw [show nxV c i = [i + 1] by unfold nxV; rw [if_pos hnx]]; try rfl))
      go_wp2_with (first
        | (at_builtin; refine wpList_append_sl rfl (.tmp 56) (.tmp 59) 23 rfl (B+2) 3 1 8 elInt (.slice none 0 0) 0 [] rfl (World.ownsRow_nil _ _ _ _) _ 1 1 [.int .i64 ((i : Int) + 1)] rfl (sla_built _ #[.int .i64 ((i : Int) + 1)] 3 rfl) (by intro u hu; simp at hu; subst hu; rfl) (by omega) (by unfold maxLen; omega) (by have := HSz1.out; simp; omega) ?_
           intro ao2 cap2 w2 hown hg
           have hbl := (HL1.out.alloc HL1.out.size (.cells #[.int .i64 ((i : Int) + 1)] 3)).grown hg (by have := HL1.out.size; simp; omega) (by intro k hk; simp [Value.ownBlock] at hk)
           have hA := (HA1.out.alloc (.cells #[.int .i64 ((i : Int) + 1)] 3)).grown hg (by simp [Value.ownBlock])
           have hR := (HR1.out.alloc (.cells #[.int .i64 ((i : Int) + 1)] 3)).grown hg (by simp [Value.ownBlock])
           have HO2 := Lib.hid hown
           have HL2 := Lib.hid hbl
           have HA2 := Lib.hid hA
           have HR2 := Lib.hid hR
           have HSz2 := Lib.hid (show B + 2 ≤ w2.heap.size by have := HSz1.out; have := hg.size; simp at this; omega)
           have b0 : w2.cell? ⟨B, 0, none⟩ = some (.slice (some ad) c.l.length lc) := hA.cell 0 rfl
           have r0 : w2.cell? ⟨B+1, 0, none⟩ = some (.int .i64 16) := hR.cell 0 rfl
           clear hown hg hbl hA hR))
      go_ret
      exact ⟨ao2, cap2, by rw [HF.out]; rfl, HL2.out, by rw [HF.out]; exact own_mono (HO2.out) (by have := HBB.out; omega)⟩
    · have hnx2 : ¬ ((i : Int) + 1 < c.l.length) := by omega
      have HF := Lib.hid (HF.out.trans (show _ = [] by rw [show nxV c i = [] by unfold nxV; rw [if_neg hnx]]; try rfl))
      go_wp2_with fail
      go_ret
      exact ⟨none, 0, by rw [HF.out]; rfl, HL1.out, by rw [HF.out]; exact own_mono (World.ownsRow_nil _ (B+2) _ _) (by have := HBB.out; omega)⟩
  · exfalso
    have hv1 := HV.out
    rw [show insV ⟨d, a, b, c'⟩ c.l.length = false by unfold insV; dsimp only; rw [if_neg (by omega), if_neg (by omega), if_neg (by omega), if_neg (by omega), if_neg (by omega), if_neg (by omega), if_neg (by omega), if_neg (by omega), if_neg (by omega)]] at hv1
    cases hv1
  --END

end Go.Proofs.Ytignlfcjlbijaaa
