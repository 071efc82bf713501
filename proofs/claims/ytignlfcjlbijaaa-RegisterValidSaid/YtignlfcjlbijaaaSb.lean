/- Where a run can go behind an instruction (the reference's follows). -/
import Derived.Test.YtignlfcjlbijaaaRw
import Derived.Test.YtignlfcjlbijaaaRd
import Derived.Deep.Cut
namespace Go.Proofs.Ytignlfcjlbijaaa
open Go.RowKit

def rfolV (c : Cd) (i : Nat) : List Int :=
  let x := c.l.getD i default
  if x.d = 0 then [] else if x.d = 4 then [x.a] else if x.d = 5 ∨ x.d = 8 then [x.a, (i : Int) + 1]
  else if x.d = 7 then [c.h.getD i 0] else if x.d = 14 then [c.h.getD i 0, (i : Int) + 1] else [(i : Int) + 1]

set_option maxHeartbeats 4000000 in
theorem rfollows_any (W : World) (lo : Option Addr) (lc : Nat) (ho : Option Addr) (hc : Nat) (c : Cd) (hcd : CdAt W lo lc ho hc c) (hv : codeV c = true) (i : Nat) (hi : i < c.l.length) :
    Calls Try.prog 36 #[.agg #[.slice lo c.l.length lc, .slice ho c.h.length hc], .int .i64 i] W fun e w' => ∃ so sc, e = .returned (.slice so (rfolV c i).length sc) ∧ Below W.heap.size W w' ∧ w'.ownsRow W.heap.size 3 1 (.slice so (rfolV c i).length sc) (rfolV c i).length ((rfolV c i).map (Value.int .i64)) := by
  obtain ⟨B, hB⟩ : ∃ B, B = W.heap.size := ⟨_, rfl⟩
  obtain ⟨v1, v2, v3, v4, v5⟩ := codeV_ins hv
  have hx := v4 _ hi
  have hz5 := v5 _ hi
  obtain ⟨x, hxx⟩ : ∃ x, x = c.l.getD i default := ⟨_, rfl⟩
  obtain ⟨z, hzz⟩ : ∃ z, z = c.h.getD i 0 := ⟨_, rfl⟩
  rw [← hxx] at hx
  rw [← hzz] at hz5
  simp only [inB, Bool.and_eq_true, decide_eq_true_eq] at hz5
  have hil : (i : Int) < c.l.length := by omega
  have hih : (i : Int) < c.h.length := by omega
  have hiw : IntKind.i64.wrap ((i : Int) + 1) = i + 1 := IntWalk.i64_in _ (by omega)
  obtain ⟨ad, had, e0, e1, e2, e3⟩ := (hcd.old ((Below.refl W.heap.size W).alloc (Nat.le_refl _) (.cells #[.slice lo c.l.length lc, .slice ho c.h.length hc] 25))).l.cell hi
  rw [← hxx] at e0 e1 e2 e3
  have HX := Lib.hid hxx
  have HZ := Lib.hid hzz
  have HV := Lib.hid hx
  have HC := Lib.hid hcd
  have HV3 := Lib.hid v3
  have HV2 := Lib.hid v2
  clear hxx hzz hx hcd v1 v2 v3 v4 v5 hv
  subst had
  go_enter Try.func36, Try.ntmps36
  go_upto_region 2 with fail
  have hbl := ((Below.refl W.heap.size W).alloc (Nat.le_refl _) (.cells #[.slice (some ad) c.l.length lc, .slice ho c.h.length hc] 25)).alloc (by simp) (.cells #[.int .i64 x.d, .int .i64 x.a, .int .i64 x.b, .int .i64 x.c] 60)
  have hA := (Blk.new' (w := W) #[.slice (some ad) c.l.length lc, .slice ho c.h.length hc] 25 hB).alloc (.cells #[.int .i64 x.d, .int .i64 x.a, .int .i64 x.b, .int .i64 x.c] 60)
  have hR : Blk ((W.alloc (.cells #[.slice (some ad) c.l.length lc, .slice ho c.h.length hc] 25)).alloc (.cells #[.int .i64 x.d, .int .i64 x.a, .int .i64 x.b, .int .i64 x.c] 60)) (B+1) #[.int .i64 x.d, .int .i64 x.a, .int .i64 x.b, .int .i64 x.c] 60 := Blk.new' _ _ (by simp [hB])
  have hSz : B + 2 ≤ ((W.alloc (.cells #[.slice (some ad) c.l.length lc, .slice ho c.h.length hc] 25)).alloc (.cells #[.int .i64 x.d, .int .i64 x.a, .int .i64 x.b, .int .i64 x.c] 60)).heap.size := by simp [hB]
  rw [← hB]
  have HBB := Lib.hid hB
  clear hB e0 e1 e2 e3
  generalize ((W.alloc (.cells #[.slice (some ad) c.l.length lc, .slice ho c.h.length hc] 25)).alloc (.cells #[.int .i64 x.d, .int .i64 x.a, .int .i64 x.b, .int .i64 x.c] 60)) = w1 at hbl hA hR hSz ⊢
  obtain ⟨ah, hah, eh⟩ := sla_int (HC.out.old hbl).h (show i < c.h.length by omega)
  rw [← HZ.out] at eh
  have HAh := Lib.hid hah
  subst hah
  have HL1 := Lib.hid hbl
  have HA1 := Lib.hid hA
  have HR1 := Lib.hid hR
  have HSz1 := Lib.hid hSz
  have lR := hR.lt
  have lB := hA.lt
  obtain ⟨d, a, b, c'⟩ := x
  have b0 : w1.cell? ⟨B, 0, none⟩ = some (.slice (some ad) c.l.length lc) := hA.cell 0 rfl
  have b1 : w1.cell? ⟨B, 1, none⟩ = some (.slice (some ah) c.h.length hc) := hA.cell 1 rfl
  have r0 : w1.cell? ⟨B+1, 0, none⟩ = some (.int .i64 d) := hR.cell 0 rfl
  have r1 : w1.cell? ⟨B+1, 1, none⟩ = some (.int .i64 a) := hR.cell 1 rfl
  clear hbl hA hR hSz
  --CASES
  rcases (show d = 0 ∨ d = 1 ∨ d = 2 ∨ d = 4 ∨ d = 5 ∨ d = 6 ∨ d = 7 ∨ d = 8 ∨ d = 11 ∨ d = 12 ∨ d = 13 ∨ d = 14 ∨ d = 15 ∨ d = 16 ∨ ¬ (d = 0 ∨ d = 1 ∨ d = 2 ∨ d = 4 ∨ d = 5 ∨ d = 6 ∨ d = 7 ∨ d = 8 ∨ d = 11 ∨ d = 12 ∨ d = 13 ∨ d = 14 ∨ d = 15 ∨ d = 16) by omega) with rfl | rfl | rfl | rfl | rfl | rfl | rfl | rfl | rfl | rfl | rfl | rfl | rfl | rfl | hd
  · have HF := Lib.hid (show rfolV c i = [] by unfold rfolV; rw [← HX.out]; simp)
    go_wp2_with fail
    go_ret
    exact ⟨none, 0, by rw [HF.out]; rfl, HL1.out, by rw [HF.out]; exact own_mono (World.ownsRow_nil _ (B+2) _ _) (by have := HBB.out; omega)⟩
  · have HF := Lib.hid (show rfolV c i = [(i : Int) + 1] by unfold rfolV; rw [← HX.out]; simp)
    go_wp2_with (first
      | (at_builtin; refine wpList_append_sl rfl (.tmp 59) (.tmp 62) 23 rfl (B+2) 3 1 8 elInt (.slice none 0 0) 0 [] rfl (World.ownsRow_nil _ _ _ _) _ 1 1 [.int .i64 ((i : Int) + 1)] rfl (sla_built _ #[.int .i64 ((i : Int) + 1)] 3 rfl) (by intro u hu; simp at hu; subst hu; rfl) (by omega) (by unfold maxLen; omega) (by have := HSz1.out; simp; omega) ?_
         intro ao2 cap2 w2 hown hg
         have hbl := (HL1.out.alloc HL1.out.size (.cells #[.int .i64 ((i : Int) + 1)] 3)).grown hg (by have := HL1.out.size; simp; omega) (by intro k hk; simp [Value.ownBlock] at hk)
         have hA := (HA1.out.alloc (.cells #[.int .i64 ((i : Int) + 1)] 3)).grown hg (by simp [Value.ownBlock])
         have hR := (HR1.out.alloc (.cells #[.int .i64 ((i : Int) + 1)] 3)).grown hg (by simp [Value.ownBlock])
         have HO2 := Lib.hid hown
         have HL2 := Lib.hid hbl
         have HA2 := Lib.hid hA
         have HR2 := Lib.hid hR
         have HSz2 := Lib.hid (show B + 2 ≤ w2.heap.size by have := HSz1.out; have := hg.size; simp at this; omega)
         have b0 : w2.cell? ⟨B, 0, none⟩ = some (.slice (some ad) c.l.length lc) := hA.cell 0 rfl
         have r0 : w2.cell? ⟨B+1, 0, none⟩ = some (.int .i64 1) := hR.cell 0 rfl
         have b1 : w2.cell? ⟨B, 1, none⟩ = some (.slice (some ah) c.h.length hc) := hA.cell 1 rfl
         clear hown hg hbl hA hR))
    go_ret
    exact ⟨ao2, cap2, by rw [HF.out]; rfl, HL2.out, by rw [HF.out]; exact own_mono (HO2.out) (by have := HBB.out; omega)⟩
  · have HF := Lib.hid (show rfolV c i = [(i : Int) + 1] by unfold rfolV; rw [← HX.out]; simp)
    go_wp2_with (first
      | (at_builtin; refine wpList_append_sl rfl (.tmp 59) (.tmp 62) 23 rfl (B+2) 3 1 8 elInt (.slice none 0 0) 0 [] rfl (World.ownsRow_nil _ _ _ _) _ 1 1 [.int .i64 ((i : Int) + 1)] rfl (sla_built _ #[.int .i64 ((i : Int) + 1)] 3 rfl) (by intro u hu; simp at hu; subst hu; rfl) (by omega) (by unfold maxLen; omega) (by have := HSz1.out; simp; omega) ?_
         intro ao2 cap2 w2 hown hg
         have hbl := (HL1.out.alloc HL1.out.size (.cells #[.int .i64 ((i : Int) + 1)] 3)).grown hg (by have := HL1.out.size; simp; omega) (by intro k hk; simp [Value.ownBlock] at hk)
         have hA := (HA1.out.alloc (.cells #[.int .i64 ((i : Int) + 1)] 3)).grown hg (by simp [Value.ownBlock])
         have hR := (HR1.out.alloc (.cells #[.int .i64 ((i : Int) + 1)] 3)).grown hg (by simp [Value.ownBlock])
         have HO2 := Lib.hid hown
         have HL2 := Lib.hid hbl
         have HA2 := Lib.hid hA
         have HR2 := Lib.hid hR
         have HSz2 := Lib.hid (show B + 2 ≤ w2.heap.size by have := HSz1.out; have := hg.size; simp at this; omega)
         have b0 : w2.cell? ⟨B, 0, none⟩ = some (.slice (some ad) c.l.length lc) := hA.cell 0 rfl
         have r0 : w2.cell? ⟨B+1, 0, none⟩ = some (.int .i64 2) := hR.cell 0 rfl
         have b1 : w2.cell? ⟨B, 1, none⟩ = some (.slice (some ah) c.h.length hc) := hA.cell 1 rfl
         clear hown hg hbl hA hR))
    go_ret
    exact ⟨ao2, cap2, by rw [HF.out]; rfl, HL2.out, by rw [HF.out]; exact own_mono (HO2.out) (by have := HBB.out; omega)⟩
  · have HF := Lib.hid (show rfolV c i = [a] by unfold rfolV; rw [← HX.out]; simp)
    go_wp2_with (first
      | (at_builtin; refine wpList_append_sl rfl (.tmp 25) (.tmp 28) 23 rfl (B+2) 3 1 8 elInt (.slice none 0 0) 0 [] rfl (World.ownsRow_nil _ _ _ _) _ 1 1 [.int .i64 a] rfl (sla_built _ #[.int .i64 a] 3 rfl) (by intro u hu; simp at hu; subst hu; rfl) (by omega) (by unfold maxLen; omega) (by have := HSz1.out; simp; omega) ?_
         intro ao1 cap1 w2 hown hg
         have hbl := (HL1.out.alloc HL1.out.size (.cells #[.int .i64 a] 3)).grown hg (by have := HL1.out.size; simp; omega) (by intro k hk; simp [Value.ownBlock] at hk)
         have hA := (HA1.out.alloc (.cells #[.int .i64 a] 3)).grown hg (by simp [Value.ownBlock])
         have hR := (HR1.out.alloc (.cells #[.int .i64 a] 3)).grown hg (by simp [Value.ownBlock])
         have HO1 := Lib.hid hown
         have HL2 := Lib.hid hbl
         have HA2 := Lib.hid hA
         have HR2 := Lib.hid hR
         have HSz2 := Lib.hid (show B + 2 ≤ w2.heap.size by have := HSz1.out; have := hg.size; simp at this; omega)
         have b0 : w2.cell? ⟨B, 0, none⟩ = some (.slice (some ad) c.l.length lc) := hA.cell 0 rfl
         have r0 : w2.cell? ⟨B+1, 0, none⟩ = some (.int .i64 4) := hR.cell 0 rfl
         have b1 : w2.cell? ⟨B, 1, none⟩ = some (.slice (some ah) c.h.length hc) := hA.cell 1 rfl
         clear hown hg hbl hA hR))
    go_ret
    exact ⟨ao1, cap1, by rw [HF.out]; rfl, HL2.out, by rw [HF.out]; exact own_mono (HO1.out) (by have := HBB.out; omega)⟩
  · have HF := Lib.hid (show rfolV c i = [a, (i : Int) + 1] by unfold rfolV; rw [← HX.out]; simp)
    go_wp2_with (first
      | (at_builtin; refine wpList_append_sl rfl (.tmp 25) (.tmp 28) 23 rfl (B+2) 3 1 8 elInt (.slice none 0 0) 0 [] rfl (World.ownsRow_nil _ _ _ _) _ 1 1 [.int .i64 a] rfl (sla_built _ #[.int .i64 a] 3 rfl) (by intro u hu; simp at hu; subst hu; rfl) (by omega) (by unfold maxLen; omega) (by have := HSz1.out; simp; omega) ?_
         intro ao1 cap1 w2 hown hg
         have hbl := (HL1.out.alloc HL1.out.size (.cells #[.int .i64 a] 3)).grown hg (by have := HL1.out.size; simp; omega) (by intro k hk; simp [Value.ownBlock] at hk)
         have hA := (HA1.out.alloc (.cells #[.int .i64 a] 3)).grown hg (by simp [Value.ownBlock])
         have hR := (HR1.out.alloc (.cells #[.int .i64 a] 3)).grown hg (by simp [Value.ownBlock])
         have HO1 := Lib.hid hown
         have HL2 := Lib.hid hbl
         have HA2 := Lib.hid hA
         have HR2 := Lib.hid hR
         have HSz2 := Lib.hid (show B + 2 ≤ w2.heap.size by have := HSz1.out; have := hg.size; simp at this; omega)
         have b0 : w2.cell? ⟨B, 0, none⟩ = some (.slice (some ad) c.l.length lc) := hA.cell 0 rfl
         have r0 : w2.cell? ⟨B+1, 0, none⟩ = some (.int .i64 5) := hR.cell 0 rfl
         have b1 : w2.cell? ⟨B, 1, none⟩ = some (.slice (some ah) c.h.length hc) := hA.cell 1 rfl
         clear hown hg hbl hA hR)
      | (at_builtin; refine wpList_append_sl rfl (.tmp 59) (.tmp 62) 23 rfl (B+2) 3 1 8 elInt (.slice ao1 1 cap1) 1 [.int .i64 a] rfl (HO1.out.alloc _) _ 1 1 [.int .i64 ((i : Int) + 1)] rfl (sla_built _ #[.int .i64 ((i : Int) + 1)] 3 rfl) (by intro u hu; simp at hu; subst hu; rfl) (by omega) (by unfold maxLen; omega) (by have := HSz2.out; simp; omega) ?_
         intro ao2 cap2 w3 hown hg
         have hbl := (HL2.out.alloc HL2.out.size (.cells #[.int .i64 ((i : Int) + 1)] 3)).grown hg (by have := HL2.out.size; simp; omega) (by intro k hk; have := (HO1.out.lt k hk).1; have := HBB.out; omega)
         have hA := (HA2.out.alloc (.cells #[.int .i64 ((i : Int) + 1)] 3)).grown hg (own_ne HO1.out (by omega))
         have hR := (HR2.out.alloc (.cells #[.int .i64 ((i : Int) + 1)] 3)).grown hg (own_ne HO1.out (by omega))
         have HO2 := Lib.hid hown
         have HL3 := Lib.hid hbl
         have HA3 := Lib.hid hA
         have HR3 := Lib.hid hR
         have HSz3 := Lib.hid (show B + 2 ≤ w3.heap.size by have := HSz2.out; have := hg.size; simp at this; omega)
         have b0 : w3.cell? ⟨B, 0, none⟩ = some (.slice (some ad) c.l.length lc) := hA.cell 0 rfl
         have r0 : w3.cell? ⟨B+1, 0, none⟩ = some (.int .i64 5) := hR.cell 0 rfl
         have b1 : w3.cell? ⟨B, 1, none⟩ = some (.slice (some ah) c.h.length hc) := hA.cell 1 rfl
         clear hown hg hbl hA hR))
    go_ret
    exact ⟨ao2, cap2, by rw [HF.out]; rfl, HL3.out, by rw [HF.out]; exact own_mono (HO2.out) (by have := HBB.out; omega)⟩
  · have HF := Lib.hid (show rfolV c i = [(i : Int) + 1] by unfold rfolV; rw [← HX.out]; simp)
    go_wp2_with (first
      | (at_builtin; refine wpList_append_sl rfl (.tmp 59) (.tmp 62) 23 rfl (B+2) 3 1 8 elInt (.slice none 0 0) 0 [] rfl (World.ownsRow_nil _ _ _ _) _ 1 1 [.int .i64 ((i : Int) + 1)] rfl (sla_built _ #[.int .i64 ((i : Int) + 1)] 3 rfl) (by intro u hu; simp at hu; subst hu; rfl) (by omega) (by unfold maxLen; omega) (by have := HSz1.out; simp; omega) ?_
         intro ao2 cap2 w2 hown hg
         have hbl := (HL1.out.alloc HL1.out.size (.cells #[.int .i64 ((i : Int) + 1)] 3)).grown hg (by have := HL1.out.size; simp; omega) (by intro k hk; simp [Value.ownBlock] at hk)
         have hA := (HA1.out.alloc (.cells #[.int .i64 ((i : Int) + 1)] 3)).grown hg (by simp [Value.ownBlock])
         have hR := (HR1.out.alloc (.cells #[.int .i64 ((i : Int) + 1)] 3)).grown hg (by simp [Value.ownBlock])
         have HO2 := Lib.hid hown
         have HL2 := Lib.hid hbl
         have HA2 := Lib.hid hA
         have HR2 := Lib.hid hR
         have HSz2 := Lib.hid (show B + 2 ≤ w2.heap.size by have := HSz1.out; have := hg.size; simp at this; omega)
         have b0 : w2.cell? ⟨B, 0, none⟩ = some (.slice (some ad) c.l.length lc) := hA.cell 0 rfl
         have r0 : w2.cell? ⟨B+1, 0, none⟩ = some (.int .i64 6) := hR.cell 0 rfl
         have b1 : w2.cell? ⟨B, 1, none⟩ = some (.slice (some ah) c.h.length hc) := hA.cell 1 rfl
         clear hown hg hbl hA hR))
    go_ret
    exact ⟨ao2, cap2, by rw [HF.out]; rfl, HL2.out, by rw [HF.out]; exact own_mono (HO2.out) (by have := HBB.out; omega)⟩
  · have HF := Lib.hid (show rfolV c i = [z] by unfold rfolV; rw [← HX.out, ← HZ.out]; simp)
    go_wp2_with (first
      | (at_builtin; refine wpList_append_sl rfl (.tmp 38) (.tmp 44) 23 rfl (B+2) 3 1 8 elInt (.slice none 0 0) 0 [] rfl (World.ownsRow_nil _ _ _ _) _ 1 1 [.int .i64 z] rfl (sla_built _ #[.int .i64 z] 3 rfl) (by intro u hu; simp at hu; subst hu; rfl) (by omega) (by unfold maxLen; omega) (by have := HSz1.out; simp; omega) ?_
         intro ao1 cap1 w2 hown hg
         have hbl := (HL1.out.alloc HL1.out.size (.cells #[.int .i64 z] 3)).grown hg (by have := HL1.out.size; simp; omega) (by intro k hk; simp [Value.ownBlock] at hk)
         have hA := (HA1.out.alloc (.cells #[.int .i64 z] 3)).grown hg (by simp [Value.ownBlock])
         have hR := (HR1.out.alloc (.cells #[.int .i64 z] 3)).grown hg (by simp [Value.ownBlock])
         have HO1 := Lib.hid hown
         have HL2 := Lib.hid hbl
         have HA2 := Lib.hid hA
         have HR2 := Lib.hid hR
         have HSz2 := Lib.hid (show B + 2 ≤ w2.heap.size by have := HSz1.out; have := hg.size; simp at this; omega)
         have b0 : w2.cell? ⟨B, 0, none⟩ = some (.slice (some ad) c.l.length lc) := hA.cell 0 rfl
         have r0 : w2.cell? ⟨B+1, 0, none⟩ = some (.int .i64 7) := hR.cell 0 rfl
         have b1 : w2.cell? ⟨B, 1, none⟩ = some (.slice (some ah) c.h.length hc) := hA.cell 1 rfl
         clear hown hg hbl hA hR))
    go_ret
    exact ⟨ao1, cap1, by rw [HF.out]; rfl, HL2.out, by rw [HF.out]; exact own_mono (HO1.out) (by have := HBB.out; omega)⟩
  · have HF := Lib.hid (show rfolV c i = [a, (i : Int) + 1] by unfold rfolV; rw [← HX.out]; simp)
    go_wp2_with (first
      | (at_builtin; refine wpList_append_sl rfl (.tmp 25) (.tmp 28) 23 rfl (B+2) 3 1 8 elInt (.slice none 0 0) 0 [] rfl (World.ownsRow_nil _ _ _ _) _ 1 1 [.int .i64 a] rfl (sla_built _ #[.int .i64 a] 3 rfl) (by intro u hu; simp at hu; subst hu; rfl) (by omega) (by unfold maxLen; omega) (by have := HSz1.out; simp; omega) ?_
         intro ao1 cap1 w2 hown hg
         have hbl := (HL1.out.alloc HL1.out.size (.cells #[.int .i64 a] 3)).grown hg (by have := HL1.out.size; simp; omega) (by intro k hk; simp [Value.ownBlock] at hk)
         have hA := (HA1.out.alloc (.cells #[.int .i64 a] 3)).grown hg (by simp [Value.ownBlock])
         have hR := (HR1.out.alloc (.cells #[.int .i64 a] 3)).grown hg (by simp [Value.ownBlock])
         have HO1 := Lib.hid hown
         have HL2 := Lib.hid hbl
         have HA2 := Lib.hid hA
         have HR2 := Lib.hid hR
         have HSz2 := Lib.hid (show B + 2 ≤ w2.heap.size by have := HSz1.out; have := hg.size; simp at this; omega)
         have b0 : w2.cell? ⟨B, 0, none⟩ = some (.slice (some ad) c.l.length lc) := hA.cell 0 rfl
         have r0 : w2.cell? ⟨B+1, 0, none⟩ = some (.int .i64 8) := hR.cell 0 rfl
         have b1 : w2.cell? ⟨B, 1, none⟩ = some (.slice (some ah) c.h.length hc) := hA.cell 1 rfl
         clear hown hg hbl hA hR)
      | (at_builtin; refine wpList_append_sl rfl (.tmp 59) (.tmp 62) 23 rfl (B+2) 3 1 8 elInt (.slice ao1 1 cap1) 1 [.int .i64 a] rfl (HO1.out.alloc _) _ 1 1 [.int .i64 ((i : Int) + 1)] rfl (sla_built _ #[.int .i64 ((i : Int) + 1)] 3 rfl) (by intro u hu; simp at hu; subst hu; rfl) (by omega) (by unfold maxLen; omega) (by have := HSz2.out; simp; omega) ?_
         intro ao2 cap2 w3 hown hg
         have hbl := (HL2.out.alloc HL2.out.size (.cells #[.int .i64 ((i : Int) + 1)] 3)).grown hg (by have := HL2.out.size; simp; omega) (by intro k hk; have := (HO1.out.lt k hk).1; have := HBB.out; omega)
         have hA := (HA2.out.alloc (.cells #[.int .i64 ((i : Int) + 1)] 3)).grown hg (own_ne HO1.out (by omega))
         have hR := (HR2.out.alloc (.cells #[.int .i64 ((i : Int) + 1)] 3)).grown hg (own_ne HO1.out (by omega))
         have HO2 := Lib.hid hown
         have HL3 := Lib.hid hbl
         have HA3 := Lib.hid hA
         have HR3 := Lib.hid hR
         have HSz3 := Lib.hid (show B + 2 ≤ w3.heap.size by have := HSz2.out; have := hg.size; simp at this; omega)
         have b0 : w3.cell? ⟨B, 0, none⟩ = some (.slice (some ad) c.l.length lc) := hA.cell 0 rfl
         have r0 : w3.cell? ⟨B+1, 0, none⟩ = some (.int .i64 8) := hR.cell 0 rfl
         have b1 : w3.cell? ⟨B, 1, none⟩ = some (.slice (some ah) c.h.length hc) := hA.cell 1 rfl
         clear hown hg hbl hA hR))
    go_ret
    exact ⟨ao2, cap2, by rw [HF.out]; rfl, HL3.out, by rw [HF.out]; exact own_mono (HO2.out) (by have := HBB.out; omega)⟩
  · have HF := Lib.hid (show rfolV c i = [(i : Int) + 1] by unfold rfolV; rw [← HX.out]; simp)
    go_wp2_with (first
      | (at_builtin; refine wpList_append_sl rfl (.tmp 59) (.tmp 62) 23 rfl (B+2) 3 1 8 elInt (.slice none 0 0) 0 [] rfl (World.ownsRow_nil _ _ _ _) _ 1 1 [.int .i64 ((i : Int) + 1)] rfl (sla_built _ #[.int .i64 ((i : Int) + 1)] 3 rfl) (by intro u hu; simp at hu; subst hu; rfl) (by omega) (by unfold maxLen; omega) (by have := HSz1.out; simp; omega) ?_
         intro ao2 cap2 w2 hown hg
         have hbl := (HL1.out.alloc HL1.out.size (.cells #[.int .i64 ((i : Int) + 1)] 3)).grown hg (by have := HL1.out.size; simp; omega) (by intro k hk; simp [Value.ownBlock] at hk)
         have hA := (HA1.out.alloc (.cells #[.int .i64 ((i : Int) + 1)] 3)).grown hg (by simp [Value.ownBlock])
         have hR := (HR1.out.alloc (.cells #[.int .i64 ((i : Int) + 1)] 3)).grown hg (by simp [Value.ownBlock])
         have HO2 := Lib.hid hown
         have HL2 := Lib.hid hbl
         have HA2 := Lib.hid hA
         have HR2 := Lib.hid hR
         have HSz2 := Lib.hid (show B + 2 ≤ w2.heap.size by have := HSz1.out; have := hg.size; simp at this; omega)
         have b0 : w2.cell? ⟨B, 0, none⟩ = some (.slice (some ad) c.l.length lc) := hA.cell 0 rfl
         have r0 : w2.cell? ⟨B+1, 0, none⟩ = some (.int .i64 11) := hR.cell 0 rfl
         have b1 : w2.cell? ⟨B, 1, none⟩ = some (.slice (some ah) c.h.length hc) := hA.cell 1 rfl
         clear hown hg hbl hA hR))
    go_ret
    exact ⟨ao2, cap2, by rw [HF.out]; rfl, HL2.out, by rw [HF.out]; exact own_mono (HO2.out) (by have := HBB.out; omega)⟩
  · have HF := Lib.hid (show rfolV c i = [(i : Int) + 1] by unfold rfolV; rw [← HX.out]; simp)
    go_wp2_with (first
      | (at_builtin; refine wpList_append_sl rfl (.tmp 59) (.tmp 62) 23 rfl (B+2) 3 1 8 elInt (.slice none 0 0) 0 [] rfl (World.ownsRow_nil _ _ _ _) _ 1 1 [.int .i64 ((i : Int) + 1)] rfl (sla_built _ #[.int .i64 ((i : Int) + 1)] 3 rfl) (by intro u hu; simp at hu; subst hu; rfl) (by omega) (by unfold maxLen; omega) (by have := HSz1.out; simp; omega) ?_
         intro ao2 cap2 w2 hown hg
         have hbl := (HL1.out.alloc HL1.out.size (.cells #[.int .i64 ((i : Int) + 1)] 3)).grown hg (by have := HL1.out.size; simp; omega) (by intro k hk; simp [Value.ownBlock] at hk)
         have hA := (HA1.out.alloc (.cells #[.int .i64 ((i : Int) + 1)] 3)).grown hg (by simp [Value.ownBlock])
         have hR := (HR1.out.alloc (.cells #[.int .i64 ((i : Int) + 1)] 3)).grown hg (by simp [Value.ownBlock])
         have HO2 := Lib.hid hown
         have HL2 := Lib.hid hbl
         have HA2 := Lib.hid hA
         have HR2 := Lib.hid hR
         have HSz2 := Lib.hid (show B + 2 ≤ w2.heap.size by have := HSz1.out; have := hg.size; simp at this; omega)
         have b0 : w2.cell? ⟨B, 0, none⟩ = some (.slice (some ad) c.l.length lc) := hA.cell 0 rfl
         have r0 : w2.cell? ⟨B+1, 0, none⟩ = some (.int .i64 12) := hR.cell 0 rfl
         have b1 : w2.cell? ⟨B, 1, none⟩ = some (.slice (some ah) c.h.length hc) := hA.cell 1 rfl
         clear hown hg hbl hA hR))
    go_ret
    exact ⟨ao2, cap2, by rw [HF.out]; rfl, HL2.out, by rw [HF.out]; exact own_mono (HO2.out) (by have := HBB.out; omega)⟩
  · have HF := Lib.hid (show rfolV c i = [(i : Int) + 1] by unfold rfolV; rw [← HX.out]; simp)
    go_wp2_with (first
      | (at_builtin; refine wpList_append_sl rfl (.tmp 59) (.tmp 62) 23 rfl (B+2) 3 1 8 elInt (.slice none 0 0) 0 [] rfl (World.ownsRow_nil _ _ _ _) _ 1 1 [.int .i64 ((i : Int) + 1)] rfl (sla_built _ #[.int .i64 ((i : Int) + 1)] 3 rfl) (by intro u hu; simp at hu; subst hu; rfl) (by omega) (by unfold maxLen; omega) (by have := HSz1.out; simp; omega) ?_
         intro ao2 cap2 w2 hown hg
         have hbl := (HL1.out.alloc HL1.out.size (.cells #[.int .i64 ((i : Int) + 1)] 3)).grown hg (by have := HL1.out.size; simp; omega) (by intro k hk; simp [Value.ownBlock] at hk)
         have hA := (HA1.out.alloc (.cells #[.int .i64 ((i : Int) + 1)] 3)).grown hg (by simp [Value.ownBlock])
         have hR := (HR1.out.alloc (.cells #[.int .i64 ((i : Int) + 1)] 3)).grown hg (by simp [Value.ownBlock])
         have HO2 := Lib.hid hown
         have HL2 := Lib.hid hbl
         have HA2 := Lib.hid hA
         have HR2 := Lib.hid hR
         have HSz2 := Lib.hid (show B + 2 ≤ w2.heap.size by have := HSz1.out; have := hg.size; simp at this; omega)
         have b0 : w2.cell? ⟨B, 0, none⟩ = some (.slice (some ad) c.l.length lc) := hA.cell 0 rfl
         have r0 : w2.cell? ⟨B+1, 0, none⟩ = some (.int .i64 13) := hR.cell 0 rfl
         have b1 : w2.cell? ⟨B, 1, none⟩ = some (.slice (some ah) c.h.length hc) := hA.cell 1 rfl
         clear hown hg hbl hA hR))
    go_ret
    exact ⟨ao2, cap2, by rw [HF.out]; rfl, HL2.out, by rw [HF.out]; exact own_mono (HO2.out) (by have := HBB.out; omega)⟩
  · have HF := Lib.hid (show rfolV c i = [z, (i : Int) + 1] by unfold rfolV; rw [← HX.out, ← HZ.out]; simp)
    go_wp2_with (first
      | (at_builtin; refine wpList_append_sl rfl (.tmp 38) (.tmp 44) 23 rfl (B+2) 3 1 8 elInt (.slice none 0 0) 0 [] rfl (World.ownsRow_nil _ _ _ _) _ 1 1 [.int .i64 z] rfl (sla_built _ #[.int .i64 z] 3 rfl) (by intro u hu; simp at hu; subst hu; rfl) (by omega) (by unfold maxLen; omega) (by have := HSz1.out; simp; omega) ?_
         intro ao1 cap1 w2 hown hg
         have hbl := (HL1.out.alloc HL1.out.size (.cells #[.int .i64 z] 3)).grown hg (by have := HL1.out.size; simp; omega) (by intro k hk; simp [Value.ownBlock] at hk)
         have hA := (HA1.out.alloc (.cells #[.int .i64 z] 3)).grown hg (by simp [Value.ownBlock])
         have hR := (HR1.out.alloc (.cells #[.int .i64 z] 3)).grown hg (by simp [Value.ownBlock])
         have HO1 := Lib.hid hown
         have HL2 := Lib.hid hbl
         have HA2 := Lib.hid hA
         have HR2 := Lib.hid hR
         have HSz2 := Lib.hid (show B + 2 ≤ w2.heap.size by have := HSz1.out; have := hg.size; simp at this; omega)
         have b0 : w2.cell? ⟨B, 0, none⟩ = some (.slice (some ad) c.l.length lc) := hA.cell 0 rfl
         have r0 : w2.cell? ⟨B+1, 0, none⟩ = some (.int .i64 14) := hR.cell 0 rfl
         have b1 : w2.cell? ⟨B, 1, none⟩ = some (.slice (some ah) c.h.length hc) := hA.cell 1 rfl
         clear hown hg hbl hA hR)
      | (at_builtin; refine wpList_append_sl rfl (.tmp 59) (.tmp 62) 23 rfl (B+2) 3 1 8 elInt (.slice ao1 1 cap1) 1 [.int .i64 z] rfl (HO1.out.alloc _) _ 1 1 [.int .i64 ((i : Int) + 1)] rfl (sla_built _ #[.int .i64 ((i : Int) + 1)] 3 rfl) (by intro u hu; simp at hu; subst hu; rfl) (by omega) (by unfold maxLen; omega) (by have := HSz2.out; simp; omega) ?_
         intro ao2 cap2 w3 hown hg
         have hbl := (HL2.out.alloc HL2.out.size (.cells #[.int .i64 ((i : Int) + 1)] 3)).grown hg (by have := HL2.out.size; simp; omega) (by intro k hk; have := (HO1.out.lt k hk).1; have := HBB.out; omega)
         have hA := (HA2.out.alloc (.cells #[.int .i64 ((i : Int) + 1)] 3)).grown hg (own_ne HO1.out (by omega))
         have hR := (HR2.out.alloc (.cells #[.int .i64 ((i : Int) + 1)] 3)).grown hg (own_ne HO1.out (by omega))
         have HO2 := Lib.hid hown
         have HL3 := Lib.hid hbl
         have HA3 := Lib.hid hA
         have HR3 := Lib.hid hR
         have HSz3 := Lib.hid (show B + 2 ≤ w3.heap.size by have := HSz2.out; have := hg.size; simp at this; omega)
         have b0 : w3.cell? ⟨B, 0, none⟩ = some (.slice (some ad) c.l.length lc) := hA.cell 0 rfl
         have r0 : w3.cell? ⟨B+1, 0, none⟩ = some (.int .i64 14) := hR.cell 0 rfl
         have b1 : w3.cell? ⟨B, 1, none⟩ = some (.slice (some ah) c.h.length hc) := hA.cell 1 rfl
         clear hown hg hbl hA hR))
    go_ret
    exact ⟨ao2, cap2, by rw [HF.out]; rfl, HL3.out, by rw [HF.out]; exact own_mono (HO2.out) (by have := HBB.out; omega)⟩
  · have HF := Lib.hid (show rfolV c i = [(i : Int) + 1] by unfold rfolV; rw [← HX.out]; simp)
    go_wp2_with (first
      | (at_builtin; refine wpList_append_sl rfl (.tmp 59) (.tmp 62) 23 rfl (B+2) 3 1 8 elInt (.slice none 0 0) 0 [] rfl (World.ownsRow_nil _ _ _ _) _ 1 1 [.int .i64 ((i : Int) + 1)] rfl (sla_built _ #[.int .i64 ((i : Int) + 1)] 3 rfl) (by intro u hu; simp at hu; subst hu; rfl) (by omega) (by unfold maxLen; omega) (by have := HSz1.out; simp; omega) ?_
         intro ao2 cap2 w2 hown hg
         have hbl := (HL1.out.alloc HL1.out.size (.cells #[.int .i64 ((i : Int) + 1)] 3)).grown hg (by have := HL1.out.size; simp; omega) (by intro k hk; simp [Value.ownBlock] at hk)
         have hA := (HA1.out.alloc (.cells #[.int .i64 ((i : Int) + 1)] 3)).grown hg (by simp [Value.ownBlock])
         have hR := (HR1.out.alloc (.cells #[.int .i64 ((i : Int) + 1)] 3)).grown hg (by simp [Value.ownBlock])
         have HO2 := Lib.hid hown
         have HL2 := Lib.hid hbl
         have HA2 := Lib.hid hA
         have HR2 := Lib.hid hR
         have HSz2 := Lib.hid (show B + 2 ≤ w2.heap.size by have := HSz1.out; have := hg.size; simp at this; omega)
         have b0 : w2.cell? ⟨B, 0, none⟩ = some (.slice (some ad) c.l.length lc) := hA.cell 0 rfl
         have r0 : w2.cell? ⟨B+1, 0, none⟩ = some (.int .i64 15) := hR.cell 0 rfl
         have b1 : w2.cell? ⟨B, 1, none⟩ = some (.slice (some ah) c.h.length hc) := hA.cell 1 rfl
         clear hown hg hbl hA hR))
    go_ret
    exact ⟨ao2, cap2, by rw [HF.out]; rfl, HL2.out, by rw [HF.out]; exact own_mono (HO2.out) (by have := HBB.out; omega)⟩
  · have HF := Lib.hid (show rfolV c i = [(i : Int) + 1] by unfold rfolV; rw [← HX.out]; simp)
    go_wp2_with (first
      | (at_builtin; refine wpList_append_sl rfl (.tmp 59) (.tmp 62) 23 rfl (B+2) 3 1 8 elInt (.slice none 0 0) 0 [] rfl (World.ownsRow_nil _ _ _ _) _ 1 1 [.int .i64 ((i : Int) + 1)] rfl (sla_built _ #[.int .i64 ((i : Int) + 1)] 3 rfl) (by intro u hu; simp at hu; subst hu; rfl) (by omega) (by unfold maxLen; omega) (by have := HSz1.out; simp; omega) ?_
         intro ao2 cap2 w2 hown hg
         have hbl := (HL1.out.alloc HL1.out.size (.cells #[.int .i64 ((i : Int) + 1)] 3)).grown hg (by have := HL1.out.size; simp; omega) (by intro k hk; simp [Value.ownBlock] at hk)
         have hA := (HA1.out.alloc (.cells #[.int .i64 ((i : Int) + 1)] 3)).grown hg (by simp [Value.ownBlock])
         have hR := (HR1.out.alloc (.cells #[.int .i64 ((i : Int) + 1)] 3)).grown hg (by simp [Value.ownBlock])
         have HO2 := Lib.hid hown
         have HL2 := Lib.hid hbl
         have HA2 := Lib.hid hA
         have HR2 := Lib.hid hR
         have HSz2 := Lib.hid (show B + 2 ≤ w2.heap.size by have := HSz1.out; have := hg.size; simp at this; omega)
         have b0 : w2.cell? ⟨B, 0, none⟩ = some (.slice (some ad) c.l.length lc) := hA.cell 0 rfl
         have r0 : w2.cell? ⟨B+1, 0, none⟩ = some (.int .i64 16) := hR.cell 0 rfl
         have b1 : w2.cell? ⟨B, 1, none⟩ = some (.slice (some ah) c.h.length hc) := hA.cell 1 rfl
         clear hown hg hbl hA hR))
    go_ret
    exact ⟨ao2, cap2, by rw [HF.out]; rfl, HL2.out, by rw [HF.out]; exact own_mono (HO2.out) (by have := HBB.out; omega)⟩
  · exfalso
    have hv1 := HV.out
    rw [show insV ⟨d, a, b, c'⟩ c.l.length = false by unfold insV; dsimp only; rw [if_neg (by omega), if_neg (by omega), if_neg (by omega), if_neg (by omega), if_neg (by omega), if_neg (by omega), if_neg (by omega), if_neg (by omega), if_neg (by omega)]] at hv1
    cases hv1
  --END

end Go.Proofs.Ytignlfcjlbijaaa
