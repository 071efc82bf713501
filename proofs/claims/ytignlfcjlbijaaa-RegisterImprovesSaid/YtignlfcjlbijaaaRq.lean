/- sane: two words are added as the document says. -/
import Derived.Test.YtignlfcjlbijaaaRm
import Derived.Test.YtignlfcjlbijaaaRp
namespace Go.Proofs.Ytignlfcjlbijaaa
open Go.RowKit

def saneC : Cd := ⟨[⟨1, 0, 2, 0⟩, ⟨1, 1, 3, 0⟩, ⟨11, 2, 0, 1⟩, ⟨0, 2, 0, 0⟩], [-1, -1, -1, -1]⟩
theorem sane_ov : (runV saneC [] 10).ov = true := by kernel_rfl
theorem sane_res : (runV saneC [] 10).res = 5 := by kernel_rfl
theorem sane_cost : (runV saneC [] 10).cost = 3 := by kernel_rfl
theorem sane_e : runE saneC [] 10 = 0 := by kernel_rfl

set_option maxHeartbeats 4000000 in
theorem sane_any (W : World) : Calls Try.prog 9 #[] W fun e w' => e = .returned (.bool true) ∧ Below W.heap.size W w' := by
  go_enter Try.func9, Try.ntmps9
  go_wp2_with fail
  have hcd : CdAt ((((W.alloc (Obj.cells #[Value.int IntKind.i64 1, Value.int IntKind.i64 0, Value.int IntKind.i64 2, Value.int IntKind.i64 0, Value.int IntKind.i64 1, Value.int IntKind.i64 1, Value.int IntKind.i64 3, Value.int IntKind.i64 0, Value.int IntKind.i64 11, Value.int IntKind.i64 2, Value.int IntKind.i64 0, Value.int IntKind.i64 1, Value.int IntKind.i64 0, Value.int IntKind.i64 2, Value.int IntKind.i64 0, Value.int IntKind.i64 0] 53)).alloc (Obj.cells #[Value.int IntKind.i64 (-1), Value.int IntKind.i64 (-1), Value.int IntKind.i64 (-1), Value.int IntKind.i64 (-1)] 3))).alloc (Obj.cells #[Value.slice (some { block := W.heap.size, off := 0 }) 4 4, Value.slice (some { block := W.heap.size + 1, off := 0 }) 4 4] 30)) (some ⟨W.heap.size, 0, none⟩) 4 (some ⟨W.heap.size + 1, 0, none⟩) 4 saneC :=
    ⟨((sla_built W _ 53 (n := 4) (size := 4) rfl).alloc _).alloc _, by
      have := (sla_built (W.alloc (Obj.cells #[Value.int IntKind.i64 1, Value.int IntKind.i64 0, Value.int IntKind.i64 2, Value.int IntKind.i64 0, Value.int IntKind.i64 1, Value.int IntKind.i64 1, Value.int IntKind.i64 3, Value.int IntKind.i64 0, Value.int IntKind.i64 11, Value.int IntKind.i64 2, Value.int IntKind.i64 0, Value.int IntKind.i64 1, Value.int IntKind.i64 0, Value.int IntKind.i64 2, Value.int IntKind.i64 0, Value.int IntKind.i64 0] 53)) #[Value.int IntKind.i64 (-1), Value.int IntKind.i64 (-1), Value.int IntKind.i64 (-1), Value.int IntKind.i64 (-1)] 3 (n := 4) (size := 1) rfl)
      have h2 := this.alloc (Obj.cells #[Value.slice (some { block := W.heap.size, off := 0 }) 4 4, Value.slice (some { block := W.heap.size + 1, off := 0 }) 4 4] 30)
      rw [show ∀ o, (W.alloc o).heap.size = W.heap.size + 1 from fun o => by simp] at h2
      exact h2⟩
  have hb0 := (((Below.refl W.heap.size W).alloc (Nat.le_refl _) (Obj.cells #[Value.int IntKind.i64 1, Value.int IntKind.i64 0, Value.int IntKind.i64 2, Value.int IntKind.i64 0, Value.int IntKind.i64 1, Value.int IntKind.i64 1, Value.int IntKind.i64 3, Value.int IntKind.i64 0, Value.int IntKind.i64 11, Value.int IntKind.i64 2, Value.int IntKind.i64 0, Value.int IntKind.i64 1, Value.int IntKind.i64 0, Value.int IntKind.i64 2, Value.int IntKind.i64 0, Value.int IntKind.i64 0] 53)).alloc (by simp) (Obj.cells #[Value.int IntKind.i64 (-1), Value.int IntKind.i64 (-1), Value.int IntKind.i64 (-1), Value.int IntKind.i64 (-1)] 3)).alloc (by simp; omega) (Obj.cells #[Value.slice (some { block := W.heap.size, off := 0 }) 4 4, Value.slice (some { block := W.heap.size + 1, off := 0 }) 4 4] 30)
  refine (Run_any _ (some ⟨W.heap.size, 0, none⟩) 4 (some ⟨W.heap.size + 1, 0, none⟩) 4 saneC hcd none 0 [] (fun i hi => by simp at hi) (fun _ => rfl) (by simp) 10).mono ?_
  rintro e w1 ⟨to, tc, rfl, hb1, -⟩
  unfold resV
  rw [sane_ov, sane_res, sane_cost, sane_e]
  have HB := Lib.hid (bthen hb0 hb1)
  clear hb0 hb1 hcd
  go_wp2
  go_ret
  exact ⟨rfl, HB.out.alloc (by have := HB.out.size; omega) _⟩

theorem runV_told (c : Cd) (zs : List Int) (most : Int) : (runV c zs most).told.length ≤ 1000000 := by
  unfold runV
  split
  · rename_i h
    simp only [okRun, Bool.and_eq_true, decide_eq_true_eq] at h
    obtain ⟨⟨⟨⟨h1, h2⟩, h3⟩, h4⟩, h5⟩ := h
    have := (itS_ok h1 (begS_ok h1 h2 h5) most.toNat).told
    omega
  · simp [noS]

end Go.Proofs.Ytignlfcjlbijaaa
