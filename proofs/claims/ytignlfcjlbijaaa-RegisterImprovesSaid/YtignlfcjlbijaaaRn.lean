/- The middle of a round of the program's Run: its blocks. (to be imported by XRm) -/
import Derived.Test.YtignlfcjlbijaaaRl
import Derived.BigQuiet
namespace Go.Proofs.Ytignlfcjlbijaaa
open Go.RowKit

structure PMid (B G X : Nat) (lv hv tv : Value) (x : Ins) (W0 : World) (s : RS) (w : World) : Prop where
  code : Blk w B #[lv, hv] 30
  res : Blk w (B+1) #[.bool s.ov, .int .i64 s.res, .int .i64 s.trap, .int .i64 s.cost, tv] 34
  regs : Blk w G (s.ws.map (Value.int .i64)).toArray 66
  reg : Blk w X #[.int .i64 x.d, .int .i64 x.a, .int .i64 x.b, .int .i64 x.c] 53
  own : w.ownsRow (G+1) 45 2 tv s.told.length (flatT s.told)
  bel : Below W0.heap.size W0 w
section
variable {B G X : Nat} {lv hv tv : Value} {x : Ins} {W0 : World} {s : RS} {w : World}
theorem PMid.setRes (h : PMid B G X lv hv tv x W0 s w) (hB : W0.heap.size ≤ B) (hG : B + 1 < G) (hX : G < X) (i : Nat) {v : Value} {s' : RS}
    (he : (#[.bool s.ov, .int .i64 s.res, .int .i64 s.trap, .int .i64 s.cost, tv] : Array Value).setIfInBounds i v = #[.bool s'.ov, .int .i64 s'.res, .int .i64 s'.trap, .int .i64 s'.cost, tv]) (hw : s'.ws = s.ws) (ht : s'.told = s.told) :
    PMid B G X lv hv tv x W0 s' (w.setCell ⟨B+1, i, none⟩ v) :=
  ⟨h.code.other (by show B ≠ B + 1; omega) _, by rw [← he]; exact h.res.set i v, by rw [hw]; exact h.regs.other (by show G ≠ B + 1; omega) _, h.reg.other (by show X ≠ B + 1; omega) _,
   by rw [ht]; exact ownsRow_setCell_below h.own (by show B + 1 < G + 1; omega) _, h.bel.setCell (by show _ ≤ B + 1; omega) _⟩
theorem PMid.setReg (h : PMid B G X lv hv tv x W0 s w) (hB : W0.heap.size ≤ B) (hG : B + 1 < G) (hX : G < X) (_hl : s.ws.length = 40) {i : Nat} (v : Int) :
    PMid B G X lv hv tv x W0 { s with ws := s.ws.set i v } (w.setCell ⟨G, i, none⟩ (.int .i64 v)) :=
  ⟨h.code.other (by show B ≠ G; omega) _, h.res.other (by show B + 1 ≠ G; omega) _, by
     have := h.regs.set i (.int .i64 v)
     rw [List.setIfInBounds_toArray, ← List.map_set] at this
     exact this, h.reg.other (by show X ≠ G; omega) _,
   ownsRow_setCell_below h.own (by show G < G + 1; omega) _, h.bel.setCell (by show _ ≤ G; omega) _⟩
theorem PMid.drew (h : PMid B G X lv hv tv x W0 s w) : PMid B G X lv hv tv x W0 s w.drew := ⟨h.code, h.res, h.regs, h.reg, h.own, h.bel.drew⟩
theorem PMid.drewN (h : PMid B G X lv hv tv x W0 s w) (n : Nat) : PMid B G X lv hv tv x W0 s (w.drewN n) := ⟨h.code, h.res, h.regs, h.reg, h.own, ⟨h.bel.os, h.bel.tape, h.bel.output, h.bel.size, h.bel.block⟩⟩
theorem PMid.word (h : PMid B G X lv hv tv x W0 s w) (hl : s.ws.length = 40) {i : Nat} (hi : i < 40) : w.cell? ⟨G, i, none⟩ = some (.int .i64 (s.ws.getD i 0)) :=
  h.regs.cell i (by simp [show i < s.ws.length by omega])
theorem PMid.old {w' : World} (h : PMid B G X lv hv tv x W0 s w) (hb : Below w.heap.size w w') : PMid B G X lv hv tv x W0 s w' :=
  ⟨h.code.old hb, h.res.old hb, h.regs.old hb, h.reg.old hb, own_old h.own hb, h.bel.trans (hb.mono h.bel.size)⟩
theorem PMid.facts (h : PMid B G X lv hv tv x W0 s w) (hov : s.ov = false) : w.cell? ⟨B, 0, none⟩ = some lv ∧ w.cell? ⟨B, 1, none⟩ = some hv ∧ w.cell? ⟨B+1, 0, none⟩ = some (.bool false) ∧ w.cell? ⟨B+1, 4, none⟩ = some tv ∧ w.frozen? ⟨B+1, 0, none⟩ = false ∧ w.frozen? ⟨B+1, 1, none⟩ = false ∧ w.frozen? ⟨B+1, 2, none⟩ = false ∧ w.frozen? ⟨B+1, 4, none⟩ = false ∧ B + 1 < w.heap.size ∧ G < w.heap.size ∧ X < w.heap.size :=
  ⟨h.code.cell 0 rfl, h.code.cell 1 rfl, (by have h0 : w.cell? ⟨B+1, 0, none⟩ = some (.bool s.ov) := h.res.cell 0 rfl; rw [hov] at h0; exact h0), h.res.cell 4 rfl, h.res.frozen 0, h.res.frozen 1, h.res.frozen 2, h.res.frozen 4, h.res.lt, h.regs.lt, h.reg.lt⟩
theorem PMid.told {w2 w3 : World} {o : Obj} {ao : Option Addr} {cap : Nat} {p : Int × Int} (h : PMid B G X lv hv tv x W0 s w) (hB : W0.heap.size ≤ B) (hG : B + 1 < G) (hX : G < X)
    (hw2 : w2 = (w.alloc o).drew) (hg : w2.grownBy w3 tv.ownBlock) (hown : w3.ownsRow (G+1) 45 2 (.slice ao (s.told.length + 1) cap) (s.told.length + 1) (flatT s.told ++ flatT [p])) :
    PMid B G X lv hv (.slice ao (s.told.length + 1) cap) x W0 { s with told := s.told ++ [p] } (w3.setCell ⟨B+1, 4, none⟩ (.slice ao (s.told.length + 1) cap)) := by
  subst hw2
  have hcode := ((h.code.alloc o).drew).grown hg (own_ne h.own (by omega))
  have hres := ((h.res.alloc o).drew).grown hg (own_ne h.own (by omega))
  have hregs := ((h.regs.alloc o).drew).grown hg (own_ne h.own (by omega))
  have hreg := ((h.reg.alloc o).drew).grown hg (blk_not_own h.reg h.own (by decide))
  have hbel : Below W0.heap.size W0 w3 := by
    have hSz := h.bel.size
    exact ((h.bel.alloc hSz o).drew).grown hg (by simp; omega) (fun j hj => by have := (h.own.lt j hj).1; omega)
  refine ⟨hcode.other (by show B ≠ B + 1; omega) _, ?_, hregs.other (by show G ≠ B + 1; omega) _, hreg.other (by show X ≠ B + 1; omega) _, ?_, hbel.setCell (by show _ ≤ B + 1; omega) _⟩
  · exact hres.set 4 (.slice ao (s.told.length + 1) cap)
  · rw [← flatT_append] at hown
    have h3 := ownsRow_setCell_below hown (a := ⟨B+1, 4, none⟩) (by show B + 1 < G + 1; omega) (.slice ao (s.told.length + 1) cap)
    simpa using h3
/-- the end of a round: the run's next state, and the relation of the loop -/
theorem PMid.close {to : Option Addr} {tc : Nat} {s1 : RS} (h : PMid B G X lv hv tv x W0 s1 w) (htv : tv = .slice to s1.told.length tc) (hB : W0.heap.size ≤ B) (hG : B + 1 < G) (hX : G < X) {c : Cd} {zs : List Int} {j : Nat} {most : Int} (s2 : RS)
    (hit : itS c (begS zs) (j + 1) = s2) (hjm : (j : Int) < most) (bb : Bool) (av : Int) (e1 : s2.ws = s1.ws) (e2 : s2.res = s1.res) (e3 : s2.trap = s1.trap) (e4 : s2.cost = s1.cost) (e5 : s2.told = s1.told) (hbb : bb = s2.ov) (hav : s2.ov = false → av = s2.at_) :
    ∃ (j' : Nat) (to : Option Addr) (tc : Nat) (av' : Int), (j' : Int) ≤ most ∧ Value.int .i64 av = .int .i64 av' ∧ Value.int .i64 ((j : Int) + 1) = .int .i64 j' ∧ ((itS c (begS zs) j').ov = false → av' = (itS c (begS zs) j').at_) ∧ Blk (w.setCell ⟨B+1, 0, none⟩ (.bool bb)) B #[lv, hv] 30 ∧
        Blk (w.setCell ⟨B+1, 0, none⟩ (.bool bb)) (B+1) #[.bool (itS c (begS zs) j').ov, .int .i64 (itS c (begS zs) j').res, .int .i64 (itS c (begS zs) j').trap, .int .i64 (itS c (begS zs) j').cost, .slice to (itS c (begS zs) j').told.length tc] 34 ∧
        Blk (w.setCell ⟨B+1, 0, none⟩ (.bool bb)) G ((itS c (begS zs) j').ws.map (Value.int .i64)).toArray 66 ∧ Below W0.heap.size W0 (w.setCell ⟨B+1, 0, none⟩ (.bool bb)) ∧ (w.setCell ⟨B+1, 0, none⟩ (.bool bb)).ownsRow (G+1) 45 2 (.slice to (itS c (begS zs) j').told.length tc) (itS c (begS zs) j').told.length (flatT (itS c (begS zs) j').told) := by
  subst htv
  have h2 := h.setRes hB hG hX 0 (v := .bool bb) (s' := { s1 with ov := bb }) rfl rfl rfl
  refine ⟨j + 1, to, tc, av, by omega, rfl, by rw [Int.natCast_add]; rfl, by rw [hit]; exact hav, h2.code, ?_, ?_, h2.bel, ?_⟩
  · rw [hit, ← hbb, e2, e3, e4, e5]; exact h2.res
  · rw [hit, e1]; exact h2.regs
  · rw [hit, e5]; exact h2.own
end

theorem wp_class {P : Program} {C : World → Prop} {id : Nat} {Q : Exit → Act → World → Prop} {a : Act} {w : World} {l : List Oper} (hm : P.follows .mixedOrders = true) (hB : Region.lexB .any l.toArray = true) (hC : C w.drew)
    (h : wpQuiet P l.toArray C (fun a' => ∀ w', C w' → Q .normal a' w') l a) : (Code.region id l.toArray true).wp P Q a w :=
  wp_region_quiet (C := C) hm hB hC (by simpa using h)

theorem set_add {W w : World} {B : Nat} {ah : Addr} {k : Nat} {v v0 : Value} (j : Nat) (hB : B = W.heap.size) (ehW : W.cell? (ah.add k) = some v) (eh : w.cell? (ah.add k) = some v) : (w.setCell ⟨B+1, j, none⟩ v0).cell? (ah.add k) = some v := by
  have h1 : (ah.add k).block = ah.block := by unfold Addr.add; split <;> rfl
  have hne : ¬ (ah.block = B + 1) := by
    have h0 := World.block_lt_of_cell? _ _ ehW
    omega
  exact (World.cell?_of_block (a := ah.add k) (heap_setCell_other w ⟨B+1, j, none⟩ _ _ (by rw [h1]; exact hne))).trans eh
theorem trapS_eq {c : Cd} {s : RS} {n z : Int} (hz : z = c.h.getD s.at_ 0) : trapS c s n = if 0 ≤ z then { s with at_ := z.toNat } else { s with ov := true, trap := n } := by subst hz; rfl

end Go.Proofs.Ytignlfcjlbijaaa
