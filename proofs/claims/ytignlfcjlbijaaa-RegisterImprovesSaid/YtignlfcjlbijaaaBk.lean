/- Blocks of the call's own, known whole. -/
import Derived.Test.YtignlfcjlbijaaaBa
import Derived.Deep.Draws
namespace Go.Proofs.Ytignlfcjlbijaaa
open Go.RowKit

/-- block b holds the cells xs (of element type t), none of them frozen -/
def Blk (w : World) (b : Nat) (xs : Array Value) (t : TypeId) : Prop := w.heap[b]? = some (.cells xs t (0, 0))
theorem Blk.lt {w : World} {b : Nat} {xs : Array Value} {t : TypeId} (h : Blk w b xs t) : b < w.heap.size := by
  rcases Nat.lt_or_ge b w.heap.size with h' | h'
  · exact h'
  · simp [Blk, Array.getElem?_eq_none h'] at h
theorem Blk.cell {w : World} {b : Nat} {xs : Array Value} {t : TypeId} (h : Blk w b xs t) (i : Nat) {v : Value} (hv : xs[i]? = some v) : w.cell? ⟨b, i, none⟩ = some v := by
  rw [cell_of_row w b i xs t (0, 0) h]; exact hv
theorem Blk.frozen {w : World} {b : Nat} {xs : Array Value} {t : TypeId} (h : Blk w b xs t) (i : Nat) : w.frozen? ⟨b, i, none⟩ = false := frozen_of_row w b i xs t h
theorem Blk.set {w : World} {b : Nat} {xs : Array Value} {t : TypeId} (h : Blk w b xs t) (i : Nat) (v : Value) : Blk (w.setCell ⟨b, i, none⟩ v) b (xs.setIfInBounds i v) t := heap_setCell_same w b i xs t v h
theorem Blk.other {w : World} {b : Nat} {xs : Array Value} {t : TypeId} (h : Blk w b xs t) {a : Addr} (ha : b ≠ a.block) (v : Value) : Blk (w.setCell a v) b xs t := by
  unfold Blk; rw [heap_setCell_other w a b v ha]; exact h
theorem Blk.alloc {w : World} {b : Nat} {xs : Array Value} {t : TypeId} (h : Blk w b xs t) (o : Obj) : Blk (w.alloc o) b xs t := by
  unfold Blk; rw [Below.heap_alloc w o b h.lt]; exact h
theorem Blk.new (w : World) (xs : Array Value) (t : TypeId) : Blk (w.alloc (.cells xs t)) w.heap.size xs t := heap_alloc_new w _
theorem Blk.new' {w : World} {b : Nat} (xs : Array Value) (t : TypeId) (hb : b = w.heap.size) : Blk (w.alloc (.cells xs t)) b xs t := by subst hb; exact heap_alloc_new w _
theorem Blk.drew {w : World} {b : Nat} {xs : Array Value} {t : TypeId} (h : Blk w b xs t) : Blk w.drew b xs t := h
theorem Blk.drewN {w : World} {b : Nat} {xs : Array Value} {t : TypeId} (h : Blk w b xs t) (n : Nat) : Blk (w.drewN n) b xs t := h
theorem Blk.below {w w' : World} {b B : Nat} {xs : Array Value} {t : TypeId} (h : Blk w b xs t) (hb : Below B w w') (hB : b < B) : Blk w' b xs t := by
  unfold Blk; rw [hb.block b hB]; exact h
theorem Blk.old {w w' : World} {b : Nat} {xs : Array Value} {t : TypeId} (h : Blk w b xs t) (hb : Below w.heap.size w w') : Blk w' b xs t := h.below hb h.lt
theorem size_set (w : World) (a : Addr) (v : Value) : (w.setCell a v).heap.size = w.heap.size := by simp [World.setCell]

end Go.Proofs.Ytignlfcjlbijaaa
