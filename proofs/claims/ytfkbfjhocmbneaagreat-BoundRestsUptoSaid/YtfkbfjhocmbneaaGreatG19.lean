/- verify.Method; sane. -/
import Derived.Test.YtfkbfjhocmbneaaGreatG1
import Derived.Test.YtfkbfjhocmbneaaGreatG4
import Derived.Test.YtfkbfjhocmbneaaGreatG9
import Derived.Test.YtfkbfjhocmbneaaGreatG6
import Derived.Test.YtfkbfjhocmbneaaGreatG10
import Derived.Test.YtfkbfjhocmbneaaGreatG13
import Derived.Test.YtfkbfjhocmbneaaGreatG16
import Derived.Deep.Upon
import Derived.RangeFuncNested
import Derived.RangeFuncBound
import Derived.RangeFuncCalls
import Derived.RangeFuncLeaves
import Derived.Shelf.Abstract
import Derived.Shelf.RegionOpen
import Derived.WalkKit
import Derived.OwnWalkIn
import Derived.TacticsInMore
import Derived.LoopNIn
import Derived.LoopIn
import Derived.OrdersHeld
import Derived.Deep.QuietTactic
import Derived.BigQuiet
import Derived.Test.YtfkbfjhocmbneaaGreatRows
import Derived.WalkSpells
import Derived.WalkLawsBesides
import Derived.Lib.Hide
import Derived.Outline
import Derived.StillTailTactics
import Derived.Laws.AppendOwnNone
import Derived.Deep.Draws
import Derived.Deep.RegionHeld
import Derived.Deep.Cut
import Derived.Deep.CutRange
import Derived.LoopTactic
import Derived.BigRegion
import Derived.Deep.OwnRows
import Derived.Deep.WholeRow
import Derived.Lib.SlicesCompact
import Derived.Laws.StructEq
import Derived.Test.YtfkbfjhocmbneaaGreatShelf
import Derived.Lib.OwnBridge
import Derived.ArgAppend
set_option linter.all false
set_option linter.unusedVariables false
set_option linter.unusedSimpArgs false
namespace Go.Proofs.YtfkbfjhocmbneaaGreat
section
open Go.RowKit
theorem Zar.alloc {α:Type} [Cells α] {w:World}{ao:Option Addr}{cap:Nat}{l:List α} (h:Zar w ao cap l) (o:Obj):Zar (w.alloc o) ao cap l:=h.old ((Below.refl _ _).alloc (Nat.le_refl _) o)
theorem ZkR {α:Type} [Cells α] (W:World) (l:List α) (xs:Array Value) (e:TypeId) (hx:xs=(Zak l).toArray):Zar (W.alloc (.cells xs e)) (some ⟨W.heap.size,0,none⟩) l.length l:=by
 have h:=Zcr W xs e (n:=l.length) (size:=Cells.n α) (by rw [hx];simp [Zam])
 rw [hx] at h ⊢
 simpa [Zar] using h
theorem bls (w:World) (o:Obj):(w.alloc o).heap.size=w.heap.size+1:=by simp
end
end Go.Proofs.YtfkbfjhocmbneaaGreat
