/-
  No cell of these rows narrows 'for every input' (looked for: loops, veiled, ifaces, maps, wideKeys, modest, calm, conditions, laid).
  DERIVED. THE GIVEN ROWS OF THIS SEAT. 8 by the template 'for every input the law returns true; each argument reads behind the call as it read before'; 0 by the template 'total and deterministic' (their statements: YtfkbfjhocmbneaaGreatTotals.lean).
  GIVEN WITH THE SEED: the statements are not yours to turn. If you find one false, say at which input.
  Laid BY PROGRAM, IN A SANDBOX (cutbox-rows.mjs): the forced cells as the released guide's own fill.sh prints them over the translation 2780694b36791aa0… (all of the seat's roots in one cut). By AI agents, Wed Nov 11 2026. No macro, syntax, notation, axiom, sorry.
-/
import Derived.Test.YtfkbfjhocmbneaaGreatChecked
import GoSem.Claim
import GoSem.ClaimJoined
import GoSem.ClaimMapViews
import Derived.JoinedTies
import Derived.KernelRfl
namespace Go.Proofs.YtfkbfjhocmbneaaGreat
/- THE CELL 'sum', in the pinned program and in every row, IS THE sha256 OF THE DUMP (.gsa) THAT YtfkbfjhocmbneaaGreatProg.lean LOADS. Nothing in Lean hashes anything: it is a label: what it is worth is what the hold of that sum in a sandbox is worth. -/
noncomputable def Tryz.pinned : Pinned := { name := "ytfkbfjhocmbneaagreat", sum := "2780694b36791aa060df1b5484aeea16ccef61e999c081e5e3afda5fb990be64", checked := Tryz.checked }
namespace Rows
def none {H : Type} : Left H := { results := [], args := [] }

/-- 'isochronlaw07.BoundTimes': WHATEVER THE INPUT: true; the input reads as it did. -/
def boundTimesSpec : ChangeSpec := { name := "boundTimes", fn := fun _ => fun
  | [d1, d2] => { results := [.lit (.bool true)], args := [d1, d2] }
  | _ => none }
def boundTimesRow : OpenClaim := { program := "ytfkbfjhocmbneaagreat", sum := "2780694b36791aa060df1b5484aeea16ccef61e999c081e5e3afda5fb990be64", func := "isochron/isochronlaw07.BoundTimes", spec := "boundTimes", unfollowed := true, recurses := true, apart := false }
def BoundTimesSaid : Prop := boundTimesRow.holds Tryz.pinned (OpenSpec.ofChange boundTimesSpec)

/-- ITS FALSE NEIGHBOUR: 'it returns false'. Refute it at one input. -/
def boundTimesWrong : ChangeSpec := { name := "boundTimes", fn := fun _ => fun
  | [d1, d2] => { results := [.lit (.bool false)], args := [d1, d2] }
  | _ => none }
def BoundTimesWrongFalsely : Prop := boundTimesRow.holds Tryz.pinned (OpenSpec.ofChange boundTimesWrong)

/-- 'isochronlaw07.BoundTrims': WHATEVER THE INPUT: true; the input reads as it did. -/
def boundTrimsSpec : ChangeSpec := { name := "boundTrims", fn := fun _ => fun
  | [d1, d2] => { results := [.lit (.bool true)], args := [d1, d2] }
  | _ => none }
def boundTrimsRow : OpenClaim := { program := "ytfkbfjhocmbneaagreat", sum := "2780694b36791aa060df1b5484aeea16ccef61e999c081e5e3afda5fb990be64", func := "isochron/isochronlaw07.BoundTrims", spec := "boundTrims", unfollowed := true, recurses := true, apart := false }
def BoundTrimsSaid : Prop := boundTrimsRow.holds Tryz.pinned (OpenSpec.ofChange boundTrimsSpec)

/-- ITS FALSE NEIGHBOUR: 'it returns false'. Refute it at one input. -/
def boundTrimsWrong : ChangeSpec := { name := "boundTrims", fn := fun _ => fun
  | [d1, d2] => { results := [.lit (.bool false)], args := [d1, d2] }
  | _ => none }
def BoundTrimsWrongFalsely : Prop := boundTrimsRow.holds Tryz.pinned (OpenSpec.ofChange boundTrimsWrong)

/-- 'isochronlaw07.BoundLoops': WHATEVER THE INPUT: true; the input reads as it did. -/
def boundLoopsSpec : ChangeSpec := { name := "boundLoops", fn := fun _ => fun
  | [d1, d2, d3] => { results := [.lit (.bool true)], args := [d1, d2, d3] }
  | _ => none }
def boundLoopsRow : OpenClaim := { program := "ytfkbfjhocmbneaagreat", sum := "2780694b36791aa060df1b5484aeea16ccef61e999c081e5e3afda5fb990be64", func := "isochron/isochronlaw07.BoundLoops", spec := "boundLoops", unfollowed := true, recurses := true, apart := false }
def BoundLoopsSaid : Prop := boundLoopsRow.holds Tryz.pinned (OpenSpec.ofChange boundLoopsSpec)

/-- ITS FALSE NEIGHBOUR: 'it returns false'. Refute it at one input. -/
def boundLoopsWrong : ChangeSpec := { name := "boundLoops", fn := fun _ => fun
  | [d1, d2, d3] => { results := [.lit (.bool false)], args := [d1, d2, d3] }
  | _ => none }
def BoundLoopsWrongFalsely : Prop := boundLoopsRow.holds Tryz.pinned (OpenSpec.ofChange boundLoopsWrong)

/-- 'isochronlaw07.BoundPaths': WHATEVER THE INPUT: true; the input reads as it did. -/
def boundPathsSpec : ChangeSpec := { name := "boundPaths", fn := fun _ => fun
  | [d1, d2, d3] => { results := [.lit (.bool true)], args := [d1, d2, d3] }
  | _ => none }
def boundPathsRow : OpenClaim := { program := "ytfkbfjhocmbneaagreat", sum := "2780694b36791aa060df1b5484aeea16ccef61e999c081e5e3afda5fb990be64", func := "isochron/isochronlaw07.BoundPaths", spec := "boundPaths", unfollowed := true, recurses := true, apart := false }
def BoundPathsSaid : Prop := boundPathsRow.holds Tryz.pinned (OpenSpec.ofChange boundPathsSpec)

/-- ITS FALSE NEIGHBOUR: 'it returns false'. Refute it at one input. -/
def boundPathsWrong : ChangeSpec := { name := "boundPaths", fn := fun _ => fun
  | [d1, d2, d3] => { results := [.lit (.bool false)], args := [d1, d2, d3] }
  | _ => none }
def BoundPathsWrongFalsely : Prop := boundPathsRow.holds Tryz.pinned (OpenSpec.ofChange boundPathsWrong)

/-- 'isochronlaw07.BoundCosts': WHATEVER THE INPUT: true; the input reads as it did. -/
def boundCostsSpec : ChangeSpec := { name := "boundCosts", fn := fun _ => fun
  | [d1, d2] => { results := [.lit (.bool true)], args := [d1, d2] }
  | _ => none }
def boundCostsRow : OpenClaim := { program := "ytfkbfjhocmbneaagreat", sum := "2780694b36791aa060df1b5484aeea16ccef61e999c081e5e3afda5fb990be64", func := "isochron/isochronlaw07.BoundCosts", spec := "boundCosts", unfollowed := true, recurses := true, apart := false }
def BoundCostsSaid : Prop := boundCostsRow.holds Tryz.pinned (OpenSpec.ofChange boundCostsSpec)

/-- ITS FALSE NEIGHBOUR: 'it returns false'. Refute it at one input. -/
def boundCostsWrong : ChangeSpec := { name := "boundCosts", fn := fun _ => fun
  | [d1, d2] => { results := [.lit (.bool false)], args := [d1, d2] }
  | _ => none }
def BoundCostsWrongFalsely : Prop := boundCostsRow.holds Tryz.pinned (OpenSpec.ofChange boundCostsWrong)

/-- 'isochronlaw07.BoundRests': WHATEVER THE INPUT: true; the input reads as it did. -/
def boundRestsSpec : ChangeSpec := { name := "boundRests", fn := fun _ => fun
  | [d1, d2, d3] => { results := [.lit (.bool true)], args := [d1, d2, d3] }
  | _ => none }
def boundRestsRow : OpenClaim := { program := "ytfkbfjhocmbneaagreat", sum := "2780694b36791aa060df1b5484aeea16ccef61e999c081e5e3afda5fb990be64", func := "isochron/isochronlaw07.BoundRests", spec := "boundRests", unfollowed := true, recurses := true, apart := false }
def BoundRestsSaid : Prop := boundRestsRow.holds Tryz.pinned (OpenSpec.ofChange boundRestsSpec)

/-- ITS FALSE NEIGHBOUR: 'it returns false'. Refute it at one input. -/
def boundRestsWrong : ChangeSpec := { name := "boundRests", fn := fun _ => fun
  | [d1, d2, d3] => { results := [.lit (.bool false)], args := [d1, d2, d3] }
  | _ => none }
def BoundRestsWrongFalsely : Prop := boundRestsRow.holds Tryz.pinned (OpenSpec.ofChange boundRestsWrong)

/-- 'isochronlaw07.BoundLocks': WHATEVER THE INPUT: true; the input reads as it did. -/
def boundLocksSpec : ChangeSpec := { name := "boundLocks", fn := fun _ => fun
  | [d1, d2, d3] => { results := [.lit (.bool true)], args := [d1, d2, d3] }
  | _ => none }
def boundLocksRow : OpenClaim := { program := "ytfkbfjhocmbneaagreat", sum := "2780694b36791aa060df1b5484aeea16ccef61e999c081e5e3afda5fb990be64", func := "isochron/isochronlaw07.BoundLocks", spec := "boundLocks", unfollowed := true, recurses := true, apart := false }
def BoundLocksSaid : Prop := boundLocksRow.holds Tryz.pinned (OpenSpec.ofChange boundLocksSpec)

/-- ITS FALSE NEIGHBOUR: 'it returns false'. Refute it at one input. -/
def boundLocksWrong : ChangeSpec := { name := "boundLocks", fn := fun _ => fun
  | [d1, d2, d3] => { results := [.lit (.bool false)], args := [d1, d2, d3] }
  | _ => none }
def BoundLocksWrongFalsely : Prop := boundLocksRow.holds Tryz.pinned (OpenSpec.ofChange boundLocksWrong)

/-- 'isochronlaw07.BoundFree': WHATEVER THE INPUT: true; the input reads as it did. -/
def boundFreeSpec : ChangeSpec := { name := "boundFree", fn := fun _ => fun
  | [d1, d2] => { results := [.lit (.bool true)], args := [d1, d2] }
  | _ => none }
def boundFreeRow : OpenClaim := { program := "ytfkbfjhocmbneaagreat", sum := "2780694b36791aa060df1b5484aeea16ccef61e999c081e5e3afda5fb990be64", func := "isochron/isochronlaw07.BoundFree", spec := "boundFree", unfollowed := true, recurses := true, apart := false }
def BoundFreeSaid : Prop := boundFreeRow.holds Tryz.pinned (OpenSpec.ofChange boundFreeSpec)

/-- ITS FALSE NEIGHBOUR: 'it returns false'. Refute it at one input. -/
def boundFreeWrong : ChangeSpec := { name := "boundFree", fn := fun _ => fun
  | [d1, d2] => { results := [.lit (.bool false)], args := [d1, d2] }
  | _ => none }
def BoundFreeWrongFalsely : Prop := boundFreeRow.holds Tryz.pinned (OpenSpec.ofChange boundFreeWrong)

/- THE SECOND FORM. 'bulk': how many values and letters a reading holds, each counted each time it is reached (what is shared counts as often as it is met; a slice's spare places count too). A statement '..UptoSaid' is the law's where the arguments, and the package variables that the reading takes, are together of bulk at most 1048576: NARROWER than '..Said'. Prove '..Said' where nothing that the law and all that it calls make is longer than what came in: it says more and counts as full. Else prove '..UptoSaid'. A law counts once. -/
mutual
def uptoBulk {H : Type} : DataW H → Nat
  | .lit (.string bytes) => bytes.length + 1
  | .lit _ => 1
  | .nil => 1
  | .ptr d => uptoBulk d + 1
  | .slice elems spare => uptoBulkAll elems + uptoBulkAll spare + 1
  | .agg parts => uptoBulkAll parts + 1
  | .iface _ d => uptoBulk d + 1
  | .map entries => uptoBulkEntries entries + 1
  | .held _ => 1
def uptoBulkAll {H : Type} : List (DataW H) → Nat
  | [] => 0
  | d :: r => uptoBulk d + uptoBulkAll r
def uptoBulkEntries {H : Type} : List (Lit × DataW H) → Nat
  | [] => 0
  | x :: r => uptoBulkEntry x + uptoBulkEntries r
def uptoBulkEntry {H : Type} : Lit × DataW H → Nat
  | (.string bytes, d) => bytes.length + uptoBulk d + 1
  | (_, d) => uptoBulk d + 1
 end
def uptoSmall : (H : Type) → List (DataW H) → Bool := fun _ ds => decide (uptoBulkAll ds ≤ 1048576)
def OpenSpec.upto (s : _root_.Go.ChangeSpec) : _root_.Go.OpenSpec := { _root_.Go.OpenSpec.ofChange s with cond := some uptoSmall }

/-- 'isochronlaw07.BoundTimes', WHERE WHAT IT READS IS OF BULK AT MOST 1048576: true; the input reads as it did. -/
def boundTimesUptoRow : OpenClaim := { program := "ytfkbfjhocmbneaagreat", sum := "2780694b36791aa060df1b5484aeea16ccef61e999c081e5e3afda5fb990be64", func := "isochron/isochronlaw07.BoundTimes", spec := "boundTimes", unfollowed := true, recurses := true, apart := false, narrowed := true }
def BoundTimesUptoSaid : Prop := boundTimesUptoRow.holds Tryz.pinned (OpenSpec.upto boundTimesSpec)

/-- 'isochronlaw07.BoundTrims', WHERE WHAT IT READS IS OF BULK AT MOST 1048576: true; the input reads as it did. -/
def boundTrimsUptoRow : OpenClaim := { program := "ytfkbfjhocmbneaagreat", sum := "2780694b36791aa060df1b5484aeea16ccef61e999c081e5e3afda5fb990be64", func := "isochron/isochronlaw07.BoundTrims", spec := "boundTrims", unfollowed := true, recurses := true, apart := false, narrowed := true }
def BoundTrimsUptoSaid : Prop := boundTrimsUptoRow.holds Tryz.pinned (OpenSpec.upto boundTrimsSpec)

/-- 'isochronlaw07.BoundLoops', WHERE WHAT IT READS IS OF BULK AT MOST 1048576: true; the input reads as it did. -/
def boundLoopsUptoRow : OpenClaim := { program := "ytfkbfjhocmbneaagreat", sum := "2780694b36791aa060df1b5484aeea16ccef61e999c081e5e3afda5fb990be64", func := "isochron/isochronlaw07.BoundLoops", spec := "boundLoops", unfollowed := true, recurses := true, apart := false, narrowed := true }
def BoundLoopsUptoSaid : Prop := boundLoopsUptoRow.holds Tryz.pinned (OpenSpec.upto boundLoopsSpec)

/-- 'isochronlaw07.BoundPaths', WHERE WHAT IT READS IS OF BULK AT MOST 1048576: true; the input reads as it did. -/
def boundPathsUptoRow : OpenClaim := { program := "ytfkbfjhocmbneaagreat", sum := "2780694b36791aa060df1b5484aeea16ccef61e999c081e5e3afda5fb990be64", func := "isochron/isochronlaw07.BoundPaths", spec := "boundPaths", unfollowed := true, recurses := true, apart := false, narrowed := true }
def BoundPathsUptoSaid : Prop := boundPathsUptoRow.holds Tryz.pinned (OpenSpec.upto boundPathsSpec)

/-- 'isochronlaw07.BoundCosts', WHERE WHAT IT READS IS OF BULK AT MOST 1048576: true; the input reads as it did. -/
def boundCostsUptoRow : OpenClaim := { program := "ytfkbfjhocmbneaagreat", sum := "2780694b36791aa060df1b5484aeea16ccef61e999c081e5e3afda5fb990be64", func := "isochron/isochronlaw07.BoundCosts", spec := "boundCosts", unfollowed := true, recurses := true, apart := false, narrowed := true }
def BoundCostsUptoSaid : Prop := boundCostsUptoRow.holds Tryz.pinned (OpenSpec.upto boundCostsSpec)

/-- 'isochronlaw07.BoundRests', WHERE WHAT IT READS IS OF BULK AT MOST 1048576: true; the input reads as it did. -/
def boundRestsUptoRow : OpenClaim := { program := "ytfkbfjhocmbneaagreat", sum := "2780694b36791aa060df1b5484aeea16ccef61e999c081e5e3afda5fb990be64", func := "isochron/isochronlaw07.BoundRests", spec := "boundRests", unfollowed := true, recurses := true, apart := false, narrowed := true }
def BoundRestsUptoSaid : Prop := boundRestsUptoRow.holds Tryz.pinned (OpenSpec.upto boundRestsSpec)

/-- 'isochronlaw07.BoundLocks', WHERE WHAT IT READS IS OF BULK AT MOST 1048576: true; the input reads as it did. -/
def boundLocksUptoRow : OpenClaim := { program := "ytfkbfjhocmbneaagreat", sum := "2780694b36791aa060df1b5484aeea16ccef61e999c081e5e3afda5fb990be64", func := "isochron/isochronlaw07.BoundLocks", spec := "boundLocks", unfollowed := true, recurses := true, apart := false, narrowed := true }
def BoundLocksUptoSaid : Prop := boundLocksUptoRow.holds Tryz.pinned (OpenSpec.upto boundLocksSpec)

/-- 'isochronlaw07.BoundFree', WHERE WHAT IT READS IS OF BULK AT MOST 1048576: true; the input reads as it did. -/
def boundFreeUptoRow : OpenClaim := { program := "ytfkbfjhocmbneaagreat", sum := "2780694b36791aa060df1b5484aeea16ccef61e999c081e5e3afda5fb990be64", func := "isochron/isochronlaw07.BoundFree", spec := "boundFree", unfollowed := true, recurses := true, apart := false, narrowed := true }
def BoundFreeUptoSaid : Prop := boundFreeUptoRow.holds Tryz.pinned (OpenSpec.upto boundFreeSpec)

end Rows
end Go.Proofs.YtfkbfjhocmbneaaGreat
