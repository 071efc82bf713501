/-
  No cell of these rows narrows 'for every input' (looked for: loops, veiled, ifaces, maps, wideKeys, modest, calm, conditions, laid).
  DERIVED. THE GIVEN ROWS OF THIS SEAT. 8 by the template 'for every input the law returns true; each argument reads behind the call as it read before'; 0 by the template 'total and deterministic' (their statements: YtkdamjpbnmbeoaaGreatTotals.lean).
  GIVEN WITH THE SEED: the statements are not yours to turn. If you find one false, say at which input.
  Laid BY PROGRAM, IN A SANDBOX (cutbox-rows.mjs): the forced cells as the released guide's own fill.sh prints them over the translation f49944f9dbc36dcb… (all of the seat's roots in one cut). By AI agents, Wed Nov 11 2026. No macro, syntax, notation, axiom, sorry.
-/
import Derived.Test.YtkdamjpbnmbeoaaGreatChecked
import GoSem.Claim
import GoSem.ClaimJoined
import GoSem.ClaimMapViews
import Derived.JoinedTies
import Derived.KernelRfl
namespace Go.Proofs.YtkdamjpbnmbeoaaGreat
/- THE CELL 'sum', in the pinned program and in every row, IS THE sha256 OF THE DUMP (.gsa) THAT YtkdamjpbnmbeoaaGreatProg.lean LOADS. Nothing in Lean hashes anything: it is a label: what it is worth is what the hold of that sum in a sandbox is worth. -/
noncomputable def Tryz.pinned : Pinned := { name := "ytkdamjpbnmbeoaagreat", sum := "f49944f9dbc36dcbf3deccd192a89f478f04a0ff82779a132a17718ae1e0b0c5", checked := Tryz.checked }
namespace Rows
def none {H : Type} : Left H := { results := [], args := [] }

/-- 'isochronlaw06.VerifyStates': WHATEVER THE INPUT: true; the input reads as it did. -/
def verifyStatesSpec : ChangeSpec := { name := "verifyStates", fn := fun _ => fun
  | [d1, d2] => { results := [.lit (.bool true)], args := [d1, d2] }
  | _ => none }
def verifyStatesRow : OpenClaim := { program := "ytkdamjpbnmbeoaagreat", sum := "f49944f9dbc36dcbf3deccd192a89f478f04a0ff82779a132a17718ae1e0b0c5", func := "isochron/isochronlaw06.VerifyStates", spec := "verifyStates", unfollowed := true, recurses := true, apart := false }
def VerifyStatesSaid : Prop := verifyStatesRow.holds Tryz.pinned (OpenSpec.ofChange verifyStatesSpec)

/-- ITS FALSE NEIGHBOUR: 'it returns false'. Refute it at one input. -/
def verifyStatesWrong : ChangeSpec := { name := "verifyStates", fn := fun _ => fun
  | [d1, d2] => { results := [.lit (.bool false)], args := [d1, d2] }
  | _ => none }
def VerifyStatesWrongFalsely : Prop := verifyStatesRow.holds Tryz.pinned (OpenSpec.ofChange verifyStatesWrong)

/-- 'isochronlaw06.VerifyNops': WHATEVER THE INPUT: true; the input reads as it did. -/
def verifyNopsSpec : ChangeSpec := { name := "verifyNops", fn := fun _ => fun
  | [d1, d2] => { results := [.lit (.bool true)], args := [d1, d2] }
  | _ => none }
def verifyNopsRow : OpenClaim := { program := "ytkdamjpbnmbeoaagreat", sum := "f49944f9dbc36dcbf3deccd192a89f478f04a0ff82779a132a17718ae1e0b0c5", func := "isochron/isochronlaw06.VerifyNops", spec := "verifyNops", unfollowed := true, recurses := true, apart := false }
def VerifyNopsSaid : Prop := verifyNopsRow.holds Tryz.pinned (OpenSpec.ofChange verifyNopsSpec)

/-- ITS FALSE NEIGHBOUR: 'it returns false'. Refute it at one input. -/
def verifyNopsWrong : ChangeSpec := { name := "verifyNops", fn := fun _ => fun
  | [d1, d2] => { results := [.lit (.bool false)], args := [d1, d2] }
  | _ => none }
def VerifyNopsWrongFalsely : Prop := verifyNopsRow.holds Tryz.pinned (OpenSpec.ofChange verifyNopsWrong)

/-- 'isochronlaw06.VerifyBreaks': WHATEVER THE INPUT: true; the input reads as it did. -/
def verifyBreaksSpec : ChangeSpec := { name := "verifyBreaks", fn := fun _ => fun
  | [d1, d2, d3] => { results := [.lit (.bool true)], args := [d1, d2, d3] }
  | _ => none }
def verifyBreaksRow : OpenClaim := { program := "ytkdamjpbnmbeoaagreat", sum := "f49944f9dbc36dcbf3deccd192a89f478f04a0ff82779a132a17718ae1e0b0c5", func := "isochron/isochronlaw06.VerifyBreaks", spec := "verifyBreaks", unfollowed := true, recurses := true, apart := false }
def VerifyBreaksSaid : Prop := verifyBreaksRow.holds Tryz.pinned (OpenSpec.ofChange verifyBreaksSpec)

/-- ITS FALSE NEIGHBOUR: 'it returns false'. Refute it at one input. -/
def verifyBreaksWrong : ChangeSpec := { name := "verifyBreaks", fn := fun _ => fun
  | [d1, d2, d3] => { results := [.lit (.bool false)], args := [d1, d2, d3] }
  | _ => none }
def VerifyBreaksWrongFalsely : Prop := verifyBreaksRow.holds Tryz.pinned (OpenSpec.ofChange verifyBreaksWrong)

/-- 'isochronlaw06.VerifyModules': WHATEVER THE INPUT: true; the input reads as it did. -/
def verifyModulesSpec : ChangeSpec := { name := "verifyModules", fn := fun _ => fun
  | [d] => { results := [.lit (.bool true)], args := [d] }
  | _ => none }
def verifyModulesRow : OpenClaim := { program := "ytkdamjpbnmbeoaagreat", sum := "f49944f9dbc36dcbf3deccd192a89f478f04a0ff82779a132a17718ae1e0b0c5", func := "isochron/isochronlaw06.VerifyModules", spec := "verifyModules", unfollowed := true, recurses := true, apart := false }
def VerifyModulesSaid : Prop := verifyModulesRow.holds Tryz.pinned (OpenSpec.ofChange verifyModulesSpec)

/-- ITS FALSE NEIGHBOUR: 'it returns false'. Refute it at one input. -/
def verifyModulesWrong : ChangeSpec := { name := "verifyModules", fn := fun _ => fun
  | [d] => { results := [.lit (.bool false)], args := [d] }
  | _ => none }
def VerifyModulesWrongFalsely : Prop := verifyModulesRow.holds Tryz.pinned (OpenSpec.ofChange verifyModulesWrong)

/-- 'isochronlaw06.VerifyFits': WHATEVER THE INPUT: true; the input reads as it did. -/
def verifyFitsSpec : ChangeSpec := { name := "verifyFits", fn := fun _ => fun
  | [d1, d2, d3, d4] => { results := [.lit (.bool true)], args := [d1, d2, d3, d4] }
  | _ => none }
def verifyFitsRow : OpenClaim := { program := "ytkdamjpbnmbeoaagreat", sum := "f49944f9dbc36dcbf3deccd192a89f478f04a0ff82779a132a17718ae1e0b0c5", func := "isochron/isochronlaw06.VerifyFits", spec := "verifyFits", unfollowed := true, recurses := true, apart := false }
def VerifyFitsSaid : Prop := verifyFitsRow.holds Tryz.pinned (OpenSpec.ofChange verifyFitsSpec)

/-- ITS FALSE NEIGHBOUR: 'it returns false'. Refute it at one input. -/
def verifyFitsWrong : ChangeSpec := { name := "verifyFits", fn := fun _ => fun
  | [d1, d2, d3, d4] => { results := [.lit (.bool false)], args := [d1, d2, d3, d4] }
  | _ => none }
def VerifyFitsWrongFalsely : Prop := verifyFitsRow.holds Tryz.pinned (OpenSpec.ofChange verifyFitsWrong)

/-- 'isochronlaw06.VerifyRoots': WHATEVER THE INPUT: true; the input reads as it did. -/
def verifyRootsSpec : ChangeSpec := { name := "verifyRoots", fn := fun _ => fun
  | [d1, d2, d3] => { results := [.lit (.bool true)], args := [d1, d2, d3] }
  | _ => none }
def verifyRootsRow : OpenClaim := { program := "ytkdamjpbnmbeoaagreat", sum := "f49944f9dbc36dcbf3deccd192a89f478f04a0ff82779a132a17718ae1e0b0c5", func := "isochron/isochronlaw06.VerifyRoots", spec := "verifyRoots", unfollowed := true, recurses := true, apart := false }
def VerifyRootsSaid : Prop := verifyRootsRow.holds Tryz.pinned (OpenSpec.ofChange verifyRootsSpec)

/-- ITS FALSE NEIGHBOUR: 'it returns false'. Refute it at one input. -/
def verifyRootsWrong : ChangeSpec := { name := "verifyRoots", fn := fun _ => fun
  | [d1, d2, d3] => { results := [.lit (.bool false)], args := [d1, d2, d3] }
  | _ => none }
def VerifyRootsWrongFalsely : Prop := verifyRootsRow.holds Tryz.pinned (OpenSpec.ofChange verifyRootsWrong)

/-- 'isochronlaw06.VerifyHeights': WHATEVER THE INPUT: true; the input reads as it did. -/
def verifyHeightsSpec : ChangeSpec := { name := "verifyHeights", fn := fun _ => fun
  | [d1, d2] => { results := [.lit (.bool true)], args := [d1, d2] }
  | _ => none }
def verifyHeightsRow : OpenClaim := { program := "ytkdamjpbnmbeoaagreat", sum := "f49944f9dbc36dcbf3deccd192a89f478f04a0ff82779a132a17718ae1e0b0c5", func := "isochron/isochronlaw06.VerifyHeights", spec := "verifyHeights", unfollowed := true, recurses := true, apart := false }
def VerifyHeightsSaid : Prop := verifyHeightsRow.holds Tryz.pinned (OpenSpec.ofChange verifyHeightsSpec)

/-- ITS FALSE NEIGHBOUR: 'it returns false'. Refute it at one input. -/
def verifyHeightsWrong : ChangeSpec := { name := "verifyHeights", fn := fun _ => fun
  | [d1, d2] => { results := [.lit (.bool false)], args := [d1, d2] }
  | _ => none }
def VerifyHeightsWrongFalsely : Prop := verifyHeightsRow.holds Tryz.pinned (OpenSpec.ofChange verifyHeightsWrong)

/-- 'isochronlaw06.VerifyHandles': WHATEVER THE INPUT: true; the input reads as it did. -/
def verifyHandlesSpec : ChangeSpec := { name := "verifyHandles", fn := fun _ => fun
  | [d1, d2, d3] => { results := [.lit (.bool true)], args := [d1, d2, d3] }
  | _ => none }
def verifyHandlesRow : OpenClaim := { program := "ytkdamjpbnmbeoaagreat", sum := "f49944f9dbc36dcbf3deccd192a89f478f04a0ff82779a132a17718ae1e0b0c5", func := "isochron/isochronlaw06.VerifyHandles", spec := "verifyHandles", unfollowed := true, recurses := true, apart := false }
def VerifyHandlesSaid : Prop := verifyHandlesRow.holds Tryz.pinned (OpenSpec.ofChange verifyHandlesSpec)

/-- ITS FALSE NEIGHBOUR: 'it returns false'. Refute it at one input. -/
def verifyHandlesWrong : ChangeSpec := { name := "verifyHandles", fn := fun _ => fun
  | [d1, d2, d3] => { results := [.lit (.bool false)], args := [d1, d2, d3] }
  | _ => none }
def VerifyHandlesWrongFalsely : Prop := verifyHandlesRow.holds Tryz.pinned (OpenSpec.ofChange verifyHandlesWrong)

/- THE SECOND FORM. 'bulk': how many values and letters a reading holds, each counted each time it is reached (what is shared counts as often as it is met; a slice's spare places count too). A statement '..UptoSaid' is the law's where the arguments, and the package variables that the reading takes, are together of bulk at most 1048576: NARROWER than '..Said'. Prove '..Said' where nothing that the law and all that it calls make is longer than what came in: it says more and counts as full. Else prove '..UptoSaid'. A law counts once. -/
mutual
def uptoBulk {H : Type} : DataW H → Nat
  | .lit (.string bytes) => bytes.length + 1
  | .lit _ => 1
  | .nil => 1
  | .ptr d => uptoBulk d + 1
  | .slice elems spare => uptoBulkAll elems + uptoBulkAll spare + 1
  | .agg parts => uptoBulkAll parts + 1
  | .iface _ d => uptoBulk d + 1
  | .map entries => uptoBulkEntries entries + 1
  | .held _ => 1
def uptoBulkAll {H : Type} : List (DataW H) → Nat
  | [] => 0
  | d :: r => uptoBulk d + uptoBulkAll r
def uptoBulkEntries {H : Type} : List (Lit × DataW H) → Nat
  | [] => 0
  | x :: r => uptoBulkEntry x + uptoBulkEntries r
def uptoBulkEntry {H : Type} : Lit × DataW H → Nat
  | (.string bytes, d) => bytes.length + uptoBulk d + 1
  | (_, d) => uptoBulk d + 1
 end
def uptoSmall : (H : Type) → List (DataW H) → Bool := fun _ ds => decide (uptoBulkAll ds ≤ 1048576)
def OpenSpec.upto (s : _root_.Go.ChangeSpec) : _root_.Go.OpenSpec := { _root_.Go.OpenSpec.ofChange s with cond := some uptoSmall }

/-- 'isochronlaw06.VerifyStates', WHERE WHAT IT READS IS OF BULK AT MOST 1048576: true; the input reads as it did. -/
def verifyStatesUptoRow : OpenClaim := { program := "ytkdamjpbnmbeoaagreat", sum := "f49944f9dbc36dcbf3deccd192a89f478f04a0ff82779a132a17718ae1e0b0c5", func := "isochron/isochronlaw06.VerifyStates", spec := "verifyStates", unfollowed := true, recurses := true, apart := false, narrowed := true }
def VerifyStatesUptoSaid : Prop := verifyStatesUptoRow.holds Tryz.pinned (OpenSpec.upto verifyStatesSpec)

/-- 'isochronlaw06.VerifyNops', WHERE WHAT IT READS IS OF BULK AT MOST 1048576: true; the input reads as it did. -/
def verifyNopsUptoRow : OpenClaim := { program := "ytkdamjpbnmbeoaagreat", sum := "f49944f9dbc36dcbf3deccd192a89f478f04a0ff82779a132a17718ae1e0b0c5", func := "isochron/isochronlaw06.VerifyNops", spec := "verifyNops", unfollowed := true, recurses := true, apart := false, narrowed := true }
def VerifyNopsUptoSaid : Prop := verifyNopsUptoRow.holds Tryz.pinned (OpenSpec.upto verifyNopsSpec)

/-- 'isochronlaw06.VerifyBreaks', WHERE WHAT IT READS IS OF BULK AT MOST 1048576: true; the input reads as it did. -/
def verifyBreaksUptoRow : OpenClaim := { program := "ytkdamjpbnmbeoaagreat", sum := "f49944f9dbc36dcbf3deccd192a89f478f04a0ff82779a132a17718ae1e0b0c5", func := "isochron/isochronlaw06.VerifyBreaks", spec := "verifyBreaks", unfollowed := true, recurses := true, apart := false, narrowed := true }
def VerifyBreaksUptoSaid : Prop := verifyBreaksUptoRow.holds Tryz.pinned (OpenSpec.upto verifyBreaksSpec)

/-- 'isochronlaw06.VerifyModules', WHERE WHAT IT READS IS OF BULK AT MOST 1048576: true; the input reads as it did. -/
def verifyModulesUptoRow : OpenClaim := { program := "ytkdamjpbnmbeoaagreat", sum := "f49944f9dbc36dcbf3deccd192a89f478f04a0ff82779a132a17718ae1e0b0c5", func := "isochron/isochronlaw06.VerifyModules", spec := "verifyModules", unfollowed := true, recurses := true, apart := false, narrowed := true }
def VerifyModulesUptoSaid : Prop := verifyModulesUptoRow.holds Tryz.pinned (OpenSpec.upto verifyModulesSpec)

/-- 'isochronlaw06.VerifyFits', WHERE WHAT IT READS IS OF BULK AT MOST 1048576: true; the input reads as it did. -/
def verifyFitsUptoRow : OpenClaim := { program := "ytkdamjpbnmbeoaagreat", sum := "f49944f9dbc36dcbf3deccd192a89f478f04a0ff82779a132a17718ae1e0b0c5", func := "isochron/isochronlaw06.VerifyFits", spec := "verifyFits", unfollowed := true, recurses := true, apart := false, narrowed := true }
def VerifyFitsUptoSaid : Prop := verifyFitsUptoRow.holds Tryz.pinned (OpenSpec.upto verifyFitsSpec)

/-- 'isochronlaw06.VerifyRoots', WHERE WHAT IT READS IS OF BULK AT MOST 1048576: true; the input reads as it did. -/
def verifyRootsUptoRow : OpenClaim := { program := "ytkdamjpbnmbeoaagreat", sum := "f49944f9dbc36dcbf3deccd192a89f478f04a0ff82779a132a17718ae1e0b0c5", func := "isochron/isochronlaw06.VerifyRoots", spec := "verifyRoots", unfollowed := true, recurses := true, apart := false, narrowed := true }
def VerifyRootsUptoSaid : Prop := verifyRootsUptoRow.holds Tryz.pinned (OpenSpec.upto verifyRootsSpec)

/-- 'isochronlaw06.VerifyHeights', WHERE WHAT IT READS IS OF BULK AT MOST 1048576: true; the input reads as it did. -/
def verifyHeightsUptoRow : OpenClaim := { program := "ytkdamjpbnmbeoaagreat", sum := "f49944f9dbc36dcbf3deccd192a89f478f04a0ff82779a132a17718ae1e0b0c5", func := "isochron/isochronlaw06.VerifyHeights", spec := "verifyHeights", unfollowed := true, recurses := true, apart := false, narrowed := true }
def VerifyHeightsUptoSaid : Prop := verifyHeightsUptoRow.holds Tryz.pinned (OpenSpec.upto verifyHeightsSpec)

/-- 'isochronlaw06.VerifyHandles', WHERE WHAT IT READS IS OF BULK AT MOST 1048576: true; the input reads as it did. -/
def verifyHandlesUptoRow : OpenClaim := { program := "ytkdamjpbnmbeoaagreat", sum := "f49944f9dbc36dcbf3deccd192a89f478f04a0ff82779a132a17718ae1e0b0c5", func := "isochron/isochronlaw06.VerifyHandles", spec := "verifyHandles", unfollowed := true, recurses := true, apart := false, narrowed := true }
def VerifyHandlesUptoSaid : Prop := verifyHandlesUptoRow.holds Tryz.pinned (OpenSpec.upto verifyHandlesSpec)

end Rows
end Go.Proofs.YtkdamjpbnmbeoaaGreat
