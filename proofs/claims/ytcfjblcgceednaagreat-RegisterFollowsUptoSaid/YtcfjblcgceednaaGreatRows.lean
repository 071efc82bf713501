/-
  No cell of these rows narrows 'for every input' (looked for: loops, veiled, ifaces, maps, wideKeys, modest, calm, conditions, laid).
  DERIVED. THE GIVEN ROWS OF THIS SEAT. 9 by the template 'for every input the law returns true; each argument reads behind the call as it read before'; 0 by the template 'total and deterministic' (their statements: YtcfjblcgceednaaGreatTotals.lean).
  GIVEN WITH THE SEED: the statements are not yours to turn. If you find one false, say at which input.
  Laid BY PROGRAM, IN A SANDBOX (cutbox-rows.mjs): the forced cells as the released guide's own fill.sh prints them over the translation f48d695bc2daa354… (all of the seat's roots in one cut). By AI agents, Wed Nov 11 2026. No macro, syntax, notation, axiom, sorry.
-/
import Derived.Test.YtcfjblcgceednaaGreatChecked
import GoSem.Claim
import GoSem.ClaimJoined
import GoSem.ClaimMapViews
import Derived.JoinedTies
import Derived.KernelRfl
namespace Go.Proofs.YtcfjblcgceednaaGreat
/- THE CELL 'sum', in the pinned program and in every row, IS THE sha256 OF THE DUMP (.gsa) THAT YtcfjblcgceednaaGreatProg.lean LOADS. Nothing in Lean hashes anything: it is a label: what it is worth is what the hold of that sum in a sandbox is worth. -/
noncomputable def Tryz.pinned : Pinned := { name := "ytcfjblcgceednaagreat", sum := "f48d695bc2daa3549e36dc5176d812540187cad6e526fd6f80392fddb73169c7", checked := Tryz.checked }
namespace Rows
def none {H : Type} : Left H := { results := [], args := [] }

/-- 'isochronlaw06.VerifyEffects': WHATEVER THE INPUT: true; the input reads as it did. -/
def verifyEffectsSpec : ChangeSpec := { name := "verifyEffects", fn := fun _ => fun
  | [d1, d2] => { results := [.lit (.bool true)], args := [d1, d2] }
  | _ => none }
def verifyEffectsRow : OpenClaim := { program := "ytcfjblcgceednaagreat", sum := "f48d695bc2daa3549e36dc5176d812540187cad6e526fd6f80392fddb73169c7", func := "isochron/isochronlaw06.VerifyEffects", spec := "verifyEffects", unfollowed := true, recurses := true, apart := false }
def VerifyEffectsSaid : Prop := verifyEffectsRow.holds Tryz.pinned (OpenSpec.ofChange verifyEffectsSpec)

/-- ITS FALSE NEIGHBOUR: 'it returns false'. Refute it at one input. -/
def verifyEffectsWrong : ChangeSpec := { name := "verifyEffects", fn := fun _ => fun
  | [d1, d2] => { results := [.lit (.bool false)], args := [d1, d2] }
  | _ => none }
def VerifyEffectsWrongFalsely : Prop := verifyEffectsRow.holds Tryz.pinned (OpenSpec.ofChange verifyEffectsWrong)

/-- 'isochronlaw16.EscapeLevels': WHATEVER THE INPUT: true; the input reads as it did. -/
def escapeLevelsSpec : ChangeSpec := { name := "escapeLevels", fn := fun _ => fun
  | [d1, d2, d3] => { results := [.lit (.bool true)], args := [d1, d2, d3] }
  | _ => none }
def escapeLevelsRow : OpenClaim := { program := "ytcfjblcgceednaagreat", sum := "f48d695bc2daa3549e36dc5176d812540187cad6e526fd6f80392fddb73169c7", func := "isochron/isochronlaw16.EscapeLevels", spec := "escapeLevels", unfollowed := true, recurses := true, apart := false }
def EscapeLevelsSaid : Prop := escapeLevelsRow.holds Tryz.pinned (OpenSpec.ofChange escapeLevelsSpec)

/-- ITS FALSE NEIGHBOUR: 'it returns false'. Refute it at one input. -/
def escapeLevelsWrong : ChangeSpec := { name := "escapeLevels", fn := fun _ => fun
  | [d1, d2, d3] => { results := [.lit (.bool false)], args := [d1, d2, d3] }
  | _ => none }
def EscapeLevelsWrongFalsely : Prop := escapeLevelsRow.holds Tryz.pinned (OpenSpec.ofChange escapeLevelsWrong)

/-- 'isochronlaw16.EscapeFits': WHATEVER THE INPUT: true; the input reads as it did. -/
def escapeFitsSpec : ChangeSpec := { name := "escapeFits", fn := fun _ => fun
  | [d1, d2, d3, d4] => { results := [.lit (.bool true)], args := [d1, d2, d3, d4] }
  | _ => none }
def escapeFitsRow : OpenClaim := { program := "ytcfjblcgceednaagreat", sum := "f48d695bc2daa3549e36dc5176d812540187cad6e526fd6f80392fddb73169c7", func := "isochron/isochronlaw16.EscapeFits", spec := "escapeFits", unfollowed := true, recurses := true, apart := false }
def EscapeFitsSaid : Prop := escapeFitsRow.holds Tryz.pinned (OpenSpec.ofChange escapeFitsSpec)

/-- ITS FALSE NEIGHBOUR: 'it returns false'. Refute it at one input. -/
def escapeFitsWrong : ChangeSpec := { name := "escapeFits", fn := fun _ => fun
  | [d1, d2, d3, d4] => { results := [.lit (.bool false)], args := [d1, d2, d3, d4] }
  | _ => none }
def EscapeFitsWrongFalsely : Prop := escapeFitsRow.holds Tryz.pinned (OpenSpec.ofChange escapeFitsWrong)

/-- 'isochronlaw16.EscapeJoins': WHATEVER THE INPUT: true; the input reads as it did. -/
def escapeJoinsSpec : ChangeSpec := { name := "escapeJoins", fn := fun _ => fun
  | [d1, d2, d3, d4] => { results := [.lit (.bool true)], args := [d1, d2, d3, d4] }
  | _ => none }
def escapeJoinsRow : OpenClaim := { program := "ytcfjblcgceednaagreat", sum := "f48d695bc2daa3549e36dc5176d812540187cad6e526fd6f80392fddb73169c7", func := "isochron/isochronlaw16.EscapeJoins", spec := "escapeJoins", unfollowed := true, recurses := true, apart := false }
def EscapeJoinsSaid : Prop := escapeJoinsRow.holds Tryz.pinned (OpenSpec.ofChange escapeJoinsSpec)

/-- ITS FALSE NEIGHBOUR: 'it returns false'. Refute it at one input. -/
def escapeJoinsWrong : ChangeSpec := { name := "escapeJoins", fn := fun _ => fun
  | [d1, d2, d3, d4] => { results := [.lit (.bool false)], args := [d1, d2, d3, d4] }
  | _ => none }
def EscapeJoinsWrongFalsely : Prop := escapeJoinsRow.holds Tryz.pinned (OpenSpec.ofChange escapeJoinsWrong)

/-- 'isochronlaw16.EscapeRanges': WHATEVER THE INPUT: true; the input reads as it did. -/
def escapeRangesSpec : ChangeSpec := { name := "escapeRanges", fn := fun _ => fun
  | [d1, d2, d3] => { results := [.lit (.bool true)], args := [d1, d2, d3] }
  | _ => none }
def escapeRangesRow : OpenClaim := { program := "ytcfjblcgceednaagreat", sum := "f48d695bc2daa3549e36dc5176d812540187cad6e526fd6f80392fddb73169c7", func := "isochron/isochronlaw16.EscapeRanges", spec := "escapeRanges", unfollowed := true, recurses := true, apart := false }
def EscapeRangesSaid : Prop := escapeRangesRow.holds Tryz.pinned (OpenSpec.ofChange escapeRangesSpec)

/-- ITS FALSE NEIGHBOUR: 'it returns false'. Refute it at one input. -/
def escapeRangesWrong : ChangeSpec := { name := "escapeRanges", fn := fun _ => fun
  | [d1, d2, d3] => { results := [.lit (.bool false)], args := [d1, d2, d3] }
  | _ => none }
def EscapeRangesWrongFalsely : Prop := escapeRangesRow.holds Tryz.pinned (OpenSpec.ofChange escapeRangesWrong)

/-- 'isochronlaw19.RegisterPlain': WHATEVER THE INPUT: true; the input reads as it did. -/
def registerPlainSpec : ChangeSpec := { name := "registerPlain", fn := fun _ => fun
  | [d1, d2] => { results := [.lit (.bool true)], args := [d1, d2] }
  | _ => none }
def registerPlainRow : OpenClaim := { program := "ytcfjblcgceednaagreat", sum := "f48d695bc2daa3549e36dc5176d812540187cad6e526fd6f80392fddb73169c7", func := "isochron/isochronlaw19.RegisterPlain", spec := "registerPlain", unfollowed := true, recurses := true, apart := false }
def RegisterPlainSaid : Prop := registerPlainRow.holds Tryz.pinned (OpenSpec.ofChange registerPlainSpec)

/-- ITS FALSE NEIGHBOUR: 'it returns false'. Refute it at one input. -/
def registerPlainWrong : ChangeSpec := { name := "registerPlain", fn := fun _ => fun
  | [d1, d2] => { results := [.lit (.bool false)], args := [d1, d2] }
  | _ => none }
def RegisterPlainWrongFalsely : Prop := registerPlainRow.holds Tryz.pinned (OpenSpec.ofChange registerPlainWrong)

/-- 'isochronlaw19.RegisterFollows': WHATEVER THE INPUT: true; the input reads as it did. -/
def registerFollowsSpec : ChangeSpec := { name := "registerFollows", fn := fun _ => fun
  | [d1, d2, d3] => { results := [.lit (.bool true)], args := [d1, d2, d3] }
  | _ => none }
def registerFollowsRow : OpenClaim := { program := "ytcfjblcgceednaagreat", sum := "f48d695bc2daa3549e36dc5176d812540187cad6e526fd6f80392fddb73169c7", func := "isochron/isochronlaw19.RegisterFollows", spec := "registerFollows", unfollowed := true, recurses := true, apart := false }
def RegisterFollowsSaid : Prop := registerFollowsRow.holds Tryz.pinned (OpenSpec.ofChange registerFollowsSpec)

/-- ITS FALSE NEIGHBOUR: 'it returns false'. Refute it at one input. -/
def registerFollowsWrong : ChangeSpec := { name := "registerFollows", fn := fun _ => fun
  | [d1, d2, d3] => { results := [.lit (.bool false)], args := [d1, d2, d3] }
  | _ => none }
def RegisterFollowsWrongFalsely : Prop := registerFollowsRow.holds Tryz.pinned (OpenSpec.ofChange registerFollowsWrong)

/-- 'isochronlaw07.BoundLocks': WHATEVER THE INPUT: true; the input reads as it did. -/
def boundLocksSpec : ChangeSpec := { name := "boundLocks", fn := fun _ => fun
  | [d1, d2, d3] => { results := [.lit (.bool true)], args := [d1, d2, d3] }
  | _ => none }
def boundLocksRow : OpenClaim := { program := "ytcfjblcgceednaagreat", sum := "f48d695bc2daa3549e36dc5176d812540187cad6e526fd6f80392fddb73169c7", func := "isochron/isochronlaw07.BoundLocks", spec := "boundLocks", unfollowed := true, recurses := true, apart := false }
def BoundLocksSaid : Prop := boundLocksRow.holds Tryz.pinned (OpenSpec.ofChange boundLocksSpec)

/-- ITS FALSE NEIGHBOUR: 'it returns false'. Refute it at one input. -/
def boundLocksWrong : ChangeSpec := { name := "boundLocks", fn := fun _ => fun
  | [d1, d2, d3] => { results := [.lit (.bool false)], args := [d1, d2, d3] }
  | _ => none }
def BoundLocksWrongFalsely : Prop := boundLocksRow.holds Tryz.pinned (OpenSpec.ofChange boundLocksWrong)

/-- 'isochronlaw07.BoundFree': WHATEVER THE INPUT: true; the input reads as it did. -/
def boundFreeSpec : ChangeSpec := { name := "boundFree", fn := fun _ => fun
  | [d1, d2] => { results := [.lit (.bool true)], args := [d1, d2] }
  | _ => none }
def boundFreeRow : OpenClaim := { program := "ytcfjblcgceednaagreat", sum := "f48d695bc2daa3549e36dc5176d812540187cad6e526fd6f80392fddb73169c7", func := "isochron/isochronlaw07.BoundFree", spec := "boundFree", unfollowed := true, recurses := true, apart := false }
def BoundFreeSaid : Prop := boundFreeRow.holds Tryz.pinned (OpenSpec.ofChange boundFreeSpec)

/-- ITS FALSE NEIGHBOUR: 'it returns false'. Refute it at one input. -/
def boundFreeWrong : ChangeSpec := { name := "boundFree", fn := fun _ => fun
  | [d1, d2] => { results := [.lit (.bool false)], args := [d1, d2] }
  | _ => none }
def BoundFreeWrongFalsely : Prop := boundFreeRow.holds Tryz.pinned (OpenSpec.ofChange boundFreeWrong)

/- THE SECOND FORM. 'bulk': how many values and letters a reading holds, each counted each time it is reached (what is shared counts as often as it is met; a slice's spare places count too). A statement '..UptoSaid' is the law's where the arguments, and the package variables that the reading takes, are together of bulk at most 1048576: NARROWER than '..Said'. Prove '..Said' where nothing that the law and all that it calls make is longer than what came in: it says more and counts as full. Else prove '..UptoSaid'. A law counts once. -/
mutual
def uptoBulk {H : Type} : DataW H → Nat
  | .lit (.string bytes) => bytes.length + 1
  | .lit _ => 1
  | .nil => 1
  | .ptr d => uptoBulk d + 1
  | .slice elems spare => uptoBulkAll elems + uptoBulkAll spare + 1
  | .agg parts => uptoBulkAll parts + 1
  | .iface _ d => uptoBulk d + 1
  | .map entries => uptoBulkEntries entries + 1
  | .held _ => 1
def uptoBulkAll {H : Type} : List (DataW H) → Nat
  | [] => 0
  | d :: r => uptoBulk d + uptoBulkAll r
def uptoBulkEntries {H : Type} : List (Lit × DataW H) → Nat
  | [] => 0
  | x :: r => uptoBulkEntry x + uptoBulkEntries r
def uptoBulkEntry {H : Type} : Lit × DataW H → Nat
  | (.string bytes, d) => bytes.length + uptoBulk d + 1
  | (_, d) => uptoBulk d + 1
 end
def uptoSmall : (H : Type) → List (DataW H) → Bool := fun _ ds => decide (uptoBulkAll ds ≤ 1048576)
def OpenSpec.upto (s : _root_.Go.ChangeSpec) : _root_.Go.OpenSpec := { _root_.Go.OpenSpec.ofChange s with cond := some uptoSmall }

/-- 'isochronlaw06.VerifyEffects', WHERE WHAT IT READS IS OF BULK AT MOST 1048576: true; the input reads as it did. -/
def verifyEffectsUptoRow : OpenClaim := { program := "ytcfjblcgceednaagreat", sum := "f48d695bc2daa3549e36dc5176d812540187cad6e526fd6f80392fddb73169c7", func := "isochron/isochronlaw06.VerifyEffects", spec := "verifyEffects", unfollowed := true, recurses := true, apart := false, narrowed := true }
def VerifyEffectsUptoSaid : Prop := verifyEffectsUptoRow.holds Tryz.pinned (OpenSpec.upto verifyEffectsSpec)

/-- 'isochronlaw16.EscapeLevels', WHERE WHAT IT READS IS OF BULK AT MOST 1048576: true; the input reads as it did. -/
def escapeLevelsUptoRow : OpenClaim := { program := "ytcfjblcgceednaagreat", sum := "f48d695bc2daa3549e36dc5176d812540187cad6e526fd6f80392fddb73169c7", func := "isochron/isochronlaw16.EscapeLevels", spec := "escapeLevels", unfollowed := true, recurses := true, apart := false, narrowed := true }
def EscapeLevelsUptoSaid : Prop := escapeLevelsUptoRow.holds Tryz.pinned (OpenSpec.upto escapeLevelsSpec)

/-- 'isochronlaw16.EscapeFits', WHERE WHAT IT READS IS OF BULK AT MOST 1048576: true; the input reads as it did. -/
def escapeFitsUptoRow : OpenClaim := { program := "ytcfjblcgceednaagreat", sum := "f48d695bc2daa3549e36dc5176d812540187cad6e526fd6f80392fddb73169c7", func := "isochron/isochronlaw16.EscapeFits", spec := "escapeFits", unfollowed := true, recurses := true, apart := false, narrowed := true }
def EscapeFitsUptoSaid : Prop := escapeFitsUptoRow.holds Tryz.pinned (OpenSpec.upto escapeFitsSpec)

/-- 'isochronlaw16.EscapeJoins', WHERE WHAT IT READS IS OF BULK AT MOST 1048576: true; the input reads as it did. -/
def escapeJoinsUptoRow : OpenClaim := { program := "ytcfjblcgceednaagreat", sum := "f48d695bc2daa3549e36dc5176d812540187cad6e526fd6f80392fddb73169c7", func := "isochron/isochronlaw16.EscapeJoins", spec := "escapeJoins", unfollowed := true, recurses := true, apart := false, narrowed := true }
def EscapeJoinsUptoSaid : Prop := escapeJoinsUptoRow.holds Tryz.pinned (OpenSpec.upto escapeJoinsSpec)

/-- 'isochronlaw16.EscapeRanges', WHERE WHAT IT READS IS OF BULK AT MOST 1048576: true; the input reads as it did. -/
def escapeRangesUptoRow : OpenClaim := { program := "ytcfjblcgceednaagreat", sum := "f48d695bc2daa3549e36dc5176d812540187cad6e526fd6f80392fddb73169c7", func := "isochron/isochronlaw16.EscapeRanges", spec := "escapeRanges", unfollowed := true, recurses := true, apart := false, narrowed := true }
def EscapeRangesUptoSaid : Prop := escapeRangesUptoRow.holds Tryz.pinned (OpenSpec.upto escapeRangesSpec)

/-- 'isochronlaw19.RegisterPlain', WHERE WHAT IT READS IS OF BULK AT MOST 1048576: true; the input reads as it did. -/
def registerPlainUptoRow : OpenClaim := { program := "ytcfjblcgceednaagreat", sum := "f48d695bc2daa3549e36dc5176d812540187cad6e526fd6f80392fddb73169c7", func := "isochron/isochronlaw19.RegisterPlain", spec := "registerPlain", unfollowed := true, recurses := true, apart := false, narrowed := true }
def RegisterPlainUptoSaid : Prop := registerPlainUptoRow.holds Tryz.pinned (OpenSpec.upto registerPlainSpec)

/-- 'isochronlaw19.RegisterFollows', WHERE WHAT IT READS IS OF BULK AT MOST 1048576: true; the input reads as it did. -/
def registerFollowsUptoRow : OpenClaim := { program := "ytcfjblcgceednaagreat", sum := "f48d695bc2daa3549e36dc5176d812540187cad6e526fd6f80392fddb73169c7", func := "isochron/isochronlaw19.RegisterFollows", spec := "registerFollows", unfollowed := true, recurses := true, apart := false, narrowed := true }
def RegisterFollowsUptoSaid : Prop := registerFollowsUptoRow.holds Tryz.pinned (OpenSpec.upto registerFollowsSpec)

/-- 'isochronlaw07.BoundLocks', WHERE WHAT IT READS IS OF BULK AT MOST 1048576: true; the input reads as it did. -/
def boundLocksUptoRow : OpenClaim := { program := "ytcfjblcgceednaagreat", sum := "f48d695bc2daa3549e36dc5176d812540187cad6e526fd6f80392fddb73169c7", func := "isochron/isochronlaw07.BoundLocks", spec := "boundLocks", unfollowed := true, recurses := true, apart := false, narrowed := true }
def BoundLocksUptoSaid : Prop := boundLocksUptoRow.holds Tryz.pinned (OpenSpec.upto boundLocksSpec)

/-- 'isochronlaw07.BoundFree', WHERE WHAT IT READS IS OF BULK AT MOST 1048576: true; the input reads as it did. -/
def boundFreeUptoRow : OpenClaim := { program := "ytcfjblcgceednaagreat", sum := "f48d695bc2daa3549e36dc5176d812540187cad6e526fd6f80392fddb73169c7", func := "isochron/isochronlaw07.BoundFree", spec := "boundFree", unfollowed := true, recurses := true, apart := false, narrowed := true }
def BoundFreeUptoSaid : Prop := boundFreeUptoRow.holds Tryz.pinned (OpenSpec.upto boundFreeSpec)

end Rows
end Go.Proofs.YtcfjblcgceednaaGreat
