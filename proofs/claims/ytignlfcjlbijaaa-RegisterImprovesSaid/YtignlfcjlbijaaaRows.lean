/-
  No cell of these rows narrows 'for every input' (looked for: loops, veiled, ifaces, maps, wideKeys, modest, calm, conditions, laid).
  DERIVED. THE GIVEN ROWS OF THIS SEAT. 5 by the template 'for every input the law returns true; each argument reads behind the call as it read before'; 0 by the template 'total and deterministic' (their statements: YtignlfcjlbijaaaTotals.lean).
  GIVEN WITH THE SEED: the statements are not yours to turn. If you find one false, say at which input.
  Laid BY PROGRAM, IN A SANDBOX (cutbox-rows.mjs): the forced cells as the released guide's own fill.sh prints them over the translation 70c705a30260175e… (all of the seat's roots in one cut). By AI agents, Wed Nov 11 2026. No macro, syntax, notation, axiom, sorry.
-/
import Derived.Test.YtignlfcjlbijaaaChecked
import GoSem.Claim
import GoSem.ClaimJoined
import GoSem.ClaimMapViews
import Derived.JoinedTies
import Derived.KernelRfl
namespace Go.Proofs.Ytignlfcjlbijaaa
/- THE CELL 'sum', in the pinned program and in every row, IS THE sha256 OF THE DUMP (.gsa) THAT YtignlfcjlbijaaaProg.lean LOADS. Nothing in Lean hashes anything: it is a label: what it is worth is what the hold of that sum in a sandbox is worth. -/
noncomputable def Try.pinned : Pinned := { name := "ytignlfcjlbijaaa", sum := "70c705a30260175e191c742293fdfffb318ceee09fd7a1d00f0818332920ae03", checked := Try.checked }
namespace Rows
def none {H : Type} : Left H := { results := [], args := [] }

/-- 'isochronlaw19.RegisterRuns': WHATEVER THE INPUT: true; the input reads as it did. -/
def registerRunsSpec : ChangeSpec := { name := "registerRuns", fn := fun _ => fun
  | [d1, d2, d3] => { results := [.lit (.bool true)], args := [d1, d2, d3] }
  | _ => none }
def registerRunsRow : OpenClaim := { program := "ytignlfcjlbijaaa", sum := "70c705a30260175e191c742293fdfffb318ceee09fd7a1d00f0818332920ae03", func := "isochron/isochronlaw19.RegisterRuns", spec := "registerRuns", unfollowed := true, recurses := true, apart := false }
def RegisterRunsSaid : Prop := registerRunsRow.holds Try.pinned (OpenSpec.ofChange registerRunsSpec)

/-- ITS FALSE NEIGHBOUR: 'it returns false'. Refute it at one input. -/
def registerRunsWrong : ChangeSpec := { name := "registerRuns", fn := fun _ => fun
  | [d1, d2, d3] => { results := [.lit (.bool false)], args := [d1, d2, d3] }
  | _ => none }
def RegisterRunsWrongFalsely : Prop := registerRunsRow.holds Try.pinned (OpenSpec.ofChange registerRunsWrong)

/-- 'isochronlaw19.RegisterMore': WHATEVER THE INPUT: true; the input reads as it did. -/
def registerMoreSpec : ChangeSpec := { name := "registerMore", fn := fun _ => fun
  | [d1, d2, d3, d4] => { results := [.lit (.bool true)], args := [d1, d2, d3, d4] }
  | _ => none }
def registerMoreRow : OpenClaim := { program := "ytignlfcjlbijaaa", sum := "70c705a30260175e191c742293fdfffb318ceee09fd7a1d00f0818332920ae03", func := "isochron/isochronlaw19.RegisterMore", spec := "registerMore", unfollowed := true, recurses := true, apart := false }
def RegisterMoreSaid : Prop := registerMoreRow.holds Try.pinned (OpenSpec.ofChange registerMoreSpec)

/-- ITS FALSE NEIGHBOUR: 'it returns false'. Refute it at one input. -/
def registerMoreWrong : ChangeSpec := { name := "registerMore", fn := fun _ => fun
  | [d1, d2, d3, d4] => { results := [.lit (.bool false)], args := [d1, d2, d3, d4] }
  | _ => none }
def RegisterMoreWrongFalsely : Prop := registerMoreRow.holds Try.pinned (OpenSpec.ofChange registerMoreWrong)

/-- 'isochronlaw19.RegisterDead': WHATEVER THE INPUT: true; the input reads as it did. -/
def registerDeadSpec : ChangeSpec := { name := "registerDead", fn := fun _ => fun
  | [d1, d2, d3] => { results := [.lit (.bool true)], args := [d1, d2, d3] }
  | _ => none }
def registerDeadRow : OpenClaim := { program := "ytignlfcjlbijaaa", sum := "70c705a30260175e191c742293fdfffb318ceee09fd7a1d00f0818332920ae03", func := "isochron/isochronlaw19.RegisterDead", spec := "registerDead", unfollowed := true, recurses := true, apart := false }
def RegisterDeadSaid : Prop := registerDeadRow.holds Try.pinned (OpenSpec.ofChange registerDeadSpec)

/-- ITS FALSE NEIGHBOUR: 'it returns false'. Refute it at one input. -/
def registerDeadWrong : ChangeSpec := { name := "registerDead", fn := fun _ => fun
  | [d1, d2, d3] => { results := [.lit (.bool false)], args := [d1, d2, d3] }
  | _ => none }
def RegisterDeadWrongFalsely : Prop := registerDeadRow.holds Try.pinned (OpenSpec.ofChange registerDeadWrong)

/-- 'isochronlaw19.RegisterValid': WHATEVER THE INPUT: true; the input reads as it did. -/
def registerValidSpec : ChangeSpec := { name := "registerValid", fn := fun _ => fun
  | [d1, d2, d3] => { results := [.lit (.bool true)], args := [d1, d2, d3] }
  | _ => none }
def registerValidRow : OpenClaim := { program := "ytignlfcjlbijaaa", sum := "70c705a30260175e191c742293fdfffb318ceee09fd7a1d00f0818332920ae03", func := "isochron/isochronlaw19.RegisterValid", spec := "registerValid", unfollowed := true, recurses := true, apart := false }
def RegisterValidSaid : Prop := registerValidRow.holds Try.pinned (OpenSpec.ofChange registerValidSpec)

/-- ITS FALSE NEIGHBOUR: 'it returns false'. Refute it at one input. -/
def registerValidWrong : ChangeSpec := { name := "registerValid", fn := fun _ => fun
  | [d1, d2, d3] => { results := [.lit (.bool false)], args := [d1, d2, d3] }
  | _ => none }
def RegisterValidWrongFalsely : Prop := registerValidRow.holds Try.pinned (OpenSpec.ofChange registerValidWrong)

/-- 'isochronlaw19.RegisterImproves': WHATEVER THE INPUT: true; the input reads as it did. -/
def registerImprovesSpec : ChangeSpec := { name := "registerImproves", fn := fun _ => fun
  | [d1, d2, d3] => { results := [.lit (.bool true)], args := [d1, d2, d3] }
  | _ => none }
def registerImprovesRow : OpenClaim := { program := "ytignlfcjlbijaaa", sum := "70c705a30260175e191c742293fdfffb318ceee09fd7a1d00f0818332920ae03", func := "isochron/isochronlaw19.RegisterImproves", spec := "registerImproves", unfollowed := true, recurses := true, apart := false }
def RegisterImprovesSaid : Prop := registerImprovesRow.holds Try.pinned (OpenSpec.ofChange registerImprovesSpec)

/-- ITS FALSE NEIGHBOUR: 'it returns false'. Refute it at one input. -/
def registerImprovesWrong : ChangeSpec := { name := "registerImproves", fn := fun _ => fun
  | [d1, d2, d3] => { results := [.lit (.bool false)], args := [d1, d2, d3] }
  | _ => none }
def RegisterImprovesWrongFalsely : Prop := registerImprovesRow.holds Try.pinned (OpenSpec.ofChange registerImprovesWrong)

/- THE SECOND FORM. 'bulk': how many values and letters a reading holds, each counted each time it is reached (what is shared counts as often as it is met; a slice's spare places count too). A statement '..UptoSaid' is the law's where the arguments, and the package variables that the reading takes, are together of bulk at most 1048576: NARROWER than '..Said'. Prove '..Said' where nothing that the law and all that it calls make is longer than what came in: it says more and counts as full. Else prove '..UptoSaid'. A law counts once. -/
mutual
def uptoBulk {H : Type} : DataW H → Nat
  | .lit (.string bytes) => bytes.length + 1
  | .lit _ => 1
  | .nil => 1
  | .ptr d => uptoBulk d + 1
  | .slice elems spare => uptoBulkAll elems + uptoBulkAll spare + 1
  | .agg parts => uptoBulkAll parts + 1
  | .iface _ d => uptoBulk d + 1
  | .map entries => uptoBulkEntries entries + 1
  | .held _ => 1
def uptoBulkAll {H : Type} : List (DataW H) → Nat
  | [] => 0
  | d :: r => uptoBulk d + uptoBulkAll r
def uptoBulkEntries {H : Type} : List (Lit × DataW H) → Nat
  | [] => 0
  | x :: r => uptoBulkEntry x + uptoBulkEntries r
def uptoBulkEntry {H : Type} : Lit × DataW H → Nat
  | (.string bytes, d) => bytes.length + uptoBulk d + 1
  | (_, d) => uptoBulk d + 1
 end
def uptoSmall : (H : Type) → List (DataW H) → Bool := fun _ ds => decide (uptoBulkAll ds ≤ 1048576)
def OpenSpec.upto (s : _root_.Go.ChangeSpec) : _root_.Go.OpenSpec := { _root_.Go.OpenSpec.ofChange s with cond := some uptoSmall }

/-- 'isochronlaw19.RegisterRuns', WHERE WHAT IT READS IS OF BULK AT MOST 1048576: true; the input reads as it did. -/
def registerRunsUptoRow : OpenClaim := { program := "ytignlfcjlbijaaa", sum := "70c705a30260175e191c742293fdfffb318ceee09fd7a1d00f0818332920ae03", func := "isochron/isochronlaw19.RegisterRuns", spec := "registerRuns", unfollowed := true, recurses := true, apart := false, narrowed := true }
def RegisterRunsUptoSaid : Prop := registerRunsUptoRow.holds Try.pinned (OpenSpec.upto registerRunsSpec)

/-- 'isochronlaw19.RegisterMore', WHERE WHAT IT READS IS OF BULK AT MOST 1048576: true; the input reads as it did. -/
def registerMoreUptoRow : OpenClaim := { program := "ytignlfcjlbijaaa", sum := "70c705a30260175e191c742293fdfffb318ceee09fd7a1d00f0818332920ae03", func := "isochron/isochronlaw19.RegisterMore", spec := "registerMore", unfollowed := true, recurses := true, apart := false, narrowed := true }
def RegisterMoreUptoSaid : Prop := registerMoreUptoRow.holds Try.pinned (OpenSpec.upto registerMoreSpec)

/-- 'isochronlaw19.RegisterDead', WHERE WHAT IT READS IS OF BULK AT MOST 1048576: true; the input reads as it did. -/
def registerDeadUptoRow : OpenClaim := { program := "ytignlfcjlbijaaa", sum := "70c705a30260175e191c742293fdfffb318ceee09fd7a1d00f0818332920ae03", func := "isochron/isochronlaw19.RegisterDead", spec := "registerDead", unfollowed := true, recurses := true, apart := false, narrowed := true }
def RegisterDeadUptoSaid : Prop := registerDeadUptoRow.holds Try.pinned (OpenSpec.upto registerDeadSpec)

/-- 'isochronlaw19.RegisterValid', WHERE WHAT IT READS IS OF BULK AT MOST 1048576: true; the input reads as it did. -/
def registerValidUptoRow : OpenClaim := { program := "ytignlfcjlbijaaa", sum := "70c705a30260175e191c742293fdfffb318ceee09fd7a1d00f0818332920ae03", func := "isochron/isochronlaw19.RegisterValid", spec := "registerValid", unfollowed := true, recurses := true, apart := false, narrowed := true }
def RegisterValidUptoSaid : Prop := registerValidUptoRow.holds Try.pinned (OpenSpec.upto registerValidSpec)

/-- 'isochronlaw19.RegisterImproves', WHERE WHAT IT READS IS OF BULK AT MOST 1048576: true; the input reads as it did. -/
def registerImprovesUptoRow : OpenClaim := { program := "ytignlfcjlbijaaa", sum := "70c705a30260175e191c742293fdfffb318ceee09fd7a1d00f0818332920ae03", func := "isochron/isochronlaw19.RegisterImproves", spec := "registerImproves", unfollowed := true, recurses := true, apart := false, narrowed := true }
def RegisterImprovesUptoSaid : Prop := registerImprovesUptoRow.holds Try.pinned (OpenSpec.upto registerImprovesSpec)

end Rows
end Go.Proofs.Ytignlfcjlbijaaa
