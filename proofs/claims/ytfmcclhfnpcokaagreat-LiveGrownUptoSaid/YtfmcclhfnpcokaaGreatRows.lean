/-
  No cell of these rows narrows 'for every input' (looked for: loops, veiled, ifaces, maps, wideKeys, modest, calm, conditions, laid).
  DERIVED. THE GIVEN ROWS OF THIS SEAT. 12 by the template 'for every input the law returns true; each argument reads behind the call as it read before'; 0 by the template 'total and deterministic' (their statements: YtfmcclhfnpcokaaGreatTotals.lean).
  GIVEN WITH THE SEED: the statements are not yours to turn. If you find one false, say at which input.
  Laid BY PROGRAM, IN A SANDBOX (cutbox-rows.mjs): the forced cells as the released guide's own fill.sh prints them over the translation 8acf649c53bc204c… (all of the seat's roots in one cut). By AI agents, Wed Nov 11 2026. No macro, syntax, notation, axiom, sorry.
-/
import Derived.Test.YtfmcclhfnpcokaaGreatChecked
import GoSem.Claim
import GoSem.ClaimJoined
import GoSem.ClaimMapViews
import Derived.JoinedTies
import Derived.KernelRfl
namespace Go.Proofs.YtfmcclhfnpcokaaGreat
/- THE CELL 'sum', in the pinned program and in every row, IS THE sha256 OF THE DUMP (.gsa) THAT YtfmcclhfnpcokaaGreatProg.lean LOADS. Nothing in Lean hashes anything: it is a label: what it is worth is what the hold of that sum in a sandbox is worth. -/
noncomputable def Tryz.pinned : Pinned := { name := "ytfmcclhfnpcokaagreat", sum := "8acf649c53bc204ccda10d2202265fc348738c921d030d34a1a99a834056c899", checked := Tryz.checked }
namespace Rows
def none {H : Type} : Left H := { results := [], args := [] }

/-- 'isochronlaw06.VerifyUnloads': WHATEVER THE INPUT: true; the input reads as it did. -/
def verifyUnloadsSpec : ChangeSpec := { name := "verifyUnloads", fn := fun _ => fun
  | [d1, d2] => { results := [.lit (.bool true)], args := [d1, d2] }
  | _ => none }
def verifyUnloadsRow : OpenClaim := { program := "ytfmcclhfnpcokaagreat", sum := "8acf649c53bc204ccda10d2202265fc348738c921d030d34a1a99a834056c899", func := "isochron/isochronlaw06.VerifyUnloads", spec := "verifyUnloads", unfollowed := true, recurses := true, plainKeys := false, apart := false }
def VerifyUnloadsSaid : Prop := verifyUnloadsRow.holds Tryz.pinned (OpenSpec.ofChange verifyUnloadsSpec)

/-- ITS FALSE NEIGHBOUR: 'it returns false'. Refute it at one input. -/
def verifyUnloadsWrong : ChangeSpec := { name := "verifyUnloads", fn := fun _ => fun
  | [d1, d2] => { results := [.lit (.bool false)], args := [d1, d2] }
  | _ => none }
def VerifyUnloadsWrongFalsely : Prop := verifyUnloadsRow.holds Tryz.pinned (OpenSpec.ofChange verifyUnloadsWrong)

/-- 'isochronlaw17.LiveSupers': WHATEVER THE INPUT: true; the input reads as it did. -/
def liveSupersSpec : ChangeSpec := { name := "liveSupers", fn := fun _ => fun
  | [d1, d2] => { results := [.lit (.bool true)], args := [d1, d2] }
  | _ => none }
def liveSupersRow : OpenClaim := { program := "ytfmcclhfnpcokaagreat", sum := "8acf649c53bc204ccda10d2202265fc348738c921d030d34a1a99a834056c899", func := "isochron/isochronlaw17.LiveSupers", spec := "liveSupers", unfollowed := true, recurses := true, plainKeys := false, apart := false }
def LiveSupersSaid : Prop := liveSupersRow.holds Tryz.pinned (OpenSpec.ofChange liveSupersSpec)

/-- ITS FALSE NEIGHBOUR: 'it returns false'. Refute it at one input. -/
def liveSupersWrong : ChangeSpec := { name := "liveSupers", fn := fun _ => fun
  | [d1, d2] => { results := [.lit (.bool false)], args := [d1, d2] }
  | _ => none }
def LiveSupersWrongFalsely : Prop := liveSupersRow.holds Tryz.pinned (OpenSpec.ofChange liveSupersWrong)

/-- 'isochronlaw17.LiveGrown': WHATEVER THE INPUT: true; the input reads as it did. -/
def liveGrownSpec : ChangeSpec := { name := "liveGrown", fn := fun _ => fun
  | [d1, d2, d3] => { results := [.lit (.bool true)], args := [d1, d2, d3] }
  | _ => none }
def liveGrownRow : OpenClaim := { program := "ytfmcclhfnpcokaagreat", sum := "8acf649c53bc204ccda10d2202265fc348738c921d030d34a1a99a834056c899", func := "isochron/isochronlaw17.LiveGrown", spec := "liveGrown", unfollowed := true, recurses := true, plainKeys := false, apart := false }
def LiveGrownSaid : Prop := liveGrownRow.holds Tryz.pinned (OpenSpec.ofChange liveGrownSpec)

/-- ITS FALSE NEIGHBOUR: 'it returns false'. Refute it at one input. -/
def liveGrownWrong : ChangeSpec := { name := "liveGrown", fn := fun _ => fun
  | [d1, d2, d3] => { results := [.lit (.bool false)], args := [d1, d2, d3] }
  | _ => none }
def LiveGrownWrongFalsely : Prop := liveGrownRow.holds Tryz.pinned (OpenSpec.ofChange liveGrownWrong)

/-- 'isochronlaw17.LiveStatics': WHATEVER THE INPUT: true; the input reads as it did. -/
def liveStaticsSpec : ChangeSpec := { name := "liveStatics", fn := fun _ => fun
  | [d] => { results := [.lit (.bool true)], args := [d] }
  | _ => none }
def liveStaticsRow : OpenClaim := { program := "ytfmcclhfnpcokaagreat", sum := "8acf649c53bc204ccda10d2202265fc348738c921d030d34a1a99a834056c899", func := "isochron/isochronlaw17.LiveStatics", spec := "liveStatics", unfollowed := true, recurses := true, plainKeys := false, apart := false }
def LiveStaticsSaid : Prop := liveStaticsRow.holds Tryz.pinned (OpenSpec.ofChange liveStaticsSpec)

/-- ITS FALSE NEIGHBOUR: 'it returns false'. Refute it at one input. -/
def liveStaticsWrong : ChangeSpec := { name := "liveStatics", fn := fun _ => fun
  | [d] => { results := [.lit (.bool false)], args := [d] }
  | _ => none }
def LiveStaticsWrongFalsely : Prop := liveStaticsRow.holds Tryz.pinned (OpenSpec.ofChange liveStaticsWrong)

/-- 'isochronlaw17.LiveTypes': WHATEVER THE INPUT: true; the input reads as it did. -/
def liveTypesSpec : ChangeSpec := { name := "liveTypes", fn := fun _ => fun
  | [d1, d2] => { results := [.lit (.bool true)], args := [d1, d2] }
  | _ => none }
def liveTypesRow : OpenClaim := { program := "ytfmcclhfnpcokaagreat", sum := "8acf649c53bc204ccda10d2202265fc348738c921d030d34a1a99a834056c899", func := "isochron/isochronlaw17.LiveTypes", spec := "liveTypes", unfollowed := true, recurses := true, plainKeys := false, apart := false }
def LiveTypesSaid : Prop := liveTypesRow.holds Tryz.pinned (OpenSpec.ofChange liveTypesSpec)

/-- ITS FALSE NEIGHBOUR: 'it returns false'. Refute it at one input. -/
def liveTypesWrong : ChangeSpec := { name := "liveTypes", fn := fun _ => fun
  | [d1, d2] => { results := [.lit (.bool false)], args := [d1, d2] }
  | _ => none }
def LiveTypesWrongFalsely : Prop := liveTypesRow.holds Tryz.pinned (OpenSpec.ofChange liveTypesWrong)

/-- 'isochronlaw17.LivePoints': WHATEVER THE INPUT: true; the input reads as it did. -/
def livePointsSpec : ChangeSpec := { name := "livePoints", fn := fun _ => fun
  | [d1, d2, d3] => { results := [.lit (.bool true)], args := [d1, d2, d3] }
  | _ => none }
def livePointsRow : OpenClaim := { program := "ytfmcclhfnpcokaagreat", sum := "8acf649c53bc204ccda10d2202265fc348738c921d030d34a1a99a834056c899", func := "isochron/isochronlaw17.LivePoints", spec := "livePoints", unfollowed := true, recurses := true, plainKeys := false, apart := false }
def LivePointsSaid : Prop := livePointsRow.holds Tryz.pinned (OpenSpec.ofChange livePointsSpec)

/-- ITS FALSE NEIGHBOUR: 'it returns false'. Refute it at one input. -/
def livePointsWrong : ChangeSpec := { name := "livePoints", fn := fun _ => fun
  | [d1, d2, d3] => { results := [.lit (.bool false)], args := [d1, d2, d3] }
  | _ => none }
def LivePointsWrongFalsely : Prop := livePointsRow.holds Tryz.pinned (OpenSpec.ofChange livePointsWrong)

/-- 'isochronlaw17.LiveCircle': WHATEVER THE INPUT: true; the input reads as it did. -/
def liveCircleSpec : ChangeSpec := { name := "liveCircle", fn := fun _ => fun
  | [d1, d2, d3] => { results := [.lit (.bool true)], args := [d1, d2, d3] }
  | _ => none }
def liveCircleRow : OpenClaim := { program := "ytfmcclhfnpcokaagreat", sum := "8acf649c53bc204ccda10d2202265fc348738c921d030d34a1a99a834056c899", func := "isochron/isochronlaw17.LiveCircle", spec := "liveCircle", unfollowed := true, recurses := true, plainKeys := false, apart := false }
def LiveCircleSaid : Prop := liveCircleRow.holds Tryz.pinned (OpenSpec.ofChange liveCircleSpec)

/-- ITS FALSE NEIGHBOUR: 'it returns false'. Refute it at one input. -/
def liveCircleWrong : ChangeSpec := { name := "liveCircle", fn := fun _ => fun
  | [d1, d2, d3] => { results := [.lit (.bool false)], args := [d1, d2, d3] }
  | _ => none }
def LiveCircleWrongFalsely : Prop := liveCircleRow.holds Tryz.pinned (OpenSpec.ofChange liveCircleWrong)

/-- 'isochronlaw16.EscapeLevels': WHATEVER THE INPUT: true; the input reads as it did. -/
def escapeLevelsSpec : ChangeSpec := { name := "escapeLevels", fn := fun _ => fun
  | [d1, d2, d3] => { results := [.lit (.bool true)], args := [d1, d2, d3] }
  | _ => none }
def escapeLevelsRow : OpenClaim := { program := "ytfmcclhfnpcokaagreat", sum := "8acf649c53bc204ccda10d2202265fc348738c921d030d34a1a99a834056c899", func := "isochron/isochronlaw16.EscapeLevels", spec := "escapeLevels", unfollowed := true, recurses := true, plainKeys := false, apart := false }
def EscapeLevelsSaid : Prop := escapeLevelsRow.holds Tryz.pinned (OpenSpec.ofChange escapeLevelsSpec)

/-- ITS FALSE NEIGHBOUR: 'it returns false'. Refute it at one input. -/
def escapeLevelsWrong : ChangeSpec := { name := "escapeLevels", fn := fun _ => fun
  | [d1, d2, d3] => { results := [.lit (.bool false)], args := [d1, d2, d3] }
  | _ => none }
def EscapeLevelsWrongFalsely : Prop := escapeLevelsRow.holds Tryz.pinned (OpenSpec.ofChange escapeLevelsWrong)

/-- 'isochronlaw16.EscapeSteps': WHATEVER THE INPUT: true; the input reads as it did. -/
def escapeStepsSpec : ChangeSpec := { name := "escapeSteps", fn := fun _ => fun
  | [d1, d2] => { results := [.lit (.bool true)], args := [d1, d2] }
  | _ => none }
def escapeStepsRow : OpenClaim := { program := "ytfmcclhfnpcokaagreat", sum := "8acf649c53bc204ccda10d2202265fc348738c921d030d34a1a99a834056c899", func := "isochron/isochronlaw16.EscapeSteps", spec := "escapeSteps", unfollowed := true, recurses := true, plainKeys := false, apart := false }
def EscapeStepsSaid : Prop := escapeStepsRow.holds Tryz.pinned (OpenSpec.ofChange escapeStepsSpec)

/-- ITS FALSE NEIGHBOUR: 'it returns false'. Refute it at one input. -/
def escapeStepsWrong : ChangeSpec := { name := "escapeSteps", fn := fun _ => fun
  | [d1, d2] => { results := [.lit (.bool false)], args := [d1, d2] }
  | _ => none }
def EscapeStepsWrongFalsely : Prop := escapeStepsRow.holds Tryz.pinned (OpenSpec.ofChange escapeStepsWrong)

/-- 'isochronlaw16.EscapeStores': WHATEVER THE INPUT: true; the input reads as it did. -/
def escapeStoresSpec : ChangeSpec := { name := "escapeStores", fn := fun _ => fun
  | [d1, d2] => { results := [.lit (.bool true)], args := [d1, d2] }
  | _ => none }
def escapeStoresRow : OpenClaim := { program := "ytfmcclhfnpcokaagreat", sum := "8acf649c53bc204ccda10d2202265fc348738c921d030d34a1a99a834056c899", func := "isochron/isochronlaw16.EscapeStores", spec := "escapeStores", unfollowed := true, recurses := true, plainKeys := false, apart := false }
def EscapeStoresSaid : Prop := escapeStoresRow.holds Tryz.pinned (OpenSpec.ofChange escapeStoresSpec)

/-- ITS FALSE NEIGHBOUR: 'it returns false'. Refute it at one input. -/
def escapeStoresWrong : ChangeSpec := { name := "escapeStores", fn := fun _ => fun
  | [d1, d2] => { results := [.lit (.bool false)], args := [d1, d2] }
  | _ => none }
def EscapeStoresWrongFalsely : Prop := escapeStoresRow.holds Tryz.pinned (OpenSpec.ofChange escapeStoresWrong)

/-- 'isochronlaw16.EscapeLeaves': WHATEVER THE INPUT: true; the input reads as it did. -/
def escapeLeavesSpec : ChangeSpec := { name := "escapeLeaves", fn := fun _ => fun
  | [d1, d2] => { results := [.lit (.bool true)], args := [d1, d2] }
  | _ => none }
def escapeLeavesRow : OpenClaim := { program := "ytfmcclhfnpcokaagreat", sum := "8acf649c53bc204ccda10d2202265fc348738c921d030d34a1a99a834056c899", func := "isochron/isochronlaw16.EscapeLeaves", spec := "escapeLeaves", unfollowed := true, recurses := true, plainKeys := false, apart := false }
def EscapeLeavesSaid : Prop := escapeLeavesRow.holds Tryz.pinned (OpenSpec.ofChange escapeLeavesSpec)

/-- ITS FALSE NEIGHBOUR: 'it returns false'. Refute it at one input. -/
def escapeLeavesWrong : ChangeSpec := { name := "escapeLeaves", fn := fun _ => fun
  | [d1, d2] => { results := [.lit (.bool false)], args := [d1, d2] }
  | _ => none }
def EscapeLeavesWrongFalsely : Prop := escapeLeavesRow.holds Tryz.pinned (OpenSpec.ofChange escapeLeavesWrong)

/-- 'isochronlaw16.EscapeScopeless': WHATEVER THE INPUT: true; the input reads as it did. -/
def escapeScopelessSpec : ChangeSpec := { name := "escapeScopeless", fn := fun _ => fun
  | [d1, d2] => { results := [.lit (.bool true)], args := [d1, d2] }
  | _ => none }
def escapeScopelessRow : OpenClaim := { program := "ytfmcclhfnpcokaagreat", sum := "8acf649c53bc204ccda10d2202265fc348738c921d030d34a1a99a834056c899", func := "isochron/isochronlaw16.EscapeScopeless", spec := "escapeScopeless", unfollowed := true, recurses := true, plainKeys := false, apart := false }
def EscapeScopelessSaid : Prop := escapeScopelessRow.holds Tryz.pinned (OpenSpec.ofChange escapeScopelessSpec)

/-- ITS FALSE NEIGHBOUR: 'it returns false'. Refute it at one input. -/
def escapeScopelessWrong : ChangeSpec := { name := "escapeScopeless", fn := fun _ => fun
  | [d1, d2] => { results := [.lit (.bool false)], args := [d1, d2] }
  | _ => none }
def EscapeScopelessWrongFalsely : Prop := escapeScopelessRow.holds Tryz.pinned (OpenSpec.ofChange escapeScopelessWrong)

/- THE SECOND FORM. 'bulk': how many values and letters a reading holds, each counted each time it is reached (what is shared counts as often as it is met; a slice's spare places count too). A statement '..UptoSaid' is the law's where the arguments, and the package variables that the reading takes, are together of bulk at most 1048576: NARROWER than '..Said'. Prove '..Said' where nothing that the law and all that it calls make is longer than what came in: it says more and counts as full. Else prove '..UptoSaid'. A law counts once. -/
mutual
def uptoBulk {H : Type} : DataW H → Nat
  | .lit (.string bytes) => bytes.length + 1
  | .lit _ => 1
  | .nil => 1
  | .ptr d => uptoBulk d + 1
  | .slice elems spare => uptoBulkAll elems + uptoBulkAll spare + 1
  | .agg parts => uptoBulkAll parts + 1
  | .iface _ d => uptoBulk d + 1
  | .map entries => uptoBulkEntries entries + 1
  | .held _ => 1
def uptoBulkAll {H : Type} : List (DataW H) → Nat
  | [] => 0
  | d :: r => uptoBulk d + uptoBulkAll r
def uptoBulkEntries {H : Type} : List (Lit × DataW H) → Nat
  | [] => 0
  | x :: r => uptoBulkEntry x + uptoBulkEntries r
def uptoBulkEntry {H : Type} : Lit × DataW H → Nat
  | (.string bytes, d) => bytes.length + uptoBulk d + 1
  | (_, d) => uptoBulk d + 1
 end
def uptoSmall : (H : Type) → List (DataW H) → Bool := fun _ ds => decide (uptoBulkAll ds ≤ 1048576)
def OpenSpec.upto (s : _root_.Go.ChangeSpec) : _root_.Go.OpenSpec := { _root_.Go.OpenSpec.ofChange s with cond := some uptoSmall }

/-- 'isochronlaw06.VerifyUnloads', WHERE WHAT IT READS IS OF BULK AT MOST 1048576: true; the input reads as it did. -/
def verifyUnloadsUptoRow : OpenClaim := { program := "ytfmcclhfnpcokaagreat", sum := "8acf649c53bc204ccda10d2202265fc348738c921d030d34a1a99a834056c899", func := "isochron/isochronlaw06.VerifyUnloads", spec := "verifyUnloads", unfollowed := true, recurses := true, plainKeys := false, apart := false, narrowed := true }
def VerifyUnloadsUptoSaid : Prop := verifyUnloadsUptoRow.holds Tryz.pinned (OpenSpec.upto verifyUnloadsSpec)

/-- 'isochronlaw17.LiveSupers', WHERE WHAT IT READS IS OF BULK AT MOST 1048576: true; the input reads as it did. -/
def liveSupersUptoRow : OpenClaim := { program := "ytfmcclhfnpcokaagreat", sum := "8acf649c53bc204ccda10d2202265fc348738c921d030d34a1a99a834056c899", func := "isochron/isochronlaw17.LiveSupers", spec := "liveSupers", unfollowed := true, recurses := true, plainKeys := false, apart := false, narrowed := true }
def LiveSupersUptoSaid : Prop := liveSupersUptoRow.holds Tryz.pinned (OpenSpec.upto liveSupersSpec)

/-- 'isochronlaw17.LiveGrown', WHERE WHAT IT READS IS OF BULK AT MOST 1048576: true; the input reads as it did. -/
def liveGrownUptoRow : OpenClaim := { program := "ytfmcclhfnpcokaagreat", sum := "8acf649c53bc204ccda10d2202265fc348738c921d030d34a1a99a834056c899", func := "isochron/isochronlaw17.LiveGrown", spec := "liveGrown", unfollowed := true, recurses := true, plainKeys := false, apart := false, narrowed := true }
def LiveGrownUptoSaid : Prop := liveGrownUptoRow.holds Tryz.pinned (OpenSpec.upto liveGrownSpec)

/-- 'isochronlaw17.LiveStatics', WHERE WHAT IT READS IS OF BULK AT MOST 1048576: true; the input reads as it did. -/
def liveStaticsUptoRow : OpenClaim := { program := "ytfmcclhfnpcokaagreat", sum := "8acf649c53bc204ccda10d2202265fc348738c921d030d34a1a99a834056c899", func := "isochron/isochronlaw17.LiveStatics", spec := "liveStatics", unfollowed := true, recurses := true, plainKeys := false, apart := false, narrowed := true }
def LiveStaticsUptoSaid : Prop := liveStaticsUptoRow.holds Tryz.pinned (OpenSpec.upto liveStaticsSpec)

/-- 'isochronlaw17.LiveTypes', WHERE WHAT IT READS IS OF BULK AT MOST 1048576: true; the input reads as it did. -/
def liveTypesUptoRow : OpenClaim := { program := "ytfmcclhfnpcokaagreat", sum := "8acf649c53bc204ccda10d2202265fc348738c921d030d34a1a99a834056c899", func := "isochron/isochronlaw17.LiveTypes", spec := "liveTypes", unfollowed := true, recurses := true, plainKeys := false, apart := false, narrowed := true }
def LiveTypesUptoSaid : Prop := liveTypesUptoRow.holds Tryz.pinned (OpenSpec.upto liveTypesSpec)

/-- 'isochronlaw17.LivePoints', WHERE WHAT IT READS IS OF BULK AT MOST 1048576: true; the input reads as it did. -/
def livePointsUptoRow : OpenClaim := { program := "ytfmcclhfnpcokaagreat", sum := "8acf649c53bc204ccda10d2202265fc348738c921d030d34a1a99a834056c899", func := "isochron/isochronlaw17.LivePoints", spec := "livePoints", unfollowed := true, recurses := true, plainKeys := false, apart := false, narrowed := true }
def LivePointsUptoSaid : Prop := livePointsUptoRow.holds Tryz.pinned (OpenSpec.upto livePointsSpec)

/-- 'isochronlaw17.LiveCircle', WHERE WHAT IT READS IS OF BULK AT MOST 1048576: true; the input reads as it did. -/
def liveCircleUptoRow : OpenClaim := { program := "ytfmcclhfnpcokaagreat", sum := "8acf649c53bc204ccda10d2202265fc348738c921d030d34a1a99a834056c899", func := "isochron/isochronlaw17.LiveCircle", spec := "liveCircle", unfollowed := true, recurses := true, plainKeys := false, apart := false, narrowed := true }
def LiveCircleUptoSaid : Prop := liveCircleUptoRow.holds Tryz.pinned (OpenSpec.upto liveCircleSpec)

/-- 'isochronlaw16.EscapeLevels', WHERE WHAT IT READS IS OF BULK AT MOST 1048576: true; the input reads as it did. -/
def escapeLevelsUptoRow : OpenClaim := { program := "ytfmcclhfnpcokaagreat", sum := "8acf649c53bc204ccda10d2202265fc348738c921d030d34a1a99a834056c899", func := "isochron/isochronlaw16.EscapeLevels", spec := "escapeLevels", unfollowed := true, recurses := true, plainKeys := false, apart := false, narrowed := true }
def EscapeLevelsUptoSaid : Prop := escapeLevelsUptoRow.holds Tryz.pinned (OpenSpec.upto escapeLevelsSpec)

/-- 'isochronlaw16.EscapeSteps', WHERE WHAT IT READS IS OF BULK AT MOST 1048576: true; the input reads as it did. -/
def escapeStepsUptoRow : OpenClaim := { program := "ytfmcclhfnpcokaagreat", sum := "8acf649c53bc204ccda10d2202265fc348738c921d030d34a1a99a834056c899", func := "isochron/isochronlaw16.EscapeSteps", spec := "escapeSteps", unfollowed := true, recurses := true, plainKeys := false, apart := false, narrowed := true }
def EscapeStepsUptoSaid : Prop := escapeStepsUptoRow.holds Tryz.pinned (OpenSpec.upto escapeStepsSpec)

/-- 'isochronlaw16.EscapeStores', WHERE WHAT IT READS IS OF BULK AT MOST 1048576: true; the input reads as it did. -/
def escapeStoresUptoRow : OpenClaim := { program := "ytfmcclhfnpcokaagreat", sum := "8acf649c53bc204ccda10d2202265fc348738c921d030d34a1a99a834056c899", func := "isochron/isochronlaw16.EscapeStores", spec := "escapeStores", unfollowed := true, recurses := true, plainKeys := false, apart := false, narrowed := true }
def EscapeStoresUptoSaid : Prop := escapeStoresUptoRow.holds Tryz.pinned (OpenSpec.upto escapeStoresSpec)

/-- 'isochronlaw16.EscapeLeaves', WHERE WHAT IT READS IS OF BULK AT MOST 1048576: true; the input reads as it did. -/
def escapeLeavesUptoRow : OpenClaim := { program := "ytfmcclhfnpcokaagreat", sum := "8acf649c53bc204ccda10d2202265fc348738c921d030d34a1a99a834056c899", func := "isochron/isochronlaw16.EscapeLeaves", spec := "escapeLeaves", unfollowed := true, recurses := true, plainKeys := false, apart := false, narrowed := true }
def EscapeLeavesUptoSaid : Prop := escapeLeavesUptoRow.holds Tryz.pinned (OpenSpec.upto escapeLeavesSpec)

/-- 'isochronlaw16.EscapeScopeless', WHERE WHAT IT READS IS OF BULK AT MOST 1048576: true; the input reads as it did. -/
def escapeScopelessUptoRow : OpenClaim := { program := "ytfmcclhfnpcokaagreat", sum := "8acf649c53bc204ccda10d2202265fc348738c921d030d34a1a99a834056c899", func := "isochron/isochronlaw16.EscapeScopeless", spec := "escapeScopeless", unfollowed := true, recurses := true, plainKeys := false, apart := false, narrowed := true }
def EscapeScopelessUptoSaid : Prop := escapeScopelessUptoRow.holds Tryz.pinned (OpenSpec.upto escapeScopelessSpec)

end Rows
end Go.Proofs.YtfmcclhfnpcokaaGreat
