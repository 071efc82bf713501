/-
  No cell of these rows narrows 'for every input' (looked for: loops, veiled, ifaces, maps, wideKeys, modest, calm, conditions, laid).
  DERIVED. THE GIVEN ROWS OF THIS SEAT. 8 by the template 'for every input the law returns true; each argument reads behind the call as it read before'; 0 by the template 'total and deterministic' (their statements: YtmgeffdekngjgaaTotals.lean).
  GIVEN WITH THE SEED: the statements are not yours to turn. If you find one false, say at which input.
  Laid BY PROGRAM, IN A SANDBOX (cutbox-rows.mjs): the forced cells as the released guide's own fill.sh prints them over the translation 8eb06bd4a90746a8… (all of the seat's roots in one cut). By AI agents, Wed Nov 11 2026. No macro, syntax, notation, axiom, sorry.
-/
import Derived.Test.YtmgeffdekngjgaaChecked
import GoSem.Claim
import GoSem.ClaimJoined
import GoSem.ClaimMapViews
import Derived.JoinedTies
import Derived.KernelRfl
namespace Go.Proofs.Ytmgeffdekngjgaa
/- THE CELL 'sum', in the pinned program and in every row, IS THE sha256 OF THE DUMP (.gsa) THAT YtmgeffdekngjgaaProg.lean LOADS. Nothing in Lean hashes anything: it is a label: what it is worth is what the hold of that sum in a sandbox is worth. -/
noncomputable def Try.pinned : Pinned := { name := "ytmgeffdekngjgaa", sum := "8eb06bd4a90746a8a8f32349473a4c3bd4144315d1edf35f2b64a4771c4f8b1a", checked := Try.checked }
namespace Rows
def none {H : Type} : Left H := { results := [], args := [] }

/-- 'isochronlaw01.WordSums': WHATEVER THE INPUT: true; the input reads as it did. -/
def wordSumsSpec : ChangeSpec := { name := "wordSums", fn := fun _ => fun
  | [d1, d2, d3] => { results := [.lit (.bool true)], args := [d1, d2, d3] }
  | _ => none }
def wordSumsRow : OpenClaim := { program := "ytmgeffdekngjgaa", sum := "8eb06bd4a90746a8a8f32349473a4c3bd4144315d1edf35f2b64a4771c4f8b1a", func := "isochron/isochronlaw01.WordSums", spec := "wordSums", unfollowed := true, recurses := true, apart := false }
def WordSumsSaid : Prop := wordSumsRow.holds Try.pinned (OpenSpec.ofChange wordSumsSpec)

/-- ITS FALSE NEIGHBOUR: 'it returns false'. Refute it at one input. -/
def wordSumsWrong : ChangeSpec := { name := "wordSums", fn := fun _ => fun
  | [d1, d2, d3] => { results := [.lit (.bool false)], args := [d1, d2, d3] }
  | _ => none }
def WordSumsWrongFalsely : Prop := wordSumsRow.holds Try.pinned (OpenSpec.ofChange wordSumsWrong)

/-- 'isochronlaw01.WordChanged': WHATEVER THE INPUT: true; the input reads as it did. -/
def wordChangedSpec : ChangeSpec := { name := "wordChanged", fn := fun _ => fun
  | [d1, d2, d3, d4] => { results := [.lit (.bool true)], args := [d1, d2, d3, d4] }
  | _ => none }
def wordChangedRow : OpenClaim := { program := "ytmgeffdekngjgaa", sum := "8eb06bd4a90746a8a8f32349473a4c3bd4144315d1edf35f2b64a4771c4f8b1a", func := "isochron/isochronlaw01.WordChanged", spec := "wordChanged", unfollowed := true, recurses := true, apart := false }
def WordChangedSaid : Prop := wordChangedRow.holds Try.pinned (OpenSpec.ofChange wordChangedSpec)

/-- ITS FALSE NEIGHBOUR: 'it returns false'. Refute it at one input. -/
def wordChangedWrong : ChangeSpec := { name := "wordChanged", fn := fun _ => fun
  | [d1, d2, d3, d4] => { results := [.lit (.bool false)], args := [d1, d2, d3, d4] }
  | _ => none }
def WordChangedWrongFalsely : Prop := wordChangedRow.holds Try.pinned (OpenSpec.ofChange wordChangedWrong)

/-- 'isochronlaw01.WordChecks': WHATEVER THE INPUT: true; the input reads as it did. -/
def wordChecksSpec : ChangeSpec := { name := "wordChecks", fn := fun _ => fun
  | [d] => { results := [.lit (.bool true)], args := [d] }
  | _ => none }
def wordChecksRow : OpenClaim := { program := "ytmgeffdekngjgaa", sum := "8eb06bd4a90746a8a8f32349473a4c3bd4144315d1edf35f2b64a4771c4f8b1a", func := "isochron/isochronlaw01.WordChecks", spec := "wordChecks", unfollowed := true, recurses := true, apart := false }
def WordChecksSaid : Prop := wordChecksRow.holds Try.pinned (OpenSpec.ofChange wordChecksSpec)

/-- ITS FALSE NEIGHBOUR: 'it returns false'. Refute it at one input. -/
def wordChecksWrong : ChangeSpec := { name := "wordChecks", fn := fun _ => fun
  | [d] => { results := [.lit (.bool false)], args := [d] }
  | _ => none }
def WordChecksWrongFalsely : Prop := wordChecksRow.holds Try.pinned (OpenSpec.ofChange wordChecksWrong)

/-- 'isochronlaw01.WordAdds': WHATEVER THE INPUT: true; the input reads as it did. -/
def wordAddsSpec : ChangeSpec := { name := "wordAdds", fn := fun _ => fun
  | [d1, d2] => { results := [.lit (.bool true)], args := [d1, d2] }
  | _ => none }
def wordAddsRow : OpenClaim := { program := "ytmgeffdekngjgaa", sum := "8eb06bd4a90746a8a8f32349473a4c3bd4144315d1edf35f2b64a4771c4f8b1a", func := "isochron/isochronlaw01.WordAdds", spec := "wordAdds", unfollowed := true, recurses := true, apart := false }
def WordAddsSaid : Prop := wordAddsRow.holds Try.pinned (OpenSpec.ofChange wordAddsSpec)

/-- ITS FALSE NEIGHBOUR: 'it returns false'. Refute it at one input. -/
def wordAddsWrong : ChangeSpec := { name := "wordAdds", fn := fun _ => fun
  | [d1, d2] => { results := [.lit (.bool false)], args := [d1, d2] }
  | _ => none }
def WordAddsWrongFalsely : Prop := wordAddsRow.holds Try.pinned (OpenSpec.ofChange wordAddsWrong)

/-- 'isochronlaw01.WordSaturates': WHATEVER THE INPUT: true; the input reads as it did. -/
def wordSaturatesSpec : ChangeSpec := { name := "wordSaturates", fn := fun _ => fun
  | [d1, d2] => { results := [.lit (.bool true)], args := [d1, d2] }
  | _ => none }
def wordSaturatesRow : OpenClaim := { program := "ytmgeffdekngjgaa", sum := "8eb06bd4a90746a8a8f32349473a4c3bd4144315d1edf35f2b64a4771c4f8b1a", func := "isochron/isochronlaw01.WordSaturates", spec := "wordSaturates", unfollowed := true, recurses := true, apart := false }
def WordSaturatesSaid : Prop := wordSaturatesRow.holds Try.pinned (OpenSpec.ofChange wordSaturatesSpec)

/-- ITS FALSE NEIGHBOUR: 'it returns false'. Refute it at one input. -/
def wordSaturatesWrong : ChangeSpec := { name := "wordSaturates", fn := fun _ => fun
  | [d1, d2] => { results := [.lit (.bool false)], args := [d1, d2] }
  | _ => none }
def WordSaturatesWrongFalsely : Prop := wordSaturatesRow.holds Try.pinned (OpenSpec.ofChange wordSaturatesWrong)

/-- 'isochronlaw01.WordDivides': WHATEVER THE INPUT: true; the input reads as it did. -/
def wordDividesSpec : ChangeSpec := { name := "wordDivides", fn := fun _ => fun
  | [d1, d2] => { results := [.lit (.bool true)], args := [d1, d2] }
  | _ => none }
def wordDividesRow : OpenClaim := { program := "ytmgeffdekngjgaa", sum := "8eb06bd4a90746a8a8f32349473a4c3bd4144315d1edf35f2b64a4771c4f8b1a", func := "isochron/isochronlaw01.WordDivides", spec := "wordDivides", unfollowed := true, recurses := true, apart := false }
def WordDividesSaid : Prop := wordDividesRow.holds Try.pinned (OpenSpec.ofChange wordDividesSpec)

/-- ITS FALSE NEIGHBOUR: 'it returns false'. Refute it at one input. -/
def wordDividesWrong : ChangeSpec := { name := "wordDivides", fn := fun _ => fun
  | [d1, d2] => { results := [.lit (.bool false)], args := [d1, d2] }
  | _ => none }
def WordDividesWrongFalsely : Prop := wordDividesRow.holds Try.pinned (OpenSpec.ofChange wordDividesWrong)

/-- 'isochronlaw01.WordBytes': WHATEVER THE INPUT: true; the input reads as it did. -/
def wordBytesSpec : ChangeSpec := { name := "wordBytes", fn := fun _ => fun
  | [d1, d2] => { results := [.lit (.bool true)], args := [d1, d2] }
  | _ => none }
def wordBytesRow : OpenClaim := { program := "ytmgeffdekngjgaa", sum := "8eb06bd4a90746a8a8f32349473a4c3bd4144315d1edf35f2b64a4771c4f8b1a", func := "isochron/isochronlaw01.WordBytes", spec := "wordBytes", unfollowed := true, recurses := true, apart := false }
def WordBytesSaid : Prop := wordBytesRow.holds Try.pinned (OpenSpec.ofChange wordBytesSpec)

/-- ITS FALSE NEIGHBOUR: 'it returns false'. Refute it at one input. -/
def wordBytesWrong : ChangeSpec := { name := "wordBytes", fn := fun _ => fun
  | [d1, d2] => { results := [.lit (.bool false)], args := [d1, d2] }
  | _ => none }
def WordBytesWrongFalsely : Prop := wordBytesRow.holds Try.pinned (OpenSpec.ofChange wordBytesWrong)

/-- 'isochronlaw01.WordShifts': WHATEVER THE INPUT: true; the input reads as it did. -/
def wordShiftsSpec : ChangeSpec := { name := "wordShifts", fn := fun _ => fun
  | [d1, d2] => { results := [.lit (.bool true)], args := [d1, d2] }
  | _ => none }
def wordShiftsRow : OpenClaim := { program := "ytmgeffdekngjgaa", sum := "8eb06bd4a90746a8a8f32349473a4c3bd4144315d1edf35f2b64a4771c4f8b1a", func := "isochron/isochronlaw01.WordShifts", spec := "wordShifts", unfollowed := true, recurses := true, apart := false }
def WordShiftsSaid : Prop := wordShiftsRow.holds Try.pinned (OpenSpec.ofChange wordShiftsSpec)

/-- ITS FALSE NEIGHBOUR: 'it returns false'. Refute it at one input. -/
def wordShiftsWrong : ChangeSpec := { name := "wordShifts", fn := fun _ => fun
  | [d1, d2] => { results := [.lit (.bool false)], args := [d1, d2] }
  | _ => none }
def WordShiftsWrongFalsely : Prop := wordShiftsRow.holds Try.pinned (OpenSpec.ofChange wordShiftsWrong)

/- THE SECOND FORM. 'bulk': how many values and letters a reading holds, each counted each time it is reached (what is shared counts as often as it is met; a slice's spare places count too). A statement '..UptoSaid' is the law's where the arguments, and the package variables that the reading takes, are together of bulk at most 1048576: NARROWER than '..Said'. Prove '..Said' where nothing that the law and all that it calls make is longer than what came in: it says more and counts as full. Else prove '..UptoSaid'. A law counts once. -/
mutual
def uptoBulk {H : Type} : DataW H → Nat
  | .lit (.string bytes) => bytes.length + 1
  | .lit _ => 1
  | .nil => 1
  | .ptr d => uptoBulk d + 1
  | .slice elems spare => uptoBulkAll elems + uptoBulkAll spare + 1
  | .agg parts => uptoBulkAll parts + 1
  | .iface _ d => uptoBulk d + 1
  | .map entries => uptoBulkEntries entries + 1
  | .held _ => 1
def uptoBulkAll {H : Type} : List (DataW H) → Nat
  | [] => 0
  | d :: r => uptoBulk d + uptoBulkAll r
def uptoBulkEntries {H : Type} : List (Lit × DataW H) → Nat
  | [] => 0
  | x :: r => uptoBulkEntry x + uptoBulkEntries r
def uptoBulkEntry {H : Type} : Lit × DataW H → Nat
  | (.string bytes, d) => bytes.length + uptoBulk d + 1
  | (_, d) => uptoBulk d + 1
 end
def uptoSmall : (H : Type) → List (DataW H) → Bool := fun _ ds => decide (uptoBulkAll ds ≤ 1048576)
def OpenSpec.upto (s : _root_.Go.ChangeSpec) : _root_.Go.OpenSpec := { _root_.Go.OpenSpec.ofChange s with cond := some uptoSmall }

/-- 'isochronlaw01.WordSums', WHERE WHAT IT READS IS OF BULK AT MOST 1048576: true; the input reads as it did. -/
def wordSumsUptoRow : OpenClaim := { program := "ytmgeffdekngjgaa", sum := "8eb06bd4a90746a8a8f32349473a4c3bd4144315d1edf35f2b64a4771c4f8b1a", func := "isochron/isochronlaw01.WordSums", spec := "wordSums", unfollowed := true, recurses := true, apart := false, narrowed := true }
def WordSumsUptoSaid : Prop := wordSumsUptoRow.holds Try.pinned (OpenSpec.upto wordSumsSpec)

/-- 'isochronlaw01.WordChanged', WHERE WHAT IT READS IS OF BULK AT MOST 1048576: true; the input reads as it did. -/
def wordChangedUptoRow : OpenClaim := { program := "ytmgeffdekngjgaa", sum := "8eb06bd4a90746a8a8f32349473a4c3bd4144315d1edf35f2b64a4771c4f8b1a", func := "isochron/isochronlaw01.WordChanged", spec := "wordChanged", unfollowed := true, recurses := true, apart := false, narrowed := true }
def WordChangedUptoSaid : Prop := wordChangedUptoRow.holds Try.pinned (OpenSpec.upto wordChangedSpec)

/-- 'isochronlaw01.WordChecks', WHERE WHAT IT READS IS OF BULK AT MOST 1048576: true; the input reads as it did. -/
def wordChecksUptoRow : OpenClaim := { program := "ytmgeffdekngjgaa", sum := "8eb06bd4a90746a8a8f32349473a4c3bd4144315d1edf35f2b64a4771c4f8b1a", func := "isochron/isochronlaw01.WordChecks", spec := "wordChecks", unfollowed := true, recurses := true, apart := false, narrowed := true }
def WordChecksUptoSaid : Prop := wordChecksUptoRow.holds Try.pinned (OpenSpec.upto wordChecksSpec)

/-- 'isochronlaw01.WordAdds', WHERE WHAT IT READS IS OF BULK AT MOST 1048576: true; the input reads as it did. -/
def wordAddsUptoRow : OpenClaim := { program := "ytmgeffdekngjgaa", sum := "8eb06bd4a90746a8a8f32349473a4c3bd4144315d1edf35f2b64a4771c4f8b1a", func := "isochron/isochronlaw01.WordAdds", spec := "wordAdds", unfollowed := true, recurses := true, apart := false, narrowed := true }
def WordAddsUptoSaid : Prop := wordAddsUptoRow.holds Try.pinned (OpenSpec.upto wordAddsSpec)

/-- 'isochronlaw01.WordSaturates', WHERE WHAT IT READS IS OF BULK AT MOST 1048576: true; the input reads as it did. -/
def wordSaturatesUptoRow : OpenClaim := { program := "ytmgeffdekngjgaa", sum := "8eb06bd4a90746a8a8f32349473a4c3bd4144315d1edf35f2b64a4771c4f8b1a", func := "isochron/isochronlaw01.WordSaturates", spec := "wordSaturates", unfollowed := true, recurses := true, apart := false, narrowed := true }
def WordSaturatesUptoSaid : Prop := wordSaturatesUptoRow.holds Try.pinned (OpenSpec.upto wordSaturatesSpec)

/-- 'isochronlaw01.WordDivides', WHERE WHAT IT READS IS OF BULK AT MOST 1048576: true; the input reads as it did. -/
def wordDividesUptoRow : OpenClaim := { program := "ytmgeffdekngjgaa", sum := "8eb06bd4a90746a8a8f32349473a4c3bd4144315d1edf35f2b64a4771c4f8b1a", func := "isochron/isochronlaw01.WordDivides", spec := "wordDivides", unfollowed := true, recurses := true, apart := false, narrowed := true }
def WordDividesUptoSaid : Prop := wordDividesUptoRow.holds Try.pinned (OpenSpec.upto wordDividesSpec)

/-- 'isochronlaw01.WordBytes', WHERE WHAT IT READS IS OF BULK AT MOST 1048576: true; the input reads as it did. -/
def wordBytesUptoRow : OpenClaim := { program := "ytmgeffdekngjgaa", sum := "8eb06bd4a90746a8a8f32349473a4c3bd4144315d1edf35f2b64a4771c4f8b1a", func := "isochron/isochronlaw01.WordBytes", spec := "wordBytes", unfollowed := true, recurses := true, apart := false, narrowed := true }
def WordBytesUptoSaid : Prop := wordBytesUptoRow.holds Try.pinned (OpenSpec.upto wordBytesSpec)

/-- 'isochronlaw01.WordShifts', WHERE WHAT IT READS IS OF BULK AT MOST 1048576: true; the input reads as it did. -/
def wordShiftsUptoRow : OpenClaim := { program := "ytmgeffdekngjgaa", sum := "8eb06bd4a90746a8a8f32349473a4c3bd4144315d1edf35f2b64a4771c4f8b1a", func := "isochron/isochronlaw01.WordShifts", spec := "wordShifts", unfollowed := true, recurses := true, apart := false, narrowed := true }
def WordShiftsUptoSaid : Prop := wordShiftsUptoRow.holds Try.pinned (OpenSpec.upto wordShiftsSpec)

end Rows
end Go.Proofs.Ytmgeffdekngjgaa
