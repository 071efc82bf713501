/- isochronlaw07.heavy: whatever it says, it says it. -/
import Derived.Test.YtcfjblcgceednaaGreatG22
import Derived.Test.YtcfjblcgceednaaGreatR24
set_option linter.all false
set_option linter.unusedVariables false
set_option linter.unusedSimpArgs false
set_option maxHeartbeats 8000000
namespace Go.Proofs.YtcfjblcgceednaaGreat
section
open Go.RowKit
def ZoF (w:World):Ending→World→Prop:=fun e w'=>(∃ b,e=.returned (.bool b))∧Below w.heap.size w w'
end
end Go.Proofs.YtcfjblcgceednaaGreat
