/- Joined texts. The first: Sets of small numbers in memory: a map from int to bool. -/
import Derived.Test.YtcfjblcgceednaaGreatR27
set_option linter.all false
set_option linter.unusedVariables false
set_option linter.unusedSimpArgs false
set_option maxRecDepth 100000
set_option maxHeartbeats 8000000
namespace Go.Proofs.YtcfjblcgceednaaGreat
end Go.Proofs.YtcfjblcgceednaaGreat
