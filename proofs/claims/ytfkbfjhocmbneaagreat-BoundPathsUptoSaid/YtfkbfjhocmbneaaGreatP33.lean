/- Joined texts. The first: ref05.Copy: a module of the call's own that reads as the given one. -/
import Derived.Test.YtfkbfjhocmbneaaGreatP30
set_option linter.all false
set_option linter.unusedVariables false
set_option linter.unusedSimpArgs false
set_option maxRecDepth 100000
set_option maxHeartbeats 8000000
namespace Go.Proofs.YtfkbfjhocmbneaaGreat
end Go.Proofs.YtfkbfjhocmbneaaGreat
