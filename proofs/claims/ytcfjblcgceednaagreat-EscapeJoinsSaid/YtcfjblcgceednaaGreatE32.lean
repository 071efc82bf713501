/- bound: the weights of all methods by cost; costs, asked. -/
import Derived.Test.YtcfjblcgceednaaGreatE27
set_option linter.all false
set_option linter.unusedVariables false
set_option linter.unusedSimpArgs false
set_option maxHeartbeats 4000000
namespace Go.Proofs.YtcfjblcgceednaaGreat
end Go.Proofs.YtcfjblcgceednaaGreat
