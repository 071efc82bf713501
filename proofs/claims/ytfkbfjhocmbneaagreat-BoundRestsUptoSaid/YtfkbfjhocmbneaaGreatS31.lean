/- Joined texts. The first: Copying a module: rows of pairs, what stays, the rows that a copy owns. -/
import Derived.Test.YtfkbfjhocmbneaaGreatG23
import Derived.Test.YtfkbfjhocmbneaaGreatG24
import Derived.Test.YtfkbfjhocmbneaaGreatG26
set_option linter.all false
set_option linter.unusedVariables false
set_option linter.unusedSimpArgs false
set_option maxHeartbeats 8000000
namespace Go.Proofs.YtfkbfjhocmbneaaGreat
end Go.Proofs.YtfkbfjhocmbneaaGreat
