/- Merged by program from texts of my own. -/
import Derived.Test.YtlmipgdnlfjpaaaGreatTham
import Derived.Test.YtlmipgdnlfjpaaaGreatThDm
namespace Go.Proofs.YtlmipgdnlfjpaaaGreat
open Go.RowKit Go.Deco Go.Maps
set_option linter.unusedSimpArgs false
set_option linter.unusedVariables false
end Go.Proofs.YtlmipgdnlfjpaaaGreat
namespace Go.Proofs.YtlmipgdnlfjpaaaGreat
open Go.RowKit Go.Deco Go.Maps
set_option linter.unusedSimpArgs false
set_option linter.unusedVariables false
end Go.Proofs.YtlmipgdnlfjpaaaGreat
