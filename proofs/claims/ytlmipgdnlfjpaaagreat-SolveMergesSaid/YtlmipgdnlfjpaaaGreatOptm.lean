/- Merged by program from texts of my own. -/
import Derived.Test.YtlmipgdnlfjpaaaGreatRows
import Derived.Test.YtlmipgdnlfjpaaaGreatOpenm
import Derived.Test.YtlmipgdnlfjpaaaGreatTymm
namespace Go.Proofs.YtlmipgdnlfjpaaaGreat
open Go Go.RowKit Go.ChangeShapes Go.WideShapes Go.Deep Go.Joins Go.Deco
end Go.Proofs.YtlmipgdnlfjpaaaGreat
namespace Go.Proofs.YtlmipgdnlfjpaaaGreat
open Go Go.RowKit Go.ChangeShapes Go.WideShapes Go.Deep Go.Joins Go.Deco
end Go.Proofs.YtlmipgdnlfjpaaaGreat
