/- Merged by program from texts of my own. -/
import Derived.Test.YtlmipgdnlfjpaaaGreatRtCm
namespace Go.Proofs.YtlmipgdnlfjpaaaGreat
open Go.RowKit Go.Deco
set_option linter.unusedSimpArgs false
set_option linter.unusedVariables false
def TyW (d:Nat)(wo w:World)(a:Nat)(t:Ty):Prop:=∃A n c B m e,Box5 w a (.int .i64 t.kind) (.int .i64 t.size) (.int .i64 t.count) (.slice A n c) (.slice B m e)∧TyV d wo All (.agg #[.int .i64 t.kind,.int .i64 t.size,.int .i64 t.count,.slice A n c,.slice B m e]) t
end Go.Proofs.YtlmipgdnlfjpaaaGreat
