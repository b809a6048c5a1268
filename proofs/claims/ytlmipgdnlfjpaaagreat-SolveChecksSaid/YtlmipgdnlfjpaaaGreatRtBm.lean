/- Merged by program from texts of my own. -/
import Derived.Test.YtlmipgdnlfjpaaaGreatRtAm
import Derived.Test.YtlmipgdnlfjpaaaGreatFslm
namespace Go.Proofs.YtlmipgdnlfjpaaaGreat
open Go.RowKit Go.Deco
set_option linter.unusedSimpArgs false
set_option linter.unusedVariables false
def JndOk (d:Nat):Prop:=∀(w:World) (S:Nat→Prop) (a b:Ty) (va vb:Value),TyV d w S va a→TyV d w S vb b→FW a→FW b→Calls Tryz.prog 72 #[va,vb] w (JoinIs d w S (joinT a b))
theorem joinF_len:∀(l r:List (Int×Ty)),(joinF l r).length≤l.length
 |[],r=>by simp[joinF]
 |(o,t) :: l,r=>by
  have:=joinF_len l r;rw[joinF];cases lkF r o <;> simp <;> omega
end Go.Proofs.YtlmipgdnlfjpaaaGreat
