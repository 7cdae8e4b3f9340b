/- A fact on one function of the program. No statement of a claim. -/
import Derived.Test.YtdfindjbjonoaaaGreatRows
import Derived.Test.YtdfindjbjonoaaaGreatChecked
import Derived.JoinedCond
set_option linter.all false
namespace Go.Proofs.YtdfindjbjonoaaaGreat
open Go.ChangeShapes Go.WideShapes Go.ChangeAt
theorem fact_fnExactShortenClause_named : (Rows.fnExactShortenClauseUptoRow.named == Tryz.prog.varsNamed 3) = true := by kernel_rfl
end Go.Proofs.YtdfindjbjonoaaaGreat
