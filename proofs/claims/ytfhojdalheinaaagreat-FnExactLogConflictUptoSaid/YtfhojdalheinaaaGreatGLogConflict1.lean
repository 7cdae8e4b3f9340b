/- A fact on one function of the program. No statement of a claim. -/
import Derived.Test.YtfhojdalheinaaaGreatRows
import Derived.Test.YtfhojdalheinaaaGreatChecked
import Derived.JoinedCond
set_option linter.all false
namespace Go.Proofs.YtfhojdalheinaaaGreat
open Go.ChangeShapes Go.WideShapes Go.ChangeAt
theorem fact_fnExactLogConflict_inPlace:(Rows.fnExactLogConflictUptoRow.inPlace == Tryz.prog.inPlace 5)=true:=by kernel_rfl
end Go.Proofs.YtfhojdalheinaaaGreat
