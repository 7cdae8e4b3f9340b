/- A fact on one function of the program. No statement of a claim. -/
import Derived.Test.YtepogmnolnlpmaaGreatRows
import Derived.Test.YtepogmnolnlpmaaGreatChecked
import Derived.JoinedCond
set_option linter.all false
namespace Go.Proofs.YtepogmnolnlpmaaGreat
open Go.ChangeShapes Go.WideShapes Go.ChangeAt
theorem fact_fnExactPropagate_inPlace:(Rows.fnExactPropagateUptoRow.inPlace == Tryz.prog.inPlace 6)=true:=by kernel_rfl
end Go.Proofs.YtepogmnolnlpmaaGreat
