/- A fact on the whole program. No statement of a claim. -/
import Derived.Test.YtepogmnolnlpmaaGreatRows
import Derived.Test.YtepogmnolnlpmaaGreatChecked
import Derived.JoinedCond
set_option linter.all false
namespace Go.Proofs.YtepogmnolnlpmaaGreat
open Go.ChangeShapes Go.WideShapes Go.ChangeAt
theorem fact_laid:(laidOutB Tryz.prog)=true:=by kernel_rfl
end Go.Proofs.YtepogmnolnlpmaaGreat
