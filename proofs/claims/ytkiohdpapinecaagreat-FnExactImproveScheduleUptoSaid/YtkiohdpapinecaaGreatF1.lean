/- A fact on the whole program. No statement of a claim. -/
import Derived.Test.YtkiohdpapinecaaGreatRows
import Derived.Test.YtkiohdpapinecaaGreatChecked
import Derived.JoinedCond
set_option linter.all false
namespace Go.Proofs.YtkiohdpapinecaaGreat
open Go.ChangeShapes Go.WideShapes Go.ChangeAt
theorem fact_laid:(laidOutB Tryz.prog)=true:=by kernel_rfl
end Go.Proofs.YtkiohdpapinecaaGreat
