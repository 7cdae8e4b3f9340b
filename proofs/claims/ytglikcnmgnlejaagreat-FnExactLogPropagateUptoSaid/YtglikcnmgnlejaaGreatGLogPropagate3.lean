/- A fact on one function of the program. -/
import Derived.Test.YtglikcnmgnlejaaGreatRows
import Derived.Test.YtglikcnmgnlejaaGreatChecked
import Derived.JoinedCond
namespace Go.Proofs.YtglikcnmgnlejaaGreat
open Go.ChangeShapes Go.WideShapes Go.ChangeAt
theorem oM:(Rows.fnExactLogPropagateUptoRow.recurses == Tryz.prog.recurses 6)=true:=by kernel_rfl
end Go.Proofs.YtglikcnmgnlejaaGreat
