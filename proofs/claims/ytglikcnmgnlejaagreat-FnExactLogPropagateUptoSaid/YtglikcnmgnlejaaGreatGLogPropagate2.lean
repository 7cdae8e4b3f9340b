/- A fact on one function of the program. -/
import Derived.Test.YtglikcnmgnlejaaGreatRows
import Derived.Test.YtglikcnmgnlejaaGreatChecked
import Derived.JoinedCond
namespace Go.Proofs.YtglikcnmgnlejaaGreat
open Go.ChangeShapes Go.WideShapes Go.ChangeAt
theorem nQ:(Rows.fnExactLogPropagateUptoRow.unfollowed == Tryz.prog.unfollowed 6)=true:=by kernel_rfl
end Go.Proofs.YtglikcnmgnlejaaGreat
