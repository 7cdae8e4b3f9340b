/- A fact on the whole program. -/
import Derived.Test.YtglikcnmgnlejaaGreatRows
import Derived.Test.YtglikcnmgnlejaaGreatChecked
import Derived.JoinedCond
namespace Go.Proofs.YtglikcnmgnlejaaGreat
open Go.ChangeShapes Go.WideShapes Go.ChangeAt
theorem Px:(laidOutB Tryz.prog)=true:=by kernel_rfl
end Go.Proofs.YtglikcnmgnlejaaGreat
