/- A fact on one function of the program. -/
import Derived.Test.YtgkfifiobmklcaaGreatRows
import Derived.Test.YtgkfifiobmklcaaGreatChecked
import Derived.JoinedCond
namespace Go.Proofs.YtgkfifiobmklcaaGreat
open Go.ChangeShapes Go.WideShapes Go.ChangeAt
theorem zi:(Rows.fnLogUptoRow.unfollowed == Tryz.prog.unfollowed 5)=true:=by kernel_rfl
end Go.Proofs.YtgkfifiobmklcaaGreat
