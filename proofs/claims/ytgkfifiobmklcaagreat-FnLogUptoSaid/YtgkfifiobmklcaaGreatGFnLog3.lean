/- A fact on one function of the program. -/
import Derived.Test.YtgkfifiobmklcaaGreatRows
import Derived.Test.YtgkfifiobmklcaaGreatChecked
import Derived.JoinedCond
namespace Go.Proofs.YtgkfifiobmklcaaGreat
open Go.ChangeShapes Go.WideShapes Go.ChangeAt
theorem Bz:(Rows.fnLogUptoRow.recurses == Tryz.prog.recurses 5)=true:=by kernel_rfl
end Go.Proofs.YtgkfifiobmklcaaGreat
