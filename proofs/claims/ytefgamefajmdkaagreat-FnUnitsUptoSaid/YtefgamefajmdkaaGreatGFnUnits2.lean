/- A fact on one function of the program. -/
import Derived.Test.YtefgamefajmdkaaGreatRows
import Derived.Test.YtefgamefajmdkaaGreatChecked
import Derived.JoinedCond
namespace Go.Proofs.YtefgamefajmdkaaGreat
open Go.ChangeShapes Go.WideShapes Go.ChangeAt
theorem vE:(Rows.fnUnitsUptoRow.unfollowed == Tryz.prog.unfollowed 3)=true:=by kernel_rfl
end Go.Proofs.YtefgamefajmdkaaGreat
