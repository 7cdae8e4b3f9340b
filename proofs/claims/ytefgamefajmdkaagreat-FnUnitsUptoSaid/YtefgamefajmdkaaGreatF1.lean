/- A fact on the whole program. -/
import Derived.Test.YtefgamefajmdkaaGreatRows
import Derived.Test.YtefgamefajmdkaaGreatChecked
import Derived.JoinedCond
namespace Go.Proofs.YtefgamefajmdkaaGreat
open Go.ChangeShapes Go.WideShapes Go.ChangeAt
theorem Ac:(laidOutB Tryz.prog)=true:=by kernel_rfl
end Go.Proofs.YtefgamefajmdkaaGreat
