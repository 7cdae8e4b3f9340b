/- A fact on the whole program. -/
import Derived.Test.YtjfnojijdggfhaaGreatRows
import Derived.Test.YtjfnojijdggfhaaGreatChecked
import Derived.JoinedCond
namespace Go.Proofs.YtjfnojijdggfhaaGreat
open Go.ChangeShapes Go.WideShapes Go.ChangeAt
theorem JU:(Tryz.prog.mayEnter)=true:=by kernel_rfl
end Go.Proofs.YtjfnojijdggfhaaGreat
