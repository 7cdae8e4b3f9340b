/- A fact on one function of the program. -/
import Derived.Test.YtjfnojijdggfhaaGreatRows
import Derived.Test.YtjfnojijdggfhaaGreatChecked
import Derived.JoinedCond
namespace Go.Proofs.YtjfnojijdggfhaaGreat
open Go.ChangeShapes Go.WideShapes Go.ChangeAt
theorem Av:(Rows.fnWhyUptoRow.inPlace == Tryz.prog.inPlace 3)=true:=by kernel_rfl
end Go.Proofs.YtjfnojijdggfhaaGreat
