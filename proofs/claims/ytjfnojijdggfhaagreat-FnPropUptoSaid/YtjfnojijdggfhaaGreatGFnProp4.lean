/- A fact on one function of the program. -/
import Derived.Test.YtjfnojijdggfhaaGreatRows
import Derived.Test.YtjfnojijdggfhaaGreatChecked
import Derived.JoinedCond
namespace Go.Proofs.YtjfnojijdggfhaaGreat
open Go.ChangeShapes Go.WideShapes Go.ChangeAt
theorem DJ:(Rows.fnPropUptoRow.named == Tryz.prog.varsNamed 5)=true:=by kernel_rfl
end Go.Proofs.YtjfnojijdggfhaaGreat
