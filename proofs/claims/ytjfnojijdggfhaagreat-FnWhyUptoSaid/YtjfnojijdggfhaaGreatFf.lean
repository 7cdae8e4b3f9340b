/- A fact on the whole program. -/
import Derived.Test.YtjfnojijdggfhaaGreatRows
import Derived.Test.YtjfnojijdggfhaaGreatChecked
import Derived.JoinedCond
set_option linter.all false
namespace Go.Proofs.YtjfnojijdggfhaaGreat
open Go.ChangeShapes Go.WideShapes Go.ChangeAt
theorem FV:(Rows.fnSaidUptoRow.lifted == Tryz.prog.liftsFinal)=true:=by kernel_rfl
end Go.Proofs.YtjfnojijdggfhaaGreat
namespace Go.Proofs.YtjfnojijdggfhaaGreat
open Go.ChangeShapes Go.WideShapes Go.ChangeAt
theorem Mh:(Tryz.prog.make == some Rows.fnSaidUptoRow.make)=true:=by kernel_rfl
end Go.Proofs.YtjfnojijdggfhaaGreat
