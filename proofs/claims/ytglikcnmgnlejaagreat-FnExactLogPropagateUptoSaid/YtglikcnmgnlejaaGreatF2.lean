/- A fact on the whole program. -/
import Derived.Test.YtglikcnmgnlejaaGreatRows
import Derived.Test.YtglikcnmgnlejaaGreatChecked
import Derived.JoinedCond
namespace Go.Proofs.YtglikcnmgnlejaaGreat
open Go.ChangeShapes Go.WideShapes Go.ChangeAt
theorem YH:(mapsRowed Tryz.prog)=true:=by kernel_rfl
theorem YI:(Rows.fnExactRepairUptoRow.plainKeys == Tryz.prog.plainKeys)=true:=by kernel_rfl
theorem WA:(Tryz.prog.stopsHeard)=true:=by kernel_rfl
end Go.Proofs.YtglikcnmgnlejaaGreat
