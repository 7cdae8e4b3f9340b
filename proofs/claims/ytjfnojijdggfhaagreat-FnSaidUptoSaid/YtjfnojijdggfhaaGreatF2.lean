/- A fact on the whole program. -/
import Derived.Test.YtjfnojijdggfhaaGreatRows
import Derived.Test.YtjfnojijdggfhaaGreatChecked
import Derived.JoinedCond
namespace Go.Proofs.YtjfnojijdggfhaaGreat
open Go.ChangeShapes Go.WideShapes Go.ChangeAt
theorem SB:(mapsRowed Tryz.prog)=true:=by kernel_rfl
theorem SC:(Rows.fnSaidUptoRow.plainKeys == Tryz.prog.plainKeys)=true:=by kernel_rfl
theorem Qx:(Tryz.prog.stopsHeard)=true:=by kernel_rfl
end Go.Proofs.YtjfnojijdggfhaaGreat
