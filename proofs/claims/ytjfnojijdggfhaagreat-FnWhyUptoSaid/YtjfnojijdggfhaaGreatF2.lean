/- A fact on the whole program. -/
import Derived.Test.YtjfnojijdggfhaaGreatRows
import Derived.Test.YtjfnojijdggfhaaGreatChecked
import Derived.JoinedCond
namespace Go.Proofs.YtjfnojijdggfhaaGreat
open Go.ChangeShapes Go.WideShapes Go.ChangeAt
theorem Mf:(mapsRowed Tryz.prog)=true:=by kernel_rfl
theorem Mg:(Rows.fnSaidUptoRow.plainKeys == Tryz.prog.plainKeys)=true:=by kernel_rfl
theorem JR:(Tryz.prog.stopsHeard)=true:=by kernel_rfl
end Go.Proofs.YtjfnojijdggfhaaGreat
