/- A fact on the whole program. No statement of a claim. -/
import Derived.Test.YtkiohdpapinecaaGreatRows
import Derived.Test.YtkiohdpapinecaaGreatChecked
import Derived.JoinedCond
set_option linter.all false
namespace Go.Proofs.YtkiohdpapinecaaGreat
open Go.ChangeShapes Go.WideShapes Go.ChangeAt
theorem fact_maps:(mapsRowed Tryz.prog)=true:=by kernel_rfl
theorem fact_keys:(Rows.fnExactSerialScheduleUptoRow.plainKeys == Tryz.prog.plainKeys)=true:=by kernel_rfl
theorem fact_heard:(Tryz.prog.stopsHeard)=true:=by kernel_rfl
end Go.Proofs.YtkiohdpapinecaaGreat
