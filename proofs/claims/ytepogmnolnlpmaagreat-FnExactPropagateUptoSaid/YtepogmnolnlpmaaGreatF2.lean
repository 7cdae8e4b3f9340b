/- A fact on the whole program. No statement of a claim. -/
import Derived.Test.YtepogmnolnlpmaaGreatRows
import Derived.Test.YtepogmnolnlpmaaGreatChecked
import Derived.JoinedCond
set_option linter.all false
namespace Go.Proofs.YtepogmnolnlpmaaGreat
open Go.ChangeShapes Go.WideShapes Go.ChangeAt
theorem fact_maps:(mapsRowed Tryz.prog)=true:=by kernel_rfl
theorem fact_keys:(Rows.fnExactTrimProofUptoRow.plainKeys == Tryz.prog.plainKeys)=true:=by kernel_rfl
theorem fact_heard:(Tryz.prog.stopsHeard)=true:=by kernel_rfl
end Go.Proofs.YtepogmnolnlpmaaGreat
