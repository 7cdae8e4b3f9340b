/- A fact on the whole program. No statement of a claim. -/
import Derived.Test.YtfhojdalheinaaaGreatRows
import Derived.Test.YtfhojdalheinaaaGreatChecked
import Derived.JoinedCond
set_option linter.all false
namespace Go.Proofs.YtfhojdalheinaaaGreat
open Go.ChangeShapes Go.WideShapes Go.ChangeAt
theorem fact_maps:(mapsRowed Tryz.prog)=true:=by kernel_rfl
theorem fact_keys:(Rows.fnExactLogDecideUptoRow.plainKeys == Tryz.prog.plainKeys)=true:=by kernel_rfl
theorem fact_heard:(Tryz.prog.stopsHeard)=true:=by kernel_rfl
end Go.Proofs.YtfhojdalheinaaaGreat
