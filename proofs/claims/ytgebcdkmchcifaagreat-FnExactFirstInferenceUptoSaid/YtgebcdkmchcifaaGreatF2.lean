/- A fact on the whole program. No statement of a claim. -/
import Derived.Test.YtgebcdkmchcifaaGreatRows
import Derived.Test.YtgebcdkmchcifaaGreatChecked
import Derived.JoinedCond
set_option linter.all false
namespace Go.Proofs.YtgebcdkmchcifaaGreat
open Go.ChangeShapes Go.WideShapes Go.ChangeAt
theorem fact_maps : (mapsRowed Tryz.prog) = true := by kernel_rfl
theorem fact_keys : (Rows.fnExactFirstInferenceUptoRow.plainKeys == Tryz.prog.plainKeys) = true := by kernel_rfl
theorem fact_heard : (Tryz.prog.stopsHeard) = true := by kernel_rfl
end Go.Proofs.YtgebcdkmchcifaaGreat
