/- A fact on one function of the program. No statement of a claim. -/
import Derived.Test.YtgebcdkmchcifaaGreatRows
import Derived.Test.YtgebcdkmchcifaaGreatChecked
import Derived.JoinedCond
set_option linter.all false
namespace Go.Proofs.YtgebcdkmchcifaaGreat
open Go.ChangeShapes Go.WideShapes Go.ChangeAt
theorem fact_fnExactFirstInference_unfollowed : (Rows.fnExactFirstInferenceUptoRow.unfollowed == Tryz.prog.unfollowed 6) = true := by kernel_rfl
end Go.Proofs.YtgebcdkmchcifaaGreat
