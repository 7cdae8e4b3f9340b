/- A fact on the whole program. No statement of a claim. -/
import Derived.Test.YtgebcdkmchcifaaGreatRows
import Derived.Test.YtgebcdkmchcifaaGreatChecked
import Derived.JoinedCond
set_option linter.all false
namespace Go.Proofs.YtgebcdkmchcifaaGreat
open Go.ChangeShapes Go.WideShapes Go.ChangeAt
theorem fact_enter : (Tryz.prog.mayEnter) = true := by kernel_rfl
end Go.Proofs.YtgebcdkmchcifaaGreat
