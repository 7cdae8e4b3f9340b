/- A fact on the whole program. -/
import Derived.Test.YtgkfifiobmklcaaGreatRows
import Derived.Test.YtgkfifiobmklcaaGreatChecked
import Derived.JoinedCond
namespace Go.Proofs.YtgkfifiobmklcaaGreat
open Go.ChangeShapes Go.WideShapes Go.ChangeAt
theorem Eb:(Tryz.prog.mayEnter)=true:=by kernel_rfl
end Go.Proofs.YtgkfifiobmklcaaGreat
