/- A fact on the whole program. -/
import Derived.Test.YtgkfifiobmklcaaGreatRows
import Derived.Test.YtgkfifiobmklcaaGreatChecked
import Derived.JoinedCond
set_option linter.all false
namespace Go.Proofs.YtgkfifiobmklcaaGreat
open Go.ChangeShapes Go.WideShapes Go.ChangeAt
theorem Av:(Rows.fnSayUptoRow.lifted == Tryz.prog.liftsFinal)=true:=by kernel_rfl
end Go.Proofs.YtgkfifiobmklcaaGreat
namespace Go.Proofs.YtgkfifiobmklcaaGreat
open Go.ChangeShapes Go.WideShapes Go.ChangeAt
theorem Iu:(Tryz.prog.make == some Rows.fnSayUptoRow.make)=true:=by kernel_rfl
end Go.Proofs.YtgkfifiobmklcaaGreat
