/- A fact on the whole program. -/
import Derived.Test.YtpfgedlimdeffaaGreatRows
import Derived.Test.YtpfgedlimdeffaaGreatChecked
import Derived.JoinedCond
namespace Go.Proofs.YtpfgedlimdeffaaGreat
open Go.ChangeShapes Go.WideShapes Go.ChangeAt
theorem PN:(Tryz.prog.mayEnter)=true:=by kernel_rfl
end Go.Proofs.YtpfgedlimdeffaaGreat
