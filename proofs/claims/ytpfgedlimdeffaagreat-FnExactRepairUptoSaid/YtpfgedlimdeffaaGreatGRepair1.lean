/- A fact on one function of the program. -/
import Derived.Test.YtpfgedlimdeffaaGreatRows
import Derived.Test.YtpfgedlimdeffaaGreatChecked
import Derived.JoinedCond
namespace Go.Proofs.YtpfgedlimdeffaaGreat
open Go.ChangeShapes Go.WideShapes Go.ChangeAt
theorem qL:(Rows.fnExactRepairUptoRow.inPlace == Tryz.prog.inPlace 3)=true:=by kernel_rfl
end Go.Proofs.YtpfgedlimdeffaaGreat
