/- A fact on the whole program. -/
import Derived.Test.YtpfgedlimdeffaaGreatRows
import Derived.Test.YtpfgedlimdeffaaGreatChecked
import Derived.JoinedCond
set_option linter.all false
namespace Go.Proofs.YtpfgedlimdeffaaGreat
open Go.ChangeShapes Go.WideShapes Go.ChangeAt
theorem Og:(Rows.fnExactRepairUptoRow.lifted == Tryz.prog.liftsFinal)=true:=by kernel_rfl
end Go.Proofs.YtpfgedlimdeffaaGreat
namespace Go.Proofs.YtpfgedlimdeffaaGreat
open Go.ChangeShapes Go.WideShapes Go.ChangeAt
theorem RN:(Tryz.prog.make == some Rows.fnExactRepairUptoRow.make)=true:=by kernel_rfl
end Go.Proofs.YtpfgedlimdeffaaGreat
