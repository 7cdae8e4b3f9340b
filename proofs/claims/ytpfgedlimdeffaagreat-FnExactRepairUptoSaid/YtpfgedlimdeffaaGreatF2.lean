/- A fact on the whole program. -/
import Derived.Test.YtpfgedlimdeffaaGreatRows
import Derived.Test.YtpfgedlimdeffaaGreatChecked
import Derived.JoinedCond
namespace Go.Proofs.YtpfgedlimdeffaaGreat
open Go.ChangeShapes Go.WideShapes Go.ChangeAt
theorem RJ:(mapsRowed Tryz.prog)=true:=by kernel_rfl
theorem RL:(Rows.fnExactRepairUptoRow.plainKeys == Tryz.prog.plainKeys)=true:=by kernel_rfl
theorem PL:(Tryz.prog.stopsHeard)=true:=by kernel_rfl
end Go.Proofs.YtpfgedlimdeffaaGreat
