/- A fact on one function of the program. -/
import Derived.Test.YtmenphiahgkjkaaGreatDoorRows
import Derived.Test.YtmenphiahgkjkaaGreatDoorChecked
import Derived.JoinedCond
namespace Go.Proofs.YtmenphiahgkjkaaGreatDoor
open Go.ChangeShapes Go.WideShapes Go.ChangeAt
theorem vO:(Rows.fnSearchUptoRow.unfollowed == Tryz.prog.unfollowed 3)=true:=by kernel_rfl
end Go.Proofs.YtmenphiahgkjkaaGreatDoor
