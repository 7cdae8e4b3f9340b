/- A fact on one function of the program. -/
import Derived.Test.YtmenphiahgkjkaaGreatDoorRows
import Derived.Test.YtmenphiahgkjkaaGreatDoorChecked
import Derived.JoinedCond
namespace Go.Proofs.YtmenphiahgkjkaaGreatDoor
open Go.ChangeShapes Go.WideShapes Go.ChangeAt
theorem yU:(Rows.fnSearchUptoRow.inPlace == Tryz.prog.inPlace 3)=true:=by kernel_rfl
end Go.Proofs.YtmenphiahgkjkaaGreatDoor
