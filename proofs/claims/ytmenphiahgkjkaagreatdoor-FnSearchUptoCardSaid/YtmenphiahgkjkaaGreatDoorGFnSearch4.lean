/- A fact on one function of the program. -/
import Derived.Test.YtmenphiahgkjkaaGreatDoorRows
import Derived.Test.YtmenphiahgkjkaaGreatDoorChecked
import Derived.JoinedCond
namespace Go.Proofs.YtmenphiahgkjkaaGreatDoor
open Go.ChangeShapes Go.WideShapes Go.ChangeAt
theorem Bj:(Rows.fnSearchUptoRow.named == Tryz.prog.varsNamed 3)=true:=by kernel_rfl
end Go.Proofs.YtmenphiahgkjkaaGreatDoor
