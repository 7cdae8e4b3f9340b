/- A fact on the whole program. -/
import Derived.Test.YtmenphiahgkjkaaGreatDoorRows
import Derived.Test.YtmenphiahgkjkaaGreatDoorChecked
import Derived.JoinedCond
set_option linter.all false
namespace Go.Proofs.YtmenphiahgkjkaaGreatDoor
open Go.ChangeShapes Go.WideShapes Go.ChangeAt
theorem Ux:(Rows.fnSearchUptoRow.lifted == Tryz.prog.liftsFinal)=true:=by kernel_rfl
end Go.Proofs.YtmenphiahgkjkaaGreatDoor
namespace Go.Proofs.YtmenphiahgkjkaaGreatDoor
open Go.ChangeShapes Go.WideShapes Go.ChangeAt
theorem Yc:(Tryz.prog.make == some Rows.fnSearchUptoRow.make)=true:=by kernel_rfl
end Go.Proofs.YtmenphiahgkjkaaGreatDoor
