/- A fact on the whole program. -/
import Derived.Test.YtmenphiahgkjkaaGreatDoorRows
import Derived.Test.YtmenphiahgkjkaaGreatDoorChecked
import Derived.JoinedCond
namespace Go.Proofs.YtmenphiahgkjkaaGreatDoor
open Go.ChangeShapes Go.WideShapes Go.ChangeAt
theorem VX:(Tryz.prog.mayEnter)=true:=by kernel_rfl
end Go.Proofs.YtmenphiahgkjkaaGreatDoor
