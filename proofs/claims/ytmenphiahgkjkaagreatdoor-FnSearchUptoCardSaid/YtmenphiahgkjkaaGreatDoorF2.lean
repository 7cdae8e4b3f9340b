/- A fact on the whole program. -/
import Derived.Test.YtmenphiahgkjkaaGreatDoorRows
import Derived.Test.YtmenphiahgkjkaaGreatDoorChecked
import Derived.JoinedCond
namespace Go.Proofs.YtmenphiahgkjkaaGreatDoor
open Go.ChangeShapes Go.WideShapes Go.ChangeAt
theorem Ya:(mapsRowed Tryz.prog)=true:=by kernel_rfl
theorem Yb:(Rows.fnSearchUptoRow.plainKeys == Tryz.prog.plainKeys)=true:=by kernel_rfl
theorem VW:(Tryz.prog.stopsHeard)=true:=by kernel_rfl
end Go.Proofs.YtmenphiahgkjkaaGreatDoor
