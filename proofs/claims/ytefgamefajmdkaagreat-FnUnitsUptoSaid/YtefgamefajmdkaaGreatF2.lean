/- A fact on the whole program. -/
import Derived.Test.YtefgamefajmdkaaGreatRows
import Derived.Test.YtefgamefajmdkaaGreatChecked
import Derived.JoinedCond
namespace Go.Proofs.YtefgamefajmdkaaGreat
open Go.ChangeShapes Go.WideShapes Go.ChangeAt
theorem Nv:(mapsRowed Tryz.prog)=true:=by kernel_rfl
theorem Nw:(Rows.fnProofUptoRow.plainKeys == Tryz.prog.plainKeys)=true:=by kernel_rfl
theorem Lh:(Tryz.prog.stopsHeard)=true:=by kernel_rfl
end Go.Proofs.YtefgamefajmdkaaGreat
