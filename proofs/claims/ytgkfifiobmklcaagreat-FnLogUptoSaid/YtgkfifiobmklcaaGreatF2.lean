/- A fact on the whole program. -/
import Derived.Test.YtgkfifiobmklcaaGreatRows
import Derived.Test.YtgkfifiobmklcaaGreatChecked
import Derived.JoinedCond
namespace Go.Proofs.YtgkfifiobmklcaaGreat
open Go.ChangeShapes Go.WideShapes Go.ChangeAt
theorem Iq:(mapsRowed Tryz.prog)=true:=by kernel_rfl
theorem Ir:(Rows.fnSayUptoRow.plainKeys == Tryz.prog.plainKeys)=true:=by kernel_rfl
theorem Ea:(Tryz.prog.stopsHeard)=true:=by kernel_rfl
end Go.Proofs.YtgkfifiobmklcaaGreat
