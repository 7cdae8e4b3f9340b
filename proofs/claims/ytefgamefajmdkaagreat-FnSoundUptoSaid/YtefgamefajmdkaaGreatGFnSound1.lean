/- A fact on one function of the program. -/
import Derived.Test.YtefgamefajmdkaaGreatRows
import Derived.Test.YtefgamefajmdkaaGreatChecked
import Derived.JoinedCond
namespace Go.Proofs.YtefgamefajmdkaaGreat
open Go.ChangeShapes Go.WideShapes Go.ChangeAt
theorem zF:(Rows.fnSoundUptoRow.inPlace == Tryz.prog.inPlace 4)=true:=by kernel_rfl
end Go.Proofs.YtefgamefajmdkaaGreat
