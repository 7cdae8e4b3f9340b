/- A fact on the whole program. -/
import Derived.Test.YtefgamefajmdkaaGreatRows
import Derived.Test.YtefgamefajmdkaaGreatChecked
import Derived.JoinedCond
set_option linter.all false
namespace Go.Proofs.YtefgamefajmdkaaGreat
open Go.ChangeShapes Go.WideShapes Go.ChangeAt
theorem Iq:(Rows.fnProofUptoRow.lifted == Tryz.prog.liftsFinal)=true:=by kernel_rfl
end Go.Proofs.YtefgamefajmdkaaGreat
namespace Go.Proofs.YtefgamefajmdkaaGreat
open Go.ChangeShapes Go.WideShapes Go.ChangeAt
theorem Ny:(Tryz.prog.make == some Rows.fnProofUptoRow.make)=true:=by kernel_rfl
end Go.Proofs.YtefgamefajmdkaaGreat
