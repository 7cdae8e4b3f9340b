/- Part of a proof. -/
import Derived.Test.YthegbfgeochckaaGreatRows
import Derived.Test.YthegbfgeochckaaGreatChecked
import Derived.JoinedCond
namespace Go.Proofs.YthegbfgeochckaaGreat
open Go.ChangeShapes Go.WideShapes Go.ChangeAt
theorem xB:(Rows.fnExactSearchUptoRow.inPlace == Tryz.prog.inPlace 3)=true:=by kernel_rfl
end Go.Proofs.YthegbfgeochckaaGreat
