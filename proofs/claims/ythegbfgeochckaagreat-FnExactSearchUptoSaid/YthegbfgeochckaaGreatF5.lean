/- Part of a proof. -/
import Derived.Test.YthegbfgeochckaaGreatRows
import Derived.Test.YthegbfgeochckaaGreatChecked
import Derived.JoinedCond
namespace Go.Proofs.YthegbfgeochckaaGreat
open Go.ChangeShapes Go.WideShapes Go.ChangeAt
theorem acC:(Tryz.prog.make == some Rows.fnExactSearchUptoRow.make)=true:=by kernel_rfl
end Go.Proofs.YthegbfgeochckaaGreat
