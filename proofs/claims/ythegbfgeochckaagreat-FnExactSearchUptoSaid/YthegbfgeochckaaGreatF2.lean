/- Part of a proof. -/
import Derived.Test.YthegbfgeochckaaGreatRows
import Derived.Test.YthegbfgeochckaaGreatChecked
import Derived.JoinedCond
namespace Go.Proofs.YthegbfgeochckaaGreat
open Go.ChangeShapes Go.WideShapes Go.ChangeAt
theorem acA:(mapsRowed Tryz.prog)=true:=by kernel_rfl
theorem acB:(Rows.fnExactSearchUptoRow.plainKeys == Tryz.prog.plainKeys)=true:=by kernel_rfl
theorem aam:(Tryz.prog.stopsHeard)=true:=by kernel_rfl
end Go.Proofs.YthegbfgeochckaaGreat
