/- The library's sort, laid at this program. -/
import Derived.Shelf.SlGeneric
import Derived.Shelf.SlSortCmp.Insertion1
import Derived.Test.YtpfgedlimdeffaaGreatProg
set_option linter.all false
namespace Go.Proofs.YtpfgedlimdeffaaGreat.Abs
open Go.Shelf
def Tryz.insInt_ren:Go.Shelf.Ren:=⟨fun|20=>165|n=>n,fun|24=>3|22=>25|3=>3|25=>64|4=>4|0=>0|n=>n,fun|n=>n⟩
theorem Tryz.insInt:Go.Proofs.SlLaysF.n20 Tryz.prog Tryz.insInt_ren:={
 mixed:=by kernel_rfl
 f20:=⟨Tryz.f165.name,by decide,Tryz.func165.trans (congrArg some (by kernel_rfl))⟩
 t0:=Tryz.underlying0
 a0:=Tryz.isAgg0
 z0:=Tryz.sizeOf0
 v0:=Tryz.zeroValue0
 t3:=Tryz.underlying3
 a3:=Tryz.isAgg3
 z3:=Tryz.sizeOf3
 v3:=Tryz.zeroValue3
 t4:=Tryz.underlying4
 a4:=Tryz.isAgg4
 z4:=Tryz.sizeOf4
 v4:=Tryz.zeroValue4
 t22:=Tryz.underlying25
 a22:=Tryz.isAgg25
 z22:=Tryz.sizeOf25
 v22:=Tryz.zeroValue25
 a24:=Tryz.isAgg3
 z24:=Tryz.sizeOf3
 t25:=Tryz.underlying64
 a25:=Tryz.isAgg64
 z25:=Tryz.sizeOf64
 v25:=Tryz.zeroValue64 }
end Go.Proofs.YtpfgedlimdeffaaGreat.Abs
