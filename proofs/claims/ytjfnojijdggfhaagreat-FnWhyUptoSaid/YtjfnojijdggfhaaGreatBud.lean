/- How bytes read. -/
import Derived.Test.YtjfnojijdggfhaaGreatPlain
set_option linter.all false
namespace Go.Proofs.YtjfnojijdggfhaaGreat.Abs
open Go.Proofs Go.ChangeShapes Go.WideShapes Go.ChangeAt Go.RowKit
variable {H:Type} {enc:TypeId×Value→H} {P:Program} {w:World} {I:Nat→Prop} {L:Nat} {μ:DataW H→Nat} {N:Nat}
theorem XE {t:Nat} (ht:P.underlying t=some (.int .u8)):Rd enc P w I L μ N t (fun n=>.int .u8 n) (fun _=>True):=by
 intro fuel cs d ps h _
 obtain⟨n,rfl,_,hw⟩:=DataW.trod_int ht h
 refine⟨n,trivial,?_⟩
 simp [AV.cells,aS,aG]
end Go.Proofs.YtjfnojijdggfhaaGreat.Abs
