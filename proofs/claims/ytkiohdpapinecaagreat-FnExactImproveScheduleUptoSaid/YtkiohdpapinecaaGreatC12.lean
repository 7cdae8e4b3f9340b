/- Contracts: restricted domains. No statement of a claim. -/
import Derived.Test.YtkiohdpapinecaaGreatC11
import Derived.Test.YtkiohdpapinecaaGreatPlain
set_option linter.all false
set_option linter.unusedVariables false
set_option linter.unusedSimpArgs false
set_option maxRecDepth 20000
set_option maxHeartbeats 4000000
namespace Go.Proofs.YtkiohdpapinecaaGreat.Abs
open Go.Proofs
end Go.Proofs.YtkiohdpapinecaaGreat.Abs
set_option linter.unusedVariables false
set_option linter.unusedSimpArgs false
set_option maxRecDepth 20000
set_option maxHeartbeats 4000000
namespace Go.Proofs.YtkiohdpapinecaaGreat.Abs
open Go.Proofs
theorem other {m:List Int} {v:Int} (hs:setOk m=true) (hv:v∈m) (hne:m≠[v]):∃w∈m,w≠v:=by
 have hp:=setOk_pw hs
 match m,hv,hne,hp with
 | [x],hv,hne,_=>simp at hv;subst hv;exact absurd rfl hne
 | x::y::r,_,_,hp=>
  have:x < y:=(List.pairwise_cons.1 hp).1 y (by simp)
  by_cases e:x=v
  ·exact⟨y,by simp,by omega⟩
  ·exact⟨x,by simp,e⟩
def RUp (r:Dom×Bool):RV:=.tup [.d r.1.av,.d (.bool r.2)]
def stepOf (list:List (List Lit)) (b:Dom):Int×Lit:=
 match list.find? (bites b) with
 | none=>(0,zeroLit)
 | some l=>if (status b l).1 < 0 then (1,zeroLit) else (2,(status b l).2)
end Go.Proofs.YtkiohdpapinecaaGreat.Abs
set_option linter.unusedVariables false
set_option linter.unusedSimpArgs false
set_option maxRecDepth 20000
set_option maxHeartbeats 4000000
namespace Go.Proofs.YtkiohdpapinecaaGreat.Abs
open Go.Proofs
end Go.Proofs.YtkiohdpapinecaaGreat.Abs
set_option linter.unusedVariables false
set_option linter.unusedSimpArgs false
set_option maxRecDepth 20000
set_option maxHeartbeats 4000000
namespace Go.Proofs.YtkiohdpapinecaaGreat.Abs
open Go.Proofs
def RInts (r:Int×Int):RV:=.tup [.d (i64 r.1),.d (i64 r.2)]
def lastOk (x:Lit):List Lit→Bool
 | []=>true
 | [y]=>sameLit y x
 | _=>false
end Go.Proofs.YtkiohdpapinecaaGreat.Abs
set_option linter.unusedVariables false
set_option linter.unusedSimpArgs false
set_option maxRecDepth 20000
set_option maxHeartbeats 4000000
namespace Go.Proofs.YtkiohdpapinecaaGreat.Abs
open Go.Proofs
def RProj (r:Proj×Bool):RV:=.tup [.d r.1.av,.d (.bool r.2)]
end Go.Proofs.YtkiohdpapinecaaGreat.Abs
