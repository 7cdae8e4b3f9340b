/- Contracts: work, capacity, refutations. No statement of a claim. -/
import Derived.Test.YtkiohdpapinecaaGreatC8
set_option linter.all false
set_option linter.unusedVariables false
set_option linter.unusedSimpArgs false
set_option maxRecDepth 20000
set_option maxHeartbeats 4000000
namespace Go.Proofs.YtkiohdpapinecaaGreat.Abs
open Go.Proofs
def four (s d x y:Int):List Int:=[s,d,x,y]
structure ModeGet (p:Proj) (b:Dom) (k:Nat) (a:Activ) (x y:Int) (r i:Int) (mo:Mode) (q ρ:Nat) (u:Int):Prop where
 iq:i=q
 rρ:r=ρ
 mode:a.modes[q]? =some mo
 use:mo.use[ρ]? =some u
 ub:0≤u∧u≤20
end Go.Proofs.YtkiohdpapinecaaGreat.Abs
