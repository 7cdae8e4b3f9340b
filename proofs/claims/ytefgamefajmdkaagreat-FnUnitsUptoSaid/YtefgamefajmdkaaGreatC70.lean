/- Contracts: a proof's numbers, the name of a check that passed. -/
import Derived.Test.YtefgamefajmdkaaGreatCz
import Derived.Test.YtefgamefajmdkaaGreatWo
set_option linter.all false
set_option maxRecDepth 20000
set_option maxHeartbeats 0
namespace Go.Proofs.YtefgamefajmdkaaGreat.Abs
open Go.Proofs
def XB (o:List Int) (j:Nat):List Int:=o.set j (o.getD j 0+1)
def XC (o:List Int) (x:Lin):List Int:=if x.kind=2 then XB o 0 else if x.kind=1∧within x.rule.kind 0 6=true then XB o (x.rule.kind+1).toNat else o
def UK (l:List Lin):List Int:=l.foldl XC (List.replicate 8 0)
attribute [local irreducible] UK
end Go.Proofs.YtefgamefajmdkaaGreat.Abs
set_option maxRecDepth 1000000
set_option maxHeartbeats 4000000
namespace Go.Proofs.YtefgamefajmdkaaGreat.Abs
open Go.Proofs Go.RowKit Go.Sort
end Go.Proofs.YtefgamefajmdkaaGreat.Abs
