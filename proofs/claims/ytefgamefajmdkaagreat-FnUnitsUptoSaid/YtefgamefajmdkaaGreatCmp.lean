/- slices.Compact over numbers. -/
import Derived.WalkKit
import Derived.Deep.LoopGhost
import Derived.Lib.Hide
import Derived.Sort.WalkB12
import Derived.Lib.SliceRun
import Derived.Deep.Draws
import Derived.Lib.Walk
import Derived.Shelf.RegionOpenPlain
import Derived.Test.YtefgamefajmdkaaGreatWo
import Derived.Test.YtefgamefajmdkaaGreatPl
set_option linter.all false
set_option maxRecDepth 1000000
set_option maxHeartbeats 4000000
namespace Go.Proofs.YtefgamefajmdkaaGreat.Abs
open Go.Proofs Go.RowKit Go.Sort
theorem DW.drew {E sz:Nat} {w W:World} {b cap:Nat} {F:List Int} (h:DW E sz w W b cap F):DW E sz w W.drew b cap F:=⟨h.os,h.tape,h.output,h.size,Nat.le_trans h.drawn (Nat.le_succ _),h.lt,h.other,h.row⟩
end Go.Proofs.YtefgamefajmdkaaGreat.Abs
