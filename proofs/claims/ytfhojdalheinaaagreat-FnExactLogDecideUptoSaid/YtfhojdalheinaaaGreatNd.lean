/- Clauses: sorted, each literal once. No statement of a claim. -/
import Derived.WalkKit
import Derived.Deep.LoopGhost
import Derived.Lib.Hide
import Derived.Shelf.SlSortCmp.NoneTotal
import Derived.Test.YtfhojdalheinaaaGreatSh
import Derived.Test.YtfhojdalheinaaaGreatSet
import Derived.Test.YtfhojdalheinaaaGreatC25
import Derived.Sort.WalkB12
import Derived.Lib.SliceRun
import Derived.Deep.Draws
import Derived.Lib.Walk
import Derived.Shelf.RegionOpenPlain
import Derived.Test.YtfhojdalheinaaaGreatCmp
import Derived.Test.YtfhojdalheinaaaGreatWo
set_option linter.all false
set_option linter.unusedVariables false
set_option linter.unusedSimpArgs false
set_option maxRecDepth 100000
set_option maxHeartbeats 4000000
namespace Go.Proofs.YtfhojdalheinaaaGreat.Abs
open Go.Proofs Go.RowKit Go.Sort
instance:Inhabited Lit:=⟨zeroLit⟩
abbrev encL (x:Lit):List Value:=[.int .i64 x.kind,.int .i64 x.act,.int .i64 x.val]
def sortL (l:List Lit):List Lit:=l.mergeSort fun x y=> !(ltOf cmpLit) y x
end Go.Proofs.YtfhojdalheinaaaGreat.Abs
set_option linter.unusedVariables false
set_option maxRecDepth 1000000
set_option maxHeartbeats 4000000
namespace Go.Proofs.YtfhojdalheinaaaGreat.Abs
open Go.Proofs Go.RowKit Go.Sort
structure LitAt (W:World) (b o:Nat) (x:Lit):Prop where
 k:W.cell? ⟨b,o,none⟩=some (.int .i64 x.kind)
 a:W.cell? ⟨b,o+1,none⟩=some (.int .i64 x.act)
 v:W.cell? ⟨b,o+2,none⟩=some (.int .i64 x.val)
theorem DW.lit {E:Nat} {w W:World} {b cap:Nat} {l:List Lit} (h:DW E 3 w W b cap (flatL l)) {j:Nat} {x:Lit} (hx:l[j]? =some x):LitAt W b (j*3) x:=by
 obtain⟨f1,f2,f3⟩:=flatL_get hx
 rw [Nat.mul_comm 3 j] at f1 f2 f3
 exact⟨h.cell f1,h.cell f2,h.cell f3⟩
def CmpPostL (w:World) (b cap:Nat) (r:List Lit) (e:Ending) (w':World):Prop:=e= .returned (.slice (some ⟨b,0,none⟩) r.length cap)∧DW 69 3 w w' b cap (flatL r)
end Go.Proofs.YtfhojdalheinaaaGreat.Abs
set_option linter.unusedVariables false
set_option linter.unusedSimpArgs false
set_option maxRecDepth 100000
set_option maxHeartbeats 4000000
namespace Go.Proofs.YtfhojdalheinaaaGreat.Abs
open Go.Proofs Go.RowKit Go.Sort
end Go.Proofs.YtfhojdalheinaaaGreat.Abs
