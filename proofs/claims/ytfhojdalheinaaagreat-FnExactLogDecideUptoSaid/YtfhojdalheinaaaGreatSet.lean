/- Sets of numbers: sorted, each once. No statement of a claim. -/
import Derived.Shelf.SortM.Plain
import Derived.Shelf.SortM.SortNone
import Derived.Test.YtfhojdalheinaaaGreatSh
import Derived.Test.YtfhojdalheinaaaGreatCmp
import Derived.Test.YtfhojdalheinaaaGreatWo
set_option linter.all false
set_option linter.unusedVariables false
set_option linter.unusedSimpArgs false
set_option maxRecDepth 100000
set_option maxHeartbeats 4000000
namespace Go.Proofs.YtfhojdalheinaaaGreat.Abs
open Go.Proofs Go.RowKit Go.Sort
def sortSet (l:List Int):List Int:=compactL (l.mergeSort fun x y=>decide (x≤y))
end Go.Proofs.YtfhojdalheinaaaGreat.Abs
