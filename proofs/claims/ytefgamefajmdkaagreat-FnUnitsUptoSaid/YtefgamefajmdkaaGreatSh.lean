/- The library's sort, laid at this program. -/
import Derived.Shelf.SlGeneric
import Derived.Shelf.SlSortCmp.NoneTotal
import Derived.Test.YtefgamefajmdkaaGreatProg
import Derived.Shelf.SortM.Plain
set_option linter.all false
namespace Go.Proofs.YtefgamefajmdkaaGreat.Abs
open Go.Shelf
open Go.Shelf
end Go.Proofs.YtefgamefajmdkaaGreat.Abs
