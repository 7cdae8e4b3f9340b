/- The library's sort, laid at this program. No statement of a claim. -/
import Derived.Shelf.SlGeneric
import Derived.Shelf.SlSortCmp.NoneTotal
import Derived.Test.YtfhojdalheinaaaGreatProg
import Derived.Shelf.SortM.Plain
set_option linter.all false
namespace Go.Proofs.YtfhojdalheinaaaGreat.Abs
open Go.Shelf
def Tryz.sortLit_ren:Go.Shelf.Ren:=⟨fun | 6=>261 | 15=>341 | 14=>340 | 28=>390 | 29=>391 | 20=>382 | 21=>383 | 22=>384 | 23=>385 | 24=>386 | 25=>387 | 26=>388 | 27=>389 | 46=>420 | 47=>421 | 48=>422 | 49=>423 | 50=>424 | 57=>431 | n=>n,fun | 22=>62 | 24=>69 | 25=>264 | 3=>3 | 39=>310 | 0=>0 | 53=>336 | 55=>338 | 4=>4 | 46=>330 | 45=>329 | 50=>93 | 5=>5 | 9=>9 | 66=>355 | 70=>359 | 76=>364 | 77=>179 | n=>n,fun | n=>n⟩
end Go.Proofs.YtfhojdalheinaaaGreat.Abs
namespace Go.Proofs.YtfhojdalheinaaaGreat.Abs
open Go.Shelf
def Tryz.sortInt_ren:Go.Shelf.Ren:=⟨fun | 5=>310 | 8=>341 | 7=>360 | 19=>390 | 20=>391 | 10=>397 | 11=>398 | 12=>399 | 13=>400 | 14=>401 | 15=>402 | 16=>403 | 17=>404 | 18=>405 | 30=>426 | 31=>421 | 32=>422 | 33=>427 | 34=>428 | 35=>217 | 40=>432 | n=>n,fun | 23=>25 | 25=>3 | 3=>3 | 32=>310 | 22=>25 | 0=>0 | 44=>336 | 46=>338 | 4=>4 | 36=>330 | 35=>329 | 41=>93 | 5=>5 | 9=>9 | 53=>355 | 57=>359 | 63=>364 | 64=>179 | n=>n,fun | n=>n⟩
end Go.Proofs.YtfhojdalheinaaaGreat.Abs
