/- Contracts: modes of activities, the least of some numbers. -/
import Derived.Test.YtpfgedlimdeffaaGreatCy
set_option linter.all false
set_option maxRecDepth 20000
set_option maxHeartbeats 0
namespace Go.Proofs.YtpfgedlimdeffaaGreat.Abs
open Go.Proofs
def GL (o:Option Int):RV:=.tup [.d (i64 (o.getD 0)),.d (.bool o.isSome)]
def pick (b:Bool) (m:Mode):List Int:=if b=true then m.con else m.use
open Go.Proofs
end Go.Proofs.YtpfgedlimdeffaaGreat.Abs
