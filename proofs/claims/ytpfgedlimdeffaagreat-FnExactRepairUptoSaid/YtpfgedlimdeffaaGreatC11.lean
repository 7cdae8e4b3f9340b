/- Contracts: what a rule refutes, what follows from it. -/
import Derived.Test.YtpfgedlimdeffaaGreatC10
set_option linter.all false
set_option maxRecDepth 20000
set_option maxHeartbeats 0
namespace Go.Proofs.YtpfgedlimdeffaaGreat.Abs
open Go.Proofs
inductive Yl (p:Proj) (r:Rul):Prop
 |link (h:r.kind=1) (k:Nat) (l:Link) (e:r.a=k) (hl:p.links[k]? =some l)
 |fin (h:r.kind=2) (ha:bH p r.a=true)
 |time (h:r.kind=3) (ha:gD p r.a=true) (hb:bM r.b=true)
 |work (h:r.kind=4) (ha:gD p r.a=true) (hb:bM r.b=true) (hc:bM r.c=true) (hlt:r.b < r.c)
 |pair (h:r.kind=5) (ha:fC p r.a=true) (hb:bH p r.b=true) (hc:bH p r.c=true) (hlt:r.b < r.c)
 |MZ (h:r.kind=6) (ha:lT p r.a=true)
end Go.Proofs.YtpfgedlimdeffaaGreat.Abs
