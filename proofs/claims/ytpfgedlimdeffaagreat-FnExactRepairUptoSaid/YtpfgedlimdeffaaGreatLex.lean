/- Contracts of the laws' own held.. on what mark.. has written. -/
import Derived.Test.YtpfgedlimdeffaaGreatC1
import Derived.Test.YtpfgedlimdeffaaGreatPlain
import Derived.WalkKit
import Derived.Deep.LoopGhost
import Derived.Lib.Hide
import Derived.Sort.WalkB12
import Derived.Test.YtpfgedlimdeffaaGreatLayC
set_option linter.all false
set_option maxRecDepth 20000
set_option maxHeartbeats 0
namespace Go.Proofs.YtpfgedlimdeffaaGreat.Abs
open Go.Proofs
set_option maxRecDepth 100000
set_option maxHeartbeats 4000000
open Go.Proofs Go.RowKit Go.Sort
theorem Nq {α:Type} [Inhabited α] (enc:α→Value) (w:World) (b o:Nat) (d:Array α) {k:Nat} (h:k≠b):(putRow enc w b o d).heap[k]? =w.heap[k]? :=by
 simp only [putRow,mapBlock,Array.getElem?_modify]
 rw [if_neg (fun e=>h e.symm)]
end Go.Proofs.YtpfgedlimdeffaaGreat.Abs
