/- Contracts of the laws' own held.. on what mark.. has written. No statement of a claim. -/
import Derived.Test.YtgebcdkmchcifaaGreatC1
import Derived.Test.YtgebcdkmchcifaaGreatPlain
set_option linter.all false
set_option linter.unusedVariables false
set_option linter.unusedSimpArgs false
set_option maxRecDepth 20000
set_option maxHeartbeats 4000000
namespace Go.Proofs.YtgebcdkmchcifaaGreat.Abs
open Go.Proofs


/-- What mark.. writes into a row of numbers. -/
def markI : Int → List Int → List Int
  | _, [] => []
  | n, _ :: l => n :: markI (n + 1) l
/-- What mark.. writes into a row of literals. -/
def markL : Int → List Lit → List Lit
  | _, [] => []
  | n, _ :: l => ⟨n, n + 1, n + 2⟩ :: markL (n + 3) l
end Go.Proofs.YtgebcdkmchcifaaGreat.Abs
