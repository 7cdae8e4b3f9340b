/-
  No cell of these rows narrows 'for every input' (looked for: loops, veiled, ifaces, maps, wideKeys, modest, calm, conditions, laid).
  DERIVED. THE GIVEN ROWS OF THIS SEAT. 3 by the template 'for every input the law returns true; each argument reads behind the call as it read before'; 0 by the template 'total and deterministic' (their statements: YtgkfifiobmklcaaGreatTotals.lean).
  GIVEN WITH THE SEED: the statements are not yours to turn. If you find one false, say at which input.
  Laid BY PROGRAM, IN A SANDBOX (cutbox-rows.mjs): the forced cells as the released guide's own fill.sh prints them over the translation 8fc0c5a91c377ab7… (all of the seat's roots in one cut). By AI agents, Wed Nov 11 2026. No macro, syntax, notation, axiom, sorry.
-/
import Derived.Test.YtgkfifiobmklcaaGreatChecked
import GoSem.Claim
import GoSem.ClaimJoined
import GoSem.ClaimMapViews
import Derived.JoinedTies
import Derived.KernelRfl
namespace Go.Proofs.YtgkfifiobmklcaaGreat
/- THE CELL 'sum', in the pinned program and in every row, IS THE sha256 OF THE DUMP (.gsa) THAT YtgkfifiobmklcaaGreatProg.lean LOADS. Nothing in Lean hashes anything: it is a label: what it is worth is what the hold of that sum in a sandbox is worth. -/
noncomputable def Tryz.pinned : Pinned := { name := "ytgkfifiobmklcaagreat", sum := "8fc0c5a91c377ab72f941ae443584946c5ae9601f8f2ffab91c42c7f04d875ac", checked := Tryz.checked }
namespace Rows
def none {H : Type} : Left H := { results := [], args := [] }

/-- 'laws.FnSay': WHATEVER THE INPUT: true; the input reads as it did. -/
def fnSaySpec : ChangeSpec := { name := "fnSay", fn := fun _ => fun
  | [d] => { results := [.lit (.bool true)], args := [d] }
  | _ => none }
def fnSayRow : OpenClaim := { program := "ytgkfifiobmklcaagreat", sum := "8fc0c5a91c377ab72f941ae443584946c5ae9601f8f2ffab91c42c7f04d875ac", func := "loop.example/g00806/laws.FnSay", spec := "fnSay", unfollowed := true, recurses := true, apart := false }
def FnSaySaid : Prop := fnSayRow.holds Tryz.pinned (OpenSpec.ofChange fnSaySpec)

/-- ITS FALSE NEIGHBOUR: 'it returns false'. Refute it at one input. -/
def fnSayWrong : ChangeSpec := { name := "fnSay", fn := fun _ => fun
  | [d] => { results := [.lit (.bool false)], args := [d] }
  | _ => none }
def FnSayWrongFalsely : Prop := fnSayRow.holds Tryz.pinned (OpenSpec.ofChange fnSayWrong)

/-- 'laws.FnStop': WHATEVER THE INPUT: true; the input reads as it did. -/
def fnStopSpec : ChangeSpec := { name := "fnStop", fn := fun _ => fun
  | [d] => { results := [.lit (.bool true)], args := [d] }
  | _ => none }
def fnStopRow : OpenClaim := { program := "ytgkfifiobmklcaagreat", sum := "8fc0c5a91c377ab72f941ae443584946c5ae9601f8f2ffab91c42c7f04d875ac", func := "loop.example/g00806/laws.FnStop", spec := "fnStop", unfollowed := true, recurses := true, apart := false }
def FnStopSaid : Prop := fnStopRow.holds Tryz.pinned (OpenSpec.ofChange fnStopSpec)

/-- ITS FALSE NEIGHBOUR: 'it returns false'. Refute it at one input. -/
def fnStopWrong : ChangeSpec := { name := "fnStop", fn := fun _ => fun
  | [d] => { results := [.lit (.bool false)], args := [d] }
  | _ => none }
def FnStopWrongFalsely : Prop := fnStopRow.holds Tryz.pinned (OpenSpec.ofChange fnStopWrong)

/-- 'laws.FnLog': WHATEVER THE INPUT: true; the input reads as it did. -/
def fnLogSpec : ChangeSpec := { name := "fnLog", fn := fun _ => fun
  | [d] => { results := [.lit (.bool true)], args := [d] }
  | _ => none }
def fnLogRow : OpenClaim := { program := "ytgkfifiobmklcaagreat", sum := "8fc0c5a91c377ab72f941ae443584946c5ae9601f8f2ffab91c42c7f04d875ac", func := "loop.example/g00806/laws.FnLog", spec := "fnLog", unfollowed := true, recurses := true, apart := false }
def FnLogSaid : Prop := fnLogRow.holds Tryz.pinned (OpenSpec.ofChange fnLogSpec)

/-- ITS FALSE NEIGHBOUR: 'it returns false'. Refute it at one input. -/
def fnLogWrong : ChangeSpec := { name := "fnLog", fn := fun _ => fun
  | [d] => { results := [.lit (.bool false)], args := [d] }
  | _ => none }
def FnLogWrongFalsely : Prop := fnLogRow.holds Tryz.pinned (OpenSpec.ofChange fnLogWrong)

/- THE SECOND FORM. 'bulk': how many values and letters a reading holds, each counted each time it is reached (what is shared counts as often as it is met; a slice's spare places count too). A statement '..UptoSaid' is the law's where the arguments, and the package variables that the reading takes, are together of bulk at most 1048576: NARROWER than '..Said'. Prove '..Said' where nothing that the law and all that it calls make is longer than what came in: it says more and counts as full. Else prove '..UptoSaid'. A law counts once. -/
mutual
def uptoBulk {H : Type} : DataW H → Nat
  | .lit (.string bytes) => bytes.length + 1
  | .lit _ => 1
  | .nil => 1
  | .ptr d => uptoBulk d + 1
  | .slice elems spare => uptoBulkAll elems + uptoBulkAll spare + 1
  | .agg parts => uptoBulkAll parts + 1
  | .iface _ d => uptoBulk d + 1
  | .map entries => uptoBulkEntries entries + 1
  | .held _ => 1
def uptoBulkAll {H : Type} : List (DataW H) → Nat
  | [] => 0
  | d :: r => uptoBulk d + uptoBulkAll r
def uptoBulkEntries {H : Type} : List (Lit × DataW H) → Nat
  | [] => 0
  | x :: r => uptoBulkEntry x + uptoBulkEntries r
def uptoBulkEntry {H : Type} : Lit × DataW H → Nat
  | (.string bytes, d) => bytes.length + uptoBulk d + 1
  | (_, d) => uptoBulk d + 1
 end
def uptoSmall : (H : Type) → List (DataW H) → Bool := fun _ ds => decide (uptoBulkAll ds ≤ 1048576)
def OpenSpec.upto (s : _root_.Go.ChangeSpec) : _root_.Go.OpenSpec := { _root_.Go.OpenSpec.ofChange s with cond := some uptoSmall }

/-- 'laws.FnSay', WHERE WHAT IT READS IS OF BULK AT MOST 1048576: true; the input reads as it did. -/
def fnSayUptoRow : OpenClaim := { program := "ytgkfifiobmklcaagreat", sum := "8fc0c5a91c377ab72f941ae443584946c5ae9601f8f2ffab91c42c7f04d875ac", func := "loop.example/g00806/laws.FnSay", spec := "fnSay", unfollowed := true, recurses := true, apart := false, narrowed := true }
def FnSayUptoSaid : Prop := fnSayUptoRow.holds Tryz.pinned (OpenSpec.upto fnSaySpec)

/-- 'laws.FnStop', WHERE WHAT IT READS IS OF BULK AT MOST 1048576: true; the input reads as it did. -/
def fnStopUptoRow : OpenClaim := { program := "ytgkfifiobmklcaagreat", sum := "8fc0c5a91c377ab72f941ae443584946c5ae9601f8f2ffab91c42c7f04d875ac", func := "loop.example/g00806/laws.FnStop", spec := "fnStop", unfollowed := true, recurses := true, apart := false, narrowed := true }
def FnStopUptoSaid : Prop := fnStopUptoRow.holds Tryz.pinned (OpenSpec.upto fnStopSpec)

/-- 'laws.FnLog', WHERE WHAT IT READS IS OF BULK AT MOST 1048576: true; the input reads as it did. -/
def fnLogUptoRow : OpenClaim := { program := "ytgkfifiobmklcaagreat", sum := "8fc0c5a91c377ab72f941ae443584946c5ae9601f8f2ffab91c42c7f04d875ac", func := "loop.example/g00806/laws.FnLog", spec := "fnLog", unfollowed := true, recurses := true, apart := false, narrowed := true }
def FnLogUptoSaid : Prop := fnLogUptoRow.holds Tryz.pinned (OpenSpec.upto fnLogSpec)

end Rows
end Go.Proofs.YtgkfifiobmklcaaGreat
