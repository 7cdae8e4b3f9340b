/-
  No cell of these rows narrows 'for every input' (looked for: loops, veiled, ifaces, maps, wideKeys, modest, calm, conditions, laid).
  DERIVED. THE GIVEN ROWS OF THIS SEAT. 3 by the template 'for every input the law returns true; each argument reads behind the call as it read before'; 0 by the template 'total and deterministic' (their statements: YtjfnojijdggfhaaGreatTotals.lean).
  GIVEN WITH THE SEED: the statements are not yours to turn. If you find one false, say at which input.
  Laid BY PROGRAM, IN A SANDBOX (cutbox-rows.mjs): the forced cells as the released guide's own fill.sh prints them over the translation 3f32d76593edafeb… (all of the seat's roots in one cut). By AI agents, Wed Nov 11 2026. No macro, syntax, notation, axiom, sorry.
-/
import Derived.Test.YtjfnojijdggfhaaGreatChecked
import GoSem.Claim
import GoSem.ClaimJoined
import GoSem.ClaimMapViews
import Derived.JoinedTies
import Derived.KernelRfl
namespace Go.Proofs.YtjfnojijdggfhaaGreat
/- THE CELL 'sum', in the pinned program and in every row, IS THE sha256 OF THE DUMP (.gsa) THAT YtjfnojijdggfhaaGreatProg.lean LOADS. Nothing in Lean hashes anything: it is a label: what it is worth is what the hold of that sum in a sandbox is worth. -/
noncomputable def Tryz.pinned : Pinned := { name := "ytjfnojijdggfhaagreat", sum := "3f32d76593edafebf597e59ffb593e3ebb3d3b00fc8c6d31fddfc8e2128fc69e", checked := Tryz.checked }
namespace Rows
def none {H : Type} : Left H := { results := [], args := [] }

/-- 'laws.FnWhy': WHATEVER THE INPUT: true; the input reads as it did. -/
def fnWhySpec : ChangeSpec := { name := "fnWhy", fn := fun _ => fun
  | [d] => { results := [.lit (.bool true)], args := [d] }
  | _ => none }
def fnWhyRow : OpenClaim := { program := "ytjfnojijdggfhaagreat", sum := "3f32d76593edafebf597e59ffb593e3ebb3d3b00fc8c6d31fddfc8e2128fc69e", func := "loop.example/g00806/laws.FnWhy", spec := "fnWhy", unfollowed := true, recurses := true, apart := false }
def FnWhySaid : Prop := fnWhyRow.holds Tryz.pinned (OpenSpec.ofChange fnWhySpec)

/-- ITS FALSE NEIGHBOUR: 'it returns false'. Refute it at one input. -/
def fnWhyWrong : ChangeSpec := { name := "fnWhy", fn := fun _ => fun
  | [d] => { results := [.lit (.bool false)], args := [d] }
  | _ => none }
def FnWhyWrongFalsely : Prop := fnWhyRow.holds Tryz.pinned (OpenSpec.ofChange fnWhyWrong)

/-- 'laws.FnSaid': WHATEVER THE INPUT: true; the input reads as it did. -/
def fnSaidSpec : ChangeSpec := { name := "fnSaid", fn := fun _ => fun
  | [d] => { results := [.lit (.bool true)], args := [d] }
  | _ => none }
def fnSaidRow : OpenClaim := { program := "ytjfnojijdggfhaagreat", sum := "3f32d76593edafebf597e59ffb593e3ebb3d3b00fc8c6d31fddfc8e2128fc69e", func := "loop.example/g00806/laws.FnSaid", spec := "fnSaid", unfollowed := true, recurses := true, apart := false }
def FnSaidSaid : Prop := fnSaidRow.holds Tryz.pinned (OpenSpec.ofChange fnSaidSpec)

/-- ITS FALSE NEIGHBOUR: 'it returns false'. Refute it at one input. -/
def fnSaidWrong : ChangeSpec := { name := "fnSaid", fn := fun _ => fun
  | [d] => { results := [.lit (.bool false)], args := [d] }
  | _ => none }
def FnSaidWrongFalsely : Prop := fnSaidRow.holds Tryz.pinned (OpenSpec.ofChange fnSaidWrong)

/-- 'laws.FnProp': WHATEVER THE INPUT: true; the input reads as it did. -/
def fnPropSpec : ChangeSpec := { name := "fnProp", fn := fun _ => fun
  | [d] => { results := [.lit (.bool true)], args := [d] }
  | _ => none }
def fnPropRow : OpenClaim := { program := "ytjfnojijdggfhaagreat", sum := "3f32d76593edafebf597e59ffb593e3ebb3d3b00fc8c6d31fddfc8e2128fc69e", func := "loop.example/g00806/laws.FnProp", spec := "fnProp", unfollowed := true, recurses := true, apart := false }
def FnPropSaid : Prop := fnPropRow.holds Tryz.pinned (OpenSpec.ofChange fnPropSpec)

/-- ITS FALSE NEIGHBOUR: 'it returns false'. Refute it at one input. -/
def fnPropWrong : ChangeSpec := { name := "fnProp", fn := fun _ => fun
  | [d] => { results := [.lit (.bool false)], args := [d] }
  | _ => none }
def FnPropWrongFalsely : Prop := fnPropRow.holds Tryz.pinned (OpenSpec.ofChange fnPropWrong)

/- THE SECOND FORM. 'bulk': how many values and letters a reading holds, each counted each time it is reached (what is shared counts as often as it is met; a slice's spare places count too). A statement '..UptoSaid' is the law's where the arguments, and the package variables that the reading takes, are together of bulk at most 1048576: NARROWER than '..Said'. Prove '..Said' where nothing that the law and all that it calls make is longer than what came in: it says more and counts as full. Else prove '..UptoSaid'. A law counts once. -/
mutual
def uptoBulk {H : Type} : DataW H → Nat
  | .lit (.string bytes) => bytes.length + 1
  | .lit _ => 1
  | .nil => 1
  | .ptr d => uptoBulk d + 1
  | .slice elems spare => uptoBulkAll elems + uptoBulkAll spare + 1
  | .agg parts => uptoBulkAll parts + 1
  | .iface _ d => uptoBulk d + 1
  | .map entries => uptoBulkEntries entries + 1
  | .held _ => 1
def uptoBulkAll {H : Type} : List (DataW H) → Nat
  | [] => 0
  | d :: r => uptoBulk d + uptoBulkAll r
def uptoBulkEntries {H : Type} : List (Lit × DataW H) → Nat
  | [] => 0
  | x :: r => uptoBulkEntry x + uptoBulkEntries r
def uptoBulkEntry {H : Type} : Lit × DataW H → Nat
  | (.string bytes, d) => bytes.length + uptoBulk d + 1
  | (_, d) => uptoBulk d + 1
 end
def uptoSmall : (H : Type) → List (DataW H) → Bool := fun _ ds => decide (uptoBulkAll ds ≤ 1048576)
def OpenSpec.upto (s : _root_.Go.ChangeSpec) : _root_.Go.OpenSpec := { _root_.Go.OpenSpec.ofChange s with cond := some uptoSmall }

/-- 'laws.FnWhy', WHERE WHAT IT READS IS OF BULK AT MOST 1048576: true; the input reads as it did. -/
def fnWhyUptoRow : OpenClaim := { program := "ytjfnojijdggfhaagreat", sum := "3f32d76593edafebf597e59ffb593e3ebb3d3b00fc8c6d31fddfc8e2128fc69e", func := "loop.example/g00806/laws.FnWhy", spec := "fnWhy", unfollowed := true, recurses := true, apart := false, narrowed := true }
def FnWhyUptoSaid : Prop := fnWhyUptoRow.holds Tryz.pinned (OpenSpec.upto fnWhySpec)

/-- 'laws.FnSaid', WHERE WHAT IT READS IS OF BULK AT MOST 1048576: true; the input reads as it did. -/
def fnSaidUptoRow : OpenClaim := { program := "ytjfnojijdggfhaagreat", sum := "3f32d76593edafebf597e59ffb593e3ebb3d3b00fc8c6d31fddfc8e2128fc69e", func := "loop.example/g00806/laws.FnSaid", spec := "fnSaid", unfollowed := true, recurses := true, apart := false, narrowed := true }
def FnSaidUptoSaid : Prop := fnSaidUptoRow.holds Tryz.pinned (OpenSpec.upto fnSaidSpec)

/-- 'laws.FnProp', WHERE WHAT IT READS IS OF BULK AT MOST 1048576: true; the input reads as it did. -/
def fnPropUptoRow : OpenClaim := { program := "ytjfnojijdggfhaagreat", sum := "3f32d76593edafebf597e59ffb593e3ebb3d3b00fc8c6d31fddfc8e2128fc69e", func := "loop.example/g00806/laws.FnProp", spec := "fnProp", unfollowed := true, recurses := true, apart := false, narrowed := true }
def FnPropUptoSaid : Prop := fnPropUptoRow.holds Tryz.pinned (OpenSpec.upto fnPropSpec)

end Rows
end Go.Proofs.YtjfnojijdggfhaaGreat
