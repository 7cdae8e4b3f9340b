/-
  No cell of these rows narrows 'for every input' (looked for: loops, veiled, ifaces, maps, wideKeys, modest, calm, conditions, laid).
  DERIVED. THE GIVEN ROWS OF THIS SEAT. 4 by the template 'for every input the law returns true; each argument reads behind the call as it read before'; 0 by the template 'total and deterministic' (their statements: YtgebcdkmchcifaaGreatTotals.lean).
  GIVEN WITH THE SEED: the statements are not yours to turn. If you find one false, say at which input.
  Laid BY PROGRAM, IN A SANDBOX (cutbox-rows.mjs): the forced cells as the released guide's own fill.sh prints them over the translation f466a76889c16ce4… (all of the seat's roots in one cut). By AI agents, Wed Nov 11 2026. No macro, syntax, notation, axiom, sorry.
-/
import Derived.Test.YtgebcdkmchcifaaGreatChecked
import GoSem.Claim
import GoSem.ClaimJoined
import GoSem.ClaimMapViews
import Derived.JoinedTies
import Derived.KernelRfl
namespace Go.Proofs.YtgebcdkmchcifaaGreat
/- THE CELL 'sum', in the pinned program and in every row, IS THE sha256 OF THE DUMP (.gsa) THAT YtgebcdkmchcifaaGreatProg.lean LOADS. Nothing in Lean hashes anything: it is a label: what it is worth is what the hold of that sum in a sandbox is worth. -/
noncomputable def Tryz.pinned : Pinned := { name := "ytgebcdkmchcifaagreat", sum := "f466a76889c16ce47d766d84c0f512d1d2be0d79d74a74864cea3ad65ce095db", checked := Tryz.checked }
namespace Rows
def none {H : Type} : Left H := { results := [], args := [] }

/-- 'laws.FnExactExplainRefutation': WHATEVER THE INPUT: true; the input reads as it did. -/
def fnExactExplainRefutationSpec : ChangeSpec := { name := "fnExactExplainRefutation", fn := fun _ => fun
  | [d1, d2, d3] => { results := [.lit (.bool true)], args := [d1, d2, d3] }
  | _ => none }
def fnExactExplainRefutationRow : OpenClaim := { program := "ytgebcdkmchcifaagreat", sum := "f466a76889c16ce47d766d84c0f512d1d2be0d79d74a74864cea3ad65ce095db", func := "loop.example/g00806/laws.FnExactExplainRefutation", spec := "fnExactExplainRefutation", unfollowed := true, recurses := true, apart := false }
def FnExactExplainRefutationSaid : Prop := fnExactExplainRefutationRow.holds Tryz.pinned (OpenSpec.ofChange fnExactExplainRefutationSpec)

/-- ITS FALSE NEIGHBOUR: 'it returns false'. Refute it at one input. -/
def fnExactExplainRefutationWrong : ChangeSpec := { name := "fnExactExplainRefutation", fn := fun _ => fun
  | [d1, d2, d3] => { results := [.lit (.bool false)], args := [d1, d2, d3] }
  | _ => none }
def FnExactExplainRefutationWrongFalsely : Prop := fnExactExplainRefutationRow.holds Tryz.pinned (OpenSpec.ofChange fnExactExplainRefutationWrong)

/-- 'laws.FnExactExplainLiteral': WHATEVER THE INPUT: true; the input reads as it did. -/
def fnExactExplainLiteralSpec : ChangeSpec := { name := "fnExactExplainLiteral", fn := fun _ => fun
  | [d1, d2, d3, d4] => { results := [.lit (.bool true)], args := [d1, d2, d3, d4] }
  | _ => none }
def fnExactExplainLiteralRow : OpenClaim := { program := "ytgebcdkmchcifaagreat", sum := "f466a76889c16ce47d766d84c0f512d1d2be0d79d74a74864cea3ad65ce095db", func := "loop.example/g00806/laws.FnExactExplainLiteral", spec := "fnExactExplainLiteral", unfollowed := true, recurses := true, apart := false }
def FnExactExplainLiteralSaid : Prop := fnExactExplainLiteralRow.holds Tryz.pinned (OpenSpec.ofChange fnExactExplainLiteralSpec)

/-- ITS FALSE NEIGHBOUR: 'it returns false'. Refute it at one input. -/
def fnExactExplainLiteralWrong : ChangeSpec := { name := "fnExactExplainLiteral", fn := fun _ => fun
  | [d1, d2, d3, d4] => { results := [.lit (.bool false)], args := [d1, d2, d3, d4] }
  | _ => none }
def FnExactExplainLiteralWrongFalsely : Prop := fnExactExplainLiteralRow.holds Tryz.pinned (OpenSpec.ofChange fnExactExplainLiteralWrong)

/-- 'laws.FnExactIsFixpoint': WHATEVER THE INPUT: true; the input reads as it did. -/
def fnExactIsFixpointSpec : ChangeSpec := { name := "fnExactIsFixpoint", fn := fun _ => fun
  | [d1, d2] => { results := [.lit (.bool true)], args := [d1, d2] }
  | _ => none }
def fnExactIsFixpointRow : OpenClaim := { program := "ytgebcdkmchcifaagreat", sum := "f466a76889c16ce47d766d84c0f512d1d2be0d79d74a74864cea3ad65ce095db", func := "loop.example/g00806/laws.FnExactIsFixpoint", spec := "fnExactIsFixpoint", unfollowed := true, recurses := true, apart := false }
def FnExactIsFixpointSaid : Prop := fnExactIsFixpointRow.holds Tryz.pinned (OpenSpec.ofChange fnExactIsFixpointSpec)

/-- ITS FALSE NEIGHBOUR: 'it returns false'. Refute it at one input. -/
def fnExactIsFixpointWrong : ChangeSpec := { name := "fnExactIsFixpoint", fn := fun _ => fun
  | [d1, d2] => { results := [.lit (.bool false)], args := [d1, d2] }
  | _ => none }
def FnExactIsFixpointWrongFalsely : Prop := fnExactIsFixpointRow.holds Tryz.pinned (OpenSpec.ofChange fnExactIsFixpointWrong)

/-- 'laws.FnExactFirstInference': WHATEVER THE INPUT: true; the input reads as it did. -/
def fnExactFirstInferenceSpec : ChangeSpec := { name := "fnExactFirstInference", fn := fun _ => fun
  | [d1, d2] => { results := [.lit (.bool true)], args := [d1, d2] }
  | _ => none }
def fnExactFirstInferenceRow : OpenClaim := { program := "ytgebcdkmchcifaagreat", sum := "f466a76889c16ce47d766d84c0f512d1d2be0d79d74a74864cea3ad65ce095db", func := "loop.example/g00806/laws.FnExactFirstInference", spec := "fnExactFirstInference", unfollowed := true, recurses := true, apart := false }
def FnExactFirstInferenceSaid : Prop := fnExactFirstInferenceRow.holds Tryz.pinned (OpenSpec.ofChange fnExactFirstInferenceSpec)

/-- ITS FALSE NEIGHBOUR: 'it returns false'. Refute it at one input. -/
def fnExactFirstInferenceWrong : ChangeSpec := { name := "fnExactFirstInference", fn := fun _ => fun
  | [d1, d2] => { results := [.lit (.bool false)], args := [d1, d2] }
  | _ => none }
def FnExactFirstInferenceWrongFalsely : Prop := fnExactFirstInferenceRow.holds Tryz.pinned (OpenSpec.ofChange fnExactFirstInferenceWrong)

/- THE SECOND FORM. 'bulk': how many values and letters a reading holds, each counted each time it is reached (what is shared counts as often as it is met; a slice's spare places count too). A statement '..UptoSaid' is the law's where the arguments, and the package variables that the reading takes, are together of bulk at most 1048576: NARROWER than '..Said'. Prove '..Said' where nothing that the law and all that it calls make is longer than what came in: it says more and counts as full. Else prove '..UptoSaid'. A law counts once. -/
mutual
def uptoBulk {H : Type} : DataW H → Nat
  | .lit (.string bytes) => bytes.length + 1
  | .lit _ => 1
  | .nil => 1
  | .ptr d => uptoBulk d + 1
  | .slice elems spare => uptoBulkAll elems + uptoBulkAll spare + 1
  | .agg parts => uptoBulkAll parts + 1
  | .iface _ d => uptoBulk d + 1
  | .map entries => uptoBulkEntries entries + 1
  | .held _ => 1
def uptoBulkAll {H : Type} : List (DataW H) → Nat
  | [] => 0
  | d :: r => uptoBulk d + uptoBulkAll r
def uptoBulkEntries {H : Type} : List (Lit × DataW H) → Nat
  | [] => 0
  | x :: r => uptoBulkEntry x + uptoBulkEntries r
def uptoBulkEntry {H : Type} : Lit × DataW H → Nat
  | (.string bytes, d) => bytes.length + uptoBulk d + 1
  | (_, d) => uptoBulk d + 1
 end
def uptoSmall : (H : Type) → List (DataW H) → Bool := fun _ ds => decide (uptoBulkAll ds ≤ 1048576)
def OpenSpec.upto (s : _root_.Go.ChangeSpec) : _root_.Go.OpenSpec := { _root_.Go.OpenSpec.ofChange s with cond := some uptoSmall }

/-- 'laws.FnExactExplainRefutation', WHERE WHAT IT READS IS OF BULK AT MOST 1048576: true; the input reads as it did. -/
def fnExactExplainRefutationUptoRow : OpenClaim := { program := "ytgebcdkmchcifaagreat", sum := "f466a76889c16ce47d766d84c0f512d1d2be0d79d74a74864cea3ad65ce095db", func := "loop.example/g00806/laws.FnExactExplainRefutation", spec := "fnExactExplainRefutation", unfollowed := true, recurses := true, apart := false, narrowed := true }
def FnExactExplainRefutationUptoSaid : Prop := fnExactExplainRefutationUptoRow.holds Tryz.pinned (OpenSpec.upto fnExactExplainRefutationSpec)

/-- 'laws.FnExactExplainLiteral', WHERE WHAT IT READS IS OF BULK AT MOST 1048576: true; the input reads as it did. -/
def fnExactExplainLiteralUptoRow : OpenClaim := { program := "ytgebcdkmchcifaagreat", sum := "f466a76889c16ce47d766d84c0f512d1d2be0d79d74a74864cea3ad65ce095db", func := "loop.example/g00806/laws.FnExactExplainLiteral", spec := "fnExactExplainLiteral", unfollowed := true, recurses := true, apart := false, narrowed := true }
def FnExactExplainLiteralUptoSaid : Prop := fnExactExplainLiteralUptoRow.holds Tryz.pinned (OpenSpec.upto fnExactExplainLiteralSpec)

/-- 'laws.FnExactIsFixpoint', WHERE WHAT IT READS IS OF BULK AT MOST 1048576: true; the input reads as it did. -/
def fnExactIsFixpointUptoRow : OpenClaim := { program := "ytgebcdkmchcifaagreat", sum := "f466a76889c16ce47d766d84c0f512d1d2be0d79d74a74864cea3ad65ce095db", func := "loop.example/g00806/laws.FnExactIsFixpoint", spec := "fnExactIsFixpoint", unfollowed := true, recurses := true, apart := false, narrowed := true }
def FnExactIsFixpointUptoSaid : Prop := fnExactIsFixpointUptoRow.holds Tryz.pinned (OpenSpec.upto fnExactIsFixpointSpec)

/-- 'laws.FnExactFirstInference', WHERE WHAT IT READS IS OF BULK AT MOST 1048576: true; the input reads as it did. -/
def fnExactFirstInferenceUptoRow : OpenClaim := { program := "ytgebcdkmchcifaagreat", sum := "f466a76889c16ce47d766d84c0f512d1d2be0d79d74a74864cea3ad65ce095db", func := "loop.example/g00806/laws.FnExactFirstInference", spec := "fnExactFirstInference", unfollowed := true, recurses := true, apart := false, narrowed := true }
def FnExactFirstInferenceUptoSaid : Prop := fnExactFirstInferenceUptoRow.holds Tryz.pinned (OpenSpec.upto fnExactFirstInferenceSpec)

end Rows
end Go.Proofs.YtgebcdkmchcifaaGreat
