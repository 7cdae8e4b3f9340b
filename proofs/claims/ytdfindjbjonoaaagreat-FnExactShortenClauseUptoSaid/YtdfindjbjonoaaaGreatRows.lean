/-
  No cell of these rows narrows 'for every input' (looked for: loops, veiled, ifaces, maps, wideKeys, modest, calm, conditions, laid).
  DERIVED. THE GIVEN ROWS OF THIS SEAT. 12 by the template 'for every input the law returns true; each argument reads behind the call as it read before'; 0 by the template 'total and deterministic' (their statements: YtdfindjbjonoaaaGreatTotals.lean).
  GIVEN WITH THE SEED: the statements are not yours to turn. If you find one false, say at which input.
  Laid BY PROGRAM, IN A SANDBOX (cutbox-rows.mjs): the forced cells as the released guide's own fill.sh prints them over the translation 16a64d429cd4407c… (all of the seat's roots in one cut). By AI agents, Wed Nov 11 2026. No macro, syntax, notation, axiom, sorry.
-/
import Derived.Test.YtdfindjbjonoaaaGreatChecked
import GoSem.Claim
import GoSem.ClaimJoined
import GoSem.ClaimMapViews
import Derived.JoinedTies
import Derived.KernelRfl
namespace Go.Proofs.YtdfindjbjonoaaaGreat
/- THE CELL 'sum', in the pinned program and in every row, IS THE sha256 OF THE DUMP (.gsa) THAT YtdfindjbjonoaaaGreatProg.lean LOADS. Nothing in Lean hashes anything: it is a label: what it is worth is what the hold of that sum in a sandbox is worth. -/
noncomputable def Tryz.pinned : Pinned := { name := "ytdfindjbjonoaaagreat", sum := "16a64d429cd4407cd76737818e33ac9df95bc13f142e5243d814bd153335ea6f", checked := Tryz.checked }
namespace Rows
def none {H : Type} : Left H := { results := [], args := [] }

/-- 'laws.FnExactShortenClause': WHATEVER THE INPUT: true; the input reads as it did. -/
def fnExactShortenClauseSpec : ChangeSpec := { name := "fnExactShortenClause", fn := fun _ => fun
  | [d1, d2, d3, d4] => { results := [.lit (.bool true)], args := [d1, d2, d3, d4] }
  | _ => none }
def fnExactShortenClauseRow : OpenClaim := { program := "ytdfindjbjonoaaagreat", sum := "16a64d429cd4407cd76737818e33ac9df95bc13f142e5243d814bd153335ea6f", func := "loop.example/g00806/laws.FnExactShortenClause", spec := "fnExactShortenClause", unfollowed := true, recurses := true, apart := false }
def FnExactShortenClauseSaid : Prop := fnExactShortenClauseRow.holds Tryz.pinned (OpenSpec.ofChange fnExactShortenClauseSpec)

/-- ITS FALSE NEIGHBOUR: 'it returns false'. Refute it at one input. -/
def fnExactShortenClauseWrong : ChangeSpec := { name := "fnExactShortenClause", fn := fun _ => fun
  | [d1, d2, d3, d4] => { results := [.lit (.bool false)], args := [d1, d2, d3, d4] }
  | _ => none }
def FnExactShortenClauseWrongFalsely : Prop := fnExactShortenClauseRow.holds Tryz.pinned (OpenSpec.ofChange fnExactShortenClauseWrong)

/-- 'laws.FnExactExplainRefutation': WHATEVER THE INPUT: true; the input reads as it did. -/
def fnExactExplainRefutationSpec : ChangeSpec := { name := "fnExactExplainRefutation", fn := fun _ => fun
  | [d1, d2, d3] => { results := [.lit (.bool true)], args := [d1, d2, d3] }
  | _ => none }
def fnExactExplainRefutationRow : OpenClaim := { program := "ytdfindjbjonoaaagreat", sum := "16a64d429cd4407cd76737818e33ac9df95bc13f142e5243d814bd153335ea6f", func := "loop.example/g00806/laws.FnExactExplainRefutation", spec := "fnExactExplainRefutation", unfollowed := true, recurses := true, apart := false }
def FnExactExplainRefutationSaid : Prop := fnExactExplainRefutationRow.holds Tryz.pinned (OpenSpec.ofChange fnExactExplainRefutationSpec)

/-- ITS FALSE NEIGHBOUR: 'it returns false'. Refute it at one input. -/
def fnExactExplainRefutationWrong : ChangeSpec := { name := "fnExactExplainRefutation", fn := fun _ => fun
  | [d1, d2, d3] => { results := [.lit (.bool false)], args := [d1, d2, d3] }
  | _ => none }
def FnExactExplainRefutationWrongFalsely : Prop := fnExactExplainRefutationRow.holds Tryz.pinned (OpenSpec.ofChange fnExactExplainRefutationWrong)

/-- 'laws.FnExactExplainLiteral': WHATEVER THE INPUT: true; the input reads as it did. -/
def fnExactExplainLiteralSpec : ChangeSpec := { name := "fnExactExplainLiteral", fn := fun _ => fun
  | [d1, d2, d3, d4] => { results := [.lit (.bool true)], args := [d1, d2, d3, d4] }
  | _ => none }
def fnExactExplainLiteralRow : OpenClaim := { program := "ytdfindjbjonoaaagreat", sum := "16a64d429cd4407cd76737818e33ac9df95bc13f142e5243d814bd153335ea6f", func := "loop.example/g00806/laws.FnExactExplainLiteral", spec := "fnExactExplainLiteral", unfollowed := true, recurses := true, apart := false }
def FnExactExplainLiteralSaid : Prop := fnExactExplainLiteralRow.holds Tryz.pinned (OpenSpec.ofChange fnExactExplainLiteralSpec)

/-- ITS FALSE NEIGHBOUR: 'it returns false'. Refute it at one input. -/
def fnExactExplainLiteralWrong : ChangeSpec := { name := "fnExactExplainLiteral", fn := fun _ => fun
  | [d1, d2, d3, d4] => { results := [.lit (.bool false)], args := [d1, d2, d3, d4] }
  | _ => none }
def FnExactExplainLiteralWrongFalsely : Prop := fnExactExplainLiteralRow.holds Tryz.pinned (OpenSpec.ofChange fnExactExplainLiteralWrong)

/-- 'laws.FnExactFirstInference': WHATEVER THE INPUT: true; the input reads as it did. -/
def fnExactFirstInferenceSpec : ChangeSpec := { name := "fnExactFirstInference", fn := fun _ => fun
  | [d1, d2] => { results := [.lit (.bool true)], args := [d1, d2] }
  | _ => none }
def fnExactFirstInferenceRow : OpenClaim := { program := "ytdfindjbjonoaaagreat", sum := "16a64d429cd4407cd76737818e33ac9df95bc13f142e5243d814bd153335ea6f", func := "loop.example/g00806/laws.FnExactFirstInference", spec := "fnExactFirstInference", unfollowed := true, recurses := true, apart := false }
def FnExactFirstInferenceSaid : Prop := fnExactFirstInferenceRow.holds Tryz.pinned (OpenSpec.ofChange fnExactFirstInferenceSpec)

/-- ITS FALSE NEIGHBOUR: 'it returns false'. Refute it at one input. -/
def fnExactFirstInferenceWrong : ChangeSpec := { name := "fnExactFirstInference", fn := fun _ => fun
  | [d1, d2] => { results := [.lit (.bool false)], args := [d1, d2] }
  | _ => none }
def FnExactFirstInferenceWrongFalsely : Prop := fnExactFirstInferenceRow.holds Tryz.pinned (OpenSpec.ofChange fnExactFirstInferenceWrong)

/-- 'laws.FnExactIsFixpoint': WHATEVER THE INPUT: true; the input reads as it did. -/
def fnExactIsFixpointSpec : ChangeSpec := { name := "fnExactIsFixpoint", fn := fun _ => fun
  | [d1, d2] => { results := [.lit (.bool true)], args := [d1, d2] }
  | _ => none }
def fnExactIsFixpointRow : OpenClaim := { program := "ytdfindjbjonoaaagreat", sum := "16a64d429cd4407cd76737818e33ac9df95bc13f142e5243d814bd153335ea6f", func := "loop.example/g00806/laws.FnExactIsFixpoint", spec := "fnExactIsFixpoint", unfollowed := true, recurses := true, apart := false }
def FnExactIsFixpointSaid : Prop := fnExactIsFixpointRow.holds Tryz.pinned (OpenSpec.ofChange fnExactIsFixpointSpec)

/-- ITS FALSE NEIGHBOUR: 'it returns false'. Refute it at one input. -/
def fnExactIsFixpointWrong : ChangeSpec := { name := "fnExactIsFixpoint", fn := fun _ => fun
  | [d1, d2] => { results := [.lit (.bool false)], args := [d1, d2] }
  | _ => none }
def FnExactIsFixpointWrongFalsely : Prop := fnExactIsFixpointRow.holds Tryz.pinned (OpenSpec.ofChange fnExactIsFixpointWrong)

/-- 'laws.FnExactNeededLines': WHATEVER THE INPUT: true; the input reads as it did. -/
def fnExactNeededLinesSpec : ChangeSpec := { name := "fnExactNeededLines", fn := fun _ => fun
  | [d1, d2] => { results := [.lit (.bool true)], args := [d1, d2] }
  | _ => none }
def fnExactNeededLinesRow : OpenClaim := { program := "ytdfindjbjonoaaagreat", sum := "16a64d429cd4407cd76737818e33ac9df95bc13f142e5243d814bd153335ea6f", func := "loop.example/g00806/laws.FnExactNeededLines", spec := "fnExactNeededLines", unfollowed := true, recurses := true, apart := false }
def FnExactNeededLinesSaid : Prop := fnExactNeededLinesRow.holds Tryz.pinned (OpenSpec.ofChange fnExactNeededLinesSpec)

/-- ITS FALSE NEIGHBOUR: 'it returns false'. Refute it at one input. -/
def fnExactNeededLinesWrong : ChangeSpec := { name := "fnExactNeededLines", fn := fun _ => fun
  | [d1, d2] => { results := [.lit (.bool false)], args := [d1, d2] }
  | _ => none }
def FnExactNeededLinesWrongFalsely : Prop := fnExactNeededLinesRow.holds Tryz.pinned (OpenSpec.ofChange fnExactNeededLinesWrong)

/-- 'laws.FnExactParallelSchedule': WHATEVER THE INPUT: true; the input reads as it did. -/
def fnExactParallelScheduleSpec : ChangeSpec := { name := "fnExactParallelSchedule", fn := fun _ => fun
  | [d1, d2, d3] => { results := [.lit (.bool true)], args := [d1, d2, d3] }
  | _ => none }
def fnExactParallelScheduleRow : OpenClaim := { program := "ytdfindjbjonoaaagreat", sum := "16a64d429cd4407cd76737818e33ac9df95bc13f142e5243d814bd153335ea6f", func := "loop.example/g00806/laws.FnExactParallelSchedule", spec := "fnExactParallelSchedule", unfollowed := true, recurses := true, apart := false }
def FnExactParallelScheduleSaid : Prop := fnExactParallelScheduleRow.holds Tryz.pinned (OpenSpec.ofChange fnExactParallelScheduleSpec)

/-- ITS FALSE NEIGHBOUR: 'it returns false'. Refute it at one input. -/
def fnExactParallelScheduleWrong : ChangeSpec := { name := "fnExactParallelSchedule", fn := fun _ => fun
  | [d1, d2, d3] => { results := [.lit (.bool false)], args := [d1, d2, d3] }
  | _ => none }
def FnExactParallelScheduleWrongFalsely : Prop := fnExactParallelScheduleRow.holds Tryz.pinned (OpenSpec.ofChange fnExactParallelScheduleWrong)

/-- 'laws.FnExactSerialSchedule': WHATEVER THE INPUT: true; the input reads as it did. -/
def fnExactSerialScheduleSpec : ChangeSpec := { name := "fnExactSerialSchedule", fn := fun _ => fun
  | [d1, d2, d3] => { results := [.lit (.bool true)], args := [d1, d2, d3] }
  | _ => none }
def fnExactSerialScheduleRow : OpenClaim := { program := "ytdfindjbjonoaaagreat", sum := "16a64d429cd4407cd76737818e33ac9df95bc13f142e5243d814bd153335ea6f", func := "loop.example/g00806/laws.FnExactSerialSchedule", spec := "fnExactSerialSchedule", unfollowed := true, recurses := true, apart := false }
def FnExactSerialScheduleSaid : Prop := fnExactSerialScheduleRow.holds Tryz.pinned (OpenSpec.ofChange fnExactSerialScheduleSpec)

/-- ITS FALSE NEIGHBOUR: 'it returns false'. Refute it at one input. -/
def fnExactSerialScheduleWrong : ChangeSpec := { name := "fnExactSerialSchedule", fn := fun _ => fun
  | [d1, d2, d3] => { results := [.lit (.bool false)], args := [d1, d2, d3] }
  | _ => none }
def FnExactSerialScheduleWrongFalsely : Prop := fnExactSerialScheduleRow.holds Tryz.pinned (OpenSpec.ofChange fnExactSerialScheduleWrong)

/-- 'laws.FnExactRepair': WHATEVER THE INPUT: true; the input reads as it did. -/
def fnExactRepairSpec : ChangeSpec := { name := "fnExactRepair", fn := fun _ => fun
  | [d1, d2, d3] => { results := [.lit (.bool true)], args := [d1, d2, d3] }
  | _ => none }
def fnExactRepairRow : OpenClaim := { program := "ytdfindjbjonoaaagreat", sum := "16a64d429cd4407cd76737818e33ac9df95bc13f142e5243d814bd153335ea6f", func := "loop.example/g00806/laws.FnExactRepair", spec := "fnExactRepair", unfollowed := true, recurses := true, apart := false }
def FnExactRepairSaid : Prop := fnExactRepairRow.holds Tryz.pinned (OpenSpec.ofChange fnExactRepairSpec)

/-- ITS FALSE NEIGHBOUR: 'it returns false'. Refute it at one input. -/
def fnExactRepairWrong : ChangeSpec := { name := "fnExactRepair", fn := fun _ => fun
  | [d1, d2, d3] => { results := [.lit (.bool false)], args := [d1, d2, d3] }
  | _ => none }
def FnExactRepairWrongFalsely : Prop := fnExactRepairRow.holds Tryz.pinned (OpenSpec.ofChange fnExactRepairWrong)

/-- 'laws.FnExactSwapImprove': WHATEVER THE INPUT: true; the input reads as it did. -/
def fnExactSwapImproveSpec : ChangeSpec := { name := "fnExactSwapImprove", fn := fun _ => fun
  | [d1, d2] => { results := [.lit (.bool true)], args := [d1, d2] }
  | _ => none }
def fnExactSwapImproveRow : OpenClaim := { program := "ytdfindjbjonoaaagreat", sum := "16a64d429cd4407cd76737818e33ac9df95bc13f142e5243d814bd153335ea6f", func := "loop.example/g00806/laws.FnExactSwapImprove", spec := "fnExactSwapImprove", unfollowed := true, recurses := true, apart := false }
def FnExactSwapImproveSaid : Prop := fnExactSwapImproveRow.holds Tryz.pinned (OpenSpec.ofChange fnExactSwapImproveSpec)

/-- ITS FALSE NEIGHBOUR: 'it returns false'. Refute it at one input. -/
def fnExactSwapImproveWrong : ChangeSpec := { name := "fnExactSwapImprove", fn := fun _ => fun
  | [d1, d2] => { results := [.lit (.bool false)], args := [d1, d2] }
  | _ => none }
def FnExactSwapImproveWrongFalsely : Prop := fnExactSwapImproveRow.holds Tryz.pinned (OpenSpec.ofChange fnExactSwapImproveWrong)

/-- 'laws.FnExactImproveSchedule': WHATEVER THE INPUT: true; the input reads as it did. -/
def fnExactImproveScheduleSpec : ChangeSpec := { name := "fnExactImproveSchedule", fn := fun _ => fun
  | [d1, d2, d3] => { results := [.lit (.bool true)], args := [d1, d2, d3] }
  | _ => none }
def fnExactImproveScheduleRow : OpenClaim := { program := "ytdfindjbjonoaaagreat", sum := "16a64d429cd4407cd76737818e33ac9df95bc13f142e5243d814bd153335ea6f", func := "loop.example/g00806/laws.FnExactImproveSchedule", spec := "fnExactImproveSchedule", unfollowed := true, recurses := true, apart := false }
def FnExactImproveScheduleSaid : Prop := fnExactImproveScheduleRow.holds Tryz.pinned (OpenSpec.ofChange fnExactImproveScheduleSpec)

/-- ITS FALSE NEIGHBOUR: 'it returns false'. Refute it at one input. -/
def fnExactImproveScheduleWrong : ChangeSpec := { name := "fnExactImproveSchedule", fn := fun _ => fun
  | [d1, d2, d3] => { results := [.lit (.bool false)], args := [d1, d2, d3] }
  | _ => none }
def FnExactImproveScheduleWrongFalsely : Prop := fnExactImproveScheduleRow.holds Tryz.pinned (OpenSpec.ofChange fnExactImproveScheduleWrong)

/-- 'laws.FnExactInitialSchedule': WHATEVER THE INPUT: true; the input reads as it did. -/
def fnExactInitialScheduleSpec : ChangeSpec := { name := "fnExactInitialSchedule", fn := fun _ => fun
  | [d] => { results := [.lit (.bool true)], args := [d] }
  | _ => none }
def fnExactInitialScheduleRow : OpenClaim := { program := "ytdfindjbjonoaaagreat", sum := "16a64d429cd4407cd76737818e33ac9df95bc13f142e5243d814bd153335ea6f", func := "loop.example/g00806/laws.FnExactInitialSchedule", spec := "fnExactInitialSchedule", unfollowed := true, recurses := true, apart := false }
def FnExactInitialScheduleSaid : Prop := fnExactInitialScheduleRow.holds Tryz.pinned (OpenSpec.ofChange fnExactInitialScheduleSpec)

/-- ITS FALSE NEIGHBOUR: 'it returns false'. Refute it at one input. -/
def fnExactInitialScheduleWrong : ChangeSpec := { name := "fnExactInitialSchedule", fn := fun _ => fun
  | [d] => { results := [.lit (.bool false)], args := [d] }
  | _ => none }
def FnExactInitialScheduleWrongFalsely : Prop := fnExactInitialScheduleRow.holds Tryz.pinned (OpenSpec.ofChange fnExactInitialScheduleWrong)

/- THE SECOND FORM. 'bulk': how many values and letters a reading holds, each counted each time it is reached (what is shared counts as often as it is met; a slice's spare places count too). A statement '..UptoSaid' is the law's where the arguments, and the package variables that the reading takes, are together of bulk at most 1048576: NARROWER than '..Said'. Prove '..Said' where nothing that the law and all that it calls make is longer than what came in: it says more and counts as full. Else prove '..UptoSaid'. A law counts once. -/
mutual
def uptoBulk {H : Type} : DataW H → Nat
  | .lit (.string bytes) => bytes.length + 1
  | .lit _ => 1
  | .nil => 1
  | .ptr d => uptoBulk d + 1
  | .slice elems spare => uptoBulkAll elems + uptoBulkAll spare + 1
  | .agg parts => uptoBulkAll parts + 1
  | .iface _ d => uptoBulk d + 1
  | .map entries => uptoBulkEntries entries + 1
  | .held _ => 1
def uptoBulkAll {H : Type} : List (DataW H) → Nat
  | [] => 0
  | d :: r => uptoBulk d + uptoBulkAll r
def uptoBulkEntries {H : Type} : List (Lit × DataW H) → Nat
  | [] => 0
  | x :: r => uptoBulkEntry x + uptoBulkEntries r
def uptoBulkEntry {H : Type} : Lit × DataW H → Nat
  | (.string bytes, d) => bytes.length + uptoBulk d + 1
  | (_, d) => uptoBulk d + 1
 end
def uptoSmall : (H : Type) → List (DataW H) → Bool := fun _ ds => decide (uptoBulkAll ds ≤ 1048576)
def OpenSpec.upto (s : _root_.Go.ChangeSpec) : _root_.Go.OpenSpec := { _root_.Go.OpenSpec.ofChange s with cond := some uptoSmall }

/-- 'laws.FnExactShortenClause', WHERE WHAT IT READS IS OF BULK AT MOST 1048576: true; the input reads as it did. -/
def fnExactShortenClauseUptoRow : OpenClaim := { program := "ytdfindjbjonoaaagreat", sum := "16a64d429cd4407cd76737818e33ac9df95bc13f142e5243d814bd153335ea6f", func := "loop.example/g00806/laws.FnExactShortenClause", spec := "fnExactShortenClause", unfollowed := true, recurses := true, apart := false, narrowed := true }
def FnExactShortenClauseUptoSaid : Prop := fnExactShortenClauseUptoRow.holds Tryz.pinned (OpenSpec.upto fnExactShortenClauseSpec)

/-- 'laws.FnExactExplainRefutation', WHERE WHAT IT READS IS OF BULK AT MOST 1048576: true; the input reads as it did. -/
def fnExactExplainRefutationUptoRow : OpenClaim := { program := "ytdfindjbjonoaaagreat", sum := "16a64d429cd4407cd76737818e33ac9df95bc13f142e5243d814bd153335ea6f", func := "loop.example/g00806/laws.FnExactExplainRefutation", spec := "fnExactExplainRefutation", unfollowed := true, recurses := true, apart := false, narrowed := true }
def FnExactExplainRefutationUptoSaid : Prop := fnExactExplainRefutationUptoRow.holds Tryz.pinned (OpenSpec.upto fnExactExplainRefutationSpec)

/-- 'laws.FnExactExplainLiteral', WHERE WHAT IT READS IS OF BULK AT MOST 1048576: true; the input reads as it did. -/
def fnExactExplainLiteralUptoRow : OpenClaim := { program := "ytdfindjbjonoaaagreat", sum := "16a64d429cd4407cd76737818e33ac9df95bc13f142e5243d814bd153335ea6f", func := "loop.example/g00806/laws.FnExactExplainLiteral", spec := "fnExactExplainLiteral", unfollowed := true, recurses := true, apart := false, narrowed := true }
def FnExactExplainLiteralUptoSaid : Prop := fnExactExplainLiteralUptoRow.holds Tryz.pinned (OpenSpec.upto fnExactExplainLiteralSpec)

/-- 'laws.FnExactFirstInference', WHERE WHAT IT READS IS OF BULK AT MOST 1048576: true; the input reads as it did. -/
def fnExactFirstInferenceUptoRow : OpenClaim := { program := "ytdfindjbjonoaaagreat", sum := "16a64d429cd4407cd76737818e33ac9df95bc13f142e5243d814bd153335ea6f", func := "loop.example/g00806/laws.FnExactFirstInference", spec := "fnExactFirstInference", unfollowed := true, recurses := true, apart := false, narrowed := true }
def FnExactFirstInferenceUptoSaid : Prop := fnExactFirstInferenceUptoRow.holds Tryz.pinned (OpenSpec.upto fnExactFirstInferenceSpec)

/-- 'laws.FnExactIsFixpoint', WHERE WHAT IT READS IS OF BULK AT MOST 1048576: true; the input reads as it did. -/
def fnExactIsFixpointUptoRow : OpenClaim := { program := "ytdfindjbjonoaaagreat", sum := "16a64d429cd4407cd76737818e33ac9df95bc13f142e5243d814bd153335ea6f", func := "loop.example/g00806/laws.FnExactIsFixpoint", spec := "fnExactIsFixpoint", unfollowed := true, recurses := true, apart := false, narrowed := true }
def FnExactIsFixpointUptoSaid : Prop := fnExactIsFixpointUptoRow.holds Tryz.pinned (OpenSpec.upto fnExactIsFixpointSpec)

/-- 'laws.FnExactNeededLines', WHERE WHAT IT READS IS OF BULK AT MOST 1048576: true; the input reads as it did. -/
def fnExactNeededLinesUptoRow : OpenClaim := { program := "ytdfindjbjonoaaagreat", sum := "16a64d429cd4407cd76737818e33ac9df95bc13f142e5243d814bd153335ea6f", func := "loop.example/g00806/laws.FnExactNeededLines", spec := "fnExactNeededLines", unfollowed := true, recurses := true, apart := false, narrowed := true }
def FnExactNeededLinesUptoSaid : Prop := fnExactNeededLinesUptoRow.holds Tryz.pinned (OpenSpec.upto fnExactNeededLinesSpec)

/-- 'laws.FnExactParallelSchedule', WHERE WHAT IT READS IS OF BULK AT MOST 1048576: true; the input reads as it did. -/
def fnExactParallelScheduleUptoRow : OpenClaim := { program := "ytdfindjbjonoaaagreat", sum := "16a64d429cd4407cd76737818e33ac9df95bc13f142e5243d814bd153335ea6f", func := "loop.example/g00806/laws.FnExactParallelSchedule", spec := "fnExactParallelSchedule", unfollowed := true, recurses := true, apart := false, narrowed := true }
def FnExactParallelScheduleUptoSaid : Prop := fnExactParallelScheduleUptoRow.holds Tryz.pinned (OpenSpec.upto fnExactParallelScheduleSpec)

/-- 'laws.FnExactSerialSchedule', WHERE WHAT IT READS IS OF BULK AT MOST 1048576: true; the input reads as it did. -/
def fnExactSerialScheduleUptoRow : OpenClaim := { program := "ytdfindjbjonoaaagreat", sum := "16a64d429cd4407cd76737818e33ac9df95bc13f142e5243d814bd153335ea6f", func := "loop.example/g00806/laws.FnExactSerialSchedule", spec := "fnExactSerialSchedule", unfollowed := true, recurses := true, apart := false, narrowed := true }
def FnExactSerialScheduleUptoSaid : Prop := fnExactSerialScheduleUptoRow.holds Tryz.pinned (OpenSpec.upto fnExactSerialScheduleSpec)

/-- 'laws.FnExactRepair', WHERE WHAT IT READS IS OF BULK AT MOST 1048576: true; the input reads as it did. -/
def fnExactRepairUptoRow : OpenClaim := { program := "ytdfindjbjonoaaagreat", sum := "16a64d429cd4407cd76737818e33ac9df95bc13f142e5243d814bd153335ea6f", func := "loop.example/g00806/laws.FnExactRepair", spec := "fnExactRepair", unfollowed := true, recurses := true, apart := false, narrowed := true }
def FnExactRepairUptoSaid : Prop := fnExactRepairUptoRow.holds Tryz.pinned (OpenSpec.upto fnExactRepairSpec)

/-- 'laws.FnExactSwapImprove', WHERE WHAT IT READS IS OF BULK AT MOST 1048576: true; the input reads as it did. -/
def fnExactSwapImproveUptoRow : OpenClaim := { program := "ytdfindjbjonoaaagreat", sum := "16a64d429cd4407cd76737818e33ac9df95bc13f142e5243d814bd153335ea6f", func := "loop.example/g00806/laws.FnExactSwapImprove", spec := "fnExactSwapImprove", unfollowed := true, recurses := true, apart := false, narrowed := true }
def FnExactSwapImproveUptoSaid : Prop := fnExactSwapImproveUptoRow.holds Tryz.pinned (OpenSpec.upto fnExactSwapImproveSpec)

/-- 'laws.FnExactImproveSchedule', WHERE WHAT IT READS IS OF BULK AT MOST 1048576: true; the input reads as it did. -/
def fnExactImproveScheduleUptoRow : OpenClaim := { program := "ytdfindjbjonoaaagreat", sum := "16a64d429cd4407cd76737818e33ac9df95bc13f142e5243d814bd153335ea6f", func := "loop.example/g00806/laws.FnExactImproveSchedule", spec := "fnExactImproveSchedule", unfollowed := true, recurses := true, apart := false, narrowed := true }
def FnExactImproveScheduleUptoSaid : Prop := fnExactImproveScheduleUptoRow.holds Tryz.pinned (OpenSpec.upto fnExactImproveScheduleSpec)

/-- 'laws.FnExactInitialSchedule', WHERE WHAT IT READS IS OF BULK AT MOST 1048576: true; the input reads as it did. -/
def fnExactInitialScheduleUptoRow : OpenClaim := { program := "ytdfindjbjonoaaagreat", sum := "16a64d429cd4407cd76737818e33ac9df95bc13f142e5243d814bd153335ea6f", func := "loop.example/g00806/laws.FnExactInitialSchedule", spec := "fnExactInitialSchedule", unfollowed := true, recurses := true, apart := false, narrowed := true }
def FnExactInitialScheduleUptoSaid : Prop := fnExactInitialScheduleUptoRow.holds Tryz.pinned (OpenSpec.upto fnExactInitialScheduleSpec)

end Rows
end Go.Proofs.YtdfindjbjonoaaaGreat
