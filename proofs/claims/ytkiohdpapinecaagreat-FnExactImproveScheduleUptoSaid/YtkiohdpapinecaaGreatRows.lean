/-
  No cell of these rows narrows 'for every input' (looked for: loops, veiled, ifaces, maps, wideKeys, modest, calm, conditions, laid).
  DERIVED. THE GIVEN ROWS OF THIS SEAT. 7 by the template 'for every input the law returns true; each argument reads behind the call as it read before'; 0 by the template 'total and deterministic' (their statements: YtkiohdpapinecaaGreatTotals.lean).
  GIVEN WITH THE SEED: the statements are not yours to turn. If you find one false, say at which input.
  Laid BY PROGRAM, IN A SANDBOX (cutbox-rows.mjs): the forced cells as the released guide's own fill.sh prints them over the translation 916b7f9e620debdb… (all of the seat's roots in one cut). By AI agents, Wed Nov 11 2026. No macro, syntax, notation, axiom, sorry.
-/
import Derived.Test.YtkiohdpapinecaaGreatChecked
import GoSem.Claim
import GoSem.ClaimJoined
import GoSem.ClaimMapViews
import Derived.JoinedTies
import Derived.KernelRfl
namespace Go.Proofs.YtkiohdpapinecaaGreat
/- THE CELL 'sum', in the pinned program and in every row, IS THE sha256 OF THE DUMP (.gsa) THAT YtkiohdpapinecaaGreatProg.lean LOADS. Nothing in Lean hashes anything: it is a label: what it is worth is what the hold of that sum in a sandbox is worth. -/
noncomputable def Tryz.pinned : Pinned := { name := "ytkiohdpapinecaagreat", sum := "916b7f9e620debdbe4207de05de5227820fdb2b34b35a6a6e9d92c0f80367d12", checked := Tryz.checked }
namespace Rows
def none {H : Type} : Left H := { results := [], args := [] }

/-- 'laws.FnExactParallelSchedule': WHATEVER THE INPUT: true; the input reads as it did. -/
def fnExactParallelScheduleSpec : ChangeSpec := { name := "fnExactParallelSchedule", fn := fun _ => fun
  | [d1, d2, d3] => { results := [.lit (.bool true)], args := [d1, d2, d3] }
  | _ => none }
def fnExactParallelScheduleRow : OpenClaim := { program := "ytkiohdpapinecaagreat", sum := "916b7f9e620debdbe4207de05de5227820fdb2b34b35a6a6e9d92c0f80367d12", func := "loop.example/g00806/laws.FnExactParallelSchedule", spec := "fnExactParallelSchedule", unfollowed := true, recurses := true, apart := false }
def FnExactParallelScheduleSaid : Prop := fnExactParallelScheduleRow.holds Tryz.pinned (OpenSpec.ofChange fnExactParallelScheduleSpec)

/-- ITS FALSE NEIGHBOUR: 'it returns false'. Refute it at one input. -/
def fnExactParallelScheduleWrong : ChangeSpec := { name := "fnExactParallelSchedule", fn := fun _ => fun
  | [d1, d2, d3] => { results := [.lit (.bool false)], args := [d1, d2, d3] }
  | _ => none }
def FnExactParallelScheduleWrongFalsely : Prop := fnExactParallelScheduleRow.holds Tryz.pinned (OpenSpec.ofChange fnExactParallelScheduleWrong)

/-- 'laws.FnExactSerialSchedule': WHATEVER THE INPUT: true; the input reads as it did. -/
def fnExactSerialScheduleSpec : ChangeSpec := { name := "fnExactSerialSchedule", fn := fun _ => fun
  | [d1, d2, d3] => { results := [.lit (.bool true)], args := [d1, d2, d3] }
  | _ => none }
def fnExactSerialScheduleRow : OpenClaim := { program := "ytkiohdpapinecaagreat", sum := "916b7f9e620debdbe4207de05de5227820fdb2b34b35a6a6e9d92c0f80367d12", func := "loop.example/g00806/laws.FnExactSerialSchedule", spec := "fnExactSerialSchedule", unfollowed := true, recurses := true, apart := false }
def FnExactSerialScheduleSaid : Prop := fnExactSerialScheduleRow.holds Tryz.pinned (OpenSpec.ofChange fnExactSerialScheduleSpec)

/-- ITS FALSE NEIGHBOUR: 'it returns false'. Refute it at one input. -/
def fnExactSerialScheduleWrong : ChangeSpec := { name := "fnExactSerialSchedule", fn := fun _ => fun
  | [d1, d2, d3] => { results := [.lit (.bool false)], args := [d1, d2, d3] }
  | _ => none }
def FnExactSerialScheduleWrongFalsely : Prop := fnExactSerialScheduleRow.holds Tryz.pinned (OpenSpec.ofChange fnExactSerialScheduleWrong)

/-- 'laws.FnExactRepair': WHATEVER THE INPUT: true; the input reads as it did. -/
def fnExactRepairSpec : ChangeSpec := { name := "fnExactRepair", fn := fun _ => fun
  | [d1, d2, d3] => { results := [.lit (.bool true)], args := [d1, d2, d3] }
  | _ => none }
def fnExactRepairRow : OpenClaim := { program := "ytkiohdpapinecaagreat", sum := "916b7f9e620debdbe4207de05de5227820fdb2b34b35a6a6e9d92c0f80367d12", func := "loop.example/g00806/laws.FnExactRepair", spec := "fnExactRepair", unfollowed := true, recurses := true, apart := false }
def FnExactRepairSaid : Prop := fnExactRepairRow.holds Tryz.pinned (OpenSpec.ofChange fnExactRepairSpec)

/-- ITS FALSE NEIGHBOUR: 'it returns false'. Refute it at one input. -/
def fnExactRepairWrong : ChangeSpec := { name := "fnExactRepair", fn := fun _ => fun
  | [d1, d2, d3] => { results := [.lit (.bool false)], args := [d1, d2, d3] }
  | _ => none }
def FnExactRepairWrongFalsely : Prop := fnExactRepairRow.holds Tryz.pinned (OpenSpec.ofChange fnExactRepairWrong)

/-- 'laws.FnExactSwapImprove': WHATEVER THE INPUT: true; the input reads as it did. -/
def fnExactSwapImproveSpec : ChangeSpec := { name := "fnExactSwapImprove", fn := fun _ => fun
  | [d1, d2] => { results := [.lit (.bool true)], args := [d1, d2] }
  | _ => none }
def fnExactSwapImproveRow : OpenClaim := { program := "ytkiohdpapinecaagreat", sum := "916b7f9e620debdbe4207de05de5227820fdb2b34b35a6a6e9d92c0f80367d12", func := "loop.example/g00806/laws.FnExactSwapImprove", spec := "fnExactSwapImprove", unfollowed := true, recurses := true, apart := false }
def FnExactSwapImproveSaid : Prop := fnExactSwapImproveRow.holds Tryz.pinned (OpenSpec.ofChange fnExactSwapImproveSpec)

/-- ITS FALSE NEIGHBOUR: 'it returns false'. Refute it at one input. -/
def fnExactSwapImproveWrong : ChangeSpec := { name := "fnExactSwapImprove", fn := fun _ => fun
  | [d1, d2] => { results := [.lit (.bool false)], args := [d1, d2] }
  | _ => none }
def FnExactSwapImproveWrongFalsely : Prop := fnExactSwapImproveRow.holds Tryz.pinned (OpenSpec.ofChange fnExactSwapImproveWrong)

/-- 'laws.FnExactImproveSchedule': WHATEVER THE INPUT: true; the input reads as it did. -/
def fnExactImproveScheduleSpec : ChangeSpec := { name := "fnExactImproveSchedule", fn := fun _ => fun
  | [d1, d2, d3] => { results := [.lit (.bool true)], args := [d1, d2, d3] }
  | _ => none }
def fnExactImproveScheduleRow : OpenClaim := { program := "ytkiohdpapinecaagreat", sum := "916b7f9e620debdbe4207de05de5227820fdb2b34b35a6a6e9d92c0f80367d12", func := "loop.example/g00806/laws.FnExactImproveSchedule", spec := "fnExactImproveSchedule", unfollowed := true, recurses := true, apart := false }
def FnExactImproveScheduleSaid : Prop := fnExactImproveScheduleRow.holds Tryz.pinned (OpenSpec.ofChange fnExactImproveScheduleSpec)

/-- ITS FALSE NEIGHBOUR: 'it returns false'. Refute it at one input. -/
def fnExactImproveScheduleWrong : ChangeSpec := { name := "fnExactImproveSchedule", fn := fun _ => fun
  | [d1, d2, d3] => { results := [.lit (.bool false)], args := [d1, d2, d3] }
  | _ => none }
def FnExactImproveScheduleWrongFalsely : Prop := fnExactImproveScheduleRow.holds Tryz.pinned (OpenSpec.ofChange fnExactImproveScheduleWrong)

/-- 'laws.FnExactRefuteByRules': WHATEVER THE INPUT: true; the input reads as it did. -/
def fnExactRefuteByRulesSpec : ChangeSpec := { name := "fnExactRefuteByRules", fn := fun _ => fun
  | [d] => { results := [.lit (.bool true)], args := [d] }
  | _ => none }
def fnExactRefuteByRulesRow : OpenClaim := { program := "ytkiohdpapinecaagreat", sum := "916b7f9e620debdbe4207de05de5227820fdb2b34b35a6a6e9d92c0f80367d12", func := "loop.example/g00806/laws.FnExactRefuteByRules", spec := "fnExactRefuteByRules", unfollowed := true, recurses := true, apart := false }
def FnExactRefuteByRulesSaid : Prop := fnExactRefuteByRulesRow.holds Tryz.pinned (OpenSpec.ofChange fnExactRefuteByRulesSpec)

/-- ITS FALSE NEIGHBOUR: 'it returns false'. Refute it at one input. -/
def fnExactRefuteByRulesWrong : ChangeSpec := { name := "fnExactRefuteByRules", fn := fun _ => fun
  | [d] => { results := [.lit (.bool false)], args := [d] }
  | _ => none }
def FnExactRefuteByRulesWrongFalsely : Prop := fnExactRefuteByRulesRow.holds Tryz.pinned (OpenSpec.ofChange fnExactRefuteByRulesWrong)

/-- 'laws.FnExactRaisedBound': WHATEVER THE INPUT: true; the input reads as it did. -/
def fnExactRaisedBoundSpec : ChangeSpec := { name := "fnExactRaisedBound", fn := fun _ => fun
  | [d] => { results := [.lit (.bool true)], args := [d] }
  | _ => none }
def fnExactRaisedBoundRow : OpenClaim := { program := "ytkiohdpapinecaagreat", sum := "916b7f9e620debdbe4207de05de5227820fdb2b34b35a6a6e9d92c0f80367d12", func := "loop.example/g00806/laws.FnExactRaisedBound", spec := "fnExactRaisedBound", unfollowed := true, recurses := true, apart := false }
def FnExactRaisedBoundSaid : Prop := fnExactRaisedBoundRow.holds Tryz.pinned (OpenSpec.ofChange fnExactRaisedBoundSpec)

/-- ITS FALSE NEIGHBOUR: 'it returns false'. Refute it at one input. -/
def fnExactRaisedBoundWrong : ChangeSpec := { name := "fnExactRaisedBound", fn := fun _ => fun
  | [d] => { results := [.lit (.bool false)], args := [d] }
  | _ => none }
def FnExactRaisedBoundWrongFalsely : Prop := fnExactRaisedBoundRow.holds Tryz.pinned (OpenSpec.ofChange fnExactRaisedBoundWrong)

/- THE SECOND FORM. 'bulk': how many values and letters a reading holds, each counted each time it is reached (what is shared counts as often as it is met; a slice's spare places count too). A statement '..UptoSaid' is the law's where the arguments, and the package variables that the reading takes, are together of bulk at most 1048576: NARROWER than '..Said'. Prove '..Said' where nothing that the law and all that it calls make is longer than what came in: it says more and counts as full. Else prove '..UptoSaid'. A law counts once. -/
mutual
def uptoBulk {H : Type} : DataW H → Nat
  | .lit (.string bytes) => bytes.length + 1
  | .lit _ => 1
  | .nil => 1
  | .ptr d => uptoBulk d + 1
  | .slice elems spare => uptoBulkAll elems + uptoBulkAll spare + 1
  | .agg parts => uptoBulkAll parts + 1
  | .iface _ d => uptoBulk d + 1
  | .map entries => uptoBulkEntries entries + 1
  | .held _ => 1
def uptoBulkAll {H : Type} : List (DataW H) → Nat
  | [] => 0
  | d :: r => uptoBulk d + uptoBulkAll r
def uptoBulkEntries {H : Type} : List (Lit × DataW H) → Nat
  | [] => 0
  | x :: r => uptoBulkEntry x + uptoBulkEntries r
def uptoBulkEntry {H : Type} : Lit × DataW H → Nat
  | (.string bytes, d) => bytes.length + uptoBulk d + 1
  | (_, d) => uptoBulk d + 1
 end
def uptoSmall : (H : Type) → List (DataW H) → Bool := fun _ ds => decide (uptoBulkAll ds ≤ 1048576)
def OpenSpec.upto (s : _root_.Go.ChangeSpec) : _root_.Go.OpenSpec := { _root_.Go.OpenSpec.ofChange s with cond := some uptoSmall }

/-- 'laws.FnExactParallelSchedule', WHERE WHAT IT READS IS OF BULK AT MOST 1048576: true; the input reads as it did. -/
def fnExactParallelScheduleUptoRow : OpenClaim := { program := "ytkiohdpapinecaagreat", sum := "916b7f9e620debdbe4207de05de5227820fdb2b34b35a6a6e9d92c0f80367d12", func := "loop.example/g00806/laws.FnExactParallelSchedule", spec := "fnExactParallelSchedule", unfollowed := true, recurses := true, apart := false, narrowed := true }
def FnExactParallelScheduleUptoSaid : Prop := fnExactParallelScheduleUptoRow.holds Tryz.pinned (OpenSpec.upto fnExactParallelScheduleSpec)

/-- 'laws.FnExactSerialSchedule', WHERE WHAT IT READS IS OF BULK AT MOST 1048576: true; the input reads as it did. -/
def fnExactSerialScheduleUptoRow : OpenClaim := { program := "ytkiohdpapinecaagreat", sum := "916b7f9e620debdbe4207de05de5227820fdb2b34b35a6a6e9d92c0f80367d12", func := "loop.example/g00806/laws.FnExactSerialSchedule", spec := "fnExactSerialSchedule", unfollowed := true, recurses := true, apart := false, narrowed := true }
def FnExactSerialScheduleUptoSaid : Prop := fnExactSerialScheduleUptoRow.holds Tryz.pinned (OpenSpec.upto fnExactSerialScheduleSpec)

/-- 'laws.FnExactRepair', WHERE WHAT IT READS IS OF BULK AT MOST 1048576: true; the input reads as it did. -/
def fnExactRepairUptoRow : OpenClaim := { program := "ytkiohdpapinecaagreat", sum := "916b7f9e620debdbe4207de05de5227820fdb2b34b35a6a6e9d92c0f80367d12", func := "loop.example/g00806/laws.FnExactRepair", spec := "fnExactRepair", unfollowed := true, recurses := true, apart := false, narrowed := true }
def FnExactRepairUptoSaid : Prop := fnExactRepairUptoRow.holds Tryz.pinned (OpenSpec.upto fnExactRepairSpec)

/-- 'laws.FnExactSwapImprove', WHERE WHAT IT READS IS OF BULK AT MOST 1048576: true; the input reads as it did. -/
def fnExactSwapImproveUptoRow : OpenClaim := { program := "ytkiohdpapinecaagreat", sum := "916b7f9e620debdbe4207de05de5227820fdb2b34b35a6a6e9d92c0f80367d12", func := "loop.example/g00806/laws.FnExactSwapImprove", spec := "fnExactSwapImprove", unfollowed := true, recurses := true, apart := false, narrowed := true }
def FnExactSwapImproveUptoSaid : Prop := fnExactSwapImproveUptoRow.holds Tryz.pinned (OpenSpec.upto fnExactSwapImproveSpec)

/-- 'laws.FnExactImproveSchedule', WHERE WHAT IT READS IS OF BULK AT MOST 1048576: true; the input reads as it did. -/
def fnExactImproveScheduleUptoRow : OpenClaim := { program := "ytkiohdpapinecaagreat", sum := "916b7f9e620debdbe4207de05de5227820fdb2b34b35a6a6e9d92c0f80367d12", func := "loop.example/g00806/laws.FnExactImproveSchedule", spec := "fnExactImproveSchedule", unfollowed := true, recurses := true, apart := false, narrowed := true }
def FnExactImproveScheduleUptoSaid : Prop := fnExactImproveScheduleUptoRow.holds Tryz.pinned (OpenSpec.upto fnExactImproveScheduleSpec)

/-- 'laws.FnExactRefuteByRules', WHERE WHAT IT READS IS OF BULK AT MOST 1048576: true; the input reads as it did. -/
def fnExactRefuteByRulesUptoRow : OpenClaim := { program := "ytkiohdpapinecaagreat", sum := "916b7f9e620debdbe4207de05de5227820fdb2b34b35a6a6e9d92c0f80367d12", func := "loop.example/g00806/laws.FnExactRefuteByRules", spec := "fnExactRefuteByRules", unfollowed := true, recurses := true, apart := false, narrowed := true }
def FnExactRefuteByRulesUptoSaid : Prop := fnExactRefuteByRulesUptoRow.holds Tryz.pinned (OpenSpec.upto fnExactRefuteByRulesSpec)

/-- 'laws.FnExactRaisedBound', WHERE WHAT IT READS IS OF BULK AT MOST 1048576: true; the input reads as it did. -/
def fnExactRaisedBoundUptoRow : OpenClaim := { program := "ytkiohdpapinecaagreat", sum := "916b7f9e620debdbe4207de05de5227820fdb2b34b35a6a6e9d92c0f80367d12", func := "loop.example/g00806/laws.FnExactRaisedBound", spec := "fnExactRaisedBound", unfollowed := true, recurses := true, apart := false, narrowed := true }
def FnExactRaisedBoundUptoSaid : Prop := fnExactRaisedBoundUptoRow.holds Tryz.pinned (OpenSpec.upto fnExactRaisedBoundSpec)

end Rows
end Go.Proofs.YtkiohdpapinecaaGreat
