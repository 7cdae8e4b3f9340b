/-
  No cell of these rows narrows 'for every input' (looked for: loops, veiled, ifaces, maps, wideKeys, modest, calm, conditions, laid).
  DERIVED. THE GIVEN ROWS OF THIS SEAT. 4 by the template 'for every input the law returns true; each argument reads behind the call as it read before'; 0 by the template 'total and deterministic' (their statements: YtglikcnmgnlejaaGreatTotals.lean).
  GIVEN WITH THE SEED: the statements are not yours to turn. If you find one false, say at which input.
  Laid BY PROGRAM, IN A SANDBOX (cutbox-rows.mjs): the forced cells as the released guide's own fill.sh prints them over the translation 05406d578c54396c… (all of the seat's roots in one cut). By AI agents, Wed Nov 11 2026. No macro, syntax, notation, axiom, sorry.
-/
import Derived.Test.YtglikcnmgnlejaaGreatChecked
import GoSem.Claim
import GoSem.ClaimJoined
import GoSem.ClaimMapViews
import Derived.JoinedTies
import Derived.KernelRfl
namespace Go.Proofs.YtglikcnmgnlejaaGreat
/- THE CELL 'sum', in the pinned program and in every row, IS THE sha256 OF THE DUMP (.gsa) THAT YtglikcnmgnlejaaGreatProg.lean LOADS. Nothing in Lean hashes anything: it is a label: what it is worth is what the hold of that sum in a sandbox is worth. -/
noncomputable def Tryz.pinned : Pinned := { name := "ytglikcnmgnlejaagreat", sum := "05406d578c54396c81cb02cac2f518cc905e353f961762badea16b1671a60b90", checked := Tryz.checked }
namespace Rows
def none {H : Type} : Left H := { results := [], args := [] }

/-- 'laws.FnExactRepair': WHATEVER THE INPUT: true; the input reads as it did. -/
def fnExactRepairSpec : ChangeSpec := { name := "fnExactRepair", fn := fun _ => fun
  | [d1, d2, d3] => { results := [.lit (.bool true)], args := [d1, d2, d3] }
  | _ => none }
def fnExactRepairRow : OpenClaim := { program := "ytglikcnmgnlejaagreat", sum := "05406d578c54396c81cb02cac2f518cc905e353f961762badea16b1671a60b90", func := "loop.example/g00806/laws.FnExactRepair", spec := "fnExactRepair", unfollowed := true, recurses := true, apart := false }
def FnExactRepairSaid : Prop := fnExactRepairRow.holds Tryz.pinned (OpenSpec.ofChange fnExactRepairSpec)

/-- ITS FALSE NEIGHBOUR: 'it returns false'. Refute it at one input. -/
def fnExactRepairWrong : ChangeSpec := { name := "fnExactRepair", fn := fun _ => fun
  | [d1, d2, d3] => { results := [.lit (.bool false)], args := [d1, d2, d3] }
  | _ => none }
def FnExactRepairWrongFalsely : Prop := fnExactRepairRow.holds Tryz.pinned (OpenSpec.ofChange fnExactRepairWrong)

/-- 'laws.FnExactInitialSchedule': WHATEVER THE INPUT: true; the input reads as it did. -/
def fnExactInitialScheduleSpec : ChangeSpec := { name := "fnExactInitialSchedule", fn := fun _ => fun
  | [d] => { results := [.lit (.bool true)], args := [d] }
  | _ => none }
def fnExactInitialScheduleRow : OpenClaim := { program := "ytglikcnmgnlejaagreat", sum := "05406d578c54396c81cb02cac2f518cc905e353f961762badea16b1671a60b90", func := "loop.example/g00806/laws.FnExactInitialSchedule", spec := "fnExactInitialSchedule", unfollowed := true, recurses := true, apart := false }
def FnExactInitialScheduleSaid : Prop := fnExactInitialScheduleRow.holds Tryz.pinned (OpenSpec.ofChange fnExactInitialScheduleSpec)

/-- ITS FALSE NEIGHBOUR: 'it returns false'. Refute it at one input. -/
def fnExactInitialScheduleWrong : ChangeSpec := { name := "fnExactInitialSchedule", fn := fun _ => fun
  | [d] => { results := [.lit (.bool false)], args := [d] }
  | _ => none }
def FnExactInitialScheduleWrongFalsely : Prop := fnExactInitialScheduleRow.holds Tryz.pinned (OpenSpec.ofChange fnExactInitialScheduleWrong)

/-- 'laws.FnExactHeuristicSchedule': WHATEVER THE INPUT: true; the input reads as it did. -/
def fnExactHeuristicScheduleSpec : ChangeSpec := { name := "fnExactHeuristicSchedule", fn := fun _ => fun
  | [d] => { results := [.lit (.bool true)], args := [d] }
  | _ => none }
def fnExactHeuristicScheduleRow : OpenClaim := { program := "ytglikcnmgnlejaagreat", sum := "05406d578c54396c81cb02cac2f518cc905e353f961762badea16b1671a60b90", func := "loop.example/g00806/laws.FnExactHeuristicSchedule", spec := "fnExactHeuristicSchedule", unfollowed := true, recurses := true, apart := false }
def FnExactHeuristicScheduleSaid : Prop := fnExactHeuristicScheduleRow.holds Tryz.pinned (OpenSpec.ofChange fnExactHeuristicScheduleSpec)

/-- ITS FALSE NEIGHBOUR: 'it returns false'. Refute it at one input. -/
def fnExactHeuristicScheduleWrong : ChangeSpec := { name := "fnExactHeuristicSchedule", fn := fun _ => fun
  | [d] => { results := [.lit (.bool false)], args := [d] }
  | _ => none }
def FnExactHeuristicScheduleWrongFalsely : Prop := fnExactHeuristicScheduleRow.holds Tryz.pinned (OpenSpec.ofChange fnExactHeuristicScheduleWrong)

/-- 'laws.FnExactLogPropagate': WHATEVER THE INPUT: true; the input reads as it did. -/
def fnExactLogPropagateSpec : ChangeSpec := { name := "fnExactLogPropagate", fn := fun _ => fun
  | [d1, d2] => { results := [.lit (.bool true)], args := [d1, d2] }
  | _ => none }
def fnExactLogPropagateRow : OpenClaim := { program := "ytglikcnmgnlejaagreat", sum := "05406d578c54396c81cb02cac2f518cc905e353f961762badea16b1671a60b90", func := "loop.example/g00806/laws.FnExactLogPropagate", spec := "fnExactLogPropagate", unfollowed := true, recurses := true, apart := false }
def FnExactLogPropagateSaid : Prop := fnExactLogPropagateRow.holds Tryz.pinned (OpenSpec.ofChange fnExactLogPropagateSpec)

/-- ITS FALSE NEIGHBOUR: 'it returns false'. Refute it at one input. -/
def fnExactLogPropagateWrong : ChangeSpec := { name := "fnExactLogPropagate", fn := fun _ => fun
  | [d1, d2] => { results := [.lit (.bool false)], args := [d1, d2] }
  | _ => none }
def FnExactLogPropagateWrongFalsely : Prop := fnExactLogPropagateRow.holds Tryz.pinned (OpenSpec.ofChange fnExactLogPropagateWrong)

/- THE SECOND FORM. 'bulk': how many values and letters a reading holds, each counted each time it is reached (what is shared counts as often as it is met; a slice's spare places count too). A statement '..UptoSaid' is the law's where the arguments, and the package variables that the reading takes, are together of bulk at most 1048576: NARROWER than '..Said'. Prove '..Said' where nothing that the law and all that it calls make is longer than what came in: it says more and counts as full. Else prove '..UptoSaid'. A law counts once. -/
mutual
def uptoBulk {H : Type} : DataW H → Nat
  | .lit (.string bytes) => bytes.length + 1
  | .lit _ => 1
  | .nil => 1
  | .ptr d => uptoBulk d + 1
  | .slice elems spare => uptoBulkAll elems + uptoBulkAll spare + 1
  | .agg parts => uptoBulkAll parts + 1
  | .iface _ d => uptoBulk d + 1
  | .map entries => uptoBulkEntries entries + 1
  | .held _ => 1
def uptoBulkAll {H : Type} : List (DataW H) → Nat
  | [] => 0
  | d :: r => uptoBulk d + uptoBulkAll r
def uptoBulkEntries {H : Type} : List (Lit × DataW H) → Nat
  | [] => 0
  | x :: r => uptoBulkEntry x + uptoBulkEntries r
def uptoBulkEntry {H : Type} : Lit × DataW H → Nat
  | (.string bytes, d) => bytes.length + uptoBulk d + 1
  | (_, d) => uptoBulk d + 1
 end
def uptoSmall : (H : Type) → List (DataW H) → Bool := fun _ ds => decide (uptoBulkAll ds ≤ 1048576)
def OpenSpec.upto (s : _root_.Go.ChangeSpec) : _root_.Go.OpenSpec := { _root_.Go.OpenSpec.ofChange s with cond := some uptoSmall }

/-- 'laws.FnExactRepair', WHERE WHAT IT READS IS OF BULK AT MOST 1048576: true; the input reads as it did. -/
def fnExactRepairUptoRow : OpenClaim := { program := "ytglikcnmgnlejaagreat", sum := "05406d578c54396c81cb02cac2f518cc905e353f961762badea16b1671a60b90", func := "loop.example/g00806/laws.FnExactRepair", spec := "fnExactRepair", unfollowed := true, recurses := true, apart := false, narrowed := true }
def FnExactRepairUptoSaid : Prop := fnExactRepairUptoRow.holds Tryz.pinned (OpenSpec.upto fnExactRepairSpec)

/-- 'laws.FnExactInitialSchedule', WHERE WHAT IT READS IS OF BULK AT MOST 1048576: true; the input reads as it did. -/
def fnExactInitialScheduleUptoRow : OpenClaim := { program := "ytglikcnmgnlejaagreat", sum := "05406d578c54396c81cb02cac2f518cc905e353f961762badea16b1671a60b90", func := "loop.example/g00806/laws.FnExactInitialSchedule", spec := "fnExactInitialSchedule", unfollowed := true, recurses := true, apart := false, narrowed := true }
def FnExactInitialScheduleUptoSaid : Prop := fnExactInitialScheduleUptoRow.holds Tryz.pinned (OpenSpec.upto fnExactInitialScheduleSpec)

/-- 'laws.FnExactHeuristicSchedule', WHERE WHAT IT READS IS OF BULK AT MOST 1048576: true; the input reads as it did. -/
def fnExactHeuristicScheduleUptoRow : OpenClaim := { program := "ytglikcnmgnlejaagreat", sum := "05406d578c54396c81cb02cac2f518cc905e353f961762badea16b1671a60b90", func := "loop.example/g00806/laws.FnExactHeuristicSchedule", spec := "fnExactHeuristicSchedule", unfollowed := true, recurses := true, apart := false, narrowed := true }
def FnExactHeuristicScheduleUptoSaid : Prop := fnExactHeuristicScheduleUptoRow.holds Tryz.pinned (OpenSpec.upto fnExactHeuristicScheduleSpec)

/-- 'laws.FnExactLogPropagate', WHERE WHAT IT READS IS OF BULK AT MOST 1048576: true; the input reads as it did. -/
def fnExactLogPropagateUptoRow : OpenClaim := { program := "ytglikcnmgnlejaagreat", sum := "05406d578c54396c81cb02cac2f518cc905e353f961762badea16b1671a60b90", func := "loop.example/g00806/laws.FnExactLogPropagate", spec := "fnExactLogPropagate", unfollowed := true, recurses := true, apart := false, narrowed := true }
def FnExactLogPropagateUptoSaid : Prop := fnExactLogPropagateUptoRow.holds Tryz.pinned (OpenSpec.upto fnExactLogPropagateSpec)

end Rows
end Go.Proofs.YtglikcnmgnlejaaGreat
