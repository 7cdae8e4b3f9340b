/-
  No cell of these rows narrows 'for every input' (looked for: loops, veiled, ifaces, maps, wideKeys, modest, calm, conditions, laid).
  DERIVED. THE GIVEN ROWS OF THIS SEAT. 6 by the template 'for every input the law returns true; each argument reads behind the call as it read before'; 0 by the template 'total and deterministic' (their statements: YtagafgkmeekfoaaGreatTotals.lean).
  GIVEN WITH THE SEED: the statements are not yours to turn. If you find one false, say at which input.
  Laid BY PROGRAM, IN A SANDBOX (cutbox-rows.mjs): the forced cells as the released guide's own fill.sh prints them over the translation f76dde3e1d55299c… (all of the seat's roots in one cut). By AI agents, Wed Nov 11 2026. No macro, syntax, notation, axiom, sorry.
-/
import Derived.Test.YtagafgkmeekfoaaGreatChecked
import GoSem.Claim
import GoSem.ClaimJoined
import GoSem.ClaimMapViews
import Derived.JoinedTies
import Derived.KernelRfl
namespace Go.Proofs.YtagafgkmeekfoaaGreat
/- THE CELL 'sum', in the pinned program and in every row, IS THE sha256 OF THE DUMP (.gsa) THAT YtagafgkmeekfoaaGreatProg.lean LOADS. Nothing in Lean hashes anything: it is a label: what it is worth is what the hold of that sum in a sandbox is worth. -/
noncomputable def Tryz.pinned : Pinned := { name := "ytagafgkmeekfoaagreat", sum := "f76dde3e1d55299c83f3834dcf4cbcac1f3721e68c73e95774e4f1c77ef6b34e", checked := Tryz.checked }
namespace Rows
def none {H : Type} : Left H := { results := [], args := [] }

/-- 'laws.FnExactShortenClause': WHATEVER THE INPUT: true; the input reads as it did. -/
def fnExactShortenClauseSpec : ChangeSpec := { name := "fnExactShortenClause", fn := fun _ => fun
  | [d1, d2, d3, d4] => { results := [.lit (.bool true)], args := [d1, d2, d3, d4] }
  | _ => none }
def fnExactShortenClauseRow : OpenClaim := { program := "ytagafgkmeekfoaagreat", sum := "f76dde3e1d55299c83f3834dcf4cbcac1f3721e68c73e95774e4f1c77ef6b34e", func := "loop.example/g00806/laws.FnExactShortenClause", spec := "fnExactShortenClause", unfollowed := true, recurses := true, apart := false }
def FnExactShortenClauseSaid : Prop := fnExactShortenClauseRow.holds Tryz.pinned (OpenSpec.ofChange fnExactShortenClauseSpec)

/-- ITS FALSE NEIGHBOUR: 'it returns false'. Refute it at one input. -/
def fnExactShortenClauseWrong : ChangeSpec := { name := "fnExactShortenClause", fn := fun _ => fun
  | [d1, d2, d3, d4] => { results := [.lit (.bool false)], args := [d1, d2, d3, d4] }
  | _ => none }
def FnExactShortenClauseWrongFalsely : Prop := fnExactShortenClauseRow.holds Tryz.pinned (OpenSpec.ofChange fnExactShortenClauseWrong)

/-- 'laws.FnExactCheckLine': WHATEVER THE INPUT: true; the input reads as it did. -/
def fnExactCheckLineSpec : ChangeSpec := { name := "fnExactCheckLine", fn := fun _ => fun
  | [d1, d2, d3] => { results := [.lit (.bool true)], args := [d1, d2, d3] }
  | _ => none }
def fnExactCheckLineRow : OpenClaim := { program := "ytagafgkmeekfoaagreat", sum := "f76dde3e1d55299c83f3834dcf4cbcac1f3721e68c73e95774e4f1c77ef6b34e", func := "loop.example/g00806/laws.FnExactCheckLine", spec := "fnExactCheckLine", unfollowed := true, recurses := true, apart := false }
def FnExactCheckLineSaid : Prop := fnExactCheckLineRow.holds Tryz.pinned (OpenSpec.ofChange fnExactCheckLineSpec)

/-- ITS FALSE NEIGHBOUR: 'it returns false'. Refute it at one input. -/
def fnExactCheckLineWrong : ChangeSpec := { name := "fnExactCheckLine", fn := fun _ => fun
  | [d1, d2, d3] => { results := [.lit (.bool false)], args := [d1, d2, d3] }
  | _ => none }
def FnExactCheckLineWrongFalsely : Prop := fnExactCheckLineRow.holds Tryz.pinned (OpenSpec.ofChange fnExactCheckLineWrong)

/-- 'laws.FnExactCheckAll': WHATEVER THE INPUT: true; the input reads as it did. -/
def fnExactCheckAllSpec : ChangeSpec := { name := "fnExactCheckAll", fn := fun _ => fun
  | [d1, d2] => { results := [.lit (.bool true)], args := [d1, d2] }
  | _ => none }
def fnExactCheckAllRow : OpenClaim := { program := "ytagafgkmeekfoaagreat", sum := "f76dde3e1d55299c83f3834dcf4cbcac1f3721e68c73e95774e4f1c77ef6b34e", func := "loop.example/g00806/laws.FnExactCheckAll", spec := "fnExactCheckAll", unfollowed := true, recurses := true, apart := false }
def FnExactCheckAllSaid : Prop := fnExactCheckAllRow.holds Tryz.pinned (OpenSpec.ofChange fnExactCheckAllSpec)

/-- ITS FALSE NEIGHBOUR: 'it returns false'. Refute it at one input. -/
def fnExactCheckAllWrong : ChangeSpec := { name := "fnExactCheckAll", fn := fun _ => fun
  | [d1, d2] => { results := [.lit (.bool false)], args := [d1, d2] }
  | _ => none }
def FnExactCheckAllWrongFalsely : Prop := fnExactCheckAllRow.holds Tryz.pinned (OpenSpec.ofChange fnExactCheckAllWrong)

/-- 'laws.FnExactProvesInfeasible': WHATEVER THE INPUT: true; the input reads as it did. -/
def fnExactProvesInfeasibleSpec : ChangeSpec := { name := "fnExactProvesInfeasible", fn := fun _ => fun
  | [d1, d2] => { results := [.lit (.bool true)], args := [d1, d2] }
  | _ => none }
def fnExactProvesInfeasibleRow : OpenClaim := { program := "ytagafgkmeekfoaagreat", sum := "f76dde3e1d55299c83f3834dcf4cbcac1f3721e68c73e95774e4f1c77ef6b34e", func := "loop.example/g00806/laws.FnExactProvesInfeasible", spec := "fnExactProvesInfeasible", unfollowed := true, recurses := true, apart := false }
def FnExactProvesInfeasibleSaid : Prop := fnExactProvesInfeasibleRow.holds Tryz.pinned (OpenSpec.ofChange fnExactProvesInfeasibleSpec)

/-- ITS FALSE NEIGHBOUR: 'it returns false'. Refute it at one input. -/
def fnExactProvesInfeasibleWrong : ChangeSpec := { name := "fnExactProvesInfeasible", fn := fun _ => fun
  | [d1, d2] => { results := [.lit (.bool false)], args := [d1, d2] }
  | _ => none }
def FnExactProvesInfeasibleWrongFalsely : Prop := fnExactProvesInfeasibleRow.holds Tryz.pinned (OpenSpec.ofChange fnExactProvesInfeasibleWrong)

/-- 'laws.FnExactProvesLiteral': WHATEVER THE INPUT: true; the input reads as it did. -/
def fnExactProvesLiteralSpec : ChangeSpec := { name := "fnExactProvesLiteral", fn := fun _ => fun
  | [d1, d2, d3] => { results := [.lit (.bool true)], args := [d1, d2, d3] }
  | _ => none }
def fnExactProvesLiteralRow : OpenClaim := { program := "ytagafgkmeekfoaagreat", sum := "f76dde3e1d55299c83f3834dcf4cbcac1f3721e68c73e95774e4f1c77ef6b34e", func := "loop.example/g00806/laws.FnExactProvesLiteral", spec := "fnExactProvesLiteral", unfollowed := true, recurses := true, apart := false }
def FnExactProvesLiteralSaid : Prop := fnExactProvesLiteralRow.holds Tryz.pinned (OpenSpec.ofChange fnExactProvesLiteralSpec)

/-- ITS FALSE NEIGHBOUR: 'it returns false'. Refute it at one input. -/
def fnExactProvesLiteralWrong : ChangeSpec := { name := "fnExactProvesLiteral", fn := fun _ => fun
  | [d1, d2, d3] => { results := [.lit (.bool false)], args := [d1, d2, d3] }
  | _ => none }
def FnExactProvesLiteralWrongFalsely : Prop := fnExactProvesLiteralRow.holds Tryz.pinned (OpenSpec.ofChange fnExactProvesLiteralWrong)

/-- 'laws.FnExactLogOk': WHATEVER THE INPUT: true; the input reads as it did. -/
def fnExactLogOkSpec : ChangeSpec := { name := "fnExactLogOk", fn := fun _ => fun
  | [d] => { results := [.lit (.bool true)], args := [d] }
  | _ => none }
def fnExactLogOkRow : OpenClaim := { program := "ytagafgkmeekfoaagreat", sum := "f76dde3e1d55299c83f3834dcf4cbcac1f3721e68c73e95774e4f1c77ef6b34e", func := "loop.example/g00806/laws.FnExactLogOk", spec := "fnExactLogOk", unfollowed := true, recurses := true, apart := false }
def FnExactLogOkSaid : Prop := fnExactLogOkRow.holds Tryz.pinned (OpenSpec.ofChange fnExactLogOkSpec)

/-- ITS FALSE NEIGHBOUR: 'it returns false'. Refute it at one input. -/
def fnExactLogOkWrong : ChangeSpec := { name := "fnExactLogOk", fn := fun _ => fun
  | [d] => { results := [.lit (.bool false)], args := [d] }
  | _ => none }
def FnExactLogOkWrongFalsely : Prop := fnExactLogOkRow.holds Tryz.pinned (OpenSpec.ofChange fnExactLogOkWrong)

/- THE SECOND FORM. 'bulk': how many values and letters a reading holds, each counted each time it is reached (what is shared counts as often as it is met; a slice's spare places count too). A statement '..UptoSaid' is the law's where the arguments, and the package variables that the reading takes, are together of bulk at most 1048576: NARROWER than '..Said'. Prove '..Said' where nothing that the law and all that it calls make is longer than what came in: it says more and counts as full. Else prove '..UptoSaid'. A law counts once. -/
mutual
def uptoBulk {H : Type} : DataW H → Nat
  | .lit (.string bytes) => bytes.length + 1
  | .lit _ => 1
  | .nil => 1
  | .ptr d => uptoBulk d + 1
  | .slice elems spare => uptoBulkAll elems + uptoBulkAll spare + 1
  | .agg parts => uptoBulkAll parts + 1
  | .iface _ d => uptoBulk d + 1
  | .map entries => uptoBulkEntries entries + 1
  | .held _ => 1
def uptoBulkAll {H : Type} : List (DataW H) → Nat
  | [] => 0
  | d :: r => uptoBulk d + uptoBulkAll r
def uptoBulkEntries {H : Type} : List (Lit × DataW H) → Nat
  | [] => 0
  | x :: r => uptoBulkEntry x + uptoBulkEntries r
def uptoBulkEntry {H : Type} : Lit × DataW H → Nat
  | (.string bytes, d) => bytes.length + uptoBulk d + 1
  | (_, d) => uptoBulk d + 1
 end
def uptoSmall : (H : Type) → List (DataW H) → Bool := fun _ ds => decide (uptoBulkAll ds ≤ 1048576)
def OpenSpec.upto (s : _root_.Go.ChangeSpec) : _root_.Go.OpenSpec := { _root_.Go.OpenSpec.ofChange s with cond := some uptoSmall }

/-- 'laws.FnExactShortenClause', WHERE WHAT IT READS IS OF BULK AT MOST 1048576: true; the input reads as it did. -/
def fnExactShortenClauseUptoRow : OpenClaim := { program := "ytagafgkmeekfoaagreat", sum := "f76dde3e1d55299c83f3834dcf4cbcac1f3721e68c73e95774e4f1c77ef6b34e", func := "loop.example/g00806/laws.FnExactShortenClause", spec := "fnExactShortenClause", unfollowed := true, recurses := true, apart := false, narrowed := true }
def FnExactShortenClauseUptoSaid : Prop := fnExactShortenClauseUptoRow.holds Tryz.pinned (OpenSpec.upto fnExactShortenClauseSpec)

/-- 'laws.FnExactCheckLine', WHERE WHAT IT READS IS OF BULK AT MOST 1048576: true; the input reads as it did. -/
def fnExactCheckLineUptoRow : OpenClaim := { program := "ytagafgkmeekfoaagreat", sum := "f76dde3e1d55299c83f3834dcf4cbcac1f3721e68c73e95774e4f1c77ef6b34e", func := "loop.example/g00806/laws.FnExactCheckLine", spec := "fnExactCheckLine", unfollowed := true, recurses := true, apart := false, narrowed := true }
def FnExactCheckLineUptoSaid : Prop := fnExactCheckLineUptoRow.holds Tryz.pinned (OpenSpec.upto fnExactCheckLineSpec)

/-- 'laws.FnExactCheckAll', WHERE WHAT IT READS IS OF BULK AT MOST 1048576: true; the input reads as it did. -/
def fnExactCheckAllUptoRow : OpenClaim := { program := "ytagafgkmeekfoaagreat", sum := "f76dde3e1d55299c83f3834dcf4cbcac1f3721e68c73e95774e4f1c77ef6b34e", func := "loop.example/g00806/laws.FnExactCheckAll", spec := "fnExactCheckAll", unfollowed := true, recurses := true, apart := false, narrowed := true }
def FnExactCheckAllUptoSaid : Prop := fnExactCheckAllUptoRow.holds Tryz.pinned (OpenSpec.upto fnExactCheckAllSpec)

/-- 'laws.FnExactProvesInfeasible', WHERE WHAT IT READS IS OF BULK AT MOST 1048576: true; the input reads as it did. -/
def fnExactProvesInfeasibleUptoRow : OpenClaim := { program := "ytagafgkmeekfoaagreat", sum := "f76dde3e1d55299c83f3834dcf4cbcac1f3721e68c73e95774e4f1c77ef6b34e", func := "loop.example/g00806/laws.FnExactProvesInfeasible", spec := "fnExactProvesInfeasible", unfollowed := true, recurses := true, apart := false, narrowed := true }
def FnExactProvesInfeasibleUptoSaid : Prop := fnExactProvesInfeasibleUptoRow.holds Tryz.pinned (OpenSpec.upto fnExactProvesInfeasibleSpec)

/-- 'laws.FnExactProvesLiteral', WHERE WHAT IT READS IS OF BULK AT MOST 1048576: true; the input reads as it did. -/
def fnExactProvesLiteralUptoRow : OpenClaim := { program := "ytagafgkmeekfoaagreat", sum := "f76dde3e1d55299c83f3834dcf4cbcac1f3721e68c73e95774e4f1c77ef6b34e", func := "loop.example/g00806/laws.FnExactProvesLiteral", spec := "fnExactProvesLiteral", unfollowed := true, recurses := true, apart := false, narrowed := true }
def FnExactProvesLiteralUptoSaid : Prop := fnExactProvesLiteralUptoRow.holds Tryz.pinned (OpenSpec.upto fnExactProvesLiteralSpec)

/-- 'laws.FnExactLogOk', WHERE WHAT IT READS IS OF BULK AT MOST 1048576: true; the input reads as it did. -/
def fnExactLogOkUptoRow : OpenClaim := { program := "ytagafgkmeekfoaagreat", sum := "f76dde3e1d55299c83f3834dcf4cbcac1f3721e68c73e95774e4f1c77ef6b34e", func := "loop.example/g00806/laws.FnExactLogOk", spec := "fnExactLogOk", unfollowed := true, recurses := true, apart := false, narrowed := true }
def FnExactLogOkUptoSaid : Prop := fnExactLogOkUptoRow.holds Tryz.pinned (OpenSpec.upto fnExactLogOkSpec)

end Rows
end Go.Proofs.YtagafgkmeekfoaaGreat
