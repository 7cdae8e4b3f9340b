/-
  No cell of these rows narrows 'for every input' (looked for: loops, veiled, ifaces, maps, wideKeys, modest, calm, conditions, laid).
  DERIVED. THE GIVEN ROWS OF THIS SEAT. 6 by the template 'for every input the law returns true; each argument reads behind the call as it read before'; 0 by the template 'total and deterministic' (their statements: YtepogmnolnlpmaaGreatTotals.lean).
  GIVEN WITH THE SEED: the statements are not yours to turn. If you find one false, say at which input.
  Laid BY PROGRAM, IN A SANDBOX (cutbox-rows.mjs): the forced cells as the released guide's own fill.sh prints them over the translation d23bf7619cf5826c… (all of the seat's roots in one cut). By AI agents, Wed Nov 11 2026. No macro, syntax, notation, axiom, sorry.
-/
import Derived.Test.YtepogmnolnlpmaaGreatChecked
import GoSem.Claim
import GoSem.ClaimJoined
import GoSem.ClaimMapViews
import Derived.JoinedTies
import Derived.KernelRfl
namespace Go.Proofs.YtepogmnolnlpmaaGreat
/- THE CELL 'sum', in the pinned program and in every row, IS THE sha256 OF THE DUMP (.gsa) THAT YtepogmnolnlpmaaGreatProg.lean LOADS. Nothing in Lean hashes anything: it is a label: what it is worth is what the hold of that sum in a sandbox is worth. -/
noncomputable def Tryz.pinned : Pinned := { name := "ytepogmnolnlpmaagreat", sum := "d23bf7619cf5826c8714aeff8d608791146804d0e54c0ed0199fc65af3cc6173", checked := Tryz.checked }
namespace Rows
def none {H : Type} : Left H := { results := [], args := [] }

/-- 'laws.FnExactShortenClause': WHATEVER THE INPUT: true; the input reads as it did. -/
def fnExactShortenClauseSpec : ChangeSpec := { name := "fnExactShortenClause", fn := fun _ => fun
  | [d1, d2, d3, d4] => { results := [.lit (.bool true)], args := [d1, d2, d3, d4] }
  | _ => none }
def fnExactShortenClauseRow : OpenClaim := { program := "ytepogmnolnlpmaagreat", sum := "d23bf7619cf5826c8714aeff8d608791146804d0e54c0ed0199fc65af3cc6173", func := "loop.example/g00806/laws.FnExactShortenClause", spec := "fnExactShortenClause", unfollowed := true, recurses := true, apart := false }
def FnExactShortenClauseSaid : Prop := fnExactShortenClauseRow.holds Tryz.pinned (OpenSpec.ofChange fnExactShortenClauseSpec)

/-- ITS FALSE NEIGHBOUR: 'it returns false'. Refute it at one input. -/
def fnExactShortenClauseWrong : ChangeSpec := { name := "fnExactShortenClause", fn := fun _ => fun
  | [d1, d2, d3, d4] => { results := [.lit (.bool false)], args := [d1, d2, d3, d4] }
  | _ => none }
def FnExactShortenClauseWrongFalsely : Prop := fnExactShortenClauseRow.holds Tryz.pinned (OpenSpec.ofChange fnExactShortenClauseWrong)

/-- 'laws.FnExactTrimProof': WHATEVER THE INPUT: true; the input reads as it did. -/
def fnExactTrimProofSpec : ChangeSpec := { name := "fnExactTrimProof", fn := fun _ => fun
  | [d1, d2] => { results := [.lit (.bool true)], args := [d1, d2] }
  | _ => none }
def fnExactTrimProofRow : OpenClaim := { program := "ytepogmnolnlpmaagreat", sum := "d23bf7619cf5826c8714aeff8d608791146804d0e54c0ed0199fc65af3cc6173", func := "loop.example/g00806/laws.FnExactTrimProof", spec := "fnExactTrimProof", unfollowed := true, recurses := true, apart := false }
def FnExactTrimProofSaid : Prop := fnExactTrimProofRow.holds Tryz.pinned (OpenSpec.ofChange fnExactTrimProofSpec)

/-- ITS FALSE NEIGHBOUR: 'it returns false'. Refute it at one input. -/
def fnExactTrimProofWrong : ChangeSpec := { name := "fnExactTrimProof", fn := fun _ => fun
  | [d1, d2] => { results := [.lit (.bool false)], args := [d1, d2] }
  | _ => none }
def FnExactTrimProofWrongFalsely : Prop := fnExactTrimProofRow.holds Tryz.pinned (OpenSpec.ofChange fnExactTrimProofWrong)

/-- 'laws.FnExactInfer': WHATEVER THE INPUT: true; the input reads as it did. -/
def fnExactInferSpec : ChangeSpec := { name := "fnExactInfer", fn := fun _ => fun
  | [d1, d2, d3] => { results := [.lit (.bool true)], args := [d1, d2, d3] }
  | _ => none }
def fnExactInferRow : OpenClaim := { program := "ytepogmnolnlpmaagreat", sum := "d23bf7619cf5826c8714aeff8d608791146804d0e54c0ed0199fc65af3cc6173", func := "loop.example/g00806/laws.FnExactInfer", spec := "fnExactInfer", unfollowed := true, recurses := true, apart := false }
def FnExactInferSaid : Prop := fnExactInferRow.holds Tryz.pinned (OpenSpec.ofChange fnExactInferSpec)

/-- ITS FALSE NEIGHBOUR: 'it returns false'. Refute it at one input. -/
def fnExactInferWrong : ChangeSpec := { name := "fnExactInfer", fn := fun _ => fun
  | [d1, d2, d3] => { results := [.lit (.bool false)], args := [d1, d2, d3] }
  | _ => none }
def FnExactInferWrongFalsely : Prop := fnExactInferRow.holds Tryz.pinned (OpenSpec.ofChange fnExactInferWrong)

/-- 'laws.FnExactPropagate': WHATEVER THE INPUT: true; the input reads as it did. -/
def fnExactPropagateSpec : ChangeSpec := { name := "fnExactPropagate", fn := fun _ => fun
  | [d1, d2, d3] => { results := [.lit (.bool true)], args := [d1, d2, d3] }
  | _ => none }
def fnExactPropagateRow : OpenClaim := { program := "ytepogmnolnlpmaagreat", sum := "d23bf7619cf5826c8714aeff8d608791146804d0e54c0ed0199fc65af3cc6173", func := "loop.example/g00806/laws.FnExactPropagate", spec := "fnExactPropagate", unfollowed := true, recurses := true, apart := false }
def FnExactPropagateSaid : Prop := fnExactPropagateRow.holds Tryz.pinned (OpenSpec.ofChange fnExactPropagateSpec)

/-- ITS FALSE NEIGHBOUR: 'it returns false'. Refute it at one input. -/
def fnExactPropagateWrong : ChangeSpec := { name := "fnExactPropagate", fn := fun _ => fun
  | [d1, d2, d3] => { results := [.lit (.bool false)], args := [d1, d2, d3] }
  | _ => none }
def FnExactPropagateWrongFalsely : Prop := fnExactPropagateRow.holds Tryz.pinned (OpenSpec.ofChange fnExactPropagateWrong)

/-- 'laws.FnExactRefuteByRules': WHATEVER THE INPUT: true; the input reads as it did. -/
def fnExactRefuteByRulesSpec : ChangeSpec := { name := "fnExactRefuteByRules", fn := fun _ => fun
  | [d] => { results := [.lit (.bool true)], args := [d] }
  | _ => none }
def fnExactRefuteByRulesRow : OpenClaim := { program := "ytepogmnolnlpmaagreat", sum := "d23bf7619cf5826c8714aeff8d608791146804d0e54c0ed0199fc65af3cc6173", func := "loop.example/g00806/laws.FnExactRefuteByRules", spec := "fnExactRefuteByRules", unfollowed := true, recurses := true, apart := false }
def FnExactRefuteByRulesSaid : Prop := fnExactRefuteByRulesRow.holds Tryz.pinned (OpenSpec.ofChange fnExactRefuteByRulesSpec)

/-- ITS FALSE NEIGHBOUR: 'it returns false'. Refute it at one input. -/
def fnExactRefuteByRulesWrong : ChangeSpec := { name := "fnExactRefuteByRules", fn := fun _ => fun
  | [d] => { results := [.lit (.bool false)], args := [d] }
  | _ => none }
def FnExactRefuteByRulesWrongFalsely : Prop := fnExactRefuteByRulesRow.holds Tryz.pinned (OpenSpec.ofChange fnExactRefuteByRulesWrong)

/-- 'laws.FnExactRaisedBound': WHATEVER THE INPUT: true; the input reads as it did. -/
def fnExactRaisedBoundSpec : ChangeSpec := { name := "fnExactRaisedBound", fn := fun _ => fun
  | [d] => { results := [.lit (.bool true)], args := [d] }
  | _ => none }
def fnExactRaisedBoundRow : OpenClaim := { program := "ytepogmnolnlpmaagreat", sum := "d23bf7619cf5826c8714aeff8d608791146804d0e54c0ed0199fc65af3cc6173", func := "loop.example/g00806/laws.FnExactRaisedBound", spec := "fnExactRaisedBound", unfollowed := true, recurses := true, apart := false }
def FnExactRaisedBoundSaid : Prop := fnExactRaisedBoundRow.holds Tryz.pinned (OpenSpec.ofChange fnExactRaisedBoundSpec)

/-- ITS FALSE NEIGHBOUR: 'it returns false'. Refute it at one input. -/
def fnExactRaisedBoundWrong : ChangeSpec := { name := "fnExactRaisedBound", fn := fun _ => fun
  | [d] => { results := [.lit (.bool false)], args := [d] }
  | _ => none }
def FnExactRaisedBoundWrongFalsely : Prop := fnExactRaisedBoundRow.holds Tryz.pinned (OpenSpec.ofChange fnExactRaisedBoundWrong)

/- THE SECOND FORM. 'bulk': how many values and letters a reading holds, each counted each time it is reached (what is shared counts as often as it is met; a slice's spare places count too). A statement '..UptoSaid' is the law's where the arguments, and the package variables that the reading takes, are together of bulk at most 1048576: NARROWER than '..Said'. Prove '..Said' where nothing that the law and all that it calls make is longer than what came in: it says more and counts as full. Else prove '..UptoSaid'. A law counts once. -/
mutual
def uptoBulk {H : Type} : DataW H → Nat
  | .lit (.string bytes) => bytes.length + 1
  | .lit _ => 1
  | .nil => 1
  | .ptr d => uptoBulk d + 1
  | .slice elems spare => uptoBulkAll elems + uptoBulkAll spare + 1
  | .agg parts => uptoBulkAll parts + 1
  | .iface _ d => uptoBulk d + 1
  | .map entries => uptoBulkEntries entries + 1
  | .held _ => 1
def uptoBulkAll {H : Type} : List (DataW H) → Nat
  | [] => 0
  | d :: r => uptoBulk d + uptoBulkAll r
def uptoBulkEntries {H : Type} : List (Lit × DataW H) → Nat
  | [] => 0
  | x :: r => uptoBulkEntry x + uptoBulkEntries r
def uptoBulkEntry {H : Type} : Lit × DataW H → Nat
  | (.string bytes, d) => bytes.length + uptoBulk d + 1
  | (_, d) => uptoBulk d + 1
 end
def uptoSmall : (H : Type) → List (DataW H) → Bool := fun _ ds => decide (uptoBulkAll ds ≤ 1048576)
def OpenSpec.upto (s : _root_.Go.ChangeSpec) : _root_.Go.OpenSpec := { _root_.Go.OpenSpec.ofChange s with cond := some uptoSmall }

/-- 'laws.FnExactShortenClause', WHERE WHAT IT READS IS OF BULK AT MOST 1048576: true; the input reads as it did. -/
def fnExactShortenClauseUptoRow : OpenClaim := { program := "ytepogmnolnlpmaagreat", sum := "d23bf7619cf5826c8714aeff8d608791146804d0e54c0ed0199fc65af3cc6173", func := "loop.example/g00806/laws.FnExactShortenClause", spec := "fnExactShortenClause", unfollowed := true, recurses := true, apart := false, narrowed := true }
def FnExactShortenClauseUptoSaid : Prop := fnExactShortenClauseUptoRow.holds Tryz.pinned (OpenSpec.upto fnExactShortenClauseSpec)

/-- 'laws.FnExactTrimProof', WHERE WHAT IT READS IS OF BULK AT MOST 1048576: true; the input reads as it did. -/
def fnExactTrimProofUptoRow : OpenClaim := { program := "ytepogmnolnlpmaagreat", sum := "d23bf7619cf5826c8714aeff8d608791146804d0e54c0ed0199fc65af3cc6173", func := "loop.example/g00806/laws.FnExactTrimProof", spec := "fnExactTrimProof", unfollowed := true, recurses := true, apart := false, narrowed := true }
def FnExactTrimProofUptoSaid : Prop := fnExactTrimProofUptoRow.holds Tryz.pinned (OpenSpec.upto fnExactTrimProofSpec)

/-- 'laws.FnExactInfer', WHERE WHAT IT READS IS OF BULK AT MOST 1048576: true; the input reads as it did. -/
def fnExactInferUptoRow : OpenClaim := { program := "ytepogmnolnlpmaagreat", sum := "d23bf7619cf5826c8714aeff8d608791146804d0e54c0ed0199fc65af3cc6173", func := "loop.example/g00806/laws.FnExactInfer", spec := "fnExactInfer", unfollowed := true, recurses := true, apart := false, narrowed := true }
def FnExactInferUptoSaid : Prop := fnExactInferUptoRow.holds Tryz.pinned (OpenSpec.upto fnExactInferSpec)

/-- 'laws.FnExactPropagate', WHERE WHAT IT READS IS OF BULK AT MOST 1048576: true; the input reads as it did. -/
def fnExactPropagateUptoRow : OpenClaim := { program := "ytepogmnolnlpmaagreat", sum := "d23bf7619cf5826c8714aeff8d608791146804d0e54c0ed0199fc65af3cc6173", func := "loop.example/g00806/laws.FnExactPropagate", spec := "fnExactPropagate", unfollowed := true, recurses := true, apart := false, narrowed := true }
def FnExactPropagateUptoSaid : Prop := fnExactPropagateUptoRow.holds Tryz.pinned (OpenSpec.upto fnExactPropagateSpec)

/-- 'laws.FnExactRefuteByRules', WHERE WHAT IT READS IS OF BULK AT MOST 1048576: true; the input reads as it did. -/
def fnExactRefuteByRulesUptoRow : OpenClaim := { program := "ytepogmnolnlpmaagreat", sum := "d23bf7619cf5826c8714aeff8d608791146804d0e54c0ed0199fc65af3cc6173", func := "loop.example/g00806/laws.FnExactRefuteByRules", spec := "fnExactRefuteByRules", unfollowed := true, recurses := true, apart := false, narrowed := true }
def FnExactRefuteByRulesUptoSaid : Prop := fnExactRefuteByRulesUptoRow.holds Tryz.pinned (OpenSpec.upto fnExactRefuteByRulesSpec)

/-- 'laws.FnExactRaisedBound', WHERE WHAT IT READS IS OF BULK AT MOST 1048576: true; the input reads as it did. -/
def fnExactRaisedBoundUptoRow : OpenClaim := { program := "ytepogmnolnlpmaagreat", sum := "d23bf7619cf5826c8714aeff8d608791146804d0e54c0ed0199fc65af3cc6173", func := "loop.example/g00806/laws.FnExactRaisedBound", spec := "fnExactRaisedBound", unfollowed := true, recurses := true, apart := false, narrowed := true }
def FnExactRaisedBoundUptoSaid : Prop := fnExactRaisedBoundUptoRow.holds Tryz.pinned (OpenSpec.upto fnExactRaisedBoundSpec)

end Rows
end Go.Proofs.YtepogmnolnlpmaaGreat
