/-
  No cell of these rows narrows 'for every input' (looked for: loops, veiled, ifaces, maps, wideKeys, modest, calm, conditions, laid).
  DERIVED. THE GIVEN ROWS OF THIS SEAT. 4 by the template 'for every input the law returns true; each argument reads behind the call as it read before'; 0 by the template 'total and deterministic' (their statements: YtefgamefajmdkaaGreatTotals.lean).
  GIVEN WITH THE SEED: the statements are not yours to turn. If you find one false, say at which input.
  Laid BY PROGRAM, IN A SANDBOX (cutbox-rows.mjs): the forced cells as the released guide's own fill.sh prints them over the translation cc8d97a10e4f63c8… (all of the seat's roots in one cut). By AI agents, Wed Nov 11 2026. No macro, syntax, notation, axiom, sorry.
-/
import Derived.Test.YtefgamefajmdkaaGreatChecked
import GoSem.Claim
import GoSem.ClaimJoined
import GoSem.ClaimMapViews
import Derived.JoinedTies
import Derived.KernelRfl
namespace Go.Proofs.YtefgamefajmdkaaGreat
/- THE CELL 'sum', in the pinned program and in every row, IS THE sha256 OF THE DUMP (.gsa) THAT YtefgamefajmdkaaGreatProg.lean LOADS. Nothing in Lean hashes anything: it is a label: what it is worth is what the hold of that sum in a sandbox is worth. -/
noncomputable def Tryz.pinned : Pinned := { name := "ytefgamefajmdkaagreat", sum := "cc8d97a10e4f63c8437b5d3f13b0538d40306779eb4e5d4a8817cbd66f6adf7d", checked := Tryz.checked }
namespace Rows
def none {H : Type} : Left H := { results := [], args := [] }

/-- 'laws.FnUnits': WHATEVER THE INPUT: true; the input reads as it did. -/
def fnUnitsSpec : ChangeSpec := { name := "fnUnits", fn := fun _ => fun
  | [d] => { results := [.lit (.bool true)], args := [d] }
  | _ => none }
def fnUnitsRow : OpenClaim := { program := "ytefgamefajmdkaagreat", sum := "cc8d97a10e4f63c8437b5d3f13b0538d40306779eb4e5d4a8817cbd66f6adf7d", func := "loop.example/g00806/laws.FnUnits", spec := "fnUnits", unfollowed := true, recurses := true, apart := false }
def FnUnitsSaid : Prop := fnUnitsRow.holds Tryz.pinned (OpenSpec.ofChange fnUnitsSpec)

/-- ITS FALSE NEIGHBOUR: 'it returns false'. Refute it at one input. -/
def fnUnitsWrong : ChangeSpec := { name := "fnUnits", fn := fun _ => fun
  | [d] => { results := [.lit (.bool false)], args := [d] }
  | _ => none }
def FnUnitsWrongFalsely : Prop := fnUnitsRow.holds Tryz.pinned (OpenSpec.ofChange fnUnitsWrong)

/-- 'laws.FnSound': WHATEVER THE INPUT: true; the input reads as it did. -/
def fnSoundSpec : ChangeSpec := { name := "fnSound", fn := fun _ => fun
  | [d] => { results := [.lit (.bool true)], args := [d] }
  | _ => none }
def fnSoundRow : OpenClaim := { program := "ytefgamefajmdkaagreat", sum := "cc8d97a10e4f63c8437b5d3f13b0538d40306779eb4e5d4a8817cbd66f6adf7d", func := "loop.example/g00806/laws.FnSound", spec := "fnSound", unfollowed := true, recurses := true, apart := false }
def FnSoundSaid : Prop := fnSoundRow.holds Tryz.pinned (OpenSpec.ofChange fnSoundSpec)

/-- ITS FALSE NEIGHBOUR: 'it returns false'. Refute it at one input. -/
def fnSoundWrong : ChangeSpec := { name := "fnSound", fn := fun _ => fun
  | [d] => { results := [.lit (.bool false)], args := [d] }
  | _ => none }
def FnSoundWrongFalsely : Prop := fnSoundRow.holds Tryz.pinned (OpenSpec.ofChange fnSoundWrong)

/-- 'laws.FnProof': WHATEVER THE INPUT: true; the input reads as it did. -/
def fnProofSpec : ChangeSpec := { name := "fnProof", fn := fun _ => fun
  | [d] => { results := [.lit (.bool true)], args := [d] }
  | _ => none }
def fnProofRow : OpenClaim := { program := "ytefgamefajmdkaagreat", sum := "cc8d97a10e4f63c8437b5d3f13b0538d40306779eb4e5d4a8817cbd66f6adf7d", func := "loop.example/g00806/laws.FnProof", spec := "fnProof", unfollowed := true, recurses := true, apart := false }
def FnProofSaid : Prop := fnProofRow.holds Tryz.pinned (OpenSpec.ofChange fnProofSpec)

/-- ITS FALSE NEIGHBOUR: 'it returns false'. Refute it at one input. -/
def fnProofWrong : ChangeSpec := { name := "fnProof", fn := fun _ => fun
  | [d] => { results := [.lit (.bool false)], args := [d] }
  | _ => none }
def FnProofWrongFalsely : Prop := fnProofRow.holds Tryz.pinned (OpenSpec.ofChange fnProofWrong)

/-- 'laws.FnBudget': WHATEVER THE INPUT: true; the input reads as it did. -/
def fnBudgetSpec : ChangeSpec := { name := "fnBudget", fn := fun _ => fun
  | [d] => { results := [.lit (.bool true)], args := [d] }
  | _ => none }
def fnBudgetRow : OpenClaim := { program := "ytefgamefajmdkaagreat", sum := "cc8d97a10e4f63c8437b5d3f13b0538d40306779eb4e5d4a8817cbd66f6adf7d", func := "loop.example/g00806/laws.FnBudget", spec := "fnBudget", unfollowed := true, recurses := true, apart := false }
def FnBudgetSaid : Prop := fnBudgetRow.holds Tryz.pinned (OpenSpec.ofChange fnBudgetSpec)

/-- ITS FALSE NEIGHBOUR: 'it returns false'. Refute it at one input. -/
def fnBudgetWrong : ChangeSpec := { name := "fnBudget", fn := fun _ => fun
  | [d] => { results := [.lit (.bool false)], args := [d] }
  | _ => none }
def FnBudgetWrongFalsely : Prop := fnBudgetRow.holds Tryz.pinned (OpenSpec.ofChange fnBudgetWrong)

/- THE SECOND FORM. 'bulk': how many values and letters a reading holds, each counted each time it is reached (what is shared counts as often as it is met; a slice's spare places count too). A statement '..UptoSaid' is the law's where the arguments, and the package variables that the reading takes, are together of bulk at most 1048576: NARROWER than '..Said'. Prove '..Said' where nothing that the law and all that it calls make is longer than what came in: it says more and counts as full. Else prove '..UptoSaid'. A law counts once. -/
mutual
def uptoBulk {H : Type} : DataW H → Nat
  | .lit (.string bytes) => bytes.length + 1
  | .lit _ => 1
  | .nil => 1
  | .ptr d => uptoBulk d + 1
  | .slice elems spare => uptoBulkAll elems + uptoBulkAll spare + 1
  | .agg parts => uptoBulkAll parts + 1
  | .iface _ d => uptoBulk d + 1
  | .map entries => uptoBulkEntries entries + 1
  | .held _ => 1
def uptoBulkAll {H : Type} : List (DataW H) → Nat
  | [] => 0
  | d :: r => uptoBulk d + uptoBulkAll r
def uptoBulkEntries {H : Type} : List (Lit × DataW H) → Nat
  | [] => 0
  | x :: r => uptoBulkEntry x + uptoBulkEntries r
def uptoBulkEntry {H : Type} : Lit × DataW H → Nat
  | (.string bytes, d) => bytes.length + uptoBulk d + 1
  | (_, d) => uptoBulk d + 1
 end
def uptoSmall : (H : Type) → List (DataW H) → Bool := fun _ ds => decide (uptoBulkAll ds ≤ 1048576)
def OpenSpec.upto (s : _root_.Go.ChangeSpec) : _root_.Go.OpenSpec := { _root_.Go.OpenSpec.ofChange s with cond := some uptoSmall }

/-- 'laws.FnUnits', WHERE WHAT IT READS IS OF BULK AT MOST 1048576: true; the input reads as it did. -/
def fnUnitsUptoRow : OpenClaim := { program := "ytefgamefajmdkaagreat", sum := "cc8d97a10e4f63c8437b5d3f13b0538d40306779eb4e5d4a8817cbd66f6adf7d", func := "loop.example/g00806/laws.FnUnits", spec := "fnUnits", unfollowed := true, recurses := true, apart := false, narrowed := true }
def FnUnitsUptoSaid : Prop := fnUnitsUptoRow.holds Tryz.pinned (OpenSpec.upto fnUnitsSpec)

/-- 'laws.FnSound', WHERE WHAT IT READS IS OF BULK AT MOST 1048576: true; the input reads as it did. -/
def fnSoundUptoRow : OpenClaim := { program := "ytefgamefajmdkaagreat", sum := "cc8d97a10e4f63c8437b5d3f13b0538d40306779eb4e5d4a8817cbd66f6adf7d", func := "loop.example/g00806/laws.FnSound", spec := "fnSound", unfollowed := true, recurses := true, apart := false, narrowed := true }
def FnSoundUptoSaid : Prop := fnSoundUptoRow.holds Tryz.pinned (OpenSpec.upto fnSoundSpec)

/-- 'laws.FnProof', WHERE WHAT IT READS IS OF BULK AT MOST 1048576: true; the input reads as it did. -/
def fnProofUptoRow : OpenClaim := { program := "ytefgamefajmdkaagreat", sum := "cc8d97a10e4f63c8437b5d3f13b0538d40306779eb4e5d4a8817cbd66f6adf7d", func := "loop.example/g00806/laws.FnProof", spec := "fnProof", unfollowed := true, recurses := true, apart := false, narrowed := true }
def FnProofUptoSaid : Prop := fnProofUptoRow.holds Tryz.pinned (OpenSpec.upto fnProofSpec)

/-- 'laws.FnBudget', WHERE WHAT IT READS IS OF BULK AT MOST 1048576: true; the input reads as it did. -/
def fnBudgetUptoRow : OpenClaim := { program := "ytefgamefajmdkaagreat", sum := "cc8d97a10e4f63c8437b5d3f13b0538d40306779eb4e5d4a8817cbd66f6adf7d", func := "loop.example/g00806/laws.FnBudget", spec := "fnBudget", unfollowed := true, recurses := true, apart := false, narrowed := true }
def FnBudgetUptoSaid : Prop := fnBudgetUptoRow.holds Tryz.pinned (OpenSpec.upto fnBudgetSpec)

end Rows
end Go.Proofs.YtefgamefajmdkaaGreat
