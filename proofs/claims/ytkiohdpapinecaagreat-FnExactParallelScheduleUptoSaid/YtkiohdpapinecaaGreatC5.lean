/- Contracts: literals, domains' form, clauses. No statement of a claim. -/
import Derived.Test.YtkiohdpapinecaaGreatC4
set_option linter.all false
set_option linter.unusedVariables false
set_option linter.unusedSimpArgs false
set_option maxRecDepth 20000
set_option maxHeartbeats 4000000
namespace Go.Proofs.YtkiohdpapinecaaGreat.Abs
open Go.Proofs
theorem hasAct_get {p:Proj} {a:Int} (h:hasAct p a=true):∃(n:Nat) (x:Activ),a=n∧p.acts[n]? =some x:=by
 have hn:=within_iff.1 h
 exact⟨a.toNat,p.acts[a.toNat]'(by omega),by omega,by simp⟩
theorem anyN_no {n:Nat} {f:Nat→Bool}:(List.range n).any f=false↔∀i,i < n→f i=false:=by simp
theorem anyN_yes {n:Nat} {f:Nat→Bool} (k:Nat) (hk:k < n) (h:f k=true):(List.range n).any f=true:=by simp;exact⟨k,hk,h⟩
theorem noN_step {f:Nat→Bool} {k:Nat} (h:∀i,i < k→f i=false) (hf:f k=false):∀i,i < k+1→f i=false:=by
 intro i hi
 by_cases e:i=k
 ·rw [e];exact hf
 ·exact h i (by omega)
def DomOk (p:Proj) (b:Dom):Prop:=∀m∈b.modes,setOk m=true
theorem projOk_dead {p:Proj} (h:projOk p=true):1≤p.dead∧p.dead≤60:=by
 have:within p.dead 1 60=true:=by simp [projOk,headOk] at h;simp [h]
 exact within_iff.1 this
end Go.Proofs.YtkiohdpapinecaaGreat.Abs
