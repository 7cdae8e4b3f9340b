/- Contracts: literals, domains' form, clauses. No statement of a claim. -/
import Derived.Test.YtkiohdpapinecaaGreatC4
set_option linter.all false
set_option linter.unusedVariables false
set_option linter.unusedSimpArgs false
set_option maxRecDepth 20000
set_option maxHeartbeats 4000000
namespace Go.Proofs.YtkiohdpapinecaaGreat.Abs
open Go.Proofs
theorem hasAct_get {p:Proj} {a:Int} (h:hasAct p a=true):∃(n:Nat) (x:Activ),a=n∧p.acts[n]? =some x:=by
 have hn:=within_iff.1 h
 exact⟨a.toNat,p.acts[a.toNat]'(by omega),by omega,by simp⟩
theorem cmp_isNaN (n:Int):Con 233 [.d (i64 n)] (.d (.bool false)):=by
 refine con Tryz.func233 rfl rfl Tryz.call233 rfl fun hwf=>?_
 (repeat' ((conv=>whnf);first | refine gA ?_ | ((with_reducible first | refine gD (fun h=>?_) (fun h=>?_) | refine gE (fun h=>?_) (fun h=>?_)) <;> (try simp only [lm] at h) <;> try have hw:=wn h) | intro _)) <;> (try (conv=>whnf))
 refine⟨?_,rfl,trivial⟩
 simp
theorem cmp_Compare (x y:Int):Con 156 [.d (i64 x),.d (i64 y)] (.d (i64 (cmpI x y))):=by
 refine con Tryz.func156 rfl rfl Tryz.call156 rfl fun hwf=>?_
 (repeat' ((conv=>whnf);first | refine gA ?_ | ((with_reducible first | refine gD (fun h=>?_) (fun h=>?_) | refine gE (fun h=>?_) (fun h=>?_)) <;> (try simp only [lm] at h) <;> try have hw:=wn h) | refine gC (cmp_isNaN _) ?_ | intro _)) <;> (try (conv=>whnf))
 all_goals refine⟨?_,rfl,trivial⟩
 all_goals (simp only [cmpI,i64,AV.int.injEq,true_and];split <;> (try split) <;> omega)
theorem anyN_no {n:Nat} {f:Nat→Bool}:(List.range n).any f=false↔∀i,i < n→f i=false:=by simp
theorem anyN_yes {n:Nat} {f:Nat→Bool} (k:Nat) (hk:k < n) (h:f k=true):(List.range n).any f=true:=by simp;exact⟨k,hk,h⟩
theorem noN_step {f:Nat→Bool} {k:Nat} (h:∀i,i < k→f i=false) (hf:f k=false):∀i,i < k+1→f i=false:=by
 intro i hi
 by_cases e:i=k
 ·rw [e];exact hf
 ·exact h i (by omega)
def DomOk (p:Proj) (b:Dom):Prop:=∀m∈b.modes,setOk m=true
theorem projOk_dead {p:Proj} (h:projOk p=true):1≤p.dead∧p.dead≤60:=by
 have:within p.dead 1 60=true:=by simp [projOk,headOk] at h;simp [h]
 exact within_iff.1 this
end Go.Proofs.YtkiohdpapinecaaGreat.Abs
