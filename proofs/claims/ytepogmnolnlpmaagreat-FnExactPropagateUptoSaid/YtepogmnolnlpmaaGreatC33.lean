/- ExplainLiteral's clause as separate data. No statement of a claim. -/
import Derived.Test.YtepogmnolnlpmaaGreatC30
import Derived.Test.YtepogmnolnlpmaaGreatC32
set_option linter.all false
set_option linter.unusedVariables false
set_option linter.unusedSimpArgs false
set_option maxRecDepth 100000
set_option maxHeartbeats 4000000
namespace Go.Proofs.YtepogmnolnlpmaaGreat.Abs
open Go.Proofs Go.RowKit
def RLin (r:List Lit×Bool):RV:=.tup [.lin 88 (r.1.map Lit.av),.d (.bool r.2)]
theorem impl_ExplainLiteral_lin (p:Proj) (b:Dom) (r:Rul) (l:Lit) (hp:p.fine):Con 87 [.d p.av,.d b.av,.d r.av,.d l.av] (RLin (explainLit p b r l)):=by
 refine con Tryz.func87 rfl rfl Tryz.call87 rfl fun hwf=>?_
 have hnl:=negs_len p b
 have hN:=impl_NewClause (negs p b++[l])
 rw [lits,List.map_append] at hN
 (repeat' ((conv=>whnf);first | refine gA ?_ | ((with_reducible first | refine gD (fun h=>?_) (fun h=>?_) | refine gE (fun h=>?_) (fun h=>?_)) <;> (try simp only [lm] at h) <;> try have hw:=wn h) | refine gP ?_ | refine gC (impl_LiteralOk p l hp) ?_ | refine gC (impl_Negate l) ?_ | refine gC (impl_Restrict b (negate l)) ?_ | refine gC (impl_Refutes p (restrict b (negate l)) r hp) ?_ | refine gC (impl_negations p b hp) ?_ | refine gC (hN) ?_ | refine gC (impl_shortened_lin p r (newClause (negs p b++[l])) 171 [l.av] _ hp (fun x=>impl_ExplainLiteral1 x l)) ?_ | intro _)) <;> (try (conv=>whnf))
 ·rw [explainLit,if_pos ⟨by assumption,by assumption⟩]
  (repeat' ((conv=>whnf) <;> (first | exact trivial | exact VC.nod (by kernel_rfl) | refine VC.mk rfl ?_)))
 ·rw [explainLit,if_neg (by simp [*])]
  (repeat' ((conv=>whnf) <;> (first | exact trivial | exact VC.nod (by kernel_rfl) | refine VC.mk rfl ?_)))
 ·rw [explainLit,if_neg (by simp [*])]
  (repeat' ((conv=>whnf) <;> (first | exact trivial | exact VC.nod (by kernel_rfl) | refine VC.mk rfl ?_)))
end Go.Proofs.YtepogmnolnlpmaaGreat.Abs
set_option linter.unusedVariables false
set_option linter.unusedSimpArgs false
set_option maxRecDepth 100000
set_option maxHeartbeats 4000000
namespace Go.Proofs.YtepogmnolnlpmaaGreat.Abs
open Go.Proofs Go.RowKit
def infersAt (p:Proj) (b:Dom) (r:Rul) (a:Int):List Infer:=(inferA p b r a.toNat).map fun l=>⟨l,r,(explainLit p b r l).1⟩
def infers (p:Proj) (b:Dom) (r:Rul):List Infer:=if usable p b=true∧ruleOk p r=true∧refutes p b r=false then (ruleActs p r).flatMap (infersAt p b r) else []
end Go.Proofs.YtepogmnolnlpmaaGreat.Abs
