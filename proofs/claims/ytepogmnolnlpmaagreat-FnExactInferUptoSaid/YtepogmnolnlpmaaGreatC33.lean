/- ExplainLiteral's clause as separate data. No statement of a claim. -/
import Derived.Test.YtepogmnolnlpmaaGreatC30
import Derived.Test.YtepogmnolnlpmaaGreatC32
set_option linter.all false
set_option linter.unusedVariables false
set_option linter.unusedSimpArgs false
set_option maxRecDepth 100000
set_option maxHeartbeats 4000000
namespace Go.Proofs.YtepogmnolnlpmaaGreat.Abs
open Go.Proofs Go.RowKit
def RLin (r:List Lit×Bool):RV:=.tup [.lin 88 (r.1.map Lit.av),.d (.bool r.2)]
theorem impl_ExplainLiteral_lin (p:Proj) (b:Dom) (r:Rul) (l:Lit) (hp:p.fine):Con 87 [.d p.av,.d b.av,.d r.av,.d l.av] (RLin (explainLit p b r l)):=by
 refine con Tryz.func87 rfl rfl Tryz.call87 rfl fun hwf=>?_
 have hnl:=negs_len p b
 have hN:=impl_NewClause (negs p b++[l])
 rw [lits,List.map_append] at hN
 (repeat' ((conv=>whnf);first | refine gA ?_ | ((with_reducible first | refine gD (fun h=>?_) (fun h=>?_) | refine gE (fun h=>?_) (fun h=>?_)) <;> (try simp only [lm] at h) <;> try have hw:=wn h) | refine gP ?_ | refine gC (impl_LiteralOk p l hp) ?_ | refine gC (impl_Negate l) ?_ | refine gC (impl_Restrict b (negate l)) ?_ | refine gC (impl_Refutes p (restrict b (negate l)) r hp) ?_ | refine gC (impl_negations p b hp) ?_ | refine gC (hN) ?_ | refine gC (impl_shortened_lin p r (newClause (negs p b++[l])) 171 [l.av] _ hp (fun x=>impl_ExplainLiteral1 x l)) ?_ | intro _)) <;> (try (conv=>whnf))
 ·rw [explainLit,if_pos ⟨by assumption,by assumption⟩]
  (repeat' ((conv=>whnf) <;> (first | exact trivial | refine VC.mk rfl ?_)))
 ·rw [explainLit,if_neg (by simp [*])]
  (repeat' ((conv=>whnf) <;> (first | exact trivial | refine VC.mk rfl ?_)))
 ·rw [explainLit,if_neg (by simp [*])]
  (repeat' ((conv=>whnf) <;> (first | exact trivial | refine VC.mk rfl ?_)))
end Go.Proofs.YtepogmnolnlpmaaGreat.Abs
set_option linter.unusedVariables false
set_option linter.unusedSimpArgs false
set_option maxRecDepth 100000
set_option maxHeartbeats 4000000
namespace Go.Proofs.YtepogmnolnlpmaaGreat.Abs
open Go.Proofs Go.RowKit
def infersAt (p:Proj) (b:Dom) (r:Rul) (a:Int):List Infer:=(inferA p b r a.toNat).map fun l=>⟨l,r,(explainLit p b r l).1⟩
def infers (p:Proj) (b:Dom) (r:Rul):List Infer:=if usable p b=true∧ruleOk p r=true∧refutes p b r=false then (ruleActs p r).flatMap (infersAt p b r) else []
theorem impl_Infer (p:Proj) (b:Dom) (r:Rul) (hp:p.fine):Con 31 [.d p.av,.d b.av,.d r.av] (.lin 122 ((infers p b r).map Infer.av)):=by
 refine con Tryz.func31 rfl rfl Tryz.call31 rfl fun hwf=>?_
 by_cases h:usable p b=true∧ruleOk p r=true∧refutes p b r=false
 rotate_left
 ·rw [infers,if_neg h]
  have hno:=h
  (repeat' ((conv=>whnf);first | refine gA ?_ | ((with_reducible first | refine gD (fun h=>?_) (fun h=>?_) | refine gE (fun h=>?_) (fun h=>?_)) <;> (try simp only [lm] at h) <;> try have hw:=wn h) | with_reducible refine gI (fun x hx=>?_) | with_reducible refine gJ (fun j x hj hx=>?_) | refine gP ?_ | refine gV ?_ | refine gC (impl_isUsable p b hp) ?_ | refine gC (impl_RuleOk p r hp) ?_ | refine gC (impl_Refutes p b r hp) ?_ | intro _)) <;> (try (conv=>whnf))
  all_goals first
   | exact⟨rfl,rfl,trivial⟩
   | exact absurd ⟨by assumption,by assumption,by assumption⟩ hno
 obtain⟨hu,hro,hre⟩:=h
 rw [infers,if_pos ⟨hu,hro,hre⟩]
 have hf:=form_of_none hu
 have hal:=ruleActs_len p r
 (repeat' ((conv=>whnf);first | refine gA ?_ | ((with_reducible first | refine gD (fun h=>?_) (fun h=>?_) | refine gE (fun h=>?_) (fun h=>?_)) <;> (try simp only [lm] at h) <;> try have hw:=wn h) | with_reducible refine gI (fun x hx=>?_) | with_reducible refine gJ (fun j x hj hx=>?_) | refine gP ?_ | refine gV ?_ | refine gC (impl_isUsable p b hp) ?_ | refine gC (impl_RuleOk p r hp) ?_ | refine gC (impl_Refutes p b r hp) ?_ | refine gC (impl_RuleActivities p r hp) ?_ | intro _)) <;> (try (conv=>whnf))
 refine loopF [3,4,5,33,34] [3,4,5] [30] ?_
 (conv=>whnf)
 refine LoopC.go ((Nat)×(List Infer)) (fun⟨k,o⟩=>(k≤(ruleActs p r).length)∧(o.length≤5*k)∧(o++((ruleActs p r).drop k).flatMap (infersAt p b r)=(ruleActs p r).flatMap (infersAt p b r))) (fun⟨k,o⟩=>[(35,.data (i64 k)),(7,.own 30 0)]) (fun _=>[]) (fun⟨k,o⟩=>[(30,122,o.map Infer.av,1)]) (fun⟨k,o⟩=>(ruleActs p r).length - k) ⟨0,[]⟩ ?_ ?_
 ·exact⟨Nat.zero_le _,by simp,rfl⟩
 rintro⟨k,o⟩ ⟨hk,ho,hi⟩
 by_cases hlt:k < (ruleActs p r).length
 rotate_left
 ·(repeat' ((conv=>whnf);first | (exfalso;omega) | refine gA ?_ | ((with_reducible first | refine gD (fun h=>?_) (fun h=>?_) | refine gE (fun h=>?_) (fun h=>?_)) <;> (try simp only [lm] at h) <;> try have hw:=wn h) | with_reducible refine gI (fun x hx=>?_) | with_reducible refine gJ (fun j x hj hx=>?_) | refine gP ?_ | refine gV ?_ | intro _)) <;> (try (conv=>whnf))
  rw [drop_end' (by assumption)] at hi
  refine⟨?_,rfl,trivial⟩
  rw [← hi];simp
 obtain⟨a,ha⟩:∃a,(ruleActs p r)[k]? =some a:=⟨(ruleActs p r)[k]'hlt,by simp⟩
 obtain⟨n,rfl,hna⟩:=ruleActs_mem (List.mem_of_getElem? ha)
 have hil:=inferA_len p b r n hf hna
 rw [drop_get ha,List.flatMap_cons,infersAt,Int.toNat_natCast] at hi
 (repeat' ((conv=>whnf);first | with_reducible refine Idx.got ha rfl ?_ | refine gA ?_ | ((with_reducible first | refine gD (fun h=>?_) (fun h=>?_) | refine gE (fun h=>?_) (fun h=>?_)) <;> (try simp only [lm] at h) <;> try have hw:=wn h) | with_reducible refine gI (fun x hx=>?_) | with_reducible refine gJ (fun j x hj hx=>?_) | refine gP ?_ | refine gV ?_ | refine gC (impl_inferred p b r n hp hf hna) ?_ | intro _)) <;> (try (conv=>whnf))
 rotate_left
 ·exfalso;omega
 refine loopF [3,4,5,33,34,35,43,44] [3,4,5] [30] ?_
 (conv=>whnf)
 refine LoopC.go ((Nat)×(List Infer)) (fun⟨j,o'⟩=>(j≤(inferA p b r n).length)∧(o'.length≤o.length+j)∧(o'++((inferA p b r n).drop j).map (fun l=>(⟨l,r,(explainLit p b r l).1⟩:Infer))++((ruleActs p r).drop (k+1)).flatMap (infersAt p b r)=(ruleActs p r).flatMap (infersAt p b r))) (fun⟨j,o'⟩=>[(45,.data (i64 j)),(7,.own 30 0)]) (fun _=>[]) (fun⟨j,o'⟩=>[(30,122,o'.map Infer.av,1)]) (fun⟨j,o'⟩=>(inferA p b r n).length - j) ⟨0,o⟩ ?_ ?_
 ·exact⟨Nat.zero_le _,by omega,by rw [List.drop_zero,List.append_assoc];exact hi⟩
 rintro⟨j,o'⟩ ⟨hj,ho',hi'⟩
 by_cases hjl:j < (inferA p b r n).length
 rotate_left
 ·rw [drop_end' (by omega),List.map_nil,List.append_nil] at hi'
  (repeat' ((conv=>whnf);first | (exfalso;omega) | refine gA ?_ | ((with_reducible first | refine gD (fun h=>?_) (fun h=>?_) | refine gE (fun h=>?_) (fun h=>?_)) <;> (try simp only [lm] at h) <;> try have hw:=wn h) | with_reducible refine gI (fun x hx=>?_) | with_reducible refine gJ (fun j x hj hx=>?_) | refine gP ?_ | refine gV ?_ | intro _)) <;> (try (conv=>whnf))
  refine nx ⟨k+1,o'⟩ ?_
  exact⟨by omega,by omega,hi'⟩
 obtain⟨l,hx⟩:∃l,(inferA p b r n)[j]? =some l:=⟨(inferA p b r n)[j]'hjl,by simp⟩
 rw [drop_get hx,List.map_cons] at hi'
 (repeat' ((conv=>whnf);first | with_reducible refine Idx.got hx rfl ?_ | refine gA ?_ | ((with_reducible first | refine gD (fun h=>?_) (fun h=>?_) | refine gE (fun h=>?_) (fun h=>?_)) <;> (try simp only [lm] at h) <;> try have hw:=wn h) | with_reducible refine gI (fun x hx=>?_) | with_reducible refine gJ (fun j x hj hx=>?_) | refine gP ?_ | refine gV ?_ | refine gC (impl_ExplainLiteral_lin p b r l hp) ?_ | intro _)) <;> (try (conv=>whnf))
 ·refine nw ⟨j+1,o'++[⟨l,r,(explainLit p b r l).1⟩]⟩ ?_ ?_
  ·(repeat' ((conv=>whnf) <;> (first | exact trivial | exact rfl | with_reducible refine And.intro ?_ ?_))) <;> ((conv=>whnf) <;> (simp))
  exact⟨by omega,by simp;omega,by simpa using hi'⟩
 ·exfalso;omega
theorem refutes_of {p:Proj} {b:Dom} {r:Rul} (hu:usable p b=true) (hro:ruleOk p r=true):refutes p b r=fails p b r:=by
 obtain⟨h1,h2⟩:=usable_parts hu
 simp [refutes,h1,h2,hro]
theorem spec_l19Shave (p:Proj) (b:Dom) (r:Rul) (hp:p.fine) (hf:domForm p b=true) (hro:ruleOk p r=true):Con 80 [.d p.av,.d b.av,.d r.av] (.d (.sl (((ruleActs p r).flatMap (infersAt p b r)).map Infer.av))):=by
 refine con Tryz.func80 rfl rfl Tryz.call80 rfl fun hwf=>?_
 have hal:=ruleActs_len p r
 (repeat' ((conv=>whnf);first | refine gA ?_ | ((with_reducible first | refine gD (fun h=>?_) (fun h=>?_) | refine gE (fun h=>?_) (fun h=>?_)) <;> (try simp only [lm] at h) <;> try have hw:=wn h) | with_reducible refine gI (fun x hx=>?_) | with_reducible refine gJ (fun j x hj hx=>?_) | refine gP ?_ | refine gV ?_ | refine gC (spec_RuleActivities p r hp) ?_ | intro _)) <;> (try (conv=>whnf))
 refine loopF [3,4,5,17,18] [3,4,5] [14] ?_
 (conv=>whnf)
 refine LoopC.go ((Nat)×(List Infer)) (fun⟨k,o⟩=>(k≤(ruleActs p r).length)∧(o.length≤5*k)∧(o++((ruleActs p r).drop k).flatMap (infersAt p b r)=(ruleActs p r).flatMap (infersAt p b r))) (fun⟨k,o⟩=>[(19,.data (i64 k)),(7,.own 14 0)]) (fun _=>[]) (fun⟨k,o⟩=>[(14,122,o.map Infer.av,0)]) (fun⟨k,o⟩=>(ruleActs p r).length - k) ⟨0,[]⟩ ?_ ?_
 ·exact⟨Nat.zero_le _,by simp,rfl⟩
 rintro⟨k,o⟩ ⟨hk,ho,hi⟩
 by_cases hlt:k < (ruleActs p r).length
 rotate_left
 ·(repeat' ((conv=>whnf);first | (exfalso;omega) | refine gA ?_ | ((with_reducible first | refine gD (fun h=>?_) (fun h=>?_) | refine gE (fun h=>?_) (fun h=>?_)) <;> (try simp only [lm] at h) <;> try have hw:=wn h) | with_reducible refine gI (fun x hx=>?_) | with_reducible refine gJ (fun j x hj hx=>?_) | refine gP ?_ | refine gV ?_ | intro _)) <;> (try (conv=>whnf))
  rw [drop_end' (by assumption)] at hi
  refine⟨?_,rfl,trivial⟩
  rw [← hi];simp
 obtain⟨a,ha⟩:∃a,(ruleActs p r)[k]? =some a:=⟨(ruleActs p r)[k]'hlt,by simp⟩
 obtain⟨n,rfl,hna⟩:=ruleActs_mem (List.mem_of_getElem? ha)
 have hil:=inferA_len p b r n hf hna
 rw [drop_get ha,List.flatMap_cons,infersAt,Int.toNat_natCast] at hi
 (repeat' ((conv=>whnf);first | with_reducible refine Idx.got ha rfl ?_ | refine gA ?_ | ((with_reducible first | refine gD (fun h=>?_) (fun h=>?_) | refine gE (fun h=>?_) (fun h=>?_)) <;> (try simp only [lm] at h) <;> try have hw:=wn h) | with_reducible refine gI (fun x hx=>?_) | with_reducible refine gJ (fun j x hj hx=>?_) | refine gP ?_ | refine gV ?_ | refine gC (spec_l19Facts p b r n hp hf hro hna) ?_ | intro _)) <;> (try (conv=>whnf))
 rotate_left
 ·exfalso;omega
 refine loopF [3,4,5,17,18,19,27,28] [3,4,5] [14] ?_
 (conv=>whnf)
 refine LoopC.go ((Nat)×(List Infer)) (fun⟨j,o'⟩=>(j≤(inferA p b r n).length)∧(o'.length≤o.length+j)∧(o'++((inferA p b r n).drop j).map (fun l=>(⟨l,r,(explainLit p b r l).1⟩:Infer))++((ruleActs p r).drop (k+1)).flatMap (infersAt p b r)=(ruleActs p r).flatMap (infersAt p b r))) (fun⟨j,o'⟩=>[(29,.data (i64 j)),(7,.own 14 0)]) (fun _=>[]) (fun⟨j,o'⟩=>[(14,122,o'.map Infer.av,0)]) (fun⟨j,o'⟩=>(inferA p b r n).length - j) ⟨0,o⟩ ?_ ?_
 ·exact⟨Nat.zero_le _,by omega,by rw [List.drop_zero,List.append_assoc];exact hi⟩
 rintro⟨j,o'⟩ ⟨hj,ho',hi'⟩
 by_cases hjl:j < (inferA p b r n).length
 rotate_left
 ·rw [drop_end' (by omega),List.map_nil,List.append_nil] at hi'
  (repeat' ((conv=>whnf);first | (exfalso;omega) | refine gA ?_ | ((with_reducible first | refine gD (fun h=>?_) (fun h=>?_) | refine gE (fun h=>?_) (fun h=>?_)) <;> (try simp only [lm] at h) <;> try have hw:=wn h) | with_reducible refine gI (fun x hx=>?_) | with_reducible refine gJ (fun j x hj hx=>?_) | refine gP ?_ | refine gV ?_ | intro _)) <;> (try (conv=>whnf))
  refine nx ⟨k+1,o'⟩ ?_
  exact⟨by omega,by omega,hi'⟩
 obtain⟨l,hx⟩:∃l,(inferA p b r n)[j]? =some l:=⟨(inferA p b r n)[j]'hjl,by simp⟩
 rw [drop_get hx,List.map_cons] at hi'
 (repeat' ((conv=>whnf);first | with_reducible refine Idx.got hx rfl ?_ | refine gA ?_ | ((with_reducible first | refine gD (fun h=>?_) (fun h=>?_) | refine gE (fun h=>?_) (fun h=>?_)) <;> (try simp only [lm] at h) <;> try have hw:=wn h) | with_reducible refine gI (fun x hx=>?_) | with_reducible refine gJ (fun j x hj hx=>?_) | refine gP ?_ | refine gV ?_ | refine gC (spec_ExplainLiteral p b r l hp hf) ?_ | intro _)) <;> (try (conv=>whnf))
 ·refine nw ⟨j+1,o'++[⟨l,r,(explainLit p b r l).1⟩]⟩ ?_ ?_
  ·(repeat' ((conv=>whnf) <;> (first | exact trivial | exact rfl | with_reducible refine And.intro ?_ ?_))) <;> ((conv=>whnf) <;> (simp))
  exact⟨by omega,by simp;omega,by simpa using hi'⟩
 ·exfalso;omega
theorem spec_Infer (p:Proj) (b:Dom) (r:Rul) (hp:p.fine):Con 29 [.d p.av,.d b.av,.d r.av] (.d (.sl ((infers p b r).map Infer.av))):=by
 refine con Tryz.func29 rfl rfl Tryz.call29 rfl fun hwf=>?_
 cases hu:usable p b with
 | false=>
  rw [infers,if_neg (by simp [hu])]
  (repeat' ((conv=>whnf);first | refine gA ?_ | ((with_reducible first | refine gD (fun h=>?_) (fun h=>?_) | refine gE (fun h=>?_) (fun h=>?_)) <;> (try simp only [lm] at h) <;> try have hw:=wn h) | refine gC (spec_l14Ok p b hp) ?_ | intro _)) <;> (try (conv=>whnf))
  exact⟨rfl,rfl,trivial⟩
 | true=>
 cases hro:ruleOk p r with
 | false=>
  rw [infers,if_neg (by simp [hro])]
  (repeat' ((conv=>whnf);first | refine gA ?_ | ((with_reducible first | refine gD (fun h=>?_) (fun h=>?_) | refine gE (fun h=>?_) (fun h=>?_)) <;> (try simp only [lm] at h) <;> try have hw:=wn h) | refine gC (spec_l14Ok p b hp) ?_ | refine gC (spec_RuleOk p r hp) ?_ | intro _)) <;> (try (conv=>whnf))
  exact⟨rfl,rfl,trivial⟩
 | true=>
 have hf:=form_of_none hu
 have e:=refutes_of hu hro
 (repeat' ((conv=>whnf);first | refine gA ?_ | ((with_reducible first | refine gD (fun h=>?_) (fun h=>?_) | refine gE (fun h=>?_) (fun h=>?_)) <;> (try simp only [lm] at h) <;> try have hw:=wn h) | refine gC (spec_l14Ok p b hp) ?_ | refine gC (spec_RuleOk p r hp) ?_ | refine gC (spec_l17Refutes p b r hf hro) ?_ | refine gC (spec_l19Shave p b r hp hf hro) ?_ | intro _)) <;> (try (conv=>whnf))
 ·rw [infers,if_neg (by simp [*])]
  exact⟨rfl,rfl,trivial⟩
 ·rw [infers,if_pos ⟨hu,hro,by simp [*]⟩]
  exact⟨rfl,rfl,trivial⟩
end Go.Proofs.YtepogmnolnlpmaaGreat.Abs
