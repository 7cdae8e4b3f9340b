/- Contracts: literals in domains, clauses in domains. No statement of a claim. -/
import Derived.Test.YtepogmnolnlpmaaGreatC5
set_option linter.all false
set_option linter.unusedVariables false
set_option linter.unusedSimpArgs false
set_option maxRecDepth 20000
set_option maxHeartbeats 4000000
namespace Go.Proofs.YtepogmnolnlpmaaGreat.Abs
open Go.Proofs
def sameAt (a b:List Int) (i:Nat):Bool:=decide (a.getD i 0=b.getD i 0)
def RStat (r:Int×Lit):RV:=.tup [.d (i64 r.1),.d r.2.av]
theorem impl_hasResource (p:Proj) (n:Int):Con 153 [.d p.av,.d (i64 n)] (.d (.bool (hasRes p n))):=by
 refine con Tryz.func153 rfl rfl Tryz.call153 rfl fun hwf=>?_
 simp only [ARs.wf,AR.wf,AV.wf,AV.wfs,List.length_map,lim] at hwf
 (repeat' ((conv=>whnf);first | refine gA ?_ | ((with_reducible first | refine gD (fun h=>?_) (fun h=>?_) | refine gE (fun h=>?_) (fun h=>?_)) <;> (try simp only [lm] at h) <;> try have hw:=wn h) | refine gV ?_ | refine gC (impl_within _ _ _) ?_ | intro _)) <;> (try (conv=>whnf))
 refine⟨?_,rfl,trivial⟩
 simp [hasRes]
theorem impl_hasStock (p:Proj) (n:Int):Con 156 [.d p.av,.d (i64 n)] (.d (.bool (hasStock p n))):=by
 refine con Tryz.func156 rfl rfl Tryz.call156 rfl fun hwf=>?_
 simp only [ARs.wf,AR.wf,AV.wf,AV.wfs,List.length_map,lim] at hwf
 (repeat' ((conv=>whnf);first | refine gA ?_ | ((with_reducible first | refine gD (fun h=>?_) (fun h=>?_) | refine gE (fun h=>?_) (fun h=>?_)) <;> (try simp only [lm] at h) <;> try have hw:=wn h) | refine gV ?_ | refine gC (impl_within _ _ _) ?_ | intro _)) <;> (try (conv=>whnf))
 refine⟨?_,rfl,trivial⟩
 simp [hasStock]
theorem hasRes_get {p:Proj} {a:Int} (h:hasRes p a=true):∃(n:Nat) (x:Resrc),a=n∧p.ress[n]? =some x:=by
 have hn:=within_iff.1 h
 exact⟨a.toNat,p.ress[a.toNat]'(by omega),by omega,by simp⟩
theorem impl_IsMachine (p:Proj) (r:Int):Con 155 [.d p.av,.d (i64 r)] (.d (.bool (isMach p r))):=by
 refine con Tryz.func155 rfl rfl Tryz.call155 rfl fun hwf=>?_
 simp only [ARs.wf,AR.wf,AV.wf,AV.wfs,List.length_map,lim] at hwf
 cases hr:hasRes p r with
 | false=>
  (repeat' ((conv=>whnf);first | refine gA ?_ | ((with_reducible first | refine gD (fun h=>?_) (fun h=>?_) | refine gE (fun h=>?_) (fun h=>?_)) <;> (try simp only [lm] at h) <;> try have hw:=wn h) | with_reducible refine gI (fun x hx=>?_) | with_reducible refine gJ (fun j x hj hx=>?_) | refine gC (impl_hasResource p _) ?_ | intro _)) <;> (try (conv=>whnf))
  refine⟨?_,rfl,trivial⟩
  simp [isMach,hr]
 | true=>
  obtain⟨n,x,ha,hx⟩:=hasRes_get hr
  have e:r.toNat=n:=by omega
  (repeat' ((conv=>whnf);first | with_reducible refine Idx.got hx ha ?_ | refine gA ?_ | ((with_reducible first | refine gD (fun h=>?_) (fun h=>?_) | refine gE (fun h=>?_) (fun h=>?_)) <;> (try simp only [lm] at h) <;> try have hw:=wn h) | with_reducible refine gI (fun x hx=>?_) | with_reducible refine gJ (fun j x hj hx=>?_) | refine gC (impl_hasResource p _) ?_ | intro _)) <;> (try (conv=>whnf))
  refine⟨?_,rfl,trivial⟩
  simp [isMach,hr,e,List.getD_eq_getElem?_getD,hx]
theorem spec_IsMachine (p:Proj) (r:Int):Con 141 [.d p.av,.d (i64 r)] (.d (.bool (isMach p r))):=by
 refine con Tryz.func141 rfl rfl Tryz.call141 rfl fun hwf=>?_
 simp only [ARs.wf,AR.wf,AV.wf,AV.wfs,List.length_map,lim] at hwf
 cases hr:hasRes p r with
 | false=>
  have hr':within r 0 (((p.ress.map Resrc.av).length:Int) - 1)=false:=by rw [List.length_map];exact hr
  (repeat' ((conv=>whnf);first | refine gA ?_ | ((with_reducible first | refine gD (fun h=>?_) (fun h=>?_) | refine gE (fun h=>?_) (fun h=>?_)) <;> (try simp only [lm] at h) <;> try have hw:=wn h) | with_reducible refine gI (fun x hx=>?_) | with_reducible refine gJ (fun j x hj hx=>?_) | refine gV ?_ | refine gC (spec_in _ _ _) ?_ | intro _)) <;> (try (conv=>whnf))
  refine⟨?_,rfl,trivial⟩
  simp [isMach,hr]
 | true=>
  have hr':within r 0 (((p.ress.map Resrc.av).length:Int) - 1)=true:=by rw [List.length_map];exact hr
  obtain⟨n,x,ha,hx⟩:=hasRes_get hr
  have e:r.toNat=n:=by omega
  (repeat' ((conv=>whnf);first | with_reducible refine Idx.got hx ha ?_ | refine gA ?_ | ((with_reducible first | refine gD (fun h=>?_) (fun h=>?_) | refine gE (fun h=>?_) (fun h=>?_)) <;> (try simp only [lm] at h) <;> try have hw:=wn h) | with_reducible refine gI (fun x hx=>?_) | with_reducible refine gJ (fun j x hj hx=>?_) | refine gV ?_ | refine gC (spec_in _ _ _) ?_ | intro _)) <;> (try (conv=>whnf))
  refine⟨?_,rfl,trivial⟩
  simp [isMach,hr,e,List.getD_eq_getElem?_getD,hx]
theorem impl_RuleOk (p:Proj) (r:Rul) (hp:p.fine):Con 83 [.d p.av,.d r.av] (.d (.bool (ruleOk p r))):=by
 refine con Tryz.func83 rfl rfl Tryz.call83 rfl fun hwf=>?_
 simp only [ARs.wf,AR.wf,AV.wf,AV.wfs,List.length_map,lim] at hwf
 (repeat' ((conv=>whnf);first | refine gA ?_ | ((with_reducible first | refine gD (fun h=>?_) (fun h=>?_) | refine gE (fun h=>?_) (fun h=>?_)) <;> (try simp only [lm] at h) <;> try have hw:=wn h) | refine gV ?_ | refine gC (impl_ProjectOk p hp) ?_ | refine gC (impl_hasActivity p _) ?_ | refine gC (impl_hasResource p _) ?_ | refine gC (impl_hasStock p _) ?_ | refine gC (impl_IsMachine p _) ?_ | refine gC (impl_isTime _) ?_ | refine gC (impl_within _ _ _) ?_ | intro _)) <;> (try (conv=>whnf))
 all_goals refine⟨?_,rfl,trivial⟩
 all_goals (simp [ruleOk, *];done)
theorem spec_RuleOk (p:Proj) (r:Rul) (hp:p.fine):Con 78 [.d p.av,.d r.av] (.d (.bool (ruleOk p r))):=by
 refine con Tryz.func78 rfl rfl Tryz.call78 rfl fun hwf=>?_
 simp only [ARs.wf,AR.wf,AV.wf,AV.wfs,List.length_map,lim] at hwf
 (repeat' ((conv=>whnf);first | refine gA ?_ | ((with_reducible first | refine gD (fun h=>?_) (fun h=>?_) | refine gE (fun h=>?_) (fun h=>?_)) <;> (try simp only [lm] at h) <;> try have hw:=wn h) | refine gV ?_ | refine gC (spec_ProjectOk p hp) ?_ | refine gC (spec_IsMachine p _) ?_ | refine gC (spec_in _ _ _) ?_ | intro _)) <;> (try (conv=>whnf))
 all_goals refine⟨?_,rfl,trivial⟩
 all_goals (simp [ruleOk,hasAct,hasRes,hasStock,isTime, *];done)
end Go.Proofs.YtepogmnolnlpmaaGreat.Abs
