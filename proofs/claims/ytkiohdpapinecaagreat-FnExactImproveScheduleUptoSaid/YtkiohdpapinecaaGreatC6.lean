/- Contracts: literals in domains, clauses in domains. No statement of a claim. -/
import Derived.Test.YtkiohdpapinecaaGreatC5
set_option linter.all false
set_option linter.unusedVariables false
set_option linter.unusedSimpArgs false
set_option maxRecDepth 20000
set_option maxHeartbeats 4000000
namespace Go.Proofs.YtkiohdpapinecaaGreat.Abs
open Go.Proofs
def sameAt (a b:List Int) (i:Nat):Bool:=decide (a.getD i 0=b.getD i 0)
def RStat (r:Int×Lit):RV:=.tup [.d (i64 r.1),.d r.2.av]
theorem impl_hasResource (p:Proj) (n:Int):Con 226 [.d p.av,.d (i64 n)] (.d (.bool (hasRes p n))):=by
 refine con Tryz.func226 rfl rfl Tryz.call226 rfl fun hwf=>?_
 simp only [ARs.wf,AR.wf,AV.wf,AV.wfs,List.length_map,lim] at hwf
 (repeat' ((conv=>whnf);first | refine gA ?_ | ((with_reducible first | refine gD (fun h=>?_) (fun h=>?_) | refine gE (fun h=>?_) (fun h=>?_)) <;> (try simp only [lm] at h) <;> try have hw:=wn h) | refine gV ?_ | refine gC (impl_within _ _ _) ?_ | intro _)) <;> (try (conv=>whnf))
 refine⟨?_,rfl,trivial⟩
 simp [hasRes]
theorem impl_hasStock (p:Proj) (n:Int):Con 385 [.d p.av,.d (i64 n)] (.d (.bool (hasStock p n))):=by
 refine con Tryz.func385 rfl rfl Tryz.call385 rfl fun hwf=>?_
 simp only [ARs.wf,AR.wf,AV.wf,AV.wfs,List.length_map,lim] at hwf
 (repeat' ((conv=>whnf);first | refine gA ?_ | ((with_reducible first | refine gD (fun h=>?_) (fun h=>?_) | refine gE (fun h=>?_) (fun h=>?_)) <;> (try simp only [lm] at h) <;> try have hw:=wn h) | refine gV ?_ | refine gC (impl_within _ _ _) ?_ | intro _)) <;> (try (conv=>whnf))
 refine⟨?_,rfl,trivial⟩
 simp [hasStock]
theorem hasRes_get {p:Proj} {a:Int} (h:hasRes p a=true):∃(n:Nat) (x:Resrc),a=n∧p.ress[n]? =some x:=by
 have hn:=within_iff.1 h
 exact⟨a.toNat,p.ress[a.toNat]'(by omega),by omega,by simp⟩
theorem impl_IsMachine (p:Proj) (r:Int):Con 210 [.d p.av,.d (i64 r)] (.d (.bool (isMach p r))):=by
 refine con Tryz.func210 rfl rfl Tryz.call210 rfl fun hwf=>?_
 simp only [ARs.wf,AR.wf,AV.wf,AV.wfs,List.length_map,lim] at hwf
 cases hr:hasRes p r with
 | false=>
  (repeat' ((conv=>whnf);first | refine gA ?_ | ((with_reducible first | refine gD (fun h=>?_) (fun h=>?_) | refine gE (fun h=>?_) (fun h=>?_)) <;> (try simp only [lm] at h) <;> try have hw:=wn h) | with_reducible refine gI (fun x hx=>?_) | with_reducible refine gJ (fun j x hj hx=>?_) | refine gC (impl_hasResource p _) ?_ | intro _)) <;> (try (conv=>whnf))
  refine⟨?_,rfl,trivial⟩
  simp [isMach,hr]
 | true=>
  obtain⟨n,x,ha,hx⟩:=hasRes_get hr
  have e:r.toNat=n:=by omega
  (repeat' ((conv=>whnf);first | with_reducible refine Idx.got hx ha ?_ | refine gA ?_ | ((with_reducible first | refine gD (fun h=>?_) (fun h=>?_) | refine gE (fun h=>?_) (fun h=>?_)) <;> (try simp only [lm] at h) <;> try have hw:=wn h) | with_reducible refine gI (fun x hx=>?_) | with_reducible refine gJ (fun j x hj hx=>?_) | refine gC (impl_hasResource p _) ?_ | intro _)) <;> (try (conv=>whnf))
  refine⟨?_,rfl,trivial⟩
  simp [isMach,hr,e,List.getD_eq_getElem?_getD,hx]
theorem spec_IsMachine (p:Proj) (r:Int):Con 307 [.d p.av,.d (i64 r)] (.d (.bool (isMach p r))):=by
 refine con Tryz.func307 rfl rfl Tryz.call307 rfl fun hwf=>?_
 simp only [ARs.wf,AR.wf,AV.wf,AV.wfs,List.length_map,lim] at hwf
 cases hr:hasRes p r with
 | false=>
  have hr':within r 0 (((p.ress.map Resrc.av).length:Int) - 1)=false:=by rw [List.length_map];exact hr
  (repeat' ((conv=>whnf);first | refine gA ?_ | ((with_reducible first | refine gD (fun h=>?_) (fun h=>?_) | refine gE (fun h=>?_) (fun h=>?_)) <;> (try simp only [lm] at h) <;> try have hw:=wn h) | with_reducible refine gI (fun x hx=>?_) | with_reducible refine gJ (fun j x hj hx=>?_) | refine gV ?_ | refine gC (spec_in _ _ _) ?_ | intro _)) <;> (try (conv=>whnf))
  refine⟨?_,rfl,trivial⟩
  simp [isMach,hr]
 | true=>
  have hr':within r 0 (((p.ress.map Resrc.av).length:Int) - 1)=true:=by rw [List.length_map];exact hr
  obtain⟨n,x,ha,hx⟩:=hasRes_get hr
  have e:r.toNat=n:=by omega
  (repeat' ((conv=>whnf);first | with_reducible refine Idx.got hx ha ?_ | refine gA ?_ | ((with_reducible first | refine gD (fun h=>?_) (fun h=>?_) | refine gE (fun h=>?_) (fun h=>?_)) <;> (try simp only [lm] at h) <;> try have hw:=wn h) | with_reducible refine gI (fun x hx=>?_) | with_reducible refine gJ (fun j x hj hx=>?_) | refine gV ?_ | refine gC (spec_in _ _ _) ?_ | intro _)) <;> (try (conv=>whnf))
  refine⟨?_,rfl,trivial⟩
  simp [isMach,hr,e,List.getD_eq_getElem?_getD,hx]
end Go.Proofs.YtkiohdpapinecaaGreat.Abs
