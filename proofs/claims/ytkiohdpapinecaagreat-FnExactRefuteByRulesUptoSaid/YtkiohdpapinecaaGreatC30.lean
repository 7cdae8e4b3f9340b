/- Contracts: a refutation is found; literals that follow from a rule are explained. No statement of a claim. -/
import Derived.Test.YtkiohdpapinecaaGreatC28
import Derived.Test.YtkiohdpapinecaaGreatC12
set_option linter.all false
set_option linter.unusedVariables false
set_option linter.unusedSimpArgs false
set_option maxRecDepth 20000
set_option maxHeartbeats 4000000
namespace Go.Proofs.YtkiohdpapinecaaGreat.Abs
open Go.Proofs
theorem candAll_ok {p:Proj} {b:Dom} (hu:usable p b=true) {r:Rul} (h:r∈candAll p b):ruleOk p r=true:=by
 have hpo:=(domForm_parts (usable_parts hu).1).1
 simp only [candAll,plainRules,pairRules,List.mem_append,List.mem_map,List.mem_flatMap,List.mem_range] at h
 rcases h with (((⟨k,hk,rfl⟩ | ⟨k,hk,rfl⟩) | ⟨k,hk,rfl⟩) | ⟨i,hi,h⟩) | ⟨i,hi,a,ha,h⟩
 ·have hw:within (k:Int) 0 ((p.links.length:Int) - 1)=true:=within_iff.2 (by omega)
  simp [ruleOk,linkRule,hpo,hw]
 ·have hw:hasAct p (k:Int)=true:=within_iff.2 (by omega)
  simp [ruleOk,endRule,hpo,hw]
 ·have hw:hasStock p (k:Int)=true:=within_iff.2 (by omega)
  simp [ruleOk,stockRule,hpo,hw]
 ·have hw:hasRes p (i:Int)=true:=within_iff.2 (by omega)
  obtain⟨x,hx⟩:∃x,p.ress[i]? =some x:=⟨p.ress[i]'hi,by simp⟩
  rw [resRules_eq hx,List.mem_append,List.mem_map,List.mem_map] at h
  rcases h with⟨t,ht,rfl⟩ | ⟨q,hq,rfl⟩
  ·have:=(List.mem_filter.1 ht).2
   simp [ruleOk,tRule,hpo,hw,this]
  ·obtain⟨u,v,rfl,h1,h2,h3⟩:=intervals_two hq
   simp [ruleOk,wRule,hpo,hw,h1,h2,h3]
 ·unfold pairsOf at h
  split at h
  ·rename_i hm
   obtain⟨j,hj,rfl⟩:=List.mem_map.1 h
   have hj:=List.mem_range.1 hj
   have h1:hasAct p (a:Int)=true:=within_iff.2 (by omega)
   have h2:hasAct p ((a+1+j:Nat):Int)=true:=within_iff.2 (by omega)
   have h3:(a:Int) < ((a+1+j:Nat):Int):=by omega
   unfold ruleOk pairRule
   dsimp only
   rw [hpo,Bool.true_and,if_neg (by decide),if_neg (by decide),if_neg (by decide),if_neg (by decide),if_pos rfl]
   simp only [hm,h1,h2,decide_eq_true h3]
   rfl
  ·simp at h
theorem candRules_ok {p:Proj} {b:Dom} {r:Rul} (h:r∈candRules p b):usable p b=true∧ruleOk p r=true:=by
 unfold candRules at h
 split at h
 ·rename_i hu
  exact⟨hu,candAll_ok hu h⟩
 ·simp at h
def zeroRul:Rul:=⟨0,0,0,0⟩
def findRef (p:Proj) (b:Dom):Option Rul:=if domForm p b=true∧domEmpty b=true then some zeroRul else (candRules p b).find? (refutes p b)
def RRul (o:Option Rul):RV:=.tup [.d (o.getD zeroRul).av,.d (.bool o.isSome)]
theorem find_next {α:Type} {f:α→Bool} {l:List α} {k:Nat} {x:α} (h:l[k]? =some x):(l.drop k).find? f=if f x=true then some x else (l.drop (k+1)).find? f:=by
 rw [drop_get h,List.find?_cons];cases f x <;> rfl
theorem candRules_len (p:Proj) (b:Dom):(candRules p b).length≤300:=by
 unfold candRules
 split
 ·rename_i hu
  have hf:=(usable_parts hu).1
  have hpo:=(domForm_parts hf).1
  have h1:=plain_len hpo
  have h2:=pair_len hpo
  have h3:=intervals_len hf
  obtain⟨_,hr3,_,_⟩:=proj_small hpo
  obtain⟨_,l1,l2,l3,_⟩:=domForm_parts hf
  have hna:=(projForm hpo).nact
  have h4:∀i,(resRules p b i).length≤50:=fun i=>by
   unfold resRules
   split
   ·rename_i x hx
    have h5:=steps_few hpo hx
    have h6:=setOf_len (b.hi++x.steps.map Step.at')
    have h7:=List.length_filter_le isTime (setOf (b.hi++x.steps.map Step.at'))
    simp only [List.length_append,List.length_map] at h6
    simp only [timesAt,List.length_append,List.length_map];omega
   ·simp
  have h5:=flatMap_len (f:=resRules p b) (c:=50) (l:=List.range p.ress.length) fun i _=>h4 i
  simp only [List.length_range] at h5
  simp only [candAll,List.length_append];omega
 ·simp
theorem impl_FindRefutation (p:Proj) (b:Dom) (hp:p.fine):Con 169 [.d p.av,.d b.av] (RRul (findRef p b)):=by
 refine con Tryz.func169 rfl rfl Tryz.call169 rfl fun hwf=>?_
 simp only [ARs.wf,AR.wf,AV.wf,AV.wfs,List.length_map,lim] at hwf
 have hl:=candRules_len p b
 cases h1:domForm p b with
 | false=>
  rw [findRef,if_neg (by simp [h1])]
  (repeat' ((conv=>whnf);first | refine gA ?_ | ((with_reducible first | refine gD (fun h=>?_) (fun h=>?_) | refine gE (fun h=>?_) (fun h=>?_)) <;> (try simp only [lm] at h) <;> try have hw:=wn h) | with_reducible refine gI (fun x hx=>?_) | with_reducible refine gJ (fun j x hj hx=>?_) | refine gV ?_ | refine gC (impl_DomainForm p b hp) ?_ | refine gC (impl_DomainEmpty b) ?_ | refine gC (impl_CandidateRules p b hp) ?_ | intro _)) <;> (try (conv=>whnf))
  refine loopF [2,3,4,18,19] [2,3,4] [] ?_
  (conv=>whnf)
  refine LoopC.go ((Nat)) (fun k=>(k≤(candRules p b).length)∧(((candRules p b).drop k).find? (refutes p b)=(candRules p b).find? (refutes p b))) (fun k=>[(20,.data (i64 k))]) (fun _=>[]) (fun _=>[]) (fun k=>(candRules p b).length - k) (0) ?_ ?_
  ·exact⟨Nat.zero_le _,rfl⟩
  rintro k ⟨hk,hi⟩
  by_cases hlt:k < (candRules p b).length
  ·obtain⟨r,hr⟩:∃r,(candRules p b)[k]? =some r:=⟨(candRules p b)[k]'hlt,by simp⟩
   rw [find_next hr] at hi
   (repeat' ((conv=>whnf);first | with_reducible refine Idx.got hr rfl ?_ | refine gA ?_ | ((with_reducible first | refine gD (fun h=>?_) (fun h=>?_) | refine gE (fun h=>?_) (fun h=>?_)) <;> (try simp only [lm] at h) <;> try have hw:=wn h) | with_reducible refine gI (fun x hx=>?_) | with_reducible refine gJ (fun j x hj hx=>?_) | refine gV ?_ | refine gC (impl_Refutes p b r hp) ?_ | intro _)) <;> (try (conv=>whnf))
   ·rw [if_pos (by assumption)] at hi
    rw [← hi]
    (repeat' ((conv=>whnf) <;> (first | exact trivial | exact VC.nod (by kernel_rfl) | refine VC.mk rfl ?_)))
   ·refine nx (k+1) ?_
    rw [if_neg (by simp [*])] at hi
    exact⟨by omega,hi⟩
   ·exfalso;omega
  ·(repeat' ((conv=>whnf);first | (exfalso;omega) | refine gA ?_ | ((with_reducible first | refine gD (fun h=>?_) (fun h=>?_) | refine gE (fun h=>?_) (fun h=>?_)) <;> (try simp only [lm] at h) <;> try have hw:=wn h) | with_reducible refine gI (fun x hx=>?_) | with_reducible refine gJ (fun j x hj hx=>?_) | refine gV ?_ | intro _)) <;> (try (conv=>whnf))
   rw [drop_end' (by assumption)] at hi
   rw [← hi]
   (repeat' ((conv=>whnf) <;> (first | exact trivial | exact VC.nod (by kernel_rfl) | refine VC.mk rfl ?_)))
 | true=>
 cases h2:domEmpty b with
 | true=>
  rw [findRef,if_pos ⟨h1,h2⟩]
  (repeat' ((conv=>whnf);first | refine gA ?_ | ((with_reducible first | refine gD (fun h=>?_) (fun h=>?_) | refine gE (fun h=>?_) (fun h=>?_)) <;> (try simp only [lm] at h) <;> try have hw:=wn h) | with_reducible refine gI (fun x hx=>?_) | with_reducible refine gJ (fun j x hj hx=>?_) | refine gV ?_ | refine gC (impl_DomainForm p b hp) ?_ | refine gC (impl_DomainEmpty b) ?_ | intro _)) <;> (try (conv=>whnf))
  (repeat' ((conv=>whnf) <;> (first | exact trivial | exact VC.nod (by kernel_rfl) | refine VC.mk rfl ?_)))
 | false=>
  rw [findRef,if_neg (by simp [h2])]
  (repeat' ((conv=>whnf);first | refine gA ?_ | ((with_reducible first | refine gD (fun h=>?_) (fun h=>?_) | refine gE (fun h=>?_) (fun h=>?_)) <;> (try simp only [lm] at h) <;> try have hw:=wn h) | with_reducible refine gI (fun x hx=>?_) | with_reducible refine gJ (fun j x hj hx=>?_) | refine gV ?_ | refine gC (impl_DomainForm p b hp) ?_ | refine gC (impl_DomainEmpty b) ?_ | refine gC (impl_CandidateRules p b hp) ?_ | intro _)) <;> (try (conv=>whnf))
  refine loopF [2,3,4,18,19] [2,3,4] [] ?_
  (conv=>whnf)
  refine LoopC.go ((Nat)) (fun k=>(k≤(candRules p b).length)∧(((candRules p b).drop k).find? (refutes p b)=(candRules p b).find? (refutes p b))) (fun k=>[(20,.data (i64 k))]) (fun _=>[]) (fun _=>[]) (fun k=>(candRules p b).length - k) (0) ?_ ?_
  ·exact⟨Nat.zero_le _,rfl⟩
  rintro k ⟨hk,hi⟩
  by_cases hlt:k < (candRules p b).length
  ·obtain⟨r,hr⟩:∃r,(candRules p b)[k]? =some r:=⟨(candRules p b)[k]'hlt,by simp⟩
   rw [find_next hr] at hi
   (repeat' ((conv=>whnf);first | with_reducible refine Idx.got hr rfl ?_ | refine gA ?_ | ((with_reducible first | refine gD (fun h=>?_) (fun h=>?_) | refine gE (fun h=>?_) (fun h=>?_)) <;> (try simp only [lm] at h) <;> try have hw:=wn h) | with_reducible refine gI (fun x hx=>?_) | with_reducible refine gJ (fun j x hj hx=>?_) | refine gV ?_ | refine gC (impl_Refutes p b r hp) ?_ | intro _)) <;> (try (conv=>whnf))
   ·rw [if_pos (by assumption)] at hi
    rw [← hi]
    (repeat' ((conv=>whnf) <;> (first | exact trivial | exact VC.nod (by kernel_rfl) | refine VC.mk rfl ?_)))
   ·refine nx (k+1) ?_
    rw [if_neg (by simp [*])] at hi
    exact⟨by omega,hi⟩
   ·exfalso;omega
  ·(repeat' ((conv=>whnf);first | (exfalso;omega) | refine gA ?_ | ((with_reducible first | refine gD (fun h=>?_) (fun h=>?_) | refine gE (fun h=>?_) (fun h=>?_)) <;> (try simp only [lm] at h) <;> try have hw:=wn h) | with_reducible refine gI (fun x hx=>?_) | with_reducible refine gJ (fun j x hj hx=>?_) | refine gV ?_ | intro _)) <;> (try (conv=>whnf))
   rw [drop_end' (by assumption)] at hi
   rw [← hi]
   (repeat' ((conv=>whnf) <;> (first | exact trivial | exact VC.nod (by kernel_rfl) | refine VC.mk rfl ?_)))
theorem refutes_fails {p:Proj} {b:Dom} {r:Rul} (hu:usable p b=true) (ho:ruleOk p r=true):refutes p b r=fails p b r:=by
 obtain⟨h1,h2⟩:=usable_parts hu
 simp [refutes,h1,h2,ho]
theorem spec_FindRefutation (p:Proj) (b:Dom) (hp:p.fine):Con 162 [.d p.av,.d b.av] (RRul (findRef p b)):=by
 refine con Tryz.func162 rfl rfl Tryz.call162 rfl fun hwf=>?_
 simp only [ARs.wf,AR.wf,AV.wf,AV.wfs,List.length_map,lim] at hwf
 cases h1:domForm p b with
 | false=>
  have e:findRef p b=none:=by
   rw [findRef,if_neg (by simp [h1]),candRules,if_neg (by simp [usable,h1])];rfl
  rw [e]
  (repeat' ((conv=>whnf);first | refine gA ?_ | ((with_reducible first | refine gD (fun h=>?_) (fun h=>?_) | refine gE (fun h=>?_) (fun h=>?_)) <;> (try simp only [lm] at h) <;> try have hw:=wn h) | with_reducible refine gI (fun x hx=>?_) | with_reducible refine gJ (fun j x hj hx=>?_) | refine gV ?_ | refine gC (spec_DomainForm p b hp) ?_ | intro _)) <;> (try (conv=>whnf))
  (repeat' ((conv=>whnf) <;> (first | exact trivial | exact VC.nod (by kernel_rfl) | refine VC.mk rfl ?_)))
 | true=>
 cases h2:domEmpty b with
 | true=>
  rw [findRef,if_pos ⟨h1,h2⟩]
  (repeat' ((conv=>whnf);first | refine gA ?_ | ((with_reducible first | refine gD (fun h=>?_) (fun h=>?_) | refine gE (fun h=>?_) (fun h=>?_)) <;> (try simp only [lm] at h) <;> try have hw:=wn h) | with_reducible refine gI (fun x hx=>?_) | with_reducible refine gJ (fun j x hj hx=>?_) | refine gV ?_ | refine gC (spec_DomainForm p b hp) ?_ | refine gC (spec_DomainEmpty b) ?_ | intro _)) <;> (try (conv=>whnf))
  (repeat' ((conv=>whnf) <;> (first | exact trivial | exact VC.nod (by kernel_rfl) | refine VC.mk rfl ?_)))
 | false=>
  have hu:usable p b=true:=by simp [usable,h1,h2]
  have hl:=candRules_len p b
  rw [candRules,if_pos hu] at hl
  rw [findRef,if_neg (by simp [h2]),candRules,if_pos hu]
  (repeat' ((conv=>whnf);first | refine gA ?_ | ((with_reducible first | refine gD (fun h=>?_) (fun h=>?_) | refine gE (fun h=>?_) (fun h=>?_)) <;> (try simp only [lm] at h) <;> try have hw:=wn h) | with_reducible refine gI (fun x hx=>?_) | with_reducible refine gJ (fun j x hj hx=>?_) | refine gV ?_ | refine gC (spec_DomainForm p b hp) ?_ | refine gC (spec_DomainEmpty b) ?_ | refine gC (spec_l17For p b hp hu) ?_ | intro _)) <;> (try (conv=>whnf))
  refine loopF [2,3,4,18,19] [2,3,4] [] ?_
  (conv=>whnf)
  refine LoopC.go ((Nat)) (fun k=>(k≤(candAll p b).length)∧(((candAll p b).drop k).find? (refutes p b)=(candAll p b).find? (refutes p b))) (fun k=>[(20,.data (i64 k))]) (fun _=>[]) (fun _=>[]) (fun k=>(candAll p b).length - k) (0) ?_ ?_
  ·exact⟨Nat.zero_le _,rfl⟩
  rintro k ⟨hk,hi⟩
  by_cases hlt:k < (candAll p b).length
  ·obtain⟨r,hr⟩:∃r,(candAll p b)[k]? =some r:=⟨(candAll p b)[k]'hlt,by simp⟩
   have hro:=candAll_ok hu (List.mem_of_getElem? hr)
   rw [find_next hr,refutes_fails hu hro] at hi
   (repeat' ((conv=>whnf);first | with_reducible refine Idx.got hr rfl ?_ | refine gA ?_ | ((with_reducible first | refine gD (fun h=>?_) (fun h=>?_) | refine gE (fun h=>?_) (fun h=>?_)) <;> (try simp only [lm] at h) <;> try have hw:=wn h) | with_reducible refine gI (fun x hx=>?_) | with_reducible refine gJ (fun j x hj hx=>?_) | refine gV ?_ | refine gC (spec_l17Refutes p b r h1 hro) ?_ | intro _)) <;> (try (conv=>whnf))
   ·rw [if_pos (by assumption)] at hi
    rw [← hi]
    (repeat' ((conv=>whnf) <;> (first | exact trivial | exact VC.nod (by kernel_rfl) | refine VC.mk rfl ?_)))
   ·refine nx (k+1) ?_
    rw [if_neg (by simp [*])] at hi
    exact⟨by omega,hi⟩
   ·exfalso;omega
  ·(repeat' ((conv=>whnf);first | (exfalso;omega) | refine gA ?_ | ((with_reducible first | refine gD (fun h=>?_) (fun h=>?_) | refine gE (fun h=>?_) (fun h=>?_)) <;> (try simp only [lm] at h) <;> try have hw:=wn h) | with_reducible refine gI (fun x hx=>?_) | with_reducible refine gJ (fun j x hj hx=>?_) | refine gV ?_ | intro _)) <;> (try (conv=>whnf))
   rw [drop_end' (by assumption)] at hi
   rw [← hi]
   (repeat' ((conv=>whnf) <;> (first | exact trivial | exact VC.nod (by kernel_rfl) | refine VC.mk rfl ?_)))
def explainLit (p:Proj) (b:Dom) (r:Rul) (l:Lit):List Lit×Bool:=
 if litOk p l=true∧refutes p (restrict b (negate l)) r=true then (shortened p r (fun x=>sameLit x l) (newClause (negs p b++[l])),true) else ([],false)
def RLits (r:List Lit×Bool):RV:=.tup [.fr (r.1.map Lit.av),.d (.bool r.2)]
def RLitsD (r:List Lit×Bool):RV:=.tup [.d (lits r.1),.d (.bool r.2)]
theorem impl_ExplainLiteral1 (x l:Lit):Con 347 [.d x.av,.ref l.av] (.d (.bool (sameLit x l))):=by
 refine con Tryz.func347 rfl rfl Tryz.call347 rfl fun hwf=>?_
 (repeat' ((conv=>whnf);first | refine gA ?_ | ((with_reducible first | refine gD (fun h=>?_) (fun h=>?_) | refine gE (fun h=>?_) (fun h=>?_)) <;> (try simp only [lm] at h) <;> try have hw:=wn h) | intro _)) <;> (try (conv=>whnf))
 all_goals exact⟨by simp [sameLit],rfl,trivial⟩
theorem negs_len (p:Proj) (b:Dom):(negs p b).length≤1212:=by rw [negs,List.length_map];exact domLits_len p b
theorem impl_ExplainLiteral (p:Proj) (b:Dom) (r:Rul) (l:Lit) (hp:p.fine):Con 257 [.d p.av,.d b.av,.d r.av,.d l.av] (RLits (explainLit p b r l)):=by
 refine con Tryz.func257 rfl rfl Tryz.call257 rfl fun hwf=>?_
 have hnl:=negs_len p b
 have hN:=impl_NewClause (negs p b++[l])
 rw [lits,List.map_append] at hN
 (repeat' ((conv=>whnf);first | refine gA ?_ | ((with_reducible first | refine gD (fun h=>?_) (fun h=>?_) | refine gE (fun h=>?_) (fun h=>?_)) <;> (try simp only [lm] at h) <;> try have hw:=wn h) | refine gP ?_ | refine gC (impl_LiteralOk p l hp) ?_ | refine gC (impl_Negate l) ?_ | refine gC (impl_Restrict b (negate l)) ?_ | refine gC (impl_Refutes p (restrict b (negate l)) r hp) ?_ | refine gC (impl_negations p b hp) ?_ | refine gC (hN) ?_ | refine gC (impl_shortened p r (newClause (negs p b++[l])) 347 [l.av] _ hp (fun x=>impl_ExplainLiteral1 x l)) ?_ | intro _)) <;> (try (conv=>whnf))
 ·rw [explainLit,if_pos ⟨by assumption,by assumption⟩]
  (repeat' ((conv=>whnf) <;> (first | exact trivial | exact VC.nod (by kernel_rfl) | refine VC.mk rfl ?_)))
 ·rw [explainLit,if_neg (by simp [*])]
  (repeat' ((conv=>whnf) <;> (first | exact trivial | exact VC.nod (by kernel_rfl) | refine VC.mk rfl ?_)))
 ·rw [explainLit,if_neg (by simp [*])]
  (repeat' ((conv=>whnf) <;> (first | exact trivial | exact VC.nod (by kernel_rfl) | refine VC.mk rfl ?_)))
theorem domForm_setOk' {p:Proj} {b:Dom} (h:domForm p b=true) {n:Nat} {m:List Int} (hm:b.modes[n]? =some m):setOk m=true:=by
 have hn:=(List.getElem?_eq_some_iff.1 hm).1
 obtain⟨_,l1,l2,l3,_⟩:=domForm_parts h
 obtain⟨a,x,y,m',g⟩:=dom_get h (show n < p.acts.length by omega)
 have:=g.modes
 rw [hm] at this
 cases this
 exact g.mok
theorem keptOf_at {l:List Lit} {k:Nat} {x:Lit} (h:l[k]? =some x):keptOf l (k:Int)=x:=by
 have hk:=(List.getElem?_eq_some_iff.1 h).1
 exact keptOf_in (within_iff.2 (by omega)) (by rw [Int.toNat_natCast];exact h)
theorem spec_ExplainLiteral (p:Proj) (b:Dom) (r:Rul) (l:Lit) (hp:p.fine) (hf:domForm p b=true):Con 239 [.d p.av,.d b.av,.d r.av,.d l.av] (RLitsD (explainLit p b r l)):=by
 refine con Tryz.func239 rfl rfl Tryz.call239 rfl fun hwf=>?_
 have hpo:=(domForm_parts hf).1
 have hnl:=negs_len p b
 have hs:∀m,b.modes[(negate l).act.toNat]? =some m→setOk m=true:=fun m hm=>domForm_setOk' hf hm
 have hN:=spec_NewClause (negs p b++[l])
 rw [lits,List.map_append] at hN
 have hcl:=newClause_len (negs p b++[l])
 simp only [List.length_append,List.length_cons,List.length_nil] at hcl
 have hmem:l∈newClause (negs p b++[l]):=by rw [(newClause_sorted _).2];simp
 by_cases hc:litOk p l=true∧refutes p (restrict b (negate l)) r=true
 ·obtain⟨h1,h2⟩:=hc
  (repeat' ((conv=>whnf);first | refine gA ?_ | ((with_reducible first | refine gD (fun h=>?_) (fun h=>?_) | refine gE (fun h=>?_) (fun h=>?_)) <;> (try simp only [lm] at h) <;> try have hw:=wn h) | with_reducible refine gI (fun x hx=>?_) | with_reducible refine gJ (fun j x hj hx=>?_) | refine gP ?_ | refine gV ?_ | refine gC (spec_LiteralOk p l hp) ?_ | refine gC (spec_Negate l) ?_ | refine gC (spec_Restrict b (negate l) hs) ?_ | refine gC (spec_Refutes p (restrict b (negate l)) r hp) ?_ | refine gC (spec_l18Turned p b hp) ?_ | refine gC (hN) ?_ | intro _)) <;> (try (conv=>whnf))
  refine loopF [4,6,7,10,35,36] [4,6,7] [] ?_
  (conv=>whnf)
  refine LoopC.go ((Nat)×(Nat)) (fun⟨k,j⟩=>(k≤(newClause (negs p b++[l])).length)∧(j≤k)∧(l∈(newClause (negs p b++[l])).take k→(newClause (negs p b++[l]))[j]? =some l)) (fun⟨k,j⟩=>[(37,.data (i64 k)),(11,.data (i64 j))]) (fun _=>[]) (fun _=>[]) (fun⟨k,j⟩=>(newClause (negs p b++[l])).length - k) ⟨0,0⟩ ?_ ?_
  ·exact⟨Nat.zero_le _,Nat.le_refl _,by simp⟩
  rintro⟨k,j⟩ ⟨hk,hj,hi⟩
  by_cases hlt:k < (newClause (negs p b++[l])).length
  ·obtain⟨x,hx⟩:∃x,(newClause (negs p b++[l]))[k]? =some x:=⟨(newClause (negs p b++[l]))[k]'hlt,by simp⟩
   (repeat' ((conv=>whnf);first | with_reducible refine Idx.got hx rfl ?_ | refine gA ?_ | ((with_reducible first | refine gD (fun h=>?_) (fun h=>?_) | refine gE (fun h=>?_) (fun h=>?_)) <;> (try simp only [lm] at h) <;> try have hw:=wn h) | with_reducible refine gI (fun x hx=>?_) | with_reducible refine gJ (fun j x hj hx=>?_) | refine gP ?_ | refine gV ?_ | intro _)) <;> (try (conv=>whnf))
   ·refine nx ⟨k+1,k⟩ ?_
    have e:x=l:=sameLit_iff.1 (sameLit_of (by assumption))
    exact⟨by omega,by omega,fun _=>by rw [hx,e]⟩
   ·refine nx ⟨k+1,j⟩ ?_
    refine⟨by omega,by omega,fun hm=>hi ?_⟩
    obtain⟨hk',hx'⟩:=List.getElem?_eq_some_iff.1 hx
    rw [List.take_succ_eq_append_getElem hk',List.mem_append,List.mem_singleton,hx'] at hm
    rcases hm with hm | hm
    ·exact hm
    ·have hne:=sameLit_of (by assumption)
     rw [sameLit_iff.2 hm.symm] at hne
     cases hne
   ·exfalso;omega
  ·have hj2:=hi (by rw [List.take_of_length_le (by omega)];exact hmem)
   have hS:=spec_l18Short p r (newClause (negs p b++[l])) j hp hpo
   rw [keptOf_at hj2] at hS
   (repeat' ((conv=>whnf);first | (exfalso;omega) | refine gA ?_ | ((with_reducible first | refine gD (fun h=>?_) (fun h=>?_) | refine gE (fun h=>?_) (fun h=>?_)) <;> (try simp only [lm] at h) <;> try have hw:=wn h) | with_reducible refine gI (fun x hx=>?_) | with_reducible refine gJ (fun j x hj hx=>?_) | refine gP ?_ | refine gV ?_ | refine gC (hS) ?_ | intro _)) <;> (try (conv=>whnf))
   rw [explainLit,if_pos ⟨h1,h2⟩]
   (repeat' ((conv=>whnf) <;> (first | exact trivial | exact VC.nod (by kernel_rfl) | refine VC.mk rfl ?_)))
 ·(repeat' ((conv=>whnf);first | refine gA ?_ | ((with_reducible first | refine gD (fun h=>?_) (fun h=>?_) | refine gE (fun h=>?_) (fun h=>?_)) <;> (try simp only [lm] at h) <;> try have hw:=wn h) | with_reducible refine gI (fun x hx=>?_) | with_reducible refine gJ (fun j x hj hx=>?_) | refine gP ?_ | refine gV ?_ | refine gC (spec_LiteralOk p l hp) ?_ | refine gC (spec_Negate l) ?_ | refine gC (spec_Restrict b (negate l) hs) ?_ | refine gC (spec_Refutes p (restrict b (negate l)) r hp) ?_ | refine gC (spec_l18Turned p b hp) ?_ | refine gC (hN) ?_ | intro _)) <;> (try (conv=>whnf))
  ·exact absurd ⟨by assumption,by assumption⟩ hc
  ·rw [explainLit,if_neg hc]
   (repeat' ((conv=>whnf) <;> (first | exact trivial | exact VC.nod (by kernel_rfl) | refine VC.mk rfl ?_)))
  ·rw [explainLit,if_neg hc]
   (repeat' ((conv=>whnf) <;> (first | exact trivial | exact VC.nod (by kernel_rfl) | refine VC.mk rfl ?_)))
end Go.Proofs.YtkiohdpapinecaaGreat.Abs
