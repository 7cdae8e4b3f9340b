/- Contracts: a refutation is found; literals that follow from a rule are explained. No statement of a claim. -/
import Derived.Test.YtfhojdalheinaaaGreatC28
import Derived.Test.YtfhojdalheinaaaGreatC12
set_option linter.all false
set_option linter.unusedVariables false
set_option linter.unusedSimpArgs false
set_option maxRecDepth 20000
set_option maxHeartbeats 4000000
namespace Go.Proofs.YtfhojdalheinaaaGreat.Abs
open Go.Proofs
theorem candAll_ok {p:Proj} {b:Dom} (hu:usable p b=true) {r:Rul} (h:r∈candAll p b):ruleOk p r=true:=by
 have hpo:=(domForm_parts (usable_parts hu).1).1
 simp only [candAll,plainRules,pairRules,List.mem_append,List.mem_map,List.mem_flatMap,List.mem_range] at h
 rcases h with (((⟨k,hk,rfl⟩ | ⟨k,hk,rfl⟩) | ⟨k,hk,rfl⟩) | ⟨i,hi,h⟩) | ⟨i,hi,a,ha,h⟩
 ·have hw:within (k:Int) 0 ((p.links.length:Int) - 1)=true:=within_iff.2 (by omega)
  simp [ruleOk,linkRule,hpo,hw]
 ·have hw:hasAct p (k:Int)=true:=within_iff.2 (by omega)
  simp [ruleOk,endRule,hpo,hw]
 ·have hw:hasStock p (k:Int)=true:=within_iff.2 (by omega)
  simp [ruleOk,stockRule,hpo,hw]
 ·have hw:hasRes p (i:Int)=true:=within_iff.2 (by omega)
  obtain⟨x,hx⟩:∃x,p.ress[i]? =some x:=⟨p.ress[i]'hi,by simp⟩
  rw [resRules_eq hx,List.mem_append,List.mem_map,List.mem_map] at h
  rcases h with⟨t,ht,rfl⟩ | ⟨q,hq,rfl⟩
  ·have:=(List.mem_filter.1 ht).2
   simp [ruleOk,tRule,hpo,hw,this]
  ·obtain⟨u,v,rfl,h1,h2,h3⟩:=intervals_two hq
   simp [ruleOk,wRule,hpo,hw,h1,h2,h3]
 ·unfold pairsOf at h
  split at h
  ·rename_i hm
   obtain⟨j,hj,rfl⟩:=List.mem_map.1 h
   have hj:=List.mem_range.1 hj
   have h1:hasAct p (a:Int)=true:=within_iff.2 (by omega)
   have h2:hasAct p ((a+1+j:Nat):Int)=true:=within_iff.2 (by omega)
   have h3:(a:Int) < ((a+1+j:Nat):Int):=by omega
   unfold ruleOk pairRule
   dsimp only
   rw [hpo,Bool.true_and,if_neg (by decide),if_neg (by decide),if_neg (by decide),if_neg (by decide),if_pos rfl]
   simp only [hm,h1,h2,decide_eq_true h3]
   rfl
  ·simp at h
def zeroRul:Rul:=⟨0,0,0,0⟩
def findRef (p:Proj) (b:Dom):Option Rul:=if domForm p b=true∧domEmpty b=true then some zeroRul else (candRules p b).find? (refutes p b)
def RRul (o:Option Rul):RV:=.tup [.d (o.getD zeroRul).av,.d (.bool o.isSome)]
theorem find_next {α:Type} {f:α→Bool} {l:List α} {k:Nat} {x:α} (h:l[k]? =some x):(l.drop k).find? f=if f x=true then some x else (l.drop (k+1)).find? f:=by
 rw [drop_get h,List.find?_cons];cases f x <;> rfl
theorem candRules_len (p:Proj) (b:Dom):(candRules p b).length≤300:=by
 unfold candRules
 split
 ·rename_i hu
  have hf:=(usable_parts hu).1
  have hpo:=(domForm_parts hf).1
  have h1:=plain_len hpo
  have h2:=pair_len hpo
  have h3:=intervals_len hf
  obtain⟨_,hr3,_,_⟩:=proj_small hpo
  obtain⟨_,l1,l2,l3,_⟩:=domForm_parts hf
  have hna:=(projForm hpo).nact
  have h4:∀i,(resRules p b i).length≤50:=fun i=>by
   unfold resRules
   split
   ·rename_i x hx
    have h5:=steps_few hpo hx
    have h6:=setOf_len (b.hi++x.steps.map Step.at')
    have h7:=List.length_filter_le isTime (setOf (b.hi++x.steps.map Step.at'))
    simp only [List.length_append,List.length_map] at h6
    simp only [timesAt,List.length_append,List.length_map];omega
   ·simp
  have h5:=flatMap_len (f:=resRules p b) (c:=50) (l:=List.range p.ress.length) fun i _=>h4 i
  simp only [List.length_range] at h5
  simp only [candAll,List.length_append];omega
 ·simp
theorem impl_FindRefutation (p:Proj) (b:Dom) (hp:p.fine):Con 172 [.d p.av,.d b.av] (RRul (findRef p b)):=by
 refine con Tryz.func172 rfl rfl Tryz.call172 rfl fun hwf=>?_
 simp only [ARs.wf,AR.wf,AV.wf,AV.wfs,List.length_map,lim] at hwf
 have hl:=candRules_len p b
 cases h1:domForm p b with
 | false=>
  rw [findRef,if_neg (by simp [h1])]
  (repeat' ((conv=>whnf);first | refine gA ?_ | (refine gB ?_ ?_ <;> intro h) | (refine gI ?_;intro x hx) | (refine gJ ?_;intro j x hj hx) | refine gV ?_ | refine gC (impl_DomainForm p b hp) ?_ | refine gC (impl_DomainEmpty b) ?_ | refine gC (impl_CandidateRules p b hp) ?_ | intro _)) <;> try (conv=>whnf)
  refine loopF [2,3,4,18,19] [2,3,4] [] ?_
  (conv=>whnf)
  refine LoopC.go ((Nat)) (fun k=>(k≤(candRules p b).length)∧(((candRules p b).drop k).find? (refutes p b)=(candRules p b).find? (refutes p b))) (fun k=>[(20,.data (i64 k))]) (fun _=>[]) (fun _=>[]) (fun k=>(candRules p b).length - k) (0) ?_ ?_
  ·exact⟨Nat.zero_le _,rfl⟩
  rintro k ⟨hk,hi⟩
  by_cases hlt:k < (candRules p b).length
  ·obtain⟨r,hr⟩:∃r,(candRules p b)[k]? =some r:=⟨(candRules p b)[k]'hlt,by simp⟩
   rw [find_next hr] at hi
   (repeat' ((conv=>whnf);first | with_reducible refine Idx.got hr rfl ?_ | refine gA ?_ | (refine gB ?_ ?_ <;> intro h) | (refine gI ?_;intro x hx) | (refine gJ ?_;intro j x hj hx) | refine gV ?_ | refine gC (impl_Refutes p b r hp) ?_ | intro _)) <;> try (conv=>whnf)
   ·rw [if_pos (by assumption)] at hi
    rw [← hi]
    (repeat' ((conv=>whnf) <;> (first | exact trivial | exact VC.nod (by kernel_rfl) | refine VC.mk rfl ?_)))
   ·refine nx (k+1) ?_
    rw [if_neg (by simp [*])] at hi
    exact⟨by omega,hi⟩
   ·exfalso;omega
  ·(repeat' ((conv=>whnf);first | (exfalso;omega) | refine gA ?_ | (refine gB ?_ ?_ <;> intro h) | (refine gI ?_;intro x hx) | (refine gJ ?_;intro j x hj hx) | refine gV ?_ | intro _)) <;> try (conv=>whnf)
   rw [drop_end' (by assumption)] at hi
   rw [← hi]
   (repeat' ((conv=>whnf) <;> (first | exact trivial | exact VC.nod (by kernel_rfl) | refine VC.mk rfl ?_)))
 | true=>
 cases h2:domEmpty b with
 | true=>
  rw [findRef,if_pos ⟨h1,h2⟩]
  (repeat' ((conv=>whnf);first | refine gA ?_ | (refine gB ?_ ?_ <;> intro h) | (refine gI ?_;intro x hx) | (refine gJ ?_;intro j x hj hx) | refine gV ?_ | refine gC (impl_DomainForm p b hp) ?_ | refine gC (impl_DomainEmpty b) ?_ | intro _)) <;> try (conv=>whnf)
  (repeat' ((conv=>whnf) <;> (first | exact trivial | exact VC.nod (by kernel_rfl) | refine VC.mk rfl ?_)))
 | false=>
  rw [findRef,if_neg (by simp [h2])]
  (repeat' ((conv=>whnf);first | refine gA ?_ | (refine gB ?_ ?_ <;> intro h) | (refine gI ?_;intro x hx) | (refine gJ ?_;intro j x hj hx) | refine gV ?_ | refine gC (impl_DomainForm p b hp) ?_ | refine gC (impl_DomainEmpty b) ?_ | refine gC (impl_CandidateRules p b hp) ?_ | intro _)) <;> try (conv=>whnf)
  refine loopF [2,3,4,18,19] [2,3,4] [] ?_
  (conv=>whnf)
  refine LoopC.go ((Nat)) (fun k=>(k≤(candRules p b).length)∧(((candRules p b).drop k).find? (refutes p b)=(candRules p b).find? (refutes p b))) (fun k=>[(20,.data (i64 k))]) (fun _=>[]) (fun _=>[]) (fun k=>(candRules p b).length - k) (0) ?_ ?_
  ·exact⟨Nat.zero_le _,rfl⟩
  rintro k ⟨hk,hi⟩
  by_cases hlt:k < (candRules p b).length
  ·obtain⟨r,hr⟩:∃r,(candRules p b)[k]? =some r:=⟨(candRules p b)[k]'hlt,by simp⟩
   rw [find_next hr] at hi
   (repeat' ((conv=>whnf);first | with_reducible refine Idx.got hr rfl ?_ | refine gA ?_ | (refine gB ?_ ?_ <;> intro h) | (refine gI ?_;intro x hx) | (refine gJ ?_;intro j x hj hx) | refine gV ?_ | refine gC (impl_Refutes p b r hp) ?_ | intro _)) <;> try (conv=>whnf)
   ·rw [if_pos (by assumption)] at hi
    rw [← hi]
    (repeat' ((conv=>whnf) <;> (first | exact trivial | exact VC.nod (by kernel_rfl) | refine VC.mk rfl ?_)))
   ·refine nx (k+1) ?_
    rw [if_neg (by simp [*])] at hi
    exact⟨by omega,hi⟩
   ·exfalso;omega
  ·(repeat' ((conv=>whnf);first | (exfalso;omega) | refine gA ?_ | (refine gB ?_ ?_ <;> intro h) | (refine gI ?_;intro x hx) | (refine gJ ?_;intro j x hj hx) | refine gV ?_ | intro _)) <;> try (conv=>whnf)
   rw [drop_end' (by assumption)] at hi
   rw [← hi]
   (repeat' ((conv=>whnf) <;> (first | exact trivial | exact VC.nod (by kernel_rfl) | refine VC.mk rfl ?_)))
theorem refutes_fails {p:Proj} {b:Dom} {r:Rul} (hu:usable p b=true) (ho:ruleOk p r=true):refutes p b r=fails p b r:=by
 obtain⟨h1,h2⟩:=usable_parts hu
 simp [refutes,h1,h2,ho]
theorem spec_FindRefutation (p:Proj) (b:Dom) (hp:p.fine):Con 168 [.d p.av,.d b.av] (RRul (findRef p b)):=by
 refine con Tryz.func168 rfl rfl Tryz.call168 rfl fun hwf=>?_
 simp only [ARs.wf,AR.wf,AV.wf,AV.wfs,List.length_map,lim] at hwf
 cases h1:domForm p b with
 | false=>
  have e:findRef p b=none:=by
   rw [findRef,if_neg (by simp [h1]),candRules,if_neg (by simp [usable,h1])];rfl
  rw [e]
  (repeat' ((conv=>whnf);first | refine gA ?_ | (refine gB ?_ ?_ <;> intro h) | (refine gI ?_;intro x hx) | (refine gJ ?_;intro j x hj hx) | refine gV ?_ | refine gC (spec_DomainForm p b hp) ?_ | intro _)) <;> try (conv=>whnf)
  (repeat' ((conv=>whnf) <;> (first | exact trivial | exact VC.nod (by kernel_rfl) | refine VC.mk rfl ?_)))
 | true=>
 cases h2:domEmpty b with
 | true=>
  rw [findRef,if_pos ⟨h1,h2⟩]
  (repeat' ((conv=>whnf);first | refine gA ?_ | (refine gB ?_ ?_ <;> intro h) | (refine gI ?_;intro x hx) | (refine gJ ?_;intro j x hj hx) | refine gV ?_ | refine gC (spec_DomainForm p b hp) ?_ | refine gC (spec_DomainEmpty b) ?_ | intro _)) <;> try (conv=>whnf)
  (repeat' ((conv=>whnf) <;> (first | exact trivial | exact VC.nod (by kernel_rfl) | refine VC.mk rfl ?_)))
 | false=>
  have hu:usable p b=true:=by simp [usable,h1,h2]
  have hl:=candRules_len p b
  rw [candRules,if_pos hu] at hl
  rw [findRef,if_neg (by simp [h2]),candRules,if_pos hu]
  (repeat' ((conv=>whnf);first | refine gA ?_ | (refine gB ?_ ?_ <;> intro h) | (refine gI ?_;intro x hx) | (refine gJ ?_;intro j x hj hx) | refine gV ?_ | refine gC (spec_DomainForm p b hp) ?_ | refine gC (spec_DomainEmpty b) ?_ | refine gC (spec_l17For p b hp hu) ?_ | intro _)) <;> try (conv=>whnf)
  refine loopF [2,3,4,18,19] [2,3,4] [] ?_
  (conv=>whnf)
  refine LoopC.go ((Nat)) (fun k=>(k≤(candAll p b).length)∧(((candAll p b).drop k).find? (refutes p b)=(candAll p b).find? (refutes p b))) (fun k=>[(20,.data (i64 k))]) (fun _=>[]) (fun _=>[]) (fun k=>(candAll p b).length - k) (0) ?_ ?_
  ·exact⟨Nat.zero_le _,rfl⟩
  rintro k ⟨hk,hi⟩
  by_cases hlt:k < (candAll p b).length
  ·obtain⟨r,hr⟩:∃r,(candAll p b)[k]? =some r:=⟨(candAll p b)[k]'hlt,by simp⟩
   have hro:=candAll_ok hu (List.mem_of_getElem? hr)
   rw [find_next hr,refutes_fails hu hro] at hi
   (repeat' ((conv=>whnf);first | with_reducible refine Idx.got hr rfl ?_ | refine gA ?_ | (refine gB ?_ ?_ <;> intro h) | (refine gI ?_;intro x hx) | (refine gJ ?_;intro j x hj hx) | refine gV ?_ | refine gC (spec_l17Refutes p b r h1 hro) ?_ | intro _)) <;> try (conv=>whnf)
   ·rw [if_pos (by assumption)] at hi
    rw [← hi]
    (repeat' ((conv=>whnf) <;> (first | exact trivial | exact VC.nod (by kernel_rfl) | refine VC.mk rfl ?_)))
   ·refine nx (k+1) ?_
    rw [if_neg (by simp [*])] at hi
    exact⟨by omega,hi⟩
   ·exfalso;omega
  ·(repeat' ((conv=>whnf);first | (exfalso;omega) | refine gA ?_ | (refine gB ?_ ?_ <;> intro h) | (refine gI ?_;intro x hx) | (refine gJ ?_;intro j x hj hx) | refine gV ?_ | intro _)) <;> try (conv=>whnf)
   rw [drop_end' (by assumption)] at hi
   rw [← hi]
   (repeat' ((conv=>whnf) <;> (first | exact trivial | exact VC.nod (by kernel_rfl) | refine VC.mk rfl ?_)))
def explainLit (p:Proj) (b:Dom) (r:Rul) (l:Lit):List Lit×Bool:=
 if litOk p l=true∧refutes p (restrict b (negate l)) r=true then (shortened p r (fun x=>sameLit x l) (newClause (negs p b++[l])),true) else ([],false)
def RLits (r:List Lit×Bool):RV:=.tup [.fr (r.1.map Lit.av),.d (.bool r.2)]
def RLitsD (r:List Lit×Bool):RV:=.tup [.d (lits r.1),.d (.bool r.2)]
end Go.Proofs.YtfhojdalheinaaaGreat.Abs
set_option linter.unusedVariables false
set_option linter.unusedSimpArgs false
set_option maxRecDepth 20000
set_option maxHeartbeats 4000000
namespace Go.Proofs.YtfhojdalheinaaaGreat.Abs
open Go.Proofs
def refB (p:Proj) (b:Dom) (r:Rul) (k:Int) (a:Nat) (n:Int):Bool:=refutes p (restrict b ⟨k,a,n⟩) r
def goUp (f:Int→Bool) (hi:Int):Nat→Int→Int
 | 0,n=>n
 | k+1,n=>if n≤hi∧f n=true then goUp f hi k (n+1) else n
def goDn (f:Int→Bool) (lo:Int):Nat→Int→Int
 | 0,n=>n
 | k+1,n=>if n≥lo∧f n=true then goDn f lo k (n - 1) else n
def atLeast (k:Nat) (lo n:Int):List Lit:=if n > lo then [⟨1,k,n⟩] else []
def atMost (k:Nat) (up n:Int):List Lit:=if n < up then [⟨2,k,n⟩] else []
def inferAt (p:Proj) (b:Dom) (r:Rul) (k:Nat) (lo up:Int) (m:List Int):List Lit:=
 atLeast k lo (goUp (refB p b r 2 k) up (up+1 - lo).toNat lo)++atMost k up (goDn (refB p b r 1 k) lo (up+1 - lo).toNat up)++
  (m.filter fun v=>decide (m.length > 1)&&refB p b r 3 k v).map fun v=>⟨4,k,v⟩
def inferA (p:Proj) (b:Dom) (r:Rul) (k:Nat):List Lit:=
 match b.lo[k]?,b.hi[k]?,b.modes[k]? with
 | some lo,some up,some m=>inferAt p b r k lo up m
 | _,_,_=>[]
end Go.Proofs.YtfhojdalheinaaaGreat.Abs
set_option linter.unusedVariables false
set_option linter.unusedSimpArgs false
set_option maxRecDepth 20000
set_option maxHeartbeats 4000000
namespace Go.Proofs.YtfhojdalheinaaaGreat.Abs
open Go.Proofs
def inferOf (p:Proj) (b:Dom) (r:Rul) (a:Int):Option Infer:=(inferA p b r a.toNat).head?.map fun l=>⟨l,r,(explainLit p b r l).1⟩
def inferOn (p:Proj) (b:Dom) (r:Rul):Option Infer:=(ruleActs p r).findSome? (inferOf p b r)
def firstInf (p:Proj) (b:Dom):Option Infer:=if (findRef p b).isSome=true then none else (candRules p b).findSome? (inferOn p b)
def zeroInf:Infer:=⟨zeroLit,zeroRul,[]⟩
def RInf (o:Option Infer):RV:=let x:=o.getD zeroInf;.tup [.agg [.d (i64 x.lit.kind),.d (i64 x.lit.act),.d (i64 x.lit.val),.d (i64 x.rule.kind),.d (i64 x.rule.a),.d (i64 x.rule.b),.d (i64 x.rule.c),.fr (x.clause.map Lit.av)],.d (.bool o.isSome)]
def RInfD (o:Option Infer):RV:=.tup [.d (o.getD zeroInf).av,.d (.bool o.isSome)]
def isFix (p:Proj) (b:Dom):Bool:=usable p b&& !(findRef p b).isSome&& !(firstInf p b).isSome
end Go.Proofs.YtfhojdalheinaaaGreat.Abs
