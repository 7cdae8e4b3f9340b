/- Contracts: what a rule refutes, what follows from it. No statement of a claim. -/
import Derived.Test.YtfhojdalheinaaaGreatC10
set_option linter.all false
set_option linter.unusedVariables false
set_option linter.unusedSimpArgs false
set_option maxRecDepth 20000
set_option maxHeartbeats 4000000
namespace Go.Proofs.YtfhojdalheinaaaGreat.Abs
open Go.Proofs
inductive RuleKind (p:Proj) (r:Rul):Prop
 | link (h:r.kind=1) (k:Nat) (l:Link) (e:r.a=k) (hl:p.links[k]? =some l)
 | fin (h:r.kind=2) (ha:hasAct p r.a=true)
 | time (h:r.kind=3) (ha:hasRes p r.a=true) (hb:isTime r.b=true)
 | work (h:r.kind=4) (ha:hasRes p r.a=true) (hb:isTime r.b=true) (hc:isTime r.c=true) (hlt:r.b < r.c)
 | pair (h:r.kind=5) (ha:isMach p r.a=true) (hb:hasAct p r.b=true) (hc:hasAct p r.c=true) (hlt:r.b < r.c)
 | stock (h:r.kind=6) (ha:hasStock p r.a=true)
theorem ruleKind {p:Proj} {r:Rul} (h:ruleOk p r=true):RuleKind p r:=by
 simp only [ruleOk,Bool.and_eq_true] at h
 replace h:=h.2
 split at h
 ·rename_i hk
  simp only [Bool.and_eq_true] at h
  have hn:=within_iff.1 h.1.1
  exact .link hk r.a.toNat (p.links[r.a.toNat]'(by omega)) (by omega) (by simp)
 split at h
 ·rename_i hk
  simp only [Bool.and_eq_true] at h
  exact .fin hk h.1.1
 split at h
 ·rename_i hk
  simp only [Bool.and_eq_true] at h
  exact .time hk h.1.1 h.1.2
 split at h
 ·rename_i hk
  simp only [Bool.and_eq_true,decide_eq_true_eq] at h
  exact .work hk h.1.1.1 h.1.1.2 h.1.2 h.2
 split at h
 ·rename_i hk
  simp only [Bool.and_eq_true,decide_eq_true_eq] at h
  exact .pair hk h.1.1.1 h.1.1.2 h.1.2 h.2
 split at h
 ·rename_i hk
  simp only [Bool.and_eq_true] at h
  exact .stock hk h.1.1
 ·simp at h
theorem dom_act {p:Proj} {b:Dom} (hf:domForm p b=true) {n:Int} (h:hasAct p n=true):∃(k:Nat) (a:Activ) (x y:Int) (m:List Int),n=k∧DomGet p b k a x y m:=by
 obtain⟨k,_,e1,e2⟩:=hasAct_get h
 obtain⟨a,x,y,m,hg⟩:=dom_get hf (List.getElem?_eq_some_iff.1 e2).1
 exact⟨k,a,x,y,m,e1,hg⟩
theorem impl_Refutes (p:Proj) (b:Dom) (r:Rul) (hp:p.fine):Con 257 [.d p.av,.d b.av,.d r.av] (.d (.bool (refutes p b r))):=by
 refine con Tryz.func257 rfl rfl Tryz.call257 rfl fun hwf=>?_
 cases hf:domForm p b with
 | false=>
  (repeat' ((conv=>whnf);first | refine gA ?_ | (refine gB ?_ ?_ <;> intro h) | (refine gI ?_;intro x hx) | (refine gJ ?_;intro j x hj hx) | refine gV ?_ | refine gC (impl_DomainForm p b hp) ?_ | intro _)) <;> try (conv=>whnf)
  refine⟨?_,rfl,trivial⟩;simp [refutes,hf]
 | true=>
 cases he:domEmpty b with
 | true=>
  (repeat' ((conv=>whnf);first | refine gA ?_ | (refine gB ?_ ?_ <;> intro h) | (refine gI ?_;intro x hx) | (refine gJ ?_;intro j x hj hx) | refine gV ?_ | refine gC (impl_DomainForm p b hp) ?_ | refine gC (impl_DomainEmpty b) ?_ | intro _)) <;> try (conv=>whnf)
  refine⟨?_,rfl,trivial⟩;simp [refutes,hf,he]
 | false=>
 cases ho:ruleOk p r with
 | false=>
  (repeat' ((conv=>whnf);first | refine gA ?_ | (refine gB ?_ ?_ <;> intro h) | (refine gI ?_;intro x hx) | (refine gJ ?_;intro j x hj hx) | refine gV ?_ | refine gC (impl_DomainForm p b hp) ?_ | refine gC (impl_DomainEmpty b) ?_ | refine gC (impl_RuleOk p r hp) ?_ | intro _)) <;> try (conv=>whnf)
  refine⟨?_,rfl,trivial⟩;simp [refutes,hf,he,ho]
 | true=>
 have hu:usable p b=true:=by simp [usable,hf,he]
 have hok:=(domForm_parts hf).1
 have e:refutes p b r=fails p b r:=by simp [refutes,hf,he,ho]
 rw [e]
 cases ruleKind ho with
 | link hk k l e1 hl=>
  have hlo:=(projForm hok).link k l hl
  (repeat' ((conv=>whnf);first | with_reducible refine Br.yes (decide_eq_true (by omega)) ?_ | with_reducible refine Br.no (decide_eq_false (by omega)) ?_ | with_reducible refine Idx.got hl e1 ?_ | refine gA ?_ | (refine gB ?_ ?_ <;> intro h) | (refine gI ?_;intro x hx) | (refine gJ ?_;intro j x hj hx) | refine gV ?_ | refine gC (impl_DomainForm p b hp) ?_ | refine gC (impl_DomainEmpty b) ?_ | refine gC (impl_RuleOk p r hp) ?_ | refine gC (impl_refutesLink p b l hf hlo) ?_ | intro _)) <;> try (conv=>whnf)
  refine⟨?_,rfl,trivial⟩
  simp [fails,hk,linkOf,e1,List.getD_eq_getElem?_getD,hl]
 | fin hk ha=>
  obtain⟨k,a,x,y,m,e1,hg⟩:=dom_act hf ha
  have hd:=minDur_bound hg.aok m
  rw [← durOf_eq hg] at hd
  have h1:=hg.lob
  (repeat' ((conv=>whnf);first | with_reducible refine Br.yes (decide_eq_true (by omega)) ?_ | with_reducible refine Br.no (decide_eq_false (by omega)) ?_ | with_reducible refine Idx.got hg.lo e1 ?_ | refine gA ?_ | (refine gB ?_ ?_ <;> intro h) | (refine gI ?_;intro x hx) | (refine gJ ?_;intro j x hj hx) | refine gV ?_ | refine gC (impl_DomainForm p b hp) ?_ | refine gC (impl_DomainEmpty b) ?_ | refine gC (impl_RuleOk p r hp) ?_ | refine gC (impl_duration p b r.a hg e1) ?_ | intro _)) <;> try (conv=>whnf)
  refine⟨?_,rfl,trivial⟩
  simp [fails,hk,e1,List.getD_eq_getElem?_getD,hg.lo]
 | time hk ha hb=>
  obtain⟨ρ,x,e1,e2,e3⟩:=hasRes_lt ha
  (repeat' ((conv=>whnf);first | with_reducible refine Br.yes (decide_eq_true (by omega)) ?_ | with_reducible refine Br.no (decide_eq_false (by omega)) ?_ | with_reducible refine Idx.got e2 e1 ?_ | refine gA ?_ | (refine gB ?_ ?_ <;> intro h) | (refine gI ?_;intro x hx) | (refine gJ ?_;intro j x hj hx) | refine gV ?_ | refine gC (impl_DomainForm p b hp) ?_ | refine gC (impl_DomainEmpty b) ?_ | refine gC (impl_RuleOk p r hp) ?_ | refine gC (impl_compulsoryUsage p b r.a r.b hf) ?_ | refine gC (impl_capacityAt x.steps r.b) ?_ | intro _)) <;> try (conv=>whnf)
  refine⟨?_,rfl,trivial⟩
  simp [fails,hk,e3]
 | work hk ha hb hc hlt=>
  (repeat' ((conv=>whnf);first | with_reducible refine Br.yes (decide_eq_true (by omega)) ?_ | with_reducible refine Br.no (decide_eq_false (by omega)) ?_ | refine gA ?_ | (refine gB ?_ ?_ <;> intro h) | (refine gI ?_;intro x hx) | (refine gJ ?_;intro j x hj hx) | refine gV ?_ | refine gC (impl_DomainForm p b hp) ?_ | refine gC (impl_DomainEmpty b) ?_ | refine gC (impl_RuleOk p r hp) ?_ | refine gC (impl_IsOverworked p b r.a r.b r.c hp hu ha hb hc hlt) ?_ | intro _)) <;> try (conv=>whnf)
  refine⟨?_,rfl,trivial⟩
  simp [fails,hk]
 | pair hk ha hb hc hlt=>
  obtain⟨k,a,x,y,m,e1,hg⟩:=dom_act hf hb
  obtain⟨k',a',x',y',m',e1',hg'⟩:=dom_act hf hc
  (repeat' ((conv=>whnf);first | with_reducible refine Br.yes (decide_eq_true (by omega)) ?_ | with_reducible refine Br.no (decide_eq_false (by omega)) ?_ | refine gA ?_ | (refine gB ?_ ?_ <;> intro h) | (refine gI ?_;intro x hx) | (refine gJ ?_;intro j x hj hx) | refine gV ?_ | refine gC (impl_DomainForm p b hp) ?_ | refine gC (impl_DomainEmpty b) ?_ | refine gC (impl_RuleOk p r hp) ?_ | refine gC (impl_PairConflict p b r.a r.b r.c hg e1 hg' e1' hp hu ha hb hc (by omega)) ?_ | intro _)) <;> try (conv=>whnf)
  refine⟨?_,rfl,trivial⟩
  simp [fails,hk]
 | stock hk ha=>
  (repeat' ((conv=>whnf);first | with_reducible refine Br.yes (decide_eq_true (by omega)) ?_ | with_reducible refine Br.no (decide_eq_false (by omega)) ?_ | refine gA ?_ | (refine gB ?_ ?_ <;> intro h) | (refine gI ?_;intro x hx) | (refine gJ ?_;intro j x hj hx) | refine gV ?_ | refine gC (impl_DomainForm p b hp) ?_ | refine gC (impl_DomainEmpty b) ?_ | refine gC (impl_RuleOk p r hp) ?_ | refine gC (impl_refutesStock p b r.a hf ha) ?_ | intro _)) <;> try (conv=>whnf)
  refine⟨?_,rfl,trivial⟩
  simp [fails,hk]
theorem spec_l17Refutes (p:Proj) (b:Dom) (r:Rul) (hf:domForm p b=true) (ho:ruleOk p r=true):Con 249 [.d p.av,.d b.av,.d r.av] (.d (.bool (fails p b r))):=by
 refine con Tryz.func249 rfl rfl Tryz.call249 rfl fun hwf=>?_
 have hok:=(domForm_parts hf).1
 cases ruleKind ho with
 | link hk k l e1 hl=>
  have hlo:=(projForm hok).link k l hl
  simp only [linkOk,Bool.and_eq_true] at hlo
  obtain⟨k1,_,f1,g1⟩:=hasAct_get hlo.1.1.1
  obtain⟨k2,_,f2,g2⟩:=hasAct_get hlo.1.1.2
  have hlag:=within_iff.1 hlo.2
  obtain⟨a,x,y,m,hg⟩:=dom_get hf (List.getElem?_eq_some_iff.1 g1).1
  obtain⟨a',x',y',m',hg'⟩:=dom_get hf (List.getElem?_eq_some_iff.1 g2).1
  have hd:=minDur_bound hg.aok m
  rw [← durOf_eq hg] at hd
  have h1:=hg.lob
  (repeat' ((conv=>whnf);first | with_reducible refine Br.yes (decide_eq_true (by omega)) ?_ | with_reducible refine Br.no (decide_eq_false (by omega)) ?_ | with_reducible refine Idx.got hl e1 ?_ | with_reducible refine Idx.got hg.lo f1 ?_ | with_reducible refine Idx.got hg'.hi f2 ?_ | refine gA ?_ | (refine gB ?_ ?_ <;> intro h) | (refine gI ?_;intro x hx) | (refine gJ ?_;intro j x hj hx) | refine gV ?_ | refine gC (spec_l14Short p b _ hg f1) ?_ | intro _)) <;> try (conv=>whnf)
  all_goals refine⟨?_,rfl,trivial⟩
  all_goals
   have e:fails p b r=linkFails p b l:=by simp [fails,hk,linkOf,e1,List.getD_eq_getElem?_getD,hl]
   rw [e]
   simp only [AV.bool.injEq]
   rw [Bool.eq_iff_iff]
   simp [linkFails,f1,f2,List.getD_eq_getElem?_getD,hg.lo,hg'.hi, *]
  all_goals omega
 | fin hk ha=>
  obtain⟨k,a,x,y,m,e1,hg⟩:=dom_act hf ha
  have hd:=minDur_bound hg.aok m
  rw [← durOf_eq hg] at hd
  have h1:=hg.lob
  (repeat' ((conv=>whnf);first | with_reducible refine Br.yes (decide_eq_true (by omega)) ?_ | with_reducible refine Br.no (decide_eq_false (by omega)) ?_ | with_reducible refine Idx.got hg.lo e1 ?_ | refine gA ?_ | (refine gB ?_ ?_ <;> intro h) | (refine gI ?_;intro x hx) | (refine gJ ?_;intro j x hj hx) | refine gV ?_ | refine gC (spec_l14Short p b r.a hg e1) ?_ | intro _)) <;> try (conv=>whnf)
  refine⟨?_,rfl,trivial⟩
  simp [fails,hk,e1,List.getD_eq_getElem?_getD,hg.lo]
 | time hk ha hb=>
  obtain⟨ρ,x,e1,e2,e3⟩:=hasRes_lt ha
  (repeat' ((conv=>whnf);first | with_reducible refine Br.yes (decide_eq_true (by omega)) ?_ | with_reducible refine Br.no (decide_eq_false (by omega)) ?_ | with_reducible refine Idx.got e2 e1 ?_ | refine gA ?_ | (refine gB ?_ ?_ <;> intro h) | (refine gI ?_;intro x hx) | (refine gJ ?_;intro j x hj hx) | refine gV ?_ | refine gC (spec_l14Use p b r.a r.b hf) ?_ | refine gC (spec_l03At x.steps r.b) ?_ | intro _)) <;> try (conv=>whnf)
  refine⟨?_,rfl,trivial⟩
  simp [fails,hk,e3]
 | work hk ha hb hc hlt=>
  (repeat' ((conv=>whnf);first | with_reducible refine Br.yes (decide_eq_true (by omega)) ?_ | with_reducible refine Br.no (decide_eq_false (by omega)) ?_ | refine gA ?_ | (refine gB ?_ ?_ <;> intro h) | (refine gI ?_;intro x hx) | (refine gJ ?_;intro j x hj hx) | refine gV ?_ | refine gC (spec_l15Over p b r.a r.b r.c hf ha) ?_ | intro _)) <;> try (conv=>whnf)
  refine⟨?_,rfl,trivial⟩
  simp [fails,hk]
 | pair hk ha hb hc hlt=>
  obtain⟨k,a,x,y,m,e1,hg⟩:=dom_act hf hb
  obtain⟨k',a',x',y',m',e1',hg'⟩:=dom_act hf hc
  (repeat' ((conv=>whnf);first | with_reducible refine Br.yes (decide_eq_true (by omega)) ?_ | with_reducible refine Br.no (decide_eq_false (by omega)) ?_ | refine gA ?_ | (refine gB ?_ ?_ <;> intro h) | (refine gI ?_;intro x hx) | (refine gJ ?_;intro j x hj hx) | refine gV ?_ | refine gC (spec_l16Jam p b r.a r.b r.c hg e1 hg' e1' hok ha) ?_ | intro _)) <;> try (conv=>whnf)
  refine⟨?_,rfl,trivial⟩
  simp [fails,hk]
 | stock hk ha=>
  (repeat' ((conv=>whnf);first | with_reducible refine Br.yes (decide_eq_true (by omega)) ?_ | with_reducible refine Br.no (decide_eq_false (by omega)) ?_ | refine gA ?_ | (refine gB ?_ ?_ <;> intro h) | (refine gI ?_;intro x hx) | (refine gJ ?_;intro j x hj hx) | refine gV ?_ | refine gC (spec_l17Stock p b r.a hf ha) ?_ | intro _)) <;> try (conv=>whnf)
  refine⟨?_,rfl,trivial⟩
  simp [fails,hk]
theorem spec_Refutes (p:Proj) (b:Dom) (r:Rul) (hp:p.fine):Con 251 [.d p.av,.d b.av,.d r.av] (.d (.bool (refutes p b r))):=by
 refine con Tryz.func251 rfl rfl Tryz.call251 rfl fun hwf=>?_
 cases hf:domForm p b with
 | false=>
  (repeat' ((conv=>whnf);first | refine gA ?_ | (refine gB ?_ ?_ <;> intro h) | refine gC (spec_DomainForm p b hp) ?_ | intro _)) <;> try (conv=>whnf)
  refine⟨?_,rfl,trivial⟩;simp [refutes,hf]
 | true=>
 cases ho:ruleOk p r with
 | false=>
  (repeat' ((conv=>whnf);first | refine gA ?_ | (refine gB ?_ ?_ <;> intro h) | refine gC (spec_DomainForm p b hp) ?_ | refine gC (spec_DomainEmpty b) ?_ | refine gC (spec_RuleOk p r hp) ?_ | intro _)) <;> try (conv=>whnf)
  all_goals (refine⟨?_,rfl,trivial⟩;simp [refutes,hf,ho, *])
 | true=>
  (repeat' ((conv=>whnf);first | refine gA ?_ | (refine gB ?_ ?_ <;> intro h) | refine gC (spec_DomainForm p b hp) ?_ | refine gC (spec_DomainEmpty b) ?_ | refine gC (spec_RuleOk p r hp) ?_ | refine gC (spec_l17Refutes p b r hf ho) ?_ | intro _)) <;> try (conv=>whnf)
  all_goals (refine⟨?_,rfl,trivial⟩;simp [refutes,hf,ho, *])
theorem against_no (l:List Lit):against noDom l=noDom:=by
 induction l with
 | nil=>rfl
 | cons x r ih=>rw [against,List.foldl_cons,show restrict noDom (negate x)=noDom by simp [restrict,hasDom,noDom]];exact ih
theorem spec_NegatedDomain (p:Proj) (l:List Lit) (hp:p.fine):Con 316 [.d p.av,.d (lits l)] (.d (negDom p l).av):=by
 refine con Tryz.func316 rfl rfl Tryz.call316 rfl fun hwf=>?_
 cases ho:projOk p with
 | false=>
  (repeat' ((conv=>whnf);first | refine gA ?_ | (refine gB ?_ ?_ <;> intro h) | refine gC (spec_ProjectOk p hp) ?_ | intro _)) <;> try (conv=>whnf)
  refine⟨?_,rfl,trivial⟩
  rw [negDom,initDom,if_neg (by simp [ho]),against_no];rfl
 | true=>
  (repeat' ((conv=>whnf);first | refine gA ?_ | (refine gB ?_ ?_ <;> intro h) | refine gC (spec_ProjectOk p hp) ?_ | refine gC (spec_l12Of p (projOk_dead ho)) ?_ | refine gC (spec_l13Against (initDom' p) l (initDom'_ok p)) ?_ | intro _)) <;> try (conv=>whnf)
  refine⟨?_,rfl,trivial⟩
  rw [negDom,initDom,if_pos ho]
theorem impl_ClauseFollows (p:Proj) (r:Rul) (l:List Lit) (hp:p.fine):Con 265 [.d p.av,.d r.av,.d (lits l)] (.d (.bool (follows p r l))):=by
 refine con Tryz.func265 rfl rfl Tryz.call265 rfl fun hwf=>?_
 (repeat' ((conv=>whnf);first | refine gA ?_ | (refine gB ?_ ?_ <;> intro h) | refine gC (impl_ClauseOk p l hp) ?_ | refine gC (impl_NegatedDomain p l hp) ?_ | refine gC (impl_Refutes p (negDom p l) r hp) ?_ | intro _)) <;> try (conv=>whnf)
 all_goals (refine⟨?_,rfl,trivial⟩;simp [follows, *])
theorem spec_ClauseFollows (p:Proj) (r:Rul) (l:List Lit) (hp:p.fine):Con 315 [.d p.av,.d r.av,.d (lits l)] (.d (.bool (follows p r l))):=by
 refine con Tryz.func315 rfl rfl Tryz.call315 rfl fun hwf=>?_
 (repeat' ((conv=>whnf);first | refine gA ?_ | (refine gB ?_ ?_ <;> intro h) | refine gC (spec_ClauseOk p l hp) ?_ | refine gC (spec_NegatedDomain p l hp) ?_ | refine gC (spec_Refutes p (negDom p l) r hp) ?_ | intro _)) <;> try (conv=>whnf)
 all_goals (refine⟨?_,rfl,trivial⟩;simp [follows, *])
end Go.Proofs.YtfhojdalheinaaaGreat.Abs
