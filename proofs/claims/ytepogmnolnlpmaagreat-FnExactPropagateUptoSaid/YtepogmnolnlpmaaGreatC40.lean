/- Contracts: propagation, as separate data. No statement of a claim. -/
import Derived.Test.YtepogmnolnlpmaaGreatC35
import Derived.Test.YtepogmnolnlpmaaGreatC33
set_option linter.all false
set_option linter.unusedVariables false
set_option linter.unusedSimpArgs false
set_option maxRecDepth 20000
set_option maxHeartbeats 40000000
namespace Go.Proofs.YtepogmnolnlpmaaGreat.Abs
open Go.Proofs Go.RowKit
def RInfL (o:Option Infer):RV:=let x:=o.getD zeroInf;.tup [.agg [.d (i64 x.lit.kind),.d (i64 x.lit.act),.d (i64 x.lit.val),.d (i64 x.rule.kind),.d (i64 x.rule.a),.d (i64 x.rule.b),.d (i64 x.rule.c),.lin 88 (x.clause.map Lit.av)],.d (.bool o.isSome)]
theorem impl_FirstInference_lin (p:Proj) (b:Dom) (hp:p.fine):Con 99 [.d p.av,.d b.av] (RInfL (firstInf p b)):=by
 refine con Tryz.func99 rfl rfl Tryz.call99 rfl fun hwf=>?_
 have hF:=impl_FindRefutation p b hp
 have hcl:=candRules_len p b
 cases hn:(findRef p b).isSome with
 | true=>
  rw [firstInf,if_pos hn]
  rw [RRul,hn] at hF
  (repeat' ((conv=>whnf);first | refine gA ?_ | ((with_reducible first | refine gD (fun h=>?_) (fun h=>?_) | refine gE (fun h=>?_) (fun h=>?_)) <;> (try simp only [lm] at h) <;> try have hw:=wn h) | with_reducible refine gI (fun x hx=>?_) | with_reducible refine gJ (fun j x hj hx=>?_) | refine gV ?_ | refine gC (hF) ?_ | intro _)) <;> (try (conv=>whnf))
  (repeat' ((conv=>whnf) <;> (first | exact trivial | exact VC.nod (by kernel_rfl) | refine VC.mk rfl ?_)))
 | false=>
  rw [firstInf,if_neg (by simp [hn])]
  rw [RRul,hn] at hF
  (repeat' ((conv=>whnf);first | refine gA ?_ | ((with_reducible first | refine gD (fun h=>?_) (fun h=>?_) | refine gE (fun h=>?_) (fun h=>?_)) <;> (try simp only [lm] at h) <;> try have hw:=wn h) | with_reducible refine gI (fun x hx=>?_) | with_reducible refine gJ (fun j x hj hx=>?_) | refine gV ?_ | refine gC (hF) ?_ | refine gC (impl_CandidateRules p b hp) ?_ | intro _)) <;> (try (conv=>whnf))
  refine loopF [2,3,4,26,27] [2,3,4] [] ?_
  (conv=>whnf)
  refine LoopC.go ((Nat)) (fun k=>(k≤(candRules p b).length)∧(((candRules p b).drop k).findSome? (inferOn p b)=(candRules p b).findSome? (inferOn p b))) (fun k=>[(28,.data (i64 k))]) (fun _=>[]) (fun _=>[]) (fun k=>(candRules p b).length - k) (0) ?_ ?_
  ·exact⟨Nat.zero_le _,rfl⟩
  rintro k ⟨hk,hi⟩
  by_cases hlt:k < (candRules p b).length
  rotate_left
  ·(repeat' ((conv=>whnf);first | (exfalso;omega) | refine gA ?_ | ((with_reducible first | refine gD (fun h=>?_) (fun h=>?_) | refine gE (fun h=>?_) (fun h=>?_)) <;> (try simp only [lm] at h) <;> try have hw:=wn h) | with_reducible refine gI (fun x hx=>?_) | with_reducible refine gJ (fun j x hj hx=>?_) | refine gV ?_ | intro _)) <;> (try (conv=>whnf))
   rw [drop_end' (by assumption)] at hi
   rw [← hi]
   (repeat' ((conv=>whnf) <;> (first | exact trivial | exact VC.nod (by kernel_rfl) | refine VC.mk rfl ?_)))
  obtain⟨r,hr⟩:∃r,(candRules p b)[k]? =some r:=⟨(candRules p b)[k]'hlt,by simp⟩
  obtain⟨hu,hro⟩:=candRules_ok (List.mem_of_getElem? hr)
  have hf:=form_of_none hu
  have hal:=ruleActs_len p r
  rw [some_next hr] at hi
  (repeat' ((conv=>whnf);first | with_reducible refine Idx.got hr rfl ?_ | refine gA ?_ | ((with_reducible first | refine gD (fun h=>?_) (fun h=>?_) | refine gE (fun h=>?_) (fun h=>?_)) <;> (try simp only [lm] at h) <;> try have hw:=wn h) | with_reducible refine gI (fun x hx=>?_) | with_reducible refine gJ (fun j x hj hx=>?_) | refine gV ?_ | refine gC (impl_RuleActivities p r hp) ?_ | intro _)) <;> (try (conv=>whnf))
  rotate_left
  ·exact trivial
  refine loopF [2,3,4,9,26,27,28,34,35] [2,3,4,9] [] ?_
  (conv=>whnf)
  refine LoopC.go ((Nat)) (fun j=>(j≤(ruleActs p r).length)∧(((ruleActs p r).drop j).findSome? (inferOf p b r)=inferOn p b r)) (fun j=>[(36,.data (i64 j))]) (fun _=>[]) (fun _=>[]) (fun j=>(ruleActs p r).length - j) (0) ?_ ?_
  ·exact⟨Nat.zero_le _,rfl⟩
  rintro j ⟨hj,hi2⟩
  by_cases hjl:j < (ruleActs p r).length
  rotate_left
  ·rw [drop_end' (by omega)] at hi2
   rw [← hi2] at hi
   (repeat' ((conv=>whnf);first | (exfalso;omega) | refine gA ?_ | ((with_reducible first | refine gD (fun h=>?_) (fun h=>?_) | refine gE (fun h=>?_) (fun h=>?_)) <;> (try simp only [lm] at h) <;> try have hw:=wn h) | with_reducible refine gI (fun x hx=>?_) | with_reducible refine gJ (fun j x hj hx=>?_) | refine gV ?_ | intro _)) <;> (try (conv=>whnf))
   refine nx (k+1) ?_
   exact⟨by omega,hi⟩
  obtain⟨a,ha⟩:∃a,(ruleActs p r)[j]? =some a:=⟨(ruleActs p r)[j]'hjl,by simp⟩
  obtain⟨n,rfl,hna⟩:=ruleActs_mem (List.mem_of_getElem? ha)
  have hil:=inferA_len p b r n hf hna
  rw [some_next ha,inferOf,Int.toNat_natCast] at hi2
  (repeat' ((conv=>whnf);first | with_reducible refine Idx.got ha rfl ?_ | refine gA ?_ | ((with_reducible first | refine gD (fun h=>?_) (fun h=>?_) | refine gE (fun h=>?_) (fun h=>?_)) <;> (try simp only [lm] at h) <;> try have hw:=wn h) | with_reducible refine gI (fun x hx=>?_) | with_reducible refine gJ (fun j x hj hx=>?_) | refine gV ?_ | refine gC (impl_inferred p b r n hp hf hna) ?_ | intro _)) <;> (try (conv=>whnf))
  rotate_left
  ·exfalso;omega
  refine loopF [2,3,4,9,26,27,28,34,35,36,44,45] [2,3,4,9] [] ?_
  (conv=>whnf)
  refine LoopC.go ((Nat)) (fun m=>(m=0)) (fun m=>[(46,.data (i64 m))]) (fun _=>[]) (fun _=>[]) (fun m=>0) (0) ?_ ?_
  ·rfl
  rintro m hm
  subst hm
  by_cases h0:0 < (inferA p b r n).length
  ·obtain⟨l,hx⟩:∃l,(inferA p b r n)[0]? =some l:=⟨(inferA p b r n)[0]'h0,by simp⟩
   have hh:(inferA p b r n).head? =some l:=by rw [List.head?_eq_getElem?];exact hx
   rw [hh] at hi2
   have hi3:some (⟨l,r,(explainLit p b r l).1⟩:Infer)=inferOn p b r:=hi2
   rw [← hi3] at hi
   have hi4:some (⟨l,r,(explainLit p b r l).1⟩:Infer)=(candRules p b).findSome? (inferOn p b):=hi
   rw [← hi4]
   (repeat' ((conv=>whnf);first | with_reducible refine Idx.got hx rfl ?_ | refine gA ?_ | ((with_reducible first | refine gD (fun h=>?_) (fun h=>?_) | refine gE (fun h=>?_) (fun h=>?_)) <;> (try simp only [lm] at h) <;> try have hw:=wn h) | with_reducible refine gI (fun x hx=>?_) | with_reducible refine gJ (fun j x hj hx=>?_) | refine gV ?_ | refine gC (impl_ExplainLiteral_lin p b r l hp) ?_ | intro _)) <;> (try (conv=>whnf))
   ·(repeat' ((conv=>whnf) <;> (first | exact trivial | exact VC.nod (by kernel_rfl) | refine VC.mk rfl ?_)))
   ·exfalso;omega
  ·have hh:(inferA p b r n).head? =none:=by rw [List.head?_eq_none_iff];exact List.eq_nil_of_length_eq_zero (by omega)
   rw [hh] at hi2
   (repeat' ((conv=>whnf);first | (exfalso;omega) | refine gA ?_ | ((with_reducible first | refine gD (fun h=>?_) (fun h=>?_) | refine gE (fun h=>?_) (fun h=>?_)) <;> (try simp only [lm] at h) <;> try have hw:=wn h) | with_reducible refine gI (fun x hx=>?_) | with_reducible refine gJ (fun j x hj hx=>?_) | refine gV ?_ | intro _)) <;> (try (conv=>whnf))
   refine nx (j+1) ?_
   exact⟨by omega,hi2⟩
theorem impl_kept_lin (l:List Int) (fc:Nat) (caps:List AV) (p:Int→Bool) (hc:∀n:Int,Con fc ([.d (i64 n)]++caps.map .ref) (.d (.bool (p n)))):Con 191 [.d (ints l),.fn fc caps] (.lin 3 ((l.filter p).map i64)):=by
 refine con Tryz.func191 rfl rfl Tryz.call191 rfl fun hwf=>?_
 simp only [ARs.wf,AR.wf,AV.wf,AV.wfs,List.length_map,lim] at hwf
 (repeat' ((conv=>whnf);first | refine gA ?_ | ((with_reducible first | refine gD (fun h=>?_) (fun h=>?_) | refine gE (fun h=>?_) (fun h=>?_)) <;> (try simp only [lm] at h) <;> try have hw:=wn h) | with_reducible refine gI (fun x hx=>?_) | with_reducible refine gJ (fun j x hj hx=>?_) | refine gP ?_ | refine gV ?_ | intro _)) <;> (try (conv=>whnf))
 refine loopF [1,9,10] [] [8] ?_
 (conv=>whnf)
 refine LoopC.go ((Nat)×(List Int)) (fun⟨k,o⟩=>(k≤l.length)∧(o.length≤k)∧(o++(l.drop k).filter p=l.filter p)) (fun⟨k,o⟩=>[(11,.data (i64 k)),(5,.own 8 0)]) (fun _=>[]) (fun⟨k,o⟩=>[(8,3,o.map i64,1)]) (fun⟨k,o⟩=>l.length - k) ⟨0,[]⟩ ?_ ?_
 ·exact⟨by omega,by simp,rfl⟩
 rintro⟨k,o⟩ ⟨hk,ho,hi⟩
 (repeat' ((conv=>whnf);first | refine gA ?_ | ((with_reducible first | refine gD (fun h=>?_) (fun h=>?_) | refine gE (fun h=>?_) (fun h=>?_)) <;> (try simp only [lm] at h) <;> try have hw:=wn h) | with_reducible refine gI (fun x hx=>?_) | with_reducible refine gJ (fun j x hj hx=>?_) | refine gP ?_ | refine gV ?_ | refine gC (hc x) ?_ | intro _)) <;> (try (conv=>whnf))
 ·refine nw ⟨k+1,o++[x]⟩ ?_ ?_
  ·(repeat' ((conv=>whnf) <;> (first | exact trivial | exact rfl | with_reducible refine And.intro ?_ ?_))) <;> ((conv=>whnf) <;> (simp))
  exact⟨by omega,by simp;omega,(filter_step hi hx).1 h⟩
 ·refine nx ⟨k+1,o⟩ ?_
  exact⟨by omega,by omega,(filter_step hi hx).2 h⟩
 ·refine⟨?_,rfl,trivial⟩
  rw [← hi,drop_end' (by assumption)];simp
theorem impl_SetRemove_lin (l:List Int) (n:Int):Con 138 [.d (ints l),.d (i64 n)] (.lin 3 ((without l n).map i64)):=by
 refine con Tryz.func138 rfl rfl Tryz.call138 rfl fun hwf=>?_
 (repeat' ((conv=>whnf);first | refine gA ?_ | ((with_reducible first | refine gD (fun h=>?_) (fun h=>?_) | refine gE (fun h=>?_) (fun h=>?_)) <;> (try simp only [lm] at h) <;> try have hw:=wn h) | refine gC (impl_kept_lin l 233 [i64 n] _ fun x=>impl_SetRemove1 x n) ?_ | intro _)) <;> (try (conv=>whnf))
 exact⟨rfl,rfl,trivial⟩
theorem impl_Restrict_lin (b:Dom) (l:Lit):Con 100 [.d b.av,.d l.av] (RDomL (restrict b l)):=by
 refine con Tryz.func100 rfl rfl Tryz.call100 rfl fun hwf=>?_
 cases hd:hasDom b l.act with
 | false=>
  rw [restrict,if_neg (by simp [hd])]
  (repeat' ((conv=>whnf);first | refine gA ?_ | ((with_reducible first | refine gD (fun h=>?_) (fun h=>?_) | refine gE (fun h=>?_) (fun h=>?_)) <;> (try simp only [lm] at h) <;> try have hw:=wn h) | with_reducible refine gI (fun x hx=>?_) | with_reducible refine gJ (fun j x hj hx=>?_) | refine gC (impl_copiedDom_lin b) ?_ | refine gC (impl_has b _) ?_ | intro _)) <;> (try (conv=>whnf))
  (repeat' ((conv=>whnf) <;> (first | exact trivial | exact VC.nod (by kernel_rfl) | refine VC.mk rfl ?_)))
 | true=>
  obtain⟨n,x,y,m,ha,hlo,hhi,hmo⟩:=hasDom_get hd
  have han:l.act.toNat=n:=by omega
  (repeat' ((conv=>whnf);first | with_reducible refine Idx.got hlo (by first | exact ha | rfl) ?_ | with_reducible refine Idx.got hhi (by first | exact ha | rfl) ?_ | with_reducible refine Idx.got hmo (by first | exact ha | rfl) ?_ | refine gA ?_ | ((with_reducible first | refine gD (fun h=>?_) (fun h=>?_) | refine gE (fun h=>?_) (fun h=>?_)) <;> (try simp only [lm] at h) <;> try have hw:=wn h) | with_reducible refine gI (fun x hx=>?_) | with_reducible refine gJ (fun j x hj hx=>?_) | refine gC (impl_copiedDom_lin b) ?_ | refine gC (impl_has b _) ?_ | refine gC (impl_clamped _) ?_ | refine gC (impl_kept_lin m 192 [i64 (clamped l.val)] _ (fun y=>impl_Restrict1 y (clamped l.val))) ?_ | refine gC (impl_SetRemove_lin m _) ?_ | intro _)) <;> (try (conv=>whnf))
  all_goals
   (repeat' ((conv=>whnf) <;> (first | exact trivial | exact VC.nod (by kernel_rfl) | refine VC.mk rfl ?_ | refine VC.mk (by (rw [restrict,if_pos hd];simp [*,List.map_set,List.getD_eq_getElem?_getD,setPart,without])) ?_)))
attribute [local irreducible] firstInf domForm within
def propFrom (p:Proj):Nat→Dom→List Infer→Dom×List Infer
 | 0,b,l=>(b,l)
 | f+1,b,l=>match firstInf p b with | none=>(b,l) | some s=>propFrom p f (restrict b s.lit) (l++[s])
theorem propFrom_zero (p:Proj) (b:Dom) (l:List Infer):propFrom p 0 b l=(b,l):=rfl
theorem propFrom_succ (p:Proj) (f:Nat) (b:Dom) (l:List Infer):propFrom p (f+1) b l=(match firstInf p b with | none=>(b,l) | some s=>propFrom p f (restrict b s.lit) (l++[s])):=rfl
def propagated (p:Proj) (b:Dom) (most:Int):Dom×List Infer:=if domForm p b=true∧within most 0 60=true then propFrom p most.toNat b [] else (b,[])
def RPropL (r:Dom×List Infer):RV:=.tup [RDomL r.1,.lin 122 (r.2.map Infer.av)]
def RPropD (r:Dom×List Infer):RV:=.tup [.d r.1.av,.d (.sl (r.2.map Infer.av))]
theorem impl_Propagate (p:Proj) (b:Dom) (most:Int) (hp:p.fine):Con 38 [.d p.av,.d b.av,.d (i64 most)] (RPropL (propagated p b most)):=by
 refine con Tryz.func38 rfl rfl Tryz.call38 rfl fun hwf=>?_
 by_cases hc:domForm p b=true∧within most 0 60=true
 rotate_left
 ·rw [propagated,if_neg hc]
  (repeat' ((conv=>whnf);first | refine gA ?_ | ((with_reducible first | refine gD (fun h=>?_) (fun h=>?_) | refine gE (fun h=>?_) (fun h=>?_)) <;> (try simp only [lm] at h) <;> try have hw:=wn h) | refine gP ?_ | refine gC (impl_copiedDom_lin b) ?_ | refine gC (impl_DomainForm p b hp) ?_ | refine gC (impl_within most 0 60) ?_ | intro _)) <;> (try (conv=>whnf))
  all_goals first
   | (exfalso;exact hc ⟨by assumption,by assumption⟩)
   | (repeat' ((conv=>whnf) <;> (first | exact trivial | exact VC.nod (by kernel_rfl) | refine VC.mk rfl ?_)))
 obtain⟨hf,hw⟩:=hc
 have hwb:=within_iff.1 hw
 rw [propagated,if_pos ⟨hf,hw⟩]
 generalize hR:propFrom p most.toNat b []=R
 (repeat' ((conv=>whnf);first | with_reducible refine Br.yes hf ?_ | with_reducible refine Br.yes hw ?_ | refine gA ?_ | ((with_reducible first | refine gD (fun h=>?_) (fun h=>?_) | refine gE (fun h=>?_) (fun h=>?_)) <;> (try simp only [lm] at h) <;> try have hw:=wn h) | refine gP ?_ | refine gC (impl_copiedDom_lin b) ?_ | refine gC (impl_DomainForm p b hp) ?_ | refine gC (impl_within most 0 60) ?_ | intro _)) <;> (try (conv=>whnf))
 all_goals first
  | (exfalso;simp_all;done)
  | skip
 refine loopF [2,3,6,8] [3,6] [900001,900002,900003,24] ?_
 (conv=>whnf)
 refine LoopC.go ((Dom)×(List Infer)) (fun⟨d,l⟩=>((l.length:Int)≤most)∧(propFrom p (most - l.length).toNat d l=R)) (fun⟨d,l⟩=>[(9,.own 24 0)]) (fun⟨d,l⟩=>[(8,[.own 900001 0,.own 900002 0,.own 900003 0])]) (fun⟨d,l⟩=>[(900001,3,d.lo.map i64,2),(900002,3,d.hi.map i64,2),(900003,25,d.modes.map ints,2),(24,122,l.map Infer.av,1)]) (fun⟨d,l⟩=>(most - l.length).toNat) ⟨b,[]⟩ ?_ ?_
 ·exact⟨by simp;omega,by simpa using hR⟩
 rintro⟨d,l⟩ ⟨hl,he⟩
 by_cases hlt:(l.length:Int) < most
 rotate_left
 ·rw [show (most - l.length).toNat=0 by omega,propFrom_zero] at he
  subst he
  (repeat' ((conv=>whnf);first | (exfalso;omega) | refine gA ?_ | ((with_reducible first | refine gD (fun h=>?_) (fun h=>?_) | refine gE (fun h=>?_) (fun h=>?_)) <;> (try simp only [lm] at h) <;> try have hw:=wn h) | refine gP ?_ | intro _)) <;> (try (conv=>whnf))
  (repeat' ((conv=>whnf) <;> (first | exact trivial | exact VC.nod (by kernel_rfl) | refine VC.mk rfl ?_)))
 rw [show (most - l.length).toNat=(most - (l.length+1:Nat)).toNat+1 by omega,propFrom_succ] at he
 have hF:=impl_FirstInference_lin p d hp
 cases h1:firstInf p d with
 | none=>
  rw [RInfL,h1] at hF
  dsimp only [Option.getD,Option.isSome] at hF
  rw [h1] at he
  have he:(d,l)=R:=he
  subst he
  (repeat' ((conv=>whnf);first | (exfalso;omega) | refine gA ?_ | ((with_reducible first | refine gD (fun h=>?_) (fun h=>?_) | refine gE (fun h=>?_) (fun h=>?_)) <;> (try simp only [lm] at h) <;> try have hw:=wn h) | refine gP ?_ | refine gC (hF) ?_ | intro _)) <;> (try (conv=>whnf))
  all_goals (repeat' ((conv=>whnf) <;> (first | exact trivial | exact VC.nod (by kernel_rfl) | refine VC.mk rfl ?_)))
 | some s=>
  rw [RInfL,h1] at hF
  dsimp only [Option.getD,Option.isSome] at hF
  rw [h1] at he
  have he:propFrom p (most - (l.length+1:Nat)).toNat (restrict d s.lit) (l++[s])=R:=he
  (repeat' ((conv=>whnf);first | (exfalso;omega) | refine gA ?_ | ((with_reducible first | refine gD (fun h=>?_) (fun h=>?_) | refine gE (fun h=>?_) (fun h=>?_)) <;> (try simp only [lm] at h) <;> try have hw:=wn h) | refine gP ?_ | refine gC (hF) ?_ | refine gC (impl_Restrict_lin d s.lit) ?_ | intro _)) <;> (try (conv=>whnf))
  have hls:(l++[s]).length=l.length+1:=by simp
  refine nw ⟨restrict d s.lit,l++[s]⟩ ?_ ?_
  ·(repeat' ((conv=>whnf) <;> (first | exact trivial | exact rfl | with_reducible refine And.intro ?_ ?_))) <;> ((conv=>whnf) <;> (simp))
  refine⟨by simp;omega,?_⟩
  rw [List.length_append,List.length_singleton];exact he
theorem spec_Propagate (p:Proj) (b:Dom) (most:Int) (hp:p.fine):Con 37 [.d p.av,.d b.av,.d (i64 most)] (RPropD (propagated p b most)):=by
 refine con Tryz.func37 rfl rfl Tryz.call37 rfl fun hwf=>?_
 by_cases hc:domForm p b=true∧within most 0 60=true
 rotate_left
 ·rw [propagated,if_neg hc]
  (repeat' ((conv=>whnf);first | refine gA ?_ | ((with_reducible first | refine gD (fun h=>?_) (fun h=>?_) | refine gE (fun h=>?_) (fun h=>?_)) <;> (try simp only [lm] at h) <;> try have hw:=wn h) | refine gP ?_ | refine gC (spec_l12Copy b) ?_ | refine gC (spec_DomainForm p b hp) ?_ | refine gC (spec_in most 0 60) ?_ | intro _)) <;> (try (conv=>whnf))
  all_goals first
   | (exfalso;exact hc ⟨by assumption,by assumption⟩)
   | (repeat' ((conv=>whnf) <;> (first | exact trivial | exact VC.nod (by kernel_rfl) | refine VC.mk rfl ?_)))
 obtain⟨hf,hw⟩:=hc
 have hwb:=within_iff.1 hw
 rw [propagated,if_pos ⟨hf,hw⟩]
 generalize hR:propFrom p most.toNat b []=R
 (repeat' ((conv=>whnf);first | with_reducible refine Br.yes hf ?_ | with_reducible refine Br.yes hw ?_ | refine gA ?_ | ((with_reducible first | refine gD (fun h=>?_) (fun h=>?_) | refine gE (fun h=>?_) (fun h=>?_)) <;> (try simp only [lm] at h) <;> try have hw:=wn h) | refine gP ?_ | refine gC (spec_l12Copy b) ?_ | refine gC (spec_DomainForm p b hp) ?_ | refine gC (spec_in most 0 60) ?_ | intro _)) <;> (try (conv=>whnf))
 all_goals first
  | (exfalso;simp_all;done)
  | skip
 refine loopF [2,3,6,8] [3,6] [14] ?_
 (conv=>whnf)
 refine LoopC.go ((Dom)×(List Infer)) (fun⟨d,l⟩=>((l.length:Int)≤most)∧(domForm p d=true)∧(propFrom p (most - l.length).toNat d l=R)) (fun⟨d,l⟩=>[(9,.own 14 0)]) (fun⟨d,l⟩=>[(8,(AV.cells d.av).map SV.data)]) (fun⟨d,l⟩=>[(14,122,l.map Infer.av,0)]) (fun⟨d,l⟩=>(most - l.length).toNat) ⟨b,[]⟩ ?_ ?_
 ·exact⟨by simp;omega,hf,by simpa using hR⟩
 rintro⟨d,l⟩ ⟨hl,hfd,he⟩
 by_cases hlt:(l.length:Int) < most
 rotate_left
 ·rw [show (most - l.length).toNat=0 by omega,propFrom_zero] at he
  subst he
  (repeat' ((conv=>whnf);first | (exfalso;omega) | refine gA ?_ | ((with_reducible first | refine gD (fun h=>?_) (fun h=>?_) | refine gE (fun h=>?_) (fun h=>?_)) <;> (try simp only [lm] at h) <;> try have hw:=wn h) | refine gP ?_ | intro _)) <;> (try (conv=>whnf))
  (repeat' ((conv=>whnf) <;> (first | exact trivial | exact VC.nod (by kernel_rfl) | refine VC.mk rfl ?_)))
 rw [show (most - l.length).toNat=(most - (l.length+1:Nat)).toNat+1 by omega,propFrom_succ] at he
 have hF:=spec_FirstInference p d hp
 cases h1:firstInf p d with
 | none=>
  rw [RInfD,h1] at hF
  dsimp only [Option.getD,Option.isSome] at hF
  rw [h1] at he
  have he:(d,l)=R:=he
  subst he
  (repeat' ((conv=>whnf);first | (exfalso;omega) | refine gA ?_ | ((with_reducible first | refine gD (fun h=>?_) (fun h=>?_) | refine gE (fun h=>?_) (fun h=>?_)) <;> (try simp only [lm] at h) <;> try have hw:=wn h) | refine gP ?_ | refine gC (hF) ?_ | intro _)) <;> (try (conv=>whnf))
  all_goals (repeat' ((conv=>whnf) <;> (first | exact trivial | exact VC.nod (by kernel_rfl) | refine VC.mk rfl ?_)))
 | some s=>
  rw [RInfD,h1] at hF
  dsimp only [Option.getD,Option.isSome] at hF
  rw [h1] at he
  have he:propFrom p (most - (l.length+1:Nat)).toNat (restrict d s.lit) (l++[s])=R:=he
  (repeat' ((conv=>whnf);first | (exfalso;omega) | refine gA ?_ | ((with_reducible first | refine gD (fun h=>?_) (fun h=>?_) | refine gE (fun h=>?_) (fun h=>?_)) <;> (try simp only [lm] at h) <;> try have hw:=wn h) | refine gP ?_ | refine gC (hF) ?_ | refine gC (spec_Restrict d s.lit (fun m hm=>domForm_setOk' hfd hm)) ?_ | intro _)) <;> (try (conv=>whnf))
  have hls:(l++[s]).length=l.length+1:=by simp
  refine nw ⟨restrict d s.lit,l++[s]⟩ ?_ ?_
  ·(repeat' ((conv=>whnf) <;> (first | exact trivial | exact rfl | with_reducible refine And.intro ?_ ?_))) <;> ((conv=>whnf) <;> (simp))
  refine⟨by simp;omega,restrict_form hfd s.lit,?_⟩
  rw [List.length_append,List.length_singleton];exact he
end Go.Proofs.YtepogmnolnlpmaaGreat.Abs
