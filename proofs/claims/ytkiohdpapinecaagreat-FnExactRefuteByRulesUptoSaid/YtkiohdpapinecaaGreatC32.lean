/- Contracts: the first inference; fixpoints. No statement of a claim. -/
import Derived.Test.YtkiohdpapinecaaGreatC31
set_option linter.all false
set_option linter.unusedVariables false
set_option linter.unusedSimpArgs false
set_option maxRecDepth 20000
set_option maxHeartbeats 4000000
namespace Go.Proofs.YtkiohdpapinecaaGreat.Abs
open Go.Proofs
def inferOf (p:Proj) (b:Dom) (r:Rul) (a:Int):Option Infer:=(inferA p b r a.toNat).head?.map fun l=>⟨l,r,(explainLit p b r l).1⟩
def inferOn (p:Proj) (b:Dom) (r:Rul):Option Infer:=(ruleActs p r).findSome? (inferOf p b r)
def firstInf (p:Proj) (b:Dom):Option Infer:=if (findRef p b).isSome=true then none else (candRules p b).findSome? (inferOn p b)
def zeroInf:Infer:=⟨zeroLit,zeroRul,[]⟩
def RInf (o:Option Infer):RV:=let x:=o.getD zeroInf;.tup [.agg [.d (i64 x.lit.kind),.d (i64 x.lit.act),.d (i64 x.lit.val),.d (i64 x.rule.kind),.d (i64 x.rule.a),.d (i64 x.rule.b),.d (i64 x.rule.c),.fr (x.clause.map Lit.av)],.d (.bool o.isSome)]
def RInfD (o:Option Infer):RV:=.tup [.d (o.getD zeroInf).av,.d (.bool o.isSome)]
theorem some_next {α β:Type} {f:α→Option β} {l:List α} {k:Nat} {x:α} (h:l[k]? =some x):(l.drop k).findSome? f=(match f x with | some y=>some y | none=>(l.drop (k+1)).findSome? f):=by
 rw [drop_get h,List.findSome?_cons];cases f x <;> rfl
theorem form_of_none {p:Proj} {b:Dom} (h:usable p b=true):domForm p b=true:=(usable_parts h).1
theorem inferA_len (p:Proj) (b:Dom) (r:Rul) (k:Nat) (hf:domForm p b=true) (hk:k < p.acts.length):(inferA p b r k).length≤5:=by
 obtain⟨a,x,y,m,g⟩:=dom_get hf hk
 rw [inferA_eq g,inferAt]
 have h1:=atLeast_len k x (goUp (refB p b r 2 k) y (y+1 - x).toNat x)
 have h2:=atMost_len k y (goDn (refB p b r 1 k) x (y+1 - x).toNat y)
 have h3:=modes_in g
 have h4:=List.length_filter_le (fun v=>decide (m.length > 1)&&refB p b r 3 k v) m
 simp only [List.length_append,List.length_map];omega
theorem ruleActs_len (p:Proj) (r:Rul):(ruleActs p r).length≤200:=by
 unfold ruleActs
 split
 ·rename_i ho
  have hpo:projOk p=true:=by simp only [ruleOk,Bool.and_eq_true] at ho;exact ho.1
  have hna:=(projForm hpo).nact
  split
  ·have:=setOf_len [(linkOf p r.a).src,(linkOf p r.a).dst]
   simp only [List.length_cons,List.length_nil] at this;omega
  split
  ·simp
  split
  ·simp
  split
  ·exact intRange_len _
  ·unfold users
   split
   ·have:=upTo_filter_len (usesRes p r.a) p.acts.length;omega
   ·simp
 ·simp
theorem impl_FirstInference (p:Proj) (b:Dom) (hp:p.fine):Con 167 [.d p.av,.d b.av] (RInf (firstInf p b)):=by
 refine con Tryz.func167 rfl rfl Tryz.call167 rfl fun hwf=>?_
 have hF:=impl_FindRefutation p b hp
 have hcl:=candRules_len p b
 cases hn:(findRef p b).isSome with
 | true=>
  rw [firstInf,if_pos hn]
  rw [RRul,hn] at hF
  (repeat' ((conv=>whnf);first | refine gA ?_ | ((with_reducible first | refine gD (fun h=>?_) (fun h=>?_) | refine gE (fun h=>?_) (fun h=>?_)) <;> (try simp only [lm] at h) <;> try have hw:=wn h) | with_reducible refine gI (fun x hx=>?_) | with_reducible refine gJ (fun j x hj hx=>?_) | refine gV ?_ | refine gC (hF) ?_ | intro _)) <;> (try (conv=>whnf))
  (repeat' ((conv=>whnf) <;> (first | exact trivial | exact VC.nod (by kernel_rfl) | refine VC.mk rfl ?_)))
 | false=>
  rw [firstInf,if_neg (by simp [hn])]
  rw [RRul,hn] at hF
  (repeat' ((conv=>whnf);first | refine gA ?_ | ((with_reducible first | refine gD (fun h=>?_) (fun h=>?_) | refine gE (fun h=>?_) (fun h=>?_)) <;> (try simp only [lm] at h) <;> try have hw:=wn h) | with_reducible refine gI (fun x hx=>?_) | with_reducible refine gJ (fun j x hj hx=>?_) | refine gV ?_ | refine gC (hF) ?_ | refine gC (impl_CandidateRules p b hp) ?_ | intro _)) <;> (try (conv=>whnf))
  refine loopF [2,3,4,26,27] [2,3,4] [] ?_
  (conv=>whnf)
  refine LoopC.go ((Nat)) (fun k=>(k≤(candRules p b).length)∧(((candRules p b).drop k).findSome? (inferOn p b)=(candRules p b).findSome? (inferOn p b))) (fun k=>[(28,.data (i64 k))]) (fun _=>[]) (fun _=>[]) (fun k=>(candRules p b).length - k) (0) ?_ ?_
  ·exact⟨Nat.zero_le _,rfl⟩
  rintro k ⟨hk,hi⟩
  by_cases hlt:k < (candRules p b).length
  rotate_left
  ·(repeat' ((conv=>whnf);first | (exfalso;omega) | refine gA ?_ | ((with_reducible first | refine gD (fun h=>?_) (fun h=>?_) | refine gE (fun h=>?_) (fun h=>?_)) <;> (try simp only [lm] at h) <;> try have hw:=wn h) | with_reducible refine gI (fun x hx=>?_) | with_reducible refine gJ (fun j x hj hx=>?_) | refine gV ?_ | intro _)) <;> (try (conv=>whnf))
   rw [drop_end' (by assumption)] at hi
   rw [← hi]
   (repeat' ((conv=>whnf) <;> (first | exact trivial | exact VC.nod (by kernel_rfl) | refine VC.mk rfl ?_)))
  obtain⟨r,hr⟩:∃r,(candRules p b)[k]? =some r:=⟨(candRules p b)[k]'hlt,by simp⟩
  obtain⟨hu,hro⟩:=candRules_ok (List.mem_of_getElem? hr)
  have hf:=form_of_none hu
  have hal:=ruleActs_len p r
  rw [some_next hr] at hi
  (repeat' ((conv=>whnf);first | with_reducible refine Idx.got hr rfl ?_ | refine gA ?_ | ((with_reducible first | refine gD (fun h=>?_) (fun h=>?_) | refine gE (fun h=>?_) (fun h=>?_)) <;> (try simp only [lm] at h) <;> try have hw:=wn h) | with_reducible refine gI (fun x hx=>?_) | with_reducible refine gJ (fun j x hj hx=>?_) | refine gV ?_ | refine gC (impl_RuleActivities p r hp) ?_ | intro _)) <;> (try (conv=>whnf))
  rotate_left
  ·exact trivial
  refine loopF [2,3,4,9,26,27,28,34,35] [2,3,4,9] [] ?_
  (conv=>whnf)
  refine LoopC.go ((Nat)) (fun j=>(j≤(ruleActs p r).length)∧(((ruleActs p r).drop j).findSome? (inferOf p b r)=inferOn p b r)) (fun j=>[(36,.data (i64 j))]) (fun _=>[]) (fun _=>[]) (fun j=>(ruleActs p r).length - j) (0) ?_ ?_
  ·exact⟨Nat.zero_le _,rfl⟩
  rintro j ⟨hj,hi2⟩
  by_cases hjl:j < (ruleActs p r).length
  rotate_left
  ·rw [drop_end' (by omega)] at hi2
   rw [← hi2] at hi
   (repeat' ((conv=>whnf);first | (exfalso;omega) | refine gA ?_ | ((with_reducible first | refine gD (fun h=>?_) (fun h=>?_) | refine gE (fun h=>?_) (fun h=>?_)) <;> (try simp only [lm] at h) <;> try have hw:=wn h) | with_reducible refine gI (fun x hx=>?_) | with_reducible refine gJ (fun j x hj hx=>?_) | refine gV ?_ | intro _)) <;> (try (conv=>whnf))
   refine nx (k+1) ?_
   exact⟨by omega,hi⟩
  obtain⟨a,ha⟩:∃a,(ruleActs p r)[j]? =some a:=⟨(ruleActs p r)[j]'hjl,by simp⟩
  obtain⟨n,rfl,hna⟩:=ruleActs_mem (List.mem_of_getElem? ha)
  have hil:=inferA_len p b r n hf hna
  rw [some_next ha,inferOf,Int.toNat_natCast] at hi2
  (repeat' ((conv=>whnf);first | with_reducible refine Idx.got ha rfl ?_ | refine gA ?_ | ((with_reducible first | refine gD (fun h=>?_) (fun h=>?_) | refine gE (fun h=>?_) (fun h=>?_)) <;> (try simp only [lm] at h) <;> try have hw:=wn h) | with_reducible refine gI (fun x hx=>?_) | with_reducible refine gJ (fun j x hj hx=>?_) | refine gV ?_ | refine gC (impl_inferred p b r n hp hf hna) ?_ | intro _)) <;> (try (conv=>whnf))
  rotate_left
  ·exfalso;omega
  refine loopF [2,3,4,9,26,27,28,34,35,36,44,45] [2,3,4,9] [] ?_
  (conv=>whnf)
  refine LoopC.go ((Nat)) (fun m=>(m=0)) (fun m=>[(46,.data (i64 m))]) (fun _=>[]) (fun _=>[]) (fun m=>0) (0) ?_ ?_
  ·rfl
  rintro m hm
  subst hm
  by_cases h0:0 < (inferA p b r n).length
  ·obtain⟨l,hx⟩:∃l,(inferA p b r n)[0]? =some l:=⟨(inferA p b r n)[0]'h0,by simp⟩
   have hh:(inferA p b r n).head? =some l:=by rw [List.head?_eq_getElem?];exact hx
   rw [hh] at hi2
   have hi3:some (⟨l,r,(explainLit p b r l).1⟩:Infer)=inferOn p b r:=hi2
   rw [← hi3] at hi
   have hi4:some (⟨l,r,(explainLit p b r l).1⟩:Infer)=(candRules p b).findSome? (inferOn p b):=hi
   rw [← hi4]
   (repeat' ((conv=>whnf);first | with_reducible refine Idx.got hx rfl ?_ | refine gA ?_ | ((with_reducible first | refine gD (fun h=>?_) (fun h=>?_) | refine gE (fun h=>?_) (fun h=>?_)) <;> (try simp only [lm] at h) <;> try have hw:=wn h) | with_reducible refine gI (fun x hx=>?_) | with_reducible refine gJ (fun j x hj hx=>?_) | refine gV ?_ | refine gC (impl_ExplainLiteral p b r l hp) ?_ | intro _)) <;> (try (conv=>whnf))
   ·(repeat' ((conv=>whnf) <;> (first | exact trivial | exact VC.nod (by kernel_rfl) | refine VC.mk rfl ?_)))
   ·exfalso;omega
  ·have hh:(inferA p b r n).head? =none:=by rw [List.head?_eq_none_iff];exact List.eq_nil_of_length_eq_zero (by omega)
   rw [hh] at hi2
   (repeat' ((conv=>whnf);first | (exfalso;omega) | refine gA ?_ | ((with_reducible first | refine gD (fun h=>?_) (fun h=>?_) | refine gE (fun h=>?_) (fun h=>?_)) <;> (try simp only [lm] at h) <;> try have hw:=wn h) | with_reducible refine gI (fun x hx=>?_) | with_reducible refine gJ (fun j x hj hx=>?_) | refine gV ?_ | intro _)) <;> (try (conv=>whnf))
   refine nx (j+1) ?_
   exact⟨by omega,hi2⟩
theorem spec_FirstInference (p:Proj) (b:Dom) (hp:p.fine):Con 160 [.d p.av,.d b.av] (RInfD (firstInf p b)):=by
 refine con Tryz.func160 rfl rfl Tryz.call160 rfl fun hwf=>?_
 have hF:=spec_FindRefutation p b hp
 cases hu:usable p b with
 | false=>
  have hc:candRules p b= []:=by rw [candRules,if_neg (by simp [hu])]
  have e:firstInf p b=none:=by rw [firstInf,hc];cases (findRef p b).isSome <;> rfl
  rw [e]
  cases hn:(findRef p b).isSome with
  | true=>
   rw [RRul,hn] at hF
   (repeat' ((conv=>whnf);first | refine gA ?_ | ((with_reducible first | refine gD (fun h=>?_) (fun h=>?_) | refine gE (fun h=>?_) (fun h=>?_)) <;> (try simp only [lm] at h) <;> try have hw:=wn h) | with_reducible refine gI (fun x hx=>?_) | with_reducible refine gJ (fun j x hj hx=>?_) | refine gV ?_ | refine gC (hF) ?_ | refine gC (spec_l14Ok p b hp) ?_ | intro _)) <;> (try (conv=>whnf))
   (repeat' ((conv=>whnf) <;> (first | exact trivial | exact VC.nod (by kernel_rfl) | refine VC.mk rfl ?_)))
  | false=>
   rw [RRul,hn] at hF
   (repeat' ((conv=>whnf);first | refine gA ?_ | ((with_reducible first | refine gD (fun h=>?_) (fun h=>?_) | refine gE (fun h=>?_) (fun h=>?_)) <;> (try simp only [lm] at h) <;> try have hw:=wn h) | with_reducible refine gI (fun x hx=>?_) | with_reducible refine gJ (fun j x hj hx=>?_) | refine gV ?_ | refine gC (hF) ?_ | refine gC (spec_l14Ok p b hp) ?_ | intro _)) <;> (try (conv=>whnf))
   (repeat' ((conv=>whnf) <;> (first | exact trivial | exact VC.nod (by kernel_rfl) | refine VC.mk rfl ?_)))
 | true=>
 cases hn:(findRef p b).isSome with
 | true=>
  rw [firstInf,if_pos hn]
  rw [RRul,hn] at hF
  (repeat' ((conv=>whnf);first | refine gA ?_ | ((with_reducible first | refine gD (fun h=>?_) (fun h=>?_) | refine gE (fun h=>?_) (fun h=>?_)) <;> (try simp only [lm] at h) <;> try have hw:=wn h) | with_reducible refine gI (fun x hx=>?_) | with_reducible refine gJ (fun j x hj hx=>?_) | refine gV ?_ | refine gC (hF) ?_ | refine gC (spec_l14Ok p b hp) ?_ | intro _)) <;> (try (conv=>whnf))
  (repeat' ((conv=>whnf) <;> (first | exact trivial | exact VC.nod (by kernel_rfl) | refine VC.mk rfl ?_)))
 | false=>
  rw [firstInf,if_neg (by simp [hn])]
  rw [RRul,hn] at hF
  have hf:=form_of_none hu
  have hcl:=candRules_len p b
  rw [candRules,if_pos hu] at hcl
  rw [candRules,if_pos hu]
  (repeat' ((conv=>whnf);first | refine gA ?_ | ((with_reducible first | refine gD (fun h=>?_) (fun h=>?_) | refine gE (fun h=>?_) (fun h=>?_)) <;> (try simp only [lm] at h) <;> try have hw:=wn h) | with_reducible refine gI (fun x hx=>?_) | with_reducible refine gJ (fun j x hj hx=>?_) | refine gV ?_ | refine gC (hF) ?_ | refine gC (spec_l14Ok p b hp) ?_ | refine gC (spec_l17For p b hp hu) ?_ | intro _)) <;> (try (conv=>whnf))
  refine loopF [2,3,4,31,32] [2,3,4] [] ?_
  (conv=>whnf)
  refine LoopC.go ((Nat)) (fun k=>(k≤(candAll p b).length)∧(((candAll p b).drop k).findSome? (inferOn p b)=(candAll p b).findSome? (inferOn p b))) (fun k=>[(33,.data (i64 k))]) (fun _=>[]) (fun _=>[]) (fun k=>(candAll p b).length - k) (0) ?_ ?_
  ·exact⟨Nat.zero_le _,rfl⟩
  rintro k ⟨hk,hi⟩
  by_cases hlt:k < (candAll p b).length
  rotate_left
  ·(repeat' ((conv=>whnf);first | (exfalso;omega) | refine gA ?_ | ((with_reducible first | refine gD (fun h=>?_) (fun h=>?_) | refine gE (fun h=>?_) (fun h=>?_)) <;> (try simp only [lm] at h) <;> try have hw:=wn h) | with_reducible refine gI (fun x hx=>?_) | with_reducible refine gJ (fun j x hj hx=>?_) | refine gV ?_ | intro _)) <;> (try (conv=>whnf))
   rw [drop_end' (by assumption)] at hi
   rw [← hi]
   (repeat' ((conv=>whnf) <;> (first | exact trivial | exact VC.nod (by kernel_rfl) | refine VC.mk rfl ?_)))
  obtain⟨r,hr⟩:∃r,(candAll p b)[k]? =some r:=⟨(candAll p b)[k]'hlt,by simp⟩
  have hro:=candAll_ok hu (List.mem_of_getElem? hr)
  have hal:=ruleActs_len p r
  rw [some_next hr] at hi
  (repeat' ((conv=>whnf);first | with_reducible refine Idx.got hr rfl ?_ | refine gA ?_ | ((with_reducible first | refine gD (fun h=>?_) (fun h=>?_) | refine gE (fun h=>?_) (fun h=>?_)) <;> (try simp only [lm] at h) <;> try have hw:=wn h) | with_reducible refine gI (fun x hx=>?_) | with_reducible refine gJ (fun j x hj hx=>?_) | refine gV ?_ | refine gC (spec_RuleActivities p r hp) ?_ | intro _)) <;> (try (conv=>whnf))
  rotate_left
  ·exfalso;omega
  refine loopF [2,3,4,9,31,32,33,39,40] [2,3,4,9] [] ?_
  (conv=>whnf)
  refine LoopC.go ((Nat)) (fun j=>(j≤(ruleActs p r).length)∧(((ruleActs p r).drop j).findSome? (inferOf p b r)=inferOn p b r)) (fun j=>[(41,.data (i64 j))]) (fun _=>[]) (fun _=>[]) (fun j=>(ruleActs p r).length - j) (0) ?_ ?_
  ·exact⟨Nat.zero_le _,rfl⟩
  rintro j ⟨hj,hi2⟩
  by_cases hjl:j < (ruleActs p r).length
  rotate_left
  ·rw [drop_end' (by omega)] at hi2
   rw [← hi2] at hi
   (repeat' ((conv=>whnf);first | (exfalso;omega) | refine gA ?_ | ((with_reducible first | refine gD (fun h=>?_) (fun h=>?_) | refine gE (fun h=>?_) (fun h=>?_)) <;> (try simp only [lm] at h) <;> try have hw:=wn h) | with_reducible refine gI (fun x hx=>?_) | with_reducible refine gJ (fun j x hj hx=>?_) | refine gV ?_ | intro _)) <;> (try (conv=>whnf))
   refine nx (k+1) ?_
   exact⟨by omega,hi⟩
  obtain⟨a,ha⟩:∃a,(ruleActs p r)[j]? =some a:=⟨(ruleActs p r)[j]'hjl,by simp⟩
  obtain⟨n,rfl,hna⟩:=ruleActs_mem (List.mem_of_getElem? ha)
  have hil:=inferA_len p b r n hf hna
  rw [some_next ha,inferOf,Int.toNat_natCast] at hi2
  by_cases h0:0 < (inferA p b r n).length
  ·obtain⟨l,hx⟩:∃l,(inferA p b r n)[0]? =some l:=⟨(inferA p b r n)[0]'h0,by simp⟩
   have hh:(inferA p b r n).head? =some l:=by rw [List.head?_eq_getElem?];exact hx
   rw [hh] at hi2
   have hi3:some (⟨l,r,(explainLit p b r l).1⟩:Infer)=inferOn p b r:=hi2
   rw [← hi3] at hi
   have hi4:some (⟨l,r,(explainLit p b r l).1⟩:Infer)=(candAll p b).findSome? (inferOn p b):=hi
   rw [← hi4]
   (repeat' ((conv=>whnf);first | with_reducible refine Idx.got ha rfl ?_ | with_reducible refine Idx.got hx rfl ?_ | refine gA ?_ | ((with_reducible first | refine gD (fun h=>?_) (fun h=>?_) | refine gE (fun h=>?_) (fun h=>?_)) <;> (try simp only [lm] at h) <;> try have hw:=wn h) | with_reducible refine gI (fun x hx=>?_) | with_reducible refine gJ (fun j x hj hx=>?_) | refine gV ?_ | refine gC (spec_l19Facts p b r n hp hf hro hna) ?_ | refine gC (spec_ExplainLiteral p b r l hp hf) ?_ | intro _)) <;> (try (conv=>whnf))
   ·(repeat' ((conv=>whnf) <;> (first | exact trivial | exact VC.nod (by kernel_rfl) | refine VC.mk rfl ?_)))
   ·exfalso;omega
   ·exfalso;omega
  ·have hh:(inferA p b r n).head? =none:=by rw [List.head?_eq_none_iff];exact List.eq_nil_of_length_eq_zero (by omega)
   rw [hh] at hi2
   (repeat' ((conv=>whnf);first | with_reducible refine Idx.got ha rfl ?_ | (exfalso;omega) | refine gA ?_ | ((with_reducible first | refine gD (fun h=>?_) (fun h=>?_) | refine gE (fun h=>?_) (fun h=>?_)) <;> (try simp only [lm] at h) <;> try have hw:=wn h) | with_reducible refine gI (fun x hx=>?_) | with_reducible refine gJ (fun j x hj hx=>?_) | refine gV ?_ | refine gC (spec_l19Facts p b r n hp hf hro hna) ?_ | intro _)) <;> (try (conv=>whnf))
   refine nx (j+1) ?_
   exact⟨by omega,hi2⟩
def isFix (p:Proj) (b:Dom):Bool:=usable p b&& !(findRef p b).isSome&& !(firstInf p b).isSome
end Go.Proofs.YtkiohdpapinecaaGreat.Abs
