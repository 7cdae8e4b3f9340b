/- Contracts: restricted domains. No statement of a claim. -/
import Derived.Test.YtepogmnolnlpmaaGreatC11
import Derived.Test.YtepogmnolnlpmaaGreatPlain
import Derived.Test.YtepogmnolnlpmaaGreatC29
set_option linter.all false
set_option linter.unusedVariables false
set_option linter.unusedSimpArgs false
set_option maxRecDepth 20000
set_option maxHeartbeats 4000000
namespace Go.Proofs.YtepogmnolnlpmaaGreat.Abs
open Go.Proofs
theorem domForm_mk {p:Proj} {b:Dom} (h1:projOk p=true) (h2:b.lo.length=p.acts.length) (h3:b.hi.length=p.acts.length) (h4:b.modes.length=p.acts.length) (h5:∀k,k < p.acts.length→domAt p b k=true):domForm p b=true:=by
 simp only [domForm,Bool.and_eq_true,allN_iff,Bool.not_eq_true',decide_eq_false_iff_not]
 exact⟨⟨⟨⟨h1,by omega⟩,by omega⟩,by omega⟩,h5⟩
theorem subset_filter {m:List Int} {r:List Int} (f:Int→Bool) (h:subset m r=true):subset (m.filter f) r=true:=by
 simp only [subset,List.all_eq_true] at h ⊢
 intro x hx
 exact h x (List.mem_filter.1 hx).1
theorem restrict_form {p:Proj} {b:Dom} (h:domForm p b=true) (l:Lit):domForm p (restrict b l)=true:=by
 obtain⟨h1,h2,h3,h4,h5⟩:=domForm_parts h
 unfold restrict
 split
 ·rename_i hd
  obtain⟨n,e1,e2,e3,e4,e5⟩:=hasDom_lt hd
  have hc:=clamped_in l.val
  have hn:n < p.acts.length:=by omega
  have hdn:=h5 n hn
  have g1:b.lo[n]? =some (b.lo[n]'e3):=by simp
  have g2:b.hi[n]? =some (b.hi[n]'e4):=by simp
  have g3:b.modes[n]? =some (b.modes[n]'e5):=by simp
  have g4:p.acts[n]? =some (p.acts[n]'hn):=by simp
  simp only [domAt,g1,g2,g3,g4,Bool.and_eq_true,isStart,within_iff] at hdn
  dsimp only
  rw [e2]
  simp only [List.getD_eq_getElem?_getD,g1,g2,g3,Option.getD_some]
  have key:∀b':Dom,b'.lo.length=b.lo.length→b'.hi.length=b.hi.length→b'.modes.length=b.modes.length→(∀k,k≠n→b'.lo[k]? =b.lo[k]? ∧b'.hi[k]? =b.hi[k]? ∧b'.modes[k]? =b.modes[k]?)→domAt p b' n=true→domForm p b'=true:=by
   intro b' k1 k2 k3 k4 k5
   refine domForm_mk h1 (by omega) (by omega) (by omega) fun k hk=>?_
   by_cases e:k=n
   ·rw [e];exact k5
   ·obtain⟨j1,j2,j3⟩:=k4 k e
    have:=h5 k hk
    simp only [domAt,j1,j2,j3] at this ⊢
    exact this
  split
  ·refine key _ (by simp) rfl rfl (fun k hk=>⟨by simp [List.getElem?_set,Ne.symm hk],rfl,rfl⟩) ?_
   simp only [domAt,List.getElem?_set_self e3,g2,g3,g4,Bool.and_eq_true,isStart,within_iff]
   exact⟨⟨⟨by omega,hdn.1.1.2⟩,hdn.1.2⟩,hdn.2⟩
  split
  ·refine key _ rfl (by simp) rfl (fun k hk=>⟨rfl,by simp [List.getElem?_set,Ne.symm hk],rfl⟩) ?_
   simp only [domAt,List.getElem?_set_self e4,g1,g3,g4,Bool.and_eq_true,isStart,within_iff]
   exact⟨⟨⟨hdn.1.1.1,by omega⟩,hdn.1.2⟩,hdn.2⟩
  split
  ·refine key _ rfl rfl (by simp) (fun k hk=>⟨rfl,rfl,by simp [List.getElem?_set,Ne.symm hk]⟩) ?_
   simp only [domAt,List.getElem?_set_self e5,g1,g2,g4,Bool.and_eq_true,isStart,within_iff]
   exact⟨⟨hdn.1.1,filter_setOk hdn.1.2⟩,subset_filter _ hdn.2⟩
  split
  ·refine key _ rfl rfl (by simp) (fun k hk=>⟨rfl,rfl,by simp [List.getElem?_set,Ne.symm hk]⟩) ?_
   simp only [domAt,List.getElem?_set_self e5,g1,g2,g4,Bool.and_eq_true,isStart,within_iff]
   exact⟨⟨hdn.1.1,filter_setOk hdn.1.2⟩,subset_filter _ hdn.2⟩
  ·exact h
 ·exact h
end Go.Proofs.YtepogmnolnlpmaaGreat.Abs
set_option linter.unusedVariables false
set_option linter.unusedSimpArgs false
set_option maxRecDepth 20000
set_option maxHeartbeats 4000000
namespace Go.Proofs.YtepogmnolnlpmaaGreat.Abs
open Go.Proofs
def zeroRul:Rul:=⟨0,0,0,0⟩
def findRef (p:Proj) (b:Dom):Option Rul:=if domForm p b=true∧domEmpty b=true then some zeroRul else (candRules p b).find? (refutes p b)
def RRul (o:Option Rul):RV:=.tup [.d (o.getD zeroRul).av,.d (.bool o.isSome)]
def explainLit (p:Proj) (b:Dom) (r:Rul) (l:Lit):List Lit×Bool:=
 if litOk p l=true∧refutes p (restrict b (negate l)) r=true then (shortened p r (fun x=>sameLit x l) (newClause (negs p b++[l])),true) else ([],false)
def RLits (r:List Lit×Bool):RV:=.tup [.fr (r.1.map Lit.av),.d (.bool r.2)]
def RLitsD (r:List Lit×Bool):RV:=.tup [.d (lits r.1),.d (.bool r.2)]
theorem impl_ExplainLiteral1 (x l:Lit):Con 171 [.d x.av,.ref l.av] (.d (.bool (sameLit x l))):=by
 refine con Tryz.func171 rfl rfl Tryz.call171 rfl fun hwf=>?_
 (repeat' ((conv=>whnf);first | refine gA ?_ | ((with_reducible first | refine gD (fun h=>?_) (fun h=>?_) | refine gE (fun h=>?_) (fun h=>?_)) <;> (try simp only [lm] at h) <;> try have hw:=wn h) | intro _)) <;> (try (conv=>whnf))
 all_goals exact⟨by simp [sameLit],rfl,trivial⟩
theorem negs_len (p:Proj) (b:Dom):(negs p b).length≤1212:=by rw [negs,List.length_map];exact domLits_len p b
theorem domForm_setOk' {p:Proj} {b:Dom} (h:domForm p b=true) {n:Nat} {m:List Int} (hm:b.modes[n]? =some m):setOk m=true:=by
 have hn:=(List.getElem?_eq_some_iff.1 hm).1
 obtain⟨_,l1,l2,l3,_⟩:=domForm_parts h
 obtain⟨a,x,y,m',g⟩:=dom_get h (show n < p.acts.length by omega)
 have:=g.modes
 rw [hm] at this
 cases this
 exact g.mok
theorem keptOf_at {l:List Lit} {k:Nat} {x:Lit} (h:l[k]? =some x):keptOf l (k:Int)=x:=by
 have hk:=(List.getElem?_eq_some_iff.1 h).1
 exact keptOf_in (within_iff.2 (by omega)) (by rw [Int.toNat_natCast];exact h)
theorem spec_ExplainLiteral (p:Proj) (b:Dom) (r:Rul) (l:Lit) (hp:p.fine) (hf:domForm p b=true):Con 150 [.d p.av,.d b.av,.d r.av,.d l.av] (RLitsD (explainLit p b r l)):=by
 refine con Tryz.func150 rfl rfl Tryz.call150 rfl fun hwf=>?_
 have hpo:=(domForm_parts hf).1
 have hnl:=negs_len p b
 have hs:∀m,b.modes[(negate l).act.toNat]? =some m→setOk m=true:=fun m hm=>domForm_setOk' hf hm
 have hN:=spec_NewClause (negs p b++[l])
 rw [lits,List.map_append] at hN
 have hcl:=newClause_len (negs p b++[l])
 simp only [List.length_append,List.length_cons,List.length_nil] at hcl
 have hmem:l∈newClause (negs p b++[l]):=by rw [(newClause_sorted _).2];simp
 by_cases hc:litOk p l=true∧refutes p (restrict b (negate l)) r=true
 ·obtain⟨h1,h2⟩:=hc
  (repeat' ((conv=>whnf);first | refine gA ?_ | ((with_reducible first | refine gD (fun h=>?_) (fun h=>?_) | refine gE (fun h=>?_) (fun h=>?_)) <;> (try simp only [lm] at h) <;> try have hw:=wn h) | with_reducible refine gI (fun x hx=>?_) | with_reducible refine gJ (fun j x hj hx=>?_) | refine gP ?_ | refine gV ?_ | refine gC (spec_LiteralOk p l hp) ?_ | refine gC (spec_Negate l) ?_ | refine gC (spec_Restrict b (negate l) hs) ?_ | refine gC (spec_Refutes p (restrict b (negate l)) r hp) ?_ | refine gC (spec_l18Turned p b hp) ?_ | refine gC (hN) ?_ | intro _)) <;> (try (conv=>whnf))
  refine loopF [4,6,7,10,35,36] [4,6,7] [] ?_
  (conv=>whnf)
  refine LoopC.go ((Nat)×(Nat)) (fun⟨k,j⟩=>(k≤(newClause (negs p b++[l])).length)∧(j≤k)∧(l∈(newClause (negs p b++[l])).take k→(newClause (negs p b++[l]))[j]? =some l)) (fun⟨k,j⟩=>[(37,.data (i64 k)),(11,.data (i64 j))]) (fun _=>[]) (fun _=>[]) (fun⟨k,j⟩=>(newClause (negs p b++[l])).length - k) ⟨0,0⟩ ?_ ?_
  ·exact⟨Nat.zero_le _,Nat.le_refl _,by simp⟩
  rintro⟨k,j⟩ ⟨hk,hj,hi⟩
  by_cases hlt:k < (newClause (negs p b++[l])).length
  ·obtain⟨x,hx⟩:∃x,(newClause (negs p b++[l]))[k]? =some x:=⟨(newClause (negs p b++[l]))[k]'hlt,by simp⟩
   (repeat' ((conv=>whnf);first | with_reducible refine Idx.got hx rfl ?_ | refine gA ?_ | ((with_reducible first | refine gD (fun h=>?_) (fun h=>?_) | refine gE (fun h=>?_) (fun h=>?_)) <;> (try simp only [lm] at h) <;> try have hw:=wn h) | with_reducible refine gI (fun x hx=>?_) | with_reducible refine gJ (fun j x hj hx=>?_) | refine gP ?_ | refine gV ?_ | intro _)) <;> (try (conv=>whnf))
   ·refine nx ⟨k+1,k⟩ ?_
    have e:x=l:=sameLit_iff.1 (sameLit_of (by assumption))
    exact⟨by omega,by omega,fun _=>by rw [hx,e]⟩
   ·refine nx ⟨k+1,j⟩ ?_
    refine⟨by omega,by omega,fun hm=>hi ?_⟩
    obtain⟨hk',hx'⟩:=List.getElem?_eq_some_iff.1 hx
    rw [List.take_succ_eq_append_getElem hk',List.mem_append,List.mem_singleton,hx'] at hm
    rcases hm with hm | hm
    ·exact hm
    ·have hne:=sameLit_of (by assumption)
     rw [sameLit_iff.2 hm.symm] at hne
     cases hne
   ·exfalso;omega
  ·have hj2:=hi (by rw [List.take_of_length_le (by omega)];exact hmem)
   have hS:=spec_l18Short p r (newClause (negs p b++[l])) j hp hpo
   rw [keptOf_at hj2] at hS
   (repeat' ((conv=>whnf);first | (exfalso;omega) | refine gA ?_ | ((with_reducible first | refine gD (fun h=>?_) (fun h=>?_) | refine gE (fun h=>?_) (fun h=>?_)) <;> (try simp only [lm] at h) <;> try have hw:=wn h) | with_reducible refine gI (fun x hx=>?_) | with_reducible refine gJ (fun j x hj hx=>?_) | refine gP ?_ | refine gV ?_ | refine gC (hS) ?_ | intro _)) <;> (try (conv=>whnf))
   rw [explainLit,if_pos ⟨h1,h2⟩]
   (repeat' ((conv=>whnf) <;> (first | exact trivial | refine VC.mk rfl ?_)))
 ·(repeat' ((conv=>whnf);first | refine gA ?_ | ((with_reducible first | refine gD (fun h=>?_) (fun h=>?_) | refine gE (fun h=>?_) (fun h=>?_)) <;> (try simp only [lm] at h) <;> try have hw:=wn h) | with_reducible refine gI (fun x hx=>?_) | with_reducible refine gJ (fun j x hj hx=>?_) | refine gP ?_ | refine gV ?_ | refine gC (spec_LiteralOk p l hp) ?_ | refine gC (spec_Negate l) ?_ | refine gC (spec_Restrict b (negate l) hs) ?_ | refine gC (spec_Refutes p (restrict b (negate l)) r hp) ?_ | refine gC (spec_l18Turned p b hp) ?_ | refine gC (hN) ?_ | intro _)) <;> (try (conv=>whnf))
  ·exact absurd ⟨by assumption,by assumption⟩ hc
  ·rw [explainLit,if_neg hc]
   (repeat' ((conv=>whnf) <;> (first | exact trivial | refine VC.mk rfl ?_)))
  ·rw [explainLit,if_neg hc]
   (repeat' ((conv=>whnf) <;> (first | exact trivial | refine VC.mk rfl ?_)))
end Go.Proofs.YtepogmnolnlpmaaGreat.Abs
