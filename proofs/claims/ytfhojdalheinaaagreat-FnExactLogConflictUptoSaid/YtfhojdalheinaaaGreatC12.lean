/- Contracts: restricted domains. No statement of a claim. -/
import Derived.Test.YtfhojdalheinaaaGreatC11
import Derived.Test.YtfhojdalheinaaaGreatPlain
set_option linter.all false
set_option linter.unusedVariables false
set_option linter.unusedSimpArgs false
set_option maxRecDepth 20000
set_option maxHeartbeats 4000000
namespace Go.Proofs.YtfhojdalheinaaaGreat.Abs
open Go.Proofs
theorem domForm_mk {p:Proj} {b:Dom} (h1:projOk p=true) (h2:b.lo.length=p.acts.length) (h3:b.hi.length=p.acts.length) (h4:b.modes.length=p.acts.length) (h5:∀k,k < p.acts.length→domAt p b k=true):domForm p b=true:=by
 simp only [domForm,Bool.and_eq_true,allN_iff,Bool.not_eq_true',decide_eq_false_iff_not]
 exact⟨⟨⟨⟨h1,by omega⟩,by omega⟩,by omega⟩,h5⟩
theorem subset_filter {m:List Int} {r:List Int} (f:Int→Bool) (h:subset m r=true):subset (m.filter f) r=true:=by
 simp only [subset,List.all_eq_true] at h ⊢
 intro x hx
 exact h x (List.mem_filter.1 hx).1
theorem restrict_form {p:Proj} {b:Dom} (h:domForm p b=true) (l:Lit):domForm p (restrict b l)=true:=by
 obtain⟨h1,h2,h3,h4,h5⟩:=domForm_parts h
 unfold restrict
 split
 ·rename_i hd
  obtain⟨n,e1,e2,e3,e4,e5⟩:=hasDom_lt hd
  have hc:=clamped_in l.val
  have hn:n < p.acts.length:=by omega
  have hdn:=h5 n hn
  have g1:b.lo[n]? =some (b.lo[n]'e3):=by simp
  have g2:b.hi[n]? =some (b.hi[n]'e4):=by simp
  have g3:b.modes[n]? =some (b.modes[n]'e5):=by simp
  have g4:p.acts[n]? =some (p.acts[n]'hn):=by simp
  simp only [domAt,g1,g2,g3,g4,Bool.and_eq_true,isStart,within_iff] at hdn
  dsimp only
  rw [e2]
  simp only [List.getD_eq_getElem?_getD,g1,g2,g3,Option.getD_some]
  have key:∀b':Dom,b'.lo.length=b.lo.length→b'.hi.length=b.hi.length→b'.modes.length=b.modes.length→(∀k,k≠n→b'.lo[k]? =b.lo[k]? ∧b'.hi[k]? =b.hi[k]? ∧b'.modes[k]? =b.modes[k]?)→domAt p b' n=true→domForm p b'=true:=by
   intro b' k1 k2 k3 k4 k5
   refine domForm_mk h1 (by omega) (by omega) (by omega) fun k hk=>?_
   by_cases e:k=n
   ·rw [e];exact k5
   ·obtain⟨j1,j2,j3⟩:=k4 k e
    have:=h5 k hk
    simp only [domAt,j1,j2,j3] at this ⊢
    exact this
  split
  ·refine key _ (by simp) rfl rfl (fun k hk=>⟨by simp [List.getElem?_set,Ne.symm hk],rfl,rfl⟩) ?_
   simp only [domAt,List.getElem?_set_self e3,g2,g3,g4,Bool.and_eq_true,isStart,within_iff]
   exact⟨⟨⟨by omega,hdn.1.1.2⟩,hdn.1.2⟩,hdn.2⟩
  split
  ·refine key _ rfl (by simp) rfl (fun k hk=>⟨rfl,by simp [List.getElem?_set,Ne.symm hk],rfl⟩) ?_
   simp only [domAt,List.getElem?_set_self e4,g1,g3,g4,Bool.and_eq_true,isStart,within_iff]
   exact⟨⟨⟨hdn.1.1.1,by omega⟩,hdn.1.2⟩,hdn.2⟩
  split
  ·refine key _ rfl rfl (by simp) (fun k hk=>⟨rfl,rfl,by simp [List.getElem?_set,Ne.symm hk]⟩) ?_
   simp only [domAt,List.getElem?_set_self e5,g1,g2,g4,Bool.and_eq_true,isStart,within_iff]
   exact⟨⟨hdn.1.1,filter_setOk hdn.1.2⟩,subset_filter _ hdn.2⟩
  split
  ·refine key _ rfl rfl (by simp) (fun k hk=>⟨rfl,rfl,by simp [List.getElem?_set,Ne.symm hk]⟩) ?_
   simp only [domAt,List.getElem?_set_self e5,g1,g2,g4,Bool.and_eq_true,isStart,within_iff]
   exact⟨⟨hdn.1.1,filter_setOk hdn.1.2⟩,subset_filter _ hdn.2⟩
  ·exact h
 ·exact h
end Go.Proofs.YtfhojdalheinaaaGreat.Abs
set_option linter.unusedVariables false
set_option linter.unusedSimpArgs false
set_option maxRecDepth 20000
set_option maxHeartbeats 4000000
namespace Go.Proofs.YtfhojdalheinaaaGreat.Abs
open Go.Proofs
theorem valueOf_zero {a b:Bool}:valueOf a b=0↔a=false∧b=false:=by cases a <;> cases b <;> simp [valueOf]
theorem filter_less {m:List Int} {f:Int→Bool} {v:Int} (hv:v∈m) (h:f v=false):(m.filter f).length < m.length:=by
 rw [List.length_filter_lt_length_iff_exists]
 exact⟨v,hv,by simp [h]⟩
theorem other {m:List Int} {v:Int} (hs:setOk m=true) (hv:v∈m) (hne:m≠[v]):∃w∈m,w≠v:=by
 have hp:=setOk_pw hs
 match m,hv,hne,hp with
 | [x],hv,hne,_=>simp at hv;subst hv;exact absurd rfl hne
 | x::y::r,_,_,hp=>
  have:x < y:=(List.pairwise_cons.1 hp).1 y (by simp)
  by_cases e:x=v
  ·exact⟨y,by simp,by omega⟩
  ·exact⟨x,by simp,e⟩
theorem mode_small {p:Proj} {b:Dom} {k:Nat} {a:Activ} {x y:Int} {m:List Int} (hg:DomGet p b k a x y m) {v:Int} (hv:v∈m):clamped v=v:=by
 obtain⟨j,e,hj⟩:=hg.msub v hv
 have:=hg.aok
 simp only [activOk,Bool.and_eq_true,within_iff] at this
 unfold clamped;omega
theorem restrict_less {p:Proj} {b:Dom} (h:domForm p b=true) {l:Lit} (hl:litValue b l=0):openness (restrict b l) < openness b:=by
 obtain⟨hd,hk1,hk2⟩:=litValue_kind hl
 obtain⟨n,e1,e2,e3,e4,e5⟩:=hasDom_lt hd
 obtain⟨h1,h2,h3,h4,h5⟩:=domForm_parts h
 obtain⟨a,x,y,m,hg⟩:=dom_get h (k:=n) (by omega)
 rw [litValue,if_pos hd] at hl
 rw [restrict,if_pos hd]
 dsimp only at hl ⊢
 rw [e2] at hl ⊢
 simp only [List.getD_eq_getElem?_getD,hg.lo,hg.hi,hg.modes,Option.getD_some] at hl ⊢
 have b1:=hg.lob
 have b2:=hg.hib
 unfold openness
 split
 ·rename_i hk
  rw [if_pos hk,valueOf_zero] at hl
  simp only [decide_eq_false_iff_not] at hl
  have:=sum_set (fun n:Int=>(62 - n).toNat) (v:=max x (clamped l.val)) hg.lo
  have hc:clamped l.val=l.val:=by unfold clamped;omega
  dsimp only at this ⊢
  rw [hc] at this ⊢
  omega
 split
 ·rename_i hk' hk
  rw [if_neg hk',if_pos hk,valueOf_zero] at hl
  simp only [decide_eq_false_iff_not] at hl
  have:=sum_set (fun n:Int=>(n+2).toNat) (v:=min y (clamped l.val)) hg.hi
  have hc:clamped l.val=l.val:=by unfold clamped;omega
  dsimp only at this ⊢
  rw [hc] at this ⊢
  omega
 split
 ·rename_i k1 k2 hk
  rw [if_neg k1,if_neg k2,if_pos hk,valueOf_zero] at hl
  simp only [decide_eq_false_iff_not,Bool.not_eq_false',List.contains_iff_mem] at hl
  rw [mode_small hg hl.2]
  obtain⟨w,hw,hwv⟩:=other hg.mok hl.2 hl.1
  have hless:=filter_less (f:=fun n=>decide (n=l.val)) hw (by simpa using hwv)
  have:=sum_set List.length (v:=m.filter fun n=>decide (n=l.val)) hg.modes
  dsimp only at this ⊢
  omega
 split
 ·rename_i k1 k2 k3 hk
  rw [if_neg k1,if_neg k2,if_neg k3,if_pos hk,valueOf_zero] at hl
  simp only [decide_eq_false_iff_not,Bool.not_eq_false',List.contains_iff_mem] at hl
  rw [mode_small hg hl.1]
  have hless:=filter_less (f:=fun n=>decide (n≠l.val)) hl.1 (by simp)
  have:=sum_set List.length (v:=m.filter fun n=>decide (n≠l.val)) hg.modes
  dsimp only at this ⊢
  omega
 ·exfalso;omega
theorem impl_UnitPropagate1 (l:List Lit) (d:Dom):Con 242 [.d (lits l),.ref d.av] (.d (.bool (bites d l))):=by
 refine con Tryz.func242 rfl rfl Tryz.call242 rfl fun hwf=>?_
 (repeat' ((conv=>whnf);first | refine gA ?_ | (refine gB ?_ ?_ <;> intro h) | refine gC (impl_ClauseStatus d l) ?_ | intro _)) <;> try (conv=>whnf)
 all_goals (refine⟨?_,rfl,trivial⟩;simp [bites,sameLit,zeroLit, *];try rfl)
theorem slices_IndexFunc_lits (l:List (List Lit)) (fc:Nat) (caps:List AV) (p:List Lit→Bool) (hc:∀x:List Lit,Con fc ([.d (lits x)]++caps.map .ref) (.d (.bool (p x)))):
  Con 241 [.d (.sl (l.map lits)),.fn fc caps] (.d (i64 (findI p l 0))):=by
 refine con Tryz.func241 rfl rfl Tryz.call241 rfl fun hwf=>?_
 simp only [ARs.wf,AR.wf,AV.wf,AV.wfs,List.length_map,lim] at hwf
 (conv=>whnf)
 refine loopF [0,1,7] [] [] ?_
 (conv=>whnf)
 refine LoopC.go ((Nat)) (fun k=>(k≤l.length)∧(findI p (l.drop k) k=findI p l 0)) (fun k=>[(8,.data (i64 k))]) (fun _=>[]) (fun _=>[]) (fun k=>l.length - k) (0) ?_ ?_
 ·exact⟨by omega,rfl⟩
 rintro k ⟨hk,hi⟩
 (repeat' ((conv=>whnf);first | refine gA ?_ | (refine gB ?_ ?_ <;> intro h) | (refine gI ?_;intro x hx) | (refine gJ ?_;intro j x hj hx) | refine gV ?_ | refine gC (hc x) ?_ | intro _)) <;> try (conv=>whnf)
 all_goals first
  | exact trivial
  | (refine⟨?_,rfl,trivial⟩;rw [drop_end' (l:=l) (by assumption)] at hi;first | (simp_all [findI];done) | (simp only [findI, ← hi];clear hi;simp_all [findI];done))
  | (refine⟨?_,rfl,trivial⟩;rw [drop_get (l:=l) (by assumption)] at hi;first | (simp_all [findI];done) | (simp only [findI, ← hi];clear hi;simp_all [findI];done))
  | (refine nx (k+1) ?_
     rw [drop_get (l:=l) (by assumption)] at hi;refine⟨by omega,?_⟩;simp_all [findI];done)
def RUp (r:Dom×Bool):RV:=.tup [.d r.1.av,.d (.bool r.2)]
theorem findI_find {α:Type} (p:α→Bool):∀(l:List α) (k:Nat),(l.find? p=none∧findI p l k= -1)∨∃(n:Nat) (x:α),findI p l k=(k+n:Nat)∧l[n]? =some x∧l.find? p=some x∧p x=true
 | [],k=>.inl ⟨rfl,rfl⟩
 | y::r,k=>by
  rw [findI,List.find?_cons]
  cases h:p y with
  | true=>exact .inr ⟨0,y,by simp,rfl,rfl,h⟩
  | false=>
   simp only [Bool.false_eq_true,if_false]
   rcases findI_find p r (k+1) with⟨h1,h2⟩ | ⟨n,x,h1,h2,h3,h4⟩
   ·exact .inl ⟨h1,h2⟩
   ·exact .inr ⟨n+1,x,by rw [h1];congr 1;omega,by simpa using h2,h3,h4⟩
theorem domForm_setOk {p:Proj} {b:Dom} (h:domForm p b=true) {m:List Int} (hm:m∈b.modes):setOk m=true:=by
 obtain⟨k,hk,rfl⟩:=List.getElem_of_mem hm
 obtain⟨a,x,y,m',hg⟩:=dom_get h (k:=k) (by have:=(domForm_parts h).2.2.2.1;omega)
 have:=hg.modes
 rw [List.getElem?_eq_getElem hk] at this
 cases this
 exact hg.mok
theorem upStep_next {p:Proj} {b:Dom} {l:List Lit} (hf:domForm p b=true) (hb:bites b l=true) (hs:¬(status b l).1 < 0):
  domForm p (restrict b (status b l).2)=true∧openness (restrict b (status b l).2) < openness b:=by
 refine⟨restrict_form hf _,restrict_less hf ?_⟩
 simp only [bites,Bool.or_eq_true,Bool.and_eq_true,decide_eq_true_eq,Bool.not_eq_true'] at hb
 rcases hb with hb | ⟨h0,h1⟩
 ·exact absurd hb hs
 ·refine status_open (l:=l) (by rw [← h0]) fun e=>?_
  rw [e] at h1
  rw [sameLit_iff.2 rfl] at h1
  cases h1
theorem impl_UnitPropagate (p:Proj) (list:List (List Lit)) (b:Dom) (hp:p.fine):Con 148 [.d p.av,.d (.sl (list.map lits)),.d b.av] (RUp (unitProp p list b)):=by
 refine con Tryz.func148 rfl rfl Tryz.call148 rfl fun hwf=>?_
 simp only [ARs.wf,AR.wf,AV.wf,AV.wfs,List.length_map,lim] at hwf
 cases hf:domForm p b with
 | false=>
  (repeat' ((conv=>whnf);first | refine gA ?_ | (refine gB ?_ ?_ <;> intro h) | (refine gI ?_;intro x hx) | (refine gJ ?_;intro j x hj hx) | refine gC (impl_copied b) ?_ | refine gC (impl_DomainForm p b hp) ?_ | intro _)) <;> try (conv=>whnf)
  rw [unitProp,if_neg (by simp [hf])]
  (repeat' ((conv=>whnf) <;> (first | exact trivial | exact VC.nod (by kernel_rfl) | refine VC.mk rfl ?_)))
 | true=>
  rw [unitProp,if_pos hf]
  (repeat' ((conv=>whnf);first | refine gA ?_ | (refine gB ?_ ?_ <;> intro h) | (refine gI ?_;intro x hx) | (refine gJ ?_;intro j x hj hx) | refine gC (impl_copied b) ?_ | refine gC (impl_DomainForm p b hp) ?_ | intro _)) <;> try (conv=>whnf)
  refine loopF [1,6,8] [6] [] ?_
  (conv=>whnf)
  refine LoopC.go ((Dom)×(Nat)) (fun⟨d,n⟩=>(domForm p d=true)∧(openness d < n)∧(upRun list n d=upRun list (openness b+1) b)) (fun _=>[]) (fun⟨d,n⟩=>[(8,(AV.cells d.av).map SV.data)]) (fun _=>[]) (fun⟨d,n⟩=>n) ⟨b,openness b+1⟩ ?_ ?_
  ·exact⟨hf,by omega,rfl⟩
  rintro⟨d,n⟩ ⟨hd,hn,hi⟩
  obtain⟨n,rfl⟩:∃m,n=m+1:=⟨n - 1,by omega⟩
  rw [upRun,upStep] at hi
  rcases findI_find (bites d) list 0 with⟨f1,f2⟩ | ⟨k,l,f1,f2,f3,f4⟩
  ·rw [f1] at hi
   (repeat' ((conv=>whnf);first | with_reducible refine Br.yes (decide_eq_true (by omega)) ?_ | refine gA ?_ | (refine gB ?_ ?_ <;> intro h) | (refine gI ?_;intro x hx) | (refine gJ ?_;intro j x hj hx) | refine gC (impl_DomainEmpty d) ?_ | refine gC (slices_IndexFunc_lits list 242 [d.av] _ fun x=>impl_UnitPropagate1 x d) ?_ | intro _)) <;> try (conv=>whnf)
   ·rw [if_pos h] at hi
    rw [← hi]
    (repeat' ((conv=>whnf) <;> (first | exact trivial | exact VC.nod (by kernel_rfl) | refine VC.mk rfl ?_)))
   ·rw [if_neg (Bool.eq_false_iff.1 h)] at hi
    rw [← hi]
    (repeat' ((conv=>whnf) <;> (first | exact trivial | exact VC.nod (by kernel_rfl) | refine VC.mk rfl ?_)))
  ·rw [f3] at hi
   by_cases hs:(status d l).1 < 0
   ·(repeat' ((conv=>whnf);first | with_reducible refine Br.no (decide_eq_false (by omega)) ?_ | with_reducible refine Idx.got f2 (by rw [f1,Nat.zero_add]) ?_ | refine gA ?_ | (refine gB ?_ ?_ <;> intro h) | (refine gI ?_;intro x hx) | (refine gJ ?_;intro j x hj hx) | refine gC (impl_DomainEmpty d) ?_ | refine gC (slices_IndexFunc_lits list 242 [d.av] _ fun x=>impl_UnitPropagate1 x d) ?_ | refine gC (impl_ClauseStatus d l) ?_ | refine gC (impl_Restrict d _) ?_ | intro _)) <;> try (conv=>whnf)
    ·rw [if_pos h] at hi
     rw [← hi]
     (repeat' ((conv=>whnf) <;> (first | exact trivial | exact VC.nod (by kernel_rfl) | refine VC.mk rfl ?_)))
    ·rw [if_neg (Bool.eq_false_iff.1 (by assumption))] at hi
     dsimp only at hi
     rw [if_pos hs] at hi
     rw [← hi]
     (repeat' ((conv=>whnf) <;> (first | exact trivial | exact VC.nod (by kernel_rfl) | refine VC.mk rfl ?_)))
    ·exact absurd hs (by assumption)
   ·(repeat' ((conv=>whnf);first | with_reducible refine Br.no (decide_eq_false (by omega)) ?_ | with_reducible refine Idx.got f2 (by rw [f1,Nat.zero_add]) ?_ | refine gA ?_ | (refine gB ?_ ?_ <;> intro h) | (refine gI ?_;intro x hx) | (refine gJ ?_;intro j x hj hx) | refine gC (impl_DomainEmpty d) ?_ | refine gC (slices_IndexFunc_lits list 242 [d.av] _ fun x=>impl_UnitPropagate1 x d) ?_ | refine gC (impl_ClauseStatus d l) ?_ | refine gC (impl_Restrict d _) ?_ | intro _)) <;> try (conv=>whnf)
    ·rw [if_pos h] at hi
     rw [← hi]
     (repeat' ((conv=>whnf) <;> (first | exact trivial | exact VC.nod (by kernel_rfl) | refine VC.mk rfl ?_)))
    ·have hnx:=upStep_next hd f4 hs
     rw [if_neg (Bool.eq_false_iff.1 (by assumption))] at hi
     dsimp only at hi
     rw [if_neg hs] at hi
     refine nx ⟨restrict d (status d l).2,n⟩ ?_
     exact⟨hnx.1,by omega,hi⟩
def stepOf (list:List (List Lit)) (b:Dom):Int×Lit:=
 match list.find? (bites b) with
 | none=>(0,zeroLit)
 | some l=>if (status b l).1 < 0 then (1,zeroLit) else (2,(status b l).2)
theorem spec_l20Step (list:List (List Lit)) (b:Dom):Con 228 [.d (.sl (list.map lits)),.d b.av] (RStat (stepOf list b)):=by
 refine con Tryz.func228 rfl rfl Tryz.call228 rfl fun hwf=>?_
 simp only [ARs.wf,AR.wf,AV.wf,AV.wfs,List.length_map,lim] at hwf
 (repeat' ((conv=>whnf);first | refine gA ?_ | (refine gB ?_ ?_ <;> intro h) | (refine gI ?_;intro x hx) | (refine gJ ?_;intro j x hj hx) | refine gV ?_ | intro _)) <;> try (conv=>whnf)
 refine loopF [3,5,10,11] [3,5] [] ?_
 (conv=>whnf)
 refine LoopC.go ((Nat)) (fun k=>(k≤list.length)∧(stepOf (list.drop k) b=stepOf list b)) (fun k=>[(12,.data (i64 k))]) (fun _=>[]) (fun _=>[]) (fun k=>list.length - k) (0) ?_ ?_
 ·exact⟨by omega,rfl⟩
 rintro k ⟨hk,hi⟩
 by_cases hlt:k < list.length
 ·obtain⟨x,hx⟩:∃x,list[k]? =some x:=⟨list[k]'hlt,by simp⟩
  rw [drop_get hx,stepOf,List.find?_cons,bites_eq] at hi
  (repeat' ((conv=>whnf);first | with_reducible refine Idx.got hx rfl ?_ | refine gA ?_ | (refine gB ?_ ?_ <;> intro h) | (refine gI ?_;intro x hx) | (refine gJ ?_;intro j x hj hx) | refine gV ?_ | refine gC (spec_ClauseStatus b x) ?_ | intro _)) <;> try (conv=>whnf)
  ·rw [decide_eq_true h] at hi
   simp only [Bool.true_or] at hi
   rw [if_pos (by omega)] at hi
   rw [← hi]
   (repeat' ((conv=>whnf) <;> (first | exact trivial | exact VC.nod (by kernel_rfl) | refine VC.mk rfl ?_)))
  ·rw [show (decide ((status b x).1= -1)||(decide ((status b x).1=0)&& !decide ((status b x).2.kind=0)))=false by simp [*]] at hi
   refine nx (k+1) ?_
   exact⟨by omega,hi⟩
  ·rw [show (decide ((status b x).1= -1)||(decide ((status b x).1=0)&& !decide ((status b x).2.kind=0)))=true by simp [*]] at hi
   dsimp only at hi
   rw [if_neg (by omega)] at hi
   rw [← hi]
   (repeat' ((conv=>whnf) <;> (first | exact trivial | exact VC.nod (by kernel_rfl) | refine VC.mk rfl ?_)))
  ·rw [show (decide ((status b x).1= -1)||(decide ((status b x).1=0)&& !decide ((status b x).2.kind=0)))=false by simp [*]] at hi
   refine nx (k+1) ?_
   exact⟨by omega,hi⟩
  ·exfalso;omega
 ·(repeat' ((conv=>whnf);first | (exfalso;omega) | refine gA ?_ | (refine gB ?_ ?_ <;> intro h) | (refine gI ?_;intro x hx) | (refine gJ ?_;intro j x hj hx) | refine gV ?_ | intro _)) <;> try (conv=>whnf)
  rw [← hi,drop_end hlt]
  (repeat' ((conv=>whnf) <;> (first | exact trivial | exact VC.nod (by kernel_rfl) | refine VC.mk rfl ?_)))
theorem spec_UnitPropagate (p:Proj) (list:List (List Lit)) (b:Dom) (hp:p.fine):Con 138 [.d p.av,.d (.sl (list.map lits)),.d b.av] (RUp (unitProp p list b)):=by
 refine con Tryz.func138 rfl rfl Tryz.call138 rfl fun hwf=>?_
 simp only [ARs.wf,AR.wf,AV.wf,AV.wfs,List.length_map,lim] at hwf
 cases hf:domForm p b with
 | false=>
  (repeat' ((conv=>whnf);first | refine gA ?_ | (refine gB ?_ ?_ <;> intro h) | refine gC (spec_l12Copy b) ?_ | refine gC (spec_DomainForm p b hp) ?_ | intro _)) <;> try (conv=>whnf)
  rw [unitProp,if_neg (by simp [hf])]
  (repeat' ((conv=>whnf) <;> (first | exact trivial | exact VC.nod (by kernel_rfl) | refine VC.mk rfl ?_)))
 | true=>
  rw [unitProp,if_pos hf]
  (repeat' ((conv=>whnf);first | refine gA ?_ | (refine gB ?_ ?_ <;> intro h) | refine gC (spec_l12Copy b) ?_ | refine gC (spec_DomainForm p b hp) ?_ | intro _)) <;> try (conv=>whnf)
  refine loopF [1,6,8] [6] [] ?_
  (conv=>whnf)
  refine LoopC.go ((Dom)×(Nat)) (fun⟨d,n⟩=>(domForm p d=true)∧(openness d < n)∧(upRun list n d=upRun list (openness b+1) b)) (fun _=>[]) (fun⟨d,n⟩=>[(8,(AV.cells d.av).map SV.data)]) (fun _=>[]) (fun⟨d,n⟩=>n) ⟨b,openness b+1⟩ ?_ ?_
  ·exact⟨hf,by omega,rfl⟩
  rintro⟨d,n⟩ ⟨hd,hn,hi⟩
  obtain⟨n,rfl⟩:∃m,n=m+1:=⟨n - 1,by omega⟩
  rw [upRun,upStep] at hi
  have hst:stepOf list d=(match list.find? (bites d) with | none=>(0,zeroLit) | some l=>if (status d l).1 < 0 then (1,zeroLit) else (2,(status d l).2)):=rfl
  rcases findI_find (bites d) list 0 with⟨f1,f2⟩ | ⟨k,l,f1,f2,f3,f4⟩
  ·rw [f1] at hi hst
   replace hst:stepOf list d=(0,zeroLit):=hst
   have hS:=spec_l20Step list d
   rw [hst] at hS
   (repeat' ((conv=>whnf);first | with_reducible refine Br.no (decide_eq_false (by omega)) ?_ | with_reducible refine Br.yes (decide_eq_true (by omega)) ?_ | refine gA ?_ | (refine gB ?_ ?_ <;> intro h) | refine gC (spec_DomainEmpty d) ?_ | refine gC (hS) ?_ | intro _)) <;> try (conv=>whnf)
   ·rw [if_pos h] at hi
    rw [← hi]
    (repeat' ((conv=>whnf) <;> (first | exact trivial | exact VC.nod (by kernel_rfl) | refine VC.mk rfl ?_)))
   ·rw [if_neg (Bool.eq_false_iff.1 h)] at hi
    rw [← hi]
    (repeat' ((conv=>whnf) <;> (first | exact trivial | exact VC.nod (by kernel_rfl) | refine VC.mk rfl ?_)))
  ·rw [f3] at hi hst
   by_cases hs:(status d l).1 < 0
   ·replace hst:stepOf list d=(1,zeroLit):=by rw [hst];dsimp only;rw [if_pos hs]
    have hS:=spec_l20Step list d
    rw [hst] at hS
    (repeat' ((conv=>whnf);first | with_reducible refine Br.no (decide_eq_false (by omega)) ?_ | with_reducible refine Br.yes (decide_eq_true (by omega)) ?_ | refine gA ?_ | (refine gB ?_ ?_ <;> intro h) | refine gC (spec_DomainEmpty d) ?_ | refine gC (hS) ?_ | intro _)) <;> try (conv=>whnf)
    ·rw [if_pos h] at hi
     rw [← hi]
     (repeat' ((conv=>whnf) <;> (first | exact trivial | exact VC.nod (by kernel_rfl) | refine VC.mk rfl ?_)))
    ·rw [if_neg (Bool.eq_false_iff.1 (by assumption))] at hi
     dsimp only at hi
     rw [if_pos hs] at hi
     rw [← hi]
     (repeat' ((conv=>whnf) <;> (first | exact trivial | exact VC.nod (by kernel_rfl) | refine VC.mk rfl ?_)))
   ·replace hst:stepOf list d=(2,(status d l).2):=by rw [hst];dsimp only;rw [if_neg hs]
    have hS:=spec_l20Step list d
    rw [hst] at hS
    (repeat' ((conv=>whnf);first | with_reducible refine Br.no (decide_eq_false (by omega)) ?_ | with_reducible refine Br.yes (decide_eq_true (by omega)) ?_ | refine gA ?_ | (refine gB ?_ ?_ <;> intro h) | refine gC (spec_DomainEmpty d) ?_ | refine gC (hS) ?_ | refine gC (spec_Restrict d (status d l).2 (fun m hm=>domForm_setOk hd (List.mem_of_getElem? hm))) ?_ | intro _)) <;> try (conv=>whnf)
    ·rw [if_pos h] at hi
     rw [← hi]
     (repeat' ((conv=>whnf) <;> (first | exact trivial | exact VC.nod (by kernel_rfl) | refine VC.mk rfl ?_)))
    ·have hnx:=upStep_next hd f4 hs
     rw [if_neg (Bool.eq_false_iff.1 (by assumption))] at hi
     dsimp only at hi
     rw [if_neg hs] at hi
     refine nx ⟨restrict d (status d l).2,n⟩ ?_
     exact⟨hnx.1,by omega,hi⟩
end Go.Proofs.YtfhojdalheinaaaGreat.Abs
set_option linter.unusedVariables false
set_option linter.unusedSimpArgs false
set_option maxRecDepth 20000
set_option maxHeartbeats 4000000
namespace Go.Proofs.YtfhojdalheinaaaGreat.Abs
open Go.Proofs
theorem slices_Clone_lit (l:List Lit):Con 153 [.d (lits l)] (.own 69 (l.map Lit.av)):=by
 refine con Tryz.func153 rfl rfl Tryz.call153 rfl fun hwf=>?_
 simp only [ARs.wf,AR.wf,AV.wf,AV.wfs,List.length_map,lim] at hwf
 (repeat' ((conv=>whnf);first | refine gA ?_ | refine NilQ.mk (fun h=>?_) ?_ | (refine gB ?_ ?_ <;> intro h) | refine gP ?_ | intro _)) <;> try (conv=>whnf)
 ·exact⟨h,rfl,trivial⟩
 ·exact⟨by simp,rfl,trivial⟩
theorem impl_Clauses (l:List Lin):Con 149 [.d (.sl (l.map Lin.av))] (.d (.sl ((l.map Lin.clause).map lits))):=by
 refine con Tryz.func149 rfl rfl Tryz.call149 rfl fun hwf=>?_
 simp only [ARs.wf,AR.wf,AV.wf,AV.wfs,List.length_map,lim] at hwf
 (repeat' ((conv=>whnf);first | refine gA ?_ | (refine gB ?_ ?_ <;> intro h) | (refine gI ?_;intro x hx) | (refine gJ ?_;intro j x hj hx) | refine gP ?_ | refine gV ?_ | intro _)) <;> try (conv=>whnf)
 refine loopF [7,8] [] [6] ?_
 (conv=>whnf)
 refine LoopC.go ((Nat)) (fun k=>(k≤l.length)) (fun k=>[(9,.data (i64 k)),(3,.own 6 0)]) (fun _=>[]) (fun k=>[(6,62,(l.take k).map (fun x=>lits x.clause),0)]) (fun k=>l.length - k) (0) ?_ ?_
 ·exact Nat.zero_le _
 rintro k hk
 (repeat' ((conv=>whnf);first | refine gA ?_ | (refine gB ?_ ?_ <;> intro h) | (refine gI ?_;intro x hx) | (refine gJ ?_;intro j x hj hx) | refine gP ?_ | refine gV ?_ | refine gC (slices_Clone_lit x.clause) ?_ | intro _)) <;> try (conv=>whnf)
 ·refine nw (k+1) ?_ ?_
  ·(repeat' ((conv=>whnf) <;> (first | exact trivial | exact rfl | with_reducible refine And.intro ?_ ?_))) <;> ((conv=>whnf) <;> (exact map_take_succ (fun x=>lits x.clause) hx))
  exact (by omega:k+1≤l.length)
 ·refine⟨?_,rfl,trivial⟩
  dsimp only
  rw [List.take_of_length_le (by omega)];simp [Function.comp_def]
theorem spec_Clauses (l:List Lin):Con 139 [.d (.sl (l.map Lin.av))] (.d (.sl ((l.map Lin.clause).map lits))):=by
 refine con Tryz.func139 rfl rfl Tryz.call139 rfl fun hwf=>?_
 simp only [ARs.wf,AR.wf,AV.wf,AV.wfs,List.length_map,lim] at hwf
 (repeat' ((conv=>whnf);first | refine gA ?_ | (refine gB ?_ ?_ <;> intro h) | (refine gI ?_;intro x hx) | (refine gJ ?_;intro j x hj hx) | refine gP ?_ | refine gV ?_ | intro _)) <;> try (conv=>whnf)
 refine loopF [7,8] [] [6] ?_
 (conv=>whnf)
 refine LoopC.go ((Nat)) (fun k=>(k≤l.length)) (fun k=>[(9,.data (i64 k)),(3,.own 6 0)]) (fun _=>[]) (fun k=>[(6,62,(l.take k).map (fun x=>lits x.clause),0)]) (fun k=>l.length - k) (0) ?_ ?_
 ·exact Nat.zero_le _
 rintro k hk
 by_cases hlt:k < l.length
 ·obtain⟨x,hx⟩:∃x,l[k]? =some x:=⟨l[k]'hlt,by simp⟩
  have hm:=wfs_get hwf.1.2 hx
  simp only [AV.wf,AV.wfs,List.length_map] at hm
  (repeat' ((conv=>whnf);first | with_reducible refine Idx.got hx rfl ?_ | refine gA ?_ | (refine gB ?_ ?_ <;> intro h) | (refine gI ?_;intro x hx) | (refine gJ ?_;intro j x hj hx) | refine gP ?_ | refine gV ?_ | intro _)) <;> try (conv=>whnf)
  ·refine nw (k+1) ?_ ?_
   ·(repeat' ((conv=>whnf) <;> (first | exact trivial | exact rfl | with_reducible refine And.intro ?_ ?_))) <;> ((conv=>whnf) <;> (exact map_take_succ (fun x=>lits x.clause) hx))
   exact (by omega:k+1≤l.length)
  ·exfalso;omega
 ·(repeat' ((conv=>whnf);first | (exfalso;omega) | refine gA ?_ | (refine gB ?_ ?_ <;> intro h) | (refine gI ?_;intro x hx) | (refine gJ ?_;intro j x hj hx) | refine gP ?_ | refine gV ?_ | intro _)) <;> try (conv=>whnf)
  refine⟨?_,rfl,trivial⟩
  dsimp only
  rw [List.take_of_length_le (by omega)];simp [Function.comp_def]
theorem impl_LineOk (p:Proj) (l:Lin) (hp:p.fine):Con 264 [.d p.av,.d l.av] (.d (.bool (lineOk p l))):=by
 refine con Tryz.func264 rfl rfl Tryz.call264 rfl fun hwf=>?_
 (repeat' ((conv=>whnf);first | refine gA ?_ | (refine gB ?_ ?_ <;> intro h) | refine gC (impl_ClauseOk p l.clause hp) ?_ | intro _)) <;> try (conv=>whnf)
 all_goals refine⟨?_,rfl,trivial⟩
 all_goals (simp [lineOk,isLine2, *];try rfl)
theorem spec_LineOk (p:Proj) (l:Lin) (hp:p.fine):Con 314 [.d p.av,.d l.av] (.d (.bool (lineOk p l))):=by
 refine con Tryz.func314 rfl rfl Tryz.call314 rfl fun hwf=>?_
 (repeat' ((conv=>whnf);first | refine gA ?_ | (refine gB ?_ ?_ <;> intro h) | refine gC (spec_ClauseOk p l.clause hp) ?_ | intro _)) <;> try (conv=>whnf)
 all_goals refine⟨?_,rfl,trivial⟩
 all_goals (simp [lineOk,isLine2, *];try rfl)
theorem impl_CheckLine (p:Proj) (ahead:List Lin) (l:Lin) (hp:p.fine):Con 176 [.d p.av,.d (.sl (ahead.map Lin.av)),.d l.av] (.d (i64 (checkLine p ahead l))):=by
 refine con Tryz.func176 rfl rfl Tryz.call176 rfl fun hwf=>?_
 simp only [ARs.wf,AR.wf,AV.wf,AV.wfs,List.length_map,lim] at hwf
 (repeat' ((conv=>whnf);first | refine gA ?_ | (refine gB ?_ ?_ <;> intro h) | refine gC (impl_ProjectOk p hp) ?_ | refine gC (impl_LineOk p l hp) ?_ | refine gC (impl_ClauseFollows p l.rule l.clause hp) ?_ | refine gC (impl_Clauses ahead) ?_ | refine gC (impl_NegatedDomain p l.clause hp) ?_ | refine gC (impl_UnitPropagate p (ahead.map Lin.clause) (negDom p l.clause) hp) ?_ | intro _)) <;> try (conv=>whnf)
 all_goals refine⟨?_,rfl,trivial⟩
 all_goals (simp [checkLine, *];try omega)
theorem spec_CheckLine (p:Proj) (ahead:List Lin) (l:Lin) (hp:p.fine):Con 226 [.d p.av,.d (.sl (ahead.map Lin.av)),.d l.av] (.d (i64 (checkLine p ahead l))):=by
 refine con Tryz.func226 rfl rfl Tryz.call226 rfl fun hwf=>?_
 simp only [ARs.wf,AR.wf,AV.wf,AV.wfs,List.length_map,lim] at hwf
 (repeat' ((conv=>whnf);first | refine gA ?_ | (refine gB ?_ ?_ <;> intro h) | refine gC (spec_ProjectOk p hp) ?_ | refine gC (spec_LineOk p l hp) ?_ | refine gC (spec_ClauseFollows p l.rule l.clause hp) ?_ | refine gC (spec_Clauses ahead) ?_ | refine gC (spec_NegatedDomain p l.clause hp) ?_ | refine gC (spec_UnitPropagate p (ahead.map Lin.clause) (negDom p l.clause) hp) ?_ | intro _)) <;> try (conv=>whnf)
 all_goals refine⟨?_,rfl,trivial⟩
 all_goals (simp [checkLine, *];try omega)
end Go.Proofs.YtfhojdalheinaaaGreat.Abs
set_option linter.unusedVariables false
set_option linter.unusedSimpArgs false
set_option maxRecDepth 20000
set_option maxHeartbeats 4000000
namespace Go.Proofs.YtfhojdalheinaaaGreat.Abs
open Go.Proofs
theorem checkFrom_at {p:Proj} {all:List Lin} {k:Nat} {x:Lin} (h:all[k]? =some x):checkFrom p all (all.drop k) k=if checkLine p (all.take k) x=0 then checkFrom p all (all.drop (k+1)) (k+1) else (checkLine p (all.take k) x,(k:Int)):=by
 rw [drop_get h,checkFrom]
def RInts (r:Int×Int):RV:=.tup [.d (i64 r.1),.d (i64 r.2)]
theorem impl_CheckAll (p:Proj) (l:List Lin) (hp:p.fine):Con 239 [.d p.av,.d (.sl (l.map Lin.av))] (RInts (checkAll p l)):=by
 refine con Tryz.func239 rfl rfl Tryz.call239 rfl fun hwf=>?_
 simp only [ARs.wf,AR.wf,AV.wf,AV.wfs,List.length_map,lim] at hwf
 (repeat' ((conv=>whnf);first | refine gA ?_ | (refine gB ?_ ?_ <;> intro h) | (refine gI ?_;intro x hx) | (refine gJ ?_;intro j x hj hx) | refine gV ?_ | refine gK ?_ | intro _)) <;> try (conv=>whnf)
 refine loopF [1,2,9,10] [2] [] ?_
 (conv=>whnf)
 refine LoopC.go ((Nat)) (fun k=>(k≤l.length)∧(checkFrom p l (l.drop k) k=checkAll p l)) (fun k=>[(11,.data (i64 k))]) (fun _=>[]) (fun _=>[]) (fun k=>l.length - k) (0) ?_ ?_
 ·exact⟨by omega,rfl⟩
 rintro k ⟨hk,hi⟩
 by_cases hlt:k < l.length
 ·obtain⟨x,hx⟩:∃x,l[k]? =some x:=⟨l[k]'hlt,by simp⟩
  rw [checkFrom_at hx] at hi
  have hc:=impl_CheckLine p (l.take k) x hp
  rw [← subList_head] at hc
  (repeat' ((conv=>whnf);first | with_reducible refine Idx.got hx rfl ?_ | refine gA ?_ | (refine gB ?_ ?_ <;> intro h) | (refine gI ?_;intro x hx) | (refine gJ ?_;intro j x hj hx) | refine gV ?_ | refine gK ?_ | refine gC (hc) ?_ | intro _)) <;> try (conv=>whnf)
  ·refine nx (k+1) ?_
   rw [if_pos (by assumption)] at hi
   exact⟨by omega,hi⟩
  ·rw [if_neg (by assumption)] at hi
   rw [← hi]
   (repeat' ((conv=>whnf) <;> (first | exact trivial | exact VC.nod (by kernel_rfl) | refine VC.mk rfl ?_)))
  ·exfalso;omega
 ·(repeat' ((conv=>whnf);first | (exfalso;omega) | refine gA ?_ | (refine gB ?_ ?_ <;> intro h) | (refine gI ?_;intro x hx) | (refine gJ ?_;intro j x hj hx) | refine gV ?_ | refine gK ?_ | intro _)) <;> try (conv=>whnf)
  rw [drop_end hlt,checkFrom] at hi
  rw [← hi,show k=l.length by omega]
  (repeat' ((conv=>whnf) <;> (first | exact trivial | exact VC.nod (by kernel_rfl) | refine VC.mk rfl ?_ | refine VC.mk (by simp) ?_)))
theorem spec_CheckAll (p:Proj) (l:List Lin) (hp:p.fine):Con 137 [.d p.av,.d (.sl (l.map Lin.av))] (RInts (checkAll p l)):=by
 refine con Tryz.func137 rfl rfl Tryz.call137 rfl fun hwf=>?_
 simp only [ARs.wf,AR.wf,AV.wf,AV.wfs,List.length_map,lim] at hwf
 (repeat' ((conv=>whnf);first | refine gA ?_ | (refine gB ?_ ?_ <;> intro h) | (refine gI ?_;intro x hx) | (refine gJ ?_;intro j x hj hx) | refine gV ?_ | refine gK ?_ | intro _)) <;> try (conv=>whnf)
 refine loopF [1,2,9,10] [2] [] ?_
 (conv=>whnf)
 refine LoopC.go ((Nat)) (fun k=>(k≤l.length)∧(checkFrom p l (l.drop k) k=checkAll p l)) (fun k=>[(11,.data (i64 k))]) (fun _=>[]) (fun _=>[]) (fun k=>l.length - k) (0) ?_ ?_
 ·exact⟨by omega,rfl⟩
 rintro k ⟨hk,hi⟩
 by_cases hlt:k < l.length
 ·obtain⟨x,hx⟩:∃x,l[k]? =some x:=⟨l[k]'hlt,by simp⟩
  rw [checkFrom_at hx] at hi
  have hc:=spec_CheckLine p (l.take k) x hp
  rw [← subList_head] at hc
  (repeat' ((conv=>whnf);first | with_reducible refine Idx.got hx rfl ?_ | refine gA ?_ | (refine gB ?_ ?_ <;> intro h) | (refine gI ?_;intro x hx) | (refine gJ ?_;intro j x hj hx) | refine gV ?_ | refine gK ?_ | refine gC (hc) ?_ | intro _)) <;> try (conv=>whnf)
  ·refine nx (k+1) ?_
   rw [if_pos (by assumption)] at hi
   exact⟨by omega,hi⟩
  ·rw [if_neg (by assumption)] at hi
   rw [← hi]
   (repeat' ((conv=>whnf) <;> (first | exact trivial | exact VC.nod (by kernel_rfl) | refine VC.mk rfl ?_)))
  ·exfalso;omega
 ·(repeat' ((conv=>whnf);first | (exfalso;omega) | refine gA ?_ | (refine gB ?_ ?_ <;> intro h) | (refine gI ?_;intro x hx) | (refine gJ ?_;intro j x hj hx) | refine gV ?_ | refine gK ?_ | intro _)) <;> try (conv=>whnf)
  rw [drop_end hlt,checkFrom] at hi
  rw [← hi,show k=l.length by omega]
  (repeat' ((conv=>whnf) <;> (first | exact trivial | exact VC.nod (by kernel_rfl) | refine VC.mk rfl ?_ | refine VC.mk (by simp) ?_)))
theorem impl_isChecked (p:Proj) (l:List Lin) (hp:p.fine):Con 147 [.d p.av,.d (.sl (l.map Lin.av))] (.d (.bool (isChecked p l))):=by
 refine con Tryz.func147 rfl rfl Tryz.call147 rfl fun hwf=>?_
 (repeat' ((conv=>whnf);first | refine gA ?_ | (refine gB ?_ ?_ <;> intro h) | refine gC (impl_CheckAll p l hp) ?_ | intro _)) <;> try (conv=>whnf)
 exact⟨rfl,rfl,trivial⟩
def lastOk (x:Lit):List Lit→Bool
 | []=>true
 | [y]=>sameLit y x
 | _=>false
end Go.Proofs.YtfhojdalheinaaaGreat.Abs
set_option linter.unusedVariables false
set_option linter.unusedSimpArgs false
set_option maxRecDepth 20000
set_option maxHeartbeats 4000000
namespace Go.Proofs.YtfhojdalheinaaaGreat.Abs
open Go.Proofs
theorem slices_Clone_step (l:List Step):Con 205 [.d (.sl (l.map Step.av))] (.own 222 (l.map Step.av)):=by
 refine con Tryz.func205 rfl rfl Tryz.call205 rfl fun hwf=>?_
 simp only [ARs.wf,AR.wf,AV.wf,AV.wfs,List.length_map,lim] at hwf
 (repeat' ((conv=>whnf);first | refine gA ?_ | refine NilQ.mk (fun h=>?_) ?_ | (refine gB ?_ ?_ <;> intro h) | refine gP ?_ | intro _)) <;> try (conv=>whnf)
 ·exact⟨h,rfl,trivial⟩
 ·exact⟨by simp,rfl,trivial⟩
theorem slices_Clone_link (l:List Link):Con 204 [.d (.sl (l.map Link.av))] (.own 159 (l.map Link.av)):=by
 refine con Tryz.func204 rfl rfl Tryz.call204 rfl fun hwf=>?_
 simp only [ARs.wf,AR.wf,AV.wf,AV.wfs,List.length_map,lim] at hwf
 (repeat' ((conv=>whnf);first | refine gA ?_ | refine NilQ.mk (fun h=>?_) ?_ | (refine gB ?_ ?_ <;> intro h) | refine gP ?_ | intro _)) <;> try (conv=>whnf)
 ·exact⟨h,rfl,trivial⟩
 ·exact⟨by simp,rfl,trivial⟩
theorem take_snoc {α:Type} {l o:List α} {k:Nat} {x:α} (h:l[k]? =some x) (ho:o=l.take k):o++[x]=l.take (k+1):=by
 rw [ho,List.take_add_one,h];rfl
theorem take_all {α:Type} {l o:List α} {k:Nat} (h:¬ k < l.length) (ho:o=l.take k):o=l:=by
 rw [ho,List.take_of_length_le (by omega)]
theorem take_len {α:Type} {l o:List α} {k:Nat} (ho:o=l.take k):o.length≤k:=by rw [ho];simp;omega
theorem spec_l04Copy (a:Activ):Con 185 [.d a.av] (.d a.av):=by
 refine con Tryz.func185 rfl rfl Tryz.call185 rfl fun hwf=>?_
 simp only [ARs.wf,AR.wf,AV.wf,AV.wfs,List.length_map,lim] at hwf
 (repeat' ((conv=>whnf);first | refine gA ?_ | (refine gB ?_ ?_ <;> intro h) | (refine gI ?_;intro x hx) | (refine gJ ?_;intro j x hj hx) | refine gP ?_ | refine gV ?_ | intro _)) <;> try (conv=>whnf)
 refine loopF [2,3,12,13] [2] [32] ?_
 (conv=>whnf)
 refine LoopC.go ((Nat)×(List Mode)) (fun⟨j,q⟩=>(j≤a.modes.length)∧(q=a.modes.take j)) (fun⟨j,q⟩=>[(14,.data (i64 j))]) (fun⟨j,q⟩=>[(3,[.data (.str a.name),.data (i64 a.fam),.own 32 0])]) (fun⟨j,q⟩=>[(32,145,q.map Mode.av,0)]) (fun⟨j,q⟩=>a.modes.length - j) ⟨0,[]⟩ ?_ ?_
 ·exact⟨Nat.zero_le _,rfl⟩
 rintro⟨j,q⟩ ⟨hj,hq⟩
 have hql:=take_len hq
 by_cases hjt:j < a.modes.length
 ·obtain⟨m,hm⟩:∃m,a.modes[j]? =some m:=⟨a.modes[j]'hjt,by simp⟩
  have hwm:=wfs_get hwf.1.2.2.1.2 hm
  simp only [AV.wf,AV.wfs,List.length_map] at hwm
  (repeat' ((conv=>whnf);first | with_reducible refine Idx.got hm rfl ?_ | (exfalso;omega) | refine gA ?_ | (refine gB ?_ ?_ <;> intro h) | (refine gI ?_;intro x hx) | (refine gJ ?_;intro j x hj hx) | refine gP ?_ | refine gV ?_ | intro _)) <;> try (conv=>whnf)
  refine nw ⟨j+1,q++[m]⟩ ?_ ?_
  ·(repeat' ((conv=>whnf) <;> (first | exact trivial | exact rfl | with_reducible refine And.intro ?_ ?_))) <;> ((conv=>whnf) <;> (simp))
  exact⟨by omega,take_snoc hm hq⟩
 ·obtain rfl:=take_all hjt hq
  (repeat' ((conv=>whnf);first | (exfalso;omega) | refine gA ?_ | (refine gB ?_ ?_ <;> intro h) | (refine gI ?_;intro x hx) | (refine gJ ?_;intro j x hj hx) | refine gP ?_ | refine gV ?_ | intro _)) <;> try (conv=>whnf)
  exact⟨rfl,rfl,trivial⟩
theorem spec_l05Copy (p:Proj):Con 98 [.d p.av] (.d p.av):=by
 refine con Tryz.func98 rfl rfl Tryz.call98 rfl fun hwf=>?_
 simp only [ARs.wf,AR.wf,AV.wf,AV.wfs,List.length_map,lim] at hwf
 (repeat' ((conv=>whnf);first | refine gA ?_ | (refine gB ?_ ?_ <;> intro h) | (refine gI ?_;intro x hx) | (refine gJ ?_;intro j x hj hx) | refine gP ?_ | refine gV ?_ | intro _)) <;> try (conv=>whnf)
 refine loopF [1,2,3,23,24] [1,2] [34,13,17] ?_
 (conv=>whnf)
 refine LoopC.go ((Nat)×(List Activ)) (fun⟨k,o⟩=>(k≤p.acts.length)∧(o=p.acts.take k)) (fun⟨k,o⟩=>[(25,.data (i64 k))]) (fun⟨k,o⟩=>[(3,[.data (i64 p.dead),.own 34 0,.own 13 0,.nilsl,.own 17 0])]) (fun⟨k,o⟩=>[(34,143,o.map Activ.av,0),(13,159,p.links.map Link.av,0),(17,3,p.stocks.map i64,0)]) (fun⟨k,o⟩=>p.acts.length - k) ⟨0,[]⟩ ?_ ?_
 ·exact⟨Nat.zero_le _,rfl⟩
 rintro⟨k,o⟩ ⟨hk,ho⟩
 have hol:=take_len ho
 by_cases hlt:k < p.acts.length
 ·obtain⟨a,ha⟩:∃a,p.acts[k]? =some a:=⟨p.acts[k]'hlt,by simp⟩
  (repeat' ((conv=>whnf);first | with_reducible refine Idx.got ha rfl ?_ | (exfalso;omega) | refine gA ?_ | (refine gB ?_ ?_ <;> intro h) | (refine gI ?_;intro x hx) | (refine gJ ?_;intro j x hj hx) | refine gP ?_ | refine gV ?_ | refine gC (spec_l04Copy a) ?_ | intro _)) <;> try (conv=>whnf)
  refine nw ⟨k+1,o++[a]⟩ ?_ ?_
  ·(repeat' ((conv=>whnf) <;> (first | exact trivial | exact rfl | with_reducible refine And.intro ?_ ?_))) <;> ((conv=>whnf) <;> (simp))
  exact⟨by omega,take_snoc ha ho⟩
 obtain rfl:=take_all hlt ho
 (repeat' ((conv=>whnf);first | (exfalso;omega) | refine gA ?_ | (refine gB ?_ ?_ <;> intro h) | (refine gI ?_;intro x hx) | (refine gJ ?_;intro j x hj hx) | refine gP ?_ | refine gV ?_ | intro _)) <;> try (conv=>whnf)
 refine loopF [2,3,38,39] [2] [34,13,69,17] ?_
 (conv=>whnf)
 refine LoopC.go ((Nat)×(List Resrc)) (fun⟨r,o⟩=>(r≤p.ress.length)∧(o=p.ress.take r)) (fun⟨r,o⟩=>[(40,.data (i64 r))]) (fun⟨r,o⟩=>[(3,[.data (i64 p.dead),.own 34 0,.own 13 0,.own 69 0,.own 17 0])]) (fun⟨r,o⟩=>[(34,143,p.acts.map Activ.av,0),(13,159,p.links.map Link.av,0),(69,149,o.map Resrc.av,0),(17,3,p.stocks.map i64,0)]) (fun⟨r,o⟩=>p.ress.length - r) ⟨0,[]⟩ ?_ ?_
 ·exact⟨Nat.zero_le _,rfl⟩
 rintro⟨r,o⟩ ⟨hk,ho⟩
 by_cases hlt:r < p.ress.length
 ·obtain⟨a,ha⟩:∃a,p.ress[r]? =some a:=⟨p.ress[r]'hlt,by simp⟩
  have hol:=take_len ho
  have hwa:=wfs_get hwf.1.2.2.2.1.2 ha
  simp only [AV.wf,AV.wfs,List.length_map] at hwa
  (repeat' ((conv=>whnf);first | with_reducible refine Idx.got ha rfl ?_ | (exfalso;omega) | refine gA ?_ | (refine gB ?_ ?_ <;> intro h) | (refine gI ?_;intro x hx) | (refine gJ ?_;intro j x hj hx) | refine gP ?_ | refine gV ?_ | intro _)) <;> try (conv=>whnf)
  refine loopF [2,3,8,38,39,40,50,51] [2,3] [44,62] ?_
  (conv=>whnf)
  refine LoopC.go ((Nat)×(List (List Int))) (fun⟨j,q⟩=>(j≤a.setup.length)∧(q=a.setup.take j)) (fun⟨j,q⟩=>[(52,.data (i64 j))]) (fun⟨j,q⟩=>[(8,[.own 44 0,.own 62 0])]) (fun⟨j,q⟩=>[(44,222,a.steps.map Step.av,0),(62,25,q.map ints,0)]) (fun⟨j,q⟩=>a.setup.length - j) ⟨0,[]⟩ ?_ ?_
  ·exact⟨Nat.zero_le _,rfl⟩
  rintro⟨j,q⟩ ⟨hj,hq⟩
  have hql:=take_len hq
  by_cases hjt:j < a.setup.length
  ·obtain⟨m,hm⟩:∃m,a.setup[j]? =some m:=⟨a.setup[j]'hjt,by simp⟩
   have hwm:=wfs_get hwa.2.1.2 hm
   simp only [AV.wf,AV.wfs,List.length_map] at hwm
   (repeat' ((conv=>whnf);first | with_reducible refine Idx.got hm rfl ?_ | (exfalso;omega) | refine gA ?_ | (refine gB ?_ ?_ <;> intro h) | (refine gI ?_;intro x hx) | (refine gJ ?_;intro j x hj hx) | refine gP ?_ | refine gV ?_ | intro _)) <;> try (conv=>whnf)
   refine nw ⟨j+1,q++[m]⟩ ?_ ?_
   ·(repeat' ((conv=>whnf) <;> (first | exact trivial | exact rfl | with_reducible refine And.intro ?_ ?_))) <;> ((conv=>whnf) <;> (simp))
   exact⟨by omega,take_snoc hm hq⟩
  ·obtain rfl:=take_all hjt hq
   (repeat' ((conv=>whnf);first | (exfalso;omega) | refine gA ?_ | (refine gB ?_ ?_ <;> intro h) | (refine gI ?_;intro x hx) | (refine gJ ?_;intro j x hj hx) | refine gP ?_ | refine gV ?_ | intro _)) <;> try (conv=>whnf)
   refine nw ⟨r+1,o++[a]⟩ ?_ ?_
   ·(repeat' ((conv=>whnf) <;> (first | exact trivial | exact rfl | with_reducible refine And.intro ?_ ?_))) <;> ((conv=>whnf) <;> (simp))
   exact⟨by omega,take_snoc ha ho⟩
 obtain rfl:=take_all hlt ho
 (repeat' ((conv=>whnf);first | (exfalso;omega) | refine gA ?_ | (refine gB ?_ ?_ <;> intro h) | (refine gI ?_;intro x hx) | (refine gJ ?_;intro j x hj hx) | refine gP ?_ | refine gV ?_ | intro _)) <;> try (conv=>whnf)
 exact⟨rfl,rfl,trivial⟩
def RProj (r:Proj×Bool):RV:=.tup [.d r.1.av,.d (.bool r.2)]
end Go.Proofs.YtfhojdalheinaaaGreat.Abs
set_option linter.unusedVariables false
set_option linter.unusedSimpArgs false
set_option maxRecDepth 20000
set_option maxHeartbeats 4000000
namespace Go.Proofs.YtfhojdalheinaaaGreat.Abs
open Go.Proofs
def noLin:Lin:=⟨0,⟨0,0,0,0⟩,[]⟩
def lineAt (ls:List Lin) (i:Int):Lin:=ls.getD i.toNat noLin
def pickL (ls:List Lin) (idx:List Int):List Lin:=idx.map (lineAt ls)
def without (o:List Int) (n:Int):List Int:=o.filter fun k=>decide (k≠n)
def thin (p:Proj) (ls:List Lin):Nat→List Int→List Int
 | 0,o=>o
 | r+1,o=>thin p ls r (if isChecked p (pickL ls (without o r))=true then without o r else o)
def needed (p:Proj) (ls:List Lin):List Int:=if isChecked p ls=true then thin p ls (ls.length - 1) (upTo ls.length) else upTo ls.length
theorem upTo_mem {n:Nat} {x:Int} (h:x∈upTo n):0≤x∧x < n:=by
 simp only [upTo,List.mem_map,List.mem_range] at h
 obtain⟨k,h1,rfl⟩:=h
 exact⟨Int.natCast_nonneg k,Int.ofNat_lt.2 h1⟩
theorem map_take_succ2 {α β:Type} (f:α→β) {l:List α} {k:Nat} {x:α} (h:l[k]? =some x):(l.take k).map f++[f x]=(l.take (k+1)).map f:=by
 obtain⟨hk,rfl⟩:=List.getElem?_eq_some_iff.1 h
 rw [List.take_succ_eq_append_getElem hk,List.map_append];rfl
theorem lineAt_get {ls:List Lin} {i:Int} {x:Lin} (h:ls[i.toNat]? =some x):lineAt ls i=x:=by simp [lineAt,List.getD_eq_getElem?_getD,h]
theorem spec_l20Copy (l:Lin):Con 250 [.d l.av] (.d l.av):=by
 refine con Tryz.func250 rfl rfl Tryz.call250 rfl fun hwf=>?_
 simp only [ARs.wf,AR.wf,AV.wf,AV.wfs,List.length_map,lim] at hwf
 (repeat' ((conv=>whnf);first | refine gA ?_ | (refine gB ?_ ?_ <;> intro h) | refine gP ?_ | intro _)) <;> try (conv=>whnf)
 all_goals exact⟨by simp,rfl,trivial⟩
end Go.Proofs.YtfhojdalheinaaaGreat.Abs
