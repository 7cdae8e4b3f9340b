/- Contracts: refutations by rules. No statement of a claim. -/
import Derived.Test.YtfhojdalheinaaaGreatC9
set_option linter.all false
set_option linter.unusedVariables false
set_option linter.unusedSimpArgs false
set_option maxRecDepth 20000
set_option maxHeartbeats 4000000
namespace Go.Proofs.YtfhojdalheinaaaGreat.Abs
open Go.Proofs
def usable (p:Proj) (b:Dom):Bool:=domForm p b&& !domEmpty b
theorem impl_isUsable (p:Proj) (b:Dom) (hp:p.fine):Con 329 [.d p.av,.d b.av] (.d (.bool (usable p b))):=by
 refine con Tryz.func329 rfl rfl Tryz.call329 rfl fun hwf=>?_
 (repeat' ((conv=>whnf);first | refine gA ?_ | (refine gB ?_ ?_ <;> intro h) | refine gC (impl_DomainForm p b hp) ?_ | refine gC (impl_DomainEmpty b) ?_ | intro _)) <;> try (conv=>whnf)
 all_goals refine⟨?_,rfl,trivial⟩
 all_goals simp [usable, *]
theorem usable_form {p:Proj} {b:Dom} (h:usable p b=true):domForm p b=true:=by
 simp only [usable,Bool.and_eq_true] at h;exact h.1
theorem hasRes_lt {p:Proj} {r:Int} (h:hasRes p r=true):∃(ρ:Nat) (x:Resrc),r=ρ∧p.ress[ρ]? =some x∧resOf p r=x:=by
 obtain⟨n,x,h1,h2⟩:=hasRes_get h
 exact⟨n,x,h1,h2,by subst h1;simp [resOf,List.getD_eq_getElem?_getD,h2]⟩
theorem impl_IsOverworked (p:Proj) (b:Dom) (r x y:Int) (hp:p.fine) (hu:usable p b=true) (hr:hasRes p r=true) (hx:isTime x=true) (hy:isTime y=true) (hxy:x < y):
  Con 335 [.d p.av,.d b.av,.d (i64 r),.d (i64 x),.d (i64 y)] (.d (.bool (decide (totalWork p b r x y > totalCap (resOf p r).steps x y)))):=by
 refine con Tryz.func335 rfl rfl Tryz.call335 rfl fun hwf=>?_
 obtain⟨ρ,re,e1,e2,e3⟩:=hasRes_lt hr
 rw [e3]
 (repeat' ((conv=>whnf);first | with_reducible refine Idx.got e2 e1 ?_ | refine gA ?_ | (refine gN ?_ ?_ <;> intro h hw) | (refine gB ?_ ?_ <;> intro h) | (refine gI ?_;intro x hx) | (refine gJ ?_;intro j x hj hx) | refine gC (impl_isUsable p b hp) ?_ | refine gC (impl_hasResource p _) ?_ | refine gC (impl_isTime _) ?_ | refine gC (impl_totalWork p b r x y (usable_form hu) hr) ?_ | refine gC (impl_TotalCapacity re.steps x y) ?_ | intro _)) <;> try (conv=>whnf)
 all_goals first
  | (exfalso;omega)
  | exact⟨rfl,rfl,trivial⟩
theorem spec_l15Over (p:Proj) (b:Dom) (r x y:Int) (hf:domForm p b=true) (hr:hasRes p r=true):
  Con 322 [.d p.av,.d b.av,.d (i64 r),.d (i64 x),.d (i64 y)] (.d (.bool (decide (totalWork p b r x y > totalCap (resOf p r).steps x y)))):=by
 refine con Tryz.func322 rfl rfl Tryz.call322 rfl fun hwf=>?_
 simp only [ARs.wf,AR.wf,AV.wf,AV.wfs,List.length_map,lim] at hwf
 obtain⟨ρ,re,e1,e2,e3⟩:=hasRes_lt hr
 rw [e3]
 (repeat' ((conv=>whnf);first | refine gA ?_ | (refine gB ?_ ?_ <;> intro h) | (refine gI ?_;intro x hx) | (refine gJ ?_;intro j x hj hx) | refine gV ?_ | intro _)) <;> try (conv=>whnf)
 refine loopF [2,3,4,5,6,15] [5,6] [] ?_
 (conv=>whnf)
 refine LoopC.go ((Nat)×(Int)) (fun⟨k,s⟩=>(k≤p.acts.length)∧(s=sumTo (workOf p b r x y) k)) (fun⟨k,s⟩=>[(16,.data (i64 k)),(11,.data (i64 s))]) (fun _=>[]) (fun _=>[]) (fun⟨k,s⟩=>p.acts.length - k) ⟨0,0⟩ ?_ ?_
 ·exact⟨by omega,rfl⟩
 rintro⟨k,s⟩ ⟨hk,hs⟩
 by_cases hlt:k < p.acts.length
 ·obtain⟨a,lo,hi,m,hg⟩:=dom_get hf hlt
  have hb:=sumTo_bound (f:=workOf p b r x y) (c:=4000000) (n:=k) fun i hi=>workOf_bound hf hr x y (by omega)
  have hw:=workOf_bound hf hr x y hlt
  (repeat' ((conv=>whnf);first | refine gA ?_ | (refine gB ?_ ?_ <;> intro h) | (refine gI ?_;intro x hx) | (refine gJ ?_;intro j x hj hx) | refine gV ?_ | refine gC (spec_l15Work p b _ r x y hg rfl hr) ?_ | intro _)) <;> try (conv=>whnf)
  ·refine nx ⟨k+1,s+workOf p b r x y k⟩ ?_
   exact⟨by omega,by rw [sumTo,hs]⟩
  ·exfalso;omega
 ·(repeat' ((conv=>whnf);first | (exfalso;omega) | with_reducible refine Idx.got e2 e1 ?_ | refine gA ?_ | (refine gB ?_ ?_ <;> intro h) | (refine gI ?_;intro x hx) | (refine gJ ?_;intro j x hj hx) | refine gV ?_ | refine gC (spec_TotalCapacity re.steps x y) ?_ | intro _)) <;> try (conv=>whnf)
  refine⟨?_,rfl,trivial⟩
  rw [hs,show k=p.acts.length by omega];rfl
structure MachGet (p:Proj) (r a o:Int) (ka ko:Activ) (x:Resrc) (ρ i j:Nat) (row:List Int) (v:Int):Prop where
 rρ:r=ρ
 res:p.ress[ρ]? =some x
 fi:ka.fam=i
 fj:ko.fam=j
 rowE:x.setup[i]? =some row
 valE:row[j]? =some v
 vb:0≤v∧v≤12
 eq:setupOf p r a o=v
theorem mach_get {p:Proj} {r a o:Int} {k k':Nat} {ka ko:Activ} (hok:projOk p=true) (hm:isMach p r=true) (ha:p.acts[k]? =some ka) (ho:p.acts[k']? =some ko) (e:a=k) (e':o=k'):
  ∃x ρ i j row v,MachGet p r a o ka ko x ρ i j row v:=by
 simp only [isMach,Bool.and_eq_true,decide_eq_true_eq] at hm
 obtain⟨ρ,x,e1,e2⟩:=hasRes_get hm.1
 have pf:=projForm hok
 have hres:=pf.res ρ x e2
 have hlen:(p.ress.getD r.toNat ⟨[],[]⟩)=x:=by subst e1;simp [List.getD_eq_getElem?_getD,e2]
 rw [hlen] at hm
 simp only [resOk,Bool.and_eq_true,Bool.or_eq_true,decide_eq_true_eq,List.all_eq_true,rowOk,within_iff] at hres
 have h4:x.setup.length=4:=by omega
 have ff:∀{n:Nat} {q:Activ},p.acts[n]? =some q→0≤q.fam∧q.fam≤3:=fun {n q} hq=>by
  have:=pf.act n q hq
  simp only [activOk,Bool.and_eq_true,within_iff] at this
  exact this.2.1.2
 have f1:=ff ha
 have f2:=ff ho
 have e3:x.setup[ka.fam.toNat]? =some (x.setup[ka.fam.toNat]'(by omega)):=by simp
 have hrow:=hres.1 _ (List.mem_of_getElem? e3)
 have e4:(x.setup[ka.fam.toNat]'(by omega))[ko.fam.toNat]? =some ((x.setup[ka.fam.toNat]'(by omega))[ko.fam.toNat]'(by omega)):=by simp
 refine⟨x,ρ,ka.fam.toNat,ko.fam.toNat,_,_,e1,e2,by omega,by omega,e3,e4,hrow.2 _ (List.mem_of_getElem? e4),?_⟩
 subst e e' e1
 simp [setupOf,resOf,actOf,List.getD_eq_getElem?_getD,e2,ha,ho,e3,e4]
theorem impl_onMachine (p:Proj) (b:Dom) (r:Int) (hp:p.fine) (hu:usable p b=true) (hm:isMach p r=true):Con 430 [.d p.av,.d b.av,.d (i64 r)] (.d (.bool true)):=by
 refine con Tryz.func430 rfl rfl Tryz.call430 rfl fun hwf=>?_
 (repeat' ((conv=>whnf);first | refine gA ?_ | (refine gB ?_ ?_ <;> intro h) | refine gC (impl_isUsable p b hp) ?_ | refine gC (impl_IsMachine p r) ?_ | intro _)) <;> try (conv=>whnf)
 all_goals (refine⟨?_,rfl,trivial⟩;simp [*])
theorem impl_arePair (p:Proj) (b:Dom) (r a o:Int) (hp:p.fine) (hu:usable p b=true) (hm:isMach p r=true) (ha:hasAct p a=true) (ho:hasAct p o=true) (hne:a≠o):
  Con 414 [.d p.av,.d b.av,.d (i64 r),.d (i64 a),.d (i64 o)] (.d (.bool true)):=by
 refine con Tryz.func414 rfl rfl Tryz.call414 rfl fun hwf=>?_
 (repeat' ((conv=>whnf);first | refine gA ?_ | (refine gB ?_ ?_ <;> intro h) | refine gC (impl_onMachine p b r hp hu hm) ?_ | refine gC (impl_hasActivity p _) ?_ | intro _)) <;> try (conv=>whnf)
 all_goals (refine⟨?_,rfl,trivial⟩;simp [*])
theorem impl_RequiredUsage (p:Proj) (b:Dom) (r n:Int) {k:Nat} {a:Activ} {x y:Int} {m:List Int} (hg:DomGet p b k a x y m) (hn:n=k) (hp:p.fine) (hu:usable p b=true) (hr:hasRes p r=true) (ha:hasAct p n=true):
  Con 415 [.d p.av,.d b.av,.d (i64 r),.d (i64 n)] (.d (i64 (minUse a m r))):=by
 refine con Tryz.func415 rfl rfl Tryz.call415 rfl fun hwf=>?_
 (repeat' ((conv=>whnf);first | with_reducible refine Idx.got hg.act hn ?_ | with_reducible refine Idx.got hg.modes hn ?_ | refine gA ?_ | (refine gB ?_ ?_ <;> intro h) | (refine gI ?_;intro x hx) | (refine gJ ?_;intro j x hj hx) | refine gC (impl_isUsable p b hp) ?_ | refine gC (impl_hasResource p _) ?_ | refine gC (impl_hasActivity p _) ?_ | refine gC (impl_MinUsage a m r) ?_ | intro _)) <;> try (conv=>whnf)
 exact⟨rfl,rfl,trivial⟩
theorem isMach_res {p:Proj} {r:Int} (h:isMach p r=true):hasRes p r=true:=by
 simp only [isMach,Bool.and_eq_true] at h;exact h.1
theorem impl_BothUse (p:Proj) (b:Dom) (r a o:Int) {k k':Nat} {ka ko:Activ} {x y x' y':Int} {m m':List Int} (hg:DomGet p b k ka x y m) (hn:a=k) (hg':DomGet p b k' ko x' y' m') (hn':o=k') (hp:p.fine) (hu:usable p b=true)
  (hm:isMach p r=true) (ha:hasAct p a=true) (ho:hasAct p o=true) (hne:a≠o):
  Con 376 [.d p.av,.d b.av,.d (i64 r),.d (i64 a),.d (i64 o)] (.d (.bool (decide (minUse ka m r > 0)&&decide (minUse ko m' r > 0)))):=by
 refine con Tryz.func376 rfl rfl Tryz.call376 rfl fun hwf=>?_
 (repeat' ((conv=>whnf);first | refine gA ?_ | (refine gB ?_ ?_ <;> intro h) | refine gC (impl_arePair p b r a o hp hu hm ha ho hne) ?_ | refine gC (impl_RequiredUsage p b r a hg hn hp hu (isMach_res hm) ha) ?_ | refine gC (impl_RequiredUsage p b r o hg' hn' hp hu (isMach_res hm) ho) ?_ | intro _)) <;> try (conv=>whnf)
 all_goals (refine⟨?_,rfl,trivial⟩;simp [*])
theorem impl_SetupTime (p:Proj) (r a o:Int) {k k':Nat} {ka ko:Activ} {x:Resrc} {ρ i j:Nat} {row:List Int} {v:Int} (ha:p.acts[k]? =some ka) (e:a=k) (ho:p.acts[k']? =some ko) (e':o=k') (hp:p.fine) (hok:projOk p=true)
  (hm:isMach p r=true) (ha':hasAct p a=true) (ho':hasAct p o=true) (hM:MachGet p r a o ka ko x ρ i j row v):Con 357 [.d p.av,.d (i64 r),.d (i64 a),.d (i64 o)] (.d (i64 v)):=by
 refine con Tryz.func357 rfl rfl Tryz.call357 rfl fun hwf=>?_
 (repeat' ((conv=>whnf);first | with_reducible refine Idx.got hM.res hM.rρ ?_ | with_reducible refine Idx.got ha e ?_ | with_reducible refine Idx.got ho e' ?_ | with_reducible refine Idx.got hM.rowE hM.fi ?_ | with_reducible refine Idx.got hM.valE hM.fj ?_ | refine gA ?_ | (refine gB ?_ ?_ <;> intro h) | (refine gI ?_;intro x hx) | (refine gJ ?_;intro j x hj hx) | refine gC (impl_IsMachine p r) ?_ | refine gC (impl_ProjectOk p hp) ?_ | refine gC (impl_hasActivity p _) ?_ | intro _)) <;> try (conv=>whnf)
 exact⟨rfl,rfl,trivial⟩
theorem impl_after (p:Proj) (b:Dom) (r a o:Int) {k k':Nat} {ka ko:Activ} {x y:Int} {m:List Int} {re:Resrc} {ρ i j:Nat} {row:List Int} {v:Int} (hg:DomGet p b k ka x y m) (e:a=k) (ho:p.acts[k']? =some ko) (e':o=k') (hp:p.fine) (hok:projOk p=true)
  (hm:isMach p r=true) (ha':hasAct p a=true) (ho':hasAct p o=true) (hM:MachGet p r a o ka ko re ρ i j row v):Con 416 [.d p.av,.d b.av,.d (i64 r),.d (i64 a),.d (i64 o)] (.d (i64 (afterOf p b r a o))):=by
 refine con Tryz.func416 rfl rfl Tryz.call416 rfl fun hwf=>?_
 have hd:=minDur_bound hg.aok m
 rw [← durOf_eq hg] at hd
 have h1:=hg.lob
 have h2:=hM.vb
 have eq:afterOf p b r a o=x+durOf p b k+v:=by
  rw [afterOf,hM.eq];subst e;simp [List.getD_eq_getElem?_getD,hg.lo]
 rw [eq]
 (repeat' ((conv=>whnf);first | with_reducible refine Idx.got hg.lo e ?_ | refine gA ?_ | (refine gB ?_ ?_ <;> intro h) | (refine gI ?_;intro x hx) | (refine gJ ?_;intro j x hj hx) | refine gV ?_ | refine gC (impl_duration p b a hg e) ?_ | refine gC (impl_SetupTime p r a o hg.act e ho e' hp hok hm ha' ho' hM) ?_ | intro _)) <;> try (conv=>whnf)
 exact⟨rfl,rfl,trivial⟩
theorem impl_CanPrecede (p:Proj) (b:Dom) (r a o:Int) {k k':Nat} {ka ko:Activ} {x y x' y':Int} {m m':List Int} (hg:DomGet p b k ka x y m) (hn:a=k) (hg':DomGet p b k' ko x' y' m') (hn':o=k') (hp:p.fine) (hu:usable p b=true)
  (hm:isMach p r=true) (ha:hasAct p a=true) (ho:hasAct p o=true) (hne:a≠o):
  Con 377 [.d p.av,.d b.av,.d (i64 r),.d (i64 a),.d (i64 o)] (.d (.bool (decide (afterOf p b r a o≤y')))):=by
 refine con Tryz.func377 rfl rfl Tryz.call377 rfl fun hwf=>?_
 have hok:=(domForm_parts (usable_form hu)).1
 obtain⟨re,ρ,i,j,row,v,hM⟩:=mach_get hok hm hg.act hg'.act hn hn'
 (repeat' ((conv=>whnf);first | with_reducible refine Idx.got hg'.hi hn' ?_ | refine gA ?_ | (refine gB ?_ ?_ <;> intro h) | (refine gI ?_;intro x hx) | (refine gJ ?_;intro j x hj hx) | refine gC (impl_arePair p b r a o hp hu hm ha ho hne) ?_ | refine gC (impl_after p b r a o hg hn hg'.act hn' hp hok hm ha ho hM) ?_ | intro _)) <;> try (conv=>whnf)
 all_goals (refine⟨?_,rfl,trivial⟩;simp [*])
theorem jam_eq {p:Proj} {b:Dom} {r a o:Int} {k k':Nat} {ka ko:Activ} {x y x' y':Int} {m m':List Int} (hg:DomGet p b k ka x y m) (hn:a=k) (hg':DomGet p b k' ko x' y' m') (hn':o=k'):
  jam p b r a o=(decide (minUse ka m r > 0)&&decide (minUse ko m' r > 0)&&decide (afterOf p b r a o > y')&&decide (afterOf p b r o a > y)):=by
 subst hn hn'
 simp [jam,actOf,List.getD_eq_getElem?_getD,hg.act,hg.modes,hg'.act,hg'.modes,hg.hi,hg'.hi]
theorem impl_PairConflict (p:Proj) (b:Dom) (r a o:Int) {k k':Nat} {ka ko:Activ} {x y x' y':Int} {m m':List Int} (hg:DomGet p b k ka x y m) (hn:a=k) (hg':DomGet p b k' ko x' y' m') (hn':o=k') (hp:p.fine) (hu:usable p b=true)
  (hm:isMach p r=true) (ha:hasAct p a=true) (ho:hasAct p o=true) (hne:a≠o):
  Con 336 [.d p.av,.d b.av,.d (i64 r),.d (i64 a),.d (i64 o)] (.d (.bool (jam p b r a o))):=by
 refine con Tryz.func336 rfl rfl Tryz.call336 rfl fun hwf=>?_
 rw [jam_eq hg hn hg' hn']
 (repeat' ((conv=>whnf);first | refine gA ?_ | (refine gB ?_ ?_ <;> intro h) | refine gC (impl_BothUse p b r a o hg hn hg' hn' hp hu hm ha ho hne) ?_ | refine gC (impl_CanPrecede p b r a o hg hn hg' hn' hp hu hm ha ho hne) ?_ | refine gC (impl_CanPrecede p b r o a hg' hn' hg hn hp hu hm ho ha (Ne.symm hne)) ?_ | intro _)) <;> try (conv=>whnf)
 ·refine⟨?_,rfl,trivial⟩
  rw [show (decide (minUse ka m r > 0)&&decide (minUse ko m' r > 0))=true by assumption]
  simp only [AV.bool.injEq];rw [Bool.eq_iff_iff];simp;omega
 ·refine⟨?_,rfl,trivial⟩
  rw [show (decide (minUse ka m r > 0)&&decide (minUse ko m' r > 0))=true by assumption]
  simp only [AV.bool.injEq];rw [Bool.eq_iff_iff];simp;omega
 ·refine⟨?_,rfl,trivial⟩
  rw [h];rfl
theorem spec_l16After (p:Proj) (b:Dom) (r a o:Int) {k k':Nat} {ka ko:Activ} {x y:Int} {m:List Int} {re:Resrc} {ρ i j:Nat} {row:List Int} {v:Int} (hg:DomGet p b k ka x y m) (e:a=k) (ho:p.acts[k']? =some ko) (e':o=k') (hM:MachGet p r a o ka ko re ρ i j row v):
  Con 367 [.d p.av,.d b.av,.d (i64 r),.d (i64 a),.d (i64 o)] (.d (i64 (afterOf p b r a o))):=by
 refine con Tryz.func367 rfl rfl Tryz.call367 rfl fun hwf=>?_
 have hd:=minDur_bound hg.aok m
 rw [← durOf_eq hg] at hd
 have h1:=hg.lob
 have h2:=hM.vb
 have eq:afterOf p b r a o=x+durOf p b k+v:=by
  rw [afterOf,hM.eq];subst e;simp [List.getD_eq_getElem?_getD,hg.lo]
 rw [eq]
 (repeat' ((conv=>whnf);first | with_reducible refine Idx.got hg.lo e ?_ | with_reducible refine Idx.got hM.res hM.rρ ?_ | with_reducible refine Idx.got hg.act e ?_ | with_reducible refine Idx.got ho e' ?_ | with_reducible refine Idx.got hM.rowE hM.fi ?_ | with_reducible refine Idx.got hM.valE hM.fj ?_ | refine gA ?_ | (refine gB ?_ ?_ <;> intro h) | (refine gI ?_;intro x hx) | (refine gJ ?_;intro j x hj hx) | refine gV ?_ | refine gC (spec_l14Short p b a hg e) ?_ | intro _)) <;> try (conv=>whnf)
 exact⟨rfl,rfl,trivial⟩
theorem spec_l16Jam (p:Proj) (b:Dom) (r a o:Int) {k k':Nat} {ka ko:Activ} {x y x' y':Int} {m m':List Int} (hg:DomGet p b k ka x y m) (hn:a=k) (hg':DomGet p b k' ko x' y' m') (hn':o=k') (hok:projOk p=true) (hm:isMach p r=true):
  Con 323 [.d p.av,.d b.av,.d (i64 r),.d (i64 a),.d (i64 o)] (.d (.bool (jam p b r a o))):=by
 refine con Tryz.func323 rfl rfl Tryz.call323 rfl fun hwf=>?_
 rw [jam_eq hg hn hg' hn']
 obtain⟨re,ρ,i,j,row,v,hM⟩:=mach_get hok hm hg.act hg'.act hn hn'
 obtain⟨re',ρ',i',j',row',v',hM'⟩:=mach_get hok hm hg'.act hg.act hn' hn
 (repeat' ((conv=>whnf);first | with_reducible refine Idx.got hg'.hi hn' ?_ | with_reducible refine Idx.got hg.hi hn ?_ | refine gA ?_ | (refine gB ?_ ?_ <;> intro h) | (refine gI ?_;intro x hx) | (refine gJ ?_;intro j x hj hx) | refine gC (spec_l14Need p b r a hg hn) ?_ | refine gC (spec_l14Need p b r o hg' hn') ?_ | refine gC (spec_l16After p b r a o hg hn hg'.act hn' hM) ?_ | refine gC (spec_l16After p b r o a hg' hn' hg.act hn hM') ?_ | intro _)) <;> try (conv=>whnf)
 all_goals (refine⟨?_,rfl,trivial⟩;simp only [AV.bool.injEq];rw [Bool.eq_iff_iff];simp;omega)
theorem conOf_eq {p:Proj} {b:Dom} {k:Nat} {a:Activ} {x y:Int} {m:List Int} (h:DomGet p b k a x y m) (r:Int):conOf p b r k=minCon a m r:=by
 simp [conOf,actOf,List.getD_eq_getElem?_getD,h.act,h.modes]
theorem conOf_bound {p:Proj} {b:Dom} (hf:domForm p b=true) (r:Int) {k:Nat} (hk:k < p.acts.length):0≤conOf p b r k∧conOf p b r k≤20:=by
 obtain⟨a,lo,hi,m,h⟩:=dom_get hf hk
 rw [conOf_eq h];exact minCon_bound h.aok _ _
theorem stock_get {p:Proj} {r:Int} (h:hasStock p r=true):∃(ρ:Nat) (x:Int),r=ρ∧p.stocks[ρ]? =some x:=by
 have hn:=within_iff.1 h
 exact⟨r.toNat,p.stocks[r.toNat]'(by omega),by omega,by simp⟩
theorem impl_refutesStock (p:Proj) (b:Dom) (r:Int) (hf:domForm p b=true) (hs:hasStock p r=true):Con 337 [.d p.av,.d b.av,.d (i64 r)] (.d (.bool (stockFails p b r))):=by
 refine con Tryz.func337 rfl rfl Tryz.call337 rfl fun hwf=>?_
 simp only [ARs.wf,AR.wf,AV.wf,AV.wfs,List.length_map,lim] at hwf
 obtain⟨ρ,c,e1,e2⟩:=stock_get hs
 (repeat' ((conv=>whnf);first | refine gA ?_ | (refine gB ?_ ?_ <;> intro h) | (refine gI ?_;intro x hx) | (refine gJ ?_;intro j x hj hx) | refine gV ?_ | intro _)) <;> try (conv=>whnf)
 refine loopF [2,3,4,11,12] [3,4] [] ?_
 (conv=>whnf)
 refine LoopC.go ((Nat)×(Int)) (fun⟨k,s⟩=>(k≤p.acts.length)∧(s=sumTo (conOf p b r) k)) (fun⟨k,s⟩=>[(13,.data (i64 k)),(7,.data (i64 s))]) (fun _=>[]) (fun _=>[]) (fun⟨k,s⟩=>p.acts.length - k) ⟨0,0⟩ ?_ ?_
 ·exact⟨by omega,rfl⟩
 rintro⟨k,s⟩ ⟨hk,hs⟩
 by_cases hlt:k < p.acts.length
 ·obtain⟨a,lo,hi,m,hg⟩:=dom_get hf hlt
  have hb:=sumTo_bound (f:=conOf p b r) (c:=20) (n:=k) fun i hi=>conOf_bound hf r (by omega)
  have hw:=conOf_bound hf r hlt
  rw [conOf_eq hg] at hw
  (repeat' ((conv=>whnf);first | with_reducible refine Idx.got hg.act rfl ?_ | with_reducible refine Idx.got hg.modes rfl ?_ | refine gA ?_ | (refine gB ?_ ?_ <;> intro h) | (refine gI ?_;intro x hx) | (refine gJ ?_;intro j x hj hx) | refine gV ?_ | refine gC (impl_MinConsumption a m r) ?_ | intro _)) <;> try (conv=>whnf)
  ·refine nx ⟨k+1,s+minCon a m r⟩ ?_
   exact⟨by omega,by rw [sumTo,hs,conOf_eq hg]⟩
  ·exfalso;omega
 ·(repeat' ((conv=>whnf);first | (exfalso;omega) | with_reducible refine Idx.got e2 e1 ?_ | refine gA ?_ | (refine gB ?_ ?_ <;> intro h) | (refine gI ?_;intro x hx) | (refine gJ ?_;intro j x hj hx) | refine gV ?_ | intro _)) <;> try (conv=>whnf)
  refine⟨?_,rfl,trivial⟩
  rw [stockFails,hs,show k=p.acts.length by omega];subst e1;simp [List.getD_eq_getElem?_getD,e2]
theorem spec_l17Stock (p:Proj) (b:Dom) (r:Int) (hf:domForm p b=true) (hs:hasStock p r=true):Con 324 [.d p.av,.d b.av,.d (i64 r)] (.d (.bool (stockFails p b r))):=by
 refine con Tryz.func324 rfl rfl Tryz.call324 rfl fun hwf=>?_
 simp only [ARs.wf,AR.wf,AV.wf,AV.wfs,List.length_map,lim] at hwf
 obtain⟨ρ,c,e1,e2⟩:=stock_get hs
 (repeat' ((conv=>whnf);first | refine gA ?_ | (refine gB ?_ ?_ <;> intro h) | (refine gI ?_;intro x hx) | (refine gJ ?_;intro j x hj hx) | refine gV ?_ | intro _)) <;> try (conv=>whnf)
 refine loopF [2,3,4,11] [3,4] [] ?_
 (conv=>whnf)
 refine LoopC.go ((Nat)×(Int)) (fun⟨k,s⟩=>(k≤p.acts.length)∧(s=sumTo (conOf p b r) k)) (fun⟨k,s⟩=>[(12,.data (i64 k)),(7,.data (i64 s))]) (fun _=>[]) (fun _=>[]) (fun⟨k,s⟩=>p.acts.length - k) ⟨0,0⟩ ?_ ?_
 ·exact⟨by omega,rfl⟩
 rintro⟨k,s⟩ ⟨hk,hs⟩
 by_cases hlt:k < p.acts.length
 ·obtain⟨a,lo,hi,m,hg⟩:=dom_get hf hlt
  have hb:=sumTo_bound (f:=conOf p b r) (c:=20) (n:=k) fun i hi=>conOf_bound hf r (by omega)
  have hw:=conOf_bound hf r hlt
  rw [conOf_eq hg] at hw
  (repeat' ((conv=>whnf);first | with_reducible refine Idx.got hg.act rfl ?_ | with_reducible refine Idx.got hg.modes rfl ?_ | refine gA ?_ | (refine gB ?_ ?_ <;> intro h) | (refine gI ?_;intro x hx) | (refine gJ ?_;intro j x hj hx) | refine gV ?_ | refine gC (spec_MinConsumption a m r) ?_ | intro _)) <;> try (conv=>whnf)
  ·refine nx ⟨k+1,s+minCon a m r⟩ ?_
   exact⟨by omega,by rw [sumTo,hs,conOf_eq hg]⟩
  ·exfalso;omega
 ·(repeat' ((conv=>whnf);first | (exfalso;omega) | with_reducible refine Idx.got e2 e1 ?_ | refine gA ?_ | (refine gB ?_ ?_ <;> intro h) | (refine gI ?_;intro x hx) | (refine gJ ?_;intro j x hj hx) | refine gV ?_ | intro _)) <;> try (conv=>whnf)
  refine⟨?_,rfl,trivial⟩
  rw [stockFails,hs,show k=p.acts.length by omega];subst e1;simp [List.getD_eq_getElem?_getD,e2]
theorem impl_refutesLink (p:Proj) (b:Dom) (l:Link) (hf:domForm p b=true) (hl:linkOk p l=true):Con 332 [.d p.av,.d b.av,.d l.av] (.d (.bool (linkFails p b l))):=by
 refine con Tryz.func332 rfl rfl Tryz.call332 rfl fun hwf=>?_
 simp only [linkOk,Bool.and_eq_true] at hl
 obtain⟨k,_,e1,e2⟩:=hasAct_get hl.1.1.1
 obtain⟨k',_,e1',e2'⟩:=hasAct_get hl.1.1.2
 have hlag:=within_iff.1 hl.2
 obtain⟨a,x,y,m,hg⟩:=dom_get hf (List.getElem?_eq_some_iff.1 e2).1
 obtain⟨a',x',y',m',hg'⟩:=dom_get hf (List.getElem?_eq_some_iff.1 e2').1
 have hd:=minDur_bound hg.aok m
 rw [← durOf_eq hg] at hd
 have h1:=hg.lob
 (repeat' ((conv=>whnf);first | with_reducible refine Idx.got hg.lo e1 ?_ | with_reducible refine Idx.got hg'.hi e1' ?_ | refine gA ?_ | (refine gB ?_ ?_ <;> intro h) | (refine gI ?_;intro x hx) | (refine gJ ?_;intro j x hj hx) | refine gV ?_ | refine gC (impl_duration p b _ hg e1) ?_ | intro _)) <;> try (conv=>whnf)
 all_goals (refine⟨?_,rfl,trivial⟩;simp [linkFails,e1,e1',List.getD_eq_getElem?_getD,hg.lo,hg'.hi, *];done)
end Go.Proofs.YtfhojdalheinaaaGreat.Abs
