/- Contracts: schedules that keep all rules. No statement of a claim. -/
import Derived.Test.YtkiohdpapinecaaGreatSch
import Derived.Test.YtkiohdpapinecaaGreatC12
set_option linter.all false
set_option linter.unusedVariables false
set_option linter.unusedSimpArgs false
set_option maxRecDepth 20000
set_option maxHeartbeats 4000000
namespace Go.Proofs.YtkiohdpapinecaaGreat.Abs
open Go.Proofs
inductive RIn (p:Proj) (r:Rul):Prop
 | link (k:Nat) (l:Link) (h:r=linkRule k) (hl:p.links[k]? =some l)
 | fin (k:Nat) (h:r=endRule k) (hk:k < p.acts.length)
 | time (ρ t:Nat) (h:r=timeRule ρ t) (hρ:ρ < p.ress.length) (ht:t < 61)
 | pair (ρ b c:Nat) (h:r=pairRule ρ b c) (hm:isMach p ρ=true) (hb:b < c) (hc:c < p.acts.length)
 | stock (k:Nat) (h:r=stockRule k) (hk:k < p.stocks.length)
theorem rulesOf_mem {p:Proj} {r:Rul} (h:r∈rulesOf p):RIn p r:=by
 simp only [rulesOf,List.mem_append,List.mem_map,List.mem_range,List.mem_flatMap,timesOf,pairsOf] at h
 rcases h with (((h | h) | h) | h) | h
 ·obtain⟨k,hk,rfl⟩:=h
  exact .link k _ rfl (List.getElem?_eq_getElem hk)
 ·obtain⟨k,hk,rfl⟩:=h
  exact .fin k rfl hk
 ·obtain⟨ρ,hρ,t,ht,rfl⟩:=h
  exact .time ρ t rfl hρ ht
 ·obtain⟨ρ,hρ,b,hb,h⟩:=h
  split at h
  ·rename_i hm
   simp only [List.mem_map,List.mem_range] at h
   obtain⟨j,hj,rfl⟩:=h
   exact .pair ρ b (b+1+j) rfl hm (by omega) (by omega)
  ·simp at h
 ·obtain⟨k,hk,rfl⟩:=h
  exact .stock k rfl hk
theorem conIn_eq {p:Proj} {s:Sched} {k:Nat} {a:Activ} {t m:Int} {q:Nat} {mo:Mode} (g:SGet p s k a t m q mo) {r:Int} (hr:hasStock p r=true):
  ∃(ρ:Nat) (u:Int),r=ρ∧mo.con[ρ]? =some u∧(0≤u∧u≤20)∧conIn p s r k=u:=by
 have hm:=activ_mode g.aok (List.mem_of_getElem? g.moE)
 have hw:=within_iff.1 hr
 have e2:mo.con[r.toNat]? =some (mo.con[r.toNat]'(by omega)):=by simp
 refine⟨r.toNat,_,by omega,e2,hm.2.2.2.1 _ (List.mem_of_getElem? e2),?_⟩
 rw [conIn,modeOf_eq g,List.getD_eq_getElem?_getD,e2];rfl
theorem conIn_bound {p:Proj} {s:Sched} (hf:schedForm p s=true) {r:Int} (hr:hasStock p r=true) {k:Nat} (hk:k < p.acts.length):0≤conIn p s r k∧conIn p s r k≤20:=by
 obtain⟨a,t,m,q,mo,g⟩:=s_get hf hk
 obtain⟨ρ,u,_,_,hb,e⟩:=conIn_eq g hr
 rw [e];exact hb
theorem impl_ConsumptionOf (p:Proj) (s:Sched) (r:Int) (hp:p.fine) (hf:schedForm p s=true) (hr:hasStock p r=true):Con 314 [.d p.av,.d s.av,.d (i64 r)] (.d (i64 (conTotal p s r))):=by
 refine con Tryz.func314 rfl rfl Tryz.call314 rfl fun hwf=>?_
 simp only [ARs.wf,AR.wf,AV.wf,AV.wfs,List.length_map,lim] at hwf
 (repeat' ((conv=>whnf);first | refine gA ?_ | ((with_reducible first | refine gD (fun h=>?_) (fun h=>?_) | refine gE (fun h=>?_) (fun h=>?_)) <;> (try simp only [lm] at h) <;> try have hw:=wn h) | with_reducible refine gI (fun x hx=>?_) | with_reducible refine gJ (fun j x hj hx=>?_) | refine gV ?_ | refine gC (impl_ScheduleForm p s hp) ?_ | refine gC (impl_hasStock p _) ?_ | intro _)) <;> (try (conv=>whnf))
 refine loopF [2,3,4,21] [3,4] [] ?_
 (conv=>whnf)
 refine LoopC.go ((Nat)×(Int)) (fun⟨k,n⟩=>(k≤p.acts.length)∧(n=sumTo (conIn p s r) k)) (fun⟨k,n⟩=>[(22,.data (i64 k)),(7,.data (i64 n))]) (fun _=>[]) (fun _=>[]) (fun⟨k,n⟩=>p.acts.length - k) ⟨0,0⟩ ?_ ?_
 ·exact⟨by omega,rfl⟩
 rintro⟨k,n⟩ ⟨hk,hn⟩
 by_cases hlt:k < p.acts.length
 ·obtain⟨a,u,m,q,mo,g⟩:=s_get hf hlt
  obtain⟨ρ,v,e1,e2,e3,e4⟩:=conIn_eq g hr
  have hb:=sumTo_bound (f:=conIn p s r) (c:=20) (n:=k) fun i hi=>conIn_bound hf hr (by omega)
  (repeat' ((conv=>whnf);first | (exfalso;omega) | with_reducible refine Idx.got e2 e1 ?_ | refine gA ?_ | ((with_reducible first | refine gD (fun h=>?_) (fun h=>?_) | refine gE (fun h=>?_) (fun h=>?_)) <;> (try simp only [lm] at h) <;> try have hw:=wn h) | with_reducible refine gI (fun x hx=>?_) | with_reducible refine gJ (fun j x hj hx=>?_) | refine gV ?_ | refine gC (impl_mode p s _ g rfl) ?_ | intro _)) <;> (try (conv=>whnf))
  refine nx ⟨k+1,n+v⟩ ?_
  exact⟨by omega,by rw [sumTo,hn,e4]⟩
 ·(repeat' ((conv=>whnf);first | (exfalso;omega) | refine gA ?_ | ((with_reducible first | refine gD (fun h=>?_) (fun h=>?_) | refine gE (fun h=>?_) (fun h=>?_)) <;> (try simp only [lm] at h) <;> try have hw:=wn h) | with_reducible refine gI (fun x hx=>?_) | with_reducible refine gJ (fun j x hj hx=>?_) | refine gV ?_ | intro _)) <;> (try (conv=>whnf))
  refine⟨?_,rfl,trivial⟩
  rw [hn,show k=p.acts.length by omega];rfl
theorem spec_ConsumptionOf (p:Proj) (s:Sched) (r:Int) (hp:p.fine) (hf:schedForm p s=true) (hr:hasStock p r=true):Con 311 [.d p.av,.d s.av,.d (i64 r)] (.d (i64 (conTotal p s r))):=by
 refine con Tryz.func311 rfl rfl Tryz.call311 rfl fun hwf=>?_
 simp only [ARs.wf,AR.wf,AV.wf,AV.wfs,List.length_map,lim] at hwf
 have hr':within r 0 (((p.stocks.map i64).length:Int) - 1)=true:=by rw [List.length_map];exact hr
 (repeat' ((conv=>whnf);first | refine gA ?_ | ((with_reducible first | refine gD (fun h=>?_) (fun h=>?_) | refine gE (fun h=>?_) (fun h=>?_)) <;> (try simp only [lm] at h) <;> try have hw:=wn h) | with_reducible refine gI (fun x hx=>?_) | with_reducible refine gJ (fun j x hj hx=>?_) | refine gV ?_ | refine gC (spec_ScheduleForm p s hp) ?_ | refine gC (spec_in _ _ _) ?_ | intro _)) <;> (try (conv=>whnf))
 refine loopF [2,3,4,24] [3,4] [] ?_
 (conv=>whnf)
 refine LoopC.go ((Nat)×(Int)) (fun⟨k,n⟩=>(k≤p.acts.length)∧(n=sumTo (conIn p s r) k)) (fun⟨k,n⟩=>[(25,.data (i64 k)),(7,.data (i64 n))]) (fun _=>[]) (fun _=>[]) (fun⟨k,n⟩=>p.acts.length - k) ⟨0,0⟩ ?_ ?_
 ·exact⟨by omega,rfl⟩
 rintro⟨k,n⟩ ⟨hk,hn⟩
 by_cases hlt:k < p.acts.length
 ·obtain⟨a,u,m,q,mo,g⟩:=s_get hf hlt
  obtain⟨ρ,v,e1,e2,e3,e4⟩:=conIn_eq g hr
  have hb:=sumTo_bound (f:=conIn p s r) (c:=20) (n:=k) fun i hi=>conIn_bound hf hr (by omega)
  (repeat' ((conv=>whnf);first | (exfalso;omega) | with_reducible refine Idx.got e2 e1 ?_ | refine gA ?_ | ((with_reducible first | refine gD (fun h=>?_) (fun h=>?_) | refine gE (fun h=>?_) (fun h=>?_)) <;> (try simp only [lm] at h) <;> try have hw:=wn h) | with_reducible refine gI (fun x hx=>?_) | with_reducible refine gJ (fun j x hj hx=>?_) | refine gV ?_ | refine gC (spec_l09Mode p s _ g rfl) ?_ | intro _)) <;> (try (conv=>whnf))
  refine nx ⟨k+1,n+v⟩ ?_
  exact⟨by omega,by rw [sumTo,hn,e4]⟩
 ·(repeat' ((conv=>whnf);first | (exfalso;omega) | refine gA ?_ | ((with_reducible first | refine gD (fun h=>?_) (fun h=>?_) | refine gE (fun h=>?_) (fun h=>?_)) <;> (try simp only [lm] at h) <;> try have hw:=wn h) | with_reducible refine gI (fun x hx=>?_) | with_reducible refine gJ (fun j x hj hx=>?_) | refine gV ?_ | intro _)) <;> (try (conv=>whnf))
  refine⟨?_,rfl,trivial⟩
  rw [hn,show k=p.acts.length by omega];rfl
theorem impl_linkHolds (p:Proj) (s:Sched) (l:Link) (hf:schedForm p s=true) (hl:linkOk p l=true):Con 207 [.d p.av,.d s.av,.d l.av] (.d (.bool (!linkBreaks p s l))):=by
 refine con Tryz.func207 rfl rfl Tryz.call207 rfl fun hwf=>?_
 simp only [linkOk,Bool.and_eq_true] at hl
 obtain⟨k,_,e1,e2⟩:=hasAct_get hl.1.1.1
 obtain⟨k',_,e1',e2'⟩:=hasAct_get hl.1.1.2
 have hlag:=within_iff.1 hl.2
 obtain⟨a,t,m,q,mo,g⟩:=s_get hf (List.getElem?_eq_some_iff.1 e2).1
 obtain⟨a',t',m',q',mo',g'⟩:=s_get hf (List.getElem?_eq_some_iff.1 e2').1
 have hd:=s_dur g
 have h1:=g.tb
 have he:=endOf_eq g
 (repeat' ((conv=>whnf);first | with_reducible refine Idx.got g.start e1 ?_ | with_reducible refine Idx.got g'.start e1' ?_ | refine gA ?_ | ((with_reducible first | refine gD (fun h=>?_) (fun h=>?_) | refine gE (fun h=>?_) (fun h=>?_)) <;> (try simp only [lm] at h) <;> try have hw:=wn h) | with_reducible refine gI (fun x hx=>?_) | with_reducible refine gJ (fun j x hj hx=>?_) | refine gV ?_ | refine gC (impl_end p s _ g e1) ?_ | intro _)) <;> (try (conv=>whnf))
 all_goals
  refine⟨?_,rfl,trivial⟩
  simp only [AV.bool.injEq]
  rw [Bool.eq_iff_iff]
  simp [linkBreaks,e1,e1',List.getD_eq_getElem?_getD,g.start,g'.start, *]
theorem impl_pairHolds (p:Proj) (s:Sched) (r b c:Int) {k k':Nat} {ka ko:Activ} {t m t' m':Int} {q q':Nat} {mo mo':Mode} (g:SGet p s k ka t m q mo) (e:b=k) (g':SGet p s k' ko t' m' q' mo') (e':c=k') (hp:p.fine)
  (hf:schedForm p s=true) (hm:isMach p r=true) (hb:hasAct p b=true) (hc:hasAct p c=true):Con 211 [.d p.av,.d s.av,.d (i64 r),.d (i64 b),.d (i64 c)] (.d (.bool (!pairFails p s r b c))):=by
 refine con Tryz.func211 rfl rfl Tryz.call211 rfl fun hwf=>?_
 have hok:=(schedForm_parts hf).1
 obtain⟨re,ρ,i,j,row,v,hM⟩:=mach_get hok hm g.act g'.act e e'
 obtain⟨re',ρ',i',j',row',v',hM'⟩:=mach_get hok hm g'.act g.act e' e
 obtain⟨ρ1,u,f1,f2,f3,_⟩:=useIn_eq g (isMach_res hm) 0
 obtain⟨ρ2,u',f1',f2',f3',_⟩:=useIn_eq g' (isMach_res hm) 0
 have hd:=s_dur g;have hd':=s_dur g'
 have h1:=g.tb;have h1':=g'.tb
 have he:=endOf_eq g;have he':=endOf_eq g'
 have hv:=hM.vb;have hv':=hM'.vb
 have ep:pairFails p s r b c=(!decide (u=0)&& !decide (u'=0)&& !decide (endOf p s k+v≤t')&& !decide (endOf p s k'+v'≤t)):=by
  rw [pairFails,aheadOf,aheadOf,hM.eq,hM'.eq]
  subst e e' f1
  obtain rfl:ρ2=ρ1:=by omega
  simp [modeOf_eq g,modeOf_eq g',List.getD_eq_getElem?_getD,f2,f2',g.start,g'.start]
 rw [ep]
 (repeat' ((conv=>whnf);first | with_reducible refine Idx.got f2 f1 ?_ | with_reducible refine Idx.got f2' f1' ?_ | with_reducible refine Idx.got g.start e ?_ | with_reducible refine Idx.got g'.start e' ?_ | refine gA ?_ | ((with_reducible first | refine gD (fun h=>?_) (fun h=>?_) | refine gE (fun h=>?_) (fun h=>?_)) <;> (try simp only [lm] at h) <;> try have hw:=wn h) | with_reducible refine gI (fun x hx=>?_) | with_reducible refine gJ (fun j x hj hx=>?_) | refine gV ?_ | refine gC (impl_mode p s _ g e) ?_ | refine gC (impl_mode p s _ g' e') ?_ | refine gC (impl_end p s _ g e) ?_ | refine gC (impl_end p s _ g' e') ?_ | refine gC (impl_SetupTime p r b c g.act e g'.act e' hp hok hm hb hc hM) ?_ | refine gC (impl_SetupTime p r c b g'.act e' g.act e hp hok hm hc hb hM') ?_ | intro _)) <;> (try (conv=>whnf))
 all_goals
  refine⟨?_,rfl,trivial⟩
  clear he he' ep
  simp only [AV.bool.injEq]
  rw [Bool.eq_iff_iff]
  simp [*]
theorem hasAct_nat {p:Proj} {k:Nat} (h:k < p.acts.length):hasAct p k=true:=within_iff.2 (by omega)
theorem hasRes_nat {p:Proj} {k:Nat} (h:k < p.ress.length):hasRes p k=true:=within_iff.2 (by omega)
theorem hasStock_nat {p:Proj} {k:Nat} (h:k < p.stocks.length):hasStock p k=true:=within_iff.2 (by omega)
theorem impl_satisfies (p:Proj) (s:Sched) (r:Rul) (hp:p.fine) (hf:schedForm p s=true) (hr:RIn p r):Con 231 [.d p.av,.d s.av,.d r.av] (.d (.bool (!breaks p s r))):=by
 refine con Tryz.func231 rfl rfl Tryz.call231 rfl fun hwf=>?_
 have hok:=(schedForm_parts hf).1
 cases hr with
 | link k l h hl=>
  subst h
  have hkd:(linkRule k).kind=1:=rfl
  have hlo:=(projForm hok).link k l hl
  (repeat' ((conv=>whnf);first | with_reducible refine Br.no (decide_eq_false (by omega)) ?_ | with_reducible refine Br.yes (decide_eq_true (by omega)) ?_ | with_reducible refine Idx.got hl rfl ?_ | refine gA ?_ | ((with_reducible first | refine gD (fun h=>?_) (fun h=>?_) | refine gE (fun h=>?_) (fun h=>?_)) <;> (try simp only [lm] at h) <;> try have hw:=wn h) | with_reducible refine gI (fun x hx=>?_) | with_reducible refine gJ (fun j x hj hx=>?_) | refine gC (impl_linkHolds p s l hf hlo) ?_ | intro _)) <;> (try (conv=>whnf))
  refine⟨?_,rfl,trivial⟩
  simp [breaks,linkRule,linkOf,List.getD_eq_getElem?_getD,hl]
 | fin k h hk=>
  subst h
  have hkd:(endRule k).kind=2:=rfl
  obtain⟨a,t,m,q,mo,g⟩:=s_get hf hk
  (repeat' ((conv=>whnf);first | with_reducible refine Br.no (decide_eq_false (by omega)) ?_ | with_reducible refine Br.yes (decide_eq_true (by omega)) ?_ | refine gA ?_ | ((with_reducible first | refine gD (fun h=>?_) (fun h=>?_) | refine gE (fun h=>?_) (fun h=>?_)) <;> (try simp only [lm] at h) <;> try have hw:=wn h) | with_reducible refine gI (fun x hx=>?_) | with_reducible refine gJ (fun j x hj hx=>?_) | refine gC (impl_end p s _ g rfl) ?_ | intro _)) <;> (try (conv=>whnf))
  refine⟨?_,rfl,trivial⟩
  simp only [AV.bool.injEq]
  rw [Bool.eq_iff_iff]
  simp [breaks,endRule]
 | time ρ t h hρ ht=>
  subst h
  have hkd:(timeRule ρ t).kind=3:=rfl
  have hr:=hasRes_nat hρ
  obtain⟨x,hx⟩:∃x,p.ress[ρ]? =some x:=⟨p.ress[ρ]'hρ,by simp⟩
  (repeat' ((conv=>whnf);first | with_reducible refine Br.no (decide_eq_false (by omega)) ?_ | with_reducible refine Br.yes (decide_eq_true (by omega)) ?_ | with_reducible refine Idx.got hx rfl ?_ | refine gA ?_ | ((with_reducible first | refine gD (fun h=>?_) (fun h=>?_) | refine gE (fun h=>?_) (fun h=>?_)) <;> (try simp only [lm] at h) <;> try have hw:=wn h) | with_reducible refine gI (fun x hx=>?_) | with_reducible refine gJ (fun j x hj hx=>?_) | refine gC (impl_usage p s (ρ:Int) (t:Int) hf hr) ?_ | refine gC (impl_capacityAt x.steps (t:Int)) ?_ | intro _)) <;> (try (conv=>whnf))
  refine⟨?_,rfl,trivial⟩
  simp only [AV.bool.injEq]
  rw [Bool.eq_iff_iff]
  simp [breaks,timeRule,resOf,List.getD_eq_getElem?_getD,hx]
 | pair ρ b c h hm hb hc=>
  subst h
  have hkd:(pairRule ρ b c).kind=5:=rfl
  obtain⟨a,t,m,q,mo,g⟩:=s_get hf (show b < p.acts.length by omega)
  obtain⟨a',t',m',q',mo',g'⟩:=s_get hf hc
  (repeat' ((conv=>whnf);first | with_reducible refine Br.no (decide_eq_false (by omega)) ?_ | with_reducible refine Br.yes (decide_eq_true (by omega)) ?_ | refine gA ?_ | ((with_reducible first | refine gD (fun h=>?_) (fun h=>?_) | refine gE (fun h=>?_) (fun h=>?_)) <;> (try simp only [lm] at h) <;> try have hw:=wn h) | with_reducible refine gI (fun x hx=>?_) | with_reducible refine gJ (fun j x hj hx=>?_) | refine gC (impl_pairHolds p s (ρ:Int) (b:Int) (c:Int) g rfl g' rfl hp hf hm (hasAct_nat (by omega)) (hasAct_nat hc)) ?_ | intro _)) <;> (try (conv=>whnf))
  refine⟨?_,rfl,trivial⟩
  simp [breaks,pairRule]
 | stock k h hkn=>
  subst h
  have hkd:(stockRule k).kind=6:=rfl
  obtain⟨x,hx⟩:∃x,p.stocks[k]? =some x:=⟨p.stocks[k]'hkn,by simp⟩
  (repeat' ((conv=>whnf);first | with_reducible refine Br.no (decide_eq_false (by omega)) ?_ | with_reducible refine Br.yes (decide_eq_true (by omega)) ?_ | with_reducible refine Idx.got hx rfl ?_ | refine gA ?_ | ((with_reducible first | refine gD (fun h=>?_) (fun h=>?_) | refine gE (fun h=>?_) (fun h=>?_)) <;> (try simp only [lm] at h) <;> try have hw:=wn h) | with_reducible refine gI (fun x hx=>?_) | with_reducible refine gJ (fun j x hj hx=>?_) | refine gC (impl_ConsumptionOf p s (k:Int) hp hf (hasStock_nat hkn)) ?_ | intro _)) <;> (try (conv=>whnf))
  refine⟨?_,rfl,trivial⟩
  simp only [AV.bool.injEq]
  rw [Bool.eq_iff_iff]
  simp [breaks,stockRule,List.getD_eq_getElem?_getD,hx]
theorem spec_l10Ahead (p:Proj) (s:Sched) (r b c:Int) {k k':Nat} {ka ko:Activ} {t m t' m':Int} {q q':Nat} {mo mo':Mode} (g:SGet p s k ka t m q mo) (e:b=k) (g':SGet p s k' ko t' m' q' mo') (e':c=k')
  (hf:schedForm p s=true) (hm:isMach p r=true):Con 382 [.d p.av,.d s.av,.d (i64 r),.d (i64 b),.d (i64 c)] (.d (.bool (aheadOf p s r b c))):=by
 refine con Tryz.func382 rfl rfl Tryz.call382 rfl fun hwf=>?_
 have hok:=(schedForm_parts hf).1
 obtain⟨re,ρ,i,j,row,v,hM⟩:=mach_get hok hm g.act g'.act e e'
 have hd:=s_dur g
 have h1:=g.tb
 have he:=endOf_eq g
 have hv:=hM.vb
 have ea:aheadOf p s r b c=decide (endOf p s k+v≤t'):=by
  rw [aheadOf,hM.eq];subst e e';simp [List.getD_eq_getElem?_getD,g'.start]
 rw [ea]
 (repeat' ((conv=>whnf);first | with_reducible refine Idx.got hM.res hM.rρ ?_ | with_reducible refine Idx.got g.act e ?_ | with_reducible refine Idx.got g'.act e' ?_ | with_reducible refine Idx.got hM.rowE hM.fi ?_ | with_reducible refine Idx.got hM.valE hM.fj ?_ | with_reducible refine Idx.got g'.start e' ?_ | refine gA ?_ | ((with_reducible first | refine gD (fun h=>?_) (fun h=>?_) | refine gE (fun h=>?_) (fun h=>?_)) <;> (try simp only [lm] at h) <;> try have hw:=wn h) | with_reducible refine gI (fun x hx=>?_) | with_reducible refine gJ (fun j x hj hx=>?_) | refine gV ?_ | refine gC (spec_l09End p s _ g e) ?_ | intro _)) <;> (try (conv=>whnf))
 exact⟨rfl,rfl,trivial⟩
theorem spec_l10Pair (p:Proj) (s:Sched) (ρ b c:Nat) (hf:schedForm p s=true) (hm:isMach p ρ=true) (hb:b < c) (hc:c < p.acts.length):Con 308 [.d p.av,.d s.av,.d (pairRule ρ b c).av] (.d (.bool (pairFails p s ρ b c))):=by
 refine con Tryz.func308 rfl rfl Tryz.call308 rfl fun hwf=>?_
 obtain⟨a,t,m,q,mo,g⟩:=s_get hf (show b < p.acts.length by omega)
 obtain⟨a',t',m',q',mo',g'⟩:=s_get hf hc
 obtain⟨ρ1,u,f1,f2,f3,_⟩:=useIn_eq g (isMach_res hm) 0
 obtain⟨ρ2,u',f1',f2',f3',_⟩:=useIn_eq g' (isMach_res hm) 0
 have ep:pairFails p s ρ b c=(!decide (u=0)&& !decide (u'=0)&& !aheadOf p s ρ b c&& !aheadOf p s ρ c b):=by
  obtain rfl:ρ1=ρ:=by omega
  obtain rfl:ρ2=ρ1:=by omega
  rw [pairFails]
  simp [modeOf_eq g,modeOf_eq g',List.getD_eq_getElem?_getD,f2,f2']
 rw [ep]
 (repeat' ((conv=>whnf);first | refine Idx.got f2 f1 ?_ | refine Idx.got f2' f1' ?_ | refine gA ?_ | ((with_reducible first | refine gD (fun h=>?_) (fun h=>?_) | refine gE (fun h=>?_) (fun h=>?_)) <;> (try simp only [lm] at h) <;> try have hw:=wn h) | with_reducible refine gI (fun x hx=>?_) | with_reducible refine gJ (fun j x hj hx=>?_) | refine gC (spec_l09Mode p s _ g rfl) ?_ | refine gC (spec_l09Mode p s _ g' rfl) ?_ | refine gC (spec_l10Ahead p s (ρ:Int) (b:Int) (c:Int) g rfl g' rfl hf hm) ?_ | refine gC (spec_l10Ahead p s (ρ:Int) (c:Int) (b:Int) g' rfl g rfl hf hm) ?_ | intro _)) <;> (try (conv=>whnf))
 all_goals (clear f1 f1' ep;refine⟨?_,rfl,trivial⟩;simp [*])
theorem spec_l10Fails (p:Proj) (s:Sched) (r:Rul) (hp:p.fine) (hf:schedForm p s=true) (hr:RIn p r):Con 225 [.d p.av,.d s.av,.d r.av] (.d (.bool (breaks p s r))):=by
 refine con Tryz.func225 rfl rfl Tryz.call225 rfl fun hwf=>?_
 have hok:=(schedForm_parts hf).1
 cases hr with
 | link k l h hl=>
  subst h
  have hkd:(linkRule k).kind=1:=rfl
  have hlo:=(projForm hok).link k l hl
  simp only [linkOk,Bool.and_eq_true] at hlo
  obtain⟨k1,_,e1,e2⟩:=hasAct_get hlo.1.1.1
  obtain⟨k',_,e1',e2'⟩:=hasAct_get hlo.1.1.2
  have hlag:=within_iff.1 hlo.2
  obtain⟨a,t,m,q,mo,g⟩:=s_get hf (List.getElem?_eq_some_iff.1 e2).1
  obtain⟨a',t',m',q',mo',g'⟩:=s_get hf (List.getElem?_eq_some_iff.1 e2').1
  have hd:=s_dur g
  have h1:=g.tb
  have he:=endOf_eq g
  (repeat' ((conv=>whnf);first | with_reducible refine Br.no (decide_eq_false (by omega)) ?_ | with_reducible refine Br.yes (decide_eq_true (by omega)) ?_ | with_reducible refine Idx.got hl rfl ?_ | with_reducible refine Idx.got g.start e1 ?_ | with_reducible refine Idx.got g'.start e1' ?_ | refine gA ?_ | ((with_reducible first | refine gD (fun h=>?_) (fun h=>?_) | refine gE (fun h=>?_) (fun h=>?_)) <;> (try simp only [lm] at h) <;> try have hw:=wn h) | with_reducible refine gI (fun x hx=>?_) | with_reducible refine gJ (fun j x hj hx=>?_) | refine gV ?_ | refine gC (spec_l09End p s _ g e1) ?_ | intro _)) <;> (try (conv=>whnf))
  all_goals
   clear he
   refine⟨?_,rfl,trivial⟩
   simp only [AV.bool.injEq]
   rw [Bool.eq_iff_iff]
   simp [breaks,linkBreaks,linkRule,linkOf,hl,e1,e1',List.getD_eq_getElem?_getD,g.start,g'.start, *]
 | fin k h hk=>
  subst h
  have hkd:(endRule k).kind=2:=rfl
  obtain⟨a,t,m,q,mo,g⟩:=s_get hf hk
  (repeat' ((conv=>whnf);first | with_reducible refine Br.no (decide_eq_false (by omega)) ?_ | with_reducible refine Br.yes (decide_eq_true (by omega)) ?_ | refine gA ?_ | ((with_reducible first | refine gD (fun h=>?_) (fun h=>?_) | refine gE (fun h=>?_) (fun h=>?_)) <;> (try simp only [lm] at h) <;> try have hw:=wn h) | with_reducible refine gI (fun x hx=>?_) | with_reducible refine gJ (fun j x hj hx=>?_) | refine gV ?_ | refine gC (spec_l09End p s _ g rfl) ?_ | intro _)) <;> (try (conv=>whnf))
  refine⟨?_,rfl,trivial⟩
  simp [breaks,endRule]
 | time ρ t h hρ ht=>
  subst h
  have hkd:(timeRule ρ t).kind=3:=rfl
  have hr:=hasRes_nat hρ
  obtain⟨x,hx⟩:∃x,p.ress[ρ]? =some x:=⟨p.ress[ρ]'hρ,by simp⟩
  (repeat' ((conv=>whnf);first | with_reducible refine Br.no (decide_eq_false (by omega)) ?_ | with_reducible refine Br.yes (decide_eq_true (by omega)) ?_ | with_reducible refine Idx.got hx rfl ?_ | refine gA ?_ | ((with_reducible first | refine gD (fun h=>?_) (fun h=>?_) | refine gE (fun h=>?_) (fun h=>?_)) <;> (try simp only [lm] at h) <;> try have hw:=wn h) | with_reducible refine gI (fun x hx=>?_) | with_reducible refine gJ (fun j x hj hx=>?_) | refine gV ?_ | refine gC (spec_l09Use p s (ρ:Int) (t:Int) hf hr) ?_ | refine gC (spec_l03At x.steps (t:Int)) ?_ | intro _)) <;> (try (conv=>whnf))
  refine⟨?_,rfl,trivial⟩
  simp [breaks,timeRule,resOf,List.getD_eq_getElem?_getD,hx]
 | pair ρ b c h hm hb hc=>
  subst h
  have hkd:(pairRule ρ b c).kind=5:=rfl
  (repeat' ((conv=>whnf);first | with_reducible refine Br.no (decide_eq_false (by omega)) ?_ | with_reducible refine Br.yes (decide_eq_true (by omega)) ?_ | refine gA ?_ | ((with_reducible first | refine gD (fun h=>?_) (fun h=>?_) | refine gE (fun h=>?_) (fun h=>?_)) <;> (try simp only [lm] at h) <;> try have hw:=wn h) | with_reducible refine gI (fun x hx=>?_) | with_reducible refine gJ (fun j x hj hx=>?_) | refine gV ?_ | refine gC (spec_l10Pair p s ρ b c hf hm hb hc) ?_ | intro _)) <;> (try (conv=>whnf))
  refine⟨?_,rfl,trivial⟩
  simp [breaks,pairRule]
 | stock k h hkn=>
  subst h
  have hkd:(stockRule k).kind=6:=rfl
  obtain⟨x,hx⟩:∃x,p.stocks[k]? =some x:=⟨p.stocks[k]'hkn,by simp⟩
  (repeat' ((conv=>whnf);first | with_reducible refine Br.no (decide_eq_false (by omega)) ?_ | with_reducible refine Br.yes (decide_eq_true (by omega)) ?_ | with_reducible refine Idx.got hx rfl ?_ | refine gA ?_ | ((with_reducible first | refine gD (fun h=>?_) (fun h=>?_) | refine gE (fun h=>?_) (fun h=>?_)) <;> (try simp only [lm] at h) <;> try have hw:=wn h) | with_reducible refine gI (fun x hx=>?_) | with_reducible refine gJ (fun j x hj hx=>?_) | refine gV ?_ | refine gC (spec_ConsumptionOf p s (k:Int) hp hf (hasStock_nat hkn)) ?_ | intro _)) <;> (try (conv=>whnf))
  refine⟨?_,rfl,trivial⟩
  simp [breaks,stockRule,List.getD_eq_getElem?_getD,hx]
end Go.Proofs.YtkiohdpapinecaaGreat.Abs
set_option linter.unusedVariables false
set_option linter.unusedSimpArgs false
set_option maxRecDepth 20000
set_option maxHeartbeats 4000000
namespace Go.Proofs.YtkiohdpapinecaaGreat.Abs
open Go.Proofs
theorem rulesOf_len {p:Proj} (h:projOk p=true):(rulesOf p).length≤1000:=by
 obtain⟨ha,hr,hs,hl⟩:=proj_small h
 have key:∀{α:Type} (n c:Nat) (f:Nat→List α),(∀k,(f k).length≤c)→((List.range n).flatMap f).length≤n*c:=by
  intro α n c f hf
  induction n with
  | zero=>simp
  | succ n ih=>
   rw [List.range_succ,List.flatMap_append,List.length_append,Nat.succ_mul]
   have:=hf n
   simp only [List.flatMap_cons,List.flatMap_nil,List.append_nil]
   omega
 have h1:=key p.ress.length 61 timesOf fun k=>by simp [timesOf]
 have h2:=key p.ress.length 36 (fun r=>(List.range p.acts.length).flatMap (pairsOf p r)) fun r=>by
  have:=key p.acts.length 6 (pairsOf p r) fun b=>by unfold pairsOf;split <;> simp;omega
  have h6:p.acts.length*6≤36:=by omega
  omega
 simp only [rulesOf,List.length_append,List.length_map,List.length_range]
 omega
theorem filterR_step {P:Rul→Bool} {l o:List Rul} {k:Nat} {x:Rul} (hi:o++(l.drop k).filter P=l.filter P) (hx:l[k]? =some x):
  (P x=true→(o++[x])++(l.drop (k+1)).filter P=l.filter P)∧(P x=false→o++(l.drop (k+1)).filter P=l.filter P):=by
 rw [drop_get hx,List.filter_cons] at hi
 exact⟨fun h=>by rw [← hi,if_pos h];simp,fun h=>by rw [← hi,if_neg (by simp [h])]⟩
theorem impl_ViolatedRules (p:Proj) (s:Sched) (hp:p.fine):Con 152 [.d p.av,.d s.av] (.d (.sl ((brokenRules p s).map Rul.av))):=by
 refine con Tryz.func152 rfl rfl Tryz.call152 rfl fun hwf=>?_
 simp only [ARs.wf,AR.wf,AV.wf,AV.wfs,List.length_map,lim] at hwf
 cases hf:schedForm p s with
 | false=>
  (repeat' ((conv=>whnf);first | refine gA ?_ | ((with_reducible first | refine gD (fun h=>?_) (fun h=>?_) | refine gE (fun h=>?_) (fun h=>?_)) <;> (try simp only [lm] at h) <;> try have hw:=wn h) | with_reducible refine gI (fun x hx=>?_) | with_reducible refine gJ (fun j x hj hx=>?_) | refine gP ?_ | refine gV ?_ | refine gC (impl_ScheduleForm p s hp) ?_ | intro _)) <;> (try (conv=>whnf))
  refine⟨?_,rfl,trivial⟩
  rw [brokenRules,if_neg (by simp [hf])];rfl
 | true=>
  have hok:=(schedForm_parts hf).1
  have hlen:=rulesOf_len hok
  rw [brokenRules,if_pos hf]
  (repeat' ((conv=>whnf);first | refine gA ?_ | ((with_reducible first | refine gD (fun h=>?_) (fun h=>?_) | refine gE (fun h=>?_) (fun h=>?_)) <;> (try simp only [lm] at h) <;> try have hw:=wn h) | with_reducible refine gI (fun x hx=>?_) | with_reducible refine gJ (fun j x hj hx=>?_) | refine gP ?_ | refine gV ?_ | refine gC (impl_ScheduleForm p s hp) ?_ | refine gC (impl_rules p hok) ?_ | intro _)) <;> (try (conv=>whnf))
  refine loopF [2,3,14,15] [2,3] [12] ?_
  (conv=>whnf)
  refine LoopC.go ((Nat)×(List Rul)) (fun⟨k,o⟩=>(k≤(rulesOf p).length)∧(o.length≤k)∧(o++((rulesOf p).drop k).filter (breaks p s)=(rulesOf p).filter (breaks p s))) (fun⟨k,o⟩=>[(16,.data (i64 k)),(5,.own 12 0)]) (fun _=>[]) (fun⟨k,o⟩=>[(12,126,o.map Rul.av,0)]) (fun⟨k,o⟩=>(rulesOf p).length - k) ⟨0,[]⟩ ?_ ?_
  ·exact⟨by omega,by simp,rfl⟩
  rintro⟨k,o⟩ ⟨hk,ho,hi⟩
  by_cases hlt:k < (rulesOf p).length
  ·obtain⟨x,hx⟩:∃x,(rulesOf p)[k]? =some x:=⟨(rulesOf p)[k]'hlt,by simp⟩
   (repeat' ((conv=>whnf);first | with_reducible refine Idx.got hx rfl ?_ | (exfalso;omega) | refine gA ?_ | ((with_reducible first | refine gD (fun h=>?_) (fun h=>?_) | refine gE (fun h=>?_) (fun h=>?_)) <;> (try simp only [lm] at h) <;> try have hw:=wn h) | with_reducible refine gI (fun x hx=>?_) | with_reducible refine gJ (fun j x hj hx=>?_) | refine gP ?_ | refine gV ?_ | refine gC (impl_satisfies p s x hp hf (rulesOf_mem (List.mem_of_getElem? hx))) ?_ | intro _)) <;> (try (conv=>whnf))
   ·refine nw ⟨k+1,o++[x]⟩ ?_ ?_
    ·(repeat' ((conv=>whnf) <;> (first | exact trivial | exact rfl | with_reducible refine And.intro ?_ ?_))) <;> ((conv=>whnf) <;> (simp))
    exact⟨by omega,by simp;omega,(filterR_step hi hx).1 h⟩
   ·refine nx ⟨k+1,o⟩ ?_
    exact⟨by omega,by omega,(filterR_step hi hx).2 h⟩
  ·(repeat' ((conv=>whnf);first | (exfalso;omega) | refine gA ?_ | ((with_reducible first | refine gD (fun h=>?_) (fun h=>?_) | refine gE (fun h=>?_) (fun h=>?_)) <;> (try simp only [lm] at h) <;> try have hw:=wn h) | with_reducible refine gI (fun x hx=>?_) | with_reducible refine gJ (fun j x hj hx=>?_) | refine gP ?_ | refine gV ?_ | intro _)) <;> (try (conv=>whnf))
   refine⟨?_,rfl,trivial⟩
   rw [← hi,drop_end hlt];simp
theorem impl_ScheduleOk (p:Proj) (s:Sched) (hp:p.fine):Con 84 [.d p.av,.d s.av] (.d (.bool (schedOk p s))):=by
 refine con Tryz.func84 rfl rfl Tryz.call84 rfl fun hwf=>?_
 (repeat' ((conv=>whnf);first | refine gA ?_ | ((with_reducible first | refine gD (fun h=>?_) (fun h=>?_) | refine gE (fun h=>?_) (fun h=>?_)) <;> (try simp only [lm] at h) <;> try have hw:=wn h) | refine gC (impl_ScheduleForm p s hp) ?_ | refine gC (impl_ViolatedRules p s hp) ?_ | intro _)) <;> (try (conv=>whnf))
 all_goals (refine⟨?_,rfl,trivial⟩;simp [schedOk, *])
theorem spec_ViolatedRules (p:Proj) (s:Sched) (hp:p.fine):Con 147 [.d p.av,.d s.av] (.d (.sl ((brokenRules p s).map Rul.av))):=by
 refine con Tryz.func147 rfl rfl Tryz.call147 rfl fun hwf=>?_
 simp only [ARs.wf,AR.wf,AV.wf,AV.wfs,List.length_map,lim] at hwf
 cases hf:schedForm p s with
 | false=>
  (repeat' ((conv=>whnf);first | refine gA ?_ | ((with_reducible first | refine gD (fun h=>?_) (fun h=>?_) | refine gE (fun h=>?_) (fun h=>?_)) <;> (try simp only [lm] at h) <;> try have hw:=wn h) | with_reducible refine gI (fun x hx=>?_) | with_reducible refine gJ (fun j x hj hx=>?_) | refine gP ?_ | refine gV ?_ | refine gC (spec_ScheduleForm p s hp) ?_ | intro _)) <;> (try (conv=>whnf))
  refine⟨?_,rfl,trivial⟩
  rw [brokenRules,if_neg (by simp [hf])];rfl
 | true=>
  have hok:=(schedForm_parts hf).1
  have hlen:=rulesOf_len hok
  rw [brokenRules,if_pos hf]
  (repeat' ((conv=>whnf);first | refine gA ?_ | ((with_reducible first | refine gD (fun h=>?_) (fun h=>?_) | refine gE (fun h=>?_) (fun h=>?_)) <;> (try simp only [lm] at h) <;> try have hw:=wn h) | with_reducible refine gI (fun x hx=>?_) | with_reducible refine gJ (fun j x hj hx=>?_) | refine gP ?_ | refine gV ?_ | refine gC (spec_ScheduleForm p s hp) ?_ | refine gC (spec_rules p hok) ?_ | intro _)) <;> (try (conv=>whnf))
  refine loopF [2,3,14,15] [2,3] [8] ?_
  (conv=>whnf)
  refine LoopC.go ((Nat)×(List Rul)) (fun⟨k,o⟩=>(k≤(rulesOf p).length)∧(o.length≤k)∧(o++((rulesOf p).drop k).filter (breaks p s)=(rulesOf p).filter (breaks p s))) (fun⟨k,o⟩=>[(16,.data (i64 k)),(5,.own 8 0)]) (fun _=>[]) (fun⟨k,o⟩=>[(8,126,o.map Rul.av,0)]) (fun⟨k,o⟩=>(rulesOf p).length - k) ⟨0,[]⟩ ?_ ?_
  ·exact⟨by omega,by simp,rfl⟩
  rintro⟨k,o⟩ ⟨hk,ho,hi⟩
  by_cases hlt:k < (rulesOf p).length
  ·obtain⟨x,hx⟩:∃x,(rulesOf p)[k]? =some x:=⟨(rulesOf p)[k]'hlt,by simp⟩
   (repeat' ((conv=>whnf);first | with_reducible refine Idx.got hx rfl ?_ | (exfalso;omega) | refine gA ?_ | ((with_reducible first | refine gD (fun h=>?_) (fun h=>?_) | refine gE (fun h=>?_) (fun h=>?_)) <;> (try simp only [lm] at h) <;> try have hw:=wn h) | with_reducible refine gI (fun x hx=>?_) | with_reducible refine gJ (fun j x hj hx=>?_) | refine gP ?_ | refine gV ?_ | refine gC (spec_l10Fails p s x hp hf (rulesOf_mem (List.mem_of_getElem? hx))) ?_ | intro _)) <;> (try (conv=>whnf))
   ·refine nw ⟨k+1,o++[x]⟩ ?_ ?_
    ·(repeat' ((conv=>whnf) <;> (first | exact trivial | exact rfl | with_reducible refine And.intro ?_ ?_))) <;> ((conv=>whnf) <;> (simp))
    exact⟨by omega,by simp;omega,(filterR_step hi hx).1 h⟩
   ·refine nx ⟨k+1,o⟩ ?_
    exact⟨by omega,by omega,(filterR_step hi hx).2 h⟩
  ·(repeat' ((conv=>whnf);first | (exfalso;omega) | refine gA ?_ | ((with_reducible first | refine gD (fun h=>?_) (fun h=>?_) | refine gE (fun h=>?_) (fun h=>?_)) <;> (try simp only [lm] at h) <;> try have hw:=wn h) | with_reducible refine gI (fun x hx=>?_) | with_reducible refine gJ (fun j x hj hx=>?_) | refine gP ?_ | refine gV ?_ | intro _)) <;> (try (conv=>whnf))
   refine⟨?_,rfl,trivial⟩
   rw [← hi,drop_end hlt];simp
theorem spec_ScheduleOk (p:Proj) (s:Sched) (hp:p.fine):Con 76 [.d p.av,.d s.av] (.d (.bool (schedOk p s))):=by
 refine con Tryz.func76 rfl rfl Tryz.call76 rfl fun hwf=>?_
 (repeat' ((conv=>whnf);first | refine gA ?_ | ((with_reducible first | refine gD (fun h=>?_) (fun h=>?_) | refine gE (fun h=>?_) (fun h=>?_)) <;> (try simp only [lm] at h) <;> try have hw:=wn h) | refine gC (spec_ScheduleForm p s hp) ?_ | refine gC (spec_ViolatedRules p s hp) ?_ | intro _)) <;> (try (conv=>whnf))
 all_goals (refine⟨?_,rfl,trivial⟩;simp [schedOk, *])
theorem makespan_bound (p:Proj) (s:Sched): -1≤makespan p s∧makespan p s≤100:=by
 unfold makespan
 split
 ·rename_i hf
  have:=maxTo_bound (f:=endOf p s) (c:=100) (n:=p.acts.length) (fun k hk=>by
   obtain⟨a,t,m,q,mo,g⟩:=s_get hf hk
   have:=endOf_eq g;have:=s_dur g;have:=g.tb;omega) (by omega)
  omega
 ·omega
def agrees (a b:Res):Bool:=
 if a.status=2 then decide (b.status=2)||decide (b.status=4)
 else if a.status=1∧b.status=1 then decide (a.span=b.span)
 else if a.status=1∧b.status=3 then decide (a.span≤b.span)
 else true
def agree (p:Proj) (a b:Res):Bool:=resultOk 1 2 3 4 p a&&resultOk 1 2 3 4 p b&&agrees a b&&agrees b a
end Go.Proofs.YtkiohdpapinecaaGreat.Abs
