/- Contracts: plans, as the program builds them. No statement of a claim. -/
import Derived.Test.YtkiohdpapinecaaGreatC22
import Derived.Test.YtkiohdpapinecaaGreatC27
import Derived.Test.YtkiohdpapinecaaGreatLayC
set_option linter.all false
set_option linter.unusedVariables false
set_option linter.unusedSimpArgs false
set_option maxRecDepth 20000
set_option maxHeartbeats 8000000
namespace Go.Proofs.YtkiohdpapinecaaGreat.Abs
open Go.Proofs Go.RowKit
structure Pln where
 sched:Sched
 done:List Int
abbrev Pln.av (x:Pln):AV:=.agg [ints x.sched.starts,ints x.sched.modes,ints x.done]
def RPlnL (x:Pln):RV:=.agg [.lin 3 (x.sched.starts.map i64),.lin 3 (x.sched.modes.map i64),.lin 3 (x.done.map i64)]
def zeroPln (n:Nat):Pln:=⟨⟨List.replicate n 0,List.replicate n 0⟩,[]⟩
def noPln:Pln:=⟨⟨[],[]⟩,[]⟩
def newPln (p:Proj):Pln:=if projOk p=true then zeroPln p.acts.length else noPln
def plnOk (p:Proj) (x:Pln):Bool:=schedForm p x.sched&&(setOk x.done&&subset x.done (intRange p.acts.length))
def putPln (x:Pln) (k:Nat) (m t:Int):Pln:=⟨⟨x.sched.starts.set k t,x.sched.modes.set k m⟩,setOf (x.done++[(k:Int)])⟩
def linkBad (p:Proj) (x:Pln) (k:Nat) (y:Link):Bool:=(decide (y.src=k)||decide (y.dst=k))&&(x.done.contains y.src&&(x.done.contains y.dst&&linkBreaks p x.sched y))
def linkBadAt (p:Proj) (x:Pln) (k i:Nat):Bool:=match p.links[i]? with | some y=>linkBad p x k y | none=>false
def doneUse (p:Proj) (x:Pln) (r t o:Int):Int:=if runP p x.sched t o=true then useOf p x.sched r o else 0
def loadOf (p:Proj) (x:Pln) (r t:Int):Int:=sumOver (doneUse p x r t) x.done 0
def capFull (l:List Step) (t:Int):Int:=if stepsOk l=true∧isTime t=true then capAt t l 0 else 0
def timeBad (p:Proj) (x:Pln) (r t:Int):Bool:=decide (loadOf p x r t > capFull (resOf p r).steps t)
def timesBad (p:Proj) (x:Pln) (k:Nat) (r:Int):Bool:=(List.range (modeOf p x.sched k).dur.toNat).any fun j=>timeBad p x r (x.sched.starts.getD k 0+j)
def pairBad (p:Proj) (x:Pln) (k:Nat) (r o:Int):Bool:=isMach p r&&(!decide (o=k)&&pairFails p x.sched r k o)
def pairBadAt (p:Proj) (x:Pln) (k:Nat) (r:Int) (i:Nat):Bool:=match x.done[i]? with | some o=>pairBad p x k r o | none=>false
def roomBad (p:Proj) (x:Pln) (k r:Nat):Bool:=timesBad p x k r||(List.range x.done.length).any (pairBadAt p x k r)
def useCon (p:Proj) (s:Sched) (r:Int) (o:Int):Int:=(modeOf p s o.toNat).con.getD r.toNat 0
def stockBad (p:Proj) (x:Pln) (r:Nat):Bool:=decide (sumOver (useCon p x.sched r) x.done 0 > p.stocks.getD r 0)
def linksGood (p:Proj) (x:Pln) (k:Nat):Bool:= !(List.range p.links.length).any (linkBadAt p x k)
def roomGood (p:Proj) (x:Pln) (k:Nat):Bool:= !(List.range p.ress.length).any (roomBad p x k)
def stocksGood (p:Proj) (x:Pln):Bool:= !(List.range p.stocks.length).any (stockBad p x)
def plnHolds (p:Proj) (x:Pln) (k:Nat):Bool:=linksGood p x k&&(roomGood p x k&&stocksGood p x)
def durAt (p:Proj) (a m:Int):Int:=((actOf p a.toNat).modes.getD m.toNat ⟨0,[],[]⟩).dur
def plnFits (p:Proj) (x:Pln) (a m t:Int):Bool:=
 plnOk p x&&(hasAct p a&&(!x.done.contains a&&(within m 0 ((actOf p a.toNat).modes.length - 1)&&(isTime t&&(decide (t+durAt p a m≤p.dead)&&plnHolds p (putPln x a.toNat m t) a.toNat)))))
theorem few_sorted {n:Int}:∀(l:List Int) (lo:Int),l.Pairwise (· < ·)→(∀x∈l,lo≤x∧x < n)→l.length≤(n - lo).toNat
 | [],_,_,_=>Nat.zero_le _
 | x::l,lo,h,hb=>by
  rw [List.pairwise_cons] at h
  have hx:=hb x (by simp)
  have:=few_sorted (n:=n) l (x+1) h.2 fun y hy=>⟨by have:=h.1 y hy;omega,(hb y (by simp [hy])).2⟩
  rw [List.length_cons];omega
theorem plnOk_parts {p:Proj} {x:Pln} (h:plnOk p x=true):schedForm p x.sched=true∧setOk x.done=true∧(∀o∈x.done,∃n:Nat,o=n∧n < p.acts.length)∧x.done.length≤p.acts.length:=by
 simp only [plnOk,Bool.and_eq_true] at h
 have hna:=(projForm (schedForm_parts h.1).1).nact
 have hm:∀o∈x.done,∃n:Nat,o=n∧n < p.acts.length:=fun o ho=>by
  have:=List.all_eq_true.1 h.2.2 o ho
  exact intRange_mem (by simpa using this)
 refine⟨h.1,h.2.1,hm,?_⟩
 have:=few_sorted (n:=p.acts.length) x.done 0 (setOk_pw h.2.1) fun o ho=>by obtain⟨n,rfl,hn⟩:=hm o ho;omega
 omega
theorem schedForm_put {p:Proj} {s:Sched} (h:schedForm p s=true) {k:Nat} {a:Activ} (hk:p.acts[k]? =some a) {m t:Int} (hm:within m 0 (a.modes.length - 1)=true) (ht:isTime t=true):schedForm p ⟨s.starts.set k t,s.modes.set k m⟩=true:=by
 have hp:=schedForm_parts h
 obtain⟨h1,h2,h3,h4⟩:=hp
 simp only [schedForm,List.length_set,h1,h2,h3,Bool.and_eq_true,true_and]
 refine⟨⟨by simp,by simp⟩,allN_iff.2 fun i hi=>?_⟩
 have:=h4 i hi
 by_cases e:k=i
 ·subst e
  have l1:k < s.starts.length:=by omega
  have l2:k < s.modes.length:=by omega
  simp [schedAt,l1,l2,hk,hm,ht]
 ·unfold schedAt at this ⊢
  simp only [List.getElem?_set_ne e]
  exact this
theorem put_done {p:Proj} {x:Pln} (h:∀o∈x.done,∃n:Nat,o=n∧n < p.acts.length) {k:Nat} (hk:k < p.acts.length) {m t:Int}:(∀o∈(putPln x k m t).done,∃n:Nat,o=n∧n < p.acts.length)∧(putPln x k m t).done.length≤p.acts.length:=by
 have hm:∀o∈(putPln x k m t).done,∃n:Nat,o=n∧n < p.acts.length:=fun o ho=>by
  have:=setOf_mem.1 ho
  rcases List.mem_append.1 this with h' | h'
  ·exact h o h'
  ·exact⟨k,List.mem_singleton.1 h',hk⟩
 refine⟨hm,?_⟩
 have:=few_sorted (n:=p.acts.length) (putPln x k m t).done 0 (setOf_pw _) fun o ho=>by obtain⟨n,rfl,hn⟩:=hm o ho;omega
 omega
theorem plnInt_lin (l:List Int):Con 153 [.d (ints l)] (.lin 3 (l.map i64)):=(slices_Clone_int l).own_lin rfl
theorem impl_SetAdd_lin (l:List Int) (n:Int) (hl:l.length < lim):Con 131 [.d (ints l),.d (i64 n)] (.lin 3 ((setOf (l++[n])).map i64)):=by
 refine con Tryz.func131 rfl rfl Tryz.call131 rfl fun hwf=>?_
 unfold lim at hl
 have e:(l++[n]).map i64=l.map i64++[i64 n]:=by simp
 have hS:=(impl_SetOf (l++[n])).own_lin rfl
 rw [ints,e] at hS
 (repeat' ((conv=>whnf);first | refine gA ?_ | ((with_reducible first | refine gD (fun h=>?_) (fun h=>?_) | refine gE (fun h=>?_) (fun h=>?_)) <;> (try simp only [lm] at h) <;> try have hw:=wn h) | refine gP ?_ | refine gC (slices_Clone_int l) ?_ | refine gC (hS) ?_ | intro _)) <;> (try (conv=>whnf))
 all_goals exact⟨rfl,rfl,trivial⟩
theorem impl_NewPlan (p:Proj) (hp:p.fine):Con 55 [.d p.av] (RPlnL (newPln p)):=by
 refine con Tryz.func55 rfl rfl Tryz.call55 rfl fun hwf=>?_
 simp only [ARs.wf,AR.wf,AV.wf,AV.wfs,List.length_map,lim] at hwf
 cases ho:projOk p with
 | false=>
  rw [newPln,if_neg (by simp [ho])]
  (repeat' ((conv=>whnf);first | refine gA ?_ | ((with_reducible first | refine gD (fun h=>?_) (fun h=>?_) | refine gE (fun h=>?_) (fun h=>?_)) <;> (try simp only [lm] at h) <;> try have hw:=wn h) | refine gP ?_ | refine gV ?_ | refine gC (impl_ProjectOk p hp) ?_ | intro _)) <;> (try (conv=>whnf))
  (repeat' ((conv=>whnf) <;> (first | exact trivial | exact VC.nod (by kernel_rfl) | refine VC.mk rfl ?_)))
 | true=>
  rw [newPln,if_pos ho]
  (repeat' ((conv=>whnf);first | refine gA ?_ | ((with_reducible first | refine gD (fun h=>?_) (fun h=>?_) | refine gE (fun h=>?_) (fun h=>?_)) <;> (try simp only [lm] at h) <;> try have hw:=wn h) | refine gP ?_ | refine gV ?_ | refine gC (impl_ProjectOk p hp) ?_ | intro _)) <;> (try (conv=>whnf))
  refine loopF [2,3,11] [2] [900001,900002] ?_
  (conv=>whnf)
  refine LoopC.go ((Nat)) (fun k=>(k≤p.acts.length)) (fun k=>[(12,.data (i64 k))]) (fun k=>[(3,[.own 900001 0,.own 900002 0,.nilsl])]) (fun k=>[(900001,3,(List.replicate k (0:Int)).map i64,1),(900002,3,(List.replicate k (0:Int)).map i64,1)]) (fun k=>p.acts.length - k) (0) ?_ ?_
  ·exact Nat.zero_le _
  rintro k hk
  by_cases hlt:k < p.acts.length
  ·(repeat' ((conv=>whnf);first | (exfalso;omega) | refine gA ?_ | ((with_reducible first | refine gD (fun h=>?_) (fun h=>?_) | refine gE (fun h=>?_) (fun h=>?_)) <;> (try simp only [lm] at h) <;> try have hw:=wn h) | refine gP ?_ | refine gV ?_ | intro _)) <;> (try (conv=>whnf))
   refine nw (k+1) ?_ ?_
   ·(repeat' ((conv=>whnf) <;> (first | exact trivial | exact rfl | with_reducible refine And.intro ?_ ?_))) <;> ((conv=>whnf) <;> (simp [List.replicate_succ']))
   exact (by omega:k+1≤p.acts.length)
  ·obtain rfl:k=p.acts.length:=by omega
   (repeat' ((conv=>whnf);first | (exfalso;omega) | refine gA ?_ | ((with_reducible first | refine gD (fun h=>?_) (fun h=>?_) | refine gE (fun h=>?_) (fun h=>?_)) <;> (try simp only [lm] at h) <;> try have hw:=wn h) | refine gP ?_ | refine gV ?_ | intro _)) <;> (try (conv=>whnf))
   (repeat' ((conv=>whnf) <;> (first | exact trivial | exact VC.nod (by kernel_rfl) | refine VC.mk rfl ?_)))
theorem impl_PlanOk (p:Proj) (x:Pln) (hp:p.fine):Con 127 [.d p.av,.d x.av] (.d (.bool (plnOk p x))):=by
 refine con Tryz.func127 rfl rfl Tryz.call127 rfl fun hwf=>?_
 have hR:=impl_IntRange (p.acts.map Activ.av).length
 rw [show intRange (((p.acts.map Activ.av).length:Nat):Int)=intRange p.acts.length by rw [List.length_map]] at hR
 (repeat' ((conv=>whnf);first | refine gA ?_ | ((with_reducible first | refine gD (fun h=>?_) (fun h=>?_) | refine gE (fun h=>?_) (fun h=>?_)) <;> (try simp only [lm] at h) <;> try have hw:=wn h) | refine gC (impl_ScheduleForm p x.sched hp) ?_ | refine gC (impl_SetOk x.done) ?_ | refine gC (hR) ?_ | refine gC (impl_SetSubset x.done _) ?_ | intro _)) <;> (try (conv=>whnf))
 all_goals (refine⟨?_,rfl,trivial⟩;simp [plnOk, *])
theorem impl_copiedPln (x:Pln):Con 130 [.d x.av] (RPlnL x):=by
 refine con Tryz.func130 rfl rfl Tryz.call130 rfl fun hwf=>?_
 (repeat' ((conv=>whnf);first | refine gA ?_ | ((with_reducible first | refine gD (fun h=>?_) (fun h=>?_) | refine gE (fun h=>?_) (fun h=>?_)) <;> (try simp only [lm] at h) <;> try have hw:=wn h) | refine gC (plnInt_lin _) ?_ | intro _)) <;> (try (conv=>whnf))
 (repeat' ((conv=>whnf) <;> (first | exact trivial | exact VC.nod (by kernel_rfl) | refine VC.mk rfl ?_)))
theorem impl_with (x:Pln) (k:Nat) (m t:Int) (h1:k < x.sched.starts.length) (h2:k < x.sched.modes.length) (hl:x.done.length < lim):Con 60 [.d x.av,.d (i64 k),.d (i64 m),.d (i64 t)] (RPlnL (putPln x k m t)):=by
 refine con Tryz.func60 rfl rfl Tryz.call60 rfl fun hwf=>?_
 obtain⟨s,hs⟩:∃s,x.sched.starts[k]? =some s:=⟨x.sched.starts[k]'h1,by simp⟩
 obtain⟨o,ho⟩:∃s,x.sched.modes[k]? =some s:=⟨x.sched.modes[k]'h2,by simp⟩
 (repeat' ((conv=>whnf);first | with_reducible refine Idx.got hs rfl ?_ | with_reducible refine Idx.got ho rfl ?_ | refine gA ?_ | ((with_reducible first | refine gD (fun h=>?_) (fun h=>?_) | refine gE (fun h=>?_) (fun h=>?_)) <;> (try simp only [lm] at h) <;> try have hw:=wn h) | with_reducible refine gI (fun x hx=>?_) | with_reducible refine gJ (fun j x hj hx=>?_) | refine gC (impl_copiedPln x) ?_ | refine gC (impl_SetAdd_lin x.done k hl) ?_ | intro _)) <;> (try (conv=>whnf))
 (repeat' ((conv=>whnf) <;> (first | exact trivial | exact VC.nod (by kernel_rfl) | refine VC.mk rfl ?_ | refine VC.mk (by (simp [putPln,List.map_set,setPart])) ?_)))
theorem impl_CapacityAt (l:List Step) (t:Int):Con 209 [.d (.sl (l.map Step.av)),.d (i64 t)] (.d (i64 (capFull l t))):=by
 refine con Tryz.func209 rfl rfl Tryz.call209 rfl fun hwf=>?_
 (repeat' ((conv=>whnf);first | refine gA ?_ | ((with_reducible first | refine gD (fun h=>?_) (fun h=>?_) | refine gE (fun h=>?_) (fun h=>?_)) <;> (try simp only [lm] at h) <;> try have hw:=wn h) | refine gC (impl_StepsOk l) ?_ | refine gC (impl_isTime t) ?_ | refine gC (impl_capacityAt l t) ?_ | intro _)) <;> (try (conv=>whnf))
 all_goals (refine⟨?_,rfl,trivial⟩;simp [capFull, *])
theorem impl_holds (p:Proj) (x:Pln) (k:Nat) (hp:p.fine) (hf:schedForm p x.sched=true) (hk:k < p.acts.length) (hd:∀o∈x.done,∃n:Nat,o=n∧n < p.acts.length) (hl:x.done.length≤p.acts.length):
  Con 129 [.d x.av,.d p.av,.d (i64 k)] (.d (.bool (plnHolds p x k))):=by
 refine con Tryz.func129 rfl rfl Tryz.call129 rfl fun hwf=>?_
 have hok:=(schedForm_parts hf).1
 have hna:=(projForm hok).nact
 obtain⟨_,hrl,hsl,_⟩:=proj_small hok
 obtain⟨a,t0,m,q,mo,g⟩:=s_get hf hk
 have he:=endOf_eq g
 have hdu:=s_dur g
 have htb:=g.tb
 have hst:x.sched.starts.getD k 0=t0:=by simp [List.getD_eq_getElem?_getD,g.start]
 have hdd:(modeOf p x.sched k).dur=mo.dur:=by rw [modeOf_eq g]
 generalize hQQ:plnHolds p x k=R
 (repeat' ((conv=>whnf);first | refine gA ?_ | ((with_reducible first | refine gD (fun h=>?_) (fun h=>?_) | refine gE (fun h=>?_) (fun h=>?_)) <;> (try simp only [lm] at h) <;> try have hw:=wn h) | with_reducible refine gI (fun x hx=>?_) | with_reducible refine gJ (fun j x hj hx=>?_) | refine gV ?_ | intro _)) <;> (try (conv=>whnf))
 refine loopF [2,3,4,7,26,27] [3,4,7] [] ?_
 (conv=>whnf)
 refine LoopC.go ((Nat)) (fun j=>(j≤p.links.length)∧(∀i,i < j→linkBadAt p x k i=false)) (fun j=>[(28,.data (i64 j))]) (fun _=>[]) (fun _=>[]) (fun j=>p.links.length - j) (0) ?_ ?_
 ·exact⟨Nat.zero_le _,fun i h=>absurd h (by omega)⟩
 rintro j ⟨hj,hi⟩
 by_cases hlt:j < p.links.length
 ·obtain⟨y,hy⟩:∃y,p.links[j]? =some y:=⟨p.links[j]'hlt,by simp⟩
  have hlo:=(projForm hok).link j y hy
  have e:linkBadAt p x k j=linkBad p x k y:=by rw [linkBadAt,hy]
  cases hb:linkBad p x k y with
  | true=>
   have hr:R=false:=by rw [← hQQ,plnHolds,linksGood,anyN_yes j hlt (by rw [e,hb])];rfl
   subst hr
   simp only [linkBad,Bool.and_eq_true,Bool.or_eq_true,decide_eq_true_eq] at hb
   obtain⟨b1,b2,b3,b4⟩:=hb
   (repeat' ((conv=>whnf);first | with_reducible refine Idx.got hy rfl ?_ | refine gA ?_ | ((with_reducible first | refine gD (fun h=>?_) (fun h=>?_) | refine gE (fun h=>?_) (fun h=>?_)) <;> (try simp only [lm] at h) <;> try have hw:=wn h) | with_reducible refine gI (fun x hx=>?_) | with_reducible refine gJ (fun j x hj hx=>?_) | refine gV ?_ | refine gC (impl_SetHas x.done y.src) ?_ | refine gC (impl_SetHas x.done y.dst) ?_ | refine gC (impl_linkHolds p x.sched y hf hlo) ?_ | intro _)) <;> (try (conv=>whnf))
   all_goals first
    | (exfalso;omega)
    | exact⟨rfl,rfl,trivial⟩
    | (exfalso;simp_all;done)
  | false=>
   have hn:=noN_step hi (by rw [e,hb])
   simp only [linkBad] at hb
   (repeat' ((conv=>whnf);first | with_reducible refine Idx.got hy rfl ?_ | refine gA ?_ | ((with_reducible first | refine gD (fun h=>?_) (fun h=>?_) | refine gE (fun h=>?_) (fun h=>?_)) <;> (try simp only [lm] at h) <;> try have hw:=wn h) | with_reducible refine gI (fun x hx=>?_) | with_reducible refine gJ (fun j x hj hx=>?_) | refine gV ?_ | refine gC (impl_SetHas x.done y.src) ?_ | refine gC (impl_SetHas x.done y.dst) ?_ | refine gC (impl_linkHolds p x.sched y hf hlo) ?_ | intro _)) <;> (try (conv=>whnf))
   all_goals first
    | (exfalso;omega)
    | (exfalso;simp_all;done)
    | (refine nx (j+1) ?_
       exact⟨by omega,hn⟩)
 have hL:linksGood p x k=true:=by rw [linksGood,anyN_no.2 fun i hh=>hi i (by omega)];rfl
 clear hi
 (repeat' ((conv=>whnf);first | (exfalso;omega) | refine gA ?_ | ((with_reducible first | refine gD (fun h=>?_) (fun h=>?_) | refine gE (fun h=>?_) (fun h=>?_)) <;> (try simp only [lm] at h) <;> try have hw:=wn h) | with_reducible refine gI (fun x hx=>?_) | with_reducible refine gJ (fun j x hj hx=>?_) | refine gV ?_ | intro _)) <;> (try (conv=>whnf))
 refine loopF [2,3,4,7,65,66] [3,4,7] [] ?_
 (conv=>whnf)
 refine LoopC.go ((Nat)) (fun r=>(r≤p.ress.length)∧(∀i,i < r→roomBad p x k i=false)) (fun r=>[(67,.data (i64 r))]) (fun _=>[]) (fun _=>[]) (fun r=>p.ress.length - r) (0) ?_ ?_
 ·exact⟨Nat.zero_le _,fun i h=>absurd h (by omega)⟩
 rintro r ⟨hr,hR⟩
 by_cases hlr:r < p.ress.length
 ·obtain⟨re,hre⟩:∃y,p.ress[r]? =some y:=⟨p.ress[r]'hlr,by simp⟩
  have hres:=hasRes_nat hlr
  have ere:resOf p r=re:=by simp [resOf,List.getD_eq_getElem?_getD,hre]
  (repeat' ((conv=>whnf);first | with_reducible refine Idx.got hre rfl ?_ | with_reducible refine Idx.got g.start rfl ?_ | (exfalso;omega) | refine gA ?_ | ((with_reducible first | refine gD (fun h=>?_) (fun h=>?_) | refine gE (fun h=>?_) (fun h=>?_)) <;> (try simp only [lm] at h) <;> try have hw:=wn h) | with_reducible refine gI (fun x hx=>?_) | with_reducible refine gJ (fun j x hj hx=>?_) | refine gV ?_ | intro _)) <;> (try (conv=>whnf))
  refine loopF [2,3,4,7,10,11,65,66,67] [3,4,7,11] [] ?_
  (conv=>whnf)
  refine LoopC.go ((Nat)×(Int)) (fun⟨j,t⟩=>(t=t0+j)∧((j:Int)≤mo.dur)∧(∀i:Nat,i < j→timeBad p x r (t0+i)=false)) (fun⟨j,t⟩=>[(12,.data (i64 t))]) (fun _=>[]) (fun _=>[]) (fun⟨j,t⟩=>mo.dur.toNat - j) ⟨0,t0⟩ ?_ ?_
  ·exact⟨by omega,by omega,fun i h=>absurd h (by omega)⟩
  rintro⟨j,t⟩ ⟨ht,hj,hT⟩
  by_cases hjt:(j:Int) < mo.dur
  ·(repeat' ((conv=>whnf);first | with_reducible refine Br.yes (decide_eq_true (by omega)) ?_ | refine gA ?_ | ((with_reducible first | refine gD (fun h=>?_) (fun h=>?_) | refine gE (fun h=>?_) (fun h=>?_)) <;> (try simp only [lm] at h) <;> try have hw:=wn h) | with_reducible refine gI (fun x hx=>?_) | with_reducible refine gJ (fun j x hj hx=>?_) | refine gV ?_ | refine gC (impl_end p x.sched _ g rfl) ?_ | intro _)) <;> (try (conv=>whnf))
   refine loopF [2,3,4,7,10,11,12,65,66,67,86,87] [3,4,7,11] [] ?_
   (conv=>whnf)
   refine LoopC.go ((Nat)×(Int)) (fun⟨i,n⟩=>(i≤x.done.length)∧(0≤n∧n≤20*i)∧(sumOver (doneUse p x r t) (x.done.drop i) n=loadOf p x r t)) (fun⟨i,n⟩=>[(88,.data (i64 i)),(13,.data (i64 n))]) (fun _=>[]) (fun _=>[]) (fun⟨i,n⟩=>x.done.length - i) ⟨0,0⟩ ?_ ?_
   ·exact⟨Nat.zero_le _,by omega,rfl⟩
   rintro⟨i,n⟩ ⟨hi3,hn,hs⟩
   by_cases h3:i < x.done.length
   ·obtain⟨o,ho⟩:∃y,x.done[i]? =some y:=⟨x.done[i]'h3,by simp⟩
    obtain⟨ko,rfl,hko⟩:=hd o (List.mem_of_getElem? ho)
    obtain⟨a',t',m',q',mo',g'⟩:=s_get hf hko
    obtain⟨ρ,u,e1,e2,e3,e4⟩:=useIn_eq g' hres t
    rw [drop_get ho,sumOver] at hs
    have eu:useOf p x.sched r ko=u:=by simp [useOf,modeOf_eq g',List.getD_eq_getElem?_getD,e1,e2]
    by_cases hrun:runP p x.sched t ko=true
    ·rw [doneUse,if_pos hrun,eu] at hs
     have hrr:=hrun
     rw [runP,Int.toNat_natCast,runs_eq g',Bool.and_eq_true,decide_eq_true_eq,decide_eq_true_eq] at hrr
     (repeat' ((conv=>whnf);first | with_reducible refine Idx.got ho rfl ?_ | with_reducible refine Idx.got g'.start rfl ?_ | with_reducible refine Idx.got e2 e1 ?_ | refine gA ?_ | ((with_reducible first | refine gD (fun h=>?_) (fun h=>?_) | refine gE (fun h=>?_) (fun h=>?_)) <;> (try simp only [lm] at h) <;> try have hw:=wn h) | with_reducible refine gI (fun x hx=>?_) | with_reducible refine gJ (fun j x hj hx=>?_) | refine gV ?_ | refine gC (impl_end p x.sched _ g' rfl) ?_ | refine gC (impl_mode p x.sched _ g' rfl) ?_ | intro _)) <;> (try (conv=>whnf))
     all_goals first
      | (exfalso;omega)
      | (refine nx ⟨i+1,n+u⟩ ?_
         exact⟨by omega,by omega,hs⟩)
    ·rw [doneUse,if_neg hrun,Int.add_zero] at hs
     have hrr:=hrun
     rw [runP,Int.toNat_natCast,runs_eq g',Bool.and_eq_true,decide_eq_true_eq,decide_eq_true_eq] at hrr
     (repeat' ((conv=>whnf);first | with_reducible refine Idx.got ho rfl ?_ | with_reducible refine Idx.got g'.start rfl ?_ | with_reducible refine Idx.got e2 e1 ?_ | refine gA ?_ | ((with_reducible first | refine gD (fun h=>?_) (fun h=>?_) | refine gE (fun h=>?_) (fun h=>?_)) <;> (try simp only [lm] at h) <;> try have hw:=wn h) | with_reducible refine gI (fun x hx=>?_) | with_reducible refine gJ (fun j x hj hx=>?_) | refine gV ?_ | refine gC (impl_end p x.sched _ g' rfl) ?_ | refine gC (impl_mode p x.sched _ g' rfl) ?_ | intro _)) <;> (try (conv=>whnf))
     all_goals first
      | (exfalso;omega)
      | (refine nx ⟨i+1,n⟩ ?_
         exact⟨by omega,by omega,hs⟩)
   ·rw [drop_end' (by omega),sumOver] at hs
    have hbad:timeBad p x r t=decide (n > capFull re.steps t):=by rw [timeBad,ere, ← hs]
    by_cases hc:n > capFull re.steps t
    ·have hr:R=false:=by
      have:timesBad p x k r=true:=by
       rw [timesBad,hst,hdd]
       exact anyN_yes j (by omega) (by rw [← ht,hbad];exact decide_eq_true hc)
      have:roomBad p x k r=true:=by rw [roomBad,this];rfl
      rw [← hQQ,plnHolds,roomGood,anyN_yes r hlr this];simp
     subst hr
     (repeat' ((conv=>whnf);first | (exfalso;omega) | refine gA ?_ | ((with_reducible first | refine gD (fun h=>?_) (fun h=>?_) | refine gE (fun h=>?_) (fun h=>?_)) <;> (try simp only [lm] at h) <;> try have hw:=wn h) | with_reducible refine gI (fun x hx=>?_) | with_reducible refine gJ (fun j x hj hx=>?_) | refine gV ?_ | refine gC (impl_CapacityAt re.steps t) ?_ | intro _)) <;> (try (conv=>whnf))
     all_goals first
      | (exfalso;omega)
      | exact⟨rfl,rfl,trivial⟩
    ·(repeat' ((conv=>whnf);first | (exfalso;omega) | refine gA ?_ | ((with_reducible first | refine gD (fun h=>?_) (fun h=>?_) | refine gE (fun h=>?_) (fun h=>?_)) <;> (try simp only [lm] at h) <;> try have hw:=wn h) | with_reducible refine gI (fun x hx=>?_) | with_reducible refine gJ (fun j x hj hx=>?_) | refine gV ?_ | refine gC (impl_CapacityAt re.steps t) ?_ | intro _)) <;> (try (conv=>whnf))
     all_goals first
      | (exfalso;omega)
      | (refine nx ⟨j+1,t+1⟩ ?_
         refine⟨by omega,by omega,fun i' hi'=>?_⟩
         by_cases h':i' < j
         ·exact hT i' h'
         ·obtain rfl:i'=j:=by omega
          rw [← ht,hbad];exact decide_eq_false hc)
  ·have hTB:timesBad p x k r=false:=by
    rw [timesBad,hst,hdd]
    exact anyN_no.2 fun i hh=>hT i (by omega)
   clear hT
   (repeat' ((conv=>whnf);first | with_reducible refine Br.no (decide_eq_false (by omega)) ?_ | refine gA ?_ | ((with_reducible first | refine gD (fun h=>?_) (fun h=>?_) | refine gE (fun h=>?_) (fun h=>?_)) <;> (try simp only [lm] at h) <;> try have hw:=wn h) | with_reducible refine gI (fun x hx=>?_) | with_reducible refine gJ (fun j x hj hx=>?_) | refine gV ?_ | refine gC (impl_end p x.sched _ g rfl) ?_ | intro _)) <;> (try (conv=>whnf))
   refine loopF [2,3,4,7,10,65,66,67,125,126] [3,4,7] [] ?_
   (conv=>whnf)
   refine LoopC.go ((Nat)) (fun i=>(i≤x.done.length)∧(∀i',i' < i→pairBadAt p x k r i'=false)) (fun i=>[(127,.data (i64 i))]) (fun _=>[]) (fun _=>[]) (fun i=>x.done.length - i) (0) ?_ ?_
   ·exact⟨Nat.zero_le _,fun i h=>absurd h (by omega)⟩
   rintro i ⟨hi4,hP⟩
   by_cases h4:i < x.done.length
   ·obtain⟨o,ho⟩:∃y,x.done[i]? =some y:=⟨x.done[i]'h4,by simp⟩
    obtain⟨ko,rfl,hko⟩:=hd o (List.mem_of_getElem? ho)
    obtain⟨a',t',m',q',mo',g'⟩:=s_get hf hko
    have ea:pairBadAt p x k r i=pairBad p x k r ko:=by rw [pairBadAt,ho]
    cases hm:isMach p r with
    | false=>
     have hn:=noN_step hP (by rw [ea,pairBad,hm];rfl)
     (repeat' ((conv=>whnf);first | with_reducible refine Idx.got ho rfl ?_ | refine gA ?_ | ((with_reducible first | refine gD (fun h=>?_) (fun h=>?_) | refine gE (fun h=>?_) (fun h=>?_)) <;> (try simp only [lm] at h) <;> try have hw:=wn h) | with_reducible refine gI (fun x hx=>?_) | with_reducible refine gJ (fun j x hj hx=>?_) | refine gV ?_ | refine gC (impl_IsMachine p r) ?_ | intro _)) <;> (try (conv=>whnf))
     all_goals first
      | (exfalso;omega)
      | (exfalso;simp_all;done)
      | (refine nx (i+1) ?_
         exact⟨by omega,hn⟩)
    | true=>
    by_cases hoa:(ko:Int)=k
    ·have hn:=noN_step hP (by rw [ea,pairBad,hm,decide_eq_true hoa];rfl)
     (repeat' ((conv=>whnf);first | with_reducible refine Idx.got ho rfl ?_ | refine gA ?_ | ((with_reducible first | refine gD (fun h=>?_) (fun h=>?_) | refine gE (fun h=>?_) (fun h=>?_)) <;> (try simp only [lm] at h) <;> try have hw:=wn h) | with_reducible refine gI (fun x hx=>?_) | with_reducible refine gJ (fun j x hj hx=>?_) | refine gV ?_ | refine gC (impl_IsMachine p r) ?_ | intro _)) <;> (try (conv=>whnf))
     all_goals first
      | (exfalso;omega)
      | (exfalso;simp_all;done)
      | (refine nx (i+1) ?_
         exact⟨by omega,hn⟩)
    have hQ:=impl_pairHolds p x.sched (r:Int) (k:Int) (ko:Int) g rfl g' rfl hp hf hm (hasAct_nat hk) (hasAct_nat hko)
    cases hpf:pairFails p x.sched r k ko with
    | true=>
     have hr:R=false:=by
      have h1:(List.range x.done.length).any (pairBadAt p x k r)=true:=anyN_yes i h4 (by rw [ea,pairBad,hm,hpf,decide_eq_false hoa];rfl)
      have:roomBad p x k r=true:=by rw [roomBad,h1,Bool.or_true]
      rw [← hQQ,plnHolds,roomGood,anyN_yes r hlr this];simp
     subst hr
     rw [hpf] at hQ
     (repeat' ((conv=>whnf);first | with_reducible refine Idx.got ho rfl ?_ | refine gA ?_ | ((with_reducible first | refine gD (fun h=>?_) (fun h=>?_) | refine gE (fun h=>?_) (fun h=>?_)) <;> (try simp only [lm] at h) <;> try have hw:=wn h) | with_reducible refine gI (fun x hx=>?_) | with_reducible refine gJ (fun j x hj hx=>?_) | refine gV ?_ | refine gC (impl_IsMachine p r) ?_ | refine gC (hQ) ?_ | intro _)) <;> (try (conv=>whnf))
     all_goals first
      | (exfalso;omega)
      | exact⟨rfl,rfl,trivial⟩
      | (exfalso;simp_all;done)
    | false=>
     have hn:=noN_step hP (by rw [ea,pairBad,hm,hpf,decide_eq_false hoa];rfl)
     rw [hpf] at hQ
     (repeat' ((conv=>whnf);first | with_reducible refine Idx.got ho rfl ?_ | refine gA ?_ | ((with_reducible first | refine gD (fun h=>?_) (fun h=>?_) | refine gE (fun h=>?_) (fun h=>?_)) <;> (try simp only [lm] at h) <;> try have hw:=wn h) | with_reducible refine gI (fun x hx=>?_) | with_reducible refine gJ (fun j x hj hx=>?_) | refine gV ?_ | refine gC (impl_IsMachine p r) ?_ | refine gC (hQ) ?_ | intro _)) <;> (try (conv=>whnf))
     all_goals first
      | (exfalso;omega)
      | (exfalso;simp_all;done)
      | (refine nx (i+1) ?_
         exact⟨by omega,hn⟩)
   ·have hn:=noN_step hR (by rw [roomBad,hTB,anyN_no.2 fun i' hh=>hP i' (by omega)];rfl)
    (repeat' ((conv=>whnf);first | (exfalso;omega) | refine gA ?_ | ((with_reducible first | refine gD (fun h=>?_) (fun h=>?_) | refine gE (fun h=>?_) (fun h=>?_)) <;> (try simp only [lm] at h) <;> try have hw:=wn h) | with_reducible refine gI (fun x hx=>?_) | with_reducible refine gJ (fun j x hj hx=>?_) | refine gV ?_ | intro _)) <;> (try (conv=>whnf))
    refine nx (r+1) ?_
    exact⟨by omega,hn⟩
 have hG:roomGood p x k=true:=by rw [roomGood,anyN_no.2 fun i hh=>hR i (by omega)];rfl
 clear hR
 (repeat' ((conv=>whnf);first | (exfalso;omega) | refine gA ?_ | ((with_reducible first | refine gD (fun h=>?_) (fun h=>?_) | refine gE (fun h=>?_) (fun h=>?_)) <;> (try simp only [lm] at h) <;> try have hw:=wn h) | with_reducible refine gI (fun x hx=>?_) | with_reducible refine gJ (fun j x hj hx=>?_) | refine gV ?_ | intro _)) <;> (try (conv=>whnf))
 refine loopF [3,4,7,151,152] [3,4,7] [] ?_
 (conv=>whnf)
 refine LoopC.go ((Nat)) (fun r=>(r≤p.stocks.length)∧(∀i,i < r→stockBad p x i=false)) (fun r=>[(153,.data (i64 r))]) (fun _=>[]) (fun _=>[]) (fun r=>p.stocks.length - r) (0) ?_ ?_
 ·exact⟨Nat.zero_le _,fun i h=>absurd h (by omega)⟩
 rintro r ⟨hr,hS⟩
 by_cases hlr:r < p.stocks.length
 ·obtain⟨c,hc⟩:∃y,p.stocks[r]? =some y:=⟨p.stocks[r]'hlr,by simp⟩
  have hres:=hasStock_nat hlr
  (repeat' ((conv=>whnf);first | with_reducible refine Idx.got hc rfl ?_ | (exfalso;omega) | refine gA ?_ | ((with_reducible first | refine gD (fun h=>?_) (fun h=>?_) | refine gE (fun h=>?_) (fun h=>?_)) <;> (try simp only [lm] at h) <;> try have hw:=wn h) | with_reducible refine gI (fun x hx=>?_) | with_reducible refine gJ (fun j x hj hx=>?_) | refine gV ?_ | intro _)) <;> (try (conv=>whnf))
  refine loopF [3,4,7,18,19,151,152,153,159,160] [3,4,7] [] ?_
  (conv=>whnf)
  refine LoopC.go ((Nat)×(Int)) (fun⟨i,n⟩=>(i≤x.done.length)∧(0≤n∧n≤20*i)∧(sumOver (useCon p x.sched r) (x.done.drop i) n=sumOver (useCon p x.sched r) x.done 0)) (fun⟨i,n⟩=>[(161,.data (i64 i)),(20,.data (i64 n))]) (fun _=>[]) (fun _=>[]) (fun⟨i,n⟩=>x.done.length - i) ⟨0,0⟩ ?_ ?_
  ·exact⟨Nat.zero_le _,by omega,rfl⟩
  rintro⟨i,n⟩ ⟨hi3,hn,hs⟩
  by_cases h3:i < x.done.length
  ·obtain⟨o,ho⟩:∃y,x.done[i]? =some y:=⟨x.done[i]'h3,by simp⟩
   obtain⟨ko,rfl,hko⟩:=hd o (List.mem_of_getElem? ho)
   obtain⟨a',t',m',q',mo',g'⟩:=s_get hf hko
   obtain⟨ρ,u,e1,e2,e3,e4⟩:=conIn_eq g' hres
   rw [drop_get ho,sumOver] at hs
   have eu:useCon p x.sched r ko=u:=by simp [useCon,modeOf_eq g',List.getD_eq_getElem?_getD,e1,e2]
   rw [eu] at hs
   (repeat' ((conv=>whnf);first | with_reducible refine Idx.got ho rfl ?_ | with_reducible refine Idx.got e2 e1 ?_ | refine gA ?_ | ((with_reducible first | refine gD (fun h=>?_) (fun h=>?_) | refine gE (fun h=>?_) (fun h=>?_)) <;> (try simp only [lm] at h) <;> try have hw:=wn h) | with_reducible refine gI (fun x hx=>?_) | with_reducible refine gJ (fun j x hj hx=>?_) | refine gV ?_ | refine gC (impl_mode p x.sched _ g' rfl) ?_ | intro _)) <;> (try (conv=>whnf))
   all_goals first
    | (exfalso;omega)
    | (refine nx ⟨i+1,n+u⟩ ?_
       exact⟨by omega,by omega,hs⟩)
  ·rw [drop_end' (by omega),sumOver] at hs
   have hbad:stockBad p x r=decide (n > c):=by rw [stockBad, ← hs];simp [List.getD_eq_getElem?_getD,hc]
   by_cases hcc:n > c
   ·have hr:R=false:=by
     rw [← hQQ,plnHolds,stocksGood,anyN_yes r hlr (by rw [hbad];exact decide_eq_true hcc)];simp
    subst hr
    (repeat' ((conv=>whnf);first | (exfalso;omega) | refine gA ?_ | ((with_reducible first | refine gD (fun h=>?_) (fun h=>?_) | refine gE (fun h=>?_) (fun h=>?_)) <;> (try simp only [lm] at h) <;> try have hw:=wn h) | with_reducible refine gI (fun x hx=>?_) | with_reducible refine gJ (fun j x hj hx=>?_) | refine gV ?_ | intro _)) <;> (try (conv=>whnf))
    all_goals first
     | (exfalso;omega)
     | exact⟨rfl,rfl,trivial⟩
   ·have hn':=noN_step hS (by rw [hbad];exact decide_eq_false hcc)
    (repeat' ((conv=>whnf);first | (exfalso;omega) | refine gA ?_ | ((with_reducible first | refine gD (fun h=>?_) (fun h=>?_) | refine gE (fun h=>?_) (fun h=>?_)) <;> (try simp only [lm] at h) <;> try have hw:=wn h) | with_reducible refine gI (fun x hx=>?_) | with_reducible refine gJ (fun j x hj hx=>?_) | refine gV ?_ | intro _)) <;> (try (conv=>whnf))
    all_goals first
     | (exfalso;omega)
     | (refine nx (r+1) ?_
        exact⟨by omega,hn'⟩)
 have hK:R=true:=by rw [← hQQ,plnHolds,hL,hG,stocksGood,anyN_no.2 fun i hh=>hS i (by omega)];rfl
 subst hK
 (repeat' ((conv=>whnf);first | (exfalso;omega) | refine gA ?_ | ((with_reducible first | refine gD (fun h=>?_) (fun h=>?_) | refine gE (fun h=>?_) (fun h=>?_)) <;> (try simp only [lm] at h) <;> try have hw:=wn h) | with_reducible refine gI (fun x hx=>?_) | with_reducible refine gJ (fun j x hj hx=>?_) | refine gV ?_ | intro _)) <;> (try (conv=>whnf))
 exact⟨rfl,rfl,trivial⟩
end Go.Proofs.YtkiohdpapinecaaGreat.Abs
