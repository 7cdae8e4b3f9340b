/- Contracts: the reference's plans and schedules. No statement of a claim. -/
import Derived.Test.YtkiohdpapinecaaGreatC43
set_option linter.all false
set_option linter.unusedVariables false
set_option linter.unusedSimpArgs false
set_option maxRecDepth 20000
set_option maxHeartbeats 8000000
namespace Go.Proofs.YtkiohdpapinecaaGreat.Abs
open Go.Proofs Go.RowKit
theorem spec_NewPlan (p:Proj) (hp:p.fine):Con 44 [.d p.av] (.d (newPln p).av):=by
 refine con Tryz.func44 rfl rfl Tryz.call44 rfl fun hwf=>?_
 simp only [ARs.wf,AR.wf,AV.wf,AV.wfs,List.length_map,lim] at hwf
 cases ho:projOk p with
 | false=>
  rw [newPln,if_neg (by simp [ho])]
  (repeat' ((conv=>whnf);first | refine gA ?_ | ((with_reducible first | refine gD (fun h=>?_) (fun h=>?_) | refine gE (fun h=>?_) (fun h=>?_)) <;> (try simp only [lm] at h) <;> try have hw:=wn h) | refine gM ?_ | refine gC (spec_ProjectOk p hp) ?_ | intro _)) <;> (try (conv=>whnf))
  (repeat' ((conv=>whnf) <;> (first | exact trivial | exact VC.nod (by kernel_rfl) | refine VC.mk rfl ?_)))
 | true=>
  rw [newPln,if_pos ho]
  (repeat' ((conv=>whnf);first | refine gA ?_ | ((with_reducible first | refine gD (fun h=>?_) (fun h=>?_) | refine gE (fun h=>?_) (fun h=>?_)) <;> (try simp only [lm] at h) <;> try have hw:=wn h) | refine gM ?_ | refine gC (spec_ProjectOk p hp) ?_ | intro _)) <;> (try (conv=>whnf))
  (repeat' ((conv=>whnf) <;> (first | exact trivial | exact VC.nod (by kernel_rfl) | refine VC.mk (by first | with_reducible rfl | (simp [zeroPln,List.map_replicate,show zeroAV (tab 3)=i64 0 from rfl];done) | rfl) ?_)))
theorem spec_PlanOk (p:Proj) (x:Pln) (hp:p.fine):Con 216 [.d p.av,.d x.av] (.d (.bool (plnOk p x))):=by
 refine con Tryz.func216 rfl rfl Tryz.call216 rfl fun hwf=>?_
 have hR:=spec_IntRange (p.acts.map Activ.av).length
 rw [show intRange (((p.acts.map Activ.av).length:Nat):Int)=intRange p.acts.length by rw [List.length_map]] at hR
 (repeat' ((conv=>whnf);first | refine gA ?_ | ((with_reducible first | refine gD (fun h=>?_) (fun h=>?_) | refine gE (fun h=>?_) (fun h=>?_)) <;> (try simp only [lm] at h) <;> try have hw:=wn h) | refine gC (spec_ScheduleForm p x.sched hp) ?_ | refine gC (spec_SetOk x.done) ?_ | refine gC (hR) ?_ | refine gC (spec_SetSubset x.done _) ?_ | intro _)) <;> (try (conv=>whnf))
 all_goals (refine⟨?_,rfl,trivial⟩;simp [plnOk, *])
def RSchO (s:Sched):RV:=.agg [.own 3 (s.starts.map i64),.own 3 (s.modes.map i64)]
def RPlnO (x:Pln):RV:=.agg [.own 3 (x.sched.starts.map i64),.own 3 (x.sched.modes.map i64),.own 3 (x.done.map i64)]
theorem spec_l09Copy (s:Sched):Con 77 [.d s.av] (RSchO s):=by
 refine con Tryz.func77 rfl rfl Tryz.call77 rfl fun hwf=>?_
 simp only [ARs.wf,AR.wf,AV.wf,AV.wfs,List.length_map,lim] at hwf
 (repeat' ((conv=>whnf);first | refine gA ?_ | ((with_reducible first | refine gD (fun h=>?_) (fun h=>?_) | refine gE (fun h=>?_) (fun h=>?_)) <;> (try simp only [lm] at h) <;> try have hw:=wn h) | refine gP ?_ | intro _)) <;> (try (conv=>whnf))
 (repeat' ((conv=>whnf) <;> (first | exact trivial | exact VC.nod (by kernel_rfl) | refine VC.mk rfl ?_)))
theorem spec_l24Copy (x:Pln):Con 112 [.d x.av] (RPlnO x):=by
 refine con Tryz.func112 rfl rfl Tryz.call112 rfl fun hwf=>?_
 simp only [ARs.wf,AR.wf,AV.wf,AV.wfs,List.length_map,lim] at hwf
 (repeat' ((conv=>whnf);first | refine gA ?_ | ((with_reducible first | refine gD (fun h=>?_) (fun h=>?_) | refine gE (fun h=>?_) (fun h=>?_)) <;> (try simp only [lm] at h) <;> try have hw:=wn h) | refine gP ?_ | refine gC (spec_l09Copy x.sched) ?_ | intro _)) <;> (try (conv=>whnf))
 (repeat' ((conv=>whnf) <;> (first | exact trivial | exact VC.nod (by kernel_rfl) | refine VC.mk rfl ?_)))
theorem spec_CapacityAt (l:List Step) (t:Int):Con 306 [.d (.sl (l.map Step.av)),.d (i64 t)] (.d (i64 (capFull l t))):=by
 refine con Tryz.func306 rfl rfl Tryz.call306 rfl fun hwf=>?_
 have hT:=spec_in t 0 60
 rw [show within t 0 60=isTime t from rfl] at hT
 (repeat' ((conv=>whnf);first | refine gA ?_ | ((with_reducible first | refine gD (fun h=>?_) (fun h=>?_) | refine gE (fun h=>?_) (fun h=>?_)) <;> (try simp only [lm] at h) <;> try have hw:=wn h) | refine gC (spec_StepsOk l) ?_ | refine gC (hT) ?_ | refine gC (spec_l03At l t) ?_ | intro _)) <;> (try (conv=>whnf))
 all_goals (refine⟨?_,rfl,trivial⟩;simp [capFull, *])
theorem spec_l24Links (p:Proj) (x:Pln) (k:Nat) (hp:p.fine) (hf:schedForm p x.sched=true):Con 217 [.d p.av,.d x.av,.d (i64 k)] (.d (.bool (linksGood p x k))):=by
 refine con Tryz.func217 rfl rfl Tryz.call217 rfl fun hwf=>?_
 have hok:=(schedForm_parts hf).1
 obtain⟨_,_,_,hll⟩:=proj_small hok
 generalize hQQ:linksGood p x k=R
 (repeat' ((conv=>whnf);first | refine gA ?_ | ((with_reducible first | refine gD (fun h=>?_) (fun h=>?_) | refine gE (fun h=>?_) (fun h=>?_)) <;> (try simp only [lm] at h) <;> try have hw:=wn h) | with_reducible refine gI (fun x hx=>?_) | with_reducible refine gJ (fun j x hj hx=>?_) | refine gV ?_ | intro _)) <;> (try (conv=>whnf))
 refine loopF [2,3,4,10,11] [3,4] [] ?_
 (conv=>whnf)
 refine LoopC.go ((Nat)) (fun j=>(j≤p.links.length)∧(∀i,i < j→linkBadAt p x k i=false)) (fun j=>[(12,.data (i64 j))]) (fun _=>[]) (fun _=>[]) (fun j=>p.links.length - j) (0) ?_ ?_
 ·exact⟨Nat.zero_le _,fun i h=>absurd h (by omega)⟩
 rintro j ⟨hj,hi⟩
 by_cases hlt:j < p.links.length
 ·obtain⟨y,hy⟩:∃y,p.links[j]? =some y:=⟨p.links[j]'hlt,by simp⟩
  have e:linkBadAt p x k j=linkBad p x k y:=by rw [linkBadAt,hy]
  have hF:=spec_l10Fails p x.sched (linkRule j) hp hf (.link j y rfl hy)
  rw [show breaks p x.sched (linkRule j)=linkBreaks p x.sched y by simp [breaks,linkRule,linkOf,List.getD_eq_getElem?_getD,hy]] at hF
  cases hb:linkBad p x k y with
  | true=>
   have hr:R=false:=by rw [← hQQ,linksGood,anyN_yes j hlt (by rw [e,hb])];rfl
   subst hr
   simp only [linkBad,Bool.and_eq_true,Bool.or_eq_true,decide_eq_true_eq] at hb
   obtain⟨b1,b2,b3,b4⟩:=hb
   (repeat' ((conv=>whnf);first | with_reducible refine Idx.got hy rfl ?_ | refine gA ?_ | ((with_reducible first | refine gD (fun h=>?_) (fun h=>?_) | refine gE (fun h=>?_) (fun h=>?_)) <;> (try simp only [lm] at h) <;> try have hw:=wn h) | with_reducible refine gI (fun x hx=>?_) | with_reducible refine gJ (fun j x hj hx=>?_) | refine gV ?_ | refine gC (spec_SetHas x.done y.src) ?_ | refine gC (spec_SetHas x.done y.dst) ?_ | refine gC (hF) ?_ | intro _)) <;> (try (conv=>whnf))
   all_goals first
    | (exfalso;omega)
    | exact⟨rfl,rfl,trivial⟩
    | (exfalso;simp_all;done)
  | false=>
   have hn:=noN_step hi (by rw [e,hb])
   simp only [linkBad] at hb
   (repeat' ((conv=>whnf);first | with_reducible refine Idx.got hy rfl ?_ | refine gA ?_ | ((with_reducible first | refine gD (fun h=>?_) (fun h=>?_) | refine gE (fun h=>?_) (fun h=>?_)) <;> (try simp only [lm] at h) <;> try have hw:=wn h) | with_reducible refine gI (fun x hx=>?_) | with_reducible refine gJ (fun j x hj hx=>?_) | refine gV ?_ | refine gC (spec_SetHas x.done y.src) ?_ | refine gC (spec_SetHas x.done y.dst) ?_ | refine gC (hF) ?_ | intro _)) <;> (try (conv=>whnf))
   all_goals first
    | (exfalso;omega)
    | (exfalso;simp_all;done)
    | (refine nx (j+1) ?_
       exact⟨by omega,hn⟩)
 ·have hr:R=true:=by rw [← hQQ,linksGood,anyN_no.2 fun i hh=>hi i (by omega)];rfl
  subst hr
  (repeat' ((conv=>whnf);first | (exfalso;omega) | refine gA ?_ | ((with_reducible first | refine gD (fun h=>?_) (fun h=>?_) | refine gE (fun h=>?_) (fun h=>?_)) <;> (try simp only [lm] at h) <;> try have hw:=wn h) | with_reducible refine gI (fun x hx=>?_) | with_reducible refine gJ (fun j x hj hx=>?_) | refine gV ?_ | intro _)) <;> (try (conv=>whnf))
  exact⟨rfl,rfl,trivial⟩
theorem spec_l10PairK (p:Proj) (s:Sched) (kd:Int) (ρ b c:Nat) (hf:schedForm p s=true) (hm:isMach p ρ=true) (hb:b < p.acts.length) (hc:c < p.acts.length):Con 308 [.d p.av,.d s.av,.d (Rul.mk kd ρ b c).av] (.d (.bool (pairFails p s ρ b c))):=by
 refine con Tryz.func308 rfl rfl Tryz.call308 rfl fun hwf=>?_
 obtain⟨a,t,m,q,mo,g⟩:=s_get hf hb
 obtain⟨a',t',m',q',mo',g'⟩:=s_get hf hc
 obtain⟨ρ1,u,f1,f2,f3,_⟩:=useIn_eq g (isMach_res hm) 0
 obtain⟨ρ2,u',f1',f2',f3',_⟩:=useIn_eq g' (isMach_res hm) 0
 have ep:pairFails p s ρ b c=(!decide (u=0)&& !decide (u'=0)&& !aheadOf p s ρ b c&& !aheadOf p s ρ c b):=by
  obtain rfl:ρ1=ρ:=by omega
  obtain rfl:ρ2=ρ1:=by omega
  rw [pairFails]
  simp [modeOf_eq g,modeOf_eq g',List.getD_eq_getElem?_getD,f2,f2']
 rw [ep]
 (repeat' ((conv=>whnf);first | refine Idx.got f2 f1 ?_ | refine Idx.got f2' f1' ?_ | refine gA ?_ | ((with_reducible first | refine gD (fun h=>?_) (fun h=>?_) | refine gE (fun h=>?_) (fun h=>?_)) <;> (try simp only [lm] at h) <;> try have hw:=wn h) | with_reducible refine gI (fun x hx=>?_) | with_reducible refine gJ (fun j x hj hx=>?_) | refine gC (spec_l09Mode p s _ g rfl) ?_ | refine gC (spec_l09Mode p s _ g' rfl) ?_ | refine gC (spec_l10Ahead p s (ρ:Int) (b:Int) (c:Int) g rfl g' rfl hf hm) ?_ | refine gC (spec_l10Ahead p s (ρ:Int) (c:Int) (b:Int) g' rfl g rfl hf hm) ?_ | intro _)) <;> (try (conv=>whnf))
 all_goals (clear f1 f1' ep;refine⟨?_,rfl,trivial⟩;simp [*])
theorem pairFails_swap (p:Proj) (s:Sched) (r b c:Int):pairFails p s r b c=pairFails p s r c b:=by
 rw [pairFails,pairFails]
 cases decide ((modeOf p s b.toNat).use.getD r.toNat 0=0) <;> cases decide ((modeOf p s c.toNat).use.getD r.toNat 0=0) <;> cases aheadOf p s r b c <;> cases aheadOf p s r c b <;> rfl
theorem spec_l24Room (p:Proj) (x:Pln) (k:Nat) (hp:p.fine) (hf:schedForm p x.sched=true) (hk:k < p.acts.length) (hd:∀o∈x.done,∃n:Nat,o=n∧n < p.acts.length) (hl:x.done.length≤p.acts.length):
  Con 218 [.d p.av,.d x.av,.d (i64 k)] (.d (.bool (roomGood p x k))):=by
 refine con Tryz.func218 rfl rfl Tryz.call218 rfl fun hwf=>?_
 have hok:=(schedForm_parts hf).1
 obtain⟨hna,hrl,hsl,_⟩:=proj_small hok
 obtain⟨a,t0,m,q,mo,g⟩:=s_get hf hk
 have he:=endOf_eq g
 have hdu:=s_dur g
 have htb:=g.tb
 have hst:x.sched.starts.getD k 0=t0:=by simp [List.getD_eq_getElem?_getD,g.start]
 have hdd:(modeOf p x.sched k).dur=mo.dur:=by rw [modeOf_eq g]
 generalize hQQ:roomGood p x k=R
 (repeat' ((conv=>whnf);first | refine gA ?_ | ((with_reducible first | refine gD (fun h=>?_) (fun h=>?_) | refine gE (fun h=>?_) (fun h=>?_)) <;> (try simp only [lm] at h) <;> try have hw:=wn h) | with_reducible refine gI (fun x hx=>?_) | with_reducible refine gJ (fun j x hj hx=>?_) | refine gV ?_ | intro _)) <;> (try (conv=>whnf))
 refine loopF [2,3,4,16] [3,4] [] ?_
 (conv=>whnf)
 refine LoopC.go ((Nat)) (fun r=>(r≤p.ress.length)∧(∀i,i < r→roomBad p x k i=false)) (fun r=>[(17,.data (i64 r))]) (fun _=>[]) (fun _=>[]) (fun r=>p.ress.length - r) (0) ?_ ?_
 ·exact⟨Nat.zero_le _,fun i h=>absurd h (by omega)⟩
 rintro r ⟨hr,hR⟩
 by_cases hlr:r < p.ress.length
 ·obtain⟨re,hre⟩:∃y,p.ress[r]? =some y:=⟨p.ress[r]'hlr,by simp⟩
  have hres:=hasRes_nat hlr
  have ere:resOf p r=re:=by simp [resOf,List.getD_eq_getElem?_getD,hre]
  (repeat' ((conv=>whnf);first | with_reducible refine Idx.got g.start rfl ?_ | (exfalso;omega) | refine gA ?_ | ((with_reducible first | refine gD (fun h=>?_) (fun h=>?_) | refine gE (fun h=>?_) (fun h=>?_)) <;> (try simp only [lm] at h) <;> try have hw:=wn h) | with_reducible refine gI (fun x hx=>?_) | with_reducible refine gJ (fun j x hj hx=>?_) | refine gV ?_ | intro _)) <;> (try (conv=>whnf))
  refine loopF [2,3,4,7,16,17] [3,4] [] ?_
  (conv=>whnf)
  refine LoopC.go ((Nat)×(Int)) (fun⟨j,t⟩=>(t=t0+j)∧((j:Int)≤mo.dur)∧(∀i:Nat,i < j→timeBad p x r (t0+i)=false)) (fun⟨j,t⟩=>[(8,.data (i64 t))]) (fun _=>[]) (fun _=>[]) (fun⟨j,t⟩=>mo.dur.toNat - j) ⟨0,t0⟩ ?_ ?_
  ·exact⟨by omega,by omega,fun i h=>absurd h (by omega)⟩
  rintro⟨j,t⟩ ⟨ht,hj,hT⟩
  by_cases hjt:(j:Int) < mo.dur
  ·(repeat' ((conv=>whnf);first | with_reducible refine Br.yes (decide_eq_true (by omega)) ?_ | refine gA ?_ | ((with_reducible first | refine gD (fun h=>?_) (fun h=>?_) | refine gE (fun h=>?_) (fun h=>?_)) <;> (try simp only [lm] at h) <;> try have hw:=wn h) | with_reducible refine gI (fun x hx=>?_) | with_reducible refine gJ (fun j x hj hx=>?_) | refine gV ?_ | refine gC (spec_l09End p x.sched _ g rfl) ?_ | intro _)) <;> (try (conv=>whnf))
   refine loopF [2,3,4,7,8,16,17,36,37] [3,4] [] ?_
   (conv=>whnf)
   refine LoopC.go ((Nat)×(Int)) (fun⟨i,n⟩=>(i≤x.done.length)∧(0≤n∧n≤20*i)∧(sumOver (doneUse p x r t) (x.done.drop i) n=loadOf p x r t)) (fun⟨i,n⟩=>[(38,.data (i64 i)),(9,.data (i64 n))]) (fun _=>[]) (fun _=>[]) (fun⟨i,n⟩=>x.done.length - i) ⟨0,0⟩ ?_ ?_
   ·exact⟨Nat.zero_le _,by omega,rfl⟩
   rintro⟨i,n⟩ ⟨hi3,hn,hs⟩
   by_cases h3:i < x.done.length
   ·obtain⟨o,ho⟩:∃y,x.done[i]? =some y:=⟨x.done[i]'h3,by simp⟩
    obtain⟨ko,rfl,hko⟩:=hd o (List.mem_of_getElem? ho)
    obtain⟨a',t',m',q',mo',g'⟩:=s_get hf hko
    obtain⟨ρ,u,e1,e2,e3,e4⟩:=useIn_eq g' hres t
    rw [drop_get ho,sumOver] at hs
    have eu:useOf p x.sched r ko=u:=by simp [useOf,modeOf_eq g',List.getD_eq_getElem?_getD,e1,e2]
    by_cases hrun:runP p x.sched t ko=true
    ·rw [doneUse,if_pos hrun,eu] at hs
     have hrr:=hrun
     rw [runP,Int.toNat_natCast,runs_eq g',Bool.and_eq_true,decide_eq_true_eq,decide_eq_true_eq] at hrr
     (repeat' ((conv=>whnf);first | with_reducible refine Idx.got ho rfl ?_ | with_reducible refine Idx.got g'.start rfl ?_ | with_reducible refine Idx.got e2 e1 ?_ | refine gA ?_ | ((with_reducible first | refine gD (fun h=>?_) (fun h=>?_) | refine gE (fun h=>?_) (fun h=>?_)) <;> (try simp only [lm] at h) <;> try have hw:=wn h) | with_reducible refine gI (fun x hx=>?_) | with_reducible refine gJ (fun j x hj hx=>?_) | refine gV ?_ | refine gC (spec_l09End p x.sched _ g' rfl) ?_ | refine gC (spec_l09Mode p x.sched _ g' rfl) ?_ | intro _)) <;> (try (conv=>whnf))
     all_goals first
      | (exfalso;omega)
      | (refine nx ⟨i+1,n+u⟩ ?_
         exact⟨by omega,by omega,hs⟩)
    ·rw [doneUse,if_neg hrun,Int.add_zero] at hs
     have hrr:=hrun
     rw [runP,Int.toNat_natCast,runs_eq g',Bool.and_eq_true,decide_eq_true_eq,decide_eq_true_eq] at hrr
     (repeat' ((conv=>whnf);first | with_reducible refine Idx.got ho rfl ?_ | with_reducible refine Idx.got g'.start rfl ?_ | with_reducible refine Idx.got e2 e1 ?_ | refine gA ?_ | ((with_reducible first | refine gD (fun h=>?_) (fun h=>?_) | refine gE (fun h=>?_) (fun h=>?_)) <;> (try simp only [lm] at h) <;> try have hw:=wn h) | with_reducible refine gI (fun x hx=>?_) | with_reducible refine gJ (fun j x hj hx=>?_) | refine gV ?_ | refine gC (spec_l09End p x.sched _ g' rfl) ?_ | refine gC (spec_l09Mode p x.sched _ g' rfl) ?_ | intro _)) <;> (try (conv=>whnf))
     all_goals first
      | (exfalso;omega)
      | (refine nx ⟨i+1,n⟩ ?_
         exact⟨by omega,by omega,hs⟩)
   ·rw [drop_end' (by omega),sumOver] at hs
    have hbad:timeBad p x r t=decide (n > capFull re.steps t):=by rw [timeBad,ere, ← hs]
    by_cases hc:n > capFull re.steps t
    ·have hr:R=false:=by
      have:timesBad p x k r=true:=by
       rw [timesBad,hst,hdd]
       exact anyN_yes j (by omega) (by rw [← ht,hbad];exact decide_eq_true hc)
      have:roomBad p x k r=true:=by rw [roomBad,this];rfl
      rw [← hQQ,roomGood,anyN_yes r hlr this];rfl
     subst hr
     (repeat' ((conv=>whnf);first | with_reducible refine Idx.got hre rfl ?_ | (exfalso;omega) | refine gA ?_ | ((with_reducible first | refine gD (fun h=>?_) (fun h=>?_) | refine gE (fun h=>?_) (fun h=>?_)) <;> (try simp only [lm] at h) <;> try have hw:=wn h) | with_reducible refine gI (fun x hx=>?_) | with_reducible refine gJ (fun j x hj hx=>?_) | refine gV ?_ | refine gC (spec_CapacityAt re.steps t) ?_ | intro _)) <;> (try (conv=>whnf))
     all_goals first
      | (exfalso;omega)
      | exact⟨rfl,rfl,trivial⟩
    ·(repeat' ((conv=>whnf);first | with_reducible refine Idx.got hre rfl ?_ | (exfalso;omega) | refine gA ?_ | ((with_reducible first | refine gD (fun h=>?_) (fun h=>?_) | refine gE (fun h=>?_) (fun h=>?_)) <;> (try simp only [lm] at h) <;> try have hw:=wn h) | with_reducible refine gI (fun x hx=>?_) | with_reducible refine gJ (fun j x hj hx=>?_) | refine gV ?_ | refine gC (spec_CapacityAt re.steps t) ?_ | intro _)) <;> (try (conv=>whnf))
     all_goals first
      | (exfalso;omega)
      | (refine nx ⟨j+1,t+1⟩ ?_
         refine⟨by omega,by omega,fun i' hi'=>?_⟩
         by_cases h':i' < j
         ·exact hT i' h'
         ·obtain rfl:i'=j:=by omega
          rw [← ht,hbad];exact decide_eq_false hc)
  ·have hTB:timesBad p x k r=false:=by
    rw [timesBad,hst,hdd]
    exact anyN_no.2 fun i hh=>hT i (by omega)
   clear hT
   (repeat' ((conv=>whnf);first | with_reducible refine Br.no (decide_eq_false (by omega)) ?_ | refine gA ?_ | ((with_reducible first | refine gD (fun h=>?_) (fun h=>?_) | refine gE (fun h=>?_) (fun h=>?_)) <;> (try simp only [lm] at h) <;> try have hw:=wn h) | with_reducible refine gI (fun x hx=>?_) | with_reducible refine gJ (fun j x hj hx=>?_) | refine gV ?_ | refine gC (spec_l09End p x.sched _ g rfl) ?_ | intro _)) <;> (try (conv=>whnf))
   refine loopF [2,3,4,7,16,17,82,83] [3,4] [] ?_
   (conv=>whnf)
   refine LoopC.go ((Nat)) (fun i=>(i≤x.done.length)∧(∀i',i' < i→pairBadAt p x k r i'=false)) (fun i=>[(84,.data (i64 i))]) (fun _=>[]) (fun _=>[]) (fun i=>x.done.length - i) (0) ?_ ?_
   ·exact⟨Nat.zero_le _,fun i h=>absurd h (by omega)⟩
   rintro i ⟨hi4,hP⟩
   by_cases h4:i < x.done.length
   ·obtain⟨o,ho⟩:∃y,x.done[i]? =some y:=⟨x.done[i]'h4,by simp⟩
    obtain⟨ko,rfl,hko⟩:=hd o (List.mem_of_getElem? ho)
    have ea:pairBadAt p x k r i=pairBad p x k r ko:=by rw [pairBadAt,ho]
    cases hm:isMach p r with
    | false=>
     have hn:=noN_step hP (by rw [ea,pairBad,hm];rfl)
     (repeat' ((conv=>whnf);first | with_reducible refine Idx.got ho rfl ?_ | refine gA ?_ | ((with_reducible first | refine gD (fun h=>?_) (fun h=>?_) | refine gE (fun h=>?_) (fun h=>?_)) <;> (try simp only [lm] at h) <;> try have hw:=wn h) | with_reducible refine gI (fun x hx=>?_) | with_reducible refine gJ (fun j x hj hx=>?_) | refine gV ?_ | refine gC (spec_IsMachine p r) ?_ | intro _)) <;> (try (conv=>whnf))
     all_goals first
      | (exfalso;omega)
      | (exfalso;simp_all;done)
      | (refine nx (i+1) ?_
         exact⟨by omega,hn⟩)
    | true=>
    by_cases hoa:(ko:Int)=k
    ·have hn:=noN_step hP (by rw [ea,pairBad,hm,decide_eq_true hoa];rfl)
     (repeat' ((conv=>whnf);first | with_reducible refine Idx.got ho rfl ?_ | refine gA ?_ | ((with_reducible first | refine gD (fun h=>?_) (fun h=>?_) | refine gE (fun h=>?_) (fun h=>?_)) <;> (try simp only [lm] at h) <;> try have hw:=wn h) | with_reducible refine gI (fun x hx=>?_) | with_reducible refine gJ (fun j x hj hx=>?_) | refine gV ?_ | refine gC (spec_IsMachine p r) ?_ | intro _)) <;> (try (conv=>whnf))
     all_goals first
      | (exfalso;omega)
      | (exfalso;simp_all;done)
      | (refine nx (i+1) ?_
         exact⟨by omega,hn⟩)
    have hQ:=spec_l10PairK p x.sched 0 r ko k hf hm hko hk
    rw [pairFails_swap] at hQ
    cases hpf:pairFails p x.sched r k ko with
    | true=>
     have hr:R=false:=by
      have h1:(List.range x.done.length).any (pairBadAt p x k r)=true:=anyN_yes i h4 (by rw [ea,pairBad,hm,hpf,decide_eq_false hoa];rfl)
      have:roomBad p x k r=true:=by rw [roomBad,h1,Bool.or_true]
      rw [← hQQ,roomGood,anyN_yes r hlr this];rfl
     subst hr
     rw [hpf] at hQ
     (repeat' ((conv=>whnf);first | with_reducible refine Idx.got ho rfl ?_ | refine gA ?_ | ((with_reducible first | refine gD (fun h=>?_) (fun h=>?_) | refine gE (fun h=>?_) (fun h=>?_)) <;> (try simp only [lm] at h) <;> try have hw:=wn h) | with_reducible refine gI (fun x hx=>?_) | with_reducible refine gJ (fun j x hj hx=>?_) | refine gV ?_ | refine gC (spec_IsMachine p r) ?_ | refine gC (hQ) ?_ | intro _)) <;> (try (conv=>whnf))
     all_goals first
      | (exfalso;omega)
      | exact⟨rfl,rfl,trivial⟩
      | (exfalso;simp_all;done)
    | false=>
     have hn:=noN_step hP (by rw [ea,pairBad,hm,hpf,decide_eq_false hoa];rfl)
     rw [hpf] at hQ
     (repeat' ((conv=>whnf);first | with_reducible refine Idx.got ho rfl ?_ | refine gA ?_ | ((with_reducible first | refine gD (fun h=>?_) (fun h=>?_) | refine gE (fun h=>?_) (fun h=>?_)) <;> (try simp only [lm] at h) <;> try have hw:=wn h) | with_reducible refine gI (fun x hx=>?_) | with_reducible refine gJ (fun j x hj hx=>?_) | refine gV ?_ | refine gC (spec_IsMachine p r) ?_ | refine gC (hQ) ?_ | intro _)) <;> (try (conv=>whnf))
     all_goals first
      | (exfalso;omega)
      | (exfalso;simp_all;done)
      | (refine nx (i+1) ?_
         exact⟨by omega,hn⟩)
   ·have hn:=noN_step hR (by rw [roomBad,hTB,anyN_no.2 fun i' hh=>hP i' (by omega)];rfl)
    (repeat' ((conv=>whnf);first | (exfalso;omega) | refine gA ?_ | ((with_reducible first | refine gD (fun h=>?_) (fun h=>?_) | refine gE (fun h=>?_) (fun h=>?_)) <;> (try simp only [lm] at h) <;> try have hw:=wn h) | with_reducible refine gI (fun x hx=>?_) | with_reducible refine gJ (fun j x hj hx=>?_) | refine gV ?_ | intro _)) <;> (try (conv=>whnf))
    refine nx (r+1) ?_
    exact⟨by omega,hn⟩
 ·have hG:R=true:=by rw [← hQQ,roomGood,anyN_no.2 fun i hh=>hR i (by omega)];rfl
  subst hG
  (repeat' ((conv=>whnf);first | (exfalso;omega) | refine gA ?_ | ((with_reducible first | refine gD (fun h=>?_) (fun h=>?_) | refine gE (fun h=>?_) (fun h=>?_)) <;> (try simp only [lm] at h) <;> try have hw:=wn h) | with_reducible refine gI (fun x hx=>?_) | with_reducible refine gJ (fun j x hj hx=>?_) | refine gV ?_ | intro _)) <;> (try (conv=>whnf))
  exact⟨rfl,rfl,trivial⟩
theorem spec_l24Stocks (p:Proj) (x:Pln) (hp:p.fine) (hf:schedForm p x.sched=true) (hd:∀o∈x.done,∃n:Nat,o=n∧n < p.acts.length) (hl:x.done.length≤p.acts.length):
  Con 219 [.d p.av,.d x.av] (.d (.bool (stocksGood p x))):=by
 refine con Tryz.func219 rfl rfl Tryz.call219 rfl fun hwf=>?_
 have hok:=(schedForm_parts hf).1
 obtain⟨hna,hrl,hsl,_⟩:=proj_small hok
 generalize hQQ:stocksGood p x=R
 (repeat' ((conv=>whnf);first | refine gA ?_ | ((with_reducible first | refine gD (fun h=>?_) (fun h=>?_) | refine gE (fun h=>?_) (fun h=>?_)) <;> (try simp only [lm] at h) <;> try have hw:=wn h) | with_reducible refine gI (fun x hx=>?_) | with_reducible refine gJ (fun j x hj hx=>?_) | refine gV ?_ | intro _)) <;> (try (conv=>whnf))
 refine loopF [2,3,11,12] [2,3] [] ?_
 (conv=>whnf)
 refine LoopC.go ((Nat)) (fun r=>(r≤p.stocks.length)∧(∀i,i < r→stockBad p x i=false)) (fun r=>[(13,.data (i64 r))]) (fun _=>[]) (fun _=>[]) (fun r=>p.stocks.length - r) (0) ?_ ?_
 ·exact⟨Nat.zero_le _,fun i h=>absurd h (by omega)⟩
 rintro r ⟨hr,hS⟩
 by_cases hlr:r < p.stocks.length
 ·obtain⟨c,hc⟩:∃y,p.stocks[r]? =some y:=⟨p.stocks[r]'hlr,by simp⟩
  have hres:=hasStock_nat hlr
  (repeat' ((conv=>whnf);first | with_reducible refine Idx.got hc rfl ?_ | (exfalso;omega) | refine gA ?_ | ((with_reducible first | refine gD (fun h=>?_) (fun h=>?_) | refine gE (fun h=>?_) (fun h=>?_)) <;> (try simp only [lm] at h) <;> try have hw:=wn h) | with_reducible refine gI (fun x hx=>?_) | with_reducible refine gJ (fun j x hj hx=>?_) | refine gV ?_ | intro _)) <;> (try (conv=>whnf))
  refine loopF [2,3,5,6,11,12,13,19,20] [2,3] [] ?_
  (conv=>whnf)
  refine LoopC.go ((Nat)×(Int)) (fun⟨i,n⟩=>(i≤x.done.length)∧(0≤n∧n≤20*i)∧(sumOver (useCon p x.sched r) (x.done.drop i) n=sumOver (useCon p x.sched r) x.done 0)) (fun⟨i,n⟩=>[(21,.data (i64 i)),(7,.data (i64 n))]) (fun _=>[]) (fun _=>[]) (fun⟨i,n⟩=>x.done.length - i) ⟨0,0⟩ ?_ ?_
  ·exact⟨Nat.zero_le _,by omega,rfl⟩
  rintro⟨i,n⟩ ⟨hi3,hn,hs⟩
  by_cases h3:i < x.done.length
  ·obtain⟨o,ho⟩:∃y,x.done[i]? =some y:=⟨x.done[i]'h3,by simp⟩
   obtain⟨ko,rfl,hko⟩:=hd o (List.mem_of_getElem? ho)
   obtain⟨a',t',m',q',mo',g'⟩:=s_get hf hko
   obtain⟨ρ,u,e1,e2,e3,e4⟩:=conIn_eq g' hres
   rw [drop_get ho,sumOver] at hs
   have eu:useCon p x.sched r ko=u:=by simp [useCon,modeOf_eq g',List.getD_eq_getElem?_getD,e1,e2]
   rw [eu] at hs
   (repeat' ((conv=>whnf);first | with_reducible refine Idx.got ho rfl ?_ | with_reducible refine Idx.got e2 e1 ?_ | refine gA ?_ | ((with_reducible first | refine gD (fun h=>?_) (fun h=>?_) | refine gE (fun h=>?_) (fun h=>?_)) <;> (try simp only [lm] at h) <;> try have hw:=wn h) | with_reducible refine gI (fun x hx=>?_) | with_reducible refine gJ (fun j x hj hx=>?_) | refine gV ?_ | refine gC (spec_l09Mode p x.sched _ g' rfl) ?_ | intro _)) <;> (try (conv=>whnf))
   all_goals first
    | (exfalso;omega)
    | (refine nx ⟨i+1,n+u⟩ ?_
       exact⟨by omega,by omega,hs⟩)
  ·rw [drop_end' (by omega),sumOver] at hs
   have hbad:stockBad p x r=decide (n > c):=by rw [stockBad, ← hs];simp [List.getD_eq_getElem?_getD,hc]
   by_cases hcc:n > c
   ·have hr:R=false:=by rw [← hQQ,stocksGood,anyN_yes r hlr (by rw [hbad];exact decide_eq_true hcc)];rfl
    subst hr
    (repeat' ((conv=>whnf);first | (exfalso;omega) | refine gA ?_ | ((with_reducible first | refine gD (fun h=>?_) (fun h=>?_) | refine gE (fun h=>?_) (fun h=>?_)) <;> (try simp only [lm] at h) <;> try have hw:=wn h) | with_reducible refine gI (fun x hx=>?_) | with_reducible refine gJ (fun j x hj hx=>?_) | refine gV ?_ | intro _)) <;> (try (conv=>whnf))
    all_goals first
     | (exfalso;omega)
     | exact⟨rfl,rfl,trivial⟩
   ·have hn':=noN_step hS (by rw [hbad];exact decide_eq_false hcc)
    (repeat' ((conv=>whnf);first | (exfalso;omega) | refine gA ?_ | ((with_reducible first | refine gD (fun h=>?_) (fun h=>?_) | refine gE (fun h=>?_) (fun h=>?_)) <;> (try simp only [lm] at h) <;> try have hw:=wn h) | with_reducible refine gI (fun x hx=>?_) | with_reducible refine gJ (fun j x hj hx=>?_) | refine gV ?_ | intro _)) <;> (try (conv=>whnf))
    all_goals first
     | (exfalso;omega)
     | (refine nx (r+1) ?_
        exact⟨by omega,hn'⟩)
 ·have hK:R=true:=by rw [← hQQ,stocksGood,anyN_no.2 fun i hh=>hS i (by omega)];rfl
  subst hK
  (repeat' ((conv=>whnf);first | (exfalso;omega) | refine gA ?_ | ((with_reducible first | refine gD (fun h=>?_) (fun h=>?_) | refine gE (fun h=>?_) (fun h=>?_)) <;> (try simp only [lm] at h) <;> try have hw:=wn h) | with_reducible refine gI (fun x hx=>?_) | with_reducible refine gJ (fun j x hj hx=>?_) | refine gV ?_ | intro _)) <;> (try (conv=>whnf))
  exact⟨rfl,rfl,trivial⟩
theorem sget_put {p:Proj} {x:Pln} {k:Nat} {m t:Int} {y:Activ} {q:Nat} {mo:Mode} (g:FitGet p x k m t y q mo):SGet p (putPln x k m t).sched k y t m q mo:=by
 obtain⟨h1,_,_,_⟩:=plnOk_parts g.ok
 have hs:=schedForm_parts h1
 have hk:=(List.getElem?_eq_some_iff.1 g.act).1
 exact⟨g.act,by simp [putPln,show k < x.sched.starts.length by omega],by simp [putPln,show k < x.sched.modes.length by omega],g.mq,g.moE,g.tb,(projForm hs.1).act k y g.act⟩
theorem spec_l24Fits (p:Proj) (x:Pln) (k:Nat) (m t:Int) {y:Activ} {q:Nat} {mo:Mode} (hp:p.fine) (g:FitGet p x k m t y q mo):Con 140 [.d p.av,.d x.av,.d (i64 k),.d (i64 m),.d (i64 t)] (.d (.bool (decide (t+mo.dur≤p.dead)&&plnHolds p (putPln x k m t) k))):=by
 refine con Tryz.func140 rfl rfl Tryz.call140 rfl fun hwf=>?_
 obtain⟨hf,hso,hd,hl⟩:=plnOk_parts g.ok
 have hs:=schedForm_parts hf
 have hkl:=(List.getElem?_eq_some_iff.1 g.act).1
 obtain⟨l1,l2,l3⟩:=fit_len g
 have hpd:=put_done hd hkl (m:=m) (t:=t)
 have hm:within m 0 (y.modes.length - 1)=true:=by
  have:=(List.getElem?_eq_some_iff.1 g.moE).1
  have:=g.mq
  exact within_iff.2 (by omega)
 have hfp:schedForm p (putPln x k m t).sched=true:=schedForm_put hf g.act hm (within_iff.2 g.tb)
 have sg:=sget_put g
 have he:=endOf_eq sg
 have hE:=spec_l09End p (putPln x k m t).sched (k:Int) sg rfl
 rw [he] at hE
 have hL:=spec_l24Links p (putPln x k m t) k hp hfp
 have hM:=spec_l24Room p (putPln x k m t) k hp hfp hkl hpd.1 hpd.2
 have hS:=spec_l24Stocks p (putPln x k m t) hp hfp hpd.1 hpd.2
 rw [plnHolds]
 generalize linksGood p (putPln x k m t) k=B1 at hL ⊢
 generalize roomGood p (putPln x k m t) k=B2 at hM ⊢
 generalize stocksGood p (putPln x k m t)=B3 at hS ⊢
 have eA:(putPln x k m t).av= .agg [.sl ((x.sched.starts.map i64).set k (setPart (i64 0) 0 (i64 t))),.sl ((x.sched.modes.map i64).set k (setPart (i64 0) 0 (i64 m))),ints (setOf (x.done++[(k:Int)]))]:=by
  simp [Pln.av,putPln,List.map_set,setPart]
 have eB:(putPln x k m t).sched.av= .agg [.sl ((x.sched.starts.map i64).set k (setPart (i64 0) 0 (i64 t))),.sl ((x.sched.modes.map i64).set k (setPart (i64 0) 0 (i64 m)))]:=by
  simp [Sched.av,putPln,List.map_set,setPart]
 rw [eA] at hL hM hS
 rw [eB] at hE
 obtain⟨s0,hs0⟩:∃s,x.sched.starts[k]? =some s:=⟨x.sched.starts[k]'l1,by simp⟩
 obtain⟨m0,hm0⟩:∃s,x.sched.modes[k]? =some s:=⟨x.sched.modes[k]'l2,by simp⟩
 (repeat' ((conv=>whnf);first | with_reducible refine Idx.got hs0 rfl ?_ | with_reducible refine Idx.got hm0 rfl ?_ | refine gA ?_ | ((with_reducible first | refine gD (fun h=>?_) (fun h=>?_) | refine gE (fun h=>?_) (fun h=>?_)) <;> (try simp only [lm] at h) <;> try have hw:=wn h) | with_reducible refine gI (fun x hx=>?_) | with_reducible refine gJ (fun j x hj hx=>?_) | refine gC (spec_l24Copy x) ?_ | refine gC (spec_SetAdd x.done k l3) ?_ | refine gC (hE) ?_ | refine gC (hL) ?_ | refine gC (hM) ?_ | refine gC (hS) ?_ | intro _)) <;> (try (conv=>whnf))
 all_goals (refine⟨?_,rfl,trivial⟩;simp [*])
theorem spec_l24Ok (p:Proj) (x:Pln) (a m:Int) (hp:p.fine):Con 139 [.d p.av,.d x.av,.d (i64 a),.d (i64 m)] (.d (.bool (plnOk p x&&(hasAct p a&&(!x.done.contains a&&within m 0 ((actOf p a.toNat).modes.length - 1)))))):=by
 refine con Tryz.func139 rfl rfl Tryz.call139 rfl fun hwf=>?_
 have hA:=spec_in a 0 (((p.acts.map Activ.av).length:Int) - 1)
 rw [show within a 0 (((p.acts.map Activ.av).length:Int) - 1)=hasAct p a by rw [List.length_map];rfl] at hA
 simp only [ARs.wf,AR.wf,AV.wf,AV.wfs,List.length_map,lim] at hwf
 have hP:=spec_PlanOk p x hp
 cases h1:plnOk p x with
 | false=>
  rw [h1] at hP
  (repeat' ((conv=>whnf);first | refine gA ?_ | ((with_reducible first | refine gD (fun h=>?_) (fun h=>?_) | refine gE (fun h=>?_) (fun h=>?_)) <;> (try simp only [lm] at h) <;> try have hw:=wn h) | with_reducible refine gI (fun x hx=>?_) | with_reducible refine gJ (fun j x hj hx=>?_) | refine gV ?_ | refine gC (hP) ?_ | intro _)) <;> (try (conv=>whnf))
  exact⟨rfl,rfl,trivial⟩
 | true=>
 rw [h1] at hP
 cases h2:hasAct p a with
 | false=>
  rw [h2] at hA
  (repeat' ((conv=>whnf);first | refine gA ?_ | ((with_reducible first | refine gD (fun h=>?_) (fun h=>?_) | refine gE (fun h=>?_) (fun h=>?_)) <;> (try simp only [lm] at h) <;> try have hw:=wn h) | with_reducible refine gI (fun x hx=>?_) | with_reducible refine gJ (fun j x hj hx=>?_) | refine gV ?_ | refine gC (hP) ?_ | refine gC (hA) ?_ | intro _)) <;> (try (conv=>whnf))
  exact⟨rfl,rfl,trivial⟩
 | true=>
 rw [h2] at hA
 obtain⟨k,y,rfl,hy⟩:=hasAct_get h2
 rw [Int.toNat_natCast,actOf_get hy]
 have hmf:=modes_few (schedForm_parts (plnOk_parts h1).1).1 hy
 have hW:=spec_in m 0 (((y.modes.map Mode.av).length:Int) - 1)
 rw [show within m 0 (((y.modes.map Mode.av).length:Int) - 1)=within m 0 (y.modes.length - 1) by rw [List.length_map]] at hW
 (repeat' ((conv=>whnf);first | with_reducible refine Idx.got hy rfl ?_ | refine gA ?_ | ((with_reducible first | refine gD (fun h=>?_) (fun h=>?_) | refine gE (fun h=>?_) (fun h=>?_)) <;> (try simp only [lm] at h) <;> try have hw:=wn h) | with_reducible refine gI (fun x hx=>?_) | with_reducible refine gJ (fun j x hj hx=>?_) | refine gV ?_ | refine gC (hP) ?_ | refine gC (hA) ?_ | refine gC (spec_SetHas x.done k) ?_ | refine gC (hW) ?_ | intro _)) <;> (try (conv=>whnf))
 all_goals (refine⟨?_,rfl,trivial⟩;simp only [*];rfl)
theorem l24Ok_get {p:Proj} {x:Pln} {a m:Int} (h:(plnOk p x&&(hasAct p a&&(!x.done.contains a&&within m 0 ((actOf p a.toNat).modes.length - 1))))=true) {t:Int} (ht:0≤t∧t≤60):
  ∃(k:Nat) (y:Activ) (q:Nat) (mo:Mode),a=k∧FitGet p x k m t y q mo∧plnFits p x a m t=(decide (t+mo.dur≤p.dead)&&plnHolds p (putPln x k m t) k):=by
 simp only [Bool.and_eq_true] at h
 obtain⟨h1,h2,h3,h4⟩:=h
 obtain⟨k,y,rfl,hy⟩:=hasAct_get h2
 rw [Int.toNat_natCast,actOf_get hy] at h4
 have hw:=within_iff.1 h4
 refine⟨k,y,m.toNat,y.modes[m.toNat]'(by omega),rfl,⟨h1,hy,by omega,by simp,ht⟩,?_⟩
 rw [plnFits_at hy,h1,h3,h4,show isTime t=true from within_iff.2 ht]
 simp [List.getD_eq_getElem?_getD,show m.toNat < y.modes.length by omega]
theorem l24Ok_no {p:Proj} {x:Pln} {a m:Int} (h:(plnOk p x&&(hasAct p a&&(!x.done.contains a&&within m 0 ((actOf p a.toNat).modes.length - 1))))=false) (t:Int):plnFits p x a m t=false:=by
 cases hf:plnFits p x a m t with
 | false=>rfl
 | true=>
  simp only [plnFits,Bool.and_eq_true] at hf
  obtain⟨h1,h2,h3,h4,_⟩:=hf
  simp [h1,h2,h3,h4] at h
  simp [h] at h3
theorem spec_PlanFits (p:Proj) (x:Pln) (a m t:Int) (hp:p.fine):Con 111 [.d p.av,.d x.av,.d (i64 a),.d (i64 m),.d (i64 t)] (.d (.bool (plnFits p x a m t))):=by
 refine con Tryz.func111 rfl rfl Tryz.call111 rfl fun hwf=>?_
 have hO:=spec_l24Ok p x a m hp
 have hT:=spec_in t 0 60
 cases h:(plnOk p x&&(hasAct p a&&(!x.done.contains a&&within m 0 ((actOf p a.toNat).modes.length - 1)))) with
 | false=>
  rw [h] at hO
  rw [l24Ok_no h]
  (repeat' ((conv=>whnf);first | refine gA ?_ | ((with_reducible first | refine gD (fun h=>?_) (fun h=>?_) | refine gE (fun h=>?_) (fun h=>?_)) <;> (try simp only [lm] at h) <;> try have hw:=wn h) | refine gC (hO) ?_ | intro _)) <;> (try (conv=>whnf))
  exact⟨rfl,rfl,trivial⟩
 | true=>
 rw [h] at hO
 cases ht:within t 0 60 with
 | false=>
  rw [ht] at hT
  rw [show plnFits p x a m t=false by simp [plnFits,isTime,ht]]
  (repeat' ((conv=>whnf);first | refine gA ?_ | ((with_reducible first | refine gD (fun h=>?_) (fun h=>?_) | refine gE (fun h=>?_) (fun h=>?_)) <;> (try simp only [lm] at h) <;> try have hw:=wn h) | refine gC (hO) ?_ | refine gC (hT) ?_ | intro _)) <;> (try (conv=>whnf))
  exact⟨rfl,rfl,trivial⟩
 | true=>
 rw [ht] at hT
 obtain⟨k,y,q,mo,rfl,g,e⟩:=l24Ok_get h (within_iff.1 ht)
 rw [e]
 (repeat' ((conv=>whnf);first | refine gA ?_ | ((with_reducible first | refine gD (fun h=>?_) (fun h=>?_) | refine gE (fun h=>?_) (fun h=>?_)) <;> (try simp only [lm] at h) <;> try have hw:=wn h) | refine gC (hO) ?_ | refine gC (hT) ?_ | refine gC (spec_l24Fits p x k m t hp g) ?_ | intro _)) <;> (try (conv=>whnf))
 exact⟨rfl,rfl,trivial⟩
theorem fits_dead {p:Proj} {x:Pln} {a m t:Int} (h:plnFits p x a m t=true):t < p.dead:=by
 obtain⟨k,y,q,mo,rfl,g⟩:=fits_get h
 rw [plnFits_at g.act] at h
 simp only [Bool.and_eq_true,decide_eq_true_eq] at h
 have hs:=schedForm_parts (plnOk_parts g.ok).1
 have hdu:=(activ_mode ((projForm hs.1).act k y g.act) (List.mem_of_getElem? g.moE)).1
 have e:(y.modes.getD m.toNat ⟨0,[],[]⟩).dur=mo.dur:=by
  have:=g.mq;subst this
  simp [List.getD_eq_getElem?_getD,g.moE]
 rw [e] at h
 omega
theorem earliest_none {p:Proj} {x:Pln} {a m:Int}:∀{n:Nat} {t:Int},(∀u,t≤u→plnFits p x a m u=false)→earliest p x a m n t=none
 | 0,_,_=>rfl
 | n+1,t,h=>by rw [earliest_succ,if_neg (by simp [h t (Int.le_refl _)])];exact earliest_none fun u hu=>h u (by omega)
theorem spec_PlanEarliest (p:Proj) (x:Pln) (a m fr:Int) (hp:p.fine):Con 70 [.d p.av,.d x.av,.d (i64 a),.d (i64 m),.d (i64 fr)] (ROpt (plnEarliest p x a m fr)):=by
 refine con Tryz.func70 rfl rfl Tryz.call70 rfl fun hwf=>?_
 have hO:=spec_l24Ok p x a m hp
 cases h:(plnOk p x&&(hasAct p a&&(!x.done.contains a&&within m 0 ((actOf p a.toNat).modes.length - 1)))) with
 | false=>
  rw [h] at hO
  rw [show plnEarliest p x a m fr=none from earliest_none fun u _=>l24Ok_no h u]
  (repeat' ((conv=>whnf);first | refine gA ?_ | ((with_reducible first | refine gD (fun h=>?_) (fun h=>?_) | refine gE (fun h=>?_) (fun h=>?_)) <;> (try simp only [lm] at h) <;> try have hw:=wn h) | refine gV ?_ | refine gC (hO) ?_ | intro _)) <;> (try (conv=>whnf))
  (repeat' ((conv=>whnf) <;> (first | exact trivial | exact VC.nod (by kernel_rfl) | refine VC.mk rfl ?_)))
 | true=>
 rw [h] at hO
 have hde:=projOk_dead (schedForm_parts (plnOk_parts ((Bool.and_eq_true _ _).mp h).1).1).1
 generalize hR:plnEarliest p x a m fr=R
 have hX:=spec_l02Max 0 fr
 rw [Int.max_comm] at hX
 (repeat' ((conv=>whnf);first | refine gA ?_ | ((with_reducible first | refine gD (fun h=>?_) (fun h=>?_) | refine gE (fun h=>?_) (fun h=>?_)) <;> (try simp only [lm] at h) <;> try have hw:=wn h) | refine gV ?_ | refine gC (hO) ?_ | refine gC (hX) ?_ | intro _)) <;> (try (conv=>whnf))
 refine loopF [2,3,5,6] [5,6] [] ?_
 (conv=>whnf)
 refine LoopC.go ((Int)) (fun t=>(0≤t)∧(earliest p x a m (61 - t).toNat t=R)) (fun t=>[(12,.data (i64 t))]) (fun _=>[]) (fun _=>[]) (fun t=>(p.dead - t).toNat) (max fr 0) ?_ ?_
 ·exact⟨by omega,hR⟩
 rintro t ⟨h0,he⟩
 by_cases hlt:t < p.dead
 ·rw [show (61 - t).toNat=(61 - (t+1)).toNat+1 by omega,earliest_succ] at he
  obtain⟨k,y,q,mo,hak,g,e⟩:=l24Ok_get h (t:=t) (by omega)
  have hF:=spec_l24Fits p x k m t hp g
  rw [← e, ← hak] at hF
  cases hf:plnFits p x a m t with
  | true=>
   rw [if_pos hf] at he
   subst he
   rw [hf] at hF
   (repeat' ((conv=>whnf);first | with_reducible refine Br.yes (decide_eq_true (by omega)) ?_ | refine gA ?_ | ((with_reducible first | refine gD (fun h=>?_) (fun h=>?_) | refine gE (fun h=>?_) (fun h=>?_)) <;> (try simp only [lm] at h) <;> try have hw:=wn h) | refine gV ?_ | refine gC (hF) ?_ | intro _)) <;> (try (conv=>whnf))
   (repeat' ((conv=>whnf) <;> (first | exact trivial | exact VC.nod (by kernel_rfl) | refine VC.mk rfl ?_)))
  | false=>
   rw [if_neg (by simp [hf])] at he
   rw [hf] at hF
   (repeat' ((conv=>whnf);first | with_reducible refine Br.yes (decide_eq_true (by omega)) ?_ | refine gA ?_ | ((with_reducible first | refine gD (fun h=>?_) (fun h=>?_) | refine gE (fun h=>?_) (fun h=>?_)) <;> (try simp only [lm] at h) <;> try have hw:=wn h) | refine gV ?_ | refine gC (hF) ?_ | intro _)) <;> (try (conv=>whnf))
   refine nx (t+1) ?_
   exact⟨by omega,he⟩
 ·have hno:earliest p x a m (61 - t).toNat t=none:=earliest_none fun u hu=>by
   cases hf:plnFits p x a m u with
   | false=>rfl
   | true=>have:=fits_dead hf;omega
  rw [hno] at he
  subst he
  (repeat' ((conv=>whnf);first | with_reducible refine Br.no (decide_eq_false (by omega)) ?_ | refine gA ?_ | ((with_reducible first | refine gD (fun h=>?_) (fun h=>?_) | refine gE (fun h=>?_) (fun h=>?_)) <;> (try simp only [lm] at h) <;> try have hw:=wn h) | refine gV ?_ | intro _)) <;> (try (conv=>whnf))
  (repeat' ((conv=>whnf) <;> (first | exact trivial | exact VC.nod (by kernel_rfl) | refine VC.mk rfl ?_)))
def plnAdd (p:Proj) (x:Pln) (a m t:Int):Option Pln:=if plnFits p x a m t=true then some (putPln x a.toNat m t) else none
def RPlnD (o:Option Pln):RV:=.tup [.d (o.getD noPln).av,.d (.bool o.isSome)]
theorem spec_PlanAdd (p:Proj) (x:Pln) (a m t:Int) (hp:p.fine):Con 48 [.d p.av,.d x.av,.d (i64 a),.d (i64 m),.d (i64 t)] (RPlnD (plnAdd p x a m t)):=by
 refine con Tryz.func48 rfl rfl Tryz.call48 rfl fun hwf=>?_
 have hF:=spec_PlanFits p x a m t hp
 cases hf:plnFits p x a m t with
 | false=>
  rw [hf] at hF
  rw [plnAdd,if_neg (by simp [hf])]
  (repeat' ((conv=>whnf);first | refine gA ?_ | ((with_reducible first | refine gD (fun h=>?_) (fun h=>?_) | refine gE (fun h=>?_) (fun h=>?_)) <;> (try simp only [lm] at h) <;> try have hw:=wn h) | with_reducible refine gI (fun x hx=>?_) | with_reducible refine gJ (fun j x hj hx=>?_) | refine gC (hF) ?_ | intro _)) <;> (try (conv=>whnf))
  (repeat' ((conv=>whnf) <;> (first | exact trivial | exact VC.nod (by kernel_rfl) | refine VC.mk rfl ?_)))
 | true=>
  rw [hf] at hF
  rw [plnAdd,if_pos hf]
  obtain⟨k,y,q,mo,rfl,g⟩:=fits_get hf
  obtain⟨l1,l2,l3⟩:=fit_len g
  obtain⟨s0,hs0⟩:∃s,x.sched.starts[k]? =some s:=⟨x.sched.starts[k]'l1,by simp⟩
  obtain⟨m0,hm0⟩:∃s,x.sched.modes[k]? =some s:=⟨x.sched.modes[k]'l2,by simp⟩
  rw [Int.toNat_natCast]
  (repeat' ((conv=>whnf);first | with_reducible refine Idx.got hs0 rfl ?_ | with_reducible refine Idx.got hm0 rfl ?_ | refine gA ?_ | ((with_reducible first | refine gD (fun h=>?_) (fun h=>?_) | refine gE (fun h=>?_) (fun h=>?_)) <;> (try simp only [lm] at h) <;> try have hw:=wn h) | with_reducible refine gI (fun x hx=>?_) | with_reducible refine gJ (fun j x hj hx=>?_) | refine gC (hF) ?_ | refine gC (spec_l24Copy x) ?_ | refine gC (spec_SetAdd x.done k l3) ?_ | intro _)) <;> (try (conv=>whnf))
  (repeat' ((conv=>whnf) <;> (first | exact trivial | exact VC.nod (by kernel_rfl) | refine VC.mk (by first | with_reducible rfl | (simp [putPln,List.map_set,setPart];done) | rfl) ?_)))
theorem spec_ClampedSum (l:List Int) (hl:l.length≤1000):Con 114 [.d (ints l)] (.d (i64 (clampSum l))):=by
 refine con Tryz.func114 rfl rfl Tryz.call114 rfl fun hwf=>?_
 simp only [ARs.wf,AR.wf,AV.wf,AV.wfs,List.length_map,lim] at hwf
 generalize hR:clampSum l=R
 (repeat' ((conv=>whnf);first | refine gA ?_ | ((with_reducible first | refine gD (fun h=>?_) (fun h=>?_) | refine gE (fun h=>?_) (fun h=>?_)) <;> (try simp only [lm] at h) <;> try have hw:=wn h) | with_reducible refine gI (fun x hx=>?_) | with_reducible refine gJ (fun j x hj hx=>?_) | refine gV ?_ | intro _)) <;> (try (conv=>whnf))
 refine loopF [6,7] [] [] ?_
 (conv=>whnf)
 refine LoopC.go ((Nat)×(Int)) (fun⟨k,s⟩=>(k≤l.length)∧(-100000*(k:Int)≤s∧s≤100000*k)∧(sumOver clampOne (l.drop k) s=R)) (fun⟨k,s⟩=>[(8,.data (i64 k)),(3,.data (i64 s))]) (fun _=>[]) (fun _=>[]) (fun⟨k,s⟩=>l.length - k) ⟨0,0⟩ ?_ ?_
 ·exact⟨Nat.zero_le _,by omega,hR⟩
 rintro⟨k,s⟩ ⟨hk,hs,he⟩
 by_cases hlt:k < l.length
 ·obtain⟨x,hx⟩:∃x,l[k]? =some x:=⟨l[k]'hlt,by simp⟩
  rw [drop_get hx,sumOver] at he
  have hb: -100000≤clampOne x∧clampOne x≤100000:=by unfold clampOne;omega
  have hM:=spec_l02Max (-100000) (min 100000 x)
  rw [show max (-100000) (min 100000 x)=clampOne x by unfold clampOne;omega] at hM
  (repeat' ((conv=>whnf);first | with_reducible refine Idx.got hx rfl ?_ | (exfalso;omega) | refine gA ?_ | ((with_reducible first | refine gD (fun h=>?_) (fun h=>?_) | refine gE (fun h=>?_) (fun h=>?_)) <;> (try simp only [lm] at h) <;> try have hw:=wn h) | with_reducible refine gI (fun x hx=>?_) | with_reducible refine gJ (fun j x hj hx=>?_) | refine gV ?_ | refine gC (spec_l02Min 100000 x) ?_ | refine gC (hM) ?_ | intro _)) <;> (try (conv=>whnf))
  refine nx ⟨k+1,s+clampOne x⟩ ?_
  exact⟨by omega,by omega,he⟩
 ·rw [drop_end' (by omega),sumOver] at he
  subst he
  (repeat' ((conv=>whnf);first | (exfalso;omega) | refine gA ?_ | ((with_reducible first | refine gD (fun h=>?_) (fun h=>?_) | refine gE (fun h=>?_) (fun h=>?_)) <;> (try simp only [lm] at h) <;> try have hw:=wn h) | with_reducible refine gI (fun x hx=>?_) | with_reducible refine gJ (fun j x hj hx=>?_) | refine gV ?_ | intro _)) <;> (try (conv=>whnf))
  exact⟨rfl,rfl,trivial⟩
theorem spec_ChooseMode (p:Proj) (a:Int) (low:Bool) (hp:p.fine):Con 49 [.d p.av,.d (i64 a),.d (.bool low)] (.d (i64 (chooseMode p a low))):=by
 refine con Tryz.func49 rfl rfl Tryz.call49 rfl fun hwf=>?_
 simp only [ARs.wf,AR.wf,AV.wf,AV.wfs,List.length_map,lim] at hwf
 have hP:=spec_ProjectOk p hp
 have hA:=spec_in a 0 (((p.acts.map Activ.av).length:Int) - 1)
 rw [show within a 0 (((p.acts.map Activ.av).length:Int) - 1)=hasAct p a by rw [List.length_map];rfl] at hA
 by_cases hboth:projOk p=true∧hasAct p a=true
 rotate_left
 ·rw [chooseMode,if_neg hboth]
  (repeat' ((conv=>whnf);first | refine gA ?_ | ((with_reducible first | refine gD (fun h=>?_) (fun h=>?_) | refine gE (fun h=>?_) (fun h=>?_)) <;> (try simp only [lm] at h) <;> try have hw:=wn h) | with_reducible refine gI (fun x hx=>?_) | with_reducible refine gJ (fun j x hj hx=>?_) | refine gV ?_ | refine gC (hP) ?_ | refine gC (hA) ?_ | intro _)) <;> (try (conv=>whnf))
  all_goals first
   | exact⟨rfl,rfl,trivial⟩
   | (exfalso;exact hboth ⟨by assumption,by assumption⟩)
 obtain⟨hok,hA'⟩:=hboth
 obtain⟨k,y,rfl,hy⟩:=hasAct_get hA'
 have h3:=modes_few hok hy
 generalize hR:chooseMode p k low=R
 rw [chooseMode,if_pos ⟨hok,hA'⟩,Int.toNat_natCast,actOf_get hy] at hR
 rw [hok] at hP
 rw [hA'] at hA
 (repeat' ((conv=>whnf);first | with_reducible refine Idx.got hy rfl ?_ | refine gA ?_ | ((with_reducible first | refine gD (fun h=>?_) (fun h=>?_) | refine gE (fun h=>?_) (fun h=>?_)) <;> (try simp only [lm] at h) <;> try have hw:=wn h) | with_reducible refine gI (fun x hx=>?_) | with_reducible refine gJ (fun j x hj hx=>?_) | refine gV ?_ | refine gC (hP) ?_ | refine gC (hA) ?_ | intro _)) <;> (try (conv=>whnf))
 refine loopF [1,2,3,28,29] [3] [] ?_
 (conv=>whnf)
 refine LoopC.go ((Nat)×(Nat)×(Int)) (fun⟨i,b,v⟩=>(i≤y.modes.length)∧(i=0→b=0)∧(0 < i→∃o,y.modes[b]? =some o∧modeKey low o=v)∧(bestFrom (modeKey low) (y.modes.drop i) i b v=R)) (fun⟨i,b,v⟩=>[(30,.data (i64 i)),(7,.data (i64 b))]) (fun _=>[]) (fun _=>[]) (fun⟨i,b,v⟩=>y.modes.length - i) ⟨0,0,0⟩ ?_ ?_
 ·exact⟨Nat.zero_le _,fun _=>rfl,fun h=>absurd h (by omega),hR⟩
 rintro⟨i,b,v⟩ ⟨hi,hz,hb,he⟩
 by_cases hlt:i < y.modes.length
 ·obtain⟨m,hm⟩:∃m,y.modes[i]? =some m:=⟨y.modes[i]'hlt,by simp⟩
  have hml:=mode_lens hok hy (List.mem_of_getElem? hm)
  have hb1:=clampSum_bound (l:=m.use) (by omega)
  have hb2:=clampSum_bound (l:=m.con) (by omega)
  rw [drop_get hm,bestFrom_cons] at he
  by_cases h0:i=0
  ·obtain rfl:=hz h0
   subst h0
   rw [if_pos (.inl rfl)] at he
   cases low
   all_goals
    (repeat' ((conv=>whnf);first | with_reducible refine Idx.got hm rfl ?_ | (exfalso;omega) | with_reducible refine Idx.got hy rfl ?_ | refine gA ?_ | ((with_reducible first | refine gD (fun h=>?_) (fun h=>?_) | refine gE (fun h=>?_) (fun h=>?_)) <;> (try simp only [lm] at h) <;> try have hw:=wn h) | with_reducible refine gI (fun x hx=>?_) | with_reducible refine gJ (fun j x hj hx=>?_) | refine gV ?_ | refine gC (spec_ClampedSum m.use (by omega)) ?_ | refine gC (spec_ClampedSum m.con (by omega)) ?_ | intro _)) <;> (try (conv=>whnf))
    all_goals first
     | (exfalso;omega)
     | (apply Exists.intro (⟨1,0,_⟩)
        refine⟨?_,rfl,?_,?_⟩
        rotate_left
        ·(repeat' ((conv=>whnf) <;> (first | exact trivial | exact rfl | with_reducible refine And.intro ?_ ?_)))
        ·(try dsimp only);(try simp only [List.length_map]);omega
        exact⟨by omega,by omega,fun _=>⟨m,hm,rfl⟩,he⟩)
  ·obtain⟨o,ho,hv⟩:=hb (by omega)
   have hol:=mode_lens hok hy (List.mem_of_getElem? ho)
   have hb3:=clampSum_bound (l:=o.use) (by omega)
   have hb4:=clampSum_bound (l:=o.con) (by omega)
   by_cases hc:i=0∨modeKey low m < v
   ·rw [if_pos hc] at he
    have hcc:modeKey low m < modeKey low o:=by omega
    cases low
    all_goals
     simp only [modeKey,if_true,Bool.false_eq_true,if_false] at hcc
     (repeat' ((conv=>whnf);first | with_reducible refine Idx.got hm rfl ?_ | with_reducible refine Idx.got ho rfl ?_ | (exfalso;omega) | with_reducible refine Idx.got hy rfl ?_ | refine gA ?_ | ((with_reducible first | refine gD (fun h=>?_) (fun h=>?_) | refine gE (fun h=>?_) (fun h=>?_)) <;> (try simp only [lm] at h) <;> try have hw:=wn h) | with_reducible refine gI (fun x hx=>?_) | with_reducible refine gJ (fun j x hj hx=>?_) | refine gV ?_ | refine gC (spec_ClampedSum m.use (by omega)) ?_ | refine gC (spec_ClampedSum m.con (by omega)) ?_ | refine gC (spec_ClampedSum o.use (by omega)) ?_ | refine gC (spec_ClampedSum o.con (by omega)) ?_ | intro _)) <;> (try (conv=>whnf))
     all_goals first
      | (exfalso;omega)
      | (apply Exists.intro (⟨i+1,i,_⟩)
         refine⟨?_,rfl,?_,?_⟩
         rotate_left
         ·(repeat' ((conv=>whnf) <;> (first | exact trivial | exact rfl | with_reducible refine And.intro ?_ ?_)))
         ·(try dsimp only);(try simp only [List.length_map]);omega
         exact⟨by omega,by omega,fun _=>⟨m,hm,rfl⟩,he⟩)
   ·rw [if_neg hc] at he
    have hcc:¬ modeKey low m < modeKey low o:=by omega
    cases low
    all_goals
     simp only [modeKey,if_true,Bool.false_eq_true,if_false] at hcc
     (repeat' ((conv=>whnf);first | with_reducible refine Idx.got hm rfl ?_ | with_reducible refine Idx.got ho rfl ?_ | (exfalso;omega) | with_reducible refine Idx.got hy rfl ?_ | refine gA ?_ | ((with_reducible first | refine gD (fun h=>?_) (fun h=>?_) | refine gE (fun h=>?_) (fun h=>?_)) <;> (try simp only [lm] at h) <;> try have hw:=wn h) | with_reducible refine gI (fun x hx=>?_) | with_reducible refine gJ (fun j x hj hx=>?_) | refine gV ?_ | refine gC (spec_ClampedSum m.use (by omega)) ?_ | refine gC (spec_ClampedSum m.con (by omega)) ?_ | refine gC (spec_ClampedSum o.use (by omega)) ?_ | refine gC (spec_ClampedSum o.con (by omega)) ?_ | intro _)) <;> (try (conv=>whnf))
     all_goals first
      | (exfalso;omega)
      | (refine nx ⟨i+1,b,v⟩ ?_
         exact⟨by omega,by omega,fun _=>⟨o,ho,hv⟩,he⟩)
 ·rw [drop_end' (by omega),bestFrom_nil] at he
  subst he
  (repeat' ((conv=>whnf);first | (exfalso;omega) | refine gA ?_ | ((with_reducible first | refine gD (fun h=>?_) (fun h=>?_) | refine gE (fun h=>?_) (fun h=>?_)) <;> (try simp only [lm] at h) <;> try have hw:=wn h) | with_reducible refine gI (fun x hx=>?_) | with_reducible refine gJ (fun j x hj hx=>?_) | refine gV ?_ | intro _)) <;> (try (conv=>whnf))
  exact⟨rfl,rfl,trivial⟩
theorem spec_l07Gap (p:Proj) (i:Nat) (y:Link) (ms:List Int) (hok:projOk p=true) (hy:p.links[i]? =some y):Con 189 [.d p.av,.d (i64 i),.d (ints ms)] (.d (i64 (if y.fromEnd=true then y.lag+minDur (actOf p y.src.toNat) ms else y.lag))):=by
 refine con Tryz.func189 rfl rfl Tryz.call189 rfl fun hwf=>?_
 have hlo:=(projForm hok).link i y hy
 simp only [linkOk,Bool.and_eq_true] at hlo
 obtain⟨k,a,e1,e2⟩:=hasAct_get hlo.1.1.1
 have hlag:=within_iff.1 hlo.2
 have hb:=minDur_bound ((projForm hok).act k a e2) ms
 rw [e1,Int.toNat_natCast,actOf_get e2]
 (repeat' ((conv=>whnf);first | with_reducible refine Idx.got hy rfl ?_ | with_reducible refine Idx.got e2 e1 ?_ | refine gA ?_ | ((with_reducible first | refine gD (fun h=>?_) (fun h=>?_) | refine gE (fun h=>?_) (fun h=>?_)) <;> (try simp only [lm] at h) <;> try have hw:=wn h) | with_reducible refine gI (fun x hx=>?_) | with_reducible refine gJ (fun j x hj hx=>?_) | refine gV ?_ | refine gC (spec_MinDuration a ms) ?_ | intro _)) <;> (try (conv=>whnf))
 all_goals (refine⟨?_,rfl,trivial⟩;simp [*])
theorem spec_l07All (p:Proj) (i:Nat) (y:Link) (hok:projOk p=true) (hy:p.links[i]? =some y):Con 110 [.d p.av,.d (i64 i)] (.d (i64 (linkGap p y))):=by
 refine con Tryz.func110 rfl rfl Tryz.call110 rfl fun hwf=>?_
 have hlo:=(projForm hok).link i y hy
 simp only [linkOk,Bool.and_eq_true] at hlo
 obtain⟨k,a,e1,e2⟩:=hasAct_get hlo.1.1.1
 have hG:=spec_l07Gap p i y (intRange a.modes.length) hok hy
 rw [linkGap]
 rw [e1,Int.toNat_natCast,actOf_get e2] at hG ⊢
 (repeat' ((conv=>whnf);first | with_reducible refine Idx.got hy rfl ?_ | with_reducible refine Idx.got e2 e1 ?_ | refine gA ?_ | ((with_reducible first | refine gD (fun h=>?_) (fun h=>?_) | refine gE (fun h=>?_) (fun h=>?_)) <;> (try simp only [lm] at h) <;> try have hw:=wn h) | with_reducible refine gI (fun x hx=>?_) | with_reducible refine gJ (fun j x hj hx=>?_) | refine gC (spec_ModeIndexes a) ?_ | refine gC (hG) ?_ | intro _)) <;> (try (conv=>whnf))
 exact⟨rfl,rfl,trivial⟩
theorem spec_l07Ready (p:Proj) (a:Int) (done:List Int) (hok:projOk p=true):Con 47 [.d p.av,.d (i64 a),.d (ints done)] (.d (.bool (ready p a done))):=by
 refine con Tryz.func47 rfl rfl Tryz.call47 rfl fun hwf=>?_
 obtain⟨_,_,_,hll⟩:=proj_small hok
 generalize hQQ:ready p a done=R
 (repeat' ((conv=>whnf);first | refine gA ?_ | ((with_reducible first | refine gD (fun h=>?_) (fun h=>?_) | refine gE (fun h=>?_) (fun h=>?_)) <;> (try simp only [lm] at h) <;> try have hw:=wn h) | with_reducible refine gI (fun x hx=>?_) | with_reducible refine gJ (fun j x hj hx=>?_) | refine gV ?_ | intro _)) <;> (try (conv=>whnf))
 refine loopF [1,2,3,10,11] [3] [] ?_
 (conv=>whnf)
 refine LoopC.go ((Nat)) (fun j=>(j≤p.links.length)∧((!(p.links.drop j).any (notReady p a done))=R)) (fun j=>[(12,.data (i64 j))]) (fun _=>[]) (fun _=>[]) (fun j=>p.links.length - j) (0) ?_ ?_
 ·exact⟨Nat.zero_le _,hQQ⟩
 rintro j ⟨hj,hi⟩
 by_cases hlt:j < p.links.length
 ·obtain⟨y,hy⟩:∃y,p.links[j]? =some y:=⟨p.links[j]'hlt,by simp⟩
  rw [drop_get hy,List.any_cons] at hi
  cases hb:notReady p a done y with
  | true=>
   rw [hb] at hi
   have hi:false=R:=hi
   subst hi
   simp only [notReady,Bool.and_eq_true,decide_eq_true_eq] at hb
   obtain⟨b1,b2,b3⟩:=hb
   (repeat' ((conv=>whnf);first | with_reducible refine Idx.got hy rfl ?_ | refine gA ?_ | ((with_reducible first | refine gD (fun h=>?_) (fun h=>?_) | refine gE (fun h=>?_) (fun h=>?_)) <;> (try simp only [lm] at h) <;> try have hw:=wn h) | with_reducible refine gI (fun x hx=>?_) | with_reducible refine gJ (fun j x hj hx=>?_) | refine gV ?_ | refine gC (spec_l07All p j y hok hy) ?_ | refine gC (spec_SetHas done y.src) ?_ | intro _)) <;> (try (conv=>whnf))
   all_goals first
    | (exfalso;omega)
    | exact⟨rfl,rfl,trivial⟩
    | (exfalso;simp_all;done)
  | false=>
   rw [hb,Bool.false_or] at hi
   simp only [notReady] at hb
   (repeat' ((conv=>whnf);first | with_reducible refine Idx.got hy rfl ?_ | refine gA ?_ | ((with_reducible first | refine gD (fun h=>?_) (fun h=>?_) | refine gE (fun h=>?_) (fun h=>?_)) <;> (try simp only [lm] at h) <;> try have hw:=wn h) | with_reducible refine gI (fun x hx=>?_) | with_reducible refine gJ (fun j x hj hx=>?_) | refine gV ?_ | refine gC (spec_l07All p j y hok hy) ?_ | refine gC (spec_SetHas done y.src) ?_ | intro _)) <;> (try (conv=>whnf))
   all_goals first
    | (exfalso;omega)
    | (exfalso;simp_all;done)
    | (refine nx (j+1) ?_
       exact⟨by omega,hi⟩)
 ·rw [drop_end' (by omega)] at hi
  have hi:true=R:=hi
  subst hi
  (repeat' ((conv=>whnf);first | (exfalso;omega) | refine gA ?_ | ((with_reducible first | refine gD (fun h=>?_) (fun h=>?_) | refine gE (fun h=>?_) (fun h=>?_)) <;> (try simp only [lm] at h) <;> try have hw:=wn h) | with_reducible refine gI (fun x hx=>?_) | with_reducible refine gJ (fun j x hj hx=>?_) | refine gV ?_ | intro _)) <;> (try (conv=>whnf))
  exact⟨rfl,rfl,trivial⟩
def RSchD (o:Option Sched):RV:=.tup [.d (o.getD noSched).av,.d (.bool o.isSome)]
theorem RSchD_none:RSchD none= .tup [.d (.agg [.sl [],.sl []]),.d (.bool false)]:=rfl
theorem RSchD_some (s:Sched):RSchD (some s)= .tup [.d s.av,.d (.bool true)]:=rfl
theorem spec_l25Done (p:Proj) (x:Pln) (hp:p.fine):Con 50 [.d p.av,.d x.av] (RSchD (finishedS p x)):=by
 refine con Tryz.func50 rfl rfl Tryz.call50 rfl fun hwf=>?_
 by_cases hdn:x.done.length=p.acts.length∧schedOk p x.sched=true
 ·rw [finishedS,if_pos hdn]
  obtain⟨h1,h2⟩:=hdn
  (repeat' ((conv=>whnf);first | refine gA ?_ | ((with_reducible first | refine gD (fun h=>?_) (fun h=>?_) | refine gE (fun h=>?_) (fun h=>?_)) <;> (try simp only [lm] at h) <;> try have hw:=wn h) | refine gC (spec_ScheduleOk p x.sched hp) ?_ | intro _)) <;> (try (conv=>whnf))
  all_goals first
   | (exfalso;omega)
   | (repeat' ((conv=>whnf) <;> (first | exact trivial | exact VC.nod (by kernel_rfl) | refine VC.mk rfl ?_)))
 ·rw [finishedS,if_neg hdn]
  (repeat' ((conv=>whnf);first | refine gA ?_ | ((with_reducible first | refine gD (fun h=>?_) (fun h=>?_) | refine gE (fun h=>?_) (fun h=>?_)) <;> (try simp only [lm] at h) <;> try have hw:=wn h) | refine gC (spec_ScheduleOk p x.sched hp) ?_ | intro _)) <;> (try (conv=>whnf))
  all_goals first
   | (exfalso;exact hdn ⟨by omega,by assumption⟩)
   | (repeat' ((conv=>whnf) <;> (first | exact trivial | exact VC.nod (by kernel_rfl) | refine VC.mk rfl ?_)))
theorem spec_l25Next (p:Proj) (x:Pln) (order:List Int) (hok:projOk p=true):Con 69 [.d p.av,.d x.av,.d (ints order)] (.d (i64 (if pickedAt p x order < 0 then -1 else order.getD (pickedAt p x order).toNat 0))):=by
 refine con Tryz.func69 rfl rfl Tryz.call69 rfl fun hwf=>?_
 simp only [ARs.wf,AR.wf,AV.wf,AV.wfs,List.length_map,lim] at hwf
 generalize hQ:pickedAt p x order=Q
 unfold pickedAt at hQ
 (repeat' ((conv=>whnf);first | refine gA ?_ | ((with_reducible first | refine gD (fun h=>?_) (fun h=>?_) | refine gE (fun h=>?_) (fun h=>?_)) <;> (try simp only [lm] at h) <;> try have hw:=wn h) | with_reducible refine gI (fun x hx=>?_) | with_reducible refine gJ (fun j x hj hx=>?_) | refine gV ?_ | intro _)) <;> (try (conv=>whnf))
 refine loopF [3,4,9,10] [3,4] [] ?_
 (conv=>whnf)
 refine LoopC.go ((Nat)) (fun k=>(k≤order.length)∧(findI (pickable p x) (order.drop k) k=Q)) (fun k=>[(11,.data (i64 k))]) (fun _=>[]) (fun _=>[]) (fun k=>order.length - k) (0) ?_ ?_
 ·exact⟨by omega,hQ⟩
 rintro k ⟨hk,hi⟩
 by_cases hlt:k < order.length
 ·obtain⟨a,ha⟩:∃a,order[k]? =some a:=⟨order[k]'hlt,by simp⟩
  have hA:=spec_in a 0 (((p.acts.map Activ.av).length:Int) - 1)
  rw [show within a 0 (((p.acts.map Activ.av).length:Int) - 1)=hasAct p a by rw [List.length_map];rfl] at hA
  rw [drop_get ha,findI] at hi
  cases hpk:pickable p x a with
  | true=>
   rw [if_pos hpk] at hi
   have hi:(k:Int)=Q:=hi
   subst hi
   simp only [pickable,Bool.and_eq_true] at hpk
   obtain⟨b1,b2,b3⟩:=hpk
   (repeat' ((conv=>whnf);first | with_reducible refine Idx.got ha rfl ?_ | refine gA ?_ | ((with_reducible first | refine gD (fun h=>?_) (fun h=>?_) | refine gE (fun h=>?_) (fun h=>?_)) <;> (try simp only [lm] at h) <;> try have hw:=wn h) | with_reducible refine gI (fun x hx=>?_) | with_reducible refine gJ (fun j x hj hx=>?_) | refine gV ?_ | refine gC (hA) ?_ | refine gC (spec_SetHas x.done a) ?_ | refine gC (spec_l07Ready p a x.done hok) ?_ | intro _)) <;> (try (conv=>whnf))
   all_goals first
    | (exfalso;omega)
    | (refine⟨?_,rfl,trivial⟩;rw [if_neg (by omega),Int.toNat_natCast,List.getD_eq_getElem?_getD,ha];rfl)
    | (exfalso;simp_all;done)
  | false=>
   rw [if_neg (by simp [hpk])] at hi
   simp only [pickable] at hpk
   (repeat' ((conv=>whnf);first | with_reducible refine Idx.got ha rfl ?_ | refine gA ?_ | ((with_reducible first | refine gD (fun h=>?_) (fun h=>?_) | refine gE (fun h=>?_) (fun h=>?_)) <;> (try simp only [lm] at h) <;> try have hw:=wn h) | with_reducible refine gI (fun x hx=>?_) | with_reducible refine gJ (fun j x hj hx=>?_) | refine gV ?_ | refine gC (hA) ?_ | refine gC (spec_SetHas x.done a) ?_ | refine gC (spec_l07Ready p a x.done hok) ?_ | intro _)) <;> (try (conv=>whnf))
   all_goals first
    | (exfalso;omega)
    | (exfalso;simp_all;done)
    | (refine nx (k+1) ?_
       exact⟨by omega,hi⟩)
 ·rw [drop_end' (by omega)] at hi
  have hi:(-1:Int)=Q:=hi
  subst hi
  (repeat' ((conv=>whnf);first | (exfalso;omega) | refine gA ?_ | ((with_reducible first | refine gD (fun h=>?_) (fun h=>?_) | refine gE (fun h=>?_) (fun h=>?_)) <;> (try simp only [lm] at h) <;> try have hw:=wn h) | with_reducible refine gI (fun x hx=>?_) | with_reducible refine gJ (fun j x hj hx=>?_) | refine gV ?_ | intro _)) <;> (try (conv=>whnf))
  exact⟨rfl,rfl,trivial⟩
theorem earliest_out {p:Proj} {x:Pln} {a m fr:Int} (h:hasAct p a=false):plnEarliest p x a m fr=none:=earliest_none fun u _=>by
 cases hf:plnFits p x a m u with
 | false=>rfl
 | true=>simp only [plnFits,h,Bool.false_and,Bool.and_false] at hf;cases hf
theorem hasAct_neg (p:Proj):hasAct p (-1)=false:=within_no.2 (by omega)
theorem plnAdd_yes {p:Proj} {x:Pln} {k:Nat} {m t:Int} (h:plnFits p x k m t=true):plnAdd p x k m t=some (putPln x k m t):=by rw [plnAdd,if_pos h,Int.toNat_natCast]
attribute [local irreducible] plnFits plnEarliest chooseMode pickedAt finishedS putPln newPln schedOk plnAdd
theorem spec_SerialSchedule (p:Proj) (order:List Int) (low:Bool) (hp:p.fine):Con 22 [.d p.av,.d (ints order),.d (.bool low)] (RSchD (serial p order low)):=by
 refine con Tryz.func22 rfl rfl Tryz.call22 rfl fun hwf=>?_
 simp only [ARs.wf,AR.wf,AV.wf,AV.wfs,List.length_map,lim] at hwf
 have hP:=spec_ProjectOk p hp
 generalize hR:serial p order low=R
 cases ho:projOk p with
 | false=>
  rw [serial,if_neg (by simp [ho])] at hR
  subst hR
  rw [ho] at hP
  rw [RSchD_none]
  (repeat' ((conv=>whnf);first | refine gA ?_ | ((with_reducible first | refine gD (fun h=>?_) (fun h=>?_) | refine gE (fun h=>?_) (fun h=>?_)) <;> (try simp only [lm] at h) <;> try have hw:=wn h) | refine gV ?_ | refine gC (hP) ?_ | refine gC (spec_NewPlan p hp) ?_ | intro _)) <;> (try (conv=>whnf))
  (repeat' ((conv=>whnf) <;> (first | exact trivial | exact VC.nod (by kernel_rfl) | refine VC.mk rfl ?_)))
 | true=>
 rw [serial,if_pos ho] at hR
 rw [ho] at hP
 (repeat' ((conv=>whnf);first | refine gA ?_ | ((with_reducible first | refine gD (fun h=>?_) (fun h=>?_) | refine gE (fun h=>?_) (fun h=>?_)) <;> (try simp only [lm] at h) <;> try have hw:=wn h) | refine gV ?_ | refine gC (hP) ?_ | refine gC (spec_NewPlan p hp) ?_ | intro _)) <;> (try (conv=>whnf))
 refine loopF [1,2,3,6,8,21] [3,6] [] ?_
 (conv=>whnf)
 refine LoopC.go ((Nat)×(Pln)) (fun⟨k,x⟩=>(k≤p.acts.length)∧(serialEnd p order low (p.acts.length - k) x=R)) (fun⟨k,x⟩=>[(22,.data (i64 k))]) (fun⟨k,x⟩=>[(8,(AV.cells x.av).map SV.data)]) (fun _=>[]) (fun⟨k,x⟩=>p.acts.length - k) ⟨0,newPln p⟩ ?_ ?_
 ·exact⟨Nat.zero_le _,hR⟩
 rintro⟨k,x⟩ ⟨hk,he⟩
 by_cases hlt:k < p.acts.length
 ·rw [show p.acts.length - k=(p.acts.length - (k+1))+1 by omega,serialEnd_succ] at he
  have hI:=spec_l25Next p x order ho
  have hfl:=findI_lt (p:=pickable p x) order 0
  rw [show findI (pickable p x) order 0=pickedAt p x order by unfold pickedAt;rfl] at hfl
  by_cases hneg:pickedAt p x order < 0
  ·rw [serialStep_no hneg] at he
   dsimp only at he
   subst he
   rw [if_pos hneg] at hI
   have hE:=spec_PlanEarliest p x (-1) (chooseMode p (-1) low) 0 hp
   rw [ROpt,earliest_out (hasAct_neg p)] at hE
   dsimp only [Option.getD,Option.isSome] at hE
   rw [RSchD_none]
   (repeat' ((conv=>whnf);first | (exfalso;omega) | refine gA ?_ | ((with_reducible first | refine gD (fun h=>?_) (fun h=>?_) | refine gE (fun h=>?_) (fun h=>?_)) <;> (try simp only [lm] at h) <;> try have hw:=wn h) | refine gV ?_ | refine gC (hI) ?_ | refine gC (spec_ChooseMode p (-1) low hp) ?_ | refine gC (hE) ?_ | intro _)) <;> (try (conv=>whnf))
   (repeat' ((conv=>whnf) <;> (first | exact trivial | exact VC.nod (by kernel_rfl) | refine VC.mk rfl ?_)))
  ·obtain⟨i,hi⟩:∃i:Nat,pickedAt p x order=i:=⟨(pickedAt p x order).toNat,by omega⟩
   obtain⟨a,ha⟩:∃a,order[i]? =some a:=⟨order[i]'(by omega),by simp⟩
   rw [serialStep_at hi ha] at he
   rw [if_neg hneg,hi,Int.toNat_natCast,List.getD_eq_getElem?_getD,ha,Option.getD_some] at hI
   have hE:=spec_PlanEarliest p x a (chooseMode p a low) 0 hp
   cases h1:plnEarliest p x a (chooseMode p a low) 0 with
   | none=>
    rw [putAt_none h1] at he
    dsimp only at he
    subst he
    rw [ROpt,h1] at hE
    dsimp only [Option.getD,Option.isSome] at hE
    rw [RSchD_none]
    (repeat' ((conv=>whnf);first | (exfalso;omega) | refine gA ?_ | ((with_reducible first | refine gD (fun h=>?_) (fun h=>?_) | refine gE (fun h=>?_) (fun h=>?_)) <;> (try simp only [lm] at h) <;> try have hw:=wn h) | refine gV ?_ | refine gC (hI) ?_ | refine gC (spec_ChooseMode p a low hp) ?_ | refine gC (hE) ?_ | intro _)) <;> (try (conv=>whnf))
    (repeat' ((conv=>whnf) <;> (first | exact trivial | exact VC.nod (by kernel_rfl) | refine VC.mk rfl ?_)))
   | some t=>
    rw [putAt_some h1] at he
    dsimp only at he
    rw [ROpt,h1] at hE
    dsimp only [Option.getD,Option.isSome] at hE
    have hfit:plnFits p x a (chooseMode p a low) t=true:=earliest_fits (by unfold plnEarliest at h1;exact h1)
    obtain⟨ka,y,q,mo,rfl,g⟩:=fits_get hfit
    have hD:=spec_PlanAdd p x ka (chooseMode p ka low) t hp
    rw [RPlnD,plnAdd_yes hfit] at hD
    dsimp only [Option.getD,Option.isSome] at hD
    rw [Int.toNat_natCast] at he
    (repeat' ((conv=>whnf);first | (exfalso;omega) | refine gA ?_ | ((with_reducible first | refine gD (fun h=>?_) (fun h=>?_) | refine gE (fun h=>?_) (fun h=>?_)) <;> (try simp only [lm] at h) <;> try have hw:=wn h) | refine gV ?_ | refine gC (hI) ?_ | refine gC (spec_ChooseMode p ka low hp) ?_ | refine gC (hE) ?_ | refine gC (hD) ?_ | intro _)) <;> (try (conv=>whnf))
    refine nx ⟨k+1,putPln x ka (chooseMode p ka low) t⟩ ?_
    exact⟨by omega,he⟩
 ·rw [show p.acts.length - k=0 by omega,serialEnd_zero] at he
  have hD:=spec_l25Done p x hp
  rw [he] at hD
  (repeat' ((conv=>whnf);first | (exfalso;omega) | refine gA ?_ | ((with_reducible first | refine gD (fun h=>?_) (fun h=>?_) | refine gE (fun h=>?_) (fun h=>?_)) <;> (try simp only [lm] at h) <;> try have hw:=wn h) | refine gV ?_ | refine gC (hD) ?_ | intro _)) <;> (try (conv=>whnf))
  (repeat' ((conv=>whnf) <;> (first | exact trivial | exact VC.nod (by kernel_rfl) | refine VC.mk rfl ?_)))
attribute [local irreducible] parStep parFrom ready
end Go.Proofs.YtkiohdpapinecaaGreat.Abs
