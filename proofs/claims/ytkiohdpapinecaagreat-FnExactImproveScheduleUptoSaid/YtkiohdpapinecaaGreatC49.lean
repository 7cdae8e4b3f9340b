/- Contracts: schedules that are made better, step by step: both sides. No statement of a claim. -/
import Derived.Test.YtkiohdpapinecaaGreatImp
set_option linter.all false
set_option linter.unusedVariables false
set_option linter.unusedSimpArgs false
set_option maxRecDepth 20000
set_option maxHeartbeats 8000000
namespace Go.Proofs.YtkiohdpapinecaaGreat.Abs
open Go.Proofs Go.RowKit
def improveFrom (p:Proj):Nat→Nat→Sched→Sched×Nat
 | 0,n,o=>(o,n)
 | f+1,n,o=>match swapImprove p o with | none=>(o,n) | some x=>improveFrom p f (n+1) (shifted p x)
theorem improveFrom_zero (p:Proj) (n:Nat) (o:Sched):improveFrom p 0 n o=(o,n):=rfl
theorem improveFrom_succ (p:Proj) (f n:Nat) (o:Sched):improveFrom p (f+1) n o=(match swapImprove p o with | none=>(o,n) | some x=>improveFrom p f (n+1) (shifted p x)):=rfl
def improved (p:Proj) (s:Sched) (most:Int):Sched×Nat:=if schedOk p s=true∧within most 0 10=true then improveFrom p most.toNat 0 (shifted p s) else (s,0)
def RImpL (r:Sched×Nat):RV:=.tup [.agg [.lin 3 (r.1.starts.map i64),.lin 3 (r.1.modes.map i64)],.d (i64 r.2)]
def RImpD (r:Sched×Nat):RV:=.tup [.d r.1.av,.d (i64 r.2)]
attribute [local irreducible] schedOk makespan serial startOrder orderN swapImprove shifted
theorem impl_ImproveSchedule (p:Proj) (s:Sched) (most:Int) (hp:p.fine):Con 32 [.d p.av,.d s.av,.d (i64 most)] (RImpL (improved p s most)):=by
 refine con Tryz.func32 rfl rfl Tryz.call32 rfl fun hwf=>?_
 have hP:=impl_ScheduleOk p s hp
 have hW:=impl_within most 0 10
 by_cases hc:schedOk p s=true∧within most 0 10=true
 rotate_left
 ·rw [improved,if_neg hc]
  (repeat' ((conv=>whnf);first | refine gA ?_ | ((with_reducible first | refine gD (fun h=>?_) (fun h=>?_) | refine gE (fun h=>?_) (fun h=>?_)) <;> (try simp only [lm] at h) <;> try have hw:=wn h) | refine gV ?_ | refine gC (hP) ?_ | refine gC (hW) ?_ | refine gC (impl_copiedSch s) ?_ | intro _)) <;> (try (conv=>whnf))
  all_goals first
   | (exfalso;exact hc ⟨by assumption,by assumption⟩)
   | (repeat' ((conv=>whnf) <;> (first | exact trivial | exact VC.nod (by kernel_rfl) | refine VC.mk rfl ?_)))
 rw [improved,if_pos hc]
 obtain⟨ho,hw⟩:=hc
 have hwi:=within_iff.1 hw
 rw [ho] at hP
 rw [hw] at hW
 have hSh:=impl_ShiftEarlier p s hp
 rw [shiftE,if_pos ho,RSchL_some] at hSh
 have hso:=shifted_ok ho
 generalize shifted p s=s1 at hSh hso ⊢
 generalize hR:improveFrom p most.toNat 0 s1=R
 (repeat' ((conv=>whnf);first | refine gA ?_ | ((with_reducible first | refine gD (fun h=>?_) (fun h=>?_) | refine gE (fun h=>?_) (fun h=>?_)) <;> (try simp only [lm] at h) <;> try have hw:=wn h) | refine gV ?_ | refine gC (hP) ?_ | refine gC (hW) ?_ | refine gC (hSh) ?_ | intro _)) <;> (try (conv=>whnf))
 refine loopF [2,3,6,8] [3,6] [900001,900002] ?_
 (conv=>whnf)
 refine LoopC.go ((Nat)×(Sched)) (fun⟨n,o⟩=>((n:Int)≤most)∧(schedOk p o=true)∧(improveFrom p (most.toNat - n) n o=R)) (fun⟨n,o⟩=>[(10,.data (i64 n))]) (fun⟨n,o⟩=>[(8,[.own 900001 0,.own 900002 0])]) (fun⟨n,o⟩=>[(900001,3,o.starts.map i64,2),(900002,3,o.modes.map i64,2)]) (fun⟨n,o⟩=>most.toNat - n) ⟨0,s1⟩ ?_ ?_
 ·exact⟨by omega,hso,hR⟩
 rintro⟨n,o⟩ ⟨hn,hok,he⟩
 by_cases hlt:(n:Int) < most
 rotate_left
 ·rw [show most.toNat - n=0 by omega,improveFrom_zero] at he
  subst he
  (repeat' ((conv=>whnf);first | (exfalso;omega) | refine gA ?_ | ((with_reducible first | refine gD (fun h=>?_) (fun h=>?_) | refine gE (fun h=>?_) (fun h=>?_)) <;> (try simp only [lm] at h) <;> try have hw:=wn h) | refine gV ?_ | intro _)) <;> (try (conv=>whnf))
  (repeat' ((conv=>whnf) <;> (first | exact trivial | exact VC.nod (by kernel_rfl) | refine VC.mk rfl ?_)))
 rw [show most.toNat - n=(most.toNat - (n+1))+1 by omega,improveFrom_succ] at he
 have hSw:=impl_SwapImprove p o hp
 cases h1:swapImprove p o with
 | none=>
  rw [h1] at he
  have he:(o,n)=R:=he
  subst he
  rw [h1,RSchL_none] at hSw
  (repeat' ((conv=>whnf);first | (exfalso;omega) | refine gA ?_ | ((with_reducible first | refine gD (fun h=>?_) (fun h=>?_) | refine gE (fun h=>?_) (fun h=>?_)) <;> (try simp only [lm] at h) <;> try have hw:=wn h) | refine gV ?_ | refine gC (hSw) ?_ | intro _)) <;> (try (conv=>whnf))
  all_goals first
   | (exfalso;exact absurd trivial (by assumption))
   | (repeat' ((conv=>whnf) <;> (first | exact trivial | exact VC.nod (by kernel_rfl) | refine VC.mk rfl ?_)))
 | some x=>
  rw [h1] at he
  have he:improveFrom p (most.toNat - (n+1)) (n+1) (shifted p x)=R:=he
  rw [h1,RSchL_some] at hSw
  have hx:=swapImprove_ok h1
  have hSx:=impl_ShiftEarlier p x hp
  rw [shiftE,if_pos hx,RSchL_some] at hSx
  have hxo:=shifted_ok hx
  generalize shifted p x=x1 at hSx hxo he
  (repeat' ((conv=>whnf);first | (exfalso;omega) | refine gA ?_ | ((with_reducible first | refine gD (fun h=>?_) (fun h=>?_) | refine gE (fun h=>?_) (fun h=>?_)) <;> (try simp only [lm] at h) <;> try have hw:=wn h) | refine gV ?_ | refine gC (hSw) ?_ | refine gC (hSx) ?_ | intro _)) <;> (try (conv=>whnf))
  all_goals first
   | (exfalso;exact absurd trivial (by assumption))
   | (refine nx ⟨n+1,x1⟩ ?_
      exact⟨by omega,hxo,he⟩)
theorem spec_SwapImprove (p:Proj) (s:Sched) (hp:p.fine):Con 29 [.d p.av,.d s.av] (RSchD (swapImprove p s)):=by
 refine con Tryz.func29 rfl rfl Tryz.call29 rfl fun hwf=>?_
 have hP:=spec_ScheduleOk p s hp
 generalize hR:swapImprove p s=R
 unfold swapImprove at hR
 cases ho:schedOk p s with
 | false=>
  rw [if_neg (by simp [ho])] at hR
  subst hR
  rw [ho] at hP
  rw [RSchD_none]
  (repeat' ((conv=>whnf);first | refine gA ?_ | ((with_reducible first | refine gD (fun h=>?_) (fun h=>?_) | refine gE (fun h=>?_) (fun h=>?_)) <;> (try simp only [lm] at h) <;> try have hw:=wn h) | with_reducible refine gI (fun x hx=>?_) | with_reducible refine gJ (fun j x hj hx=>?_) | refine gP ?_ | refine gV ?_ | refine gC (hP) ?_ | intro _)) <;> (try (conv=>whnf))
  (repeat' ((conv=>whnf) <;> (first | exact trivial | exact VC.nod (by kernel_rfl) | refine VC.mk rfl ?_)))
 | true=>
 rw [if_pos ho] at hR
 rw [ho] at hP
 obtain⟨hf,hok,hn1,hn6,hn,hm⟩:=schedOk_parts ho
 have hSO:=spec_StartOrder s (by omega)
 have hol:=startOrder_len s.starts
 have hb:=makespan_bound p s
 have hM:=spec_Makespan p s hp
 generalize startOrder s.starts=O at hSO hol hR
 (repeat' ((conv=>whnf);first | refine gA ?_ | ((with_reducible first | refine gD (fun h=>?_) (fun h=>?_) | refine gE (fun h=>?_) (fun h=>?_)) <;> (try simp only [lm] at h) <;> try have hw:=wn h) | with_reducible refine gI (fun x hx=>?_) | with_reducible refine gJ (fun j x hj hx=>?_) | refine gP ?_ | refine gV ?_ | refine gC (hP) ?_ | refine gC (hSO) ?_ | intro _)) <;> (try (conv=>whnf))
 refine loopF [2,3,4,6] [2,3,4] [] ?_
 (conv=>whnf)
 refine LoopC.go ((Nat)) (fun j=>(j+1≤s.starts.length)∧(swapFrom p s O (s.starts.length - 1 - j) j=R)) (fun j=>[(7,.data (i64 j))]) (fun _=>[]) (fun _=>[]) (fun j=>s.starts.length - 1 - j) (0) ?_ ?_
 ·exact⟨by omega,hR⟩
 rintro j ⟨hj,he⟩
 by_cases hlt:j+1 < s.starts.length
 rotate_left
 ·rw [show s.starts.length - 1 - j=0 by omega,swapFrom_zero] at he
  subst he
  rw [RSchD_none]
  (repeat' ((conv=>whnf);first | (exfalso;omega) | refine gA ?_ | ((with_reducible first | refine gD (fun h=>?_) (fun h=>?_) | refine gE (fun h=>?_) (fun h=>?_)) <;> (try simp only [lm] at h) <;> try have hw:=wn h) | with_reducible refine gI (fun x hx=>?_) | with_reducible refine gJ (fun j x hj hx=>?_) | refine gP ?_ | refine gV ?_ | intro _)) <;> (try (conv=>whnf))
  (repeat' ((conv=>whnf) <;> (first | exact trivial | exact VC.nod (by kernel_rfl) | refine VC.mk rfl ?_)))
 rw [show s.starts.length - 1 - j=(s.starts.length - 1 - (j+1))+1 by omega,swapFrom_succ] at he
 obtain⟨x,hx⟩:∃x,O[j]? =some x:=⟨O[j]'(by omega),by simp⟩
 obtain⟨y,hy⟩:∃x,O[j+1]? =some x:=⟨O[j+1]'(by omega),by simp⟩
 have ej:((j:Int)+1)=((j+1:Nat):Int):=by omega
 have hsw:(swapped O j).map i64=((([]:List AV)++O.map i64).set j (setPart (i64 x) 0 (i64 y))).set (j+1) (setPart (i64 y) 0 (i64 x)):=by
  simp [swapped,List.map_set,setPart,List.getD_eq_getElem?_getD,hx,hy]
 have hsk:(([]:List AV)++O.map i64)[j]? =some (i64 x):=by
  rw [List.nil_append,List.getElem?_map,hx];rfl
 have hsl:((([]:List AV)++O.map i64).set j (setPart (i64 x) 0 (i64 y)))[j+1]? =some (i64 y):=by
  rw [List.getElem?_set_ne (by omega),List.nil_append,List.getElem?_map,hy];rfl
 generalize hL:swapped O j=L at he hsw
 (repeat' ((conv=>whnf);first | (exfalso;omega) | with_reducible refine Idx.got hy ej ?_ | with_reducible refine Idx.got hy rfl ?_ | with_reducible refine Idx.got hx rfl ?_ | with_reducible refine Idx.raw hsk rfl ?_ | with_reducible refine Idx.raw hsl ej ?_ | with_reducible refine Idx.raw hsl rfl ?_ | refine gA ?_ | ((with_reducible first | refine gD (fun h=>?_) (fun h=>?_) | refine gE (fun h=>?_) (fun h=>?_)) <;> (try simp only [lm] at h) <;> try have hw:=wn h) | with_reducible refine gI (fun x hx=>?_) | with_reducible refine gJ (fun j x hj hx=>?_) | refine gP ?_ | refine gV ?_ | intro _)) <;> (try (conv=>whnf))
 refine loopF [2,3,4,6,7,8,46,47] [2,3,4] [27] ?_
 (conv=>whnf)
 refine LoopC.mk ((Nat)) (fun k=>(k≤2)∧(orNext (tryFrom p s L k) (swapFrom p s O (s.starts.length - 1 - (j+1)) (j+1))=R)) (fun k=>[(48,.data (i64 k))]) (fun _=>[]) (fun k=>[(27,3,L.map i64,2)]) (fun k=>2 - k) (0) ?_ ?_ ?_
 rotate_left
 ·(repeat' ((conv=>whnf) <;> (first | exact trivial | exact rfl | with_reducible refine And.intro ?_ ?_))) <;> ((conv=>whnf) <;> (exact hsw.symm))
 rotate_left
 ·exact⟨by omega,by rw [tryFrom_zero];exact he⟩
 rintro k ⟨hk,hz⟩
 by_cases hk2:k < 2
 rotate_left
 ·obtain rfl:k=2:=by omega
  rw [tryFrom_two] at hz
  (repeat' ((conv=>whnf);first | (exfalso;first | omega | (simp only [List.length_cons,List.length_nil] at h;omega)) | refine gA ?_ | ((with_reducible first | refine gD (fun h=>?_) (fun h=>?_) | refine gE (fun h=>?_) (fun h=>?_)) <;> (try simp only [lm] at h) <;> try have hw:=wn h) | with_reducible refine gI (fun x hx=>?_) | with_reducible refine gJ (fun j x hj hx=>?_) | refine gP ?_ | refine gV ?_ | intro _)) <;> (try (conv=>whnf))
  refine nx (j+1) ?_
  exact⟨by omega,hz⟩
 rw [try_step p s L k hk2] at hz
 have hS:=spec_SerialSchedule p L (lowAt k) hp
 have hI: [AV.bool false,AV.bool true][k]? =some (.bool (lowAt k)):=by
  rcases k with _ | _ | k
  ·rfl
  ·rfl
  ·omega
 cases hser:serial p L (lowAt k) with
 | none=>
  rw [tryLow_none hser] at hz
  have hz:orNext (tryFrom p s L (k+1)) (swapFrom p s O (s.starts.length - 1 - (j+1)) (j+1))=R:=hz
  rw [hser,RSchD_none] at hS
  (repeat' ((conv=>whnf);first | (exfalso;first | omega | (simp only [List.length_cons,List.length_nil] at h;omega)) | refine Idx.raw hI rfl ?_ | refine gA ?_ | ((with_reducible first | refine gD (fun h=>?_) (fun h=>?_) | refine gE (fun h=>?_) (fun h=>?_)) <;> (try simp only [lm] at h) <;> try have hw:=wn h) | with_reducible refine gI (fun x hx=>?_) | with_reducible refine gJ (fun j x hj hx=>?_) | refine gP ?_ | refine gV ?_ | refine gC (hS) ?_ | intro _)) <;> (try (conv=>whnf))
  all_goals first
   | (exfalso;exact absurd trivial (by assumption))
   | (refine nx (k+1) ?_
      exact⟨by omega,hz⟩)
 | some z=>
  rw [hser,RSchD_some] at hS
  have hMz:=spec_Makespan p z hp
  rw [tryLow_some hser] at hz
  by_cases hc:makespan p z < makespan p s
  ·rw [if_pos hc] at hz
   have hz:some z=R:=hz
   subst hz
   rw [RSchD_some]
   (repeat' ((conv=>whnf);first | (exfalso;first | omega | (simp only [List.length_cons,List.length_nil] at h;omega)) | refine Idx.raw hI rfl ?_ | refine gA ?_ | ((with_reducible first | refine gD (fun h=>?_) (fun h=>?_) | refine gE (fun h=>?_) (fun h=>?_)) <;> (try simp only [lm] at h) <;> try have hw:=wn h) | with_reducible refine gI (fun x hx=>?_) | with_reducible refine gJ (fun j x hj hx=>?_) | refine gP ?_ | refine gV ?_ | refine gC (hS) ?_ | refine gC (hMz) ?_ | refine gC (hM) ?_ | intro _)) <;> (try (conv=>whnf))
   all_goals first
    | (exfalso;omega)
    | (repeat' ((conv=>whnf) <;> (first | exact trivial | exact VC.nod (by kernel_rfl) | refine VC.mk rfl ?_)))
  ·rw [if_neg hc] at hz
   have hz:orNext (tryFrom p s L (k+1)) (swapFrom p s O (s.starts.length - 1 - (j+1)) (j+1))=R:=hz
   (repeat' ((conv=>whnf);first | (exfalso;first | omega | (simp only [List.length_cons,List.length_nil] at h;omega)) | refine Idx.raw hI rfl ?_ | refine gA ?_ | ((with_reducible first | refine gD (fun h=>?_) (fun h=>?_) | refine gE (fun h=>?_) (fun h=>?_)) <;> (try simp only [lm] at h) <;> try have hw:=wn h) | with_reducible refine gI (fun x hx=>?_) | with_reducible refine gJ (fun j x hj hx=>?_) | refine gP ?_ | refine gV ?_ | refine gC (hS) ?_ | refine gC (hMz) ?_ | refine gC (hM) ?_ | intro _)) <;> (try (conv=>whnf))
   all_goals first
    | (exfalso;omega)
    | (refine nx (k+1) ?_
       exact⟨by omega,hz⟩)
theorem spec_l26Early (p:Proj) (s:Sched) (hp:p.fine) (ho:schedOk p s=true):Con 89 [.d p.av,.d s.av] (.d (shifted p s).av):=by
 refine con Tryz.func89 rfl rfl Tryz.call89 rfl fun hwf=>?_
 obtain⟨hf,hok,hn1,hn6,hn,hm⟩:=schedOk_parts ho
 have hSO:=spec_StartOrder s (by omega)
 rw [show startOrder s.starts=(orderN s.starts s.starts.length).map Int.ofNat by unfold startOrder;rfl] at hSO
 have hol:=orderN_len s.starts s.starts.length
 have hoi:=orderN_lt s.starts s.starts.length
 generalize hR:shifted p s=R
 unfold shifted at hR
 generalize orderN s.starts s.starts.length=O at hSO hol hoi hR
 (repeat' ((conv=>whnf);first | refine gA ?_ | ((with_reducible first | refine gD (fun h=>?_) (fun h=>?_) | refine gE (fun h=>?_) (fun h=>?_)) <;> (try simp only [lm] at h) <;> try have hw:=wn h) | with_reducible refine gI (fun x hx=>?_) | with_reducible refine gJ (fun j x hj hx=>?_) | refine gV ?_ | refine gC (spec_l09Copy s) ?_ | refine gC (hSO) ?_ | intro _)) <;> (try (conv=>whnf))
 refine loopF [2,3,4,5,13,14] [2,3,4] [] ?_
 (conv=>whnf)
 refine LoopC.go ((Nat)×(Sched)) (fun⟨m,o⟩=>(m≤O.length)∧(o.starts.length=s.starts.length)∧((O.drop m).foldl (early p s) o=R)) (fun⟨m,o⟩=>[(15,.data (i64 m))]) (fun⟨m,o⟩=>[(5,(AV.cells o.av).map SV.data)]) (fun _=>[]) (fun⟨m,o⟩=>O.length - m) ⟨0,s⟩ ?_ ?_
 ·exact⟨Nat.zero_le _,rfl,hR⟩
 rintro⟨m,o⟩ ⟨hm',hl,he⟩
 by_cases hlt:m < O.length
 rotate_left
 ·rw [drop_end' (by omega),List.foldl_nil] at he
  subst he
  (repeat' ((conv=>whnf);first | (exfalso;omega) | refine gA ?_ | ((with_reducible first | refine gD (fun h=>?_) (fun h=>?_) | refine gE (fun h=>?_) (fun h=>?_)) <;> (try simp only [lm] at h) <;> try have hw:=wn h) | with_reducible refine gI (fun x hx=>?_) | with_reducible refine gJ (fun j x hj hx=>?_) | refine gV ?_ | intro _)) <;> (try (conv=>whnf))
  (repeat' ((conv=>whnf) <;> (first | exact trivial | exact VC.nod (by kernel_rfl) | refine VC.mk rfl ?_)))
 obtain⟨a,ha⟩:∃a,O[m]? =some a:=⟨O[m]'hlt,by simp⟩
 have hal:=hoi a (List.mem_of_getElem? ha)
 have ha':(O.map Int.ofNat)[m]? =some (a:Int):=by rw [List.getElem?_map,ha];rfl
 obtain⟨a0,t0,m0,q0,mo0,g0⟩:=s_get hf (show a < p.acts.length by omega)
 have htb:=g0.tb
 obtain⟨T,rfl⟩:∃T:Nat,t0=T:=⟨t0.toNat,by omega⟩
 rw [drop_get ha,List.foldl_cons,early,show (s.starts.getD a 0).toNat=T by rw [List.getD_eq_getElem?_getD,g0.start];rfl] at he
 obtain⟨w,hw⟩:∃w,o.starts[a]? =some w:=⟨o.starts[a]'(by omega),by simp⟩
 (repeat' ((conv=>whnf);first | with_reducible refine Idx.got ha' rfl ?_ | (exfalso;omega) | refine gA ?_ | ((with_reducible first | refine gD (fun h=>?_) (fun h=>?_) | refine gE (fun h=>?_) (fun h=>?_)) <;> (try simp only [lm] at h) <;> try have hw:=wn h) | with_reducible refine gI (fun x hx=>?_) | with_reducible refine gJ (fun j x hj hx=>?_) | refine gV ?_ | intro _)) <;> (try (conv=>whnf))
 refine loopF [2,3,4,5,7,13,14,15] [2,3,4,5] [] ?_
 (conv=>whnf)
 refine LoopC.go ((Nat)) (fun t=>(t≤T)∧((O.drop (m+1)).foldl (early p s) (earlyFrom p o a (T - t) t)=R)) (fun t=>[(8,.data (i64 t))]) (fun _=>[]) (fun _=>[]) (fun t=>T+1 - t) (0) ?_ ?_
 ·exact⟨Nat.zero_le _,he⟩
 rintro t ⟨ht,hE⟩
 by_cases htT:t < T
 rotate_left
 ·rw [show T - t=0 by omega,earlyFrom_zero] at hE
  (repeat' ((conv=>whnf);first | with_reducible refine Idx.got g0.start rfl ?_ | (exfalso;omega) | refine gA ?_ | ((with_reducible first | refine gD (fun h=>?_) (fun h=>?_) | refine gE (fun h=>?_) (fun h=>?_)) <;> (try simp only [lm] at h) <;> try have hw:=wn h) | with_reducible refine gI (fun x hx=>?_) | with_reducible refine gJ (fun j x hj hx=>?_) | refine gV ?_ | intro _)) <;> (try (conv=>whnf))
  refine nx ⟨m+1,o⟩ ?_
  exact⟨by omega,hl,hE⟩
 rw [show T - t=(T - (t+1))+1 by omega,earlyFrom_succ] at hE
 have hS:=spec_ScheduleOk p ⟨o.starts.set a t,o.modes⟩ hp
 have eS:(o.starts.map i64).set a (setPart (i64 w) 0 (i64 t))=(o.starts.set a (t:Int)).map i64:=by simp [List.map_set,setPart]
 have eav:(⟨o.starts.set a t,o.modes⟩:Sched).av= .agg [.sl ((o.starts.map i64).set a (setPart (i64 w) 0 (i64 t))),ints o.modes]:=by rw [eS]
 rw [eav] at hS
 cases hok2:schedOk p ⟨o.starts.set a t,o.modes⟩ with
 | true=>
  rw [hok2] at hS
  rw [if_pos hok2] at hE
  (repeat' ((conv=>whnf);first | with_reducible refine Idx.got g0.start rfl ?_ | with_reducible refine Idx.got hw rfl ?_ | (exfalso;omega) | refine gA ?_ | ((with_reducible first | refine gD (fun h=>?_) (fun h=>?_) | refine gE (fun h=>?_) (fun h=>?_)) <;> (try simp only [lm] at h) <;> try have hw:=wn h) | with_reducible refine gI (fun x hx=>?_) | with_reducible refine gJ (fun j x hj hx=>?_) | refine gV ?_ | refine gC (spec_l09Copy o) ?_ | refine gC (hS) ?_ | intro _)) <;> (try (conv=>whnf))
  refine nw ⟨m+1,⟨o.starts.set a t,o.modes⟩⟩ ?_ ?_
  ·(repeat' ((conv=>whnf) <;> (first | exact trivial | exact rfl | with_reducible refine And.intro ?_ ?_))) <;> ((conv=>whnf) <;> ((rw [eS])))
  exact⟨by omega,by simp [hl],hE⟩
 | false=>
  rw [hok2] at hS
  rw [if_neg (by simp [hok2])] at hE
  (repeat' ((conv=>whnf);first | with_reducible refine Idx.got g0.start rfl ?_ | with_reducible refine Idx.got hw rfl ?_ | (exfalso;omega) | refine gA ?_ | ((with_reducible first | refine gD (fun h=>?_) (fun h=>?_) | refine gE (fun h=>?_) (fun h=>?_)) <;> (try simp only [lm] at h) <;> try have hw:=wn h) | with_reducible refine gI (fun x hx=>?_) | with_reducible refine gJ (fun j x hj hx=>?_) | refine gV ?_ | refine gC (spec_l09Copy o) ?_ | refine gC (hS) ?_ | intro _)) <;> (try (conv=>whnf))
  refine nx (t+1) ?_
  exact⟨by omega,hE⟩
theorem spec_ImproveSchedule (p:Proj) (s:Sched) (most:Int) (hp:p.fine):Con 31 [.d p.av,.d s.av,.d (i64 most)] (RImpD (improved p s most)):=by
 refine con Tryz.func31 rfl rfl Tryz.call31 rfl fun hwf=>?_
 have hP:=spec_ScheduleOk p s hp
 have hW:=spec_in most 0 10
 by_cases hc:schedOk p s=true∧within most 0 10=true
 rotate_left
 ·rw [improved,if_neg hc]
  (repeat' ((conv=>whnf);first | refine gA ?_ | ((with_reducible first | refine gD (fun h=>?_) (fun h=>?_) | refine gE (fun h=>?_) (fun h=>?_)) <;> (try simp only [lm] at h) <;> try have hw:=wn h) | refine gV ?_ | refine gC (hP) ?_ | refine gC (hW) ?_ | refine gC (spec_l09Copy s) ?_ | intro _)) <;> (try (conv=>whnf))
  all_goals first
   | (exfalso;exact hc ⟨by assumption,by assumption⟩)
   | (repeat' ((conv=>whnf) <;> (first | exact trivial | exact VC.nod (by kernel_rfl) | refine VC.mk rfl ?_)))
 rw [improved,if_pos hc]
 obtain⟨ho,hw⟩:=hc
 have hwi:=within_iff.1 hw
 rw [ho] at hP
 rw [hw] at hW
 have hSh:=spec_l26Early p s hp ho
 have hso:=shifted_ok ho
 generalize shifted p s=s1 at hSh hso ⊢
 generalize hR:improveFrom p most.toNat 0 s1=R
 (repeat' ((conv=>whnf);first | refine gA ?_ | ((with_reducible first | refine gD (fun h=>?_) (fun h=>?_) | refine gE (fun h=>?_) (fun h=>?_)) <;> (try simp only [lm] at h) <;> try have hw:=wn h) | refine gV ?_ | refine gC (hP) ?_ | refine gC (hW) ?_ | refine gC (hSh) ?_ | intro _)) <;> (try (conv=>whnf))
 refine loopF [2,3,6,8] [3,6] [] ?_
 (conv=>whnf)
 refine LoopC.go ((Nat)×(Sched)) (fun⟨n,o⟩=>((n:Int)≤most)∧(schedOk p o=true)∧(improveFrom p (most.toNat - n) n o=R)) (fun⟨n,o⟩=>[(9,.data (i64 n))]) (fun⟨n,o⟩=>[(8,(AV.cells o.av).map SV.data)]) (fun _=>[]) (fun⟨n,o⟩=>most.toNat - n) ⟨0,s1⟩ ?_ ?_
 ·exact⟨by omega,hso,hR⟩
 rintro⟨n,o⟩ ⟨hn,hok,he⟩
 by_cases hlt:(n:Int) < most
 rotate_left
 ·rw [show most.toNat - n=0 by omega,improveFrom_zero] at he
  subst he
  obtain rfl:most=(n:Int):=by omega
  (repeat' ((conv=>whnf);first | (exfalso;omega) | refine gA ?_ | ((with_reducible first | refine gD (fun h=>?_) (fun h=>?_) | refine gE (fun h=>?_) (fun h=>?_)) <;> (try simp only [lm] at h) <;> try have hw:=wn h) | refine gV ?_ | intro _)) <;> (try (conv=>whnf))
  (repeat' ((conv=>whnf) <;> (first | exact trivial | exact VC.nod (by kernel_rfl) | refine VC.mk rfl ?_)))
 rw [show most.toNat - n=(most.toNat - (n+1))+1 by omega,improveFrom_succ] at he
 have hSw:=spec_SwapImprove p o hp
 cases h1:swapImprove p o with
 | none=>
  rw [h1] at he
  have he:(o,n)=R:=he
  subst he
  rw [h1,RSchD_none] at hSw
  (repeat' ((conv=>whnf);first | (exfalso;omega) | refine gA ?_ | ((with_reducible first | refine gD (fun h=>?_) (fun h=>?_) | refine gE (fun h=>?_) (fun h=>?_)) <;> (try simp only [lm] at h) <;> try have hw:=wn h) | refine gV ?_ | refine gC (hSw) ?_ | intro _)) <;> (try (conv=>whnf))
  all_goals first
   | (exfalso;exact absurd trivial (by assumption))
   | (repeat' ((conv=>whnf) <;> (first | exact trivial | exact VC.nod (by kernel_rfl) | refine VC.mk rfl ?_)))
 | some x=>
  rw [h1] at he
  have he:improveFrom p (most.toNat - (n+1)) (n+1) (shifted p x)=R:=he
  rw [h1,RSchD_some] at hSw
  have hx:=swapImprove_ok h1
  have hSx:=spec_l26Early p x hp hx
  have hxo:=shifted_ok hx
  generalize shifted p x=x1 at hSx hxo he
  (repeat' ((conv=>whnf);first | (exfalso;omega) | refine gA ?_ | ((with_reducible first | refine gD (fun h=>?_) (fun h=>?_) | refine gE (fun h=>?_) (fun h=>?_)) <;> (try simp only [lm] at h) <;> try have hw:=wn h) | refine gV ?_ | refine gC (hSw) ?_ | refine gC (hSx) ?_ | intro _)) <;> (try (conv=>whnf))
  all_goals first
   | (exfalso;exact absurd trivial (by assumption))
   | (refine nx ⟨n+1,x1⟩ ?_
      exact⟨by omega,hxo,he⟩)
end Go.Proofs.YtkiohdpapinecaaGreat.Abs
