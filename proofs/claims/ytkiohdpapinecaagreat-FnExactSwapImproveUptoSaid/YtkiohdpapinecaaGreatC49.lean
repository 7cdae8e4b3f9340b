/- Contracts: schedules that are made better, step by step: both sides. No statement of a claim. -/
import Derived.Test.YtkiohdpapinecaaGreatImp
set_option linter.all false
set_option linter.unusedVariables false
set_option linter.unusedSimpArgs false
set_option maxRecDepth 20000
set_option maxHeartbeats 8000000
namespace Go.Proofs.YtkiohdpapinecaaGreat.Abs
open Go.Proofs Go.RowKit
def improveFrom (p:Proj):Nat→Nat→Sched→Sched×Nat
 | 0,n,o=>(o,n)
 | f+1,n,o=>match swapImprove p o with | none=>(o,n) | some x=>improveFrom p f (n+1) (shifted p x)
def improved (p:Proj) (s:Sched) (most:Int):Sched×Nat:=if schedOk p s=true∧within most 0 10=true then improveFrom p most.toNat 0 (shifted p s) else (s,0)
def RImpL (r:Sched×Nat):RV:=.tup [.agg [.lin 3 (r.1.starts.map i64),.lin 3 (r.1.modes.map i64)],.d (i64 r.2)]
def RImpD (r:Sched×Nat):RV:=.tup [.d r.1.av,.d (i64 r.2)]
attribute [local irreducible] schedOk makespan serial startOrder orderN swapImprove shifted
theorem spec_SwapImprove (p:Proj) (s:Sched) (hp:p.fine):Con 29 [.d p.av,.d s.av] (RSchD (swapImprove p s)):=by
 refine con Tryz.func29 rfl rfl Tryz.call29 rfl fun hwf=>?_
 have hP:=spec_ScheduleOk p s hp
 generalize hR:swapImprove p s=R
 unfold swapImprove at hR
 cases ho:schedOk p s with
 | false=>
  rw [if_neg (by simp [ho])] at hR
  subst hR
  rw [ho] at hP
  rw [RSchD_none]
  (repeat' ((conv=>whnf);first | refine gA ?_ | ((with_reducible first | refine gD (fun h=>?_) (fun h=>?_) | refine gE (fun h=>?_) (fun h=>?_)) <;> (try simp only [lm] at h) <;> try have hw:=wn h) | with_reducible refine gI (fun x hx=>?_) | with_reducible refine gJ (fun j x hj hx=>?_) | refine gP ?_ | refine gV ?_ | refine gC (hP) ?_ | intro _)) <;> (try (conv=>whnf))
  (repeat' ((conv=>whnf) <;> (first | exact trivial | exact VC.nod (by kernel_rfl) | refine VC.mk rfl ?_)))
 | true=>
 rw [if_pos ho] at hR
 rw [ho] at hP
 obtain⟨hf,hok,hn1,hn6,hn,hm⟩:=schedOk_parts ho
 have hSO:=spec_StartOrder s (by omega)
 have hol:=startOrder_len s.starts
 have hb:=makespan_bound p s
 have hM:=spec_Makespan p s hp
 generalize startOrder s.starts=O at hSO hol hR
 (repeat' ((conv=>whnf);first | refine gA ?_ | ((with_reducible first | refine gD (fun h=>?_) (fun h=>?_) | refine gE (fun h=>?_) (fun h=>?_)) <;> (try simp only [lm] at h) <;> try have hw:=wn h) | with_reducible refine gI (fun x hx=>?_) | with_reducible refine gJ (fun j x hj hx=>?_) | refine gP ?_ | refine gV ?_ | refine gC (hP) ?_ | refine gC (hSO) ?_ | intro _)) <;> (try (conv=>whnf))
 refine loopF [2,3,4,6] [2,3,4] [] ?_
 (conv=>whnf)
 refine LoopC.go ((Nat)) (fun j=>(j+1≤s.starts.length)∧(swapFrom p s O (s.starts.length - 1 - j) j=R)) (fun j=>[(7,.data (i64 j))]) (fun _=>[]) (fun _=>[]) (fun j=>s.starts.length - 1 - j) (0) ?_ ?_
 ·exact⟨by omega,hR⟩
 rintro j ⟨hj,he⟩
 by_cases hlt:j+1 < s.starts.length
 rotate_left
 ·rw [show s.starts.length - 1 - j=0 by omega,swapFrom_zero] at he
  subst he
  rw [RSchD_none]
  (repeat' ((conv=>whnf);first | (exfalso;omega) | refine gA ?_ | ((with_reducible first | refine gD (fun h=>?_) (fun h=>?_) | refine gE (fun h=>?_) (fun h=>?_)) <;> (try simp only [lm] at h) <;> try have hw:=wn h) | with_reducible refine gI (fun x hx=>?_) | with_reducible refine gJ (fun j x hj hx=>?_) | refine gP ?_ | refine gV ?_ | intro _)) <;> (try (conv=>whnf))
  (repeat' ((conv=>whnf) <;> (first | exact trivial | exact VC.nod (by kernel_rfl) | refine VC.mk rfl ?_)))
 rw [show s.starts.length - 1 - j=(s.starts.length - 1 - (j+1))+1 by omega,swapFrom_succ] at he
 obtain⟨x,hx⟩:∃x,O[j]? =some x:=⟨O[j]'(by omega),by simp⟩
 obtain⟨y,hy⟩:∃x,O[j+1]? =some x:=⟨O[j+1]'(by omega),by simp⟩
 have ej:((j:Int)+1)=((j+1:Nat):Int):=by omega
 have hsw:(swapped O j).map i64=((([]:List AV)++O.map i64).set j (setPart (i64 x) 0 (i64 y))).set (j+1) (setPart (i64 y) 0 (i64 x)):=by
  simp [swapped,List.map_set,setPart,List.getD_eq_getElem?_getD,hx,hy]
 have hsk:(([]:List AV)++O.map i64)[j]? =some (i64 x):=by
  rw [List.nil_append,List.getElem?_map,hx];rfl
 have hsl:((([]:List AV)++O.map i64).set j (setPart (i64 x) 0 (i64 y)))[j+1]? =some (i64 y):=by
  rw [List.getElem?_set_ne (by omega),List.nil_append,List.getElem?_map,hy];rfl
 generalize hL:swapped O j=L at he hsw
 (repeat' ((conv=>whnf);first | (exfalso;omega) | with_reducible refine Idx.got hy ej ?_ | with_reducible refine Idx.got hy rfl ?_ | with_reducible refine Idx.got hx rfl ?_ | with_reducible refine Idx.raw hsk rfl ?_ | with_reducible refine Idx.raw hsl ej ?_ | with_reducible refine Idx.raw hsl rfl ?_ | refine gA ?_ | ((with_reducible first | refine gD (fun h=>?_) (fun h=>?_) | refine gE (fun h=>?_) (fun h=>?_)) <;> (try simp only [lm] at h) <;> try have hw:=wn h) | with_reducible refine gI (fun x hx=>?_) | with_reducible refine gJ (fun j x hj hx=>?_) | refine gP ?_ | refine gV ?_ | intro _)) <;> (try (conv=>whnf))
 refine loopF [2,3,4,6,7,8,46,47] [2,3,4] [27] ?_
 (conv=>whnf)
 refine LoopC.mk ((Nat)) (fun k=>(k≤2)∧(orNext (tryFrom p s L k) (swapFrom p s O (s.starts.length - 1 - (j+1)) (j+1))=R)) (fun k=>[(48,.data (i64 k))]) (fun _=>[]) (fun k=>[(27,3,L.map i64,2)]) (fun k=>2 - k) (0) ?_ ?_ ?_
 rotate_left
 ·(repeat' ((conv=>whnf) <;> (first | exact trivial | exact rfl | with_reducible refine And.intro ?_ ?_))) <;> ((conv=>whnf) <;> (exact hsw.symm))
 rotate_left
 ·exact⟨by omega,by rw [tryFrom_zero];exact he⟩
 rintro k ⟨hk,hz⟩
 by_cases hk2:k < 2
 rotate_left
 ·obtain rfl:k=2:=by omega
  rw [tryFrom_two] at hz
  (repeat' ((conv=>whnf);first | (exfalso;first | omega | (simp only [List.length_cons,List.length_nil] at h;omega)) | refine gA ?_ | ((with_reducible first | refine gD (fun h=>?_) (fun h=>?_) | refine gE (fun h=>?_) (fun h=>?_)) <;> (try simp only [lm] at h) <;> try have hw:=wn h) | with_reducible refine gI (fun x hx=>?_) | with_reducible refine gJ (fun j x hj hx=>?_) | refine gP ?_ | refine gV ?_ | intro _)) <;> (try (conv=>whnf))
  refine nx (j+1) ?_
  exact⟨by omega,hz⟩
 rw [try_step p s L k hk2] at hz
 have hS:=spec_SerialSchedule p L (lowAt k) hp
 have hI: [AV.bool false,AV.bool true][k]? =some (.bool (lowAt k)):=by
  rcases k with _ | _ | k
  ·rfl
  ·rfl
  ·omega
 cases hser:serial p L (lowAt k) with
 | none=>
  rw [tryLow_none hser] at hz
  have hz:orNext (tryFrom p s L (k+1)) (swapFrom p s O (s.starts.length - 1 - (j+1)) (j+1))=R:=hz
  rw [hser,RSchD_none] at hS
  (repeat' ((conv=>whnf);first | (exfalso;first | omega | (simp only [List.length_cons,List.length_nil] at h;omega)) | refine Idx.raw hI rfl ?_ | refine gA ?_ | ((with_reducible first | refine gD (fun h=>?_) (fun h=>?_) | refine gE (fun h=>?_) (fun h=>?_)) <;> (try simp only [lm] at h) <;> try have hw:=wn h) | with_reducible refine gI (fun x hx=>?_) | with_reducible refine gJ (fun j x hj hx=>?_) | refine gP ?_ | refine gV ?_ | refine gC (hS) ?_ | intro _)) <;> (try (conv=>whnf))
  all_goals first
   | (exfalso;exact absurd trivial (by assumption))
   | (refine nx (k+1) ?_
      exact⟨by omega,hz⟩)
 | some z=>
  rw [hser,RSchD_some] at hS
  have hMz:=spec_Makespan p z hp
  rw [tryLow_some hser] at hz
  by_cases hc:makespan p z < makespan p s
  ·rw [if_pos hc] at hz
   have hz:some z=R:=hz
   subst hz
   rw [RSchD_some]
   (repeat' ((conv=>whnf);first | (exfalso;first | omega | (simp only [List.length_cons,List.length_nil] at h;omega)) | refine Idx.raw hI rfl ?_ | refine gA ?_ | ((with_reducible first | refine gD (fun h=>?_) (fun h=>?_) | refine gE (fun h=>?_) (fun h=>?_)) <;> (try simp only [lm] at h) <;> try have hw:=wn h) | with_reducible refine gI (fun x hx=>?_) | with_reducible refine gJ (fun j x hj hx=>?_) | refine gP ?_ | refine gV ?_ | refine gC (hS) ?_ | refine gC (hMz) ?_ | refine gC (hM) ?_ | intro _)) <;> (try (conv=>whnf))
   all_goals first
    | (exfalso;omega)
    | (repeat' ((conv=>whnf) <;> (first | exact trivial | exact VC.nod (by kernel_rfl) | refine VC.mk rfl ?_)))
  ·rw [if_neg hc] at hz
   have hz:orNext (tryFrom p s L (k+1)) (swapFrom p s O (s.starts.length - 1 - (j+1)) (j+1))=R:=hz
   (repeat' ((conv=>whnf);first | (exfalso;first | omega | (simp only [List.length_cons,List.length_nil] at h;omega)) | refine Idx.raw hI rfl ?_ | refine gA ?_ | ((with_reducible first | refine gD (fun h=>?_) (fun h=>?_) | refine gE (fun h=>?_) (fun h=>?_)) <;> (try simp only [lm] at h) <;> try have hw:=wn h) | with_reducible refine gI (fun x hx=>?_) | with_reducible refine gJ (fun j x hj hx=>?_) | refine gP ?_ | refine gV ?_ | refine gC (hS) ?_ | refine gC (hMz) ?_ | refine gC (hM) ?_ | intro _)) <;> (try (conv=>whnf))
   all_goals first
    | (exfalso;omega)
    | (refine nx (k+1) ?_
       exact⟨by omega,hz⟩)
end Go.Proofs.YtkiohdpapinecaaGreat.Abs
