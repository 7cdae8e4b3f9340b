/- Contracts: modes of activities, the least of some numbers. No statement of a claim. -/
import Derived.Test.YtkiohdpapinecaaGreatC6
set_option linter.all false
set_option linter.unusedVariables false
set_option linter.unusedSimpArgs false
set_option maxRecDepth 20000
set_option maxHeartbeats 4000000
namespace Go.Proofs.YtkiohdpapinecaaGreat.Abs
open Go.Proofs
def lrun:Bool→Int→List Int→Int
 | _,n,[]=>n
 | b,n,x::r=>lrun false (if b=true∨x < n then x else n) r
theorem lrun_false (l:List Int):∀n,lrun false n l=l.foldl min n:=by
 induction l with
 | nil=>intro n;rfl
 | cons x r ih=>
  intro n
  rw [lrun,ih,List.foldl_cons]
  congr 1
  by_cases h:x < n
  ·rw [if_pos (.inr h)];omega
  ·rw [if_neg (by simp [h])];omega
theorem lrun_true (l:List Int):lrun true 0 l=least l:=by
 cases l with
 | nil=>rfl
 | cons x r=>rw [lrun,if_pos (.inl rfl),lrun_false];rfl
def orun:Bool→Int→List (Option Int)→Int
 | _,n,[]=>n
 | _,_,none::_=>0
 | b,n,some x::r=>orun false (if b=true∨x < n then x else n) r
theorem chosenFrom_len (ms:List Int):∀(l:List Mode) (k:Nat),(chosenFrom ms l k).length≤l.length
 | [],_=>by simp [chosenFrom]
 | m::r,k=>by
  have:=chosenFrom_len ms r (k+1)
  rw [chosenFrom];split <;> simp <;> omega
theorem chosen_len (a:Activ) (ms:List Int):(chosen a ms).length≤a.modes.length:=chosenFrom_len ms _ _
theorem chosenFrom_sub (ms:List Int):∀(l:List Mode) (k:Nat) (m:Mode),m∈chosenFrom ms l k→m∈l
 | [],_,_,h=>by simp [chosenFrom] at h
 | x::r,k,m,h=>by
  rw [chosenFrom] at h
  split at h
  ·rcases List.mem_cons.1 h with rfl | h
   ·simp
   ·exact List.mem_cons_of_mem _ (chosenFrom_sub ms r (k+1) m h)
  ·exact List.mem_cons_of_mem _ (chosenFrom_sub ms r (k+1) m h)
theorem chosen_sub {a:Activ} {ms:List Int} {m:Mode} (h:m∈chosen a ms):m∈a.modes:=chosenFrom_sub ms _ _ m h
theorem impl_chosen (a:Activ) (ms:List Int):Con 377 [.d a.av,.d (ints ms)] (.d (.sl ((chosen a ms).map Mode.av))):=by
 refine con Tryz.func377 rfl rfl Tryz.call377 rfl fun hwf=>?_
 simp only [ARs.wf,AR.wf,AV.wf,AV.wfs,List.length_map,lim] at hwf
 (repeat' ((conv=>whnf);first | refine gA ?_ | ((with_reducible first | refine gD (fun h=>?_) (fun h=>?_) | refine gE (fun h=>?_) (fun h=>?_)) <;> (try simp only [lm] at h) <;> try have hw:=wn h) | with_reducible refine gI (fun x hx=>?_) | with_reducible refine gJ (fun j x hj hx=>?_) | refine gP ?_ | refine gV ?_ | intro _)) <;> (try (conv=>whnf))
 refine loopF [1,10,11] [] [8] ?_
 (conv=>whnf)
 refine LoopC.go ((Nat)×(List Mode)) (fun⟨k,o⟩=>(k≤a.modes.length)∧(o.length≤k)∧(o++chosenFrom ms (a.modes.drop k) k=chosen a ms)) (fun⟨k,o⟩=>[(12,.data (i64 k)),(5,.own 8 0)]) (fun _=>[]) (fun⟨k,o⟩=>[(8,154,o.map Mode.av,0)]) (fun⟨k,o⟩=>a.modes.length - k) ⟨0,[]⟩ ?_ ?_
 ·exact⟨by omega,by simp,rfl⟩
 rintro⟨k,o⟩ ⟨hk,ho,hi⟩
 (repeat' ((conv=>whnf);first | refine gA ?_ | ((with_reducible first | refine gD (fun h=>?_) (fun h=>?_) | refine gE (fun h=>?_) (fun h=>?_)) <;> (try simp only [lm] at h) <;> try have hw:=wn h) | with_reducible refine gI (fun x hx=>?_) | with_reducible refine gJ (fun j x hj hx=>?_) | refine gP ?_ | refine gV ?_ | refine gC (impl_SetHas ms _) ?_ | intro _)) <;> (try (conv=>whnf))
 ·refine nw ⟨k+1,o++[x]⟩ ?_ ?_
  ·(repeat' ((conv=>whnf) <;> (first | exact trivial | exact rfl | with_reducible refine And.intro ?_ ?_))) <;> ((conv=>whnf) <;> (simp))
  rw [drop_get hx,chosenFrom,if_pos h] at hi
  exact⟨by omega,by simp;omega,by rw [← hi];simp⟩
 ·refine nx ⟨k+1,o⟩ ?_
  rw [drop_get hx,chosenFrom,if_neg (Bool.eq_false_iff.1 h)] at hi
  exact⟨by omega,by omega,hi⟩
 ·refine⟨?_,rfl,trivial⟩
  rw [← hi,drop_end' (by assumption)];simp [chosenFrom]
theorem impl_MinDuration (a:Activ) (ms:List Int):Con 298 [.d a.av,.d (ints ms)] (.d (i64 (minDur a ms))):=by
 refine con Tryz.func298 rfl rfl Tryz.call298 rfl fun hwf=>?_
 simp only [ARs.wf,AR.wf,AV.wf,AV.wfs,List.length_map,lim] at hwf
 have hl:=chosen_len a ms
 (repeat' ((conv=>whnf);first | refine gA ?_ | ((with_reducible first | refine gD (fun h=>?_) (fun h=>?_) | refine gE (fun h=>?_) (fun h=>?_)) <;> (try simp only [lm] at h) <;> try have hw:=wn h) | with_reducible refine gI (fun x hx=>?_) | with_reducible refine gJ (fun j x hj hx=>?_) | refine gV ?_ | refine gC (impl_chosen a ms) ?_ | intro _)) <;> (try (conv=>whnf))
 refine loopF [10,11] [] [] ?_
 (conv=>whnf)
 refine LoopC.go ((Nat)×(Int)) (fun⟨k,n⟩=>(k≤(chosen a ms).length)∧(lrun (decide ((k:Int)=0)) n (((chosen a ms).drop k).map Mode.dur)=minDur a ms)) (fun⟨k,n⟩=>[(12,.data (i64 k)),(5,.data (i64 n))]) (fun _=>[]) (fun _=>[]) (fun⟨k,n⟩=>(chosen a ms).length - k) ⟨0,0⟩ ?_ ?_
 ·exact⟨by omega,by rw [minDur, ← lrun_true];rfl⟩
 rintro⟨k,n⟩ ⟨hk,hi⟩
 (repeat' ((conv=>whnf);first | refine gA ?_ | ((with_reducible first | refine gD (fun h=>?_) (fun h=>?_) | refine gE (fun h=>?_) (fun h=>?_)) <;> (try simp only [lm] at h) <;> try have hw:=wn h) | with_reducible refine gI (fun x hx=>?_) | with_reducible refine gJ (fun j x hj hx=>?_) | refine gV ?_ | intro _)) <;> (try (conv=>whnf))
 ·refine nx ⟨k+1,x.dur⟩ ?_
  rw [drop_get hx,List.map_cons,lrun,if_pos (.inl (by simp [h]))] at hi
  exact⟨by omega,by rw [decide_eq_false (show ¬((k+1:Nat):Int)=0 by omega)];exact hi⟩
 ·refine nx ⟨k+1,x.dur⟩ ?_
  rw [drop_get hx,List.map_cons,lrun,if_pos (.inr h)] at hi
  exact⟨by omega,by rw [decide_eq_false (show ¬((k+1:Nat):Int)=0 by omega)];exact hi⟩
 ·refine nx ⟨k+1,n⟩ ?_
  rw [drop_get hx,List.map_cons,lrun,if_neg (by rw [decide_eq_true_eq];omega)] at hi
  exact⟨by omega,by rw [decide_eq_false (show ¬((k+1:Nat):Int)=0 by omega)];exact hi⟩
 ·refine⟨?_,rfl,trivial⟩
  rw [← hi,drop_end' (by assumption)];rfl
theorem spec_MinDuration (a:Activ) (ms:List Int):Con 292 [.d a.av,.d (ints ms)] (.d (i64 (minDur a ms))):=by
 refine con Tryz.func292 rfl rfl Tryz.call292 rfl fun hwf=>?_
 simp only [ARs.wf,AR.wf,AV.wf,AV.wfs,List.length_map,lim] at hwf
 (repeat' ((conv=>whnf);first | refine gA ?_ | ((with_reducible first | refine gD (fun h=>?_) (fun h=>?_) | refine gE (fun h=>?_) (fun h=>?_)) <;> (try simp only [lm] at h) <;> try have hw:=wn h) | with_reducible refine gI (fun x hx=>?_) | with_reducible refine gJ (fun j x hj hx=>?_) | refine gV ?_ | intro _)) <;> (try (conv=>whnf))
 refine loopF [1,10,11] [] [] ?_
 (conv=>whnf)
 refine LoopC.go ((Nat)×(Int)×(Bool)) (fun⟨k,n,b⟩=>(k≤a.modes.length)∧(lrun (!b) n ((chosenFrom ms (a.modes.drop k) k).map Mode.dur)=minDur a ms)) (fun⟨k,n,b⟩=>[(12,.data (i64 k)),(5,.data (i64 n)),(6,.data (.bool b))]) (fun _=>[]) (fun _=>[]) (fun⟨k,n,b⟩=>a.modes.length - k) ⟨0,0,false⟩ ?_ ?_
 ·exact⟨by omega,by rw [minDur, ← lrun_true];rfl⟩
 rintro⟨k,n,b⟩ ⟨hk,hi⟩
 (repeat' ((conv=>whnf);first | refine gA ?_ | ((with_reducible first | refine gD (fun h=>?_) (fun h=>?_) | refine gE (fun h=>?_) (fun h=>?_)) <;> (try simp only [lm] at h) <;> try have hw:=wn h) | with_reducible refine gI (fun x hx=>?_) | with_reducible refine gJ (fun j x hj hx=>?_) | refine gV ?_ | refine gC (spec_SetHas ms _) ?_ | intro _)) <;> (try (conv=>whnf))
 all_goals first
  | (refine⟨?_,rfl,trivial⟩;rw [← hi,drop_end' (by assumption)];rfl)
  | (refine nx ⟨k+1,x.dur,true⟩ ?_
     refine⟨by omega,?_⟩
     rw [drop_get hx,chosenFrom,if_pos (by assumption),List.map_cons,lrun,if_pos (by simp [*])] at hi
     exact hi)
  | (refine nx ⟨k+1,n,b⟩ ?_
     refine⟨by omega,?_⟩
     rw [drop_get hx,chosenFrom,if_neg (Bool.eq_false_iff.1 (by assumption))] at hi
     exact hi)
  | (refine nx ⟨k+1,n,b⟩ ?_
     refine⟨by omega,?_⟩
     rw [drop_get hx,chosenFrom,if_pos (by assumption),List.map_cons,lrun,if_neg (by simp [*])] at hi
     rw [← hi];simp [*])
def ROpt (o:Option Int):RV:=.tup [.d (i64 (o.getD 0)),.d (.bool o.isSome)]
def pick (b:Bool) (m:Mode):List Int:=if b=true then m.con else m.use
end Go.Proofs.YtkiohdpapinecaaGreat.Abs
