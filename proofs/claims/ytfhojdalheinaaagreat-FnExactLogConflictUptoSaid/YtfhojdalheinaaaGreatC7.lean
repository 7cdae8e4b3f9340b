/- Contracts: modes of activities, the least of some numbers. No statement of a claim. -/
import Derived.Test.YtfhojdalheinaaaGreatC6
set_option linter.all false
set_option linter.unusedVariables false
set_option linter.unusedSimpArgs false
set_option maxRecDepth 20000
set_option maxHeartbeats 4000000
namespace Go.Proofs.YtfhojdalheinaaaGreat.Abs
open Go.Proofs
def lrun:Bool→Int→List Int→Int
 | _,n,[]=>n
 | b,n,x::r=>lrun false (if b=true∨x < n then x else n) r
theorem lrun_false (l:List Int):∀n,lrun false n l=l.foldl min n:=by
 induction l with
 | nil=>intro n;rfl
 | cons x r ih=>
  intro n
  rw [lrun,ih,List.foldl_cons]
  congr 1
  by_cases h:x < n
  ·rw [if_pos (.inr h)];omega
  ·rw [if_neg (by simp [h])];omega
theorem lrun_true (l:List Int):lrun true 0 l=least l:=by
 cases l with
 | nil=>rfl
 | cons x r=>rw [lrun,if_pos (.inl rfl),lrun_false];rfl
def orun:Bool→Int→List (Option Int)→Int
 | _,n,[]=>n
 | _,_,none::_=>0
 | b,n,some x::r=>orun false (if b=true∨x < n then x else n) r
theorem orun_eq (l:List (Option Int)):∀b n,orun b n l=if l.all Option.isSome=true then lrun b n (l.map fun o=>o.getD 0) else 0:=by
 induction l with
 | nil=>intro b n;rfl
 | cons x r ih=>
  intro b n
  cases x with
  | none=>simp [orun]
  | some x=>rw [orun,ih];simp [lrun]
theorem orun_true (l:List Mode) (f:Mode→Option Int):orun true 0 (l.map f)=leastOf l f:=by
 rw [orun_eq,leastOf,lrun_true]
 simp [List.map_map,Function.comp_def,List.all_map]
theorem chosenFrom_len (ms:List Int):∀(l:List Mode) (k:Nat),(chosenFrom ms l k).length≤l.length
 | [],_=>by simp [chosenFrom]
 | m::r,k=>by
  have:=chosenFrom_len ms r (k+1)
  rw [chosenFrom];split <;> simp <;> omega
theorem chosen_len (a:Activ) (ms:List Int):(chosen a ms).length≤a.modes.length:=chosenFrom_len ms _ _
theorem chosenFrom_sub (ms:List Int):∀(l:List Mode) (k:Nat) (m:Mode),m∈chosenFrom ms l k→m∈l
 | [],_,_,h=>by simp [chosenFrom] at h
 | x::r,k,m,h=>by
  rw [chosenFrom] at h
  split at h
  ·rcases List.mem_cons.1 h with rfl | h
   ·simp
   ·exact List.mem_cons_of_mem _ (chosenFrom_sub ms r (k+1) m h)
  ·exact List.mem_cons_of_mem _ (chosenFrom_sub ms r (k+1) m h)
theorem chosen_sub {a:Activ} {ms:List Int} {m:Mode} (h:m∈chosen a ms):m∈a.modes:=chosenFrom_sub ms _ _ m h
theorem impl_chosen (a:Activ) (ms:List Int):Con 409 [.d a.av,.d (ints ms)] (.d (.sl ((chosen a ms).map Mode.av))):=by
 refine con Tryz.func409 rfl rfl Tryz.call409 rfl fun hwf=>?_
 simp only [ARs.wf,AR.wf,AV.wf,AV.wfs,List.length_map,lim] at hwf
 (repeat' ((conv=>whnf);first | refine gA ?_ | (refine gB ?_ ?_ <;> intro h) | (refine gI ?_;intro x hx) | (refine gJ ?_;intro j x hj hx) | refine gP ?_ | refine gV ?_ | intro _)) <;> try (conv=>whnf)
 refine loopF [1,10,11] [] [8] ?_
 (conv=>whnf)
 refine LoopC.go ((Nat)×(List Mode)) (fun⟨k,o⟩=>(k≤a.modes.length)∧(o.length≤k)∧(o++chosenFrom ms (a.modes.drop k) k=chosen a ms)) (fun⟨k,o⟩=>[(12,.data (i64 k)),(5,.own 8 0)]) (fun _=>[]) (fun⟨k,o⟩=>[(8,145,o.map Mode.av,0)]) (fun⟨k,o⟩=>a.modes.length - k) ⟨0,[]⟩ ?_ ?_
 ·exact⟨by omega,by simp,rfl⟩
 rintro⟨k,o⟩ ⟨hk,ho,hi⟩
 (repeat' ((conv=>whnf);first | refine gA ?_ | (refine gB ?_ ?_ <;> intro h) | (refine gI ?_;intro x hx) | (refine gJ ?_;intro j x hj hx) | refine gP ?_ | refine gV ?_ | refine gC (impl_SetHas ms _) ?_ | intro _)) <;> try (conv=>whnf)
 ·refine nw ⟨k+1,o++[x]⟩ ?_ ?_
  ·(repeat' ((conv=>whnf) <;> (first | exact trivial | exact rfl | with_reducible refine And.intro ?_ ?_))) <;> ((conv=>whnf) <;> (simp))
  rw [drop_get hx,chosenFrom,if_pos h] at hi
  exact⟨by omega,by simp;omega,by rw [← hi];simp⟩
 ·refine nx ⟨k+1,o⟩ ?_
  rw [drop_get hx,chosenFrom,if_neg (Bool.eq_false_iff.1 h)] at hi
  exact⟨by omega,by omega,hi⟩
 ·refine⟨?_,rfl,trivial⟩
  rw [← hi,drop_end' (by assumption)];simp [chosenFrom]
theorem impl_MinDuration (a:Activ) (ms:List Int):Con 372 [.d a.av,.d (ints ms)] (.d (i64 (minDur a ms))):=by
 refine con Tryz.func372 rfl rfl Tryz.call372 rfl fun hwf=>?_
 simp only [ARs.wf,AR.wf,AV.wf,AV.wfs,List.length_map,lim] at hwf
 have hl:=chosen_len a ms
 (repeat' ((conv=>whnf);first | refine gA ?_ | (refine gB ?_ ?_ <;> intro h) | (refine gI ?_;intro x hx) | (refine gJ ?_;intro j x hj hx) | refine gV ?_ | refine gC (impl_chosen a ms) ?_ | intro _)) <;> try (conv=>whnf)
 refine loopF [10,11] [] [] ?_
 (conv=>whnf)
 refine LoopC.go ((Nat)×(Int)) (fun⟨k,n⟩=>(k≤(chosen a ms).length)∧(lrun (decide ((k:Int)=0)) n (((chosen a ms).drop k).map Mode.dur)=minDur a ms)) (fun⟨k,n⟩=>[(12,.data (i64 k)),(5,.data (i64 n))]) (fun _=>[]) (fun _=>[]) (fun⟨k,n⟩=>(chosen a ms).length - k) ⟨0,0⟩ ?_ ?_
 ·exact⟨by omega,by rw [minDur, ← lrun_true];rfl⟩
 rintro⟨k,n⟩ ⟨hk,hi⟩
 (repeat' ((conv=>whnf);first | refine gA ?_ | (refine gB ?_ ?_ <;> intro h) | (refine gI ?_;intro x hx) | (refine gJ ?_;intro j x hj hx) | refine gV ?_ | intro _)) <;> try (conv=>whnf)
 ·refine nx ⟨k+1,x.dur⟩ ?_
  rw [drop_get hx,List.map_cons,lrun,if_pos (.inl (by simp [h]))] at hi
  exact⟨by omega,by rw [decide_eq_false (show ¬((k+1:Nat):Int)=0 by omega)];exact hi⟩
 ·refine nx ⟨k+1,x.dur⟩ ?_
  rw [drop_get hx,List.map_cons,lrun,if_pos (.inr h)] at hi
  exact⟨by omega,by rw [decide_eq_false (show ¬((k+1:Nat):Int)=0 by omega)];exact hi⟩
 ·refine nx ⟨k+1,n⟩ ?_
  rw [drop_get hx,List.map_cons,lrun,if_neg (by rw [decide_eq_true_eq];omega)] at hi
  exact⟨by omega,by rw [decide_eq_false (show ¬((k+1:Nat):Int)=0 by omega)];exact hi⟩
 ·refine⟨?_,rfl,trivial⟩
  rw [← hi,drop_end' (by assumption)];rfl
theorem spec_MinDuration (a:Activ) (ms:List Int):Con 364 [.d a.av,.d (ints ms)] (.d (i64 (minDur a ms))):=by
 refine con Tryz.func364 rfl rfl Tryz.call364 rfl fun hwf=>?_
 simp only [ARs.wf,AR.wf,AV.wf,AV.wfs,List.length_map,lim] at hwf
 (repeat' ((conv=>whnf);first | refine gA ?_ | (refine gB ?_ ?_ <;> intro h) | (refine gI ?_;intro x hx) | (refine gJ ?_;intro j x hj hx) | refine gV ?_ | intro _)) <;> try (conv=>whnf)
 refine loopF [1,10,11] [] [] ?_
 (conv=>whnf)
 refine LoopC.go ((Nat)×(Int)×(Bool)) (fun⟨k,n,b⟩=>(k≤a.modes.length)∧(lrun (!b) n ((chosenFrom ms (a.modes.drop k) k).map Mode.dur)=minDur a ms)) (fun⟨k,n,b⟩=>[(12,.data (i64 k)),(5,.data (i64 n)),(6,.data (.bool b))]) (fun _=>[]) (fun _=>[]) (fun⟨k,n,b⟩=>a.modes.length - k) ⟨0,0,false⟩ ?_ ?_
 ·exact⟨by omega,by rw [minDur, ← lrun_true];rfl⟩
 rintro⟨k,n,b⟩ ⟨hk,hi⟩
 (repeat' ((conv=>whnf);first | refine gA ?_ | (refine gB ?_ ?_ <;> intro h) | (refine gI ?_;intro x hx) | (refine gJ ?_;intro j x hj hx) | refine gV ?_ | refine gC (spec_SetHas ms _) ?_ | intro _)) <;> try (conv=>whnf)
 all_goals first
  | (refine⟨?_,rfl,trivial⟩;rw [← hi,drop_end' (by assumption)];rfl)
  | (refine nx ⟨k+1,x.dur,true⟩ ?_
     refine⟨by omega,?_⟩
     rw [drop_get hx,chosenFrom,if_pos (by assumption),List.map_cons,lrun,if_pos (by simp [*])] at hi
     exact hi)
  | (refine nx ⟨k+1,n,b⟩ ?_
     refine⟨by omega,?_⟩
     rw [drop_get hx,chosenFrom,if_neg (Bool.eq_false_iff.1 (by assumption))] at hi
     exact hi)
  | (refine nx ⟨k+1,n,b⟩ ?_
     refine⟨by omega,?_⟩
     rw [drop_get hx,chosenFrom,if_pos (by assumption),List.map_cons,lrun,if_neg (by simp [*])] at hi
     rw [← hi];simp [*])
def ROpt (o:Option Int):RV:=.tup [.d (i64 (o.getD 0)),.d (.bool o.isSome)]
theorem elementAt_get {l:List Int} {i:Int} (h:within i 0 (l.length - 1)=true):∃(n:Nat) (x:Int),i=n∧l[n]? =some x∧elementAt l i=some x:=by
 have hn:=within_iff.1 h
 refine⟨i.toNat,l[i.toNat]'(by omega),by omega,by simp,?_⟩
 rw [elementAt,if_pos h,List.getD_eq_getElem?_getD,List.getElem?_eq_getElem (by omega)];rfl
theorem impl_element (l:List Int) (i:Int):Con 412 [.d (ints l),.d (i64 i)] (ROpt (elementAt l i)):=by
 refine con Tryz.func412 rfl rfl Tryz.call412 rfl fun hwf=>?_
 simp only [ARs.wf,AR.wf,AV.wf,AV.wfs,List.length_map,lim] at hwf
 cases h:within i 0 (l.length - 1) with
 | false=>
  have h':within i 0 (((l.map i64).length:Int) - 1)=false:=by rw [List.length_map];exact h
  (repeat' ((conv=>whnf);first | refine gA ?_ | (refine gN ?_ ?_ <;> intro h hw) | (refine gB ?_ ?_ <;> intro h) | (refine gI ?_;intro x hx) | (refine gJ ?_;intro j x hj hx) | refine gV ?_ | refine gC (impl_within _ _ _) ?_ | intro _)) <;> try (conv=>whnf)
  rw [elementAt,if_neg (by simp [h])]
  (repeat' ((conv=>whnf) <;> (first | exact trivial | exact VC.nod (by kernel_rfl) | refine VC.mk rfl ?_)))
 | true=>
  have h':within i 0 (((l.map i64).length:Int) - 1)=true:=by rw [List.length_map];exact h
  obtain⟨n,x,hn,hx,e⟩:=elementAt_get h
  (repeat' ((conv=>whnf);first | with_reducible refine Idx.got hx hn ?_ | refine gA ?_ | (refine gN ?_ ?_ <;> intro h hw) | (refine gB ?_ ?_ <;> intro h) | (refine gI ?_;intro x hx) | (refine gJ ?_;intro j x hj hx) | refine gV ?_ | refine gC (impl_within _ _ _) ?_ | intro _)) <;> try (conv=>whnf)
  rw [e]
  (repeat' ((conv=>whnf) <;> (first | exact trivial | exact VC.nod (by kernel_rfl) | refine VC.mk rfl ?_)))
theorem impl_leastOf (l:List Mode) (fc:Nat) (caps:List AV) (f:Mode→Option Int) (hc:∀x:Mode,Con fc ([.d x.av]++caps.map .ref) (ROpt (f x))):
  Con 410 [.d (.sl (l.map Mode.av)),.fn fc caps] (.d (i64 (leastOf l f))):=by
 refine con Tryz.func410 rfl rfl Tryz.call410 rfl fun hwf=>?_
 simp only [ARs.wf,AR.wf,AV.wf,AV.wfs,List.length_map,lim] at hwf
 (repeat' ((conv=>whnf);first | refine gA ?_ | (refine gB ?_ ?_ <;> intro h) | (refine gI ?_;intro x hx) | (refine gJ ?_;intro j x hj hx) | refine gV ?_ | intro _)) <;> try (conv=>whnf)
 refine loopF [1,10,11] [] [] ?_
 (conv=>whnf)
 refine LoopC.go ((Nat)×(Int)) (fun⟨k,n⟩=>(k≤l.length)∧(orun (decide ((k:Int)=0)) n ((l.drop k).map f)=leastOf l f)) (fun⟨k,n⟩=>[(12,.data (i64 k)),(5,.data (i64 n))]) (fun _=>[]) (fun _=>[]) (fun⟨k,n⟩=>l.length - k) ⟨0,0⟩ ?_ ?_
 ·exact⟨by omega,by rw [← orun_true];rfl⟩
 rintro⟨k,n⟩ ⟨hk,hi⟩
 by_cases hlt:k < l.length
 ·obtain⟨x,hx⟩:∃x,l[k]? =some x:=⟨l[k]'hlt,by simp⟩
  have hcx:=hc x
  rw [drop_get hx,List.map_cons] at hi
  cases e:f x with
  | none=>
   rw [e] at hcx hi
   replace hcx:Con fc ([.d x.av]++caps.map .ref) (.tup [.d (i64 0),.d (.bool false)]):=hcx
   (repeat' ((conv=>whnf);first | with_reducible refine Idx.got hx rfl ?_ | refine gA ?_ | (refine gB ?_ ?_ <;> intro h) | (refine gI ?_;intro x hx) | (refine gJ ?_;intro j x hj hx) | refine gV ?_ | refine gC (hcx) ?_ | intro _)) <;> try (conv=>whnf)
   ·refine⟨?_,rfl,trivial⟩;rw [← hi];rfl
   ·exfalso;omega
  | some y=>
   rw [e,orun] at hi
   rw [e] at hcx
   replace hcx:Con fc ([.d x.av]++caps.map .ref) (.tup [.d (i64 y),.d (.bool true)]):=hcx
   (repeat' ((conv=>whnf);first | with_reducible refine Idx.got hx rfl ?_ | refine gA ?_ | (refine gB ?_ ?_ <;> intro h) | (refine gI ?_;intro x hx) | (refine gJ ?_;intro j x hj hx) | refine gV ?_ | refine gC (hcx) ?_ | intro _)) <;> try (conv=>whnf)
   ·refine nx ⟨k+1,y⟩ ?_
    rw [if_pos (by rw [decide_eq_true_eq];omega)] at hi
    exact⟨by omega,by rw [decide_eq_false (show ¬((k+1:Nat):Int)=0 by omega)];exact hi⟩
   ·refine nx ⟨k+1,y⟩ ?_
    rw [if_pos (by rw [decide_eq_true_eq];omega)] at hi
    exact⟨by omega,by rw [decide_eq_false (show ¬((k+1:Nat):Int)=0 by omega)];exact hi⟩
   ·refine nx ⟨k+1,n⟩ ?_
    rw [if_neg (by rw [decide_eq_true_eq];omega)] at hi
    exact⟨by omega,by rw [decide_eq_false (show ¬((k+1:Nat):Int)=0 by omega)];exact hi⟩
   ·exfalso;omega
 ·(repeat' ((conv=>whnf);first | (exfalso;omega) | refine gA ?_ | (refine gB ?_ ?_ <;> intro h) | (refine gI ?_;intro x hx) | (refine gJ ?_;intro j x hj hx) | refine gV ?_ | intro _)) <;> try (conv=>whnf)
  refine⟨?_,rfl,trivial⟩
  rw [← hi,drop_end hlt];rfl
theorem impl_MinUsage1 (m:Mode) (r:Int):Con 411 [.d m.av,.ref (i64 r)] (ROpt (elementAt m.use r)):=by
 refine con Tryz.func411 rfl rfl Tryz.call411 rfl fun hwf=>?_
 (repeat' ((conv=>whnf);first | refine gA ?_ | (refine gB ?_ ?_ <;> intro h) | refine gC (impl_element m.use r) ?_ | intro _)) <;> try (conv=>whnf)
 (repeat' ((conv=>whnf) <;> (first | exact trivial | exact VC.nod (by kernel_rfl) | refine VC.mk rfl ?_)))
theorem impl_MinUsage (a:Activ) (ms:List Int) (r:Int):Con 374 [.d a.av,.d (ints ms),.d (i64 r)] (.d (i64 (minUse a ms r))):=by
 refine con Tryz.func374 rfl rfl Tryz.call374 rfl fun hwf=>?_
 (repeat' ((conv=>whnf);first | refine gA ?_ | (refine gB ?_ ?_ <;> intro h) | refine gC (impl_chosen a ms) ?_ | refine gC (impl_leastOf (chosen a ms) 411 [i64 r] (fun m=>elementAt m.use r) fun x=>impl_MinUsage1 x r) ?_ | intro _)) <;> try (conv=>whnf)
 exact⟨rfl,rfl,trivial⟩
theorem impl_MinConsumption1 (m:Mode) (r:Int):Con 417 [.d m.av,.ref (i64 r)] (ROpt (elementAt m.con r)):=by
 refine con Tryz.func417 rfl rfl Tryz.call417 rfl fun hwf=>?_
 (repeat' ((conv=>whnf);first | refine gA ?_ | (refine gB ?_ ?_ <;> intro h) | refine gC (impl_element m.con r) ?_ | intro _)) <;> try (conv=>whnf)
 (repeat' ((conv=>whnf) <;> (first | exact trivial | exact VC.nod (by kernel_rfl) | refine VC.mk rfl ?_)))
theorem impl_MinConsumption (a:Activ) (ms:List Int) (r:Int):Con 378 [.d a.av,.d (ints ms),.d (i64 r)] (.d (i64 (minCon a ms r))):=by
 refine con Tryz.func378 rfl rfl Tryz.call378 rfl fun hwf=>?_
 (repeat' ((conv=>whnf);first | refine gA ?_ | (refine gB ?_ ?_ <;> intro h) | refine gC (impl_chosen a ms) ?_ | refine gC (impl_leastOf (chosen a ms) 417 [i64 r] (fun m=>elementAt m.con r) fun x=>impl_MinConsumption1 x r) ?_ | intro _)) <;> try (conv=>whnf)
 exact⟨rfl,rfl,trivial⟩
def pick (b:Bool) (m:Mode):List Int:=if b=true then m.con else m.use
end Go.Proofs.YtfhojdalheinaaaGreat.Abs
