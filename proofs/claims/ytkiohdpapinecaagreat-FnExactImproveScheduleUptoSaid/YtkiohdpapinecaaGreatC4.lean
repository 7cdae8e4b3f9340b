/- Contracts: restrictions of domains. No statement of a claim. -/
import Derived.Test.YtkiohdpapinecaaGreatC3
set_option linter.all false
set_option linter.unusedVariables false
set_option linter.unusedSimpArgs false
set_option maxRecDepth 20000
set_option maxHeartbeats 4000000
namespace Go.Proofs.YtkiohdpapinecaaGreat.Abs
open Go.Proofs
def cntLt (l:List Int) (n:Int):Nat:=(l.takeWhile fun x=>decide (x < n)).length
def putSet (l:List Int) (n:Int):List Int:=if l.contains n=true then l else l.take (cntLt l n)++[n]++l.drop (cntLt l n)
theorem spec_l02Put (l:List Int) (n:Int) (hl:l.length < lim):Con 191 [.d (ints l),.d (i64 n)] (.d (ints (putSet l n))):=by
 refine con Tryz.func191 rfl rfl Tryz.call191 rfl fun hwf=>?_
 unfold lim at hl
 simp only [ARs.wf,AR.wf,AV.wf,AV.wfs,List.length_map,lim] at hwf
 (repeat' ((conv=>whnf);first | refine gA ?_ | ((with_reducible first | refine gD (fun h=>?_) (fun h=>?_) | refine gE (fun h=>?_) (fun h=>?_)) <;> (try simp only [lm] at h) <;> try have hw:=wn h) | with_reducible refine gI (fun x hx=>?_) | with_reducible refine gJ (fun j x hj hx=>?_) | refine gP ?_ | refine gQ ?_ | refine gV ?_ | refine gK ?_ | refine gC (spec_SetHas _ _) ?_ | intro _)) <;> (try (conv=>whnf))
 ·refine⟨?_,rfl,trivial⟩
  rw [putSet,if_pos h]
 refine loopF [0,1] [] [] ?_
 (conv=>whnf)
 refine LoopC.go ((Nat)) (fun k=>(k≤l.length)∧(k+cntLt (l.drop k) n=cntLt l n)) (fun k=>[(5,.data (i64 k))]) (fun _=>[]) (fun _=>[]) (fun k=>l.length - k) (0) ?_ ?_
 ·exact⟨by omega,by simp⟩
 rintro k ⟨hk,hi⟩
 (repeat' ((conv=>whnf);first | refine gA ?_ | ((with_reducible first | refine gD (fun h=>?_) (fun h=>?_) | refine gE (fun h=>?_) (fun h=>?_)) <;> (try simp only [lm] at h) <;> try have hw:=wn h) | with_reducible refine gI (fun x hx=>?_) | with_reducible refine gJ (fun j x hj hx=>?_) | refine gP ?_ | refine gQ ?_ | refine gV ?_ | refine gK ?_ | intro _)) <;> (try (conv=>whnf))
 ·refine nx (k+1) ?_
  refine⟨by omega,?_⟩
  rw [← hi,drop_get hx,cntLt,cntLt,List.takeWhile_cons,if_pos (by simpa using h)];simp;omega
 all_goals refine⟨?_,rfl,trivial⟩
 ·rw [drop_get hx,cntLt,List.takeWhile_cons,if_neg (by simpa using h)] at hi
  have e:cntLt l n=k:=by simp at hi;omega
  rw [putSet,if_neg (Bool.eq_false_iff.1 (by assumption)),e]
  dsimp only
  rw [subList_head,subList_tail];simp
 ·rw [drop_end' (by assumption)] at hi
  have e:cntLt l n=k:=by simp [cntLt] at hi;simp [cntLt];omega
  rw [putSet,if_neg (Bool.eq_false_iff.1 (by assumption)),e]
  dsimp only
  rw [subList_head,subList_tail];simp
def setOf (l:List Int):List Int:=l.foldl putSet []
theorem putSet_len (l:List Int) (n:Int):(putSet l n).length≤l.length+1:=by
 unfold putSet;split
 ·omega
 ·simp;omega
theorem spec_SetOf (l:List Int):Con 192 [.d (ints l)] (.d (ints (setOf l))):=by
 refine con Tryz.func192 rfl rfl Tryz.call192 rfl fun hwf=>?_
 simp only [ARs.wf,AR.wf,AV.wf,AV.wfs,List.length_map,lim] at hwf
 (repeat' ((conv=>whnf);first | refine gA ?_ | ((with_reducible first | refine gD (fun h=>?_) (fun h=>?_) | refine gE (fun h=>?_) (fun h=>?_)) <;> (try simp only [lm] at h) <;> try have hw:=wn h) | with_reducible refine gI (fun x hx=>?_) | with_reducible refine gJ (fun j x hj hx=>?_) | refine gV ?_ | intro _)) <;> (try (conv=>whnf))
 refine loopF [7,8] [] [] ?_
 (conv=>whnf)
 refine LoopC.go ((Nat)×(List Int)) (fun⟨k,o⟩=>(k≤l.length)∧(o.length≤k)∧((l.drop k).foldl putSet o=setOf l)) (fun⟨k,o⟩=>[(9,.data (i64 k)),(3,.data (ints o))]) (fun _=>[]) (fun _=>[]) (fun⟨k,o⟩=>l.length - k) ⟨0,[]⟩ ?_ ?_
 ·exact⟨by omega,by simp,rfl⟩
 rintro⟨k,o⟩ ⟨hk,ho,hi⟩
 (repeat' ((conv=>whnf);first | refine gA ?_ | ((with_reducible first | refine gD (fun h=>?_) (fun h=>?_) | refine gE (fun h=>?_) (fun h=>?_)) <;> (try simp only [lm] at h) <;> try have hw:=wn h) | with_reducible refine gI (fun x hx=>?_) | with_reducible refine gJ (fun j x hj hx=>?_) | refine gV ?_ | refine gC (spec_l02Put o x (by unfold lim;omega)) ?_ | intro _)) <;> (try (conv=>whnf))
 ·refine nx ⟨k+1,putSet o x⟩ ?_
  rw [drop_get hx,List.foldl_cons] at hi
  have:=putSet_len o x
  exact⟨by omega,by omega,hi⟩
 ·refine⟨?_,rfl,trivial⟩
  rw [← hi,drop_end' (by assumption)];rfl
theorem setOk_iff {l:List Int}:setOk l=true↔∀i,(h:i+1 < l.length)→l[i] < l[i+1]:=by
 rw [setOk,allN_iff]
 constructor
 ·intro h i hi
  have:=h (i+1) hi
  simp only [setAt,List.getD_eq_getElem?_getD,Nat.add_sub_cancel,List.getElem?_eq_getElem hi,List.getElem?_eq_getElem (show i < l.length by omega)] at this
  simpa using this
 ·intro h i hi
  cases i with
  | zero=>rfl
  | succ i=>
   have:=h i hi
   simp only [setAt,List.getD_eq_getElem?_getD,Nat.add_sub_cancel,List.getElem?_eq_getElem hi,List.getElem?_eq_getElem (show i < l.length by omega)]
   simpa using this
theorem setOk_pw {l:List Int} (h:setOk l=true):l.Pairwise (· < ·):=by
 have h:=setOk_iff.1 h
 rw [List.pairwise_iff_getElem]
 intro i j hi hj hij
 induction j with
 | zero=>omega
 | succ j ih=>
  have h1:=h j hj
  by_cases e:i=j
  ·subst e;exact h1
  ·have:=ih (by omega) (by omega);omega
end Go.Proofs.YtkiohdpapinecaaGreat.Abs
