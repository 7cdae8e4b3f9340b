/- Contracts: restrictions of domains. -/
import Derived.Test.YtpfgedlimdeffaaGreatC3
set_option linter.all false
set_option maxRecDepth 20000
set_option maxHeartbeats 0
namespace Go.Proofs.YtpfgedlimdeffaaGreat.Abs
open Go.Proofs
def kN (l:List Int) (n:Int):Nat:=(l.takeWhile fun x=>decide (x < n)).length
def jK (l:List Int) (n:Int):List Int:=if l.contains n=true then l else l.take (kN l n)++[n]++l.drop (kN l n)
theorem Cy (l:List Int) (n:Int) (hl:l.length < lim):Con 106 [.d (ints l),.d (i64 n)] (.d (ints (jK l n))):=by
 refine con Tryz.func106 rfl rfl Tryz.call106 rfl fun hwf=>?_
 unfold lim at hl
 simp only [ARs.wf,AR.wf,AV.wf,AV.wfs,lm,lim] at hwf
 (repeat' ((conv=>whnf);first|refine gA ?_|(refine gB ?_ ?_<;>intro h)|(refine gI ?_;intro x hx)|(refine gJ ?_;intro j x hj hx)|refine gP ?_|refine gQ ?_|refine gV ?_|refine gK ?_|refine gC (gZ _ _) ?_|intro _))<;>try (conv=>whnf)
 ·refine⟨?_,rfl,trivial⟩
  rw [jK,if_pos h]
 refine aG [0,1] [] [] ?_
 (conv=>whnf)
 refine aC.go ((Nat)) (fun k=>(k≤l.length)∧(k+kN (l.drop k) n=kN l n)) (fun k=>[(5,.data (i64 k))]) (fun _=>[]) (fun _=>[]) (fun k=>l.length - k) (0) ?_ ?_
 ·exact⟨by omega,by simp⟩
 rintro k ⟨hk,hi⟩
 (repeat' ((conv=>whnf);first|refine gA ?_|(refine gB ?_ ?_<;>intro h)|(refine gI ?_;intro x hx)|(refine gJ ?_;intro j x hj hx)|refine gP ?_|refine gQ ?_|refine gV ?_|refine gK ?_|intro _))<;>try (conv=>whnf)
 ·refine nx (k+1) ?_
  refine⟨by omega,?_⟩
  rw [← hi,ay hx,kN,kN,List.takeWhile_cons,if_pos (by simpa using h)];simp;omega
 all_goals refine⟨?_,rfl,trivial⟩
 ·rw [ay hx,kN,List.takeWhile_cons,if_neg (by simpa using h)] at hi
  have e:kN l n=k:=by simp at hi;omega
  rw [jK,if_neg (Bool.eq_false_iff.1 (by assumption)),e]
  dsimp only
  rw [zK,zL];simp
 ·rw [aQ (by assumption)] at hi
  have e:kN l n=k:=by simp [kN] at hi;simp [kN];omega
  rw [jK,if_neg (Bool.eq_false_iff.1 (by assumption)),e]
  dsimp only
  rw [zK,zL];simp
def setOf (l:List Int):List Int:=l.foldl jK []
theorem Fg (l:List Int) (n:Int):(jK l n).length≤l.length+1:=by
 unfold jK;split
 ·omega
 ·simp;omega
theorem OP (l:List Int):Con 107 [.d (ints l)] (.d (ints (setOf l))):=by
 refine con Tryz.func107 rfl rfl Tryz.call107 rfl fun hwf=>?_
 simp only [ARs.wf,AR.wf,AV.wf,AV.wfs,lm,lim] at hwf
 (repeat' ((conv=>whnf);first|refine gA ?_|(refine gB ?_ ?_<;>intro h)|(refine gI ?_;intro x hx)|(refine gJ ?_;intro j x hj hx)|refine gV ?_|intro _))<;>try (conv=>whnf)
 refine aG [7,8] [] [] ?_
 (conv=>whnf)
 refine aC.go ((Nat)×(List Int)) (fun⟨k,o⟩=>(k≤l.length)∧(o.length≤k)∧((l.drop k).foldl jK o=setOf l)) (fun⟨k,o⟩=>[(9,.data (i64 k)),(3,.data (ints o))]) (fun _=>[]) (fun _=>[]) (fun⟨k,o⟩=>l.length - k) ⟨0,[]⟩ ?_ ?_
 ·exact⟨by omega,by simp,rfl⟩
 rintro⟨k,o⟩ ⟨hk,ho,hi⟩
 (repeat' ((conv=>whnf);first|refine gA ?_|(refine gB ?_ ?_<;>intro h)|(refine gI ?_;intro x hx)|(refine gJ ?_;intro j x hj hx)|refine gV ?_|refine gC (Cy o x (by unfold lim;omega)) ?_|intro _))<;>try (conv=>whnf)
 ·refine nx ⟨k+1,jK o x⟩ ?_
  rw [ay hx,List.foldl_cons] at hi
  have:=Fg o x
  exact⟨by omega,by omega,hi⟩
 ·refine⟨?_,rfl,trivial⟩
  rw [← hi,aQ (by assumption)];rfl
theorem Rl {l:List Int}:qU l=true↔∀i,(h:i+1 < l.length)→l[i] < l[i+1]:=by
 rw [qU,eY]
 constructor
 ·intro h i hi
  have:=h (i+1) hi
  simp only [setAt,List.getD_eq_getElem?_getD,Nat.add_sub_cancel,List.getElem?_eq_getElem hi,List.getElem?_eq_getElem (show i < l.length by omega)] at this
  simpa using this
 ·intro h i hi
  cases i with
  |zero=>rfl
  |succ i=>
   have:=h i hi
   simp only [setAt,List.getD_eq_getElem?_getD,Nat.add_sub_cancel,List.getElem?_eq_getElem hi,List.getElem?_eq_getElem (show i < l.length by omega)]
   simpa using this
theorem MU {l:List Int} (h:qU l=true):l.Pairwise (· < ·):=by
 have h:=Rl.1 h
 rw [List.pairwise_iff_getElem]
 intro i j hi hj hij
 induction j with
 |zero=>omega
 |succ j ih=>
  have h1:=h j hj
  by_cases e:i=j
  ·subst e;exact h1
  ·have:=ih (by omega) (by omega);omega
end Go.Proofs.YtpfgedlimdeffaaGreat.Abs
