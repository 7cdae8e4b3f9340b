/- Contracts: restrictions of domains. -/
import Derived.Test.YtmenphiahgkjkaaGreatDoorC3
set_option linter.all false
set_option maxRecDepth 20000
set_option maxHeartbeats 0
namespace Go.Proofs.YtmenphiahgkjkaaGreatDoor.Abs
open Go.Proofs
theorem gF (l:Lit):Con 60 [.d l.av] (.d (negate l).av):=by
 refine con Tryz.func60 rfl rfl Tryz.call60 rfl fun hwf=>?_
 (repeat' ((conv=>whnf);first|refine gA ?_|(refine gN ?_ ?_<;>intro h hw)|(refine gB ?_ ?_<;>intro h)|refine gV ?_|refine gC (aS _ _ _) ?_|intro _))<;>try (conv=>whnf)
 all_goals refine⟨?_,rfl,trivial⟩
 all_goals (simp_all [negate,bU];try rfl)
theorem Vl {b:Dom} {a:Int}:eF b a=true↔0≤a∧a < b.lo.length∧a < b.hi.length∧a < b.modes.length:=by
 simp only [eF,Bool.and_eq_true,decide_eq_true_eq];omega
theorem KP {b:Dom} {a:Int} (h:eF b a=true):∃(n:Nat) (x y:Int) (m:List Int),a=n∧b.lo[n]? =some x∧b.hi[n]? =some y∧b.modes[n]? =some m:=by
 have hn:=Vl.1 h
 exact⟨a.toNat,b.lo[a.toNat]'(by omega),b.hi[a.toNat]'(by omega),b.modes[a.toNat]'(by omega),by omega,by simp,by simp,by simp⟩
theorem fu (b:Dom) (l:Lit):Con 31 [.d b.av,.d l.av] (.d (restrict b l).av):=by
 refine con Tryz.func31 rfl rfl Tryz.call31 rfl fun hwf=>?_
 cases hd:eF b l.act with
 |false=>
  (repeat' ((conv=>whnf);first|refine gA ?_|(refine gB ?_ ?_<;>intro h)|(refine gI ?_;intro x hx)|(refine gJ ?_;intro j x hj hx)|refine gC (nS b) ?_|refine gC (EB b _) ?_|intro _))<;>try (conv=>whnf)
  refine⟨?_,rfl,trivial⟩
  rw [restrict,if_neg (by simp [hd])]
 |true=>
  obtain⟨n,x,y,m,ha,hlo,hhi,hmo⟩:=KP hd
  have han:l.act.toNat=n:=by omega
  (repeat' ((conv=>whnf);first|with_reducible refine Idx.got hlo (by first|exact ha|rfl) ?_|with_reducible refine Idx.got hhi (by first|exact ha|rfl) ?_|with_reducible refine Idx.got hmo (by first|exact ha|rfl) ?_|refine gA ?_|(refine gB ?_ ?_<;>intro h)|(refine gI ?_;intro x hx)|(refine gJ ?_;intro j x hj hx)|refine gC (nS b) ?_|refine gC (EB b _) ?_|refine gC (Qw _) ?_|refine gC (Gx m 76 [i64 (clamped l.val)] _ (fun y=>KO y (clamped l.val))) ?_|refine gC (KN m _) ?_|intro _))<;>try (conv=>whnf)
  all_goals refine⟨?_,rfl,trivial⟩
  all_goals (rw [restrict,if_pos hd];simp [*,List.map_set,List.getD_eq_getElem?_getD,gZ])
def yF (l:List Int) (n:Int):Nat:=(l.takeWhile fun x=>decide (x < n)).length
def vJ (l:List Int) (n:Int):List Int:=if l.contains n=true then l else l.take (yF l n)++[n]++l.drop (yF l n)
def setOf (l:List Int):List Int:=l.foldl vJ []
theorem Vm (l:List Int) (n:Int):(vJ l n).length≤l.length+1:=by
 unfold vJ;split
 ·omega
 ·simp;omega
theorem Oo {l:List Int}:uE l=true↔∀i,(h:i+1 < l.length)→l[i] < l[i+1]:=by
 rw [uE,bX]
 constructor
 ·intro h i hi
  have:=h (i+1) hi
  simp only [setAt,List.getD_eq_getElem?_getD,Nat.add_sub_cancel,List.getElem?_eq_getElem hi,List.getElem?_eq_getElem (show i < l.length by omega)] at this
  simpa using this
 ·intro h i hi
  cases i with
  |zero=>rfl
  |succ i=>
   have:=h i hi
   simp only [setAt,List.getD_eq_getElem?_getD,Nat.add_sub_cancel,List.getElem?_eq_getElem hi,List.getElem?_eq_getElem (show i < l.length by omega)]
   simpa using this
theorem EC {l:List Int} (h:uE l=true):l.Pairwise (· < ·):=by
 have h:=Oo.1 h
 rw [List.pairwise_iff_getElem]
 intro i j hi hj hij
 induction j with
 |zero=>omega
 |succ j ih=>
  have h1:=h j hj
  by_cases e:i=j
  ·subst e;exact h1
  ·have:=ih (by omega) (by omega);omega
end Go.Proofs.YtmenphiahgkjkaaGreatDoor.Abs
