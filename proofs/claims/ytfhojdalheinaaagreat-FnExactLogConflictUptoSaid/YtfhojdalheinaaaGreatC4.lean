/- Contracts: restrictions of domains. No statement of a claim. -/
import Derived.Test.YtfhojdalheinaaaGreatC3
set_option linter.all false
set_option linter.unusedVariables false
set_option linter.unusedSimpArgs false
set_option maxRecDepth 20000
set_option maxHeartbeats 4000000
namespace Go.Proofs.YtfhojdalheinaaaGreat.Abs
open Go.Proofs
theorem impl_Negate (l:Lit):Con 173 [.d l.av] (.d (negate l).av):=by
 refine con Tryz.func173 rfl rfl Tryz.call173 rfl fun hwf=>?_
 (repeat' ((conv=>whnf);first | refine gA ?_ | (refine gN ?_ ?_ <;> intro h hw) | (refine gB ?_ ?_ <;> intro h) | refine gV ?_ | refine gC (impl_within _ _ _) ?_ | intro _)) <;> try (conv=>whnf)
 all_goals refine⟨?_,rfl,trivial⟩
 all_goals (simp_all [negate,zeroLit];try rfl)
theorem spec_Negate (l:Lit):Con 255 [.d l.av] (.d (negate l).av):=by
 refine con Tryz.func255 rfl rfl Tryz.call255 rfl fun hwf=>?_
 (repeat' ((conv=>whnf);first | refine gA ?_ | (refine gN ?_ ?_ <;> intro h hw) | (refine gB ?_ ?_ <;> intro h) | refine gV ?_ | refine gC (spec_in _ _ _) ?_ | intro _)) <;> try (conv=>whnf)
 all_goals refine⟨?_,rfl,trivial⟩
 all_goals (simp_all [negate,zeroLit];try rfl)
theorem hasDom_iff {b:Dom} {a:Int}:hasDom b a=true↔0≤a∧a < b.lo.length∧a < b.hi.length∧a < b.modes.length:=by
 simp only [hasDom,Bool.and_eq_true,decide_eq_true_eq];omega
theorem hasDom_get {b:Dom} {a:Int} (h:hasDom b a=true):∃(n:Nat) (x y:Int) (m:List Int),a=n∧b.lo[n]? =some x∧b.hi[n]? =some y∧b.modes[n]? =some m:=by
 have hn:=hasDom_iff.1 h
 exact⟨a.toNat,b.lo[a.toNat]'(by omega),b.hi[a.toNat]'(by omega),b.modes[a.toNat]'(by omega),by omega,by simp,by simp,by simp⟩
theorem impl_Restrict (b:Dom) (l:Lit):Con 77 [.d b.av,.d l.av] (.d (restrict b l).av):=by
 refine con Tryz.func77 rfl rfl Tryz.call77 rfl fun hwf=>?_
 cases hd:hasDom b l.act with
 | false=>
  (repeat' ((conv=>whnf);first | refine gA ?_ | (refine gB ?_ ?_ <;> intro h) | (refine gI ?_;intro x hx) | (refine gJ ?_;intro j x hj hx) | refine gC (impl_copied b) ?_ | refine gC (impl_has b _) ?_ | intro _)) <;> try (conv=>whnf)
  refine⟨?_,rfl,trivial⟩
  rw [restrict,if_neg (by simp [hd])]
 | true=>
  obtain⟨n,x,y,m,ha,hlo,hhi,hmo⟩:=hasDom_get hd
  have han:l.act.toNat=n:=by omega
  (repeat' ((conv=>whnf);first | with_reducible refine Idx.got hlo (by first | exact ha | rfl) ?_ | with_reducible refine Idx.got hhi (by first | exact ha | rfl) ?_ | with_reducible refine Idx.got hmo (by first | exact ha | rfl) ?_ | refine gA ?_ | (refine gB ?_ ?_ <;> intro h) | (refine gI ?_;intro x hx) | (refine gJ ?_;intro j x hj hx) | refine gC (impl_copied b) ?_ | refine gC (impl_has b _) ?_ | refine gC (impl_clamped _) ?_ | refine gC (impl_kept m 159 [i64 (clamped l.val)] _ (fun y=>impl_Restrict1 y (clamped l.val))) ?_ | refine gC (impl_SetRemove m _) ?_ | intro _)) <;> try (conv=>whnf)
  all_goals refine⟨?_,rfl,trivial⟩
  all_goals (rw [restrict,if_pos hd];simp [*,List.map_set,List.getD_eq_getElem?_getD,setPart])
def cntLt (l:List Int) (n:Int):Nat:=(l.takeWhile fun x=>decide (x < n)).length
def putSet (l:List Int) (n:Int):List Int:=if l.contains n=true then l else l.take (cntLt l n)++[n]++l.drop (cntLt l n)
theorem spec_l02Put (l:List Int) (n:Int) (hl:l.length < lim):Con 198 [.d (ints l),.d (i64 n)] (.d (ints (putSet l n))):=by
 refine con Tryz.func198 rfl rfl Tryz.call198 rfl fun hwf=>?_
 unfold lim at hl
 simp only [ARs.wf,AR.wf,AV.wf,AV.wfs,List.length_map,lim] at hwf
 (repeat' ((conv=>whnf);first | refine gA ?_ | (refine gB ?_ ?_ <;> intro h) | (refine gI ?_;intro x hx) | (refine gJ ?_;intro j x hj hx) | refine gP ?_ | refine gQ ?_ | refine gV ?_ | refine gK ?_ | refine gC (spec_SetHas _ _) ?_ | intro _)) <;> try (conv=>whnf)
 ·refine⟨?_,rfl,trivial⟩
  rw [putSet,if_pos h]
 refine loopF [0,1] [] [] ?_
 (conv=>whnf)
 refine LoopC.go ((Nat)) (fun k=>(k≤l.length)∧(k+cntLt (l.drop k) n=cntLt l n)) (fun k=>[(5,.data (i64 k))]) (fun _=>[]) (fun _=>[]) (fun k=>l.length - k) (0) ?_ ?_
 ·exact⟨by omega,by simp⟩
 rintro k ⟨hk,hi⟩
 (repeat' ((conv=>whnf);first | refine gA ?_ | (refine gB ?_ ?_ <;> intro h) | (refine gI ?_;intro x hx) | (refine gJ ?_;intro j x hj hx) | refine gP ?_ | refine gQ ?_ | refine gV ?_ | refine gK ?_ | intro _)) <;> try (conv=>whnf)
 ·refine nx (k+1) ?_
  refine⟨by omega,?_⟩
  rw [← hi,drop_get hx,cntLt,cntLt,List.takeWhile_cons,if_pos (by simpa using h)];simp;omega
 all_goals refine⟨?_,rfl,trivial⟩
 ·rw [drop_get hx,cntLt,List.takeWhile_cons,if_neg (by simpa using h)] at hi
  have e:cntLt l n=k:=by simp at hi;omega
  rw [putSet,if_neg (Bool.eq_false_iff.1 (by assumption)),e]
  dsimp only
  rw [subList_head,subList_tail];simp
 ·rw [drop_end' (by assumption)] at hi
  have e:cntLt l n=k:=by simp [cntLt] at hi;simp [cntLt];omega
  rw [putSet,if_neg (Bool.eq_false_iff.1 (by assumption)),e]
  dsimp only
  rw [subList_head,subList_tail];simp
def setOf (l:List Int):List Int:=l.foldl putSet []
theorem putSet_len (l:List Int) (n:Int):(putSet l n).length≤l.length+1:=by
 unfold putSet;split
 ·omega
 ·simp;omega
theorem spec_SetOf (l:List Int):Con 199 [.d (ints l)] (.d (ints (setOf l))):=by
 refine con Tryz.func199 rfl rfl Tryz.call199 rfl fun hwf=>?_
 simp only [ARs.wf,AR.wf,AV.wf,AV.wfs,List.length_map,lim] at hwf
 (repeat' ((conv=>whnf);first | refine gA ?_ | (refine gB ?_ ?_ <;> intro h) | (refine gI ?_;intro x hx) | (refine gJ ?_;intro j x hj hx) | refine gV ?_ | intro _)) <;> try (conv=>whnf)
 refine loopF [7,8] [] [] ?_
 (conv=>whnf)
 refine LoopC.go ((Nat)×(List Int)) (fun⟨k,o⟩=>(k≤l.length)∧(o.length≤k)∧((l.drop k).foldl putSet o=setOf l)) (fun⟨k,o⟩=>[(9,.data (i64 k)),(3,.data (ints o))]) (fun _=>[]) (fun _=>[]) (fun⟨k,o⟩=>l.length - k) ⟨0,[]⟩ ?_ ?_
 ·exact⟨by omega,by simp,rfl⟩
 rintro⟨k,o⟩ ⟨hk,ho,hi⟩
 (repeat' ((conv=>whnf);first | refine gA ?_ | (refine gB ?_ ?_ <;> intro h) | (refine gI ?_;intro x hx) | (refine gJ ?_;intro j x hj hx) | refine gV ?_ | refine gC (spec_l02Put o x (by unfold lim;omega)) ?_ | intro _)) <;> try (conv=>whnf)
 ·refine nx ⟨k+1,putSet o x⟩ ?_
  rw [drop_get hx,List.foldl_cons] at hi
  have:=putSet_len o x
  exact⟨by omega,by omega,hi⟩
 ·refine⟨?_,rfl,trivial⟩
  rw [← hi,drop_end' (by assumption)];rfl
theorem spec_SetIntersection (a b:List Int):Con 232 [.d (ints a),.d (ints b)] (.d (ints (setOf (a.filter fun n=>b.contains n)))):=by
 refine con Tryz.func232 rfl rfl Tryz.call232 rfl fun hwf=>?_
 simp only [ARs.wf,AR.wf,AV.wf,AV.wfs,List.length_map,lim] at hwf
 (repeat' ((conv=>whnf);first | refine gA ?_ | (refine gB ?_ ?_ <;> intro h) | (refine gI ?_;intro x hx) | (refine gJ ?_;intro j x hj hx) | refine gP ?_ | refine gV ?_ | intro _)) <;> try (conv=>whnf)
 refine loopF [1,9,10] [] [8] ?_
 (conv=>whnf)
 refine LoopC.go ((Nat)×(List Int)) (fun⟨k,o⟩=>(k≤a.length)∧(o.length≤k)∧(o++(a.drop k).filter (fun n=>b.contains n)=a.filter (fun n=>b.contains n))) (fun⟨k,o⟩=>[(11,.data (i64 k)),(5,.own 8 0)]) (fun _=>[]) (fun⟨k,o⟩=>[(8,3,o.map i64,0)]) (fun⟨k,o⟩=>a.length - k) ⟨0,[]⟩ ?_ ?_
 ·exact⟨by omega,by simp,rfl⟩
 rintro⟨k,o⟩ ⟨hk,ho,hi⟩
 (repeat' ((conv=>whnf);first | refine gA ?_ | (refine gB ?_ ?_ <;> intro h) | (refine gI ?_;intro x hx) | (refine gJ ?_;intro j x hj hx) | refine gP ?_ | refine gV ?_ | refine gC (spec_SetHas _ _) ?_ | refine gC (spec_SetOf o) ?_ | intro _)) <;> try (conv=>whnf)
 ·refine nw ⟨k+1,o++[x]⟩ ?_ ?_
  ·(repeat' ((conv=>whnf) <;> (first | exact trivial | exact rfl | with_reducible refine And.intro ?_ ?_))) <;> ((conv=>whnf) <;> (simp))
  exact⟨by omega,by simp;omega,(filter_step hi hx).1 h⟩
 ·refine nx ⟨k+1,o⟩ ?_
  exact⟨by omega,by omega,(filter_step hi hx).2 h⟩
 ·refine⟨?_,rfl,trivial⟩
  rw [← hi,drop_end' (by assumption)];simp
theorem setOf_one (n:Int):setOf [n]= [n]:=by simp [setOf,putSet,cntLt]
theorem setOk_iff {l:List Int}:setOk l=true↔∀i,(h:i+1 < l.length)→l[i] < l[i+1]:=by
 rw [setOk,allN_iff]
 constructor
 ·intro h i hi
  have:=h (i+1) hi
  simp only [setAt,List.getD_eq_getElem?_getD,Nat.add_sub_cancel,List.getElem?_eq_getElem hi,List.getElem?_eq_getElem (show i < l.length by omega)] at this
  simpa using this
 ·intro h i hi
  cases i with
  | zero=>rfl
  | succ i=>
   have:=h i hi
   simp only [setAt,List.getD_eq_getElem?_getD,Nat.add_sub_cancel,List.getElem?_eq_getElem hi,List.getElem?_eq_getElem (show i < l.length by omega)]
   simpa using this
theorem setOk_pw {l:List Int} (h:setOk l=true):l.Pairwise (· < ·):=by
 have h:=setOk_iff.1 h
 rw [List.pairwise_iff_getElem]
 intro i j hi hj hij
 induction j with
 | zero=>omega
 | succ j ih=>
  have h1:=h j hj
  by_cases e:i=j
  ·subst e;exact h1
  ·have:=ih (by omega) (by omega);omega
theorem filter_pw {m:List Int} (h:m.Pairwise (· < ·)) (n:Int):m.filter (fun k=>decide (k=n))=if m.contains n=true then [n] else []:=by
 induction m with
 | nil=>rfl
 | cons x r ih=>
  rw [List.pairwise_cons] at h
  rw [List.filter_cons,List.contains_cons]
  by_cases e:x=n
  ·subst e
   have:r.filter (fun k=>decide (k=x))= []:=by
    rw [List.filter_eq_nil_iff]
    intro y hy
    have:=h.1 y hy
    simp;omega
   simp [this]
  ·rw [if_neg (by simp [e]),ih h.2]
   have:(n == x)=false:=by simp;omega
   simp [this]
theorem filter_one {m:List Int} (h:setOk m=true) (n:Int):setOf ([n].filter fun n=>m.contains n)=m.filter fun k=>decide (k=n):=by
 rw [filter_pw (setOk_pw h),List.filter_cons]
 by_cases hc:m.contains n=true
 ·rw [if_pos hc,if_pos hc];exact setOf_one n
 ·rw [if_neg hc,if_neg hc];rfl
theorem spec_Restrict (b:Dom) (l:Lit) (hs:∀m,b.modes[l.act.toNat]? =some m→setOk m=true):Con 142 [.d b.av,.d l.av] (.d (restrict b l).av):=by
 refine con Tryz.func142 rfl rfl Tryz.call142 rfl fun hwf=>?_
 cases hd:hasDom b l.act with
 | false=>
  (repeat' ((conv=>whnf);first | refine gA ?_ | (refine gB ?_ ?_ <;> intro h) | (refine gI ?_;intro x hx) | (refine gJ ?_;intro j x hj hx) | refine gC (spec_l12Copy b) ?_ | refine gC (spec_l12There b _) ?_ | intro _)) <;> try (conv=>whnf)
  refine⟨?_,rfl,trivial⟩
  rw [restrict,if_neg (by simp [hd])]
 | true=>
  obtain⟨n,x,y,m,ha,hlo,hhi,hmo⟩:=hasDom_get hd
  have han:l.act.toNat=n:=by omega
  (repeat' ((conv=>whnf);first | with_reducible refine Idx.got hlo (by first | exact ha | rfl) ?_ | with_reducible refine Idx.got hhi (by first | exact ha | rfl) ?_ | with_reducible refine Idx.got hmo (by first | exact ha | rfl) ?_ | refine gA ?_ | (refine gB ?_ ?_ <;> intro h) | (refine gI ?_;intro x hx) | (refine gJ ?_;intro j x hj hx) | refine gC (spec_l12Copy b) ?_ | refine gC (spec_l12There b _) ?_ | refine gC (spec_l12Brought _) ?_ | refine gC (spec_l02Max _ _) ?_ | refine gC (spec_l02Min _ _) ?_ | refine gC (spec_SetIntersection [clamped l.val] m) ?_ | refine gC (spec_SetRemove m _) ?_ | intro _)) <;> try (conv=>whnf)
  all_goals refine⟨?_,rfl,trivial⟩
  all_goals (try rw [filter_one (hs m (by rw [han];exact hmo))])
  all_goals (rw [restrict,if_pos hd];simp [*,List.map_set,List.getD_eq_getElem?_getD,setPart])
end Go.Proofs.YtfhojdalheinaaaGreat.Abs
