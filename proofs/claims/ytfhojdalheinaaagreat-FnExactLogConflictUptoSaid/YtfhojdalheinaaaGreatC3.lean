/- Contracts: domains. No statement of a claim. -/
import Derived.Test.YtfhojdalheinaaaGreatC2
set_option linter.all false
set_option linter.unusedVariables false
set_option linter.unusedSimpArgs false
set_option maxRecDepth 20000
set_option maxHeartbeats 4000000
namespace Go.Proofs.YtfhojdalheinaaaGreat.Abs
open Go.Proofs
theorem upTo_map (k:Nat):(upTo k).map i64++[i64 k]=(upTo (k+1)).map i64:=by
 rw [upTo,upTo,List.range_succ,List.map_append,List.map_append];rfl
theorem impl_IntRange (n:Int):Con 307 [.d (i64 n)] (.d (ints (intRange n))):=by
 refine con Tryz.func307 rfl rfl Tryz.call307 rfl fun hwf=>?_
 (repeat' ((conv=>whnf);first | refine gA ?_ | (refine gN ?_ ?_ <;> intro h hw) | (refine gB ?_ ?_ <;> intro h) | refine gP ?_ | refine gV ?_ | refine gC (impl_within _ _ _) ?_ | intro _)) <;> try (conv=>whnf)
 rotate_left
 ·refine⟨?_,rfl,trivial⟩
  rw [intRange,if_neg (by simp [h])];rfl
 refine loopF [9] [] [8] ?_
 (conv=>whnf)
 refine LoopC.go ((Nat)) (fun k=>((k:Int)≤n)) (fun k=>[(10,.data (i64 k)),(3,.own 8 0)]) (fun _=>[]) (fun k=>[(8,3,(upTo k).map i64,0)]) (fun k=>n.toNat - k) (0) ?_ ?_
 ·show ((0:Nat):Int)≤n;omega
 rintro k hk
 (repeat' ((conv=>whnf);first | refine gA ?_ | (refine gN ?_ ?_ <;> intro h hw) | (refine gB ?_ ?_ <;> intro h) | refine gP ?_ | refine gV ?_ | intro _)) <;> try (conv=>whnf)
 ·refine nw (k+1) ?_ ?_
  ·(repeat' ((conv=>whnf) <;> (first | exact trivial | exact rfl | with_reducible refine And.intro ?_ ?_))) <;> ((conv=>whnf) <;> (exact upTo_map k))
  show ((k+1:Nat):Int)≤n
  omega
 ·refine⟨?_,rfl,trivial⟩
  rw [intRange,if_pos (by assumption),show n.toNat=k by omega];rfl
theorem impl_ModeIndexes (a:Activ):Con 238 [.d a.av] (.d (ints (intRange a.modes.length))):=by
 refine con Tryz.func238 rfl rfl Tryz.call238 rfl fun hwf=>?_
 (repeat' ((conv=>whnf);first | refine gA ?_ | (refine gB ?_ ?_ <;> intro h) | refine gC (impl_IntRange _) ?_ | intro _)) <;> try (conv=>whnf)
 refine⟨?_,rfl,trivial⟩
 rw [List.length_map]
theorem spec_IntRange (n:Int):Con 286 [.d (i64 n)] (.d (ints (intRange n))):=by
 refine con Tryz.func286 rfl rfl Tryz.call286 rfl fun hwf=>?_
 (repeat' ((conv=>whnf);first | refine gA ?_ | (refine gN ?_ ?_ <;> intro h hw) | (refine gB ?_ ?_ <;> intro h) | refine gP ?_ | refine gV ?_ | refine gC (spec_in _ _ _) ?_ | intro _)) <;> try (conv=>whnf)
 rotate_left
 ·refine⟨?_,rfl,trivial⟩
  rw [intRange,if_neg (by simp [h])];rfl
 refine loopF [0] [] [5] ?_
 (conv=>whnf)
 refine LoopC.go ((Nat)) (fun k=>((k:Int)≤n)) (fun k=>[(4,.data (i64 k)),(3,.own 5 0)]) (fun _=>[]) (fun k=>[(5,3,(upTo k).map i64,0)]) (fun k=>n.toNat - k) (0) ?_ ?_
 ·show ((0:Nat):Int)≤n;omega
 rintro k hk
 (repeat' ((conv=>whnf);first | refine gA ?_ | (refine gN ?_ ?_ <;> intro h hw) | (refine gB ?_ ?_ <;> intro h) | refine gP ?_ | refine gV ?_ | intro _)) <;> try (conv=>whnf)
 ·refine nw (k+1) ?_ ?_
  ·(repeat' ((conv=>whnf) <;> (first | exact trivial | exact rfl | with_reducible refine And.intro ?_ ?_))) <;> ((conv=>whnf) <;> (exact upTo_map k))
  show ((k+1:Nat):Int)≤n
  omega
 ·refine⟨?_,rfl,trivial⟩
  rw [intRange,if_pos (by assumption),show n.toNat=k by omega];rfl
theorem spec_ModeIndexes (a:Activ):Con 225 [.d a.av] (.d (ints (intRange a.modes.length))):=by
 refine con Tryz.func225 rfl rfl Tryz.call225 rfl fun hwf=>?_
 (repeat' ((conv=>whnf);first | refine gA ?_ | (refine gB ?_ ?_ <;> intro h) | refine gC (spec_IntRange _) ?_ | intro _)) <;> try (conv=>whnf)
 refine⟨?_,rfl,trivial⟩
 rw [List.length_map]
theorem slices_Clone_int (l:List Int):Con 119 [.d (ints l)] (.own 3 (l.map i64)):=by
 refine con Tryz.func119 rfl rfl Tryz.call119 rfl fun hwf=>?_
 simp only [ARs.wf,AR.wf,AV.wf,AV.wfs,List.length_map,lim] at hwf
 (repeat' ((conv=>whnf);first | refine gA ?_ | refine NilQ.mk (fun h=>?_) ?_ | (refine gB ?_ ?_ <;> intro h) | refine gP ?_ | intro _)) <;> try (conv=>whnf)
 ·exact⟨h,rfl,trivial⟩
 ·exact⟨by simp,rfl,trivial⟩
theorem wfs_get {α:Type} {f:α→AV} {L:Nat}:∀{l:List α} {k:Nat} {x:α},AV.wfs L (l.map f)→l[k]? =some x→AV.wf L (f x)
 | [],_,_,_,h=>by simp at h
 | y::r,0,x,h,e=>by simp at e;subst e;exact h.1
 | y::r,k+1,x,h,e=>wfs_get (l:=r) (k:=k) h.2 (by simpa using e)
def RDom (b:Dom):RV:=.agg [.own 3 (b.lo.map i64),.own 3 (b.hi.map i64),.own 25 (b.modes.map ints)]
theorem map_take_succ {α β:Type} (f:α→β) {l:List α} {k:Nat} {x:α} (h:l[k]? =some x):(l.take k).map f++[f x]=(l.take (k+1)).map f:=by
 rw [List.take_add_one,h];simp
theorem impl_copied (b:Dom):Con 152 [.d b.av] (RDom b):=by
 refine con Tryz.func152 rfl rfl Tryz.call152 rfl fun hwf=>?_
 simp only [ARs.wf,AR.wf,AV.wf,AV.wfs,List.length_map,lim] at hwf
 (repeat' ((conv=>whnf);first | refine gA ?_ | (refine gB ?_ ?_ <;> intro h) | (refine gI ?_;intro x hx) | (refine gJ ?_;intro j x hj hx) | refine gP ?_ | refine gV ?_ | refine gC (slices_Clone_int _) ?_ | intro _)) <;> try (conv=>whnf)
 refine loopF [2,3,14,15] [2] [9000,12000,25] ?_
 (conv=>whnf)
 refine LoopC.go ((Nat)) (fun k=>(k≤b.modes.length)) (fun k=>[(16,.data (i64 k))]) (fun k=>[(3,[.own 9000 0,.own 12000 0,.own 25 0])]) (fun k=>[(9000,3,b.lo.map i64,0),(12000,3,b.hi.map i64,0),(25,25,(b.modes.take k).map ints,0)]) (fun k=>b.modes.length - k) (0) ?_ ?_
 ·exact Nat.zero_le _
 rintro k hk
 (repeat' ((conv=>whnf);first | refine gA ?_ | (refine gB ?_ ?_ <;> intro h) | (refine gI ?_;intro x hx) | (refine gJ ?_;intro j x hj hx) | refine gP ?_ | refine gV ?_ | refine gC (slices_Clone_int x) ?_ | intro _)) <;> try (conv=>whnf)
 ·refine nw (k+1) ?_ ?_
  ·(repeat' ((conv=>whnf) <;> (first | exact trivial | exact rfl | with_reducible refine And.intro ?_ ?_))) <;> ((conv=>whnf) <;> (exact map_take_succ ints hx))
  exact (by omega:k+1≤b.modes.length)
 ·(repeat' ((conv=>whnf) <;> (first | exact trivial | exact VC.nod (by kernel_rfl) | refine VC.mk rfl ?_ | refine VC.mk (by dsimp only;rw [List.take_of_length_le (by omega)]) ?_)))
theorem spec_l12Copy (b:Dom):Con 177 [.d b.av] (RDom b):=by
 refine con Tryz.func177 rfl rfl Tryz.call177 rfl fun hwf=>?_
 simp only [ARs.wf,AR.wf,AV.wf,AV.wfs,List.length_map,lim] at hwf
 (repeat' ((conv=>whnf);first | refine gA ?_ | (refine gB ?_ ?_ <;> intro h) | (refine gI ?_;intro x hx) | (refine gJ ?_;intro j x hj hx) | refine gP ?_ | refine gV ?_ | intro _)) <;> try (conv=>whnf)
 refine loopF [2,3,16,17] [2] [6,10,28] ?_
 (conv=>whnf)
 refine LoopC.go ((Nat)) (fun k=>(k≤b.modes.length)) (fun k=>[(18,.data (i64 k))]) (fun k=>[(3,[.own 6 0,.own 10 0,.own 28 0])]) (fun k=>[(6,3,b.lo.map i64,0),(10,3,b.hi.map i64,0),(28,25,(b.modes.take k).map ints,0)]) (fun k=>b.modes.length - k) (0) ?_ ?_
 ·exact Nat.zero_le _
 rintro k hk
 (repeat' ((conv=>whnf);first | refine gA ?_ | (refine gB ?_ ?_ <;> intro h) | (refine gI ?_;intro x hx) | (refine gJ ?_;intro j x hj hx) | refine gP ?_ | refine gV ?_ | intro _)) <;> try (conv=>whnf)
 ·have hl:=wfs_get hwf.1.2.2.1.2 hx
  simp only [AV.wf,List.length_map] at hl
  (repeat' ((conv=>whnf);first | refine gA ?_ | (refine gB ?_ ?_ <;> intro h) | (refine gI ?_;intro x hx) | (refine gJ ?_;intro j x hj hx) | refine gP ?_ | refine gV ?_ | intro _)) <;> try (conv=>whnf)
  refine nw (k+1) ?_ ?_
  ·(repeat' ((conv=>whnf) <;> (first | exact trivial | exact rfl | with_reducible refine And.intro ?_ ?_))) <;> ((conv=>whnf) <;> (exact map_take_succ ints hx))
  exact (by omega:k+1≤b.modes.length)
 ·(repeat' ((conv=>whnf) <;> (first | exact trivial | exact VC.nod (by kernel_rfl) | refine VC.mk rfl ?_ | refine VC.mk (by dsimp only;rw [List.take_of_length_le (by omega)]) ?_)))
theorem filter_step {p:Int→Bool} {l o:List Int} {k:Nat} {x:Int} (hi:o++(l.drop k).filter p=l.filter p) (hx:l[k]? =some x):
  (p x=true→(o++[x])++(l.drop (k+1)).filter p=l.filter p)∧(p x=false→o++(l.drop (k+1)).filter p=l.filter p):=by
 rw [drop_get hx,List.filter_cons] at hi
 exact⟨fun h=>by rw [← hi,if_pos h];simp,fun h=>by rw [← hi,if_neg (by simp [h])]⟩
theorem impl_kept (l:List Int) (fc:Nat) (caps:List AV) (p:Int→Bool) (hc:∀n:Int,Con fc ([.d (i64 n)]++caps.map .ref) (.d (.bool (p n)))):Con 158 [.d (ints l),.fn fc caps] (.d (ints (l.filter p))):=by
 refine con Tryz.func158 rfl rfl Tryz.call158 rfl fun hwf=>?_
 simp only [ARs.wf,AR.wf,AV.wf,AV.wfs,List.length_map,lim] at hwf
 (repeat' ((conv=>whnf);first | refine gA ?_ | (refine gB ?_ ?_ <;> intro h) | (refine gI ?_;intro x hx) | (refine gJ ?_;intro j x hj hx) | refine gP ?_ | refine gV ?_ | intro _)) <;> try (conv=>whnf)
 refine loopF [1,9,10] [] [8] ?_
 (conv=>whnf)
 refine LoopC.go ((Nat)×(List Int)) (fun⟨k,o⟩=>(k≤l.length)∧(o.length≤k)∧(o++(l.drop k).filter p=l.filter p)) (fun⟨k,o⟩=>[(11,.data (i64 k)),(5,.own 8 0)]) (fun _=>[]) (fun⟨k,o⟩=>[(8,3,o.map i64,0)]) (fun⟨k,o⟩=>l.length - k) ⟨0,[]⟩ ?_ ?_
 ·exact⟨by omega,by simp,rfl⟩
 rintro⟨k,o⟩ ⟨hk,ho,hi⟩
 (repeat' ((conv=>whnf);first | refine gA ?_ | (refine gB ?_ ?_ <;> intro h) | (refine gI ?_;intro x hx) | (refine gJ ?_;intro j x hj hx) | refine gP ?_ | refine gV ?_ | refine gC (hc x) ?_ | intro _)) <;> try (conv=>whnf)
 ·refine nw ⟨k+1,o++[x]⟩ ?_ ?_
  ·(repeat' ((conv=>whnf) <;> (first | exact trivial | exact rfl | with_reducible refine And.intro ?_ ?_))) <;> ((conv=>whnf) <;> (simp))
  exact⟨by omega,by simp;omega,(filter_step hi hx).1 h⟩
 ·refine nx ⟨k+1,o⟩ ?_
  exact⟨by omega,by omega,(filter_step hi hx).2 h⟩
 ·refine⟨?_,rfl,trivial⟩
  rw [← hi,drop_end' (by assumption)];simp
theorem impl_SetRemove1 (k n:Int):Con 244 [.d (i64 k),.ref (i64 n)] (.d (.bool (decide (k≠n)))):=by
 refine con Tryz.func244 rfl rfl Tryz.call244 rfl fun hwf=>?_
 (repeat' ((conv=>whnf);first | refine gA ?_ | (refine gB ?_ ?_ <;> intro h) | intro _)) <;> try (conv=>whnf)
 all_goals refine⟨?_,rfl,trivial⟩
 all_goals simp
theorem impl_SetRemove (l:List Int) (n:Int):Con 160 [.d (ints l),.d (i64 n)] (.d (ints (l.filter fun k=>decide (k≠n)))):=by
 refine con Tryz.func160 rfl rfl Tryz.call160 rfl fun hwf=>?_
 (repeat' ((conv=>whnf);first | refine gA ?_ | (refine gB ?_ ?_ <;> intro h) | refine gC (impl_kept l 244 [i64 n] _ fun x=>impl_SetRemove1 x n) ?_ | intro _)) <;> try (conv=>whnf)
 exact⟨rfl,rfl,trivial⟩
theorem impl_Restrict1 (k n:Int):Con 159 [.d (i64 k),.ref (i64 n)] (.d (.bool (decide (k=n)))):=by
 refine con Tryz.func159 rfl rfl Tryz.call159 rfl fun hwf=>?_
 (repeat' ((conv=>whnf);first | refine gA ?_ | (refine gB ?_ ?_ <;> intro h) | intro _)) <;> try (conv=>whnf)
 all_goals exact⟨rfl,rfl,trivial⟩
theorem spec_SetRemove (l:List Int) (n:Int):Con 233 [.d (ints l),.d (i64 n)] (.d (ints (l.filter fun k=>decide (k≠n)))):=by
 refine con Tryz.func233 rfl rfl Tryz.call233 rfl fun hwf=>?_
 simp only [ARs.wf,AR.wf,AV.wf,AV.wfs,List.length_map,lim] at hwf
 (repeat' ((conv=>whnf);first | refine gA ?_ | (refine gB ?_ ?_ <;> intro h) | (refine gI ?_;intro x hx) | (refine gJ ?_;intro j x hj hx) | refine gP ?_ | refine gV ?_ | intro _)) <;> try (conv=>whnf)
 refine loopF [1,9,10] [] [8] ?_
 (conv=>whnf)
 refine LoopC.go ((Nat)×(List Int)) (fun⟨k,o⟩=>(k≤l.length)∧(o.length≤k)∧(o++(l.drop k).filter (fun k=>decide (k≠n))=l.filter (fun k=>decide (k≠n)))) (fun⟨k,o⟩=>[(11,.data (i64 k)),(5,.own 8 0)]) (fun _=>[]) (fun⟨k,o⟩=>[(8,3,o.map i64,0)]) (fun⟨k,o⟩=>l.length - k) ⟨0,[]⟩ ?_ ?_
 ·exact⟨by omega,by simp,rfl⟩
 rintro⟨k,o⟩ ⟨hk,ho,hi⟩
 (repeat' ((conv=>whnf);first | refine gA ?_ | (refine gB ?_ ?_ <;> intro h) | (refine gI ?_;intro x hx) | (refine gJ ?_;intro j x hj hx) | refine gP ?_ | refine gV ?_ | intro _)) <;> try (conv=>whnf)
 ·refine nx ⟨k+1,o⟩ ?_
  exact⟨by omega,by omega,(filter_step hi hx).2 (by simp [h])⟩
 ·refine nw ⟨k+1,o++[x]⟩ ?_ ?_
  ·(repeat' ((conv=>whnf) <;> (first | exact trivial | exact rfl | with_reducible refine And.intro ?_ ?_))) <;> ((conv=>whnf) <;> (simp))
  exact⟨by omega,by simp;omega,(filter_step hi hx).1 (by simp [h])⟩
 ·refine⟨?_,rfl,trivial⟩
  rw [← hi,drop_end' (by assumption)];simp
theorem impl_isStart (n:Int):Con 235 [.d (i64 n)] (.d (.bool (isStart n))):=by
 refine con Tryz.func235 rfl rfl Tryz.call235 rfl fun hwf=>?_
 (repeat' ((conv=>whnf);first | refine gA ?_ | (refine gN ?_ ?_ <;> intro h hw) | (refine gB ?_ ?_ <;> intro h) | refine gC (impl_within _ _ _) ?_ | intro _)) <;> try (conv=>whnf)
 exact⟨rfl,rfl,trivial⟩
theorem impl_clamped (n:Int):Con 157 [.d (i64 n)] (.d (i64 (clamped n))):=by
 refine con Tryz.func157 rfl rfl Tryz.call157 rfl fun hwf=>?_
 (repeat' ((conv=>whnf);first | refine gA ?_ | (refine gB ?_ ?_ <;> intro h) | intro _)) <;> try (conv=>whnf)
 exact⟨rfl,rfl,trivial⟩
theorem spec_l02Max (x y:Int):Con 41 [.d (i64 x),.d (i64 y)] (.d (i64 (max x y))):=by
 refine con Tryz.func41 rfl rfl Tryz.call41 rfl fun hwf=>?_
 (repeat' ((conv=>whnf);first | refine gA ?_ | (refine gB ?_ ?_ <;> intro h) | intro _)) <;> try (conv=>whnf)
 all_goals refine⟨?_,rfl,trivial⟩
 all_goals (simp only [i64,AV.int.injEq,true_and];omega)
theorem spec_l02Min (x y:Int):Con 99 [.d (i64 x),.d (i64 y)] (.d (i64 (min x y))):=by
 refine con Tryz.func99 rfl rfl Tryz.call99 rfl fun hwf=>?_
 (repeat' ((conv=>whnf);first | refine gA ?_ | (refine gB ?_ ?_ <;> intro h) | intro _)) <;> try (conv=>whnf)
 all_goals refine⟨?_,rfl,trivial⟩
 all_goals (simp only [i64,AV.int.injEq,true_and];omega)
theorem spec_l12Brought (n:Int):Con 231 [.d (i64 n)] (.d (i64 (clamped n))):=by
 refine con Tryz.func231 rfl rfl Tryz.call231 rfl fun hwf=>?_
 (repeat' ((conv=>whnf);first | refine gA ?_ | (refine gB ?_ ?_ <;> intro h) | refine gC (spec_l02Max _ _) ?_ | refine gC (spec_l02Min _ _) ?_ | intro _)) <;> try (conv=>whnf)
 refine⟨?_,rfl,trivial⟩
 simp only [i64,AV.int.injEq,true_and,clamped];omega
theorem impl_has (b:Dom) (a:Int):Con 156 [.d b.av,.d (i64 a)] (.d (.bool (hasDom b a))):=by
 refine con Tryz.func156 rfl rfl Tryz.call156 rfl fun hwf=>?_
 (repeat' ((conv=>whnf);first | refine gA ?_ | (refine gB ?_ ?_ <;> intro h) | intro _)) <;> try (conv=>whnf)
 all_goals refine⟨?_,rfl,trivial⟩
 all_goals simp [hasDom, *]
theorem spec_l12There (b:Dom) (a:Int):Con 230 [.d b.av,.d (i64 a)] (.d (.bool (hasDom b a))):=by
 refine con Tryz.func230 rfl rfl Tryz.call230 rfl fun hwf=>?_
 simp only [ARs.wf,AR.wf,AV.wf,AV.wfs,List.length_map,lim] at hwf
 (repeat' ((conv=>whnf);first | refine gA ?_ | (refine gN ?_ ?_ <;> intro h hw) | (refine gB ?_ ?_ <;> intro h) | refine gV ?_ | refine gC (spec_in _ _ _) ?_ | intro _)) <;> try (conv=>whnf)
 all_goals refine⟨?_,rfl,trivial⟩
 all_goals (simp only [AV.bool.injEq];rw [Bool.eq_iff_iff];simp only [hasDom,within,Bool.and_eq_true,decide_eq_true_eq,List.length_map,reduceCtorEq,false_iff];omega)
end Go.Proofs.YtfhojdalheinaaaGreat.Abs
