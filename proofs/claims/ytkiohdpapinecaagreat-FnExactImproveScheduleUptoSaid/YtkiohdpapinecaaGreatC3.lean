/- Contracts: domains. No statement of a claim. -/
import Derived.Test.YtkiohdpapinecaaGreatC2
set_option linter.all false
set_option linter.unusedVariables false
set_option linter.unusedSimpArgs false
set_option maxRecDepth 20000
set_option maxHeartbeats 4000000
namespace Go.Proofs.YtkiohdpapinecaaGreat.Abs
open Go.Proofs
theorem upTo_map (k:Nat):(upTo k).map i64++[i64 k]=(upTo (k+1)).map i64:=by
 rw [upTo,upTo,List.range_succ,List.map_append,List.map_append];rfl
theorem impl_IntRange (n:Int):Con 206 [.d (i64 n)] (.d (ints (intRange n))):=by
 refine con Tryz.func206 rfl rfl Tryz.call206 rfl fun hwf=>?_
 (repeat' ((conv=>whnf);first | refine gA ?_ | ((with_reducible first | refine gD (fun h=>?_) (fun h=>?_) | refine gE (fun h=>?_) (fun h=>?_)) <;> (try simp only [lm] at h) <;> try have hw:=wn h) | refine gP ?_ | refine gV ?_ | refine gC (impl_within _ _ _) ?_ | intro _)) <;> (try (conv=>whnf))
 rotate_left
 ·refine⟨?_,rfl,trivial⟩
  rw [intRange,if_neg (by simp [h])];rfl
 refine loopF [9] [] [8] ?_
 (conv=>whnf)
 refine LoopC.go ((Nat)) (fun k=>((k:Int)≤n)) (fun k=>[(10,.data (i64 k)),(3,.own 8 0)]) (fun _=>[]) (fun k=>[(8,3,(upTo k).map i64,0)]) (fun k=>n.toNat - k) (0) ?_ ?_
 ·show ((0:Nat):Int)≤n;omega
 rintro k hk
 (repeat' ((conv=>whnf);first | refine gA ?_ | ((with_reducible first | refine gD (fun h=>?_) (fun h=>?_) | refine gE (fun h=>?_) (fun h=>?_)) <;> (try simp only [lm] at h) <;> try have hw:=wn h) | refine gP ?_ | refine gV ?_ | intro _)) <;> (try (conv=>whnf))
 ·refine nw (k+1) ?_ ?_
  ·(repeat' ((conv=>whnf) <;> (first | exact trivial | exact rfl | with_reducible refine And.intro ?_ ?_))) <;> ((conv=>whnf) <;> (exact upTo_map k))
  show ((k+1:Nat):Int)≤n
  omega
 ·refine⟨?_,rfl,trivial⟩
  rw [intRange,if_pos (by assumption),show n.toNat=k by omega];rfl
theorem impl_ModeIndexes (a:Activ):Con 203 [.d a.av] (.d (ints (intRange a.modes.length))):=by
 refine con Tryz.func203 rfl rfl Tryz.call203 rfl fun hwf=>?_
 (repeat' ((conv=>whnf);first | refine gA ?_ | ((with_reducible first | refine gD (fun h=>?_) (fun h=>?_) | refine gE (fun h=>?_) (fun h=>?_)) <;> (try simp only [lm] at h) <;> try have hw:=wn h) | refine gC (impl_IntRange _) ?_ | intro _)) <;> (try (conv=>whnf))
 refine⟨?_,rfl,trivial⟩
 rw [List.length_map]
theorem spec_IntRange (n:Int):Con 293 [.d (i64 n)] (.d (ints (intRange n))):=by
 refine con Tryz.func293 rfl rfl Tryz.call293 rfl fun hwf=>?_
 (repeat' ((conv=>whnf);first | refine gA ?_ | ((with_reducible first | refine gD (fun h=>?_) (fun h=>?_) | refine gE (fun h=>?_) (fun h=>?_)) <;> (try simp only [lm] at h) <;> try have hw:=wn h) | refine gP ?_ | refine gV ?_ | refine gC (spec_in _ _ _) ?_ | intro _)) <;> (try (conv=>whnf))
 rotate_left
 ·refine⟨?_,rfl,trivial⟩
  rw [intRange,if_neg (by simp [h])];rfl
 refine loopF [0] [] [5] ?_
 (conv=>whnf)
 refine LoopC.go ((Nat)) (fun k=>((k:Int)≤n)) (fun k=>[(4,.data (i64 k)),(3,.own 5 0)]) (fun _=>[]) (fun k=>[(5,3,(upTo k).map i64,0)]) (fun k=>n.toNat - k) (0) ?_ ?_
 ·show ((0:Nat):Int)≤n;omega
 rintro k hk
 (repeat' ((conv=>whnf);first | refine gA ?_ | ((with_reducible first | refine gD (fun h=>?_) (fun h=>?_) | refine gE (fun h=>?_) (fun h=>?_)) <;> (try simp only [lm] at h) <;> try have hw:=wn h) | refine gP ?_ | refine gV ?_ | intro _)) <;> (try (conv=>whnf))
 ·refine nw (k+1) ?_ ?_
  ·(repeat' ((conv=>whnf) <;> (first | exact trivial | exact rfl | with_reducible refine And.intro ?_ ?_))) <;> ((conv=>whnf) <;> (exact upTo_map k))
  show ((k+1:Nat):Int)≤n
  omega
 ·refine⟨?_,rfl,trivial⟩
  rw [intRange,if_pos (by assumption),show n.toNat=k by omega];rfl
theorem spec_ModeIndexes (a:Activ):Con 190 [.d a.av] (.d (ints (intRange a.modes.length))):=by
 refine con Tryz.func190 rfl rfl Tryz.call190 rfl fun hwf=>?_
 (repeat' ((conv=>whnf);first | refine gA ?_ | ((with_reducible first | refine gD (fun h=>?_) (fun h=>?_) | refine gE (fun h=>?_) (fun h=>?_)) <;> (try simp only [lm] at h) <;> try have hw:=wn h) | refine gC (spec_IntRange _) ?_ | intro _)) <;> (try (conv=>whnf))
 refine⟨?_,rfl,trivial⟩
 rw [List.length_map]
theorem slices_Clone_int (l:List Int):Con 153 [.d (ints l)] (.own 3 (l.map i64)):=by
 refine con Tryz.func153 rfl rfl Tryz.call153 rfl fun hwf=>?_
 simp only [ARs.wf,AR.wf,AV.wf,AV.wfs,List.length_map,lim] at hwf
 (repeat' ((conv=>whnf);first | refine gA ?_ | refine NilQ.mk (fun h=>?_) ?_ | ((with_reducible first | refine gD (fun h=>?_) (fun h=>?_) | refine gE (fun h=>?_) (fun h=>?_)) <;> (try simp only [lm] at h) <;> try have hw:=wn h) | refine gP ?_ | intro _)) <;> (try (conv=>whnf))
 ·exact⟨h,rfl,trivial⟩
 ·exact⟨by simp,rfl,trivial⟩
theorem wfs_get {α:Type} {f:α→AV} {L:Nat}:∀{l:List α} {k:Nat} {x:α},AV.wfs L (l.map f)→l[k]? =some x→AV.wf L (f x)
 | [],_,_,_,h=>by simp at h
 | y::r,0,x,h,e=>by simp at e;subst e;exact h.1
 | y::r,k+1,x,h,e=>wfs_get (l:=r) (k:=k) h.2 (by simpa using e)
def RDom (b:Dom):RV:=.agg [.own 3 (b.lo.map i64),.own 3 (b.hi.map i64),.own 25 (b.modes.map ints)]
theorem filter_step {p:Int→Bool} {l o:List Int} {k:Nat} {x:Int} (hi:o++(l.drop k).filter p=l.filter p) (hx:l[k]? =some x):
  (p x=true→(o++[x])++(l.drop (k+1)).filter p=l.filter p)∧(p x=false→o++(l.drop (k+1)).filter p=l.filter p):=by
 rw [drop_get hx,List.filter_cons] at hi
 exact⟨fun h=>by rw [← hi,if_pos h];simp,fun h=>by rw [← hi,if_neg (by simp [h])]⟩
theorem spec_l02Max (x y:Int):Con 81 [.d (i64 x),.d (i64 y)] (.d (i64 (max x y))):=by
 refine con Tryz.func81 rfl rfl Tryz.call81 rfl fun hwf=>?_
 (repeat' ((conv=>whnf);first | refine gA ?_ | ((with_reducible first | refine gD (fun h=>?_) (fun h=>?_) | refine gE (fun h=>?_) (fun h=>?_)) <;> (try simp only [lm] at h) <;> try have hw:=wn h) | intro _)) <;> (try (conv=>whnf))
 all_goals refine⟨?_,rfl,trivial⟩
 all_goals (simp only [i64,AV.int.injEq,true_and];omega)
theorem spec_l02Min (x y:Int):Con 144 [.d (i64 x),.d (i64 y)] (.d (i64 (min x y))):=by
 refine con Tryz.func144 rfl rfl Tryz.call144 rfl fun hwf=>?_
 (repeat' ((conv=>whnf);first | refine gA ?_ | ((with_reducible first | refine gD (fun h=>?_) (fun h=>?_) | refine gE (fun h=>?_) (fun h=>?_)) <;> (try simp only [lm] at h) <;> try have hw:=wn h) | intro _)) <;> (try (conv=>whnf))
 all_goals refine⟨?_,rfl,trivial⟩
 all_goals (simp only [i64,AV.int.injEq,true_and];omega)
end Go.Proofs.YtkiohdpapinecaaGreat.Abs
