/- Contracts: domains. -/
import Derived.Test.YtpfgedlimdeffaaGreatC2
set_option linter.all false
set_option maxRecDepth 20000
set_option maxHeartbeats 0
namespace Go.Proofs.YtpfgedlimdeffaaGreat.Abs
open Go.Proofs
theorem Fe (k:Nat):(upTo k).map i64++[i64 k]=(upTo (k+1)).map i64:=by
 rw [upTo,upTo,List.range_succ,List.map_append,List.map_append];rfl
theorem xB (n:Int):Con 169 [.d (i64 n)] (.d (ints (dX n))):=by
 refine con Tryz.func169 rfl rfl Tryz.call169 rfl fun hwf=>?_
 (repeat' ((conv=>whnf);first|refine gA ?_|(refine gN ?_ ?_<;>intro h hw)|(refine gB ?_ ?_<;>intro h)|refine gP ?_|refine gV ?_|refine gC (bq _ _ _) ?_|intro _))<;>try (conv=>whnf)
 rotate_left
 ·refine⟨?_,rfl,trivial⟩
  rw [dX,if_neg (by simp [h])];rfl
 refine aG [9] [] [8] ?_
 (conv=>whnf)
 refine aC.go ((Nat)) (fun k=>((k:Int)≤n)) (fun k=>[(10,.data (i64 k)),(3,.own 8 0)]) (fun _=>[]) (fun k=>[(8,3,(upTo k).map i64,0)]) (fun k=>n.toNat - k) (0) ?_ ?_
 ·show ((0:Nat):Int)≤n;omega
 rintro k hk
 (repeat' ((conv=>whnf);first|refine gA ?_|(refine gN ?_ ?_<;>intro h hw)|(refine gB ?_ ?_<;>intro h)|refine gP ?_|refine gV ?_|intro _))<;>try (conv=>whnf)
 ·refine nw (k+1) ?_ ?_
  ·(repeat' ((conv=>whnf)<;>(first|exact trivial|exact rfl|with_reducible refine And.intro ?_ ?_)))<;>((conv=>whnf)<;>(exact Fe k))
  show ((k+1:Nat):Int)≤n
  omega
 ·refine⟨?_,rfl,trivial⟩
  rw [dX,if_pos (by assumption),show n.toNat=k by omega];rfl
theorem GJ (n:Int):Con 146 [.d (i64 n)] (.d (ints (dX n))):=by
 refine con Tryz.func146 rfl rfl Tryz.call146 rfl fun hwf=>?_
 (repeat' ((conv=>whnf);first|refine gA ?_|(refine gN ?_ ?_<;>intro h hw)|(refine gB ?_ ?_<;>intro h)|refine gP ?_|refine gV ?_|refine gC (dI _ _ _) ?_|intro _))<;>try (conv=>whnf)
 rotate_left
 ·refine⟨?_,rfl,trivial⟩
  rw [dX,if_neg (by simp [h])];rfl
 refine aG [0] [] [5] ?_
 (conv=>whnf)
 refine aC.go ((Nat)) (fun k=>((k:Int)≤n)) (fun k=>[(4,.data (i64 k)),(3,.own 5 0)]) (fun _=>[]) (fun k=>[(5,3,(upTo k).map i64,0)]) (fun k=>n.toNat - k) (0) ?_ ?_
 ·show ((0:Nat):Int)≤n;omega
 rintro k hk
 (repeat' ((conv=>whnf);first|refine gA ?_|(refine gN ?_ ?_<;>intro h hw)|(refine gB ?_ ?_<;>intro h)|refine gP ?_|refine gV ?_|intro _))<;>try (conv=>whnf)
 ·refine nw (k+1) ?_ ?_
  ·(repeat' ((conv=>whnf)<;>(first|exact trivial|exact rfl|with_reducible refine And.intro ?_ ?_)))<;>((conv=>whnf)<;>(exact Fe k))
  show ((k+1:Nat):Int)≤n
  omega
 ·refine⟨?_,rfl,trivial⟩
  rw [dX,if_pos (by assumption),show n.toNat=k by omega];rfl
theorem slices_Clone_int (l:List Int):Con 75 [.d (ints l)] (.own 3 (l.map i64)):=by
 refine con Tryz.func75 rfl rfl Tryz.call75 rfl fun hwf=>?_
 simp only [ARs.wf,AR.wf,AV.wf,AV.wfs,lm,lim] at hwf
 (repeat' ((conv=>whnf);first|refine gA ?_|refine Uy.mk (fun h=>?_) ?_|(refine gB ?_ ?_<;>intro h)|refine gP ?_|intro _))<;>try (conv=>whnf)
 ·exact⟨h,rfl,trivial⟩
 ·exact⟨by simp,rfl,trivial⟩
theorem qW {α:Type} {f:α→AV} {L:Nat}:∀{l:List α} {k:Nat} {x:α},AV.wfs L (l.map f)→l[k]? =some x→AV.wf L (f x)
 |[],_,_,_,h=>by simp at h
 |y::r,0,x,h,e=>by simp at e;subst e;exact h.1
 |y::r,k+1,x,h,e=>qW (l:=r) (k:=k) h.2 (by simpa using e)
theorem Cw {p:Int→Bool} {l o:List Int} {k:Nat} {x:Int} (hi:o++(l.drop k).filter p=l.filter p) (hx:l[k]? =some x):
  (p x=true→(o++[x])++(l.drop (k+1)).filter p=l.filter p)∧(p x=false→o++(l.drop (k+1)).filter p=l.filter p):=by
 rw [ay hx,List.filter_cons] at hi
 exact⟨fun h=>by rw [← hi,if_pos h];simp,fun h=>by rw [← hi,if_neg (by simp [h])]⟩
theorem nU (x y:Int):Con 26 [.d (i64 x),.d (i64 y)] (.d (i64 (max x y))):=by
 refine con Tryz.func26 rfl rfl Tryz.call26 rfl fun hwf=>?_
 (repeat' ((conv=>whnf);first|refine gA ?_|(refine gB ?_ ?_<;>intro h)|intro _))<;>try (conv=>whnf)
 all_goals refine⟨?_,rfl,trivial⟩
 all_goals (simp only [i64,AV.int.injEq,true_and];omega)
end Go.Proofs.YtpfgedlimdeffaaGreat.Abs
