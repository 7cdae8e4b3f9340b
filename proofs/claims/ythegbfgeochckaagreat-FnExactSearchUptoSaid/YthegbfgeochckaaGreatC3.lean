/- Part of a proof. -/
import Derived.Test.YthegbfgeochckaaGreatC2
set_option linter.all false
set_option maxRecDepth 20000
set_option maxHeartbeats 0
namespace Go.Proofs.YthegbfgeochckaaGreat.Abs
open Go.Proofs
theorem Oo (k:Nat):(upTo k).map i64++[i64 k]=(upTo (k+1)).map i64:=by
 rw [upTo,upTo,List.range_succ,List.map_append,List.map_append];rfl
theorem yL (n:Int):Con 229 [.d (i64 n)] (.d (ints (aT n))):=by
 refine con Tryz.func229 rfl rfl Tryz.call229 rfl fun hwf=>?_
 (repeat' ((conv=>whnf);first|refine gA ?_|(refine gN ?_ ?_<;>intro h hw)|refine gC (bO _ _ _) ?_|intro _))
 rotate_left
 ·refine⟨?_,rfl,trivial⟩
  rw [aT,if_neg (by simp [h])];rfl
 refine ay [9] [] [8] ?_
 (conv=>whnf)
 refine au.go ((Nat)) (fun k=>((k:Int)<=n)) (fun k=>[(10,.data (i64 k)),(3,.own 8 0)]) lE (fun k=>[(8,3,(upTo k).map i64,0)]) (fun k=>n.toNat - k) (0) ?_ ?_
 ·show ((0:Nat):Int)<=n;omega
 rintro k hk
 (repeat' ((conv=>whnf);first|refine gAX ?_|(refine gB ?_ ?_<;>intro h)))
 ·refine nw (k+1) ?_ ?_
  ·(repeat' ((conv=>whnf)<;>(first|exact trivial|exact rfl|with_reducible refine And.intro ?_ ?_)))<;>((conv=>whnf)<;>(exact Oo k))
  show ((k+1:Nat):Int)<=n
  omega
 ·refine⟨?_,rfl,trivial⟩
  rw [aT,if_pos (by assumption),show n.toNat=k by omega];rfl
theorem sQ (a:aB):Con 150 [.d a.av] (.d (ints (aT a.modes.length))):=by
 refine con Tryz.func150 rfl rfl Tryz.call150 rfl fun hwf=>?_
 (repeat' ((conv=>whnf);first|refine gA ?_|refine gC (yL _) ?_|intro _))
 refine⟨?_,rfl,trivial⟩
 rw [List.length_map]
theorem Fa (n:Int):Con 195 [.d (i64 n)] (.d (ints (aT n))):=by
 refine con Tryz.func195 rfl rfl Tryz.call195 rfl fun hwf=>?_
 (repeat' ((conv=>whnf);first|refine gA ?_|(refine gN ?_ ?_<;>intro h hw)|refine gC (dG _ _ _) ?_|intro _))
 rotate_left
 ·refine⟨?_,rfl,trivial⟩
  rw [aT,if_neg (by simp [h])];rfl
 refine ay [0] [] [5] ?_
 (conv=>whnf)
 refine au.go ((Nat)) (fun k=>((k:Int)<=n)) (fun k=>[(4,.data (i64 k)),(3,.own 5 0)]) lE (fun k=>[(5,3,(upTo k).map i64,0)]) (fun k=>n.toNat - k) (0) ?_ ?_
 ·show ((0:Nat):Int)<=n;omega
 rintro k hk
 (repeat' ((conv=>whnf);first|refine gAX ?_|(refine gB ?_ ?_<;>intro h)))
 ·refine nw (k+1) ?_ ?_
  ·(repeat' ((conv=>whnf)<;>(first|exact trivial|exact rfl|with_reducible refine And.intro ?_ ?_)))<;>((conv=>whnf)<;>(exact Oo k))
  show ((k+1:Nat):Int)<=n
  omega
 ·refine⟨?_,rfl,trivial⟩
  rw [aT,if_pos (by assumption),show n.toNat=k by omega];rfl
theorem sS (a:aB):Con 118 [.d a.av] (.d (ints (aT a.modes.length))):=by
 refine con Tryz.func118 rfl rfl Tryz.call118 rfl fun hwf=>?_
 (repeat' ((conv=>whnf);first|refine gA ?_|refine gC (Fa _) ?_|intro _))
 refine⟨?_,rfl,trivial⟩
 rw [List.length_map]
theorem slices_Clone_int (l:List Int):Con 176 [.d (ints l)] (.own 3 (l.map i64)):=by
 refine con Tryz.func176 rfl rfl Tryz.call176 rfl fun hwf=>?_
 simp only [ARs.wf,AR.wf,AV.wf,AV.wfs,lm,lim] at hwf
 (repeat' ((conv=>whnf);first|refine gAP ?_|refine abz.mk (fun h=>?_) ?_))<;>try (conv=>whnf)
 ·exact⟨h,rfl,trivial⟩
 ·exact⟨by simp,rfl,trivial⟩
theorem jD {α:Type} {f:α->AV} {L:Nat}:∀{l:List α} {k:Nat} {x:α},AV.wfs L (l.map f)->l[k]? =some x->AV.wf L (f x)
 |[],_,_,_,h=>by simp at h
 |y::r,0,x,h,e=>by simp at e;subst e;exact h.1
 |y::r,k+1,x,h,e=>jD (l:=r) (k:=k) h.2 (by simpa using e)
def ahW (b:Dom):RV:=.agg [.own 3 (b.lo.map i64),.own 3 (b.hi.map i64),.own 25 (b.modes.map ints)]
theorem fO {α β:Type} (f:α->β) {l:List α} {k:Nat} {x:α} (h:l[k]? =some x):(l.take k).map f++[f x]=(l.take (k+1)).map f:=by
 rw [List.take_add_one,h];simp
theorem qK (b:Dom):Con 92 [.d b.av] (ahW b):=by
 refine con Tryz.func92 rfl rfl Tryz.call92 rfl fun hwf=>?_
 simp only [ARs.wf,AR.wf,AV.wf,AV.wfs,lm,lim] at hwf
 (repeat' ((conv=>whnf);first|refine gA ?_|refine gC (slices_Clone_int _) ?_))<;>try (conv=>whnf)
 refine ay [2,3,14,15] [2] [9000,12000,25] ?_
 (conv=>whnf)
 refine au.go ((Nat)) (fun k=>(k<=b.modes.length)) (fun k=>[(16,.data (i64 k))]) (fun k=>[(3,[.own 9000 0,.own 12000 0,.own 25 0])]) (fun k=>[(9000,3,b.lo.map i64,0),(12000,3,b.hi.map i64,0),(25,25,(b.modes.take k).map ints,0)]) (fun k=>b.modes.length - k) (0) ?_ ?_
 ·exact Nat.zero_le _
 rintro k hk
 (repeat' ((conv=>whnf);first|refine gAX ?_|(refine gB ?_ ?_<;>intro h)|(refine gI ?_;intro x hx)|refine gC (slices_Clone_int x) ?_))<;>try (conv=>whnf)
 ·refine nw (k+1) ?_ ?_
  ·(repeat' ((conv=>whnf)<;>(first|exact trivial|exact rfl|with_reducible refine And.intro ?_ ?_)))<;>((conv=>whnf)<;>(exact fO ints hx))
  exact (by omega:k+1<=b.modes.length)
 ·(repeat' ((conv=>whnf)<;>(first|exact trivial|exact VC.nod (by kernel_rfl)|refine VC.mk rfl ?_|refine VC.mk (by dsimp only;rw [List.take_of_length_le (by omega)]) ?_)))
theorem mP (b:Dom):Con 63 [.d b.av] (ahW b):=by
 refine con Tryz.func63 rfl rfl Tryz.call63 rfl fun hwf=>?_
 simp only [ARs.wf,AR.wf,AV.wf,AV.wfs,lm,lim] at hwf
 (repeat' ((conv=>whnf);first|refine gAX ?_))<;>try (conv=>whnf)
 refine ay [2,3,16,17] [2] [6,10,28] ?_
 (conv=>whnf)
 refine au.go ((Nat)) (fun k=>(k<=b.modes.length)) (fun k=>[(18,.data (i64 k))]) (fun k=>[(3,[.own 6 0,.own 10 0,.own 28 0])]) (fun k=>[(6,3,b.lo.map i64,0),(10,3,b.hi.map i64,0),(28,25,(b.modes.take k).map ints,0)]) (fun k=>b.modes.length - k) (0) ?_ ?_
 ·exact Nat.zero_le _
 rintro k hk
 (repeat' ((conv=>whnf);first|(refine gB ?_ ?_<;>intro h)|(refine gI ?_;intro x hx)))<;>try (conv=>whnf)
 ·have hl:=jD hwf.1.2.2.1.2 hx
  simp only [AV.wf,List.length_map] at hl
  (repeat' ((conv=>whnf);first|refine gAX ?_))<;>try (conv=>whnf)
  refine nw (k+1) ?_ ?_
  ·(repeat' ((conv=>whnf)<;>(first|exact trivial|exact rfl|with_reducible refine And.intro ?_ ?_)))<;>((conv=>whnf)<;>(exact fO ints hx))
  exact (by omega:k+1<=b.modes.length)
 ·(repeat' ((conv=>whnf)<;>(first|exact trivial|exact VC.nod (by kernel_rfl)|refine VC.mk rfl ?_|refine VC.mk (by dsimp only;rw [List.take_of_length_le (by omega)]) ?_)))
theorem jK {p:Int->Bool} {l o:List Int} {k:Nat} {x:Int} (hi:o++(l.drop k).filter p=l.filter p) (hx:l[k]? =some x):
  (p x=true->(o++[x])++(l.drop (k+1)).filter p=l.filter p)/\(p x=false->o++(l.drop (k+1)).filter p=l.filter p):=by
 rw [aA hx,List.filter_cons] at hi
 exact⟨fun h=>by rw [<- hi,if_pos h];simp,fun h=>by rw [<- hi,if_neg (by simp [h])]⟩
theorem Ko (l:List Int) (fc:Nat) (caps:List AV) (p:Int->Bool) (hc:∀n:Int,Con fc ([.d (i64 n)]++caps.map .ref) (.d (.bool (p n)))):Con 154 [.d (ints l),.fn fc caps] (.d (ints (l.filter p))):=by
 refine con Tryz.func154 rfl rfl Tryz.call154 rfl fun hwf=>?_
 simp only [ARs.wf,AR.wf,AV.wf,AV.wfs,lm,lim] at hwf
 try (conv=>whnf)
 refine ay [1,9,10] [] [8] ?_
 (conv=>whnf)
 refine au.go ((Nat)×(List Int)) (fun⟨k,o⟩=>(k<=l.length)/\(o.length<=k)/\(o++(l.drop k).filter p=l.filter p)) (fun⟨k,o⟩=>[(11,.data (i64 k)),(5,.own 8 0)]) lE (fun⟨k,o⟩=>[(8,3,o.map i64,0)]) (fun⟨k,o⟩=>l.length - k) ⟨0,[]⟩ ?_ ?_
 ·exact⟨by omega,by simp,rfl⟩
 rintro⟨k,o⟩ ⟨hk,ho,hi⟩
 (repeat' ((conv=>whnf);first|refine gAX ?_|(refine gB ?_ ?_<;>intro h)|(refine gI ?_;intro x hx)|refine gC (hc x) ?_|intro _))<;>try (conv=>whnf)
 ·refine nwS ⟨k+1,o++[x]⟩ ?_
  exact⟨by omega,by simp;omega,(jK hi hx).1 h⟩
 ·refine nx ⟨k+1,o⟩ ?_
  exact⟨by omega,by omega,(jK hi hx).2 h⟩
 ·refine⟨?_,rfl,trivial⟩
  rw [<- hi,aG (by assumption)];simp
theorem Mw (k n:Int):Con 230 [.d (i64 k),.ref (i64 n)] (.d (.bool (decide (k≠n)))):=by
 refine con Tryz.func230 rfl rfl Tryz.call230 rfl fun hwf=>?_
 try (conv=>whnf)
 all_goals refine⟨?_,rfl,trivial⟩
 all_goals simp
theorem Oq (l:List Int) (n:Int):Con 156 [.d (ints l),.d (i64 n)] (.d (ints (l.filter fun k=>decide (k≠n)))):=by
 refine con Tryz.func156 rfl rfl Tryz.call156 rfl fun hwf=>?_
 (repeat' ((conv=>whnf);first|refine gA ?_|refine gC (Ko l 230 [i64 n] _ fun x=>Mw x n) ?_|intro _))
 exact⟨rfl,rfl,trivial⟩
theorem Ot (k n:Int):Con 155 [.d (i64 k),.ref (i64 n)] (.d (.bool (decide (k=n)))):=by
 refine con Tryz.func155 rfl rfl Tryz.call155 rfl fun hwf=>?_
 try (conv=>whnf)
 all_goals exact⟨rfl,rfl,trivial⟩
theorem Ou (l:List Int) (n:Int):Con 205 [.d (ints l),.d (i64 n)] (.d (ints (l.filter fun k=>decide (k≠n)))):=by
 refine con Tryz.func205 rfl rfl Tryz.call205 rfl fun hwf=>?_
 simp only [ARs.wf,AR.wf,AV.wf,AV.wfs,lm,lim] at hwf
 try (conv=>whnf)
 refine ay [1,9,10] [] [8] ?_
 (conv=>whnf)
 refine au.go ((Nat)×(List Int)) (fun⟨k,o⟩=>(k<=l.length)/\(o.length<=k)/\(o++(l.drop k).filter (fun k=>decide (k≠n))=l.filter (fun k=>decide (k≠n)))) (fun⟨k,o⟩=>[(11,.data (i64 k)),(5,.own 8 0)]) lE (fun⟨k,o⟩=>[(8,3,o.map i64,0)]) (fun⟨k,o⟩=>l.length - k) ⟨0,[]⟩ ?_ ?_
 ·exact⟨by omega,by simp,rfl⟩
 rintro⟨k,o⟩ ⟨hk,ho,hi⟩
 (repeat' ((conv=>whnf);first|refine gAX ?_|(refine gB ?_ ?_<;>intro h)|(refine gI ?_;intro x hx)))<;>try (conv=>whnf)
 ·refine nx ⟨k+1,o⟩ ?_
  exact⟨by omega,by omega,(jK hi hx).2 (by simp [h])⟩
 ·refine nwS ⟨k+1,o++[x]⟩ ?_
  exact⟨by omega,by simp;omega,(jK hi hx).1 (by simp [h])⟩
 ·refine⟨?_,rfl,trivial⟩
  rw [<- hi,aG (by assumption)];simp
theorem UJ (n:Int):Con 147 [.d (i64 n)] (.d (.bool (rz n))):=by
 refine con Tryz.func147 rfl rfl Tryz.call147 rfl fun hwf=>?_
 (repeat' ((conv=>whnf);first|refine gA ?_|refine gC (bO _ _ _) ?_|intro _))
 exact⟨rfl,rfl,trivial⟩
theorem UK (n:Int):Con 153 [.d (i64 n)] (.d (i64 (clamped n))):=by
 refine con Tryz.func153 rfl rfl Tryz.call153 rfl fun hwf=>?_
 try (conv=>whnf)
 exact⟨rfl,rfl,trivial⟩
theorem uE (x y:Int):Con 202 [.d (i64 x),.d (i64 y)] (.d (i64 (max x y))):=by
 refine con Tryz.func202 rfl rfl Tryz.call202 rfl fun hwf=>?_
 (repeat' ((conv=>whnf);first|(refine gB ?_ ?_<;>intro h)))
 all_goals refine⟨?_,rfl,trivial⟩
 all_goals (simp only [i64,AV.int.injEq,true_and];omega)
theorem xM (x y:Int):Con 203 [.d (i64 x),.d (i64 y)] (.d (i64 (min x y))):=by
 refine con Tryz.func203 rfl rfl Tryz.call203 rfl fun hwf=>?_
 (repeat' ((conv=>whnf);first|(refine gB ?_ ?_<;>intro h)))
 all_goals refine⟨?_,rfl,trivial⟩
 all_goals (simp only [i64,AV.int.injEq,true_and];omega)
theorem Mx (n:Int):Con 201 [.d (i64 n)] (.d (i64 (clamped n))):=by
 refine con Tryz.func201 rfl rfl Tryz.call201 rfl fun hwf=>?_
 (repeat' ((conv=>whnf);first|refine gA ?_|refine gC (uE _ _) ?_|refine gC (xM _ _) ?_|intro _))
 refine⟨?_,rfl,trivial⟩
 simp only [i64,AV.int.injEq,true_and,clamped];omega
theorem II (b:Dom) (a:Int):Con 152 [.d b.av,.d (i64 a)] (.d (.bool (nY b a))):=by
 refine con Tryz.func152 rfl rfl Tryz.call152 rfl fun hwf=>?_
 (repeat' ((conv=>whnf);first|refine gA ?_|(refine gB ?_ ?_<;>intro h)))
 all_goals refine⟨?_,rfl,trivial⟩
 all_goals simp [nY, *]
theorem qd (b:Dom) (a:Int):Con 200 [.d b.av,.d (i64 a)] (.d (.bool (nY b a))):=by
 refine con Tryz.func200 rfl rfl Tryz.call200 rfl fun hwf=>?_
 simp only [ARs.wf,AR.wf,AV.wf,AV.wfs,lm,lim] at hwf
 (repeat' ((conv=>whnf);first|refine gA ?_|(refine gN ?_ ?_<;>intro h hw)|refine gC (dG _ _ _) ?_|intro _))<;>try (conv=>whnf)
 all_goals refine⟨?_,rfl,trivial⟩
 all_goals (simp only [AV.bool.injEq];rw [Bool.eq_iff_iff];simp only [nY,within,Bool.and_eq_true,decide_eq_true_eq,List.length_map,reduceCtorEq,false_iff];omega)
end Go.Proofs.YthegbfgeochckaaGreat.Abs
