/- Contracts: domains. -/
import Derived.Test.YtgkfifiobmklcaaGreatC2
set_option linter.all false
set_option maxRecDepth 20000
set_option maxHeartbeats 0
namespace Go.Proofs.YtgkfifiobmklcaaGreat.Abs
open Go.Proofs
theorem LU (k:Nat):(upTo k).map i64++[i64 k]=(upTo (k+1)).map i64:=by
 rw [upTo,upTo,List.range_succ,List.map_append,List.map_append];rfl
theorem vK (n:Int):Con 107 [.d (i64 n)] (.d (ints (aN n))):=by
 refine con Tryz.func107 rfl rfl Tryz.call107 rfl fun hwf=>?_
 (repeat' ((conv=>whnf);first|refine gA ?_|(refine gN ?_ ?_<;>intro h hw)|(refine gB ?_ ?_<;>intro h)|refine gP ?_|refine gV ?_|refine gC (aV _ _ _) ?_|intro _))<;>try (conv=>whnf)
 rotate_left
 ·refine⟨?_,rfl,trivial⟩
  rw [aN,if_neg (by simp [h])];rfl
 refine aB [9] [] [8] ?_
 (conv=>whnf)
 refine aA.go ((Nat)) (fun k=>((k:Int)≤n)) (fun k=>[(10,.data (i64 k)),(3,.own 8 0)]) (fun _=>[]) (fun k=>[(8,3,(upTo k).map i64,0)]) (fun k=>n.toNat - k) (0) ?_ ?_
 ·show ((0:Nat):Int)≤n;omega
 rintro k hk
 (repeat' ((conv=>whnf);first|refine gA ?_|(refine gN ?_ ?_<;>intro h hw)|(refine gB ?_ ?_<;>intro h)|refine gP ?_|refine gV ?_|intro _))<;>try (conv=>whnf)
 ·refine nw (k+1) ?_ ?_
  ·(repeat' ((conv=>whnf)<;>(first|exact trivial|exact rfl|with_reducible refine And.intro ?_ ?_)))<;>((conv=>whnf)<;>(exact LU k))
  show ((k+1:Nat):Int)≤n
  omega
 ·refine⟨?_,rfl,trivial⟩
  rw [aN,if_pos (by assumption),show n.toNat=k by omega];rfl
theorem pY (a:aF):Con 126 [.d a.av] (.d (ints (aN a.modes.length))):=by
 refine con Tryz.func126 rfl rfl Tryz.call126 rfl fun hwf=>?_
 (repeat' ((conv=>whnf);first|refine gA ?_|(refine gB ?_ ?_<;>intro h)|refine gC (vK _) ?_|intro _))<;>try (conv=>whnf)
 refine⟨?_,rfl,trivial⟩
 rw [List.length_map]
theorem NT (n:Int):Con 214 [.d (i64 n)] (.d (ints (aN n))):=by
 refine con Tryz.func214 rfl rfl Tryz.call214 rfl fun hwf=>?_
 (repeat' ((conv=>whnf);first|refine gA ?_|(refine gN ?_ ?_<;>intro h hw)|(refine gB ?_ ?_<;>intro h)|refine gP ?_|refine gV ?_|refine gC (lu _ _ _) ?_|intro _))<;>try (conv=>whnf)
 rotate_left
 ·refine⟨?_,rfl,trivial⟩
  rw [aN,if_neg (by simp [h])];rfl
 refine aB [0] [] [5] ?_
 (conv=>whnf)
 refine aA.go ((Nat)) (fun k=>((k:Int)≤n)) (fun k=>[(4,.data (i64 k)),(3,.own 5 0)]) (fun _=>[]) (fun k=>[(5,3,(upTo k).map i64,0)]) (fun k=>n.toNat - k) (0) ?_ ?_
 ·show ((0:Nat):Int)≤n;omega
 rintro k hk
 (repeat' ((conv=>whnf);first|refine gA ?_|(refine gN ?_ ?_<;>intro h hw)|(refine gB ?_ ?_<;>intro h)|refine gP ?_|refine gV ?_|intro _))<;>try (conv=>whnf)
 ·refine nw (k+1) ?_ ?_
  ·(repeat' ((conv=>whnf)<;>(first|exact trivial|exact rfl|with_reducible refine And.intro ?_ ?_)))<;>((conv=>whnf)<;>(exact LU k))
  show ((k+1:Nat):Int)≤n
  omega
 ·refine⟨?_,rfl,trivial⟩
  rw [aN,if_pos (by assumption),show n.toNat=k by omega];rfl
theorem Hq (a:aF):Con 162 [.d a.av] (.d (ints (aN a.modes.length))):=by
 refine con Tryz.func162 rfl rfl Tryz.call162 rfl fun hwf=>?_
 (repeat' ((conv=>whnf);first|refine gA ?_|(refine gB ?_ ?_<;>intro h)|refine gC (NT _) ?_|intro _))<;>try (conv=>whnf)
 refine⟨?_,rfl,trivial⟩
 rw [List.length_map]
theorem slices_Clone_int (l:List Int):Con 141 [.d (ints l)] (.own 3 (l.map i64)):=by
 refine con Tryz.func141 rfl rfl Tryz.call141 rfl fun hwf=>?_
 simp only [ARs.wf,AR.wf,AV.wf,AV.wfs,lm,lim] at hwf
 (repeat' ((conv=>whnf);first|refine gA ?_|refine XI.mk (fun h=>?_) ?_|(refine gB ?_ ?_<;>intro h)|refine gP ?_|intro _))<;>try (conv=>whnf)
 ·exact⟨h,rfl,trivial⟩
 ·exact⟨by simp,rfl,trivial⟩
theorem mI {α:Type} {f:α→AV} {L:Nat}:∀{l:List α} {k:Nat} {x:α},AV.wfs L (l.map f)→l[k]? =some x→AV.wf L (f x)
 |[],_,_,_,h=>by simp at h
 |y::r,0,x,h,e=>by simp at e;subst e;exact h.1
 |y::r,k+1,x,h,e=>mI (l:=r) (k:=k) h.2 (by simpa using e)
def adW (b:Dom):RV:=.agg [.own 3 (b.lo.map i64),.own 3 (b.hi.map i64),.own 26 (b.modes.map ints)]
theorem gX {α β:Type} (f:α→β) {l:List α} {k:Nat} {x:α} (h:l[k]? =some x):(l.take k).map f++[f x]=(l.take (k+1)).map f:=by
 rw [List.take_add_one,h];simp
theorem qH (b:Dom):Con 60 [.d b.av] (adW b):=by
 refine con Tryz.func60 rfl rfl Tryz.call60 rfl fun hwf=>?_
 simp only [ARs.wf,AR.wf,AV.wf,AV.wfs,lm,lim] at hwf
 (repeat' ((conv=>whnf);first|refine gA ?_|(refine gB ?_ ?_<;>intro h)|(refine gI ?_;intro x hx)|(refine gJ ?_;intro j x hj hx)|refine gP ?_|refine gV ?_|refine gC (slices_Clone_int _) ?_|intro _))<;>try (conv=>whnf)
 refine aB [2,3,14,15] [2] [9000,12000,25] ?_
 (conv=>whnf)
 refine aA.go ((Nat)) (fun k=>(k≤b.modes.length)) (fun k=>[(16,.data (i64 k))]) (fun k=>[(3,[.own 9000 0,.own 12000 0,.own 25 0])]) (fun k=>[(9000,3,b.lo.map i64,0),(12000,3,b.hi.map i64,0),(25,26,(b.modes.take k).map ints,0)]) (fun k=>b.modes.length - k) (0) ?_ ?_
 ·exact Nat.zero_le _
 rintro k hk
 (repeat' ((conv=>whnf);first|refine gA ?_|(refine gB ?_ ?_<;>intro h)|(refine gI ?_;intro x hx)|(refine gJ ?_;intro j x hj hx)|refine gP ?_|refine gV ?_|refine gC (slices_Clone_int x) ?_|intro _))<;>try (conv=>whnf)
 ·refine nw (k+1) ?_ ?_
  ·(repeat' ((conv=>whnf)<;>(first|exact trivial|exact rfl|with_reducible refine And.intro ?_ ?_)))<;>((conv=>whnf)<;>(exact gX ints hx))
  exact (by omega:k+1≤b.modes.length)
 ·(repeat' ((conv=>whnf)<;>(first|exact trivial|exact VC.nod (by kernel_rfl)|refine VC.mk rfl ?_|refine VC.mk (by dsimp only;rw [List.take_of_length_le (by omega)]) ?_)))
theorem xP (b:Dom):Con 90 [.d b.av] (adW b):=by
 refine con Tryz.func90 rfl rfl Tryz.call90 rfl fun hwf=>?_
 simp only [ARs.wf,AR.wf,AV.wf,AV.wfs,lm,lim] at hwf
 (repeat' ((conv=>whnf);first|refine gA ?_|(refine gB ?_ ?_<;>intro h)|(refine gI ?_;intro x hx)|(refine gJ ?_;intro j x hj hx)|refine gP ?_|refine gV ?_|intro _))<;>try (conv=>whnf)
 refine aB [2,3,16,17] [2] [6,10,28] ?_
 (conv=>whnf)
 refine aA.go ((Nat)) (fun k=>(k≤b.modes.length)) (fun k=>[(18,.data (i64 k))]) (fun k=>[(3,[.own 6 0,.own 10 0,.own 28 0])]) (fun k=>[(6,3,b.lo.map i64,0),(10,3,b.hi.map i64,0),(28,26,(b.modes.take k).map ints,0)]) (fun k=>b.modes.length - k) (0) ?_ ?_
 ·exact Nat.zero_le _
 rintro k hk
 (repeat' ((conv=>whnf);first|refine gA ?_|(refine gB ?_ ?_<;>intro h)|(refine gI ?_;intro x hx)|(refine gJ ?_;intro j x hj hx)|refine gP ?_|refine gV ?_|intro _))<;>try (conv=>whnf)
 ·have hl:=mI hwf.1.2.2.1.2 hx
  simp only [AV.wf,List.length_map] at hl
  (repeat' ((conv=>whnf);first|refine gA ?_|(refine gB ?_ ?_<;>intro h)|(refine gI ?_;intro x hx)|(refine gJ ?_;intro j x hj hx)|refine gP ?_|refine gV ?_|intro _))<;>try (conv=>whnf)
  refine nw (k+1) ?_ ?_
  ·(repeat' ((conv=>whnf)<;>(first|exact trivial|exact rfl|with_reducible refine And.intro ?_ ?_)))<;>((conv=>whnf)<;>(exact gX ints hx))
  exact (by omega:k+1≤b.modes.length)
 ·(repeat' ((conv=>whnf)<;>(first|exact trivial|exact VC.nod (by kernel_rfl)|refine VC.mk rfl ?_|refine VC.mk (by dsimp only;rw [List.take_of_length_le (by omega)]) ?_)))
theorem iJ {p:Int→Bool} {l o:List Int} {k:Nat} {x:Int} (hi:o++(l.drop k).filter p=l.filter p) (hx:l[k]? =some x):
  (p x=true→(o++[x])++(l.drop (k+1)).filter p=l.filter p)∧(p x=false→o++(l.drop (k+1)).filter p=l.filter p):=by
 rw [ay hx,List.filter_cons] at hi
 exact⟨fun h=>by rw [← hi,if_pos h];simp,fun h=>by rw [← hi,if_neg (by simp [h])]⟩
theorem Hr (l:List Int) (fc:Nat) (caps:List AV) (p:Int→Bool) (hc:∀n:Int,Con fc ([.d (i64 n)]++caps.map .ref) (.d (.bool (p n)))):Con 63 [.d (ints l),.fn fc caps] (.d (ints (l.filter p))):=by
 refine con Tryz.func63 rfl rfl Tryz.call63 rfl fun hwf=>?_
 simp only [ARs.wf,AR.wf,AV.wf,AV.wfs,lm,lim] at hwf
 (repeat' ((conv=>whnf);first|refine gA ?_|(refine gB ?_ ?_<;>intro h)|(refine gI ?_;intro x hx)|(refine gJ ?_;intro j x hj hx)|refine gP ?_|refine gV ?_|intro _))<;>try (conv=>whnf)
 refine aB [1,9,10] [] [8] ?_
 (conv=>whnf)
 refine aA.go ((Nat)×(List Int)) (fun⟨k,o⟩=>(k≤l.length)∧(o.length≤k)∧(o++(l.drop k).filter p=l.filter p)) (fun⟨k,o⟩=>[(11,.data (i64 k)),(5,.own 8 0)]) (fun _=>[]) (fun⟨k,o⟩=>[(8,3,o.map i64,0)]) (fun⟨k,o⟩=>l.length - k) ⟨0,[]⟩ ?_ ?_
 ·exact⟨by omega,by simp,rfl⟩
 rintro⟨k,o⟩ ⟨hk,ho,hi⟩
 (repeat' ((conv=>whnf);first|refine gA ?_|(refine gB ?_ ?_<;>intro h)|(refine gI ?_;intro x hx)|(refine gJ ?_;intro j x hj hx)|refine gP ?_|refine gV ?_|refine gC (hc x) ?_|intro _))<;>try (conv=>whnf)
 ·refine nw ⟨k+1,o++[x]⟩ ?_ ?_
  ·(repeat' ((conv=>whnf)<;>(first|exact trivial|exact rfl|with_reducible refine And.intro ?_ ?_)))<;>((conv=>whnf)<;>(simp))
  exact⟨by omega,by simp;omega,(iJ hi hx).1 h⟩
 ·refine nx ⟨k+1,o⟩ ?_
  exact⟨by omega,by omega,(iJ hi hx).2 h⟩
 ·refine⟨?_,rfl,trivial⟩
  rw [← hi,aP (by assumption)];simp
theorem yL (k n:Int):Con 142 [.d (i64 k),.ref (i64 n)] (.d (.bool (decide (k≠n)))):=by
 refine con Tryz.func142 rfl rfl Tryz.call142 rfl fun hwf=>?_
 (repeat' ((conv=>whnf);first|refine gA ?_|(refine gB ?_ ?_<;>intro h)|intro _))<;>try (conv=>whnf)
 all_goals refine⟨?_,rfl,trivial⟩
 all_goals simp
theorem LV (l:List Int) (n:Int):Con 65 [.d (ints l),.d (i64 n)] (.d (ints (l.filter fun k=>decide (k≠n)))):=by
 refine con Tryz.func65 rfl rfl Tryz.call65 rfl fun hwf=>?_
 (repeat' ((conv=>whnf);first|refine gA ?_|(refine gB ?_ ?_<;>intro h)|refine gC (Hr l 142 [i64 n] _ fun x=>yL x n) ?_|intro _))<;>try (conv=>whnf)
 exact⟨rfl,rfl,trivial⟩
theorem zQ (k n:Int):Con 64 [.d (i64 k),.ref (i64 n)] (.d (.bool (decide (k=n)))):=by
 refine con Tryz.func64 rfl rfl Tryz.call64 rfl fun hwf=>?_
 (repeat' ((conv=>whnf);first|refine gA ?_|(refine gB ?_ ?_<;>intro h)|intro _))<;>try (conv=>whnf)
 all_goals exact⟨rfl,rfl,trivial⟩
theorem LW (l:List Int) (n:Int):Con 96 [.d (ints l),.d (i64 n)] (.d (ints (l.filter fun k=>decide (k≠n)))):=by
 refine con Tryz.func96 rfl rfl Tryz.call96 rfl fun hwf=>?_
 simp only [ARs.wf,AR.wf,AV.wf,AV.wfs,lm,lim] at hwf
 (repeat' ((conv=>whnf);first|refine gA ?_|(refine gB ?_ ?_<;>intro h)|(refine gI ?_;intro x hx)|(refine gJ ?_;intro j x hj hx)|refine gP ?_|refine gV ?_|intro _))<;>try (conv=>whnf)
 refine aB [1,9,10] [] [8] ?_
 (conv=>whnf)
 refine aA.go ((Nat)×(List Int)) (fun⟨k,o⟩=>(k≤l.length)∧(o.length≤k)∧(o++(l.drop k).filter (fun k=>decide (k≠n))=l.filter (fun k=>decide (k≠n)))) (fun⟨k,o⟩=>[(11,.data (i64 k)),(5,.own 8 0)]) (fun _=>[]) (fun⟨k,o⟩=>[(8,3,o.map i64,0)]) (fun⟨k,o⟩=>l.length - k) ⟨0,[]⟩ ?_ ?_
 ·exact⟨by omega,by simp,rfl⟩
 rintro⟨k,o⟩ ⟨hk,ho,hi⟩
 (repeat' ((conv=>whnf);first|refine gA ?_|(refine gB ?_ ?_<;>intro h)|(refine gI ?_;intro x hx)|(refine gJ ?_;intro j x hj hx)|refine gP ?_|refine gV ?_|intro _))<;>try (conv=>whnf)
 ·refine nx ⟨k+1,o⟩ ?_
  exact⟨by omega,by omega,(iJ hi hx).2 (by simp [h])⟩
 ·refine nw ⟨k+1,o++[x]⟩ ?_ ?_
  ·(repeat' ((conv=>whnf)<;>(first|exact trivial|exact rfl|with_reducible refine And.intro ?_ ?_)))<;>((conv=>whnf)<;>(simp))
  exact⟨by omega,by simp;omega,(iJ hi hx).1 (by simp [h])⟩
 ·refine⟨?_,rfl,trivial⟩
  rw [← hi,aP (by assumption)];simp
theorem Rm (n:Int):Con 124 [.d (i64 n)] (.d (.bool (oG n))):=by
 refine con Tryz.func124 rfl rfl Tryz.call124 rfl fun hwf=>?_
 (repeat' ((conv=>whnf);first|refine gA ?_|(refine gN ?_ ?_<;>intro h hw)|(refine gB ?_ ?_<;>intro h)|refine gC (aV _ _ _) ?_|intro _))<;>try (conv=>whnf)
 exact⟨rfl,rfl,trivial⟩
theorem Fa (n:Int):Con 62 [.d (i64 n)] (.d (i64 (clamped n))):=by
 refine con Tryz.func62 rfl rfl Tryz.call62 rfl fun hwf=>?_
 (repeat' ((conv=>whnf);first|refine gA ?_|(refine gB ?_ ?_<;>intro h)|intro _))<;>try (conv=>whnf)
 exact⟨rfl,rfl,trivial⟩
theorem Jd (x y:Int):Con 93 [.d (i64 x),.d (i64 y)] (.d (i64 (max x y))):=by
 refine con Tryz.func93 rfl rfl Tryz.call93 rfl fun hwf=>?_
 (repeat' ((conv=>whnf);first|refine gA ?_|(refine gB ?_ ?_<;>intro h)|intro _))<;>try (conv=>whnf)
 all_goals refine⟨?_,rfl,trivial⟩
 all_goals (simp only [i64,AV.int.injEq,true_and];omega)
theorem Je (x y:Int):Con 94 [.d (i64 x),.d (i64 y)] (.d (i64 (min x y))):=by
 refine con Tryz.func94 rfl rfl Tryz.call94 rfl fun hwf=>?_
 (repeat' ((conv=>whnf);first|refine gA ?_|(refine gB ?_ ?_<;>intro h)|intro _))<;>try (conv=>whnf)
 all_goals refine⟨?_,rfl,trivial⟩
 all_goals (simp only [i64,AV.int.injEq,true_and];omega)
theorem JY (n:Int):Con 92 [.d (i64 n)] (.d (i64 (clamped n))):=by
 refine con Tryz.func92 rfl rfl Tryz.call92 rfl fun hwf=>?_
 (repeat' ((conv=>whnf);first|refine gA ?_|(refine gB ?_ ?_<;>intro h)|refine gC (Jd _ _) ?_|refine gC (Je _ _) ?_|intro _))<;>try (conv=>whnf)
 refine⟨?_,rfl,trivial⟩
 simp only [i64,AV.int.injEq,true_and,clamped];omega
theorem wF (b:Dom) (a:Int):Con 61 [.d b.av,.d (i64 a)] (.d (.bool (dO b a))):=by
 refine con Tryz.func61 rfl rfl Tryz.call61 rfl fun hwf=>?_
 (repeat' ((conv=>whnf);first|refine gA ?_|(refine gB ?_ ?_<;>intro h)|intro _))<;>try (conv=>whnf)
 all_goals refine⟨?_,rfl,trivial⟩
 all_goals simp [dO, *]
theorem Cm (b:Dom) (a:Int):Con 91 [.d b.av,.d (i64 a)] (.d (.bool (dO b a))):=by
 refine con Tryz.func91 rfl rfl Tryz.call91 rfl fun hwf=>?_
 simp only [ARs.wf,AR.wf,AV.wf,AV.wfs,lm,lim] at hwf
 (repeat' ((conv=>whnf);first|refine gA ?_|(refine gN ?_ ?_<;>intro h hw)|(refine gB ?_ ?_<;>intro h)|refine gV ?_|refine gC (lu _ _ _) ?_|intro _))<;>try (conv=>whnf)
 all_goals refine⟨?_,rfl,trivial⟩
 all_goals (simp only [AV.bool.injEq];rw [Bool.eq_iff_iff];simp only [dO,within,Bool.and_eq_true,decide_eq_true_eq,List.length_map,reduceCtorEq,false_iff];omega)
end Go.Proofs.YtgkfifiobmklcaaGreat.Abs
