/- Contracts: domains. -/
import Derived.Test.YtefgamefajmdkaaGreatC2
set_option linter.all false
set_option maxRecDepth 20000
set_option maxHeartbeats 0
namespace Go.Proofs.YtefgamefajmdkaaGreat.Abs
open Go.Proofs
theorem Ro (k:Nat):(upTo k).map i64++[i64 k]=(upTo (k+1)).map i64:=by
 rw [upTo,upTo,List.range_succ,List.map_append,List.map_append];rfl
theorem AB (n:Int):Con 125 [.d (i64 n)] (.d (ints (aK n))):=by
 refine con Tryz.func125 rfl rfl Tryz.call125 rfl fun hwf=>?_
 (repeat' ((conv=>whnf);first|refine gA ?_|(refine gN ?_ ?_<;>intro h hw)|(refine gB ?_ ?_<;>intro h)|refine gP ?_|refine gV ?_|refine gC (aV _ _ _) ?_|intro _))<;>try (conv=>whnf)
 rotate_left
 ·refine⟨?_,rfl,trivial⟩
  rw [aK,if_neg (by simp [h])];rfl
 refine aB [9] [] [8] ?_
 (conv=>whnf)
 refine aA.go ((Nat)) (fun k=>((k:Int)≤n)) (fun k=>[(10,.data (i64 k)),(3,.own 8 0)]) (fun _=>[]) (fun k=>[(8,3,(upTo k).map i64,0)]) (fun k=>n.toNat - k) (0) ?_ ?_
 ·show ((0:Nat):Int)≤n;omega
 rintro k hk
 (repeat' ((conv=>whnf);first|refine gA ?_|(refine gN ?_ ?_<;>intro h hw)|(refine gB ?_ ?_<;>intro h)|refine gP ?_|refine gV ?_|intro _))<;>try (conv=>whnf)
 ·refine nw (k+1) ?_ ?_
  ·(repeat' ((conv=>whnf)<;>(first|exact trivial|exact rfl|with_reducible refine And.intro ?_ ?_)))<;>((conv=>whnf)<;>(exact Ro k))
  show ((k+1:Nat):Int)≤n
  omega
 ·refine⟨?_,rfl,trivial⟩
  rw [aK,if_pos (by assumption),show n.toNat=k by omega];rfl
theorem uW (a:aH):Con 52 [.d a.av] (.d (ints (aK a.modes.length))):=by
 refine con Tryz.func52 rfl rfl Tryz.call52 rfl fun hwf=>?_
 (repeat' ((conv=>whnf);first|refine gA ?_|(refine gB ?_ ?_<;>intro h)|refine gC (AB _) ?_|intro _))<;>try (conv=>whnf)
 refine⟨?_,rfl,trivial⟩
 rw [List.length_map]
theorem AJ (n:Int):Con 169 [.d (i64 n)] (.d (ints (aK n))):=by
 refine con Tryz.func169 rfl rfl Tryz.call169 rfl fun hwf=>?_
 (repeat' ((conv=>whnf);first|refine gA ?_|(refine gN ?_ ?_<;>intro h hw)|(refine gB ?_ ?_<;>intro h)|refine gP ?_|refine gV ?_|refine gC (dh _ _ _) ?_|intro _))<;>try (conv=>whnf)
 rotate_left
 ·refine⟨?_,rfl,trivial⟩
  rw [aK,if_neg (by simp [h])];rfl
 refine aB [0] [] [5] ?_
 (conv=>whnf)
 refine aA.go ((Nat)) (fun k=>((k:Int)≤n)) (fun k=>[(4,.data (i64 k)),(3,.own 5 0)]) (fun _=>[]) (fun k=>[(5,3,(upTo k).map i64,0)]) (fun k=>n.toNat - k) (0) ?_ ?_
 ·show ((0:Nat):Int)≤n;omega
 rintro k hk
 (repeat' ((conv=>whnf);first|refine gA ?_|(refine gN ?_ ?_<;>intro h hw)|(refine gB ?_ ?_<;>intro h)|refine gP ?_|refine gV ?_|intro _))<;>try (conv=>whnf)
 ·refine nw (k+1) ?_ ?_
  ·(repeat' ((conv=>whnf)<;>(first|exact trivial|exact rfl|with_reducible refine And.intro ?_ ?_)))<;>((conv=>whnf)<;>(exact Ro k))
  show ((k+1:Nat):Int)≤n
  omega
 ·refine⟨?_,rfl,trivial⟩
  rw [aK,if_pos (by assumption),show n.toNat=k by omega];rfl
theorem ow (a:aH):Con 161 [.d a.av] (.d (ints (aK a.modes.length))):=by
 refine con Tryz.func161 rfl rfl Tryz.call161 rfl fun hwf=>?_
 (repeat' ((conv=>whnf);first|refine gA ?_|(refine gB ?_ ?_<;>intro h)|refine gC (AJ _) ?_|intro _))<;>try (conv=>whnf)
 refine⟨?_,rfl,trivial⟩
 rw [List.length_map]
theorem slices_Clone_int (l:List Int):Con 116 [.d (ints l)] (.own 3 (l.map i64)):=by
 refine con Tryz.func116 rfl rfl Tryz.call116 rfl fun hwf=>?_
 simp only [ARs.wf,AR.wf,AV.wf,AV.wfs,lm,lim] at hwf
 (repeat' ((conv=>whnf);first|refine gA ?_|refine YT.mk (fun h=>?_) ?_|(refine gB ?_ ?_<;>intro h)|refine gP ?_|intro _))<;>try (conv=>whnf)
 ·exact⟨h,rfl,trivial⟩
 ·exact⟨by simp,rfl,trivial⟩
theorem qE {α:Type} {f:α→AV} {L:Nat}:∀{l:List α} {k:Nat} {x:α},AV.wfs L (l.map f)→l[k]? =some x→AV.wf L (f x)
 |[],_,_,_,h=>by simp at h
 |y::r,0,x,h,e=>by simp at e;subst e;exact h.1
 |y::r,k+1,x,h,e=>qE (l:=r) (k:=k) h.2 (by simpa using e)
def aaP (b:Dom):RV:=.agg [.own 3 (b.lo.map i64),.own 3 (b.hi.map i64),.own 26 (b.modes.map ints)]
theorem iF {α β:Type} (f:α→β) {l:List α} {k:Nat} {x:α} (h:l[k]? =some x):(l.take k).map f++[f x]=(l.take (k+1)).map f:=by
 rw [List.take_add_one,h];simp
theorem tq (b:Dom):Con 43 [.d b.av] (aaP b):=by
 refine con Tryz.func43 rfl rfl Tryz.call43 rfl fun hwf=>?_
 simp only [ARs.wf,AR.wf,AV.wf,AV.wfs,lm,lim] at hwf
 (repeat' ((conv=>whnf);first|refine gA ?_|(refine gB ?_ ?_<;>intro h)|(refine gI ?_;intro x hx)|(refine gJ ?_;intro j x hj hx)|refine gP ?_|refine gV ?_|refine gC (slices_Clone_int _) ?_|intro _))<;>try (conv=>whnf)
 refine aB [2,3,14,15] [2] [9000,12000,25] ?_
 (conv=>whnf)
 refine aA.go ((Nat)) (fun k=>(k≤b.modes.length)) (fun k=>[(16,.data (i64 k))]) (fun k=>[(3,[.own 9000 0,.own 12000 0,.own 25 0])]) (fun k=>[(9000,3,b.lo.map i64,0),(12000,3,b.hi.map i64,0),(25,26,(b.modes.take k).map ints,0)]) (fun k=>b.modes.length - k) (0) ?_ ?_
 ·exact Nat.zero_le _
 rintro k hk
 (repeat' ((conv=>whnf);first|refine gA ?_|(refine gB ?_ ?_<;>intro h)|(refine gI ?_;intro x hx)|(refine gJ ?_;intro j x hj hx)|refine gP ?_|refine gV ?_|refine gC (slices_Clone_int x) ?_|intro _))<;>try (conv=>whnf)
 ·refine nw (k+1) ?_ ?_
  ·(repeat' ((conv=>whnf)<;>(first|exact trivial|exact rfl|with_reducible refine And.intro ?_ ?_)))<;>((conv=>whnf)<;>(exact iF ints hx))
  exact (by omega:k+1≤b.modes.length)
 ·(repeat' ((conv=>whnf)<;>(first|exact trivial|exact VC.nod (by kernel_rfl)|refine VC.mk rfl ?_|refine VC.mk (by dsimp only;rw [List.take_of_length_le (by omega)]) ?_)))
theorem nR (b:Dom):Con 102 [.d b.av] (aaP b):=by
 refine con Tryz.func102 rfl rfl Tryz.call102 rfl fun hwf=>?_
 simp only [ARs.wf,AR.wf,AV.wf,AV.wfs,lm,lim] at hwf
 (repeat' ((conv=>whnf);first|refine gA ?_|(refine gB ?_ ?_<;>intro h)|(refine gI ?_;intro x hx)|(refine gJ ?_;intro j x hj hx)|refine gP ?_|refine gV ?_|intro _))<;>try (conv=>whnf)
 refine aB [2,3,16,17] [2] [6,10,28] ?_
 (conv=>whnf)
 refine aA.go ((Nat)) (fun k=>(k≤b.modes.length)) (fun k=>[(18,.data (i64 k))]) (fun k=>[(3,[.own 6 0,.own 10 0,.own 28 0])]) (fun k=>[(6,3,b.lo.map i64,0),(10,3,b.hi.map i64,0),(28,26,(b.modes.take k).map ints,0)]) (fun k=>b.modes.length - k) (0) ?_ ?_
 ·exact Nat.zero_le _
 rintro k hk
 (repeat' ((conv=>whnf);first|refine gA ?_|(refine gB ?_ ?_<;>intro h)|(refine gI ?_;intro x hx)|(refine gJ ?_;intro j x hj hx)|refine gP ?_|refine gV ?_|intro _))<;>try (conv=>whnf)
 ·have hl:=qE hwf.1.2.2.1.2 hx
  simp only [AV.wf,List.length_map] at hl
  (repeat' ((conv=>whnf);first|refine gA ?_|(refine gB ?_ ?_<;>intro h)|(refine gI ?_;intro x hx)|(refine gJ ?_;intro j x hj hx)|refine gP ?_|refine gV ?_|intro _))<;>try (conv=>whnf)
  refine nw (k+1) ?_ ?_
  ·(repeat' ((conv=>whnf)<;>(first|exact trivial|exact rfl|with_reducible refine And.intro ?_ ?_)))<;>((conv=>whnf)<;>(exact iF ints hx))
  exact (by omega:k+1≤b.modes.length)
 ·(repeat' ((conv=>whnf)<;>(first|exact trivial|exact VC.nod (by kernel_rfl)|refine VC.mk rfl ?_|refine VC.mk (by dsimp only;rw [List.take_of_length_le (by omega)]) ?_)))
theorem iG {p:Int→Bool} {l o:List Int} {k:Nat} {x:Int} (hi:o++(l.drop k).filter p=l.filter p) (hx:l[k]? =some x):
  (p x=true→(o++[x])++(l.drop (k+1)).filter p=l.filter p)∧(p x=false→o++(l.drop (k+1)).filter p=l.filter p):=by
 rw [au hx,List.filter_cons] at hi
 exact⟨fun h=>by rw [← hi,if_pos h];simp,fun h=>by rw [← hi,if_neg (by simp [h])]⟩
theorem MX (l:List Int) (fc:Nat) (caps:List AV) (p:Int→Bool) (hc:∀n:Int,Con fc ([.d (i64 n)]++caps.map .ref) (.d (.bool (p n)))):Con 122 [.d (ints l),.fn fc caps] (.d (ints (l.filter p))):=by
 refine con Tryz.func122 rfl rfl Tryz.call122 rfl fun hwf=>?_
 simp only [ARs.wf,AR.wf,AV.wf,AV.wfs,lm,lim] at hwf
 (repeat' ((conv=>whnf);first|refine gA ?_|(refine gB ?_ ?_<;>intro h)|(refine gI ?_;intro x hx)|(refine gJ ?_;intro j x hj hx)|refine gP ?_|refine gV ?_|intro _))<;>try (conv=>whnf)
 refine aB [1,9,10] [] [8] ?_
 (conv=>whnf)
 refine aA.go ((Nat)×(List Int)) (fun⟨k,o⟩=>(k≤l.length)∧(o.length≤k)∧(o++(l.drop k).filter p=l.filter p)) (fun⟨k,o⟩=>[(11,.data (i64 k)),(5,.own 8 0)]) (fun _=>[]) (fun⟨k,o⟩=>[(8,3,o.map i64,0)]) (fun⟨k,o⟩=>l.length - k) ⟨0,[]⟩ ?_ ?_
 ·exact⟨by omega,by simp,rfl⟩
 rintro⟨k,o⟩ ⟨hk,ho,hi⟩
 (repeat' ((conv=>whnf);first|refine gA ?_|(refine gB ?_ ?_<;>intro h)|(refine gI ?_;intro x hx)|(refine gJ ?_;intro j x hj hx)|refine gP ?_|refine gV ?_|refine gC (hc x) ?_|intro _))<;>try (conv=>whnf)
 ·refine nw ⟨k+1,o++[x]⟩ ?_ ?_
  ·(repeat' ((conv=>whnf)<;>(first|exact trivial|exact rfl|with_reducible refine And.intro ?_ ?_)))<;>((conv=>whnf)<;>(simp))
  exact⟨by omega,by simp;omega,(iG hi hx).1 h⟩
 ·refine nx ⟨k+1,o⟩ ?_
  exact⟨by omega,by omega,(iG hi hx).2 h⟩
 ·refine⟨?_,rfl,trivial⟩
  rw [← hi,aG (by assumption)];simp
theorem IJ (k n:Int):Con 185 [.d (i64 k),.ref (i64 n)] (.d (.bool (decide (k≠n)))):=by
 refine con Tryz.func185 rfl rfl Tryz.call185 rfl fun hwf=>?_
 (repeat' ((conv=>whnf);first|refine gA ?_|(refine gB ?_ ?_<;>intro h)|intro _))<;>try (conv=>whnf)
 all_goals refine⟨?_,rfl,trivial⟩
 all_goals simp
theorem Km (l:List Int) (n:Int):Con 124 [.d (ints l),.d (i64 n)] (.d (ints (l.filter fun k=>decide (k≠n)))):=by
 refine con Tryz.func124 rfl rfl Tryz.call124 rfl fun hwf=>?_
 (repeat' ((conv=>whnf);first|refine gA ?_|(refine gB ?_ ?_<;>intro h)|refine gC (MX l 185 [i64 n] _ fun x=>IJ x n) ?_|intro _))<;>try (conv=>whnf)
 exact⟨rfl,rfl,trivial⟩
theorem Kn (k n:Int):Con 123 [.d (i64 k),.ref (i64 n)] (.d (.bool (decide (k=n)))):=by
 refine con Tryz.func123 rfl rfl Tryz.call123 rfl fun hwf=>?_
 (repeat' ((conv=>whnf);first|refine gA ?_|(refine gB ?_ ?_<;>intro h)|intro _))<;>try (conv=>whnf)
 all_goals exact⟨rfl,rfl,trivial⟩
theorem Ko (l:List Int) (n:Int):Con 108 [.d (ints l),.d (i64 n)] (.d (ints (l.filter fun k=>decide (k≠n)))):=by
 refine con Tryz.func108 rfl rfl Tryz.call108 rfl fun hwf=>?_
 simp only [ARs.wf,AR.wf,AV.wf,AV.wfs,lm,lim] at hwf
 (repeat' ((conv=>whnf);first|refine gA ?_|(refine gB ?_ ?_<;>intro h)|(refine gI ?_;intro x hx)|(refine gJ ?_;intro j x hj hx)|refine gP ?_|refine gV ?_|intro _))<;>try (conv=>whnf)
 refine aB [1,9,10] [] [8] ?_
 (conv=>whnf)
 refine aA.go ((Nat)×(List Int)) (fun⟨k,o⟩=>(k≤l.length)∧(o.length≤k)∧(o++(l.drop k).filter (fun k=>decide (k≠n))=l.filter (fun k=>decide (k≠n)))) (fun⟨k,o⟩=>[(11,.data (i64 k)),(5,.own 8 0)]) (fun _=>[]) (fun⟨k,o⟩=>[(8,3,o.map i64,0)]) (fun⟨k,o⟩=>l.length - k) ⟨0,[]⟩ ?_ ?_
 ·exact⟨by omega,by simp,rfl⟩
 rintro⟨k,o⟩ ⟨hk,ho,hi⟩
 (repeat' ((conv=>whnf);first|refine gA ?_|(refine gB ?_ ?_<;>intro h)|(refine gI ?_;intro x hx)|(refine gJ ?_;intro j x hj hx)|refine gP ?_|refine gV ?_|intro _))<;>try (conv=>whnf)
 ·refine nx ⟨k+1,o⟩ ?_
  exact⟨by omega,by omega,(iG hi hx).2 (by simp [h])⟩
 ·refine nw ⟨k+1,o++[x]⟩ ?_ ?_
  ·(repeat' ((conv=>whnf)<;>(first|exact trivial|exact rfl|with_reducible refine And.intro ?_ ?_)))<;>((conv=>whnf)<;>(simp))
  exact⟨by omega,by simp;omega,(iG hi hx).1 (by simp [h])⟩
 ·refine⟨?_,rfl,trivial⟩
  rw [← hi,aG (by assumption)];simp
theorem OP (n:Int):Con 49 [.d (i64 n)] (.d (.bool (lH n))):=by
 refine con Tryz.func49 rfl rfl Tryz.call49 rfl fun hwf=>?_
 (repeat' ((conv=>whnf);first|refine gA ?_|(refine gN ?_ ?_<;>intro h hw)|(refine gB ?_ ?_<;>intro h)|refine gC (aV _ _ _) ?_|intro _))<;>try (conv=>whnf)
 exact⟨rfl,rfl,trivial⟩
theorem OQ (n:Int):Con 121 [.d (i64 n)] (.d (i64 (clamped n))):=by
 refine con Tryz.func121 rfl rfl Tryz.call121 rfl fun hwf=>?_
 (repeat' ((conv=>whnf);first|refine gA ?_|(refine gB ?_ ?_<;>intro h)|intro _))<;>try (conv=>whnf)
 exact⟨rfl,rfl,trivial⟩
theorem mZ (x y:Int):Con 105 [.d (i64 x),.d (i64 y)] (.d (i64 (max x y))):=by
 refine con Tryz.func105 rfl rfl Tryz.call105 rfl fun hwf=>?_
 (repeat' ((conv=>whnf);first|refine gA ?_|(refine gB ?_ ?_<;>intro h)|intro _))<;>try (conv=>whnf)
 all_goals refine⟨?_,rfl,trivial⟩
 all_goals (simp only [i64,AV.int.injEq,true_and];omega)
theorem tu (x y:Int):Con 106 [.d (i64 x),.d (i64 y)] (.d (i64 (min x y))):=by
 refine con Tryz.func106 rfl rfl Tryz.call106 rfl fun hwf=>?_
 (repeat' ((conv=>whnf);first|refine gA ?_|(refine gB ?_ ?_<;>intro h)|intro _))<;>try (conv=>whnf)
 all_goals refine⟨?_,rfl,trivial⟩
 all_goals (simp only [i64,AV.int.injEq,true_and];omega)
theorem IK (n:Int):Con 104 [.d (i64 n)] (.d (i64 (clamped n))):=by
 refine con Tryz.func104 rfl rfl Tryz.call104 rfl fun hwf=>?_
 (repeat' ((conv=>whnf);first|refine gA ?_|(refine gB ?_ ?_<;>intro h)|refine gC (mZ _ _) ?_|refine gC (tu _ _) ?_|intro _))<;>try (conv=>whnf)
 refine⟨?_,rfl,trivial⟩
 simp only [i64,AV.int.injEq,true_and,clamped];omega
theorem Er (b:Dom) (a:Int):Con 120 [.d b.av,.d (i64 a)] (.d (.bool (gH b a))):=by
 refine con Tryz.func120 rfl rfl Tryz.call120 rfl fun hwf=>?_
 (repeat' ((conv=>whnf);first|refine gA ?_|(refine gB ?_ ?_<;>intro h)|intro _))<;>try (conv=>whnf)
 all_goals refine⟨?_,rfl,trivial⟩
 all_goals simp [gH, *]
theorem mK (b:Dom) (a:Int):Con 103 [.d b.av,.d (i64 a)] (.d (.bool (gH b a))):=by
 refine con Tryz.func103 rfl rfl Tryz.call103 rfl fun hwf=>?_
 simp only [ARs.wf,AR.wf,AV.wf,AV.wfs,lm,lim] at hwf
 (repeat' ((conv=>whnf);first|refine gA ?_|(refine gN ?_ ?_<;>intro h hw)|(refine gB ?_ ?_<;>intro h)|refine gV ?_|refine gC (dh _ _ _) ?_|intro _))<;>try (conv=>whnf)
 all_goals refine⟨?_,rfl,trivial⟩
 all_goals (simp only [AV.bool.injEq];rw [Bool.eq_iff_iff];simp only [gH,within,Bool.and_eq_true,decide_eq_true_eq,List.length_map,reduceCtorEq,false_iff];omega)
end Go.Proofs.YtefgamefajmdkaaGreat.Abs
