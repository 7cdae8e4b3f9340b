/- Contracts: restrictions of domains. -/
import Derived.Test.YtjfnojijdggfhaaGreatC3
set_option linter.all false
set_option maxRecDepth 20000
set_option maxHeartbeats 0
namespace Go.Proofs.YtjfnojijdggfhaaGreat.Abs
open Go.Proofs
theorem rC (l:Lit):Con 74 [.d l.av] (.d (negate l).av):=by
 refine con Tryz.func74 rfl rfl Tryz.call74 rfl fun hwf=>?_
 (repeat' ((conv=>whnf);first|refine gA ?_|(refine gN ?_ ?_<;>intro h hw)|(refine gB ?_ ?_<;>intro h)|refine gV ?_|refine gC (aP _ _ _) ?_|intro _))<;>try (conv=>whnf)
 all_goals refine⟨?_,rfl,trivial⟩
 all_goals (simp_all [negate,iJ];try rfl)
theorem RA {b:Dom} {a:Int}:fq b a=true↔0≤a∧a < b.lo.length∧a < b.hi.length∧a < b.modes.length:=by
 simp only [fq,Bool.and_eq_true,decide_eq_true_eq];omega
theorem uW {b:Dom} {a:Int} (h:fq b a=true):∃(n:Nat) (x y:Int) (m:List Int),a=n∧b.lo[n]? =some x∧b.hi[n]? =some y∧b.modes[n]? =some m:=by
 have hn:=RA.1 h
 exact⟨a.toNat,b.lo[a.toNat]'(by omega),b.hi[a.toNat]'(by omega),b.modes[a.toNat]'(by omega),by omega,by simp,by simp,by simp⟩
theorem iQ (b:Dom) (l:Lit):Con 31 [.d b.av,.d l.av] (.d (restrict b l).av):=by
 refine con Tryz.func31 rfl rfl Tryz.call31 rfl fun hwf=>?_
 cases hd:fq b l.act with
 |false=>
  (repeat' ((conv=>whnf);first|refine gA ?_|(refine gB ?_ ?_<;>intro h)|(refine gI ?_;intro x hx)|(refine gJ ?_;intro j x hj hx)|refine gC (Fe b) ?_|refine gC (tN b _) ?_|intro _))<;>try (conv=>whnf)
  refine⟨?_,rfl,trivial⟩
  rw [restrict,if_neg (by simp [hd])]
 |true=>
  obtain⟨n,x,y,m,ha,hlo,hhi,hmo⟩:=uW hd
  have han:l.act.toNat=n:=by omega
  (repeat' ((conv=>whnf);first|with_reducible refine Idx.got hlo (by first|exact ha|rfl) ?_|with_reducible refine Idx.got hhi (by first|exact ha|rfl) ?_|with_reducible refine Idx.got hmo (by first|exact ha|rfl) ?_|refine gA ?_|(refine gB ?_ ?_<;>intro h)|(refine gI ?_;intro x hx)|(refine gJ ?_;intro j x hj hx)|refine gC (Fe b) ?_|refine gC (tN b _) ?_|refine gC (Ci _) ?_|refine gC (Ei m 83 [i64 (clamped l.val)] _ (fun y=>xk y (clamped l.val))) ?_|refine gC (IG m _) ?_|intro _))<;>try (conv=>whnf)
  all_goals refine⟨?_,rfl,trivial⟩
  all_goals (rw [restrict,if_pos hd];simp [*,List.map_set,List.getD_eq_getElem?_getD,fF])
def kW (l:List Int) (n:Int):Nat:=(l.takeWhile fun x=>decide (x < n)).length
def kF (l:List Int) (n:Int):List Int:=if l.contains n=true then l else l.take (kW l n)++[n]++l.drop (kW l n)
theorem PW (l:List Int) (n:Int) (hl:l.length < lim):Con 176 [.d (ints l),.d (i64 n)] (.d (ints (kF l n))):=by
 refine con Tryz.func176 rfl rfl Tryz.call176 rfl fun hwf=>?_
 unfold lim at hl
 simp only [ARs.wf,AR.wf,AV.wf,AV.wfs,lm,lim] at hwf
 (repeat' ((conv=>whnf);first|refine gA ?_|(refine gB ?_ ?_<;>intro h)|(refine gI ?_;intro x hx)|(refine gJ ?_;intro j x hj hx)|refine gP ?_|refine gQ ?_|refine gV ?_|refine gK ?_|refine gC (Fb _ _) ?_|intro _))<;>try (conv=>whnf)
 ·refine⟨?_,rfl,trivial⟩
  rw [kF,if_pos h]
 refine aB [0,1] [] [] ?_
 (conv=>whnf)
 refine aA.go ((Nat)) (fun k=>(k≤l.length)∧(k+kW (l.drop k) n=kW l n)) (fun k=>[(5,.data (i64 k))]) (fun _=>[]) (fun _=>[]) (fun k=>l.length - k) (0) ?_ ?_
 ·exact⟨by omega,by simp⟩
 rintro k ⟨hk,hi⟩
 (repeat' ((conv=>whnf);first|refine gA ?_|(refine gB ?_ ?_<;>intro h)|(refine gI ?_;intro x hx)|(refine gJ ?_;intro j x hj hx)|refine gP ?_|refine gQ ?_|refine gV ?_|refine gK ?_|intro _))<;>try (conv=>whnf)
 ·refine nx (k+1) ?_
  refine⟨by omega,?_⟩
  rw [← hi,au hx,kW,kW,List.takeWhile_cons,if_pos (by simpa using h)];simp;omega
 all_goals refine⟨?_,rfl,trivial⟩
 ·rw [au hx,kW,List.takeWhile_cons,if_neg (by simpa using h)] at hi
  have e:kW l n=k:=by simp at hi;omega
  rw [kF,if_neg (Bool.eq_false_iff.1 (by assumption)),e]
  dsimp only
  rw [Bw,Bz];simp
 ·rw [aJ (by assumption)] at hi
  have e:kW l n=k:=by simp [kW] at hi;simp [kW];omega
  rw [kF,if_neg (Bool.eq_false_iff.1 (by assumption)),e]
  dsimp only
  rw [Bw,Bz];simp
def setOf (l:List Int):List Int:=l.foldl kF []
theorem IJ (l:List Int) (n:Int):(kF l n).length≤l.length+1:=by
 unfold kF;split
 ·omega
 ·simp;omega
theorem RB (l:List Int):Con 144 [.d (ints l)] (.d (ints (setOf l))):=by
 refine con Tryz.func144 rfl rfl Tryz.call144 rfl fun hwf=>?_
 simp only [ARs.wf,AR.wf,AV.wf,AV.wfs,lm,lim] at hwf
 (repeat' ((conv=>whnf);first|refine gA ?_|(refine gB ?_ ?_<;>intro h)|(refine gI ?_;intro x hx)|(refine gJ ?_;intro j x hj hx)|refine gV ?_|intro _))<;>try (conv=>whnf)
 refine aB [7,8] [] [] ?_
 (conv=>whnf)
 refine aA.go ((Nat)×(List Int)) (fun⟨k,o⟩=>(k≤l.length)∧(o.length≤k)∧((l.drop k).foldl kF o=setOf l)) (fun⟨k,o⟩=>[(9,.data (i64 k)),(3,.data (ints o))]) (fun _=>[]) (fun _=>[]) (fun⟨k,o⟩=>l.length - k) ⟨0,[]⟩ ?_ ?_
 ·exact⟨by omega,by simp,rfl⟩
 rintro⟨k,o⟩ ⟨hk,ho,hi⟩
 (repeat' ((conv=>whnf);first|refine gA ?_|(refine gB ?_ ?_<;>intro h)|(refine gI ?_;intro x hx)|(refine gJ ?_;intro j x hj hx)|refine gV ?_|refine gC (PW o x (by unfold lim;omega)) ?_|intro _))<;>try (conv=>whnf)
 ·refine nx ⟨k+1,kF o x⟩ ?_
  rw [au hx,List.foldl_cons] at hi
  have:=IJ o x
  exact⟨by omega,by omega,hi⟩
 ·refine⟨?_,rfl,trivial⟩
  rw [← hi,aJ (by assumption)];rfl
theorem xq (a b:List Int):Con 99 [.d (ints a),.d (ints b)] (.d (ints (setOf (a.filter fun n=>b.contains n)))):=by
 refine con Tryz.func99 rfl rfl Tryz.call99 rfl fun hwf=>?_
 simp only [ARs.wf,AR.wf,AV.wf,AV.wfs,lm,lim] at hwf
 (repeat' ((conv=>whnf);first|refine gA ?_|(refine gB ?_ ?_<;>intro h)|(refine gI ?_;intro x hx)|(refine gJ ?_;intro j x hj hx)|refine gP ?_|refine gV ?_|intro _))<;>try (conv=>whnf)
 refine aB [1,9,10] [] [8] ?_
 (conv=>whnf)
 refine aA.go ((Nat)×(List Int)) (fun⟨k,o⟩=>(k≤a.length)∧(o.length≤k)∧(o++(a.drop k).filter (fun n=>b.contains n)=a.filter (fun n=>b.contains n))) (fun⟨k,o⟩=>[(11,.data (i64 k)),(5,.own 8 0)]) (fun _=>[]) (fun⟨k,o⟩=>[(8,3,o.map i64,0)]) (fun⟨k,o⟩=>a.length - k) ⟨0,[]⟩ ?_ ?_
 ·exact⟨by omega,by simp,rfl⟩
 rintro⟨k,o⟩ ⟨hk,ho,hi⟩
 (repeat' ((conv=>whnf);first|refine gA ?_|(refine gB ?_ ?_<;>intro h)|(refine gI ?_;intro x hx)|(refine gJ ?_;intro j x hj hx)|refine gP ?_|refine gV ?_|refine gC (Fb _ _) ?_|refine gC (RB o) ?_|intro _))<;>try (conv=>whnf)
 ·refine nw ⟨k+1,o++[x]⟩ ?_ ?_
  ·(repeat' ((conv=>whnf)<;>(first|exact trivial|exact rfl|with_reducible refine And.intro ?_ ?_)))<;>((conv=>whnf)<;>(simp))
  exact⟨by omega,by simp;omega,(gH hi hx).1 h⟩
 ·refine nx ⟨k+1,o⟩ ?_
  exact⟨by omega,by omega,(gH hi hx).2 h⟩
 ·refine⟨?_,rfl,trivial⟩
  rw [← hi,aJ (by assumption)];simp
theorem Uk (n:Int):setOf [n]= [n]:=by simp [setOf,kF,kW]
theorem Lu {l:List Int}:nV l=true↔∀i,(h:i+1 < l.length)→l[i] < l[i+1]:=by
 rw [nV,aX]
 constructor
 ·intro h i hi
  have:=h (i+1) hi
  simp only [setAt,List.getD_eq_getElem?_getD,Nat.add_sub_cancel,List.getElem?_eq_getElem hi,List.getElem?_eq_getElem (show i < l.length by omega)] at this
  simpa using this
 ·intro h i hi
  cases i with
  |zero=>rfl
  |succ i=>
   have:=h i hi
   simp only [setAt,List.getD_eq_getElem?_getD,Nat.add_sub_cancel,List.getElem?_eq_getElem hi,List.getElem?_eq_getElem (show i < l.length by omega)]
   simpa using this
theorem Cj {l:List Int} (h:nV l=true):l.Pairwise (· < ·):=by
 have h:=Lu.1 h
 rw [List.pairwise_iff_getElem]
 intro i j hi hj hij
 induction j with
 |zero=>omega
 |succ j ih=>
  have h1:=h j hj
  by_cases e:i=j
  ·subst e;exact h1
  ·have:=ih (by omega) (by omega);omega
theorem Ul {m:List Int} (h:m.Pairwise (· < ·)) (n:Int):m.filter (fun k=>decide (k=n))=if m.contains n=true then [n] else []:=by
 induction m with
 |nil=>rfl
 |cons x r ih=>
  rw [List.pairwise_cons] at h
  rw [List.filter_cons,List.contains_cons]
  by_cases e:x=n
  ·subst e
   have:r.filter (fun k=>decide (k=x))= []:=by
    rw [List.filter_eq_nil_iff]
    intro y hy
    have:=h.1 y hy
    simp;omega
   simp [this]
  ·rw [if_neg (by simp [e]),ih h.2]
   have:(n == x)=false:=by simp;omega
   simp [this]
theorem filter_one {m:List Int} (h:nV m=true) (n:Int):setOf ([n].filter fun n=>m.contains n)=m.filter fun k=>decide (k=n):=by
 rw [Ul (Cj h),List.filter_cons]
 by_cases hc:m.contains n=true
 ·rw [if_pos hc,if_pos hc];exact Uk n
 ·rw [if_neg hc,if_neg hc];rfl
theorem Kl (b:Dom) (l:Lit) (hs:∀m,b.modes[l.act.toNat]? =some m→nV m=true):Con 37 [.d b.av,.d l.av] (.d (restrict b l).av):=by
 refine con Tryz.func37 rfl rfl Tryz.call37 rfl fun hwf=>?_
 cases hd:fq b l.act with
 |false=>
  (repeat' ((conv=>whnf);first|refine gA ?_|(refine gB ?_ ?_<;>intro h)|(refine gI ?_;intro x hx)|(refine gJ ?_;intro j x hj hx)|refine gC (Ch b) ?_|refine gC (zl b _) ?_|intro _))<;>try (conv=>whnf)
  refine⟨?_,rfl,trivial⟩
  rw [restrict,if_neg (by simp [hd])]
 |true=>
  obtain⟨n,x,y,m,ha,hlo,hhi,hmo⟩:=uW hd
  have han:l.act.toNat=n:=by omega
  (repeat' ((conv=>whnf);first|with_reducible refine Idx.got hlo (by first|exact ha|rfl) ?_|with_reducible refine Idx.got hhi (by first|exact ha|rfl) ?_|with_reducible refine Idx.got hmo (by first|exact ha|rfl) ?_|refine gA ?_|(refine gB ?_ ?_<;>intro h)|(refine gI ?_;intro x hx)|(refine gJ ?_;intro j x hj hx)|refine gC (Ch b) ?_|refine gC (zl b _) ?_|refine gC (Gi _) ?_|refine gC (Fg _ _) ?_|refine gC (Fh _ _) ?_|refine gC (xq [clamped l.val] m) ?_|refine gC (II m _) ?_|intro _))<;>try (conv=>whnf)
  all_goals refine⟨?_,rfl,trivial⟩
  all_goals (try rw [filter_one (hs m (by rw [han];exact hmo))])
  all_goals (rw [restrict,if_pos hd];simp [*,List.map_set,List.getD_eq_getElem?_getD,fF])
end Go.Proofs.YtjfnojijdggfhaaGreat.Abs
