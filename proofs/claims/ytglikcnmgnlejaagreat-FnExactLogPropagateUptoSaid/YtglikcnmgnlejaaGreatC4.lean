/- Contracts: restrictions of domains. -/
import Derived.Test.YtglikcnmgnlejaaGreatC3
set_option linter.all false
set_option maxRecDepth 20000
set_option maxHeartbeats 0
namespace Go.Proofs.YtglikcnmgnlejaaGreat.Abs
open Go.Proofs
theorem zM (l:Lit):Con 366 [.d l.av] (.d (negate l).av):=by
 refine con Tryz.func366 rfl rfl Tryz.call366 rfl fun hwf=>?_
 (repeat' ((conv=>whnf);first|refine gA ?_|(refine gN ?_ ?_<;>intro h hw)|(refine gB ?_ ?_<;>intro h)|refine gV ?_|refine gC (bC _ _ _) ?_|intro _))<;>try (conv=>whnf)
 all_goals refine⟨?_,rfl,trivial⟩
 all_goals (simp_all [negate,bG];try rfl)
theorem uR (l:Lit):Con 353 [.d l.av] (.d (negate l).av):=by
 refine con Tryz.func353 rfl rfl Tryz.call353 rfl fun hwf=>?_
 (repeat' ((conv=>whnf);first|refine gA ?_|(refine gN ?_ ?_<;>intro h hw)|(refine gB ?_ ?_<;>intro h)|refine gV ?_|refine gC (cB _ _ _) ?_|intro _))<;>try (conv=>whnf)
 all_goals refine⟨?_,rfl,trivial⟩
 all_goals (simp_all [negate,bG];try rfl)
theorem VB {b:Dom} {a:Int}:lF b a=true↔0≤a∧a < b.lo.length∧a < b.hi.length∧a < b.modes.length:=by
 simp only [lF,Bool.and_eq_true,decide_eq_true_eq];omega
theorem tQ {b:Dom} {a:Int} (h:lF b a=true):∃(n:Nat) (x y:Int) (m:List Int),a=n∧b.lo[n]? =some x∧b.hi[n]? =some y∧b.modes[n]? =some m:=by
 have hn:=VB.1 h
 exact⟨a.toNat,b.lo[a.toNat]'(by omega),b.hi[a.toNat]'(by omega),b.modes[a.toNat]'(by omega),by omega,by simp,by simp,by simp⟩
theorem fJ (b:Dom) (l:Lit):Con 185 [.d b.av,.d l.av] (.d (restrict b l).av):=by
 refine con Tryz.func185 rfl rfl Tryz.call185 rfl fun hwf=>?_
 cases hd:lF b l.act with
 |false=>
  (repeat' ((conv=>whnf);first|refine gA ?_|(refine gB ?_ ?_<;>intro h)|(refine gI ?_;intro x hx)|(refine gJ ?_;intro j x hj hx)|refine gC (ru b) ?_|refine gC (wJ b _) ?_|intro _))<;>try (conv=>whnf)
  refine⟨?_,rfl,trivial⟩
  rw [restrict,if_neg (by simp [hd])]
 |true=>
  obtain⟨n,x,y,m,ha,hlo,hhi,hmo⟩:=tQ hd
  have han:l.act.toNat=n:=by omega
  (repeat' ((conv=>whnf);first|with_reducible refine Idx.got hlo (by first|exact ha|rfl) ?_|with_reducible refine Idx.got hhi (by first|exact ha|rfl) ?_|with_reducible refine Idx.got hmo (by first|exact ha|rfl) ?_|refine gA ?_|(refine gB ?_ ?_<;>intro h)|(refine gI ?_;intro x hx)|(refine gJ ?_;intro j x hj hx)|refine gC (ru b) ?_|refine gC (wJ b _) ?_|refine gC (Ey _) ?_|refine gC (Gl m 283 [i64 (clamped l.val)] _ (fun y=>zL y (clamped l.val))) ?_|refine gC (KM m _) ?_|intro _))<;>try (conv=>whnf)
  all_goals refine⟨?_,rfl,trivial⟩
  all_goals (rw [restrict,if_pos hd];simp [*,List.map_set,List.getD_eq_getElem?_getD,gF])
def nk (l:List Int) (n:Int):Nat:=(l.takeWhile fun x=>decide (x < n)).length
def lH (l:List Int) (n:Int):List Int:=if l.contains n=true then l else l.take (nk l n)++[n]++l.drop (nk l n)
theorem Iy (l:List Int) (n:Int) (hl:l.length < lim):Con 217 [.d (ints l),.d (i64 n)] (.d (ints (lH l n))):=by
 refine con Tryz.func217 rfl rfl Tryz.call217 rfl fun hwf=>?_
 unfold lim at hl
 simp only [ARs.wf,AR.wf,AV.wf,AV.wfs,lm,lim] at hwf
 (repeat' ((conv=>whnf);first|refine gA ?_|(refine gB ?_ ?_<;>intro h)|(refine gI ?_;intro x hx)|(refine gJ ?_;intro j x hj hx)|refine gP ?_|refine gQ ?_|refine gV ?_|refine gK ?_|refine gC (fC _ _) ?_|intro _))<;>try (conv=>whnf)
 ·refine⟨?_,rfl,trivial⟩
  rw [lH,if_pos h]
 refine au [0,1] [] [] ?_
 (conv=>whnf)
 refine ak.go ((Nat)) (fun k=>(k≤l.length)∧(k+nk (l.drop k) n=nk l n)) (fun k=>[(5,.data (i64 k))]) (fun _=>[]) (fun _=>[]) (fun k=>l.length - k) (0) ?_ ?_
 ·exact⟨by omega,by simp⟩
 rintro k ⟨hk,hi⟩
 (repeat' ((conv=>whnf);first|refine gA ?_|(refine gB ?_ ?_<;>intro h)|(refine gI ?_;intro x hx)|(refine gJ ?_;intro j x hj hx)|refine gP ?_|refine gQ ?_|refine gV ?_|refine gK ?_|intro _))<;>try (conv=>whnf)
 ·refine nx (k+1) ?_
  refine⟨by omega,?_⟩
  rw [← hi,ay hx,nk,nk,List.takeWhile_cons,if_pos (by simpa using h)];simp;omega
 all_goals refine⟨?_,rfl,trivial⟩
 ·rw [ay hx,nk,List.takeWhile_cons,if_neg (by simpa using h)] at hi
  have e:nk l n=k:=by simp at hi;omega
  rw [lH,if_neg (Bool.eq_false_iff.1 (by assumption)),e]
  dsimp only
  rw [mR,sw];simp
 ·rw [aG (by assumption)] at hi
  have e:nk l n=k:=by simp [nk] at hi;simp [nk];omega
  rw [lH,if_neg (Bool.eq_false_iff.1 (by assumption)),e]
  dsimp only
  rw [mR,sw];simp
def setOf (l:List Int):List Int:=l.foldl lH []
theorem KO (l:List Int) (n:Int):(lH l n).length≤l.length+1:=by
 unfold lH;split
 ·omega
 ·simp;omega
theorem qw (l:List Int):Con 218 [.d (ints l)] (.d (ints (setOf l))):=by
 refine con Tryz.func218 rfl rfl Tryz.call218 rfl fun hwf=>?_
 simp only [ARs.wf,AR.wf,AV.wf,AV.wfs,lm,lim] at hwf
 (repeat' ((conv=>whnf);first|refine gA ?_|(refine gB ?_ ?_<;>intro h)|(refine gI ?_;intro x hx)|(refine gJ ?_;intro j x hj hx)|refine gV ?_|intro _))<;>try (conv=>whnf)
 refine au [7,8] [] [] ?_
 (conv=>whnf)
 refine ak.go ((Nat)×(List Int)) (fun⟨k,o⟩=>(k≤l.length)∧(o.length≤k)∧((l.drop k).foldl lH o=setOf l)) (fun⟨k,o⟩=>[(9,.data (i64 k)),(3,.data (ints o))]) (fun _=>[]) (fun _=>[]) (fun⟨k,o⟩=>l.length - k) ⟨0,[]⟩ ?_ ?_
 ·exact⟨by omega,by simp,rfl⟩
 rintro⟨k,o⟩ ⟨hk,ho,hi⟩
 (repeat' ((conv=>whnf);first|refine gA ?_|(refine gB ?_ ?_<;>intro h)|(refine gI ?_;intro x hx)|(refine gJ ?_;intro j x hj hx)|refine gV ?_|refine gC (Iy o x (by unfold lim;omega)) ?_|intro _))<;>try (conv=>whnf)
 ·refine nx ⟨k+1,lH o x⟩ ?_
  rw [ay hx,List.foldl_cons] at hi
  have:=KO o x
  exact⟨by omega,by omega,hi⟩
 ·refine⟨?_,rfl,trivial⟩
  rw [← hi,aG (by assumption)];rfl
theorem zN (a b:List Int):Con 345 [.d (ints a),.d (ints b)] (.d (ints (setOf (a.filter fun n=>b.contains n)))):=by
 refine con Tryz.func345 rfl rfl Tryz.call345 rfl fun hwf=>?_
 simp only [ARs.wf,AR.wf,AV.wf,AV.wfs,lm,lim] at hwf
 (repeat' ((conv=>whnf);first|refine gA ?_|(refine gB ?_ ?_<;>intro h)|(refine gI ?_;intro x hx)|(refine gJ ?_;intro j x hj hx)|refine gP ?_|refine gV ?_|intro _))<;>try (conv=>whnf)
 refine au [1,9,10] [] [8] ?_
 (conv=>whnf)
 refine ak.go ((Nat)×(List Int)) (fun⟨k,o⟩=>(k≤a.length)∧(o.length≤k)∧(o++(a.drop k).filter (fun n=>b.contains n)=a.filter (fun n=>b.contains n))) (fun⟨k,o⟩=>[(11,.data (i64 k)),(5,.own 8 0)]) (fun _=>[]) (fun⟨k,o⟩=>[(8,3,o.map i64,0)]) (fun⟨k,o⟩=>a.length - k) ⟨0,[]⟩ ?_ ?_
 ·exact⟨by omega,by simp,rfl⟩
 rintro⟨k,o⟩ ⟨hk,ho,hi⟩
 (repeat' ((conv=>whnf);first|refine gA ?_|(refine gB ?_ ?_<;>intro h)|(refine gI ?_;intro x hx)|(refine gJ ?_;intro j x hj hx)|refine gP ?_|refine gV ?_|refine gC (fC _ _) ?_|refine gC (qw o) ?_|intro _))<;>try (conv=>whnf)
 ·refine nw ⟨k+1,o++[x]⟩ ?_ ?_
  ·(repeat' ((conv=>whnf)<;>(first|exact trivial|exact rfl|with_reducible refine And.intro ?_ ?_)))<;>((conv=>whnf)<;>(simp))
  exact⟨by omega,by simp;omega,(iW hi hx).1 h⟩
 ·refine nx ⟨k+1,o⟩ ?_
  exact⟨by omega,by omega,(iW hi hx).2 h⟩
 ·refine⟨?_,rfl,trivial⟩
  rw [← hi,aG (by assumption)];simp
theorem Yi (n:Int):setOf [n]= [n]:=by simp [setOf,lH,nk]
theorem Gm {l:List Int}:kr l=true↔∀i,(h:i+1 < l.length)→l[i] < l[i+1]:=by
 rw [kr,dN]
 constructor
 ·intro h i hi
  have:=h (i+1) hi
  simp only [setAt,List.getD_eq_getElem?_getD,Nat.add_sub_cancel,List.getElem?_eq_getElem hi,List.getElem?_eq_getElem (show i < l.length by omega)] at this
  simpa using this
 ·intro h i hi
  cases i with
  |zero=>rfl
  |succ i=>
   have:=h i hi
   simp only [setAt,List.getD_eq_getElem?_getD,Nat.add_sub_cancel,List.getElem?_eq_getElem hi,List.getElem?_eq_getElem (show i < l.length by omega)]
   simpa using this
theorem Ez {l:List Int} (h:kr l=true):l.Pairwise (· < ·):=by
 have h:=Gm.1 h
 rw [List.pairwise_iff_getElem]
 intro i j hi hj hij
 induction j with
 |zero=>omega
 |succ j ih=>
  have h1:=h j hj
  by_cases e:i=j
  ·subst e;exact h1
  ·have:=ih (by omega) (by omega);omega
theorem Yj {m:List Int} (h:m.Pairwise (· < ·)) (n:Int):m.filter (fun k=>decide (k=n))=if m.contains n=true then [n] else []:=by
 induction m with
 |nil=>rfl
 |cons x r ih=>
  rw [List.pairwise_cons] at h
  rw [List.filter_cons,List.contains_cons]
  by_cases e:x=n
  ·subst e
   have:r.filter (fun k=>decide (k=x))= []:=by
    rw [List.filter_eq_nil_iff]
    intro y hy
    have:=h.1 y hy
    simp;omega
   simp [this]
  ·rw [if_neg (by simp [e]),ih h.2]
   have:(n == x)=false:=by simp;omega
   simp [this]
theorem filter_one {m:List Int} (h:kr m=true) (n:Int):setOf ([n].filter fun n=>m.contains n)=m.filter fun k=>decide (k=n):=by
 rw [Yj (Ez h),List.filter_cons]
 by_cases hc:m.contains n=true
 ·rw [if_pos hc,if_pos hc];exact Yi n
 ·rw [if_neg hc,if_neg hc];rfl
theorem jY (b:Dom) (l:Lit) (hs:∀m,b.modes[l.act.toNat]? =some m→kr m=true):Con 264 [.d b.av,.d l.av] (.d (restrict b l).av):=by
 refine con Tryz.func264 rfl rfl Tryz.call264 rfl fun hwf=>?_
 cases hd:lF b l.act with
 |false=>
  (repeat' ((conv=>whnf);first|refine gA ?_|(refine gB ?_ ?_<;>intro h)|(refine gI ?_;intro x hx)|(refine gJ ?_;intro j x hj hx)|refine gC (mW b) ?_|refine gC (nJ b _) ?_|intro _))<;>try (conv=>whnf)
  refine⟨?_,rfl,trivial⟩
  rw [restrict,if_neg (by simp [hd])]
 |true=>
  obtain⟨n,x,y,m,ha,hlo,hhi,hmo⟩:=tQ hd
  have han:l.act.toNat=n:=by omega
  (repeat' ((conv=>whnf);first|with_reducible refine Idx.got hlo (by first|exact ha|rfl) ?_|with_reducible refine Idx.got hhi (by first|exact ha|rfl) ?_|with_reducible refine Idx.got hmo (by first|exact ha|rfl) ?_|refine gA ?_|(refine gB ?_ ?_<;>intro h)|(refine gI ?_;intro x hx)|(refine gJ ?_;intro j x hj hx)|refine gC (mW b) ?_|refine gC (nJ b _) ?_|refine gC (Ji _) ?_|refine gC (rz _ _) ?_|refine gC (uQ _ _) ?_|refine gC (zN [clamped l.val] m) ?_|refine gC (KN m _) ?_|intro _))<;>try (conv=>whnf)
  all_goals refine⟨?_,rfl,trivial⟩
  all_goals (try rw [filter_one (hs m (by rw [han];exact hmo))])
  all_goals (rw [restrict,if_pos hd];simp [*,List.map_set,List.getD_eq_getElem?_getD,gF])
end Go.Proofs.YtglikcnmgnlejaaGreat.Abs
