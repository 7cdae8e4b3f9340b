/- Contracts: restrictions of domains. -/
import Derived.Test.YtefgamefajmdkaaGreatC3
set_option linter.all false
set_option maxRecDepth 20000
set_option maxHeartbeats 0
namespace Go.Proofs.YtefgamefajmdkaaGreat.Abs
open Go.Proofs
theorem Rp (l:Lit):Con 130 [.d l.av] (.d (negate l).av):=by
 refine con Tryz.func130 rfl rfl Tryz.call130 rfl fun hwf=>?_
 (repeat' ((conv=>whnf);first|refine gA ?_|(refine gN ?_ ?_<;>intro h hw)|(refine gB ?_ ?_<;>intro h)|refine gV ?_|refine gC (aV _ _ _) ?_|intro _))<;>try (conv=>whnf)
 all_goals refine⟨?_,rfl,trivial⟩
 all_goals (simp_all [negate,bq];try rfl)
theorem pz (l:Lit):Con 174 [.d l.av] (.d (negate l).av):=by
 refine con Tryz.func174 rfl rfl Tryz.call174 rfl fun hwf=>?_
 (repeat' ((conv=>whnf);first|refine gA ?_|(refine gN ?_ ?_<;>intro h hw)|(refine gB ?_ ?_<;>intro h)|refine gV ?_|refine gC (dh _ _ _) ?_|intro _))<;>try (conv=>whnf)
 all_goals refine⟨?_,rfl,trivial⟩
 all_goals (simp_all [negate,bq];try rfl)
theorem Tt {b:Dom} {a:Int}:gH b a=true↔0≤a∧a < b.lo.length∧a < b.hi.length∧a < b.modes.length:=by
 simp only [gH,Bool.and_eq_true,decide_eq_true_eq];omega
theorem wh {b:Dom} {a:Int} (h:gH b a=true):∃(n:Nat) (x y:Int) (m:List Int),a=n∧b.lo[n]? =some x∧b.hi[n]? =some y∧b.modes[n]? =some m:=by
 have hn:=Tt.1 h
 exact⟨a.toNat,b.lo[a.toNat]'(by omega),b.hi[a.toNat]'(by omega),b.modes[a.toNat]'(by omega),by omega,by simp,by simp,by simp⟩
theorem uw (b:Dom) (l:Lit):Con 48 [.d b.av,.d l.av] (.d (restrict b l).av):=by
 refine con Tryz.func48 rfl rfl Tryz.call48 rfl fun hwf=>?_
 cases hd:gH b l.act with
 |false=>
  (repeat' ((conv=>whnf);first|refine gA ?_|(refine gB ?_ ?_<;>intro h)|(refine gI ?_;intro x hx)|(refine gJ ?_;intro j x hj hx)|refine gC (tq b) ?_|refine gC (Er b _) ?_|intro _))<;>try (conv=>whnf)
  refine⟨?_,rfl,trivial⟩
  rw [restrict,if_neg (by simp [hd])]
 |true=>
  obtain⟨n,x,y,m,ha,hlo,hhi,hmo⟩:=wh hd
  have han:l.act.toNat=n:=by omega
  (repeat' ((conv=>whnf);first|with_reducible refine Idx.got hlo (by first|exact ha|rfl) ?_|with_reducible refine Idx.got hhi (by first|exact ha|rfl) ?_|with_reducible refine Idx.got hmo (by first|exact ha|rfl) ?_|refine gA ?_|(refine gB ?_ ?_<;>intro h)|(refine gI ?_;intro x hx)|(refine gJ ?_;intro j x hj hx)|refine gC (tq b) ?_|refine gC (Er b _) ?_|refine gC (OQ _) ?_|refine gC (MX m 123 [i64 (clamped l.val)] _ (fun y=>Kn y (clamped l.val))) ?_|refine gC (Km m _) ?_|intro _))<;>try (conv=>whnf)
  all_goals refine⟨?_,rfl,trivial⟩
  all_goals (rw [restrict,if_pos hd];simp [*,List.map_set,List.getD_eq_getElem?_getD,gq])
def lY (l:List Int) (n:Int):Nat:=(l.takeWhile fun x=>decide (x < n)).length
def kJ (l:List Int) (n:Int):List Int:=if l.contains n=true then l else l.take (lY l n)++[n]++l.drop (lY l n)
theorem Ho (l:List Int) (n:Int) (hl:l.length < lim):Con 223 [.d (ints l),.d (i64 n)] (.d (ints (kJ l n))):=by
 refine con Tryz.func223 rfl rfl Tryz.call223 rfl fun hwf=>?_
 unfold lim at hl
 simp only [ARs.wf,AR.wf,AV.wf,AV.wfs,lm,lim] at hwf
 (repeat' ((conv=>whnf);first|refine gA ?_|(refine gB ?_ ?_<;>intro h)|(refine gI ?_;intro x hx)|(refine gJ ?_;intro j x hj hx)|refine gP ?_|refine gQ ?_|refine gV ?_|refine gK ?_|refine gC (eT _ _) ?_|intro _))<;>try (conv=>whnf)
 ·refine⟨?_,rfl,trivial⟩
  rw [kJ,if_pos h]
 refine aB [0,1] [] [] ?_
 (conv=>whnf)
 refine aA.go ((Nat)) (fun k=>(k≤l.length)∧(k+lY (l.drop k) n=lY l n)) (fun k=>[(5,.data (i64 k))]) (fun _=>[]) (fun _=>[]) (fun k=>l.length - k) (0) ?_ ?_
 ·exact⟨by omega,by simp⟩
 rintro k ⟨hk,hi⟩
 (repeat' ((conv=>whnf);first|refine gA ?_|(refine gB ?_ ?_<;>intro h)|(refine gI ?_;intro x hx)|(refine gJ ?_;intro j x hj hx)|refine gP ?_|refine gQ ?_|refine gV ?_|refine gK ?_|intro _))<;>try (conv=>whnf)
 ·refine nx (k+1) ?_
  refine⟨by omega,?_⟩
  rw [← hi,au hx,lY,lY,List.takeWhile_cons,if_pos (by simpa using h)];simp;omega
 all_goals refine⟨?_,rfl,trivial⟩
 ·rw [au hx,lY,List.takeWhile_cons,if_neg (by simpa using h)] at hi
  have e:lY l n=k:=by simp at hi;omega
  rw [kJ,if_neg (Bool.eq_false_iff.1 (by assumption)),e]
  dsimp only
  rw [nM,qC];simp
 ·rw [aG (by assumption)] at hi
  have e:lY l n=k:=by simp [lY] at hi;simp [lY];omega
  rw [kJ,if_neg (Bool.eq_false_iff.1 (by assumption)),e]
  dsimp only
  rw [nM,qC];simp
def setOf (l:List Int):List Int:=l.foldl kJ []
theorem Kq (l:List Int) (n:Int):(kJ l n).length≤l.length+1:=by
 unfold kJ;split
 ·omega
 ·simp;omega
theorem oz (l:List Int):Con 164 [.d (ints l)] (.d (ints (setOf l))):=by
 refine con Tryz.func164 rfl rfl Tryz.call164 rfl fun hwf=>?_
 simp only [ARs.wf,AR.wf,AV.wf,AV.wfs,lm,lim] at hwf
 (repeat' ((conv=>whnf);first|refine gA ?_|(refine gB ?_ ?_<;>intro h)|(refine gI ?_;intro x hx)|(refine gJ ?_;intro j x hj hx)|refine gV ?_|intro _))<;>try (conv=>whnf)
 refine aB [7,8] [] [] ?_
 (conv=>whnf)
 refine aA.go ((Nat)×(List Int)) (fun⟨k,o⟩=>(k≤l.length)∧(o.length≤k)∧((l.drop k).foldl kJ o=setOf l)) (fun⟨k,o⟩=>[(9,.data (i64 k)),(3,.data (ints o))]) (fun _=>[]) (fun _=>[]) (fun⟨k,o⟩=>l.length - k) ⟨0,[]⟩ ?_ ?_
 ·exact⟨by omega,by simp,rfl⟩
 rintro⟨k,o⟩ ⟨hk,ho,hi⟩
 (repeat' ((conv=>whnf);first|refine gA ?_|(refine gB ?_ ?_<;>intro h)|(refine gI ?_;intro x hx)|(refine gJ ?_;intro j x hj hx)|refine gV ?_|refine gC (Ho o x (by unfold lim;omega)) ?_|intro _))<;>try (conv=>whnf)
 ·refine nx ⟨k+1,kJ o x⟩ ?_
  rw [au hx,List.foldl_cons] at hi
  have:=Kq o x
  exact⟨by omega,by omega,hi⟩
 ·refine⟨?_,rfl,trivial⟩
  rw [← hi,aG (by assumption)];rfl
theorem yG (a b:List Int):Con 107 [.d (ints a),.d (ints b)] (.d (ints (setOf (a.filter fun n=>b.contains n)))):=by
 refine con Tryz.func107 rfl rfl Tryz.call107 rfl fun hwf=>?_
 simp only [ARs.wf,AR.wf,AV.wf,AV.wfs,lm,lim] at hwf
 (repeat' ((conv=>whnf);first|refine gA ?_|(refine gB ?_ ?_<;>intro h)|(refine gI ?_;intro x hx)|(refine gJ ?_;intro j x hj hx)|refine gP ?_|refine gV ?_|intro _))<;>try (conv=>whnf)
 refine aB [1,9,10] [] [8] ?_
 (conv=>whnf)
 refine aA.go ((Nat)×(List Int)) (fun⟨k,o⟩=>(k≤a.length)∧(o.length≤k)∧(o++(a.drop k).filter (fun n=>b.contains n)=a.filter (fun n=>b.contains n))) (fun⟨k,o⟩=>[(11,.data (i64 k)),(5,.own 8 0)]) (fun _=>[]) (fun⟨k,o⟩=>[(8,3,o.map i64,0)]) (fun⟨k,o⟩=>a.length - k) ⟨0,[]⟩ ?_ ?_
 ·exact⟨by omega,by simp,rfl⟩
 rintro⟨k,o⟩ ⟨hk,ho,hi⟩
 (repeat' ((conv=>whnf);first|refine gA ?_|(refine gB ?_ ?_<;>intro h)|(refine gI ?_;intro x hx)|(refine gJ ?_;intro j x hj hx)|refine gP ?_|refine gV ?_|refine gC (eT _ _) ?_|refine gC (oz o) ?_|intro _))<;>try (conv=>whnf)
 ·refine nw ⟨k+1,o++[x]⟩ ?_ ?_
  ·(repeat' ((conv=>whnf)<;>(first|exact trivial|exact rfl|with_reducible refine And.intro ?_ ?_)))<;>((conv=>whnf)<;>(simp))
  exact⟨by omega,by simp;omega,(iG hi hx).1 h⟩
 ·refine nx ⟨k+1,o⟩ ?_
  exact⟨by omega,by omega,(iG hi hx).2 h⟩
 ·refine⟨?_,rfl,trivial⟩
  rw [← hi,aG (by assumption)];simp
theorem Vt (n:Int):setOf [n]= [n]:=by simp [setOf,kJ,lY]
theorem Gc {l:List Int}:jk l=true↔∀i,(h:i+1 < l.length)→l[i] < l[i+1]:=by
 rw [jk,bg]
 constructor
 ·intro h i hi
  have:=h (i+1) hi
  simp only [setAt,List.getD_eq_getElem?_getD,Nat.add_sub_cancel,List.getElem?_eq_getElem hi,List.getElem?_eq_getElem (show i < l.length by omega)] at this
  simpa using this
 ·intro h i hi
  cases i with
  |zero=>rfl
  |succ i=>
   have:=h i hi
   simp only [setAt,List.getD_eq_getElem?_getD,Nat.add_sub_cancel,List.getElem?_eq_getElem hi,List.getElem?_eq_getElem (show i < l.length by omega)]
   simpa using this
theorem Es {l:List Int} (h:jk l=true):l.Pairwise (· < ·):=by
 have h:=Gc.1 h
 rw [List.pairwise_iff_getElem]
 intro i j hi hj hij
 induction j with
 |zero=>omega
 |succ j ih=>
  have h1:=h j hj
  by_cases e:i=j
  ·subst e;exact h1
  ·have:=ih (by omega) (by omega);omega
theorem Vu {m:List Int} (h:m.Pairwise (· < ·)) (n:Int):m.filter (fun k=>decide (k=n))=if m.contains n=true then [n] else []:=by
 induction m with
 |nil=>rfl
 |cons x r ih=>
  rw [List.pairwise_cons] at h
  rw [List.filter_cons,List.contains_cons]
  by_cases e:x=n
  ·subst e
   have:r.filter (fun k=>decide (k=x))= []:=by
    rw [List.filter_eq_nil_iff]
    intro y hy
    have:=h.1 y hy
    simp;omega
   simp [this]
  ·rw [if_neg (by simp [e]),ih h.2]
   have:(n == x)=false:=by simp;omega
   simp [this]
theorem filter_one {m:List Int} (h:jk m=true) (n:Int):setOf ([n].filter fun n=>m.contains n)=m.filter fun k=>decide (k=n):=by
 rw [Vu (Es h),List.filter_cons]
 by_cases hc:m.contains n=true
 ·rw [if_pos hc,if_pos hc];exact Vt n
 ·rw [if_neg hc,if_neg hc];rfl
theorem iH (b:Dom) (l:Lit) (hs:∀m,b.modes[l.act.toNat]? =some m→jk m=true):Con 39 [.d b.av,.d l.av] (.d (restrict b l).av):=by
 refine con Tryz.func39 rfl rfl Tryz.call39 rfl fun hwf=>?_
 cases hd:gH b l.act with
 |false=>
  (repeat' ((conv=>whnf);first|refine gA ?_|(refine gB ?_ ?_<;>intro h)|(refine gI ?_;intro x hx)|(refine gJ ?_;intro j x hj hx)|refine gC (nR b) ?_|refine gC (mK b _) ?_|intro _))<;>try (conv=>whnf)
  refine⟨?_,rfl,trivial⟩
  rw [restrict,if_neg (by simp [hd])]
 |true=>
  obtain⟨n,x,y,m,ha,hlo,hhi,hmo⟩:=wh hd
  have han:l.act.toNat=n:=by omega
  (repeat' ((conv=>whnf);first|with_reducible refine Idx.got hlo (by first|exact ha|rfl) ?_|with_reducible refine Idx.got hhi (by first|exact ha|rfl) ?_|with_reducible refine Idx.got hmo (by first|exact ha|rfl) ?_|refine gA ?_|(refine gB ?_ ?_<;>intro h)|(refine gI ?_;intro x hx)|(refine gJ ?_;intro j x hj hx)|refine gC (nR b) ?_|refine gC (mK b _) ?_|refine gC (IK _) ?_|refine gC (mZ _ _) ?_|refine gC (tu _ _) ?_|refine gC (yG [clamped l.val] m) ?_|refine gC (Ko m _) ?_|intro _))<;>try (conv=>whnf)
  all_goals refine⟨?_,rfl,trivial⟩
  all_goals (try rw [filter_one (hs m (by rw [han];exact hmo))])
  all_goals (rw [restrict,if_pos hd];simp [*,List.map_set,List.getD_eq_getElem?_getD,gq])
end Go.Proofs.YtefgamefajmdkaaGreat.Abs
