/- Part of a proof. -/
import Derived.Test.YthegbfgeochckaaGreatC3
set_option linter.all false
set_option maxRecDepth 20000
set_option maxHeartbeats 0
namespace Go.Proofs.YthegbfgeochckaaGreat.Abs
open Go.Proofs
theorem iK (l:Lit):Con 87 [.d l.av] (.d (negate l).av):=by
 refine con Tryz.func87 rfl rfl Tryz.call87 rfl fun hwf=>?_
 (repeat' ((conv=>whnf);first|refine gA ?_|(refine gN ?_ ?_<;>intro h hw)|(refine gB ?_ ?_<;>intro h)|refine gC (bO _ _ _) ?_|intro _))<;>try (conv=>whnf)
 all_goals refine⟨?_,rfl,trivial⟩
 all_goals (simp_all [negate,bL];try rfl)
theorem qL (l:Lit):Con 133 [.d l.av] (.d (negate l).av):=by
 refine con Tryz.func133 rfl rfl Tryz.call133 rfl fun hwf=>?_
 (repeat' ((conv=>whnf);first|refine gA ?_|(refine gN ?_ ?_<;>intro h hw)|(refine gB ?_ ?_<;>intro h)|refine gC (dG _ _ _) ?_|intro _))<;>try (conv=>whnf)
 all_goals refine⟨?_,rfl,trivial⟩
 all_goals (simp_all [negate,bL];try rfl)
theorem Zr {b:Dom} {a:Int}:nY b a=true↔0<=a/\a < b.lo.length/\a < b.hi.length/\a < b.modes.length:=by
 simp only [nY,Bool.and_eq_true,decide_eq_true_eq];omega
theorem Af {b:Dom} {a:Int} (h:nY b a=true):∃(n:Nat) (x y:Int) (m:List Int),a=n/\b.lo[n]? =some x/\b.hi[n]? =some y/\b.modes[n]? =some m:=by
 have hn:=Zr.1 h
 exact⟨a.toNat,b.lo[a.toNat]'(by omega),b.hi[a.toNat]'(by omega),b.modes[a.toNat]'(by omega),by omega,by simp,by simp,by simp⟩
theorem fP (b:Dom) (l:Lit):Con 76 [.d b.av,.d l.av] (.d (restrict b l).av):=by
 refine con Tryz.func76 rfl rfl Tryz.call76 rfl fun hwf=>?_
 cases hd:nY b l.act with
 |false=>
  (repeat' ((conv=>whnf);first|refine gA ?_|refine gC (qK b) ?_|refine gC (II b _) ?_|intro _))<;>try (conv=>whnf)
  refine⟨?_,rfl,trivial⟩
  rw [restrict,if_neg (by simp [hd])]
 |true=>
  obtain⟨n,x,y,m,ha,hlo,hhi,hmo⟩:=Af hd
  have han:l.act.toNat=n:=by omega
  (repeat' ((conv=>whnf);first|with_reducible refine Idx.got hlo (by first|exact ha|rfl) ?_|with_reducible refine Idx.got hhi (by first|exact ha|rfl) ?_|with_reducible refine Idx.got hmo (by first|exact ha|rfl) ?_|refine gA ?_|(refine gB ?_ ?_<;>intro h)|refine gC (qK b) ?_|refine gC (II b _) ?_|refine gC (UK _) ?_|refine gC (Ko m 155 [i64 (clamped l.val)] _ (fun y=>Ot y (clamped l.val))) ?_|refine gC (Oq m _) ?_|intro _))<;>try (conv=>whnf)
  all_goals refine⟨?_,rfl,trivial⟩
  all_goals (rw [restrict,if_pos hd];simp [*,List.map_set,List.getD_eq_getElem?_getD,iV])
def pQ (l:List Int) (n:Int):Nat:=(l.takeWhile fun x=>decide (x < n)).length
def nN (l:List Int) (n:Int):List Int:=if l.contains n=true then l else l.take (pQ l n)++[n]++l.drop (pQ l n)
theorem LG (l:List Int) (n:Int) (hl:l.length < lim):Con 323 [.d (ints l),.d (i64 n)] (.d (ints (nN l n))):=by
 refine con Tryz.func323 rfl rfl Tryz.call323 rfl fun hwf=>?_
 unfold lim at hl
 simp only [ARs.wf,AR.wf,AV.wf,AV.wfs,lm,lim] at hwf
 (repeat' ((conv=>whnf);first|refine gA ?_|(refine gB ?_ ?_<;>intro h)|refine gC (gT _ _) ?_|intro _))<;>try (conv=>whnf)
 ·refine⟨?_,rfl,trivial⟩
  rw [nN,if_pos h]
 refine ay [0,1] [] [] ?_
 (conv=>whnf)
 refine au.go ((Nat)) (fun k=>(k<=l.length)/\(k+pQ (l.drop k) n=pQ l n)) (fun k=>[(5,.data (i64 k))]) lE lE (fun k=>l.length - k) (0) ?_ ?_
 ·exact⟨by omega,by simp⟩
 rintro k ⟨hk,hi⟩
 (repeat' ((conv=>whnf);first|refine gAX ?_|(refine gB ?_ ?_<;>intro h)|(refine gI ?_;intro x hx)|refine gQ ?_|refine gK ?_|fail))<;>try (conv=>whnf)
 ·refine nx (k+1) ?_
  refine⟨by omega,?_⟩
  rw [<- hi,aA hx,pQ,pQ,List.takeWhile_cons,if_pos (by simpa using h)];simp;omega
 all_goals refine⟨?_,rfl,trivial⟩
 ·rw [aA hx,pQ,List.takeWhile_cons,if_neg (by simpa using h)] at hi
  have e:pQ l n=k:=by simp at hi;omega
  rw [nN,if_neg (Bool.eq_false_iff.1 (by assumption)),e]
  dsimp only
  rw [oW,vG];simp
 ·rw [aG (by assumption)] at hi
  have e:pQ l n=k:=by simp [pQ] at hi;simp [pQ];omega
  rw [nN,if_neg (Bool.eq_false_iff.1 (by assumption)),e]
  dsimp only
  rw [oW,vG];simp
def setOf (l:List Int):List Int:=l.foldl nN []
theorem Ov (l:List Int) (n:Int):(nN l n).length<=l.length+1:=by
 unfold nN;split
 ·omega
 ·simp;omega
theorem sU (l:List Int):Con 258 [.d (ints l)] (.d (ints (setOf l))):=by
 refine con Tryz.func258 rfl rfl Tryz.call258 rfl fun hwf=>?_
 simp only [ARs.wf,AR.wf,AV.wf,AV.wfs,lm,lim] at hwf
 try (conv=>whnf)
 refine ay [7,8] [] [] ?_
 (conv=>whnf)
 refine au.go ((Nat)×(List Int)) (fun⟨k,o⟩=>(k<=l.length)/\(o.length<=k)/\((l.drop k).foldl nN o=setOf l)) (fun⟨k,o⟩=>[(9,.data (i64 k)),(3,.data (ints o))]) lE lE (fun⟨k,o⟩=>l.length - k) ⟨0,[]⟩ ?_ ?_
 ·exact⟨by omega,by simp,rfl⟩
 rintro⟨k,o⟩ ⟨hk,ho,hi⟩
 (repeat' ((conv=>whnf);first|refine gA ?_|(refine gB ?_ ?_<;>intro h)|(refine gI ?_;intro x hx)|refine gC (LG o x (by unfold lim;omega)) ?_|intro _))<;>try (conv=>whnf)
 ·refine nx ⟨k+1,nN o x⟩ ?_
  rw [aA hx,List.foldl_cons] at hi
  have:=Ov o x
  exact⟨by omega,by omega,hi⟩
 ·refine⟨?_,rfl,trivial⟩
  rw [<- hi,aG (by assumption)];rfl
theorem Cu (a b:List Int):Con 204 [.d (ints a),.d (ints b)] (.d (ints (setOf (a.filter fun n=>b.contains n)))):=by
 refine con Tryz.func204 rfl rfl Tryz.call204 rfl fun hwf=>?_
 simp only [ARs.wf,AR.wf,AV.wf,AV.wfs,lm,lim] at hwf
 try (conv=>whnf)
 refine ay [1,9,10] [] [8] ?_
 (conv=>whnf)
 refine au.go ((Nat)×(List Int)) (fun⟨k,o⟩=>(k<=a.length)/\(o.length<=k)/\(o++(a.drop k).filter (fun n=>b.contains n)=a.filter (fun n=>b.contains n))) (fun⟨k,o⟩=>[(11,.data (i64 k)),(5,.own 8 0)]) lE (fun⟨k,o⟩=>[(8,3,o.map i64,0)]) (fun⟨k,o⟩=>a.length - k) ⟨0,[]⟩ ?_ ?_
 ·exact⟨by omega,by simp,rfl⟩
 rintro⟨k,o⟩ ⟨hk,ho,hi⟩
 (repeat' ((conv=>whnf);first|refine gAX ?_|(refine gB ?_ ?_<;>intro h)|(refine gI ?_;intro x hx)|refine gC (gT _ _) ?_|refine gC (sU o) ?_|intro _))<;>try (conv=>whnf)
 ·refine nwS ⟨k+1,o++[x]⟩ ?_
  exact⟨by omega,by simp;omega,(jK hi hx).1 h⟩
 ·refine nx ⟨k+1,o⟩ ?_
  exact⟨by omega,by omega,(jK hi hx).2 h⟩
 ·refine⟨?_,rfl,trivial⟩
  rw [<- hi,aG (by assumption)];simp
theorem abQ (n:Int):setOf [n]= [n]:=by simp [setOf,nN,pQ]
theorem Kq {l:List Int}:jU l=true↔∀i,(h:i+1 < l.length)->l[i] < l[i+1]:=by
 rw [jU,dB]
 constructor
 ·intro h i hi
  have:=h (i+1) hi
  simp only [setAt,List.getD_eq_getElem?_getD,Nat.add_sub_cancel,List.getElem?_eq_getElem hi,List.getElem?_eq_getElem (show i < l.length by omega)] at this
  simpa using this
 ·intro h i hi
  cases i with
  |zero=>rfl
  |succ i=>
   have:=h i hi
   simp only [setAt,List.getD_eq_getElem?_getD,Nat.add_sub_cancel,List.getElem?_eq_getElem hi,List.getElem?_eq_getElem (show i < l.length by omega)]
   simpa using this
theorem IJ {l:List Int} (h:jU l=true):l.Pairwise (· < ·):=by
 have h:=Kq.1 h
 rw [List.pairwise_iff_getElem]
 intro i j hi hj hij
 induction j with
 |zero=>omega
 |succ j ih=>
  have h1:=h j hj
  by_cases e:i=j
  ·subst e;exact h1
  ·have:=ih (by omega) (by omega);omega
theorem abR {m:List Int} (h:m.Pairwise (· < ·)) (n:Int):m.filter (fun k=>decide (k=n))=if m.contains n=true then [n] else []:=by
 induction m with
 |nil=>rfl
 |cons x r ih=>
  rw [List.pairwise_cons] at h
  rw [List.filter_cons,List.contains_cons]
  by_cases e:x=n
  ·subst e
   have:r.filter (fun k=>decide (k=x))= []:=by
    rw [List.filter_eq_nil_iff]
    intro y hy
    have:=h.1 y hy
    simp;omega
   simp [this]
  ·rw [if_neg (by simp [e]),ih h.2]
   have:(n == x)=false:=by simp;omega
   simp [this]
theorem filter_one {m:List Int} (h:jU m=true) (n:Int):setOf ([n].filter fun n=>m.contains n)=m.filter fun k=>decide (k=n):=by
 rw [abR (IJ h),List.filter_cons]
 by_cases hc:m.contains n=true
 ·rw [if_pos hc,if_pos hc];exact abQ n
 ·rw [if_neg hc,if_neg hc];rfl
theorem jL (b:Dom) (l:Lit) (hs:∀m,b.modes[l.act.toNat]? =some m->jU m=true):Con 122 [.d b.av,.d l.av] (.d (restrict b l).av):=by
 refine con Tryz.func122 rfl rfl Tryz.call122 rfl fun hwf=>?_
 cases hd:nY b l.act with
 |false=>
  (repeat' ((conv=>whnf);first|refine gA ?_|refine gC (mP b) ?_|refine gC (qd b _) ?_|intro _))<;>try (conv=>whnf)
  refine⟨?_,rfl,trivial⟩
  rw [restrict,if_neg (by simp [hd])]
 |true=>
  obtain⟨n,x,y,m,ha,hlo,hhi,hmo⟩:=Af hd
  have han:l.act.toNat=n:=by omega
  (repeat' ((conv=>whnf);first|with_reducible refine Idx.got hlo (by first|exact ha|rfl) ?_|with_reducible refine Idx.got hhi (by first|exact ha|rfl) ?_|with_reducible refine Idx.got hmo (by first|exact ha|rfl) ?_|refine gA ?_|(refine gB ?_ ?_<;>intro h)|refine gC (mP b) ?_|refine gC (qd b _) ?_|refine gC (Mx _) ?_|refine gC (uE _ _) ?_|refine gC (xM _ _) ?_|refine gC (Cu [clamped l.val] m) ?_|refine gC (Ou m _) ?_|intro _))<;>try (conv=>whnf)
  all_goals refine⟨?_,rfl,trivial⟩
  all_goals (try rw [filter_one (hs m (by rw [han];exact hmo))])
  all_goals (rw [restrict,if_pos hd];simp [*,List.map_set,List.getD_eq_getElem?_getD,iV])
end Go.Proofs.YthegbfgeochckaaGreat.Abs
