/- Contracts: sets that grow. -/
import Derived.Test.YtjfnojijdggfhaaGreatSet
import Derived.Test.YtjfnojijdggfhaaGreatC9
import Derived.Test.YtjfnojijdggfhaaGreatC26
set_option linter.all false
set_option maxRecDepth 20000
set_option maxHeartbeats 0
namespace Go.Proofs.YtjfnojijdggfhaaGreat.Abs
open Go.Proofs
theorem Jk (l:List Int):(setOf l).Pairwise (· < ·):=(pG (l:=l) (o:=[]) List.Pairwise.nil).1
theorem pU {l:List Int} {x:Int}:x∈setOf l↔x∈l:=by
 have:=(pG (l:=l) (o:=[]) List.Pairwise.nil).2 x
 exact this.trans (by simp)
theorem Qm {l m:List Int} (hm:m.Pairwise (· < ·)) (h:∀x,x∈m↔x∈l):setOf l=m:=xJ (Jk l) hm fun x=>pU.trans (h x).symm
theorem Jl (l:List Int) (n:Int):setOf (setOf l++[n])=setOf (l++[n]):=Qm (Jk _) fun x=>by simp [pU]
theorem Qn (l:List Int):setOf (setOf l)=setOf l:=Qm (Jk _) fun x=>Iff.rfl
theorem Qo (l:List Int) (n:Int) (hl:l.length < lim):Con 65 [.d (ints l),.d (i64 n)] (.d (ints (setOf (l++[n])))):=by
 refine con Tryz.func65 rfl rfl Tryz.call65 rfl fun hwf=>?_
 unfold lim at hl
 have e:(l++[n]).map i64=l.map i64++[i64 n]:=by simp
 have hS:=nG (l++[n])
 rw [ints,e] at hS
 (repeat' ((conv=>whnf);first|refine gA ?_|(refine gB ?_ ?_<;>intro h)|refine gP ?_|refine gC (slices_Clone_int l) ?_|refine gC (hS) ?_|intro _))<;>try (conv=>whnf)
 all_goals exact⟨rfl,rfl,trivial⟩
theorem Ut {p:Proj} {k:Nat} {a:aK} (h:p.acts[k]? =some a):aV p k=a:=by simp [aV,List.getD_eq_getElem?_getD,h]
theorem VR {p:Proj} (ho:aL p=true) {k:Nat} {a:aK} (h:p.acts[k]? =some a) {m:Mode} (hm:m∈a.modes):m.use.length=p.bS.length:=by
 have:=(jF ((fB ho).act k a h) hm).2.2.1
 omega
open Go.Proofs
def yF (p:Proj) (r:Int) (i:Int):Bool:=(aV p i.toNat).modes.any fun m=>decide (m.use.getD r.toNat 0 > 0)
def users (p:Proj) (r:Int):List Int:=if aL p=true∧eZ p r=true then (upTo p.acts.length).filter (yF p r) else []
theorem wz (l:List Mode) (fc:Nat) (caps:List AV) (p:Mode→Bool) (hc:∀x∈l,Con fc ([.d x.av]++caps.map .ref) (.d (.bool (p x)))):
  Con 170 [.d (.sl (l.map Mode.av)),.fn fc caps] (.d (i64 (aO p l 0))):=by
 refine con Tryz.func170 rfl rfl Tryz.call170 rfl fun hwf=>?_
 simp only [ARs.wf,AR.wf,AV.wf,AV.wfs,lm,lim] at hwf
 (conv=>whnf)
 refine aB [0,1,7] [] [] ?_
 (conv=>whnf)
 refine aA.go ((Nat)) (fun k=>(k≤l.length)∧(aO p (l.drop k) k=aO p l 0)) (fun k=>[(8,.data (i64 k))]) (fun _=>[]) (fun _=>[]) (fun k=>l.length - k) (0) ?_ ?_
 ·exact⟨by omega,rfl⟩
 rintro k ⟨hk,hi⟩
 by_cases hlt:k < l.length
 ·obtain⟨x,hx⟩:∃x,l[k]? =some x:=⟨l[k]'hlt,by simp⟩
  (repeat' ((conv=>whnf);first|with_reducible refine Idx.got hx rfl ?_|refine gA ?_|(refine gB ?_ ?_<;>intro h)|(refine gI ?_;intro x hx)|(refine gJ ?_;intro j x hj hx)|refine gV ?_|refine gC (hc x (List.mem_of_getElem? hx)) ?_|intro _))<;>try (conv=>whnf)
  ·refine⟨?_,rfl,trivial⟩
   rw [au (l:=l) hx,aO,if_pos h] at hi
   rw [← hi]
  ·refine nx (k+1) ?_
   rw [au (l:=l) hx,aO,if_neg (by simp [h])] at hi
   exact⟨by omega,hi⟩
  ·exfalso;omega
 ·(repeat' ((conv=>whnf);first|(exfalso;omega)|refine gA ?_|(refine gB ?_ ?_<;>intro h)|(refine gI ?_;intro x hx)|(refine gJ ?_;intro j x hj hx)|refine gV ?_|intro _))<;>try (conv=>whnf)
  refine⟨?_,rfl,trivial⟩
  rw [aJ (by assumption)] at hi
  rw [← hi];rfl
theorem sJ (l:List Mode) (fc:Nat) (caps:List AV) (p:Mode→Bool) (hc:∀x∈l,Con fc ([.d x.av]++caps.map .ref) (.d (.bool (p x)))):
  Con 133 [.d (.sl (l.map Mode.av)),.fn fc caps] (.d (.bool (l.any p))):=by
 refine con Tryz.func133 rfl rfl Tryz.call133 rfl fun hwf=>?_
 (repeat' ((conv=>whnf);first|refine gA ?_|(refine gB ?_ ?_<;>intro h)|refine gC (wz l fc caps p hc) ?_|intro _))<;>try (conv=>whnf)
 refine⟨?_,rfl,trivial⟩
 rw [← tu l 0]
theorem Qp (m:Mode) (r:Int) (k:Nat) (e:r=k) (hk:k < m.use.length):Con 134 [.d m.av,.ref (i64 r)] (.d (.bool (decide (m.use.getD r.toNat 0 > 0)))):=by
 refine con Tryz.func134 rfl rfl Tryz.call134 rfl fun hwf=>?_
 obtain⟨n,hn⟩:∃n,m.use[k]? =some n:=⟨m.use[k]'hk,by simp⟩
 have e2:m.use.getD r.toNat 0=n:=by rw [e,Int.toNat_natCast,List.getD_eq_getElem?_getD,hn];rfl
 (repeat' ((conv=>whnf);first|with_reducible refine Idx.got hn e ?_|refine gA ?_|(refine gB ?_ ?_<;>intro h)|(refine gI ?_;intro x hx)|(refine gJ ?_;intro j x hj hx)|intro _))<;>try (conv=>whnf)
 all_goals exact⟨by rw [e2],rfl,trivial⟩
theorem Fw (f:Int→Bool) (k:Nat):(upTo (k+1)).filter f=(upTo k).filter f++if f k=true then [(k:Int)] else []:=by
 rw [upTo,upTo,List.range_succ,List.map_append,List.filter_append]
 congr 1
 simp only [List.map_cons,List.map_nil,List.filter_cons,List.filter_nil]
 rfl
theorem vY (f:Int→Bool) (k:Nat):((upTo k).filter f).length≤k:=Nat.le_trans (List.length_filter_le _ _) (Nat.le_of_eq (BJ k))
theorem Jm (p:Proj) (r:Int) (hp:p.fine):Con 70 [.d p.av,.d (i64 r)] (.d (ints (users p r))):=by
 refine con Tryz.func70 rfl rfl Tryz.call70 rfl fun hwf=>?_
 cases ho:aL p with
 |false=>
  (repeat' ((conv=>whnf);first|refine gA ?_|(refine gB ?_ ?_<;>intro h)|(refine gI ?_;intro x hx)|(refine gJ ?_;intro j x hj hx)|refine gP ?_|refine gV ?_|refine gC (bU p hp) ?_|intro _))<;>try (conv=>whnf)
  all_goals (refine⟨?_,rfl,trivial⟩;rw [users,if_neg (by simp [ho])];rfl)
 |true=>
 cases hr:eZ p r with
 |false=>
  (repeat' ((conv=>whnf);first|refine gA ?_|(refine gB ?_ ?_<;>intro h)|(refine gI ?_;intro x hx)|(refine gJ ?_;intro j x hj hx)|refine gP ?_|refine gV ?_|refine gC (bU p hp) ?_|refine gC (fI p r) ?_|intro _))<;>try (conv=>whnf)
  all_goals (refine⟨?_,rfl,trivial⟩;rw [users,if_neg (by simp [hr])];rfl)
 |true=>
  rw [users,if_pos ⟨ho,hr⟩]
  have hna:=(fB ho).Ko
  obtain⟨ρ,re,e1,e2,e3⟩:=En hr
  have hρ:=(List.getElem?_eq_some_iff.1 e2).1
  (repeat' ((conv=>whnf);first|refine gA ?_|(refine gB ?_ ?_<;>intro h)|(refine gI ?_;intro x hx)|(refine gJ ?_;intro j x hj hx)|refine gP ?_|refine gV ?_|refine gC (bU p hp) ?_|refine gC (fI p r) ?_|intro _))<;>try (conv=>whnf)
  refine aB [3,19,20] [3] [17] ?_
  (conv=>whnf)
  refine aA.go ((Nat)) (fun k=>(k≤p.acts.length)) (fun k=>[(21,.data (i64 k)),(5,.own 17 0)]) (fun _=>[]) (fun k=>[(17,3,((upTo k).filter (yF p r)).map i64,0)]) (fun k=>p.acts.length - k) (0) ?_ ?_
  ·exact Nat.zero_le _
  rintro k hk
  have hfl:=vY (yF p r) k
  by_cases hlt:k < p.acts.length
  rotate_left
  ·(repeat' ((conv=>whnf);first|(exfalso;omega)|refine gA ?_|(refine gB ?_ ?_<;>intro h)|(refine gI ?_;intro x hx)|(refine gJ ?_;intro j x hj hx)|refine gP ?_|refine gV ?_|intro _))<;>try (conv=>whnf)
   refine⟨?_,rfl,trivial⟩
   rw [show p.acts.length=k by omega]
  obtain⟨a,ha⟩:∃a,p.acts[k]? =some a:=⟨p.acts[k]'hlt,by simp⟩
  have hu:yF p r k=a.modes.any fun m=>decide (m.use.getD r.toNat 0 > 0):=by rw [yF,Int.toNat_natCast,Ut ha]
  (repeat' ((conv=>whnf);first|with_reducible refine Idx.got ha rfl ?_|refine gA ?_|(refine gB ?_ ?_<;>intro h)|(refine gI ?_;intro x hx)|(refine gJ ?_;intro j x hj hx)|refine gP ?_|refine gV ?_|refine gC (sJ a.modes 134 [i64 r] (fun m=>decide (m.use.getD r.toNat 0 > 0)) (fun m hm=>Qp m r ρ e1 (by rw [VR ho ha hm];exact hρ))) ?_|intro _))<;>try (conv=>whnf)
  ·refine nw (k+1) ?_ ?_
   ·(repeat' ((conv=>whnf)<;>(first|exact trivial|exact rfl|with_reducible refine And.intro ?_ ?_)))<;>((conv=>whnf)<;>((rw [Fw,if_pos (by rw [hu];assumption)];simp)))
   exact (by omega:k+1≤p.acts.length)
  ·refine nw (k+1) ?_ ?_
   ·(repeat' ((conv=>whnf)<;>(first|exact trivial|exact rfl|with_reducible refine And.intro ?_ ?_)))<;>((conv=>whnf)<;>((rw [Fw,if_neg (by rw [hu];simp only [Bool.not_eq_true];assumption)];simp)))
   exact (by omega:k+1≤p.acts.length)
  ·exact trivial
def dH (p:Proj) (r:Rul):List Int:=
 if fT p r=true then
  if r.kind=1 then setOf [(gu p r.a).src,(gu p r.a).dst]
  else if r.kind=2 then [r.a] else if r.kind=5 then [r.b,r.c] else if r.kind=6 then aH p.acts.length else users p r.a
 else []
theorem oU (p:Proj) (r:Rul) (hp:p.fine):Con 20 [.d p.av,.d r.av] (.d (ints (dH p r))):=by
 refine con Tryz.func20 rfl rfl Tryz.call20 rfl fun hwf=>?_
 cases ho:fT p r with
 |false=>
  (repeat' ((conv=>whnf);first|refine gA ?_|(refine gB ?_ ?_<;>intro h)|(refine gI ?_;intro x hx)|(refine gJ ?_;intro j x hj hx)|refine gC (dU p r hp) ?_|intro _))<;>try (conv=>whnf)
  refine⟨?_,rfl,trivial⟩;rw [dH,if_neg (by rw [ho];exact Bool.false_ne_true)];rfl
 |true=>
  rw [dH,if_pos ho]
  cases CK ho with
  |link hk k l e1 hl=>
   have e:gu p r.a=l:=by simp [gu,e1,List.getD_eq_getElem?_getD,hl]
   (repeat' ((conv=>whnf);first|with_reducible refine Br.yes (decide_eq_true (by omega)) ?_|with_reducible refine Br.no (decide_eq_false (by omega)) ?_|with_reducible refine Idx.got hl e1 ?_|refine gA ?_|(refine gB ?_ ?_<;>intro h)|(refine gI ?_;intro x hx)|(refine gJ ?_;intro j x hj hx)|refine gC (dU p r hp) ?_|refine gC (nG [l.src,l.dst]) ?_|intro _))<;>try (conv=>whnf)
   all_goals (refine⟨?_,rfl,trivial⟩;rw [if_pos hk,e])
  |fin hk ha=>
   (repeat' ((conv=>whnf);first|with_reducible refine Br.yes (decide_eq_true (by omega)) ?_|with_reducible refine Br.no (decide_eq_false (by omega)) ?_|refine gA ?_|(refine gB ?_ ?_<;>intro h)|(refine gI ?_;intro x hx)|(refine gJ ?_;intro j x hj hx)|refine gC (dU p r hp) ?_|intro _))<;>try (conv=>whnf)
   all_goals (refine⟨?_,rfl,trivial⟩;simp [hk])
  |time hk ha hb=>
   (repeat' ((conv=>whnf);first|with_reducible refine Br.yes (decide_eq_true (by omega)) ?_|with_reducible refine Br.no (decide_eq_false (by omega)) ?_|refine gA ?_|(refine gB ?_ ?_<;>intro h)|(refine gI ?_;intro x hx)|(refine gJ ?_;intro j x hj hx)|refine gC (dU p r hp) ?_|refine gC (Jm p r.a hp) ?_|intro _))<;>try (conv=>whnf)
   all_goals (refine⟨?_,rfl,trivial⟩;simp [hk])
  |work hk ha hb hc hlt=>
   (repeat' ((conv=>whnf);first|with_reducible refine Br.yes (decide_eq_true (by omega)) ?_|with_reducible refine Br.no (decide_eq_false (by omega)) ?_|refine gA ?_|(refine gB ?_ ?_<;>intro h)|(refine gI ?_;intro x hx)|(refine gJ ?_;intro j x hj hx)|refine gC (dU p r hp) ?_|refine gC (Jm p r.a hp) ?_|intro _))<;>try (conv=>whnf)
   all_goals (refine⟨?_,rfl,trivial⟩;simp [hk])
  |pair hk ha hb hc hlt=>
   (repeat' ((conv=>whnf);first|with_reducible refine Br.yes (decide_eq_true (by omega)) ?_|with_reducible refine Br.no (decide_eq_false (by omega)) ?_|refine gA ?_|(refine gB ?_ ?_<;>intro h)|(refine gI ?_;intro x hx)|(refine gJ ?_;intro j x hj hx)|refine gC (dU p r hp) ?_|intro _))<;>try (conv=>whnf)
   all_goals (refine⟨?_,rfl,trivial⟩;simp [hk])
  |Ct hk ha=>
   (repeat' ((conv=>whnf);first|with_reducible refine Br.yes (decide_eq_true (by omega)) ?_|with_reducible refine Br.no (decide_eq_false (by omega)) ?_|refine gA ?_|(refine gB ?_ ?_<;>intro h)|(refine gI ?_;intro x hx)|(refine gJ ?_;intro j x hj hx)|refine gC (dU p r hp) ?_|refine gC (sH _) ?_|intro _))<;>try (conv=>whnf)
   all_goals (refine⟨?_,rfl,trivial⟩;simp [hk])
end Go.Proofs.YtjfnojijdggfhaaGreat.Abs
