/- Contracts: sets that grow. -/
import Derived.Test.YtmenphiahgkjkaaGreatDoorSet
import Derived.Test.YtmenphiahgkjkaaGreatDoorC9
import Derived.Test.YtmenphiahgkjkaaGreatDoorC26
set_option linter.all false
set_option maxRecDepth 20000
set_option maxHeartbeats 0
namespace Go.Proofs.YtmenphiahgkjkaaGreatDoor.Abs
open Go.Proofs
theorem Lx (l:List Int):(setOf l).Pairwise (· < ·):=(rT (l:=l) (o:=[]) List.Pairwise.nil).1
theorem sj {l:List Int} {x:Int}:x∈setOf l↔x∈l:=by
 have:=(rT (l:=l) (o:=[]) List.Pairwise.nil).2 x
 exact this.trans (by simp)
theorem TD {l m:List Int} (hm:m.Pairwise (· < ·)) (h:∀x,x∈m↔x∈l):setOf l=m:=zQ (Lx l) hm fun x=>sj.trans (h x).symm
theorem LA (l:List Int) (n:Int):setOf (setOf l++[n])=setOf (l++[n]):=TD (Lx _) fun x=>by simp [sj]
theorem TF (l:List Int):setOf (setOf l)=setOf l:=TD (Lx _) fun x=>Iff.rfl
theorem TG (l:List Int) (n:Int) (hl:l.length < lim):Con 149 [.d (ints l),.d (i64 n)] (.d (ints (setOf (l++[n])))):=by
 refine con Tryz.func149 rfl rfl Tryz.call149 rfl fun hwf=>?_
 unfold lim at hl
 have e:(l++[n]).map i64=l.map i64++[i64 n]:=by simp
 have hS:=pQ (l++[n])
 rw [ints,e] at hS
 (repeat' ((conv=>whnf);first|refine gA ?_|(refine gB ?_ ?_<;>intro h)|refine gP ?_|refine gC (slices_Clone_int l) ?_|refine gC (hS) ?_|intro _))<;>try (conv=>whnf)
 all_goals exact⟨rfl,rfl,trivial⟩
theorem Oz {p:Proj} {k:Nat} {a:aC} (h:p.acts[k]? =some a):aZ p k=a:=by simp [aZ,List.getD_eq_getElem?_getD,h]
theorem Ze {p:Proj} (ho:aL p=true) {k:Nat} {a:aC} (h:p.acts[k]? =some a) {m:Mode} (hm:m∈a.modes):m.use.length=p.bB.length:=by
 have:=(kE ((fG ho).act k a h) hm).2.2.1
 omega
open Go.Proofs
def AO (p:Proj) (r:Int) (i:Int):Bool:=(aZ p i.toNat).modes.any fun m=>decide (m.use.getD r.toNat 0 > 0)
def users (p:Proj) (r:Int):List Int:=if aL p=true∧fT p r=true then (upTo p.acts.length).filter (AO p r) else []
theorem yT (l:List Mode) (fc:Nat) (caps:List AV) (p:Mode→Bool) (hc:∀x∈l,Con fc ([.d x.av]++caps.map .ref) (.d (.bool (p x)))):
  Con 208 [.d (.sl (l.map Mode.av)),.fn fc caps] (.d (i64 (aQ p l 0))):=by
 refine con Tryz.func208 rfl rfl Tryz.call208 rfl fun hwf=>?_
 simp only [ARs.wf,AR.wf,AV.wf,AV.wfs,lm,lim] at hwf
 (conv=>whnf)
 refine aB [0,1,7] [] [] ?_
 (conv=>whnf)
 refine aA.go ((Nat)) (fun k=>(k≤l.length)∧(aQ p (l.drop k) k=aQ p l 0)) (fun k=>[(8,.data (i64 k))]) (fun _=>[]) (fun _=>[]) (fun k=>l.length - k) (0) ?_ ?_
 ·exact⟨by omega,rfl⟩
 rintro k ⟨hk,hi⟩
 by_cases hlt:k < l.length
 ·obtain⟨x,hx⟩:∃x,l[k]? =some x:=⟨l[k]'hlt,by simp⟩
  (repeat' ((conv=>whnf);first|with_reducible refine Idx.got hx rfl ?_|refine gA ?_|(refine gB ?_ ?_<;>intro h)|(refine gI ?_;intro x hx)|(refine gJ ?_;intro j x hj hx)|refine gV ?_|refine gC (hc x (List.mem_of_getElem? hx)) ?_|intro _))<;>try (conv=>whnf)
  ·refine⟨?_,rfl,trivial⟩
   rw [aF (l:=l) hx,aQ,if_pos h] at hi
   rw [← hi]
  ·refine nx (k+1) ?_
   rw [aF (l:=l) hx,aQ,if_neg (by simp [h])] at hi
   exact⟨by omega,hi⟩
  ·exfalso;omega
 ·(repeat' ((conv=>whnf);first|(exfalso;omega)|refine gA ?_|(refine gB ?_ ?_<;>intro h)|(refine gI ?_;intro x hx)|(refine gJ ?_;intro j x hj hx)|refine gV ?_|intro _))<;>try (conv=>whnf)
  refine⟨?_,rfl,trivial⟩
  rw [bC (by assumption)] at hi
  rw [← hi];rfl
theorem vL (l:List Mode) (fc:Nat) (caps:List AV) (p:Mode→Bool) (hc:∀x∈l,Con fc ([.d x.av]++caps.map .ref) (.d (.bool (p x)))):
  Con 184 [.d (.sl (l.map Mode.av)),.fn fc caps] (.d (.bool (l.any p))):=by
 refine con Tryz.func184 rfl rfl Tryz.call184 rfl fun hwf=>?_
 (repeat' ((conv=>whnf);first|refine gA ?_|(refine gB ?_ ?_<;>intro h)|refine gC (yT l fc caps p hc) ?_|intro _))<;>try (conv=>whnf)
 refine⟨?_,rfl,trivial⟩
 rw [← vY l 0]
theorem TH (m:Mode) (r:Int) (k:Nat) (e:r=k) (hk:k < m.use.length):Con 185 [.d m.av,.ref (i64 r)] (.d (.bool (decide (m.use.getD r.toNat 0 > 0)))):=by
 refine con Tryz.func185 rfl rfl Tryz.call185 rfl fun hwf=>?_
 obtain⟨n,hn⟩:∃n,m.use[k]? =some n:=⟨m.use[k]'hk,by simp⟩
 have e2:m.use.getD r.toNat 0=n:=by rw [e,Int.toNat_natCast,List.getD_eq_getElem?_getD,hn];rfl
 (repeat' ((conv=>whnf);first|with_reducible refine Idx.got hn e ?_|refine gA ?_|(refine gB ?_ ?_<;>intro h)|(refine gI ?_;intro x hx)|(refine gJ ?_;intro j x hj hx)|intro _))<;>try (conv=>whnf)
 all_goals exact⟨by rw [e2],rfl,trivial⟩
theorem Im (f:Int→Bool) (k:Nat):(upTo (k+1)).filter f=(upTo k).filter f++if f k=true then [(k:Int)] else []:=by
 rw [upTo,upTo,List.range_succ,List.map_append,List.filter_append]
 congr 1
 simp only [List.map_cons,List.map_nil,List.filter_cons,List.filter_nil]
 rfl
theorem yM (f:Int→Bool) (k:Nat):((upTo k).filter f).length≤k:=Nat.le_trans (List.length_filter_le _ _) (Nat.le_of_eq (KE k))
theorem LB (p:Proj) (r:Int) (hp:p.fine):Con 152 [.d p.av,.d (i64 r)] (.d (ints (users p r))):=by
 refine con Tryz.func152 rfl rfl Tryz.call152 rfl fun hwf=>?_
 cases ho:aL p with
 |false=>
  (repeat' ((conv=>whnf);first|refine gA ?_|(refine gB ?_ ?_<;>intro h)|(refine gI ?_;intro x hx)|(refine gJ ?_;intro j x hj hx)|refine gP ?_|refine gV ?_|refine gC (bn p hp) ?_|intro _))<;>try (conv=>whnf)
  all_goals (refine⟨?_,rfl,trivial⟩;rw [users,if_neg (by simp [ho])];rfl)
 |true=>
 cases hr:fT p r with
 |false=>
  (repeat' ((conv=>whnf);first|refine gA ?_|(refine gB ?_ ?_<;>intro h)|(refine gI ?_;intro x hx)|(refine gJ ?_;intro j x hj hx)|refine gP ?_|refine gV ?_|refine gC (bn p hp) ?_|refine gC (gT p r) ?_|intro _))<;>try (conv=>whnf)
  all_goals (refine⟨?_,rfl,trivial⟩;rw [users,if_neg (by simp [hr])];rfl)
 |true=>
  rw [users,if_pos ⟨ho,hr⟩]
  have hna:=(fG ho).KS
  obtain⟨ρ,re,e1,e2,e3⟩:=GA hr
  have hρ:=(List.getElem?_eq_some_iff.1 e2).1
  (repeat' ((conv=>whnf);first|refine gA ?_|(refine gB ?_ ?_<;>intro h)|(refine gI ?_;intro x hx)|(refine gJ ?_;intro j x hj hx)|refine gP ?_|refine gV ?_|refine gC (bn p hp) ?_|refine gC (gT p r) ?_|intro _))<;>try (conv=>whnf)
  refine aB [3,19,20] [3] [17] ?_
  (conv=>whnf)
  refine aA.go ((Nat)) (fun k=>(k≤p.acts.length)) (fun k=>[(21,.data (i64 k)),(5,.own 17 0)]) (fun _=>[]) (fun k=>[(17,3,((upTo k).filter (AO p r)).map i64,0)]) (fun k=>p.acts.length - k) (0) ?_ ?_
  ·exact Nat.zero_le _
  rintro k hk
  have hfl:=yM (AO p r) k
  by_cases hlt:k < p.acts.length
  rotate_left
  ·(repeat' ((conv=>whnf);first|(exfalso;omega)|refine gA ?_|(refine gB ?_ ?_<;>intro h)|(refine gI ?_;intro x hx)|(refine gJ ?_;intro j x hj hx)|refine gP ?_|refine gV ?_|intro _))<;>try (conv=>whnf)
   refine⟨?_,rfl,trivial⟩
   rw [show p.acts.length=k by omega]
  obtain⟨a,ha⟩:∃a,p.acts[k]? =some a:=⟨p.acts[k]'hlt,by simp⟩
  have hu:AO p r k=a.modes.any fun m=>decide (m.use.getD r.toNat 0 > 0):=by rw [AO,Int.toNat_natCast,Oz ha]
  (repeat' ((conv=>whnf);first|with_reducible refine Idx.got ha rfl ?_|refine gA ?_|(refine gB ?_ ?_<;>intro h)|(refine gI ?_;intro x hx)|(refine gJ ?_;intro j x hj hx)|refine gP ?_|refine gV ?_|refine gC (vL a.modes 185 [i64 r] (fun m=>decide (m.use.getD r.toNat 0 > 0)) (fun m hm=>TH m r ρ e1 (by rw [Ze ho ha hm];exact hρ))) ?_|intro _))<;>try (conv=>whnf)
  ·refine nw (k+1) ?_ ?_
   ·(repeat' ((conv=>whnf)<;>(first|exact trivial|exact rfl|with_reducible refine And.intro ?_ ?_)))<;>((conv=>whnf)<;>((rw [Im,if_pos (by rw [hu];assumption)];simp)))
   exact (by omega:k+1≤p.acts.length)
  ·refine nw (k+1) ?_ ?_
   ·(repeat' ((conv=>whnf)<;>(first|exact trivial|exact rfl|with_reducible refine And.intro ?_ ?_)))<;>((conv=>whnf)<;>((rw [Im,if_neg (by rw [hu];simp only [Bool.not_eq_true];assumption)];simp)))
   exact (by omega:k+1≤p.acts.length)
  ·exact trivial
def jA (p:Proj) (r:Rul):List Int:=
 if jd p r=true then
  if r.kind=1 then setOf [(iF p r.a).src,(iF p r.a).dst]
  else if r.kind=2 then [r.a] else if r.kind=5 then [r.b,r.c] else if r.kind=6 then aO p.acts.length else users p r.a
 else []
theorem Bd (p:Proj) (r:Rul) (hp:p.fine):Con 122 [.d p.av,.d r.av] (.d (ints (jA p r))):=by
 refine con Tryz.func122 rfl rfl Tryz.call122 rfl fun hwf=>?_
 cases ho:jd p r with
 |false=>
  (repeat' ((conv=>whnf);first|refine gA ?_|(refine gB ?_ ?_<;>intro h)|(refine gI ?_;intro x hx)|(refine gJ ?_;intro j x hj hx)|refine gC (eH p r hp) ?_|intro _))<;>try (conv=>whnf)
  refine⟨?_,rfl,trivial⟩;rw [jA,if_neg (by rw [ho];exact Bool.false_ne_true)];rfl
 |true=>
  rw [jA,if_pos ho]
  cases KY ho with
  |link hk k l e1 hl=>
   have e:iF p r.a=l:=by simp [iF,e1,List.getD_eq_getElem?_getD,hl]
   (repeat' ((conv=>whnf);first|with_reducible refine Br.yes (decide_eq_true (by omega)) ?_|with_reducible refine Br.no (decide_eq_false (by omega)) ?_|with_reducible refine Idx.got hl e1 ?_|refine gA ?_|(refine gB ?_ ?_<;>intro h)|(refine gI ?_;intro x hx)|(refine gJ ?_;intro j x hj hx)|refine gC (eH p r hp) ?_|refine gC (pQ [l.src,l.dst]) ?_|intro _))<;>try (conv=>whnf)
   all_goals (refine⟨?_,rfl,trivial⟩;rw [if_pos hk,e])
  |fin hk ha=>
   (repeat' ((conv=>whnf);first|with_reducible refine Br.yes (decide_eq_true (by omega)) ?_|with_reducible refine Br.no (decide_eq_false (by omega)) ?_|refine gA ?_|(refine gB ?_ ?_<;>intro h)|(refine gI ?_;intro x hx)|(refine gJ ?_;intro j x hj hx)|refine gC (eH p r hp) ?_|intro _))<;>try (conv=>whnf)
   all_goals (refine⟨?_,rfl,trivial⟩;simp [hk])
  |time hk ha hb=>
   (repeat' ((conv=>whnf);first|with_reducible refine Br.yes (decide_eq_true (by omega)) ?_|with_reducible refine Br.no (decide_eq_false (by omega)) ?_|refine gA ?_|(refine gB ?_ ?_<;>intro h)|(refine gI ?_;intro x hx)|(refine gJ ?_;intro j x hj hx)|refine gC (eH p r hp) ?_|refine gC (LB p r.a hp) ?_|intro _))<;>try (conv=>whnf)
   all_goals (refine⟨?_,rfl,trivial⟩;simp [hk])
  |work hk ha hb hc hlt=>
   (repeat' ((conv=>whnf);first|with_reducible refine Br.yes (decide_eq_true (by omega)) ?_|with_reducible refine Br.no (decide_eq_false (by omega)) ?_|refine gA ?_|(refine gB ?_ ?_<;>intro h)|(refine gI ?_;intro x hx)|(refine gJ ?_;intro j x hj hx)|refine gC (eH p r hp) ?_|refine gC (LB p r.a hp) ?_|intro _))<;>try (conv=>whnf)
   all_goals (refine⟨?_,rfl,trivial⟩;simp [hk])
  |pair hk ha hb hc hlt=>
   (repeat' ((conv=>whnf);first|with_reducible refine Br.yes (decide_eq_true (by omega)) ?_|with_reducible refine Br.no (decide_eq_false (by omega)) ?_|refine gA ?_|(refine gB ?_ ?_<;>intro h)|(refine gI ?_;intro x hx)|(refine gJ ?_;intro j x hj hx)|refine gC (eH p r hp) ?_|intro _))<;>try (conv=>whnf)
   all_goals (refine⟨?_,rfl,trivial⟩;simp [hk])
  |Ie hk ha=>
   (repeat' ((conv=>whnf);first|with_reducible refine Br.yes (decide_eq_true (by omega)) ?_|with_reducible refine Br.no (decide_eq_false (by omega)) ?_|refine gA ?_|(refine gB ?_ ?_<;>intro h)|(refine gI ?_;intro x hx)|(refine gJ ?_;intro j x hj hx)|refine gC (eH p r hp) ?_|refine gC (vI _) ?_|intro _))<;>try (conv=>whnf)
   all_goals (refine⟨?_,rfl,trivial⟩;simp [hk])
end Go.Proofs.YtmenphiahgkjkaaGreatDoor.Abs
