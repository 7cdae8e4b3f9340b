/- Contracts: sets that grow. -/
import Derived.Test.YtglikcnmgnlejaaGreatSet
import Derived.Test.YtglikcnmgnlejaaGreatC9
import Derived.Test.YtglikcnmgnlejaaGreatC26
set_option linter.all false
set_option maxRecDepth 20000
set_option maxHeartbeats 0
namespace Go.Proofs.YtglikcnmgnlejaaGreat.Abs
open Go.Proofs
theorem LW (l:List Int):(setOf l).Pairwise (· < ·):=(sH (l:=l) (o:=[]) List.Pairwise.nil).1
theorem GH {l:List Int} {x:Int}:x∈setOf l↔x∈l:=by
 have:=(sH (l:=l) (o:=[]) List.Pairwise.nil).2 x
 exact this.trans (by simp)
theorem LX {l m:List Int} (hm:m.Pairwise (· < ·)) (h:∀x,x∈m↔x∈l):setOf l=m:=Ab (LW l) hm fun x=>GH.trans (h x).symm
theorem yj (l:List Int) (n:Int):setOf (setOf l++[n])=setOf (l++[n]):=LX (LW _) fun x=>by simp [GH]
theorem Ub (l:List Int):setOf (setOf l)=setOf l:=LX (LW _) fun x=>Iff.rfl
theorem Yq (l:List Int) (n:Int):lH (setOf l) n=setOf (l++[n]):=by rw [setOf,setOf,List.foldl_append];rfl
theorem Uc (l:List Int) (n:Int) (hl:l.length < lim):Con 130 [.d (ints l),.d (i64 n)] (.d (ints (setOf (l++[n])))):=by
 refine con Tryz.func130 rfl rfl Tryz.call130 rfl fun hwf=>?_
 unfold lim at hl
 have e:(l++[n]).map i64=l.map i64++[i64 n]:=by simp
 have hS:=qA (l++[n])
 rw [ints,e] at hS
 (repeat' ((conv=>whnf);first|refine gA ?_|(refine gB ?_ ?_<;>intro h)|refine gP ?_|refine gC (slices_Clone_int l) ?_|refine gC (hS) ?_|intro _))<;>try (conv=>whnf)
 all_goals exact⟨rfl,rfl,trivial⟩
theorem Ae (l:List Int) (n:Int) (hl:l.length < lim):Con 113 [.d (ints l),.d (i64 n)] (.d (ints (setOf (l++[n])))):=by
 refine con Tryz.func113 rfl rfl Tryz.call113 rfl fun hwf=>?_
 have h1:=fV l
 rw [← Yq]
 (repeat' ((conv=>whnf);first|refine gA ?_|(refine gB ?_ ?_<;>intro h)|refine gC (qw l) ?_|refine gC (Iy (setOf l) n (by omega)) ?_|intro _))<;>try (conv=>whnf)
 exact⟨rfl,rfl,trivial⟩
theorem Ph {p:Proj} {k:Nat} {a:aC} (h:p.acts[k]? =some a):nI p k=a:=by simp [nI,List.getD_eq_getElem?_getD,h]
theorem Ud {p:Proj} (ho:bE p=true) {k:Nat} {a:aC} (h:p.acts[k]? =some a) {m:Mode} (hm:m∈a.modes):m.use.length=p.aU.length:=by
 have:=(qy ((eu ho).act k a h) hm).2.2.1
 omega
theorem Yr {p:Proj} (ho:bE p=true) {k:Nat} {a:aC} (h:p.acts[k]? =some a):a.modes.length≤3:=by
 have:=(eu ho).act k a h
 simp only [dJ,Bool.and_eq_true,within_iff] at this
 omega
end Go.Proofs.YtglikcnmgnlejaaGreat.Abs
namespace Go.Proofs.YtglikcnmgnlejaaGreat.Abs
open Go.Proofs
def nR (p:Proj) (r:Int) (i:Int):Bool:=(nI p i.toNat).modes.any fun m=>decide (m.use.getD r.toNat 0 > 0)
def users (p:Proj) (r:Int):List Int:=if bE p=true∧iB p r=true then (upTo p.acts.length).filter (nR p r) else []
theorem ze (l:List Mode) (fc:Nat) (caps:List AV) (p:Mode→Bool) (hc:∀x∈l,Con fc ([.d x.av]++caps.map .ref) (.d (.bool (p x)))):
  Con 440 [.d (.sl (l.map Mode.av)),.fn fc caps] (.d (i64 (bf p l 0))):=by
 refine con Tryz.func440 rfl rfl Tryz.call440 rfl fun hwf=>?_
 simp only [ARs.wf,AR.wf,AV.wf,AV.wfs,lm,lim] at hwf
 (conv=>whnf)
 refine au [0,1,7] [] [] ?_
 (conv=>whnf)
 refine ak.go ((Nat)) (fun k=>(k≤l.length)∧(bf p (l.drop k) k=bf p l 0)) (fun k=>[(8,.data (i64 k))]) (fun _=>[]) (fun _=>[]) (fun k=>l.length - k) (0) ?_ ?_
 ·exact⟨by omega,rfl⟩
 rintro k ⟨hk,hi⟩
 by_cases hlt:k < l.length
 ·obtain⟨x,hx⟩:∃x,l[k]? =some x:=⟨l[k]'hlt,by simp⟩
  (repeat' ((conv=>whnf);first|with_reducible refine Idx.got hx rfl ?_|refine gA ?_|(refine gB ?_ ?_<;>intro h)|(refine gI ?_;intro x hx)|(refine gJ ?_;intro j x hj hx)|refine gV ?_|refine gC (hc x (List.mem_of_getElem? hx)) ?_|intro _))<;>try (conv=>whnf)
  ·refine⟨?_,rfl,trivial⟩
   rw [ay (l:=l) hx,bf,if_pos h] at hi
   rw [← hi]
  ·refine nx (k+1) ?_
   rw [ay (l:=l) hx,bf,if_neg (by simp [h])] at hi
   exact⟨by omega,hi⟩
  ·exfalso;omega
 ·(repeat' ((conv=>whnf);first|(exfalso;omega)|refine gA ?_|(refine gB ?_ ?_<;>intro h)|(refine gI ?_;intro x hx)|(refine gJ ?_;intro j x hj hx)|refine gV ?_|intro _))<;>try (conv=>whnf)
  refine⟨?_,rfl,trivial⟩
  rw [aG (by assumption)] at hi
  rw [← hi];rfl
theorem vP (l:List Mode) (fc:Nat) (caps:List AV) (p:Mode→Bool) (hc:∀x∈l,Con fc ([.d x.av]++caps.map .ref) (.d (.bool (p x)))):
  Con 406 [.d (.sl (l.map Mode.av)),.fn fc caps] (.d (.bool (l.any p))):=by
 refine con Tryz.func406 rfl rfl Tryz.call406 rfl fun hwf=>?_
 (repeat' ((conv=>whnf);first|refine gA ?_|(refine gB ?_ ?_<;>intro h)|refine gC (ze l fc caps p hc) ?_|intro _))<;>try (conv=>whnf)
 refine⟨?_,rfl,trivial⟩
 rw [← zF l 0]
theorem Ue (m:Mode) (r:Int) (k:Nat) (e:r=k) (hk:k < m.use.length):Con 407 [.d m.av,.ref (i64 r)] (.d (.bool (decide (m.use.getD r.toNat 0 > 0)))):=by
 refine con Tryz.func407 rfl rfl Tryz.call407 rfl fun hwf=>?_
 obtain⟨n,hn⟩:∃n,m.use[k]? =some n:=⟨m.use[k]'hk,by simp⟩
 have e2:m.use.getD r.toNat 0=n:=by rw [e,Int.toNat_natCast,List.getD_eq_getElem?_getD,hn];rfl
 (repeat' ((conv=>whnf);first|with_reducible refine Idx.got hn e ?_|refine gA ?_|(refine gB ?_ ?_<;>intro h)|(refine gI ?_;intro x hx)|(refine gJ ?_;intro j x hj hx)|intro _))<;>try (conv=>whnf)
 all_goals exact⟨by rw [e2],rfl,trivial⟩
theorem Af (f:Int→Bool) (k:Nat):(upTo (k+1)).filter f=(upTo k).filter f++if f k=true then [(k:Int)] else []:=by
 rw [upTo,upTo,List.range_succ,List.map_append,List.filter_append]
 congr 1
 simp only [List.map_cons,List.map_nil,List.filter_cons,List.filter_nil]
 rfl
theorem rT (f:Int→Bool) (k:Nat):((upTo k).filter f).length≤k:=Nat.le_trans (List.length_filter_le _ _) (Nat.le_of_eq (KH k))
theorem LY (p:Proj) (r:Int) (hp:p.fine):Con 365 [.d p.av,.d (i64 r)] (.d (ints (users p r))):=by
 refine con Tryz.func365 rfl rfl Tryz.call365 rfl fun hwf=>?_
 cases ho:bE p with
 |false=>
  (repeat' ((conv=>whnf);first|refine gA ?_|(refine gB ?_ ?_<;>intro h)|(refine gI ?_;intro x hx)|(refine gJ ?_;intro j x hj hx)|refine gP ?_|refine gV ?_|refine gC (dA p hp) ?_|intro _))<;>try (conv=>whnf)
  all_goals (refine⟨?_,rfl,trivial⟩;rw [users,if_neg (by simp [ho])];rfl)
 |true=>
 cases hr:iB p r with
 |false=>
  (repeat' ((conv=>whnf);first|refine gA ?_|(refine gB ?_ ?_<;>intro h)|(refine gI ?_;intro x hx)|(refine gJ ?_;intro j x hj hx)|refine gP ?_|refine gV ?_|refine gC (dA p hp) ?_|refine gC (gY p r) ?_|intro _))<;>try (conv=>whnf)
  all_goals (refine⟨?_,rfl,trivial⟩;rw [users,if_neg (by simp [hr])];rfl)
 |true=>
  rw [users,if_pos ⟨ho,hr⟩]
  have hna:=(eu ho).Jj
  obtain⟨ρ,re,e1,e2,e3⟩:=sN hr
  have hρ:=(List.getElem?_eq_some_iff.1 e2).1
  (repeat' ((conv=>whnf);first|refine gA ?_|(refine gB ?_ ?_<;>intro h)|(refine gI ?_;intro x hx)|(refine gJ ?_;intro j x hj hx)|refine gP ?_|refine gV ?_|refine gC (dA p hp) ?_|refine gC (gY p r) ?_|intro _))<;>try (conv=>whnf)
  refine au [3,19,20] [3] [17] ?_
  (conv=>whnf)
  refine ak.go ((Nat)) (fun k=>(k≤p.acts.length)) (fun k=>[(21,.data (i64 k)),(5,.own 17 0)]) (fun _=>[]) (fun k=>[(17,3,((upTo k).filter (nR p r)).map i64,0)]) (fun k=>p.acts.length - k) (0) ?_ ?_
  ·exact Nat.zero_le _
  rintro k hk
  have hfl:=rT (nR p r) k
  by_cases hlt:k < p.acts.length
  rotate_left
  ·(repeat' ((conv=>whnf);first|(exfalso;omega)|refine gA ?_|(refine gB ?_ ?_<;>intro h)|(refine gI ?_;intro x hx)|(refine gJ ?_;intro j x hj hx)|refine gP ?_|refine gV ?_|intro _))<;>try (conv=>whnf)
   refine⟨?_,rfl,trivial⟩
   rw [show p.acts.length=k by omega]
  obtain⟨a,ha⟩:∃a,p.acts[k]? =some a:=⟨p.acts[k]'hlt,by simp⟩
  have hu:nR p r k=a.modes.any fun m=>decide (m.use.getD r.toNat 0 > 0):=by rw [nR,Int.toNat_natCast,Ph ha]
  (repeat' ((conv=>whnf);first|with_reducible refine Idx.got ha rfl ?_|refine gA ?_|(refine gB ?_ ?_<;>intro h)|(refine gI ?_;intro x hx)|(refine gJ ?_;intro j x hj hx)|refine gP ?_|refine gV ?_|refine gC (vP a.modes 407 [i64 r] (fun m=>decide (m.use.getD r.toNat 0 > 0)) (fun m hm=>Ue m r ρ e1 (by rw [Ud ho ha hm];exact hρ))) ?_|intro _))<;>try (conv=>whnf)
  ·refine nw (k+1) ?_ ?_
   ·(repeat' ((conv=>whnf)<;>(first|exact trivial|exact rfl|with_reducible refine And.intro ?_ ?_)))<;>((conv=>whnf)<;>((rw [Af,if_pos (by rw [hu];assumption)];simp)))
   exact (by omega:k+1≤p.acts.length)
  ·refine nw (k+1) ?_ ?_
   ·(repeat' ((conv=>whnf)<;>(first|exact trivial|exact rfl|with_reducible refine And.intro ?_ ?_)))<;>((conv=>whnf)<;>((rw [Af,if_neg (by rw [hu];simp only [Bool.not_eq_true];assumption)];simp)))
   exact (by omega:k+1≤p.acts.length)
  ·exact trivial
def vQ (b:Bool) (k:Int):List Int:=if b=true then [k] else []
theorem abg (k:Nat) (f:Int→Bool):((upTo k).filter f).Pairwise (· < ·):=by
 refine List.Pairwise.filter _ ?_
 rw [upTo,List.pairwise_map]
 exact List.pairwise_lt_range.imp (fun h=>Int.ofNat_lt.2 h)
theorem aae {k:Nat} {f:Int→Bool} {b:Bool}:setOf ((upTo k).filter f++vQ b k++[(k:Int)])=(upTo k).filter f++vQ true k:=by
 have h1:=abg k f
 refine LX (List.pairwise_append.2 ⟨h1,by simp [vQ],fun x hx y hy=>?_⟩) fun x=>?_
 ·simp only [vQ,if_true,List.mem_singleton] at hy
  subst hy
  have:=(List.mem_filter.1 hx).1
  simp only [upTo,List.mem_map,List.mem_range] at this
  obtain⟨j,hj,rfl⟩:=this
  exact Int.ofNat_lt.2 hj
 ·cases b<;>simp [vQ,or_assoc]
theorem aaf {α:Type} {f:α→Bool} {l:List α} {j:Nat} {x:α} (h:l[j]? =some x):(l.take (j+1)).any f=((l.take j).any f||f x):=by
 obtain⟨hj,rfl⟩:=List.getElem?_eq_some_iff.1 h
 rw [List.take_succ_eq_append_getElem hj,List.any_append];simp
theorem LZ (p:Proj) (r:Int) (hp:p.fine):Con 350 [.d p.av,.d (i64 r)] (.d (ints (users p r))):=by
 refine con Tryz.func350 rfl rfl Tryz.call350 rfl fun hwf=>?_
 simp only [ARs.wf,AR.wf,AV.wf,AV.wfs,lm,lim] at hwf
 cases ho:bE p with
 |false=>
  (repeat' ((conv=>whnf);first|refine gA ?_|(refine gN ?_ ?_<;>intro h hw)|(refine gB ?_ ?_<;>intro h)|(refine gI ?_;intro x hx)|(refine gJ ?_;intro j x hj hx)|refine gV ?_|refine gC (dO p hp) ?_|intro _))<;>try (conv=>whnf)
  all_goals (refine⟨?_,rfl,trivial⟩;rw [users,if_neg (by simp [ho])];rfl)
 |true=>
 cases hr:iB p r with
 |false=>
  have hr':within r 0 (((p.aU.map aL.av).length:Int) - 1)=false:=by rw [List.length_map];exact hr
  (repeat' ((conv=>whnf);first|refine gA ?_|(refine gN ?_ ?_<;>intro h hw)|(refine gB ?_ ?_<;>intro h)|(refine gI ?_;intro x hx)|(refine gJ ?_;intro j x hj hx)|refine gV ?_|refine gC (dO p hp) ?_|refine gC (cB r 0 (((p.aU.map aL.av).length:Int) - 1)) ?_|intro _))<;>try (conv=>whnf)
  all_goals (refine⟨?_,rfl,trivial⟩;rw [users,if_neg (by simp [hr])];rfl)
 |true=>
  rw [users,if_pos ⟨ho,hr⟩]
  have hna:=(eu ho).Jj
  have hr':within r 0 (((p.aU.map aL.av).length:Int) - 1)=true:=by rw [List.length_map];exact hr
  obtain⟨ρ,re,e1,e2,e3⟩:=sN hr
  have hρ:=(List.getElem?_eq_some_iff.1 e2).1
  (repeat' ((conv=>whnf);first|refine gA ?_|(refine gN ?_ ?_<;>intro h hw)|(refine gB ?_ ?_<;>intro h)|(refine gI ?_;intro x hx)|(refine gJ ?_;intro j x hj hx)|refine gV ?_|refine gC (dO p hp) ?_|refine gC (cB r 0 (((p.aU.map aL.av).length:Int) - 1)) ?_|intro _))<;>try (conv=>whnf)
  refine au [1,24,25] [] [] ?_
  (conv=>whnf)
  refine ak.go ((Nat)) (fun k=>(k≤p.acts.length)) (fun k=>[(26,.data (i64 k)),(5,.data (ints ((upTo k).filter (nR p r))))]) (fun _=>[]) (fun _=>[]) (fun k=>p.acts.length - k) (0) ?_ ?_
  ·exact Nat.zero_le _
  rintro k hk
  have hfl:=rT (nR p r) k
  by_cases hlt:k < p.acts.length
  rotate_left
  ·(repeat' ((conv=>whnf);first|(exfalso;omega)|refine gA ?_|(refine gN ?_ ?_<;>intro h hw)|(refine gB ?_ ?_<;>intro h)|(refine gI ?_;intro x hx)|(refine gJ ?_;intro j x hj hx)|refine gV ?_|intro _))<;>try (conv=>whnf)
   refine⟨?_,rfl,trivial⟩
   rw [show p.acts.length=k by omega]
  obtain⟨a,ha⟩:∃a,p.acts[k]? =some a:=⟨p.acts[k]'hlt,by simp⟩
  have hu:nR p r k=a.modes.any fun m=>decide (m.use.getD r.toNat 0 > 0):=by rw [nR,Int.toNat_natCast,Ph ha]
  (repeat' ((conv=>whnf);first|with_reducible refine Idx.got ha rfl ?_|refine gA ?_|(refine gN ?_ ?_<;>intro h hw)|(refine gB ?_ ?_<;>intro h)|(refine gI ?_;intro x hx)|(refine gJ ?_;intro j x hj hx)|refine gV ?_|intro _))<;>try (conv=>whnf)
  rotate_left
  ·exact trivial
  have hm3:=Yr ho ha
  refine au [1,6,24,25,26,32,33] [] [] ?_
  (conv=>whnf)
  refine ak.mk ((Nat)) (fun j=>(j≤a.modes.length)) (fun j=>[(34,.data (i64 j)),(5,.data (ints ((upTo k).filter (nR p r)++vQ ((a.modes.take j).any fun m=>decide (m.use.getD r.toNat 0 > 0)) k)))]) (fun _=>[]) (fun _=>[]) (fun j=>a.modes.length - j) (0) ?_ ?_ ?_
  rotate_left
  ·(repeat' ((conv=>whnf)<;>(first|exact trivial|exact rfl|with_reducible refine And.intro ?_ ?_)))<;>((conv=>whnf)<;>(simp [vQ]))
  rotate_left
  ·exact Nat.zero_le _
  rintro j hj
  by_cases hjl:j < a.modes.length
  ·obtain⟨m,hm⟩:∃m,a.modes[j]? =some m:=⟨a.modes[j]'hjl,by simp⟩
   have hml:=Ud ho ha (List.mem_of_getElem? hm)
   obtain⟨n,hn⟩:∃n,m.use[ρ]? =some n:=⟨m.use[ρ]'(by omega),by simp⟩
   have e2':m.use.getD r.toNat 0=n:=by rw [e1,Int.toNat_natCast,List.getD_eq_getElem?_getD,hn];rfl
   have hat:=aaf (f:=fun m:Mode=>decide (m.use.getD r.toNat 0 > 0)) hm
   simp only [e2'] at hat
   have hs1:((upTo k).filter (nR p r)++vQ ((a.modes.take j).any fun m=>decide (m.use.getD r.toNat 0 > 0)) k).length < lim:=by
    rw [List.length_append]
    have:∀b,(vQ b k).length≤1:=fun b=>by cases b<;>simp [vQ]
    have:=this ((a.modes.take j).any fun m=>decide (m.use.getD r.toNat 0 > 0))
    unfold lim;omega
   (repeat' ((conv=>whnf);first|with_reducible refine Idx.got hm rfl ?_|with_reducible refine Idx.got hn e1 ?_|refine gA ?_|(refine gN ?_ ?_<;>intro h hw)|(refine gB ?_ ?_<;>intro h)|(refine gI ?_;intro x hx)|(refine gJ ?_;intro j x hj hx)|refine gV ?_|refine gC (Ae _ (k:Int) hs1) ?_|intro _))<;>try (conv=>whnf)
   ·refine nw (j+1) ?_ ?_
    ·(repeat' ((conv=>whnf)<;>(first|exact trivial|exact rfl|with_reducible refine And.intro ?_ ?_)))<;>((conv=>whnf)<;>((rw [hat,decide_eq_true (by assumption),Bool.or_true,aae])))
    exact (by omega:j+1≤a.modes.length)
   ·refine nw (j+1) ?_ ?_
    ·(repeat' ((conv=>whnf)<;>(first|exact trivial|exact rfl|with_reducible refine And.intro ?_ ?_)))<;>((conv=>whnf)<;>((rw [hat,decide_eq_false (by assumption),Bool.or_false])))
    exact (by omega:j+1≤a.modes.length)
   ·exfalso;omega
  ·(repeat' ((conv=>whnf);first|(exfalso;omega)|refine gA ?_|(refine gN ?_ ?_<;>intro h hw)|(refine gB ?_ ?_<;>intro h)|(refine gI ?_;intro x hx)|(refine gJ ?_;intro j x hj hx)|refine gV ?_|intro _))<;>try (conv=>whnf)
   refine nw (k+1) ?_ ?_
   ·(repeat' ((conv=>whnf)<;>(first|exact trivial|exact rfl|with_reducible refine And.intro ?_ ?_)))<;>((conv=>whnf)<;>((rw [Af,hu,List.take_of_length_le (by omega)];rfl)))
   exact (by omega:k+1≤p.acts.length)
def dR (p:Proj) (r:Rul):List Int:=
 if iC p r=true then
  if r.kind=1 then setOf [(qm p r.a).src,(qm p r.a).dst]
  else if r.kind=2 then [r.a] else if r.kind=5 then [r.b,r.c] else if r.kind=6 then aP p.acts.length else users p r.a
 else []
theorem Bt (p:Proj) (r:Rul) (hp:p.fine):Con 292 [.d p.av,.d r.av] (.d (ints (dR p r))):=by
 refine con Tryz.func292 rfl rfl Tryz.call292 rfl fun hwf=>?_
 cases ho:iC p r with
 |false=>
  (repeat' ((conv=>whnf);first|refine gA ?_|(refine gB ?_ ?_<;>intro h)|(refine gI ?_;intro x hx)|(refine gJ ?_;intro j x hj hx)|refine gC (eH p r hp) ?_|intro _))<;>try (conv=>whnf)
  refine⟨?_,rfl,trivial⟩;rw [dR,if_neg (by rw [ho];exact Bool.false_ne_true)];rfl
 |true=>
  rw [dR,if_pos ho]
  cases zU ho with
  |link hk k l e1 hl=>
   have e:qm p r.a=l:=by simp [qm,e1,List.getD_eq_getElem?_getD,hl]
   (repeat' ((conv=>whnf);first|with_reducible refine Br.yes (decide_eq_true (by omega)) ?_|with_reducible refine Br.no (decide_eq_false (by omega)) ?_|with_reducible refine Idx.got hl e1 ?_|refine gA ?_|(refine gB ?_ ?_<;>intro h)|(refine gI ?_;intro x hx)|(refine gJ ?_;intro j x hj hx)|refine gC (eH p r hp) ?_|refine gC (qA [l.src,l.dst]) ?_|intro _))<;>try (conv=>whnf)
   all_goals (refine⟨?_,rfl,trivial⟩;rw [if_pos hk,e])
  |fin hk ha=>
   (repeat' ((conv=>whnf);first|with_reducible refine Br.yes (decide_eq_true (by omega)) ?_|with_reducible refine Br.no (decide_eq_false (by omega)) ?_|refine gA ?_|(refine gB ?_ ?_<;>intro h)|(refine gI ?_;intro x hx)|(refine gJ ?_;intro j x hj hx)|refine gC (eH p r hp) ?_|intro _))<;>try (conv=>whnf)
   all_goals (refine⟨?_,rfl,trivial⟩;simp [hk])
  |time hk ha hb=>
   (repeat' ((conv=>whnf);first|with_reducible refine Br.yes (decide_eq_true (by omega)) ?_|with_reducible refine Br.no (decide_eq_false (by omega)) ?_|refine gA ?_|(refine gB ?_ ?_<;>intro h)|(refine gI ?_;intro x hx)|(refine gJ ?_;intro j x hj hx)|refine gC (eH p r hp) ?_|refine gC (LY p r.a hp) ?_|intro _))<;>try (conv=>whnf)
   all_goals (refine⟨?_,rfl,trivial⟩;simp [hk])
  |work hk ha hb hc hlt=>
   (repeat' ((conv=>whnf);first|with_reducible refine Br.yes (decide_eq_true (by omega)) ?_|with_reducible refine Br.no (decide_eq_false (by omega)) ?_|refine gA ?_|(refine gB ?_ ?_<;>intro h)|(refine gI ?_;intro x hx)|(refine gJ ?_;intro j x hj hx)|refine gC (eH p r hp) ?_|refine gC (LY p r.a hp) ?_|intro _))<;>try (conv=>whnf)
   all_goals (refine⟨?_,rfl,trivial⟩;simp [hk])
  |pair hk ha hb hc hlt=>
   (repeat' ((conv=>whnf);first|with_reducible refine Br.yes (decide_eq_true (by omega)) ?_|with_reducible refine Br.no (decide_eq_false (by omega)) ?_|refine gA ?_|(refine gB ?_ ?_<;>intro h)|(refine gI ?_;intro x hx)|(refine gJ ?_;intro j x hj hx)|refine gC (eH p r hp) ?_|intro _))<;>try (conv=>whnf)
   all_goals (refine⟨?_,rfl,trivial⟩;simp [hk])
  |KT hk ha=>
   (repeat' ((conv=>whnf);first|with_reducible refine Br.yes (decide_eq_true (by omega)) ?_|with_reducible refine Br.no (decide_eq_false (by omega)) ?_|refine gA ?_|(refine gB ?_ ?_<;>intro h)|(refine gI ?_;intro x hx)|(refine gJ ?_;intro j x hj hx)|refine gC (eH p r hp) ?_|refine gC (BR _) ?_|intro _))<;>try (conv=>whnf)
   all_goals (refine⟨?_,rfl,trivial⟩;simp [hk])
theorem Bu (p:Proj) (r:Rul) (hp:p.fine):Con 270 [.d p.av,.d r.av] (.d (ints (dR p r))):=by
 refine con Tryz.func270 rfl rfl Tryz.call270 rfl fun hwf=>?_
 cases ho:iC p r with
 |false=>
  (repeat' ((conv=>whnf);first|refine gA ?_|(refine gB ?_ ?_<;>intro h)|(refine gI ?_;intro x hx)|(refine gJ ?_;intro j x hj hx)|refine gC (jK p r hp) ?_|intro _))<;>try (conv=>whnf)
  refine⟨?_,rfl,trivial⟩;rw [dR,if_neg (by rw [ho];exact Bool.false_ne_true)];rfl
 |true=>
  rw [dR,if_pos ho]
  cases zU ho with
  |link hk k l e1 hl=>
   have e:qm p r.a=l:=by simp [qm,e1,List.getD_eq_getElem?_getD,hl]
   (repeat' ((conv=>whnf);first|with_reducible refine Br.yes (decide_eq_true (by omega)) ?_|with_reducible refine Br.no (decide_eq_false (by omega)) ?_|with_reducible refine Idx.got hl e1 ?_|refine gA ?_|(refine gB ?_ ?_<;>intro h)|(refine gI ?_;intro x hx)|(refine gJ ?_;intro j x hj hx)|refine gC (jK p r hp) ?_|refine gC (qw [l.src,l.dst]) ?_|intro _))<;>try (conv=>whnf)
   all_goals (refine⟨?_,rfl,trivial⟩;rw [if_pos hk,e])
  |fin hk ha=>
   (repeat' ((conv=>whnf);first|with_reducible refine Br.yes (decide_eq_true (by omega)) ?_|with_reducible refine Br.no (decide_eq_false (by omega)) ?_|refine gA ?_|(refine gB ?_ ?_<;>intro h)|(refine gI ?_;intro x hx)|(refine gJ ?_;intro j x hj hx)|refine gC (jK p r hp) ?_|intro _))<;>try (conv=>whnf)
   all_goals (refine⟨?_,rfl,trivial⟩;simp [hk])
  |time hk ha hb=>
   (repeat' ((conv=>whnf);first|with_reducible refine Br.yes (decide_eq_true (by omega)) ?_|with_reducible refine Br.no (decide_eq_false (by omega)) ?_|refine gA ?_|(refine gB ?_ ?_<;>intro h)|(refine gI ?_;intro x hx)|(refine gJ ?_;intro j x hj hx)|refine gC (jK p r hp) ?_|refine gC (LZ p r.a hp) ?_|intro _))<;>try (conv=>whnf)
   all_goals (refine⟨?_,rfl,trivial⟩;simp [hk])
  |work hk ha hb hc hlt=>
   (repeat' ((conv=>whnf);first|with_reducible refine Br.yes (decide_eq_true (by omega)) ?_|with_reducible refine Br.no (decide_eq_false (by omega)) ?_|refine gA ?_|(refine gB ?_ ?_<;>intro h)|(refine gI ?_;intro x hx)|(refine gJ ?_;intro j x hj hx)|refine gC (jK p r hp) ?_|refine gC (LZ p r.a hp) ?_|intro _))<;>try (conv=>whnf)
   all_goals (refine⟨?_,rfl,trivial⟩;simp [hk])
  |pair hk ha hb hc hlt=>
   (repeat' ((conv=>whnf);first|with_reducible refine Br.yes (decide_eq_true (by omega)) ?_|with_reducible refine Br.no (decide_eq_false (by omega)) ?_|refine gA ?_|(refine gB ?_ ?_<;>intro h)|(refine gI ?_;intro x hx)|(refine gJ ?_;intro j x hj hx)|refine gC (jK p r hp) ?_|intro _))<;>try (conv=>whnf)
   all_goals (refine⟨?_,rfl,trivial⟩;simp [hk])
  |KT hk ha=>
   (repeat' ((conv=>whnf);first|with_reducible refine Br.yes (decide_eq_true (by omega)) ?_|with_reducible refine Br.no (decide_eq_false (by omega)) ?_|refine gA ?_|(refine gB ?_ ?_<;>intro h)|(refine gI ?_;intro x hx)|(refine gJ ?_;intro j x hj hx)|refine gC (jK p r hp) ?_|refine gC (BS _) ?_|intro _))<;>try (conv=>whnf)
   all_goals (refine⟨?_,rfl,trivial⟩;simp [hk])
end Go.Proofs.YtglikcnmgnlejaaGreat.Abs
