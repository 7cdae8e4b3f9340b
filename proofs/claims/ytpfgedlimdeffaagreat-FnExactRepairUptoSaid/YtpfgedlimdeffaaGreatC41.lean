/- Contracts: plans, as the program builds them. -/
import Derived.Test.YtpfgedlimdeffaaGreatC22
import Derived.Test.YtpfgedlimdeffaaGreatC27
import Derived.Test.YtpfgedlimdeffaaGreatLayC
set_option linter.all false
set_option maxRecDepth 20000
set_option maxHeartbeats 0
namespace Go.Proofs.YtpfgedlimdeffaaGreat.Abs
open Go.Proofs Go.RowKit
structure Pln where
 sched:aA
 done:List Int
abbrev Pln.av (x:Pln):AV:=.agg [ints x.sched.starts,ints x.sched.modes,ints x.done]
def Wh (x:Pln):RV:=.agg [.lin 3 (x.sched.starts.map i64),.lin 3 (x.sched.modes.map i64),.lin 3 (x.done.map i64)]
def Vw (n:Nat):Pln:=⟨⟨List.replicate n 0,List.replicate n 0⟩,[]⟩
def Wi:Pln:=⟨⟨[],[]⟩,[]⟩
def TW (p:Proj):Pln:=if aY p=true then Vw p.acts.length else Wi
def oI (p:Proj) (x:Pln):Bool:=aK p x.sched&&(qU x.done&&subset x.done (dX p.acts.length))
def bC (x:Pln) (k:Nat) (m t:Int):Pln:=⟨⟨x.sched.starts.set k t,x.sched.modes.set k m⟩,setOf (x.done++[(k:Int)])⟩
def oZ (p:Proj) (x:Pln) (k:Nat) (y:Link):Bool:=(decide (y.src=k)||decide (y.dst=k))&&(x.done.contains y.src&&(x.done.contains y.dst&&mR p x.sched y))
def mZ (p:Proj) (x:Pln) (k i:Nat):Bool:=match p.links[i]? with|some y=>oZ p x k y|none=>false
def uj (p:Proj) (x:Pln) (r t o:Int):Int:=if wT p x.sched t o=true then qZ p x.sched r o else 0
def Pm (p:Proj) (x:Pln) (r t:Int):Int:=cu (uj p x r t) x.done 0
def pq (l:List Step) (t:Int):Int:=if je l=true∧bM t=true then aT t l 0 else 0
def um (p:Proj) (x:Pln) (r t:Int):Bool:=decide (Pm p x r t > pq (uL p r).steps t)
def mF (p:Proj) (x:Pln) (k:Nat) (r:Int):Bool:=(List.range (lY p x.sched k).dur.toNat).any fun j=>um p x r (x.sched.starts.getD k 0+j)
def mG (p:Proj) (x:Pln) (k:Nat) (r o:Int):Bool:=fC p r&&(!decide (o=k)&&dP p x.sched r k o)
def kr (p:Proj) (x:Pln) (k:Nat) (r:Int) (i:Nat):Bool:=match x.done[i]? with|some o=>mG p x k r o|none=>false
def kE (p:Proj) (x:Pln) (k r:Nat):Bool:=mF p x k r||(List.range x.done.length).any (kr p x k r)
def uo (p:Proj) (s:aA) (r:Int) (o:Int):Int:=(lY p s o.toNat).con.getD r.toNat 0
def qE (p:Proj) (x:Pln) (r:Nat):Bool:=decide (cu (uo p x.sched r) x.done 0 > p.aL.getD r 0)
def kF (p:Proj) (x:Pln) (k:Nat):Bool:= !(List.range p.links.length).any (mZ p x k)
def jM (p:Proj) (x:Pln) (k:Nat):Bool:= !(List.range p.aU.length).any (kE p x k)
def jN (p:Proj) (x:Pln):Bool:= !(List.range p.aL.length).any (qE p x)
def iV (p:Proj) (x:Pln) (k:Nat):Bool:=kF p x k&&(jM p x k&&jN p x)
def Wj (p:Proj) (a m:Int):Int:=((jG p a.toNat).modes.getD m.toNat ⟨0,[],[]⟩).dur
def bf (p:Proj) (x:Pln) (a m t:Int):Bool:=
 oI p x&&(bH p a&&(!x.done.contains a&&(within m 0 ((jG p a.toNat).modes.length - 1)&&(bM t&&(decide (t+Wj p a m≤p.dead)&&iV p (bC x a.toNat m t) a.toNat)))))
theorem yF {n:Int}:∀(l:List Int) (lo:Int),l.Pairwise (· < ·)→(∀x∈l,lo≤x∧x < n)→l.length≤(n - lo).toNat
 |[],_,_,_=>Nat.zero_le _
 |x::l,lo,h,hb=>by
  rw [List.pairwise_cons] at h
  have hx:=hb x (by simp)
  have:=yF (n:=n) l (x+1) h.2 fun y hy=>⟨by have:=h.1 y hy;omega,(hb y (by simp [hy])).2⟩
  rw [List.length_cons];omega
theorem jO {p:Proj} {x:Pln} (h:oI p x=true):aK p x.sched=true∧qU x.done=true∧(∀o∈x.done,∃n:Nat,o=n∧n < p.acts.length)∧x.done.length≤p.acts.length:=by
 simp only [oI,Bool.and_eq_true] at h
 have hna:=(fE (aJ h.1).1).Tx
 have hm:∀o∈x.done,∃n:Nat,o=n∧n < p.acts.length:=fun o ho=>by
  have:=List.all_eq_true.1 h.2.2 o ho
  exact Kq (by simpa using this)
 refine⟨h.1,h.2.1,hm,?_⟩
 have:=yF (n:=p.acts.length) x.done 0 (MU h.2.1) fun o ho=>by obtain⟨n,rfl,hn⟩:=hm o ho;omega
 omega
theorem xE {p:Proj} {s:aA} (h:aK p s=true) {k:Nat} {a:au} (hk:p.acts[k]? =some a) {m t:Int} (hm:within m 0 (a.modes.length - 1)=true) (ht:bM t=true):aK p ⟨s.starts.set k t,s.modes.set k m⟩=true:=by
 have hp:=aJ h
 obtain⟨h1,h2,h3,h4⟩:=hp
 simp only [aK,List.length_set,h1,h2,h3,Bool.and_eq_true,true_and]
 refine⟨⟨by simp,by simp⟩,eY.2 fun i hi=>?_⟩
 have:=h4 i hi
 by_cases e:k=i
 ·subst e
  have l1:k < s.starts.length:=by omega
  have l2:k < s.modes.length:=by omega
  simp [lV,l1,l2,hk,hm,ht]
 ·unfold lV at this ⊢
  simp only [List.getElem?_set_ne e]
  exact this
theorem Nu {p:Proj} {x:Pln} (h:∀o∈x.done,∃n:Nat,o=n∧n < p.acts.length) {k:Nat} (hk:k < p.acts.length) {m t:Int}:(∀o∈(bC x k m t).done,∃n:Nat,o=n∧n < p.acts.length)∧(bC x k m t).done.length≤p.acts.length:=by
 have hm:∀o∈(bC x k m t).done,∃n:Nat,o=n∧n < p.acts.length:=fun o ho=>by
  have:=wO.1 ho
  rcases List.mem_append.1 this with h'|h'
  ·exact h o h'
  ·exact⟨k,List.mem_singleton.1 h',hk⟩
 refine⟨hm,?_⟩
 have:=yF (n:=p.acts.length) (bC x k m t).done 0 (Nt _) fun o ho=>by obtain⟨n,rfl,hn⟩:=hm o ho;omega
 omega
theorem FH (l:List Int):Con 75 [.d (ints l)] (.lin 3 (l.map i64)):=(slices_Clone_int l).wL rfl
theorem Dt (l:List Int) (n:Int) (hl:l.length < lim):Con 81 [.d (ints l),.d (i64 n)] (.lin 3 ((setOf (l++[n])).map i64)):=by
 refine con Tryz.func81 rfl rfl Tryz.call81 rfl fun hwf=>?_
 unfold lim at hl
 have e:(l++[n]).map i64=l.map i64++[i64 n]:=by simp
 have hS:=(Pk (l++[n])).wL rfl
 rw [ints,e] at hS
 (repeat' ((conv=>whnf);first|refine gA ?_|(refine gB ?_ ?_<;>intro h)|refine gP ?_|refine gC (slices_Clone_int l) ?_|refine gC (hS) ?_|intro _))<;>try (conv=>whnf)
 all_goals exact⟨rfl,rfl,trivial⟩
theorem Nv (p:Proj) (x:Pln) (hp:p.fine):Con 129 [.d p.av,.d x.av] (.d (.bool (oI p x))):=by
 refine con Tryz.func129 rfl rfl Tryz.call129 rfl fun hwf=>?_
 have hR:=xB (p.acts.map au.av).length
 rw [show dX (((p.acts.map au.av).length:Nat):Int)=dX p.acts.length by rw [List.length_map]] at hR
 (repeat' ((conv=>whnf);first|refine gA ?_|(refine gB ?_ ?_<;>intro h)|refine gC (iC p x.sched hp) ?_|refine gC (OM x.done) ?_|refine gC (hR) ?_|refine gC (EZ x.done _) ?_|intro _))<;>try (conv=>whnf)
 all_goals (refine⟨?_,rfl,trivial⟩;simp [oI, *])
theorem FI (x:Pln):Con 80 [.d x.av] (Wh x):=by
 refine con Tryz.func80 rfl rfl Tryz.call80 rfl fun hwf=>?_
 (repeat' ((conv=>whnf);first|refine gA ?_|(refine gB ?_ ?_<;>intro h)|refine gC (FH _) ?_|intro _))<;>try (conv=>whnf)
 exact fv
theorem Bj (x:Pln) (k:Nat) (m t:Int) (h1:k < x.sched.starts.length) (h2:k < x.sched.modes.length) (hl:x.done.length < lim):Con 40 [.d x.av,.d (i64 k),.d (i64 m),.d (i64 t)] (Wh (bC x k m t)):=by
 refine con Tryz.func40 rfl rfl Tryz.call40 rfl fun hwf=>?_
 obtain⟨s,hs⟩:∃s,x.sched.starts[k]? =some s:=⟨x.sched.starts[k]'h1,by simp⟩
 obtain⟨o,ho⟩:∃s,x.sched.modes[k]? =some s:=⟨x.sched.modes[k]'h2,by simp⟩
 (repeat' ((conv=>whnf);first|with_reducible refine Idx.got hs rfl ?_|with_reducible refine Idx.got ho rfl ?_|refine gA ?_|(refine gB ?_ ?_<;>intro h)|(refine gI ?_;intro x hx)|(refine gJ ?_;intro j x hj hx)|refine gC (FI x) ?_|refine gC (Dt x.done k hl) ?_|intro _))<;>try (conv=>whnf)
 (repeat' ((conv=>whnf)<;>(first|exact trivial|exact VC.nod (by kernel_rfl)|refine VC.mk rfl ?_|refine VC.mk (by (simp [bC,List.map_set,bP])) ?_)))
theorem uP (l:List Step) (t:Int):Con 171 [.d (.sl (l.map Step.av)),.d (i64 t)] (.d (i64 (pq l t))):=by
 refine con Tryz.func171 rfl rfl Tryz.call171 rfl fun hwf=>?_
 (repeat' ((conv=>whnf);first|refine gA ?_|(refine gN ?_ ?_<;>intro h hw)|(refine gB ?_ ?_<;>intro h)|refine gC (zR l) ?_|refine gC (kZ t) ?_|refine gC (ow l t) ?_|intro _))<;>try (conv=>whnf)
 all_goals (refine⟨?_,rfl,trivial⟩;simp [pq, *])
theorem Pn (p:Proj) (x:Pln) (k:Nat) (hp:p.fine) (hf:aK p x.sched=true) (hk:k < p.acts.length) (hd:∀o∈x.done,∃n:Nat,o=n∧n < p.acts.length) (hl:x.done.length≤p.acts.length):
  Con 130 [.d x.av,.d p.av,.d (i64 k)] (.d (.bool (iV p x k))):=by
 refine con Tryz.func130 rfl rfl Tryz.call130 rfl fun hwf=>?_
 have hok:=(aJ hf).1
 have hna:=(fE hok).Tx
 obtain⟨_,hrl,hsl,_⟩:=jf hok
 obtain⟨a,t0,m,q,mo,g⟩:=iB hf hk
 have he:=kP g
 have hdu:=zW g
 have htb:=g.tb
 have hst:x.sched.starts.getD k 0=t0:=by simp [List.getD_eq_getElem?_getD,g.start]
 have hdd:(lY p x.sched k).dur=mo.dur:=by rw [dQ g]
 generalize hQQ:iV p x k=R
 (repeat' ((conv=>whnf);first|refine gA ?_|(refine gB ?_ ?_<;>intro h)|(refine gI ?_;intro x hx)|(refine gJ ?_;intro j x hj hx)|refine gV ?_|intro _))<;>try (conv=>whnf)
 refine aG [2,3,4,7,26,27] [3,4,7] [] ?_
 (conv=>whnf)
 refine aC.go ((Nat)) (fun j=>(j≤p.links.length)∧(∀i,i < j→mZ p x k i=false)) (fun j=>[(28,.data (i64 j))]) (fun _=>[]) (fun _=>[]) (fun j=>p.links.length - j) (0) ?_ ?_
 ·exact⟨Nat.zero_le _,fun i h=>absurd h (by omega)⟩
 rintro j ⟨hj,hi⟩
 by_cases hlt:j < p.links.length
 ·obtain⟨y,hy⟩:∃y,p.links[j]? =some y:=⟨p.links[j]'hlt,by simp⟩
  have hlo:=(fE hok).link j y hy
  have e:mZ p x k j=oZ p x k y:=by rw [mZ,hy]
  cases hb:oZ p x k y with
  |true=>
   have hr:R=false:=by rw [← hQQ,iV,kF,jm j hlt (by rw [e,hb])];rfl
   subst hr
   simp only [oZ,Bool.and_eq_true,Bool.or_eq_true,decide_eq_true_eq] at hb
   obtain⟨b1,b2,b3,b4⟩:=hb
   (repeat' ((conv=>whnf);first|with_reducible refine Idx.got hy rfl ?_|refine gA ?_|(refine gB ?_ ?_<;>intro h)|(refine gI ?_;intro x hx)|(refine gJ ?_;intro j x hj hx)|refine gV ?_|refine gC (iZ x.done y.src) ?_|refine gC (iZ x.done y.dst) ?_|refine gC (qB p x.sched y hf hlo) ?_|intro _))<;>try (conv=>whnf)
   all_goals first
    |(exfalso;omega)
    |exact⟨rfl,rfl,trivial⟩
    |(exfalso;simp_all;done)
  |false=>
   have hn:=jo hi (by rw [e,hb])
   simp only [oZ] at hb
   (repeat' ((conv=>whnf);first|with_reducible refine Idx.got hy rfl ?_|refine gA ?_|(refine gB ?_ ?_<;>intro h)|(refine gI ?_;intro x hx)|(refine gJ ?_;intro j x hj hx)|refine gV ?_|refine gC (iZ x.done y.src) ?_|refine gC (iZ x.done y.dst) ?_|refine gC (qB p x.sched y hf hlo) ?_|intro _))<;>try (conv=>whnf)
   all_goals first
    |(exfalso;omega)
    |(exfalso;simp_all;done)
    |(refine nx (j+1) ?_
      exact⟨by omega,hn⟩)
 have hL:kF p x k=true:=by rw [kF,nI.2 fun i hh=>hi i (by omega)];rfl
 clear hi
 (repeat' ((conv=>whnf);first|(exfalso;omega)|refine gA ?_|(refine gB ?_ ?_<;>intro h)|(refine gI ?_;intro x hx)|(refine gJ ?_;intro j x hj hx)|refine gV ?_|intro _))<;>try (conv=>whnf)
 refine aG [2,3,4,7,65,66] [3,4,7] [] ?_
 (conv=>whnf)
 refine aC.go ((Nat)) (fun r=>(r≤p.aU.length)∧(∀i,i < r→kE p x k i=false)) (fun r=>[(67,.data (i64 r))]) (fun _=>[]) (fun _=>[]) (fun r=>p.aU.length - r) (0) ?_ ?_
 ·exact⟨Nat.zero_le _,fun i h=>absurd h (by omega)⟩
 rintro r ⟨hr,hR⟩
 by_cases hlr:r < p.aU.length
 ·obtain⟨re,hre⟩:∃y,p.aU[r]? =some y:=⟨p.aU[r]'hlr,by simp⟩
  have hres:=uh hlr
  have ere:uL p r=re:=by simp [uL,List.getD_eq_getElem?_getD,hre]
  (repeat' ((conv=>whnf);first|with_reducible refine Idx.got hre rfl ?_|with_reducible refine Idx.got g.start rfl ?_|(exfalso;omega)|refine gA ?_|(refine gB ?_ ?_<;>intro h)|(refine gI ?_;intro x hx)|(refine gJ ?_;intro j x hj hx)|refine gV ?_|intro _))<;>try (conv=>whnf)
  refine aG [2,3,4,7,10,11,65,66,67] [3,4,7,11] [] ?_
  (conv=>whnf)
  refine aC.go ((Nat)×(Int)) (fun⟨j,t⟩=>(t=t0+j)∧((j:Int)≤mo.dur)∧(∀i:Nat,i < j→um p x r (t0+i)=false)) (fun⟨j,t⟩=>[(12,.data (i64 t))]) (fun _=>[]) (fun _=>[]) (fun⟨j,t⟩=>mo.dur.toNat - j) ⟨0,t0⟩ ?_ ?_
  ·exact⟨by omega,by omega,fun i h=>absurd h (by omega)⟩
  rintro⟨j,t⟩ ⟨ht,hj,hT⟩
  by_cases hjt:(j:Int) < mo.dur
  ·(repeat' ((conv=>whnf);first|with_reducible refine Br.yes (decide_eq_true (by omega)) ?_|refine gA ?_|(refine gB ?_ ?_<;>intro h)|(refine gI ?_;intro x hx)|(refine gJ ?_;intro j x hj hx)|refine gV ?_|refine gC (mE p x.sched _ g rfl) ?_|intro _))<;>try (conv=>whnf)
   refine aG [2,3,4,7,10,11,12,65,66,67,86,87] [3,4,7,11] [] ?_
   (conv=>whnf)
   refine aC.go ((Nat)×(Int)) (fun⟨i,n⟩=>(i≤x.done.length)∧(0≤n∧n≤20*i)∧(cu (uj p x r t) (x.done.drop i) n=Pm p x r t)) (fun⟨i,n⟩=>[(88,.data (i64 i)),(13,.data (i64 n))]) (fun _=>[]) (fun _=>[]) (fun⟨i,n⟩=>x.done.length - i) ⟨0,0⟩ ?_ ?_
   ·exact⟨Nat.zero_le _,by omega,rfl⟩
   rintro⟨i,n⟩ ⟨hi3,hn,hs⟩
   by_cases h3:i < x.done.length
   ·obtain⟨o,ho⟩:∃y,x.done[i]? =some y:=⟨x.done[i]'h3,by simp⟩
    obtain⟨ko,rfl,hko⟩:=hd o (List.mem_of_getElem? ho)
    obtain⟨a',t',m',q',mo',g'⟩:=iB hf hko
    obtain⟨ρ,u,e1,e2,e3,e4⟩:=jr g' hres t
    rw [ay ho,cu] at hs
    have eu:qZ p x.sched r ko=u:=by simp [qZ,dQ g',List.getD_eq_getElem?_getD,e1,e2]
    by_cases hrun:wT p x.sched t ko=true
    ·rw [uj,if_pos hrun,eu] at hs
     have hrr:=hrun
     rw [wT,Int.toNat_natCast,wN g',Bool.and_eq_true,decide_eq_true_eq,decide_eq_true_eq] at hrr
     (repeat' ((conv=>whnf);first|with_reducible refine Idx.got ho rfl ?_|with_reducible refine Idx.got g'.start rfl ?_|with_reducible refine Idx.got e2 e1 ?_|refine gA ?_|(refine gB ?_ ?_<;>intro h)|(refine gI ?_;intro x hx)|(refine gJ ?_;intro j x hj hx)|refine gV ?_|refine gC (mE p x.sched _ g' rfl) ?_|refine gC (lu p x.sched _ g' rfl) ?_|intro _))<;>try (conv=>whnf)
     all_goals first
      |(exfalso;omega)
      |(refine nx ⟨i+1,n+u⟩ ?_
        exact⟨by omega,by omega,hs⟩)
    ·rw [uj,if_neg hrun,Int.add_zero] at hs
     have hrr:=hrun
     rw [wT,Int.toNat_natCast,wN g',Bool.and_eq_true,decide_eq_true_eq,decide_eq_true_eq] at hrr
     (repeat' ((conv=>whnf);first|with_reducible refine Idx.got ho rfl ?_|with_reducible refine Idx.got g'.start rfl ?_|with_reducible refine Idx.got e2 e1 ?_|refine gA ?_|(refine gB ?_ ?_<;>intro h)|(refine gI ?_;intro x hx)|(refine gJ ?_;intro j x hj hx)|refine gV ?_|refine gC (mE p x.sched _ g' rfl) ?_|refine gC (lu p x.sched _ g' rfl) ?_|intro _))<;>try (conv=>whnf)
     all_goals first
      |(exfalso;omega)
      |(refine nx ⟨i+1,n⟩ ?_
        exact⟨by omega,by omega,hs⟩)
   ·rw [aQ (by omega),cu] at hs
    have hbad:um p x r t=decide (n > pq re.steps t):=by rw [um,ere, ← hs]
    by_cases hc:n > pq re.steps t
    ·have hr:R=false:=by
      have:mF p x k r=true:=by
       rw [mF,hst,hdd]
       exact jm j (by omega) (by rw [← ht,hbad];exact decide_eq_true hc)
      have:kE p x k r=true:=by rw [kE,this];rfl
      rw [← hQQ,iV,jM,jm r hlr this];simp
     subst hr
     (repeat' ((conv=>whnf);first|(exfalso;omega)|refine gA ?_|(refine gB ?_ ?_<;>intro h)|(refine gI ?_;intro x hx)|(refine gJ ?_;intro j x hj hx)|refine gV ?_|refine gC (uP re.steps t) ?_|intro _))<;>try (conv=>whnf)
     all_goals first
      |(exfalso;omega)
      |exact⟨rfl,rfl,trivial⟩
    ·(repeat' ((conv=>whnf);first|(exfalso;omega)|refine gA ?_|(refine gB ?_ ?_<;>intro h)|(refine gI ?_;intro x hx)|(refine gJ ?_;intro j x hj hx)|refine gV ?_|refine gC (uP re.steps t) ?_|intro _))<;>try (conv=>whnf)
     all_goals first
      |(exfalso;omega)
      |(refine nx ⟨j+1,t+1⟩ ?_
        refine⟨by omega,by omega,fun i' hi'=>?_⟩
        by_cases h':i' < j
        ·exact hT i' h'
        ·obtain rfl:i'=j:=by omega
         rw [← ht,hbad];exact decide_eq_false hc)
  ·have hTB:mF p x k r=false:=by
    rw [mF,hst,hdd]
    exact nI.2 fun i hh=>hT i (by omega)
   clear hT
   (repeat' ((conv=>whnf);first|with_reducible refine Br.no (decide_eq_false (by omega)) ?_|refine gA ?_|(refine gB ?_ ?_<;>intro h)|(refine gI ?_;intro x hx)|(refine gJ ?_;intro j x hj hx)|refine gV ?_|refine gC (mE p x.sched _ g rfl) ?_|intro _))<;>try (conv=>whnf)
   refine aG [2,3,4,7,10,65,66,67,125,126] [3,4,7] [] ?_
   (conv=>whnf)
   refine aC.go ((Nat)) (fun i=>(i≤x.done.length)∧(∀i',i' < i→kr p x k r i'=false)) (fun i=>[(127,.data (i64 i))]) (fun _=>[]) (fun _=>[]) (fun i=>x.done.length - i) (0) ?_ ?_
   ·exact⟨Nat.zero_le _,fun i h=>absurd h (by omega)⟩
   rintro i ⟨hi4,hP⟩
   by_cases h4:i < x.done.length
   ·obtain⟨o,ho⟩:∃y,x.done[i]? =some y:=⟨x.done[i]'h4,by simp⟩
    obtain⟨ko,rfl,hko⟩:=hd o (List.mem_of_getElem? ho)
    obtain⟨a',t',m',q',mo',g'⟩:=iB hf hko
    have ea:kr p x k r i=mG p x k r ko:=by rw [kr,ho]
    cases hm:fC p r with
    |false=>
     have hn:=jo hP (by rw [ea,mG,hm];rfl)
     (repeat' ((conv=>whnf);first|with_reducible refine Idx.got ho rfl ?_|refine gA ?_|(refine gB ?_ ?_<;>intro h)|(refine gI ?_;intro x hx)|(refine gJ ?_;intro j x hj hx)|refine gV ?_|refine gC (fZ p r) ?_|intro _))<;>try (conv=>whnf)
     all_goals first
      |(exfalso;omega)
      |(exfalso;simp_all;done)
      |(refine nx (i+1) ?_
        exact⟨by omega,hn⟩)
    |true=>
    by_cases hoa:(ko:Int)=k
    ·have hn:=jo hP (by rw [ea,mG,hm,decide_eq_true hoa];rfl)
     (repeat' ((conv=>whnf);first|with_reducible refine Idx.got ho rfl ?_|refine gA ?_|(refine gB ?_ ?_<;>intro h)|(refine gI ?_;intro x hx)|(refine gJ ?_;intro j x hj hx)|refine gV ?_|refine gC (fZ p r) ?_|intro _))<;>try (conv=>whnf)
     all_goals first
      |(exfalso;omega)
      |(exfalso;simp_all;done)
      |(refine nx (i+1) ?_
        exact⟨by omega,hn⟩)
    have hQ:=vT p x.sched (r:Int) (k:Int) (ko:Int) g rfl g' rfl hp hf hm (qC hk) (qC hko)
    cases hpf:dP p x.sched r k ko with
    |true=>
     have hr:R=false:=by
      have h1:(List.range x.done.length).any (kr p x k r)=true:=jm i h4 (by rw [ea,mG,hm,hpf,decide_eq_false hoa];rfl)
      have:kE p x k r=true:=by rw [kE,h1,Bool.or_true]
      rw [← hQQ,iV,jM,jm r hlr this];simp
     subst hr
     rw [hpf] at hQ
     (repeat' ((conv=>whnf);first|with_reducible refine Idx.got ho rfl ?_|refine gA ?_|(refine gB ?_ ?_<;>intro h)|(refine gI ?_;intro x hx)|(refine gJ ?_;intro j x hj hx)|refine gV ?_|refine gC (fZ p r) ?_|refine gC (hQ) ?_|intro _))<;>try (conv=>whnf)
     all_goals first
      |(exfalso;omega)
      |exact⟨rfl,rfl,trivial⟩
      |(exfalso;simp_all;done)
    |false=>
     have hn:=jo hP (by rw [ea,mG,hm,hpf,decide_eq_false hoa];rfl)
     rw [hpf] at hQ
     (repeat' ((conv=>whnf);first|with_reducible refine Idx.got ho rfl ?_|refine gA ?_|(refine gB ?_ ?_<;>intro h)|(refine gI ?_;intro x hx)|(refine gJ ?_;intro j x hj hx)|refine gV ?_|refine gC (fZ p r) ?_|refine gC (hQ) ?_|intro _))<;>try (conv=>whnf)
     all_goals first
      |(exfalso;omega)
      |(exfalso;simp_all;done)
      |(refine nx (i+1) ?_
        exact⟨by omega,hn⟩)
   ·have hn:=jo hR (by rw [kE,hTB,nI.2 fun i' hh=>hP i' (by omega)];rfl)
    (repeat' ((conv=>whnf);first|(exfalso;omega)|refine gA ?_|(refine gB ?_ ?_<;>intro h)|(refine gI ?_;intro x hx)|(refine gJ ?_;intro j x hj hx)|refine gV ?_|intro _))<;>try (conv=>whnf)
    refine nx (r+1) ?_
    exact⟨by omega,hn⟩
 have hG:jM p x k=true:=by rw [jM,nI.2 fun i hh=>hR i (by omega)];rfl
 clear hR
 (repeat' ((conv=>whnf);first|(exfalso;omega)|refine gA ?_|(refine gB ?_ ?_<;>intro h)|(refine gI ?_;intro x hx)|(refine gJ ?_;intro j x hj hx)|refine gV ?_|intro _))<;>try (conv=>whnf)
 refine aG [3,4,7,151,152] [3,4,7] [] ?_
 (conv=>whnf)
 refine aC.go ((Nat)) (fun r=>(r≤p.aL.length)∧(∀i,i < r→qE p x i=false)) (fun r=>[(153,.data (i64 r))]) (fun _=>[]) (fun _=>[]) (fun r=>p.aL.length - r) (0) ?_ ?_
 ·exact⟨Nat.zero_le _,fun i h=>absurd h (by omega)⟩
 rintro r ⟨hr,hS⟩
 by_cases hlr:r < p.aL.length
 ·obtain⟨c,hc⟩:∃y,p.aL[r]? =some y:=⟨p.aL[r]'hlr,by simp⟩
  have hres:=oU hlr
  (repeat' ((conv=>whnf);first|with_reducible refine Idx.got hc rfl ?_|(exfalso;omega)|refine gA ?_|(refine gB ?_ ?_<;>intro h)|(refine gI ?_;intro x hx)|(refine gJ ?_;intro j x hj hx)|refine gV ?_|intro _))<;>try (conv=>whnf)
  refine aG [3,4,7,18,19,151,152,153,159,160] [3,4,7] [] ?_
  (conv=>whnf)
  refine aC.go ((Nat)×(Int)) (fun⟨i,n⟩=>(i≤x.done.length)∧(0≤n∧n≤20*i)∧(cu (uo p x.sched r) (x.done.drop i) n=cu (uo p x.sched r) x.done 0)) (fun⟨i,n⟩=>[(161,.data (i64 i)),(20,.data (i64 n))]) (fun _=>[]) (fun _=>[]) (fun⟨i,n⟩=>x.done.length - i) ⟨0,0⟩ ?_ ?_
  ·exact⟨Nat.zero_le _,by omega,rfl⟩
  rintro⟨i,n⟩ ⟨hi3,hn,hs⟩
  by_cases h3:i < x.done.length
  ·obtain⟨o,ho⟩:∃y,x.done[i]? =some y:=⟨x.done[i]'h3,by simp⟩
   obtain⟨ko,rfl,hko⟩:=hd o (List.mem_of_getElem? ho)
   obtain⟨a',t',m',q',mo',g'⟩:=iB hf hko
   obtain⟨ρ,u,e1,e2,e3,e4⟩:=vS g' hres
   rw [ay ho,cu] at hs
   have eu:uo p x.sched r ko=u:=by simp [uo,dQ g',List.getD_eq_getElem?_getD,e1,e2]
   rw [eu] at hs
   (repeat' ((conv=>whnf);first|with_reducible refine Idx.got ho rfl ?_|with_reducible refine Idx.got e2 e1 ?_|refine gA ?_|(refine gB ?_ ?_<;>intro h)|(refine gI ?_;intro x hx)|(refine gJ ?_;intro j x hj hx)|refine gV ?_|refine gC (lu p x.sched _ g' rfl) ?_|intro _))<;>try (conv=>whnf)
   all_goals first
    |(exfalso;omega)
    |(refine nx ⟨i+1,n+u⟩ ?_
      exact⟨by omega,by omega,hs⟩)
  ·rw [aQ (by omega),cu] at hs
   have hbad:qE p x r=decide (n > c):=by rw [qE, ← hs];simp [List.getD_eq_getElem?_getD,hc]
   by_cases hcc:n > c
   ·have hr:R=false:=by
     rw [← hQQ,iV,jN,jm r hlr (by rw [hbad];exact decide_eq_true hcc)];simp
    subst hr
    (repeat' ((conv=>whnf);first|(exfalso;omega)|refine gA ?_|(refine gB ?_ ?_<;>intro h)|(refine gI ?_;intro x hx)|(refine gJ ?_;intro j x hj hx)|refine gV ?_|intro _))<;>try (conv=>whnf)
    all_goals first
     |(exfalso;omega)
     |exact⟨rfl,rfl,trivial⟩
   ·have hn':=jo hS (by rw [hbad];exact decide_eq_false hcc)
    (repeat' ((conv=>whnf);first|(exfalso;omega)|refine gA ?_|(refine gB ?_ ?_<;>intro h)|(refine gI ?_;intro x hx)|(refine gJ ?_;intro j x hj hx)|refine gV ?_|intro _))<;>try (conv=>whnf)
    all_goals first
     |(exfalso;omega)
     |(refine nx (r+1) ?_
       exact⟨by omega,hn'⟩)
 have hK:R=true:=by rw [← hQQ,iV,hL,hG,jN,nI.2 fun i hh=>hS i (by omega)];rfl
 subst hK
 (repeat' ((conv=>whnf);first|(exfalso;omega)|refine gA ?_|(refine gB ?_ ?_<;>intro h)|(refine gI ?_;intro x hx)|(refine gJ ?_;intro j x hj hx)|refine gV ?_|intro _))<;>try (conv=>whnf)
 exact⟨rfl,rfl,trivial⟩
end Go.Proofs.YtpfgedlimdeffaaGreat.Abs
