/- Contracts: the reference's plans and schedules. -/
import Derived.Test.YtpfgedlimdeffaaGreatC43
set_option linter.all false
set_option maxRecDepth 20000
set_option maxHeartbeats 0
namespace Go.Proofs.YtpfgedlimdeffaaGreat.Abs
open Go.Proofs Go.RowKit
theorem Nz (p:Proj) (x:Pln) (hp:p.fine):Con 101 [.d p.av,.d x.av] (.d (.bool (oI p x))):=by
 refine con Tryz.func101 rfl rfl Tryz.call101 rfl fun hwf=>?_
 have hR:=GJ (p.acts.map au.av).length
 rw [show dX (((p.acts.map au.av).length:Nat):Int)=dX p.acts.length by rw [List.length_map]] at hR
 (repeat' ((conv=>whnf);first|refine gA ?_|(refine gB ?_ ?_<;>intro h)|refine gC (iD p x.sched hp) ?_|refine gC (OO x.done) ?_|refine gC (hR) ?_|refine gC (Fa x.done _) ?_|intro _))<;>try (conv=>whnf)
 all_goals (refine⟨?_,rfl,trivial⟩;simp [oI, *])
def Yy (s:aA):RV:=.agg [.own 3 (s.starts.map i64),.own 3 (s.modes.map i64)]
def Yz (x:Pln):RV:=.agg [.own 3 (x.sched.starts.map i64),.own 3 (x.sched.modes.map i64),.own 3 (x.done.map i64)]
theorem pz (s:aA):Con 22 [.d s.av] (Yy s):=by
 refine con Tryz.func22 rfl rfl Tryz.call22 rfl fun hwf=>?_
 simp only [ARs.wf,AR.wf,AV.wf,AV.wfs,lm,lim] at hwf
 (repeat' ((conv=>whnf);first|refine gA ?_|(refine gB ?_ ?_<;>intro h)|refine gP ?_|intro _))<;>try (conv=>whnf)
 exact fv
theorem Ac (x:Pln):Con 63 [.d x.av] (Yz x):=by
 refine con Tryz.func63 rfl rfl Tryz.call63 rfl fun hwf=>?_
 simp only [ARs.wf,AR.wf,AV.wf,AV.wfs,lm,lim] at hwf
 (repeat' ((conv=>whnf);first|refine gA ?_|(refine gB ?_ ?_<;>intro h)|refine gP ?_|refine gC (pz x.sched) ?_|intro _))<;>try (conv=>whnf)
 exact fv
theorem uQ (l:List Step) (t:Int):Con 148 [.d (.sl (l.map Step.av)),.d (i64 t)] (.d (i64 (pq l t))):=by
 refine con Tryz.func148 rfl rfl Tryz.call148 rfl fun hwf=>?_
 have hT:=dI t 0 60
 rw [show within t 0 60=bM t from rfl] at hT
 (repeat' ((conv=>whnf);first|refine gA ?_|(refine gN ?_ ?_<;>intro h hw)|(refine gB ?_ ?_<;>intro h)|refine gC (zS l) ?_|refine gC (hT) ?_|refine gC (yw l t) ?_|intro _))<;>try (conv=>whnf)
 all_goals (refine⟨?_,rfl,trivial⟩;simp [pq, *])
theorem GZ (p:Proj) (x:Pln) (k:Nat) (hp:p.fine) (hf:aK p x.sched=true):Con 103 [.d p.av,.d x.av,.d (i64 k)] (.d (.bool (kF p x k))):=by
 refine con Tryz.func103 rfl rfl Tryz.call103 rfl fun hwf=>?_
 have hok:=(aJ hf).1
 obtain⟨_,_,_,hll⟩:=jf hok
 generalize hQQ:kF p x k=R
 (repeat' ((conv=>whnf);first|refine gA ?_|(refine gB ?_ ?_<;>intro h)|(refine gI ?_;intro x hx)|(refine gJ ?_;intro j x hj hx)|refine gV ?_|intro _))<;>try (conv=>whnf)
 refine aG [2,3,4,10,11] [3,4] [] ?_
 (conv=>whnf)
 refine aC.go ((Nat)) (fun j=>(j≤p.links.length)∧(∀i,i < j→mZ p x k i=false)) (fun j=>[(12,.data (i64 j))]) (fun _=>[]) (fun _=>[]) (fun j=>p.links.length - j) (0) ?_ ?_
 ·exact⟨Nat.zero_le _,fun i h=>absurd h (by omega)⟩
 rintro j ⟨hj,hi⟩
 by_cases hlt:j < p.links.length
 ·obtain⟨y,hy⟩:∃y,p.links[j]? =some y:=⟨p.links[j]'hlt,by simp⟩
  have e:mZ p x k j=oZ p x k y:=by rw [mZ,hy]
  have hF:=xC p x.sched (fV j) hp hf (.link j y rfl hy)
  rw [show breaks p x.sched (fV j)=mR p x.sched y by simp [breaks,fV,ET,List.getD_eq_getElem?_getD,hy]] at hF
  cases hb:oZ p x k y with
  |true=>
   have hr:R=false:=by rw [← hQQ,kF,jm j hlt (by rw [e,hb])];rfl
   subst hr
   simp only [oZ,Bool.and_eq_true,Bool.or_eq_true,decide_eq_true_eq] at hb
   obtain⟨b1,b2,b3,b4⟩:=hb
   (repeat' ((conv=>whnf);first|with_reducible refine Idx.got hy rfl ?_|refine gA ?_|(refine gB ?_ ?_<;>intro h)|(refine gI ?_;intro x hx)|(refine gJ ?_;intro j x hj hx)|refine gV ?_|refine gC (gZ x.done y.src) ?_|refine gC (gZ x.done y.dst) ?_|refine gC (hF) ?_|intro _))<;>try (conv=>whnf)
   all_goals first
    |(exfalso;omega)
    |exact⟨rfl,rfl,trivial⟩
    |(exfalso;simp_all;done)
  |false=>
   have hn:=jo hi (by rw [e,hb])
   simp only [oZ] at hb
   (repeat' ((conv=>whnf);first|with_reducible refine Idx.got hy rfl ?_|refine gA ?_|(refine gB ?_ ?_<;>intro h)|(refine gI ?_;intro x hx)|(refine gJ ?_;intro j x hj hx)|refine gV ?_|refine gC (gZ x.done y.src) ?_|refine gC (gZ x.done y.dst) ?_|refine gC (hF) ?_|intro _))<;>try (conv=>whnf)
   all_goals first
    |(exfalso;omega)
    |(exfalso;simp_all;done)
    |(refine nx (j+1) ?_
      exact⟨by omega,hn⟩)
 ·have hr:R=true:=by rw [← hQQ,kF,nI.2 fun i hh=>hi i (by omega)];rfl
  subst hr
  (repeat' ((conv=>whnf);first|(exfalso;omega)|refine gA ?_|(refine gB ?_ ?_<;>intro h)|(refine gI ?_;intro x hx)|(refine gJ ?_;intro j x hj hx)|refine gV ?_|intro _))<;>try (conv=>whnf)
  exact⟨rfl,rfl,trivial⟩
theorem He (p:Proj) (s:aA) (kd:Int) (ρ b c:Nat) (hf:aK p s=true) (hm:fC p ρ=true) (hb:b < p.acts.length) (hc:c < p.acts.length):Con 142 [.d p.av,.d s.av,.d (Rul.mk kd ρ b c).av] (.d (.bool (dP p s ρ b c))):=by
 refine con Tryz.func142 rfl rfl Tryz.call142 rfl fun hwf=>?_
 obtain⟨a,t,m,q,mo,g⟩:=iB hf hb
 obtain⟨a',t',m',q',mo',g'⟩:=iB hf hc
 obtain⟨ρ1,u,f1,f2,f3,_⟩:=jr g (mV hm) 0
 obtain⟨ρ2,u',f1',f2',f3',_⟩:=jr g' (mV hm) 0
 have ep:dP p s ρ b c=(!decide (u=0)&& !decide (u'=0)&& !jZ p s ρ b c&& !jZ p s ρ c b):=by
  obtain rfl:ρ1=ρ:=by omega
  obtain rfl:ρ2=ρ1:=by omega
  rw [dP]
  simp [dQ g,dQ g',List.getD_eq_getElem?_getD,f2,f2']
 rw [ep]
 (repeat' ((conv=>whnf);first|refine Idx.got f2 f1 ?_|refine Idx.got f2' f1' ?_|refine gA ?_|(refine gB ?_ ?_<;>intro h)|(refine gI ?_;intro x hx)|(refine gJ ?_;intro j x hj hx)|refine gC (fB p s _ g rfl) ?_|refine gC (fB p s _ g' rfl) ?_|refine gC (nK p s (ρ:Int) (b:Int) (c:Int) g rfl g' rfl hf hm) ?_|refine gC (nK p s (ρ:Int) (c:Int) (b:Int) g' rfl g rfl hf hm) ?_|intro _))<;>try (conv=>whnf)
 all_goals (clear f1 f1' ep;refine⟨?_,rfl,trivial⟩;simp [*])
theorem FQ (p:Proj) (s:aA) (r b c:Int):dP p s r b c=dP p s r c b:=by
 rw [dP,dP]
 cases decide ((lY p s b.toNat).use.getD r.toNat 0=0)<;>cases decide ((lY p s c.toNat).use.getD r.toNat 0=0)<;>cases jZ p s r b c<;>cases jZ p s r c b<;>rfl
theorem KE (p:Proj) (x:Pln) (k:Nat) (hp:p.fine) (hf:aK p x.sched=true) (hk:k < p.acts.length) (hd:∀o∈x.done,∃n:Nat,o=n∧n < p.acts.length) (hl:x.done.length≤p.acts.length):
  Con 104 [.d p.av,.d x.av,.d (i64 k)] (.d (.bool (jM p x k))):=by
 refine con Tryz.func104 rfl rfl Tryz.call104 rfl fun hwf=>?_
 have hok:=(aJ hf).1
 obtain⟨hna,hrl,hsl,_⟩:=jf hok
 obtain⟨a,t0,m,q,mo,g⟩:=iB hf hk
 have he:=kP g
 have hdu:=zW g
 have htb:=g.tb
 have hst:x.sched.starts.getD k 0=t0:=by simp [List.getD_eq_getElem?_getD,g.start]
 have hdd:(lY p x.sched k).dur=mo.dur:=by rw [dQ g]
 generalize hQQ:jM p x k=R
 (repeat' ((conv=>whnf);first|refine gA ?_|(refine gB ?_ ?_<;>intro h)|(refine gI ?_;intro x hx)|(refine gJ ?_;intro j x hj hx)|refine gV ?_|intro _))<;>try (conv=>whnf)
 refine aG [2,3,4,16] [3,4] [] ?_
 (conv=>whnf)
 refine aC.go ((Nat)) (fun r=>(r≤p.aU.length)∧(∀i,i < r→kE p x k i=false)) (fun r=>[(17,.data (i64 r))]) (fun _=>[]) (fun _=>[]) (fun r=>p.aU.length - r) (0) ?_ ?_
 ·exact⟨Nat.zero_le _,fun i h=>absurd h (by omega)⟩
 rintro r ⟨hr,hR⟩
 by_cases hlr:r < p.aU.length
 ·obtain⟨re,hre⟩:∃y,p.aU[r]? =some y:=⟨p.aU[r]'hlr,by simp⟩
  have hres:=uh hlr
  have ere:uL p r=re:=by simp [uL,List.getD_eq_getElem?_getD,hre]
  (repeat' ((conv=>whnf);first|with_reducible refine Idx.got g.start rfl ?_|(exfalso;omega)|refine gA ?_|(refine gB ?_ ?_<;>intro h)|(refine gI ?_;intro x hx)|(refine gJ ?_;intro j x hj hx)|refine gV ?_|intro _))<;>try (conv=>whnf)
  refine aG [2,3,4,7,16,17] [3,4] [] ?_
  (conv=>whnf)
  refine aC.go ((Nat)×(Int)) (fun⟨j,t⟩=>(t=t0+j)∧((j:Int)≤mo.dur)∧(∀i:Nat,i < j→um p x r (t0+i)=false)) (fun⟨j,t⟩=>[(8,.data (i64 t))]) (fun _=>[]) (fun _=>[]) (fun⟨j,t⟩=>mo.dur.toNat - j) ⟨0,t0⟩ ?_ ?_
  ·exact⟨by omega,by omega,fun i h=>absurd h (by omega)⟩
  rintro⟨j,t⟩ ⟨ht,hj,hT⟩
  by_cases hjt:(j:Int) < mo.dur
  ·(repeat' ((conv=>whnf);first|with_reducible refine Br.yes (decide_eq_true (by omega)) ?_|refine gA ?_|(refine gB ?_ ?_<;>intro h)|(refine gI ?_;intro x hx)|(refine gJ ?_;intro j x hj hx)|refine gV ?_|refine gC (iE p x.sched _ g rfl) ?_|intro _))<;>try (conv=>whnf)
   refine aG [2,3,4,7,8,16,17,36,37] [3,4] [] ?_
   (conv=>whnf)
   refine aC.go ((Nat)×(Int)) (fun⟨i,n⟩=>(i≤x.done.length)∧(0≤n∧n≤20*i)∧(cu (uj p x r t) (x.done.drop i) n=Pm p x r t)) (fun⟨i,n⟩=>[(38,.data (i64 i)),(9,.data (i64 n))]) (fun _=>[]) (fun _=>[]) (fun⟨i,n⟩=>x.done.length - i) ⟨0,0⟩ ?_ ?_
   ·exact⟨Nat.zero_le _,by omega,rfl⟩
   rintro⟨i,n⟩ ⟨hi3,hn,hs⟩
   by_cases h3:i < x.done.length
   ·obtain⟨o,ho⟩:∃y,x.done[i]? =some y:=⟨x.done[i]'h3,by simp⟩
    obtain⟨ko,rfl,hko⟩:=hd o (List.mem_of_getElem? ho)
    obtain⟨a',t',m',q',mo',g'⟩:=iB hf hko
    obtain⟨ρ,u,e1,e2,e3,e4⟩:=jr g' hres t
    rw [ay ho,cu] at hs
    have eu:qZ p x.sched r ko=u:=by simp [qZ,dQ g',List.getD_eq_getElem?_getD,e1,e2]
    by_cases hrun:wT p x.sched t ko=true
    ·rw [uj,if_pos hrun,eu] at hs
     have hrr:=hrun
     rw [wT,Int.toNat_natCast,wN g',Bool.and_eq_true,decide_eq_true_eq,decide_eq_true_eq] at hrr
     (repeat' ((conv=>whnf);first|with_reducible refine Idx.got ho rfl ?_|with_reducible refine Idx.got g'.start rfl ?_|with_reducible refine Idx.got e2 e1 ?_|refine gA ?_|(refine gB ?_ ?_<;>intro h)|(refine gI ?_;intro x hx)|(refine gJ ?_;intro j x hj hx)|refine gV ?_|refine gC (iE p x.sched _ g' rfl) ?_|refine gC (fB p x.sched _ g' rfl) ?_|intro _))<;>try (conv=>whnf)
     all_goals first
      |(exfalso;omega)
      |(refine nx ⟨i+1,n+u⟩ ?_
        exact⟨by omega,by omega,hs⟩)
    ·rw [uj,if_neg hrun,Int.add_zero] at hs
     have hrr:=hrun
     rw [wT,Int.toNat_natCast,wN g',Bool.and_eq_true,decide_eq_true_eq,decide_eq_true_eq] at hrr
     (repeat' ((conv=>whnf);first|with_reducible refine Idx.got ho rfl ?_|with_reducible refine Idx.got g'.start rfl ?_|with_reducible refine Idx.got e2 e1 ?_|refine gA ?_|(refine gB ?_ ?_<;>intro h)|(refine gI ?_;intro x hx)|(refine gJ ?_;intro j x hj hx)|refine gV ?_|refine gC (iE p x.sched _ g' rfl) ?_|refine gC (fB p x.sched _ g' rfl) ?_|intro _))<;>try (conv=>whnf)
     all_goals first
      |(exfalso;omega)
      |(refine nx ⟨i+1,n⟩ ?_
        exact⟨by omega,by omega,hs⟩)
   ·rw [aQ (by omega),cu] at hs
    have hbad:um p x r t=decide (n > pq re.steps t):=by rw [um,ere, ← hs]
    by_cases hc:n > pq re.steps t
    ·have hr:R=false:=by
      have:mF p x k r=true:=by
       rw [mF,hst,hdd]
       exact jm j (by omega) (by rw [← ht,hbad];exact decide_eq_true hc)
      have:kE p x k r=true:=by rw [kE,this];rfl
      rw [← hQQ,jM,jm r hlr this];rfl
     subst hr
     (repeat' ((conv=>whnf);first|with_reducible refine Idx.got hre rfl ?_|(exfalso;omega)|refine gA ?_|(refine gB ?_ ?_<;>intro h)|(refine gI ?_;intro x hx)|(refine gJ ?_;intro j x hj hx)|refine gV ?_|refine gC (uQ re.steps t) ?_|intro _))<;>try (conv=>whnf)
     all_goals first
      |(exfalso;omega)
      |exact⟨rfl,rfl,trivial⟩
    ·(repeat' ((conv=>whnf);first|with_reducible refine Idx.got hre rfl ?_|(exfalso;omega)|refine gA ?_|(refine gB ?_ ?_<;>intro h)|(refine gI ?_;intro x hx)|(refine gJ ?_;intro j x hj hx)|refine gV ?_|refine gC (uQ re.steps t) ?_|intro _))<;>try (conv=>whnf)
     all_goals first
      |(exfalso;omega)
      |(refine nx ⟨j+1,t+1⟩ ?_
        refine⟨by omega,by omega,fun i' hi'=>?_⟩
        by_cases h':i' < j
        ·exact hT i' h'
        ·obtain rfl:i'=j:=by omega
         rw [← ht,hbad];exact decide_eq_false hc)
  ·have hTB:mF p x k r=false:=by
    rw [mF,hst,hdd]
    exact nI.2 fun i hh=>hT i (by omega)
   clear hT
   (repeat' ((conv=>whnf);first|with_reducible refine Br.no (decide_eq_false (by omega)) ?_|refine gA ?_|(refine gB ?_ ?_<;>intro h)|(refine gI ?_;intro x hx)|(refine gJ ?_;intro j x hj hx)|refine gV ?_|refine gC (iE p x.sched _ g rfl) ?_|intro _))<;>try (conv=>whnf)
   refine aG [2,3,4,7,16,17,82,83] [3,4] [] ?_
   (conv=>whnf)
   refine aC.go ((Nat)) (fun i=>(i≤x.done.length)∧(∀i',i' < i→kr p x k r i'=false)) (fun i=>[(84,.data (i64 i))]) (fun _=>[]) (fun _=>[]) (fun i=>x.done.length - i) (0) ?_ ?_
   ·exact⟨Nat.zero_le _,fun i h=>absurd h (by omega)⟩
   rintro i ⟨hi4,hP⟩
   by_cases h4:i < x.done.length
   ·obtain⟨o,ho⟩:∃y,x.done[i]? =some y:=⟨x.done[i]'h4,by simp⟩
    obtain⟨ko,rfl,hko⟩:=hd o (List.mem_of_getElem? ho)
    have ea:kr p x k r i=mG p x k r ko:=by rw [kr,ho]
    cases hm:fC p r with
    |false=>
     have hn:=jo hP (by rw [ea,mG,hm];rfl)
     (repeat' ((conv=>whnf);first|with_reducible refine Idx.got ho rfl ?_|refine gA ?_|(refine gB ?_ ?_<;>intro h)|(refine gI ?_;intro x hx)|(refine gJ ?_;intro j x hj hx)|refine gV ?_|refine gC (iT p r) ?_|intro _))<;>try (conv=>whnf)
     all_goals first
      |(exfalso;omega)
      |(exfalso;simp_all;done)
      |(refine nx (i+1) ?_
        exact⟨by omega,hn⟩)
    |true=>
    by_cases hoa:(ko:Int)=k
    ·have hn:=jo hP (by rw [ea,mG,hm,decide_eq_true hoa];rfl)
     (repeat' ((conv=>whnf);first|with_reducible refine Idx.got ho rfl ?_|refine gA ?_|(refine gB ?_ ?_<;>intro h)|(refine gI ?_;intro x hx)|(refine gJ ?_;intro j x hj hx)|refine gV ?_|refine gC (iT p r) ?_|intro _))<;>try (conv=>whnf)
     all_goals first
      |(exfalso;omega)
      |(exfalso;simp_all;done)
      |(refine nx (i+1) ?_
        exact⟨by omega,hn⟩)
    have hQ:=He p x.sched 0 r ko k hf hm hko hk
    rw [FQ] at hQ
    cases hpf:dP p x.sched r k ko with
    |true=>
     have hr:R=false:=by
      have h1:(List.range x.done.length).any (kr p x k r)=true:=jm i h4 (by rw [ea,mG,hm,hpf,decide_eq_false hoa];rfl)
      have:kE p x k r=true:=by rw [kE,h1,Bool.or_true]
      rw [← hQQ,jM,jm r hlr this];rfl
     subst hr
     rw [hpf] at hQ
     (repeat' ((conv=>whnf);first|with_reducible refine Idx.got ho rfl ?_|refine gA ?_|(refine gB ?_ ?_<;>intro h)|(refine gI ?_;intro x hx)|(refine gJ ?_;intro j x hj hx)|refine gV ?_|refine gC (iT p r) ?_|refine gC (hQ) ?_|intro _))<;>try (conv=>whnf)
     all_goals first
      |(exfalso;omega)
      |exact⟨rfl,rfl,trivial⟩
      |(exfalso;simp_all;done)
    |false=>
     have hn:=jo hP (by rw [ea,mG,hm,hpf,decide_eq_false hoa];rfl)
     rw [hpf] at hQ
     (repeat' ((conv=>whnf);first|with_reducible refine Idx.got ho rfl ?_|refine gA ?_|(refine gB ?_ ?_<;>intro h)|(refine gI ?_;intro x hx)|(refine gJ ?_;intro j x hj hx)|refine gV ?_|refine gC (iT p r) ?_|refine gC (hQ) ?_|intro _))<;>try (conv=>whnf)
     all_goals first
      |(exfalso;omega)
      |(exfalso;simp_all;done)
      |(refine nx (i+1) ?_
        exact⟨by omega,hn⟩)
   ·have hn:=jo hR (by rw [kE,hTB,nI.2 fun i' hh=>hP i' (by omega)];rfl)
    (repeat' ((conv=>whnf);first|(exfalso;omega)|refine gA ?_|(refine gB ?_ ?_<;>intro h)|(refine gI ?_;intro x hx)|(refine gJ ?_;intro j x hj hx)|refine gV ?_|intro _))<;>try (conv=>whnf)
    refine nx (r+1) ?_
    exact⟨by omega,hn⟩
 ·have hG:R=true:=by rw [← hQQ,jM,nI.2 fun i hh=>hR i (by omega)];rfl
  subst hG
  (repeat' ((conv=>whnf);first|(exfalso;omega)|refine gA ?_|(refine gB ?_ ?_<;>intro h)|(refine gI ?_;intro x hx)|(refine gJ ?_;intro j x hj hx)|refine gV ?_|intro _))<;>try (conv=>whnf)
  exact⟨rfl,rfl,trivial⟩
theorem FR (p:Proj) (x:Pln) (hp:p.fine) (hf:aK p x.sched=true) (hd:∀o∈x.done,∃n:Nat,o=n∧n < p.acts.length) (hl:x.done.length≤p.acts.length):
  Con 105 [.d p.av,.d x.av] (.d (.bool (jN p x))):=by
 refine con Tryz.func105 rfl rfl Tryz.call105 rfl fun hwf=>?_
 have hok:=(aJ hf).1
 obtain⟨hna,hrl,hsl,_⟩:=jf hok
 generalize hQQ:jN p x=R
 (repeat' ((conv=>whnf);first|refine gA ?_|(refine gB ?_ ?_<;>intro h)|(refine gI ?_;intro x hx)|(refine gJ ?_;intro j x hj hx)|refine gV ?_|intro _))<;>try (conv=>whnf)
 refine aG [2,3,11,12] [2,3] [] ?_
 (conv=>whnf)
 refine aC.go ((Nat)) (fun r=>(r≤p.aL.length)∧(∀i,i < r→qE p x i=false)) (fun r=>[(13,.data (i64 r))]) (fun _=>[]) (fun _=>[]) (fun r=>p.aL.length - r) (0) ?_ ?_
 ·exact⟨Nat.zero_le _,fun i h=>absurd h (by omega)⟩
 rintro r ⟨hr,hS⟩
 by_cases hlr:r < p.aL.length
 ·obtain⟨c,hc⟩:∃y,p.aL[r]? =some y:=⟨p.aL[r]'hlr,by simp⟩
  have hres:=oU hlr
  (repeat' ((conv=>whnf);first|with_reducible refine Idx.got hc rfl ?_|(exfalso;omega)|refine gA ?_|(refine gB ?_ ?_<;>intro h)|(refine gI ?_;intro x hx)|(refine gJ ?_;intro j x hj hx)|refine gV ?_|intro _))<;>try (conv=>whnf)
  refine aG [2,3,5,6,11,12,13,19,20] [2,3] [] ?_
  (conv=>whnf)
  refine aC.go ((Nat)×(Int)) (fun⟨i,n⟩=>(i≤x.done.length)∧(0≤n∧n≤20*i)∧(cu (uo p x.sched r) (x.done.drop i) n=cu (uo p x.sched r) x.done 0)) (fun⟨i,n⟩=>[(21,.data (i64 i)),(7,.data (i64 n))]) (fun _=>[]) (fun _=>[]) (fun⟨i,n⟩=>x.done.length - i) ⟨0,0⟩ ?_ ?_
  ·exact⟨Nat.zero_le _,by omega,rfl⟩
  rintro⟨i,n⟩ ⟨hi3,hn,hs⟩
  by_cases h3:i < x.done.length
  ·obtain⟨o,ho⟩:∃y,x.done[i]? =some y:=⟨x.done[i]'h3,by simp⟩
   obtain⟨ko,rfl,hko⟩:=hd o (List.mem_of_getElem? ho)
   obtain⟨a',t',m',q',mo',g'⟩:=iB hf hko
   obtain⟨ρ,u,e1,e2,e3,e4⟩:=vS g' hres
   rw [ay ho,cu] at hs
   have eu:uo p x.sched r ko=u:=by simp [uo,dQ g',List.getD_eq_getElem?_getD,e1,e2]
   rw [eu] at hs
   (repeat' ((conv=>whnf);first|with_reducible refine Idx.got ho rfl ?_|with_reducible refine Idx.got e2 e1 ?_|refine gA ?_|(refine gB ?_ ?_<;>intro h)|(refine gI ?_;intro x hx)|(refine gJ ?_;intro j x hj hx)|refine gV ?_|refine gC (fB p x.sched _ g' rfl) ?_|intro _))<;>try (conv=>whnf)
   all_goals first
    |(exfalso;omega)
    |(refine nx ⟨i+1,n+u⟩ ?_
      exact⟨by omega,by omega,hs⟩)
  ·rw [aQ (by omega),cu] at hs
   have hbad:qE p x r=decide (n > c):=by rw [qE, ← hs];simp [List.getD_eq_getElem?_getD,hc]
   by_cases hcc:n > c
   ·have hr:R=false:=by rw [← hQQ,jN,jm r hlr (by rw [hbad];exact decide_eq_true hcc)];rfl
    subst hr
    (repeat' ((conv=>whnf);first|(exfalso;omega)|refine gA ?_|(refine gB ?_ ?_<;>intro h)|(refine gI ?_;intro x hx)|(refine gJ ?_;intro j x hj hx)|refine gV ?_|intro _))<;>try (conv=>whnf)
    all_goals first
     |(exfalso;omega)
     |exact⟨rfl,rfl,trivial⟩
   ·have hn':=jo hS (by rw [hbad];exact decide_eq_false hcc)
    (repeat' ((conv=>whnf);first|(exfalso;omega)|refine gA ?_|(refine gB ?_ ?_<;>intro h)|(refine gI ?_;intro x hx)|(refine gJ ?_;intro j x hj hx)|refine gV ?_|intro _))<;>try (conv=>whnf)
    all_goals first
     |(exfalso;omega)
     |(refine nx (r+1) ?_
       exact⟨by omega,hn'⟩)
 ·have hK:R=true:=by rw [← hQQ,jN,nI.2 fun i hh=>hS i (by omega)];rfl
  subst hK
  (repeat' ((conv=>whnf);first|(exfalso;omega)|refine gA ?_|(refine gB ?_ ?_<;>intro h)|(refine gI ?_;intro x hx)|(refine gJ ?_;intro j x hj hx)|refine gV ?_|intro _))<;>try (conv=>whnf)
  exact⟨rfl,rfl,trivial⟩
theorem Ub {p:Proj} {x:Pln} {k:Nat} {m t:Int} {y:au} {q:Nat} {mo:Mode} (g:FJ p x k m t y q mo):vR p (bC x k m t).sched k y t m q mo:=by
 obtain⟨h1,_,_,_⟩:=jO g.ok
 have hs:=aJ h1
 have hk:=(List.getElem?_eq_some_iff.1 g.act).1
 exact⟨g.act,by simp [bC,show k < x.sched.starts.length by omega],by simp [bC,show k < x.sched.modes.length by omega],g.mq,g.moE,g.tb,(fE hs.1).act k y g.act⟩
theorem Ad (p:Proj) (x:Pln) (k:Nat) (m t:Int) {y:au} {q:Nat} {mo:Mode} (hp:p.fine) (g:FJ p x k m t y q mo):Con 61 [.d p.av,.d x.av,.d (i64 k),.d (i64 m),.d (i64 t)] (.d (.bool (decide (t+mo.dur≤p.dead)&&iV p (bC x k m t) k))):=by
 refine con Tryz.func61 rfl rfl Tryz.call61 rfl fun hwf=>?_
 obtain⟨hf,hso,hd,hl⟩:=jO g.ok
 have hs:=aJ hf
 have hkl:=(List.getElem?_eq_some_iff.1 g.act).1
 obtain⟨l1,l2,l3⟩:=zZ g
 have hpd:=Nu hd hkl (m:=m) (t:=t)
 have hm:within m 0 (y.modes.length - 1)=true:=by
  have:=(List.getElem?_eq_some_iff.1 g.moE).1
  have:=g.mq
  exact within_iff.2 (by omega)
 have hfp:aK p (bC x k m t).sched=true:=xE hf g.act hm (within_iff.2 g.tb)
 have sg:=Ub g
 have he:=kP sg
 have hE:=iE p (bC x k m t).sched (k:Int) sg rfl
 rw [he] at hE
 have hL:=GZ p (bC x k m t) k hp hfp
 have hM:=KE p (bC x k m t) k hp hfp hkl hpd.1 hpd.2
 have hS:=FR p (bC x k m t) hp hfp hpd.1 hpd.2
 rw [iV]
 generalize kF p (bC x k m t) k=B1 at hL ⊢
 generalize jM p (bC x k m t) k=B2 at hM ⊢
 generalize jN p (bC x k m t)=B3 at hS ⊢
 have eA:(bC x k m t).av= .agg [.sl ((x.sched.starts.map i64).set k (bP (i64 0) 0 (i64 t))),.sl ((x.sched.modes.map i64).set k (bP (i64 0) 0 (i64 m))),ints (setOf (x.done++[(k:Int)]))]:=by
  simp [Pln.av,bC,List.map_set,bP]
 have eB:(bC x k m t).sched.av= .agg [.sl ((x.sched.starts.map i64).set k (bP (i64 0) 0 (i64 t))),.sl ((x.sched.modes.map i64).set k (bP (i64 0) 0 (i64 m)))]:=by
  simp [aA.av,bC,List.map_set,bP]
 rw [eA] at hL hM hS
 rw [eB] at hE
 obtain⟨s0,hs0⟩:∃s,x.sched.starts[k]? =some s:=⟨x.sched.starts[k]'l1,by simp⟩
 obtain⟨m0,hm0⟩:∃s,x.sched.modes[k]? =some s:=⟨x.sched.modes[k]'l2,by simp⟩
 (repeat' ((conv=>whnf);first|with_reducible refine Idx.got hs0 rfl ?_|with_reducible refine Idx.got hm0 rfl ?_|refine gA ?_|(refine gB ?_ ?_<;>intro h)|(refine gI ?_;intro x hx)|(refine gJ ?_;intro j x hj hx)|refine gC (Ac x) ?_|refine gC (CQ x.done k l3) ?_|refine gC (hE) ?_|refine gC (hL) ?_|refine gC (hM) ?_|refine gC (hS) ?_|intro _))<;>try (conv=>whnf)
 all_goals (refine⟨?_,rfl,trivial⟩;simp [*])
theorem FT (p:Proj) (x:Pln) (a m:Int) (hp:p.fine):Con 60 [.d p.av,.d x.av,.d (i64 a),.d (i64 m)] (.d (.bool (oI p x&&(bH p a&&(!x.done.contains a&&within m 0 ((jG p a.toNat).modes.length - 1)))))):=by
 refine con Tryz.func60 rfl rfl Tryz.call60 rfl fun hwf=>?_
 have hA:=dI a 0 (((p.acts.map au.av).length:Int) - 1)
 rw [show within a 0 (((p.acts.map au.av).length:Int) - 1)=bH p a by rw [List.length_map];rfl] at hA
 simp only [ARs.wf,AR.wf,AV.wf,AV.wfs,lm,lim] at hwf
 have hP:=Nz p x hp
 cases h1:oI p x with
 |false=>
  rw [h1] at hP
  (repeat' ((conv=>whnf);first|refine gA ?_|(refine gN ?_ ?_<;>intro h hw)|(refine gB ?_ ?_<;>intro h)|(refine gI ?_;intro x hx)|(refine gJ ?_;intro j x hj hx)|refine gV ?_|refine gC (hP) ?_|intro _))<;>try (conv=>whnf)
  exact⟨rfl,rfl,trivial⟩
 |true=>
 rw [h1] at hP
 cases h2:bH p a with
 |false=>
  rw [h2] at hA
  (repeat' ((conv=>whnf);first|refine gA ?_|(refine gN ?_ ?_<;>intro h hw)|(refine gB ?_ ?_<;>intro h)|(refine gI ?_;intro x hx)|(refine gJ ?_;intro j x hj hx)|refine gV ?_|refine gC (hP) ?_|refine gC (hA) ?_|intro _))<;>try (conv=>whnf)
  exact⟨rfl,rfl,trivial⟩
 |true=>
 rw [h2] at hA
 obtain⟨k,y,rfl,hy⟩:=iI h2
 rw [Int.toNat_natCast,Bh hy]
 have hmf:=IX (aJ (jO h1).1).1 hy
 have hW:=dI m 0 (((y.modes.map Mode.av).length:Int) - 1)
 rw [show within m 0 (((y.modes.map Mode.av).length:Int) - 1)=within m 0 (y.modes.length - 1) by rw [List.length_map]] at hW
 (repeat' ((conv=>whnf);first|with_reducible refine Idx.got hy rfl ?_|refine gA ?_|(refine gN ?_ ?_<;>intro h hw)|(refine gB ?_ ?_<;>intro h)|(refine gI ?_;intro x hx)|(refine gJ ?_;intro j x hj hx)|refine gV ?_|refine gC (hP) ?_|refine gC (hA) ?_|refine gC (gZ x.done k) ?_|refine gC (hW) ?_|intro _))<;>try (conv=>whnf)
 all_goals (refine⟨?_,rfl,trivial⟩;simp only [*];rfl)
theorem IY {p:Proj} {x:Pln} {a m:Int} (h:(oI p x&&(bH p a&&(!x.done.contains a&&within m 0 ((jG p a.toNat).modes.length - 1))))=true) {t:Int} (ht:0≤t∧t≤60):
  ∃(k:Nat) (y:au) (q:Nat) (mo:Mode),a=k∧FJ p x k m t y q mo∧bf p x a m t=(decide (t+mo.dur≤p.dead)&&iV p (bC x k m t) k):=by
 simp only [Bool.and_eq_true] at h
 obtain⟨h1,h2,h3,h4⟩:=h
 obtain⟨k,y,rfl,hy⟩:=iI h2
 rw [Int.toNat_natCast,Bh hy] at h4
 have hw:=within_iff.1 h4
 refine⟨k,y,m.toNat,y.modes[m.toNat]'(by omega),rfl,⟨h1,hy,by omega,by simp,ht⟩,?_⟩
 rw [uq hy,h1,h3,h4,show bM t=true from within_iff.2 ht]
 simp [List.getD_eq_getElem?_getD,show m.toNat < y.modes.length by omega]
theorem NA {p:Proj} {x:Pln} {a m:Int} (h:(oI p x&&(bH p a&&(!x.done.contains a&&within m 0 ((jG p a.toNat).modes.length - 1))))=false) (t:Int):bf p x a m t=false:=by
 cases hf:bf p x a m t with
 |false=>rfl
 |true=>
  simp only [bf,Bool.and_eq_true] at hf
  obtain⟨h1,h2,h3,h4,_⟩:=hf
  simp [h1,h2,h3,h4] at h
  simp [h] at h3
theorem Hf (p:Proj) (x:Pln) (a m t:Int) (hp:p.fine):Con 62 [.d p.av,.d x.av,.d (i64 a),.d (i64 m),.d (i64 t)] (.d (.bool (bf p x a m t))):=by
 refine con Tryz.func62 rfl rfl Tryz.call62 rfl fun hwf=>?_
 have hO:=FT p x a m hp
 have hT:=dI t 0 60
 cases h:(oI p x&&(bH p a&&(!x.done.contains a&&within m 0 ((jG p a.toNat).modes.length - 1)))) with
 |false=>
  rw [h] at hO
  rw [NA h]
  (repeat' ((conv=>whnf);first|refine gA ?_|(refine gN ?_ ?_<;>intro h hw)|(refine gB ?_ ?_<;>intro h)|refine gC (hO) ?_|intro _))<;>try (conv=>whnf)
  exact⟨rfl,rfl,trivial⟩
 |true=>
 rw [h] at hO
 cases ht:within t 0 60 with
 |false=>
  rw [ht] at hT
  rw [show bf p x a m t=false by simp [bf,bM,ht]]
  (repeat' ((conv=>whnf);first|refine gA ?_|(refine gN ?_ ?_<;>intro h hw)|(refine gB ?_ ?_<;>intro h)|refine gC (hO) ?_|refine gC (hT) ?_|intro _))<;>try (conv=>whnf)
  exact⟨rfl,rfl,trivial⟩
 |true=>
 rw [ht] at hT
 obtain⟨k,y,q,mo,rfl,g,e⟩:=IY h (within_iff.1 ht)
 rw [e]
 (repeat' ((conv=>whnf);first|refine gA ?_|(refine gN ?_ ?_<;>intro h hw)|(refine gB ?_ ?_<;>intro h)|refine gC (hO) ?_|refine gC (hT) ?_|refine gC (Ad p x k m t hp g) ?_|intro _))<;>try (conv=>whnf)
 exact⟨rfl,rfl,trivial⟩
theorem Ru {p:Proj} {x:Pln} {a m t:Int} (h:bf p x a m t=true):t < p.dead:=by
 obtain⟨k,y,q,mo,rfl,g⟩:=zY h
 rw [uq g.act] at h
 simp only [Bool.and_eq_true,decide_eq_true_eq] at h
 have hs:=aJ (jO g.ok).1
 have hdu:=(qp ((fE hs.1).act k y g.act) (List.mem_of_getElem? g.moE)).1
 have e:(y.modes.getD m.toNat ⟨0,[],[]⟩).dur=mo.dur:=by
  have:=g.mq;subst this
  simp [List.getD_eq_getElem?_getD,g.moE]
 rw [e] at h
 omega
theorem rO {p:Proj} {x:Pln} {a m:Int}:∀{n:Nat} {t:Int},(∀u,t≤u→bf p x a m u=false)→earliest p x a m n t=none
 |0,_,_=>rfl
 |n+1,t,h=>by rw [nL,if_neg (by simp [h t (Int.le_refl _)])];exact rO fun u hu=>h u (by omega)
theorem rA (p:Proj) (x:Pln) (a m fr:Int) (hp:p.fine):Con 27 [.d p.av,.d x.av,.d (i64 a),.d (i64 m),.d (i64 fr)] (GL (bA p x a m fr)):=by
 refine con Tryz.func27 rfl rfl Tryz.call27 rfl fun hwf=>?_
 have hO:=FT p x a m hp
 cases h:(oI p x&&(bH p a&&(!x.done.contains a&&within m 0 ((jG p a.toNat).modes.length - 1)))) with
 |false=>
  rw [h] at hO
  rw [show bA p x a m fr=none from rO fun u _=>NA h u]
  (repeat' ((conv=>whnf);first|refine gA ?_|(refine gB ?_ ?_<;>intro h)|refine gV ?_|refine gC (hO) ?_|intro _))<;>try (conv=>whnf)
  exact fv
 |true=>
 rw [h] at hO
 have hde:=MX (aJ (jO ((Bool.and_eq_true _ _).mp h).1).1).1
 generalize hR:bA p x a m fr=R
 have hX:=nU 0 fr
 rw [Int.max_comm] at hX
 (repeat' ((conv=>whnf);first|refine gA ?_|(refine gB ?_ ?_<;>intro h)|refine gV ?_|refine gC (hO) ?_|refine gC (hX) ?_|intro _))<;>try (conv=>whnf)
 refine aG [2,3,5,6] [5,6] [] ?_
 (conv=>whnf)
 refine aC.go ((Int)) (fun t=>(0≤t)∧(earliest p x a m (61 - t).toNat t=R)) (fun t=>[(12,.data (i64 t))]) (fun _=>[]) (fun _=>[]) (fun t=>(p.dead - t).toNat) (max fr 0) ?_ ?_
 ·exact⟨by omega,hR⟩
 rintro t ⟨h0,he⟩
 by_cases hlt:t < p.dead
 ·rw [show (61 - t).toNat=(61 - (t+1)).toNat+1 by omega,nL] at he
  obtain⟨k,y,q,mo,hak,g,e⟩:=IY h (t:=t) (by omega)
  have hF:=Ad p x k m t hp g
  rw [← e, ← hak] at hF
  cases hf:bf p x a m t with
  |true=>
   rw [if_pos hf] at he
   subst he
   rw [hf] at hF
   (repeat' ((conv=>whnf);first|with_reducible refine Br.yes (decide_eq_true (by omega)) ?_|refine gA ?_|(refine gB ?_ ?_<;>intro h)|refine gV ?_|refine gC (hF) ?_|intro _))<;>try (conv=>whnf)
   exact fv
  |false=>
   rw [if_neg (by simp [hf])] at he
   rw [hf] at hF
   (repeat' ((conv=>whnf);first|with_reducible refine Br.yes (decide_eq_true (by omega)) ?_|refine gA ?_|(refine gB ?_ ?_<;>intro h)|refine gV ?_|refine gC (hF) ?_|intro _))<;>try (conv=>whnf)
   refine nx (t+1) ?_
   exact⟨by omega,he⟩
 ·have hno:earliest p x a m (61 - t).toNat t=none:=rO fun u hu=>by
   cases hf:bf p x a m u with
   |false=>rfl
   |true=>have:=Ru hf;omega
  rw [hno] at he
  subst he
  (repeat' ((conv=>whnf);first|with_reducible refine Br.no (decide_eq_false (by omega)) ?_|refine gA ?_|(refine gB ?_ ?_<;>intro h)|refine gV ?_|intro _))<;>try (conv=>whnf)
  exact fv
def Bo (p:Proj) (x:Pln) (a m t:Int):Option Pln:=if bf p x a m t=true then some (bC x a.toNat m t) else none
def Uc (o:Option Pln):RV:=.tup [.d (o.getD Wi).av,.d (.bool o.isSome)]
theorem Ae (p:Proj) (x:Pln) (a m t:Int) (hp:p.fine):Con 28 [.d p.av,.d x.av,.d (i64 a),.d (i64 m),.d (i64 t)] (Uc (Bo p x a m t)):=by
 refine con Tryz.func28 rfl rfl Tryz.call28 rfl fun hwf=>?_
 have hF:=Hf p x a m t hp
 cases hf:bf p x a m t with
 |false=>
  rw [hf] at hF
  rw [Bo,if_neg (by simp [hf])]
  (repeat' ((conv=>whnf);first|refine gA ?_|(refine gB ?_ ?_<;>intro h)|(refine gI ?_;intro x hx)|(refine gJ ?_;intro j x hj hx)|refine gC (hF) ?_|intro _))<;>try (conv=>whnf)
  exact fv
 |true=>
  rw [hf] at hF
  rw [Bo,if_pos hf]
  obtain⟨k,y,q,mo,rfl,g⟩:=zY hf
  obtain⟨l1,l2,l3⟩:=zZ g
  obtain⟨s0,hs0⟩:∃s,x.sched.starts[k]? =some s:=⟨x.sched.starts[k]'l1,by simp⟩
  obtain⟨m0,hm0⟩:∃s,x.sched.modes[k]? =some s:=⟨x.sched.modes[k]'l2,by simp⟩
  rw [Int.toNat_natCast]
  (repeat' ((conv=>whnf);first|with_reducible refine Idx.got hs0 rfl ?_|with_reducible refine Idx.got hm0 rfl ?_|refine gA ?_|(refine gB ?_ ?_<;>intro h)|(refine gI ?_;intro x hx)|(refine gJ ?_;intro j x hj hx)|refine gC (hF) ?_|refine gC (Ac x) ?_|refine gC (CQ x.done k l3) ?_|intro _))<;>try (conv=>whnf)
  (repeat' ((conv=>whnf)<;>(first|exact trivial|exact VC.nod (by kernel_rfl)|refine VC.mk (by first|with_reducible rfl|(simp [bC,List.map_set,bP];done)|rfl) ?_)))
def QE (o:Option aA):RV:=.tup [.d (o.getD wP).av,.d (.bool o.isSome)]
theorem ni:QE none= .tup [.d (.agg [.sl [],.sl []]),.d (.bool false)]:=rfl
theorem Pq (s:aA):QE (some s)= .tup [.d s.av,.d (.bool true)]:=rfl
theorem FU {p:Proj} {x:Pln} {k:Nat} {m t:Int} (h:bf p x k m t=true):Bo p x k m t=some (bC x k m t):=by rw [Bo,if_pos h,Int.toNat_natCast]
attribute [local irreducible] bf bA uw Ny dR bC TW fA Bo
end Go.Proofs.YtpfgedlimdeffaaGreat.Abs
