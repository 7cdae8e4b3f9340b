/- Contracts: a refutation is found; literals that follow from a rule are explained. -/
import Derived.Test.YtgkfifiobmklcaaGreatC28
import Derived.Test.YtgkfifiobmklcaaGreatC12
set_option linter.all false
set_option maxRecDepth 20000
set_option maxHeartbeats 0
namespace Go.Proofs.YtgkfifiobmklcaaGreat.Abs
open Go.Proofs
theorem Wv {p:Proj} {b:Dom} (hu:usable p b=true) {r:Rul} (h:r∈FN p b):iV p r=true:=by
 have hpo:=(dA (oU hu).1).1
 simp only [FN,kF,qd,List.mem_append,List.mem_map,List.mem_flatMap,List.mem_range] at h
 rcases h with (((⟨k,hk,rfl⟩|⟨k,hk,rfl⟩)|⟨k,hk,rfl⟩)|⟨i,hi,h⟩)|⟨i,hi,a,ha,h⟩
 ·have hw:within (k:Int) 0 ((p.links.length:Int) - 1)=true:=within_iff.2 (by omega)
  simp [iV,lI,hpo,hw]
 ·have hw:bG p (k:Int)=true:=within_iff.2 (by omega)
  simp [iV,endRule,hpo,hw]
 ·have hw:jR p (k:Int)=true:=within_iff.2 (by omega)
  simp [iV,jT,hpo,hw]
 ·have hw:fQ p (i:Int)=true:=within_iff.2 (by omega)
  obtain⟨x,hx⟩:∃x,p.bC[i]? =some x:=⟨p.bC[i]'hi,by simp⟩
  rw [Jq hx,List.mem_append,List.mem_map,List.mem_map] at h
  rcases h with⟨t,ht,rfl⟩|⟨q,hq,rfl⟩
  ·have:=(List.mem_filter.1 ht).2
   simp [iV,MP,hpo,hw,this]
  ·obtain⟨u,v,rfl,h1,h2,h3⟩:=Cz hq
   simp [iV,Pz,hpo,hw,h1,h2,h3]
 ·unfold fT at h
  split at h
  ·rename_i hm
   obtain⟨j,hj,rfl⟩:=List.mem_map.1 h
   have hj:=List.mem_range.1 hj
   have h1:bG p (a:Int)=true:=within_iff.2 (by omega)
   have h2:bG p ((a+1+j:Nat):Int)=true:=within_iff.2 (by omega)
   have h3:(a:Int) < ((a+1+j:Nat):Int):=by omega
   unfold iV nu
   dsimp only
   rw [hpo,Bool.true_and,if_neg (by decide),if_neg (by decide),if_neg (by decide),if_neg (by decide),if_pos rfl]
   simp only [hm,h1,h2,decide_eq_true h3]
   rfl
  ·simp at h
theorem FP {p:Proj} {b:Dom} {r:Rul} (h:r∈bB p b):usable p b=true∧iV p r=true:=by
 unfold bB at h
 split at h
 ·rename_i hu
  exact⟨hu,Wv hu h⟩
 ·simp at h
def RH:Rul:=⟨0,0,0,0⟩
def dQ (p:Proj) (b:Dom):Option Rul:=if ak p b=true∧aL b=true then some RH else (bB p b).find? (refutes p b)
def Ww (o:Option Rul):RV:=.tup [.d (o.getD RH).av,.d (.bool o.isSome)]
theorem PG {α:Type} {f:α→Bool} {l:List α} {k:Nat} {x:α} (h:l[k]? =some x):(l.drop k).find? f=if f x=true then some x else (l.drop (k+1)).find? f:=by
 rw [ay h,List.find?_cons];cases f x<;>rfl
theorem CB (p:Proj) (b:Dom):(bB p b).length≤300:=by
 unfold bB
 split
 ·rename_i hu
  have hf:=(oU hu).1
  have hpo:=(dA hf).1
  have h1:=PD hpo
  have h2:=MU hpo
  have h3:=Cy hf
  obtain⟨_,hr3,_,_⟩:=nO hpo
  obtain⟨_,l1,l2,l3,_⟩:=dA hf
  have hna:=(fU hpo).NV
  have h4:∀i,(tO p b i).length≤50:=fun i=>by
   unfold tO
   split
   ·rename_i x hx
    have h5:=PE hpo hx
    have h6:=jU (b.hi++x.steps.map Step.at')
    have h7:=List.length_filter_le dS (setOf (b.hi++x.steps.map Step.at'))
    simp only [List.length_append,List.length_map] at h6
    simp only [FM,List.length_append,List.length_map];omega
   ·simp
  have h5:=nV (f:=tO p b) (c:=50) (l:=List.range p.bC.length) fun i _=>h4 i
  simp only [List.length_range] at h5
  simp only [FN,List.length_append];omega
 ·simp
theorem mV (p:Proj) (b:Dom) (hp:p.fine):Con 17 [.d p.av,.d b.av] (Ww (dQ p b)):=by
 refine con Tryz.func17 rfl rfl Tryz.call17 rfl fun hwf=>?_
 simp only [ARs.wf,AR.wf,AV.wf,AV.wfs,lm,lim] at hwf
 have hl:=CB p b
 cases h1:ak p b with
 |false=>
  rw [dQ,if_neg (by simp [h1])]
  (repeat' ((conv=>whnf);first|refine gA ?_|(refine gB ?_ ?_<;>intro h)|(refine gI ?_;intro x hx)|(refine gJ ?_;intro j x hj hx)|refine gV ?_|refine gC (aY p b hp) ?_|refine gC (bD b) ?_|refine gC (mU p b hp) ?_|intro _))<;>try (conv=>whnf)
  refine aB [2,3,4,18,19] [2,3,4] [] ?_
  (conv=>whnf)
  refine aA.go ((Nat)) (fun k=>(k≤(bB p b).length)∧(((bB p b).drop k).find? (refutes p b)=(bB p b).find? (refutes p b))) (fun k=>[(20,.data (i64 k))]) (fun _=>[]) (fun _=>[]) (fun k=>(bB p b).length - k) (0) ?_ ?_
  ·exact⟨Nat.zero_le _,rfl⟩
  rintro k ⟨hk,hi⟩
  by_cases hlt:k < (bB p b).length
  ·obtain⟨r,hr⟩:∃r,(bB p b)[k]? =some r:=⟨(bB p b)[k]'hlt,by simp⟩
   rw [PG hr] at hi
   (repeat' ((conv=>whnf);first|with_reducible refine Idx.got hr rfl ?_|refine gA ?_|(refine gB ?_ ?_<;>intro h)|(refine gI ?_;intro x hx)|(refine gJ ?_;intro j x hj hx)|refine gV ?_|refine gC (iF p b r hp) ?_|intro _))<;>try (conv=>whnf)
   ·rw [if_pos (by assumption)] at hi
    rw [← hi]
    exact fv
   ·refine nx (k+1) ?_
    rw [if_neg (by simp [*])] at hi
    exact⟨by omega,hi⟩
   ·exfalso;omega
  ·(repeat' ((conv=>whnf);first|(exfalso;omega)|refine gA ?_|(refine gB ?_ ?_<;>intro h)|(refine gI ?_;intro x hx)|(refine gJ ?_;intro j x hj hx)|refine gV ?_|intro _))<;>try (conv=>whnf)
   rw [aP (by assumption)] at hi
   rw [← hi]
   exact fv
 |true=>
 cases h2:aL b with
 |true=>
  rw [dQ,if_pos ⟨h1,h2⟩]
  (repeat' ((conv=>whnf);first|refine gA ?_|(refine gB ?_ ?_<;>intro h)|(refine gI ?_;intro x hx)|(refine gJ ?_;intro j x hj hx)|refine gV ?_|refine gC (aY p b hp) ?_|refine gC (bD b) ?_|intro _))<;>try (conv=>whnf)
  exact fv
 |false=>
  rw [dQ,if_neg (by simp [h2])]
  (repeat' ((conv=>whnf);first|refine gA ?_|(refine gB ?_ ?_<;>intro h)|(refine gI ?_;intro x hx)|(refine gJ ?_;intro j x hj hx)|refine gV ?_|refine gC (aY p b hp) ?_|refine gC (bD b) ?_|refine gC (mU p b hp) ?_|intro _))<;>try (conv=>whnf)
  refine aB [2,3,4,18,19] [2,3,4] [] ?_
  (conv=>whnf)
  refine aA.go ((Nat)) (fun k=>(k≤(bB p b).length)∧(((bB p b).drop k).find? (refutes p b)=(bB p b).find? (refutes p b))) (fun k=>[(20,.data (i64 k))]) (fun _=>[]) (fun _=>[]) (fun k=>(bB p b).length - k) (0) ?_ ?_
  ·exact⟨Nat.zero_le _,rfl⟩
  rintro k ⟨hk,hi⟩
  by_cases hlt:k < (bB p b).length
  ·obtain⟨r,hr⟩:∃r,(bB p b)[k]? =some r:=⟨(bB p b)[k]'hlt,by simp⟩
   rw [PG hr] at hi
   (repeat' ((conv=>whnf);first|with_reducible refine Idx.got hr rfl ?_|refine gA ?_|(refine gB ?_ ?_<;>intro h)|(refine gI ?_;intro x hx)|(refine gJ ?_;intro j x hj hx)|refine gV ?_|refine gC (iF p b r hp) ?_|intro _))<;>try (conv=>whnf)
   ·rw [if_pos (by assumption)] at hi
    rw [← hi]
    exact fv
   ·refine nx (k+1) ?_
    rw [if_neg (by simp [*])] at hi
    exact⟨by omega,hi⟩
   ·exfalso;omega
  ·(repeat' ((conv=>whnf);first|(exfalso;omega)|refine gA ?_|(refine gB ?_ ?_<;>intro h)|(refine gI ?_;intro x hx)|(refine gJ ?_;intro j x hj hx)|refine gV ?_|intro _))<;>try (conv=>whnf)
   rw [aP (by assumption)] at hi
   rw [← hi]
   exact fv
def dW (p:Proj) (b:Dom) (r:Rul) (l:Lit):List Lit×Bool:=
 if bJ p l=true∧refutes p (restrict b (negate l)) r=true then (qc p r (fun x=>bM x l) (bH (nN p b++[l])),true) else ([],false)
def aec (r:List Lit×Bool):RV:=.tup [.fr (r.1.map Lit.av),.d (.bool r.2)]
theorem Ac (x l:Lit):Con 110 [.d x.av,.ref l.av] (.d (.bool (bM x l))):=by
 refine con Tryz.func110 rfl rfl Tryz.call110 rfl fun hwf=>?_
 (repeat' ((conv=>whnf);first|refine gA ?_|(refine gB ?_ ?_<;>intro h)|intro _))<;>try (conv=>whnf)
 all_goals exact⟨by simp [bM],rfl,trivial⟩
theorem ZU (p:Proj) (b:Dom):(nN p b).length≤1212:=by rw [nN,List.length_map];exact Jm p b
theorem Bu (p:Proj) (b:Dom) (r:Rul) (l:Lit) (hp:p.fine):Con 39 [.d p.av,.d b.av,.d r.av,.d l.av] (aec (dW p b r l)):=by
 refine con Tryz.func39 rfl rfl Tryz.call39 rfl fun hwf=>?_
 have hnl:=ZU p b
 have hN:=oO (nN p b++[l])
 rw [lits,List.map_append] at hN
 (repeat' ((conv=>whnf);first|refine gA ?_|(refine gB ?_ ?_<;>intro h)|refine gP ?_|refine gC (oL p l hp) ?_|refine gC (qI l) ?_|refine gC (fB b (negate l)) ?_|refine gC (iF p (restrict b (negate l)) r hp) ?_|refine gC (Ab p b hp) ?_|refine gC (hN) ?_|refine gC (MF p r (bH (nN p b++[l])) 110 [l.av] _ hp (fun x=>Ac x l)) ?_|intro _))<;>try (conv=>whnf)
 ·rw [dW,if_pos ⟨by assumption,by assumption⟩]
  exact fv
 ·rw [dW,if_neg (by simp [*])]
  exact fv
 ·rw [dW,if_neg (by simp [*])]
  exact fv
theorem MW {p:Proj} {b:Dom} (h:ak p b=true) {n:Nat} {m:List Int} (hm:b.modes[n]? =some m):nT m=true:=by
 have hn:=(List.getElem?_eq_some_iff.1 hm).1
 obtain⟨_,l1,l2,l3,_⟩:=dA h
 obtain⟨a,x,y,m',g⟩:=dL h (show n < p.acts.length by omega)
 have:=g.modes
 rw [hm] at this
 cases this
 exact g.mok
open Go.Proofs
theorem PI {p:Proj} {r:Int} {a:Int} (h:a∈users p r):∃k:Nat,a=k∧k < p.acts.length:=by
 unfold users at h
 split at h
 ·have h1:=(List.mem_filter.1 h).1
  simp only [upTo,List.mem_map,List.mem_range] at h1
  obtain⟨k,hk,rfl⟩:=h1
  exact⟨k,rfl,hk⟩
 ·simp at h
theorem wJ {p:Proj} {a:Int} (h:bG p a=true):∃k:Nat,a=k∧k < p.acts.length:=by
 obtain⟨n,x,h1,h2⟩:=lN h
 exact⟨n,h1,(List.getElem?_eq_some_iff.1 h2).1⟩
theorem xY {p:Proj} {r:Rul} {a:Int} (h:a∈jk p r):∃k:Nat,a=k∧k < p.acts.length:=by
 unfold jk at h
 split at h
 ·rename_i ho
  have hpo:aG p=true:=by simp only [iV,Bool.and_eq_true] at ho;exact ho.1
  cases Mh ho with
  |link hk k l e1 hl=>
   rw [if_pos hk,rX] at h
   have e:iE p r.a=l:=by simp [iE,e1,List.getD_eq_getElem?_getD,hl]
   rw [e] at h
   have hlo:=(fU hpo).link k l hl
   simp only [kV,Bool.and_eq_true] at hlo
   simp only [List.mem_cons,List.not_mem_nil,or_false] at h
   rcases h with rfl|rfl
   ·exact wJ hlo.1.1.1
   ·exact wJ hlo.1.1.2
  |fin hk ha=>
   simp [hk] at h
   subst h
   exact wJ ha
  |time hk ha hb=>simp [hk] at h;exact PI h
  |work hk ha hb hc hlt=>simp [hk] at h;exact PI h
  |pair hk ha hb hc hlt=>
   simp [hk] at h
   rcases h with rfl|rfl
   ·exact wJ hb
   ·exact wJ hc
  |Jf hk ha=>simp [hk] at h;exact Fp h
 ·simp at h
def qN (p:Proj) (b:Dom) (r:Rul) (k:Int) (a:Nat) (n:Int):Bool:=refutes p (restrict b ⟨k,a,n⟩) r
def goUp (f:Int→Bool) (hi:Int):Nat→Int→Int
 |0,n=>n
 |k+1,n=>if n≤hi∧f n=true then goUp f hi k (n+1) else n
def Ad (f:Int→Bool) (lo:Int):Nat→Int→Int
 |0,n=>n
 |k+1,n=>if n≥lo∧f n=true then Ad f lo k (n - 1) else n
theorem abm {f:Int→Bool} {hi n:Int} (h:n≤hi) (hf:f n=true):goUp f hi (hi+1 - n).toNat n=goUp f hi (hi+1 - (n+1)).toNat (n+1):=by
 obtain⟨m,hm⟩:∃m,(hi+1 - n).toNat=m+1:=⟨(hi - n).toNat,by omega⟩
 rw [hm,goUp,if_pos ⟨h,hf⟩,show (hi+1 - (n+1)).toNat=m by omega]
theorem ZV {f:Int→Bool} {hi n:Int} (h:¬(n≤hi∧f n=true)):∀k,goUp f hi k n=n
 |0=>rfl
 |k+1=>by rw [goUp,if_neg h]
theorem abn {f:Int→Bool} {lo n:Int} (h:n≥lo) (hf:f n=true):Ad f lo (n+1 - lo).toNat n=Ad f lo (n - 1+1 - lo).toNat (n - 1):=by
 obtain⟨m,hm⟩:∃m,(n+1 - lo).toNat=m+1:=⟨(n - lo).toNat,by omega⟩
 rw [hm,Ad,if_pos ⟨h,hf⟩,show (n - 1+1 - lo).toNat=m by omega]
theorem ZW {f:Int→Bool} {lo n:Int} (h:¬(n≥lo∧f n=true)):∀k,Ad f lo k n=n
 |0=>rfl
 |k+1=>by rw [Ad,if_neg h]
def atLeast (k:Nat) (lo n:Int):List Lit:=if n > lo then [⟨1,k,n⟩] else []
def vN (k:Nat) (up n:Int):List Lit:=if n < up then [⟨2,k,n⟩] else []
theorem Jr (k:Nat) (lo n:Int):(atLeast k lo n).length≤1:=by unfold atLeast;split<;>simp
theorem MX (k:Nat) (up n:Int):(vN k up n).length≤1:=by unfold vN;split<;>simp
def uP (p:Proj) (b:Dom) (r:Rul) (k:Nat) (lo up:Int) (m:List Int):List Lit:=
 atLeast k lo (goUp (qN p b r 2 k) up (up+1 - lo).toNat lo)++vN k up (Ad (qN p b r 1 k) lo (up+1 - lo).toNat up)++
  (m.filter fun v=>decide (m.length > 1)&&qN p b r 3 k v).map fun v=>⟨4,k,v⟩
def mW (p:Proj) (b:Dom) (r:Rul) (k:Nat):List Lit:=
 match b.lo[k]?,b.hi[k]?,b.modes[k]? with
 |some lo,some up,some m=>uP p b r k lo up m
 |_,_,_=>[]
theorem wK {p:Proj} {b:Dom} {r:Rul} {k:Nat} {a:aF} {x y:Int} {m:List Int} (g:gL p b k a x y m):mW p b r k=uP p b r k x y m:=by
 simp only [mW,g.lo,g.hi,g.modes]
theorem acS {l:List Int} (h:l.Pairwise (· < ·)):∀{lo hi:Int},(∀x∈l,lo≤x∧x < hi)→lo≤hi→(l.length:Int)≤hi - lo:=by
 induction l with
 |nil=>intro lo hi _ h;simp;omega
 |cons x r ih=>
  intro lo hi hx _
  rw [List.pairwise_cons] at h
  have h1:=hx x (by simp)
  have:=ih h.2 (lo:=x+1) (hi:=hi) (fun y hy=>⟨by have:=h.1 y hy;omega,(hx y (by simp [hy])).2⟩) (by omega)
  simp only [List.length_cons];push_cast;omega
theorem MZ {p:Proj} {b:Dom} {k:Nat} {a:aF} {x y:Int} {m:List Int} (g:gL p b k a x y m):m.length≤3:=by
 have h2:=g.aok
 simp only [bT,Bool.and_eq_true,within_iff] at h2
 have:=acS (tu g.mok) (lo:=0) (hi:=3) (fun x hx=>by
  obtain⟨j,rfl,hj⟩:=g.acI x hx
  omega) (by omega)
 omega
theorem Oi (p:Proj) (b:Dom) (r:Rul) (k:Nat) (hp:p.fine) (hf:ak p b=true) (hk:k < p.acts.length):Con 38 [.d p.av,.d b.av,.d r.av,.d (i64 k)] (.d (lits (mW p b r k))):=by
 refine con Tryz.func38 rfl rfl Tryz.call38 rfl fun hwf=>?_
 simp only [ARs.wf,AR.wf,AV.wf,AV.wfs,lm,lim] at hwf
 obtain⟨a,lo,up,m,g⟩:=dL hf hk
 rw [wK g,uP]
 have hlo:=g.lob
 have hup:=g.hib
 have hm3:=MZ g
 obtain⟨N,hN⟩:∃N,N=goUp (qN p b r 2 k) up (up+1 - lo).toNat lo:=⟨_,rfl⟩
 obtain⟨M,hM⟩:∃M,M=Ad (qN p b r 1 k) lo (up+1 - lo).toNat up:=⟨_,rfl⟩
 rw [← hN, ← hM]
 (repeat' ((conv=>whnf);first|with_reducible refine Idx.got g.lo rfl ?_|with_reducible refine Idx.got g.hi rfl ?_|with_reducible refine Idx.got g.modes rfl ?_|refine gA ?_|(refine gB ?_ ?_<;>intro h)|(refine gI ?_;intro x hx)|(refine gJ ?_;intro j x hj hx)|refine gP ?_|refine gV ?_|intro _))<;>try (conv=>whnf)
 refine aB [3,4,5,6,9] [4,5,6] [] ?_
 (conv=>whnf)
 refine aA.go ((Int)) (fun n=>(lo≤n)∧(n≤63)∧(goUp (qN p b r 2 k) up (up+1 - n).toNat n=N)) (fun n=>[(10,.data (i64 n))]) (fun _=>[]) (fun _=>[]) (fun n=>(up+1 - n).toNat) (lo) ?_ ?_
 ·exact⟨Int.le_refl _,by omega,hN.symm⟩
 rintro n ⟨hn,hn2,hi⟩
 (repeat' ((conv=>whnf);first|with_reducible refine Idx.got g.lo rfl ?_|with_reducible refine Idx.got g.hi rfl ?_|with_reducible refine Idx.got g.modes rfl ?_|refine gA ?_|(refine gB ?_ ?_<;>intro h)|(refine gI ?_;intro x hx)|(refine gJ ?_;intro j x hj hx)|refine gP ?_|refine gV ?_|refine gC (fB b ⟨2,k,n⟩) ?_|refine gC (iF p (restrict b ⟨2,k,n⟩) r hp) ?_|intro _))<;>try (conv=>whnf)
 ·refine nx (n+1) ?_
  exact⟨by omega,by omega,by rw [← abm (by assumption) (by assumption)];exact hi⟩
 all_goals
  have hoff:¬(n≤up∧qN p b r 2 k n=true):=by
   rintro⟨h1,h2⟩
   first|omega|(simp only [qN] at*;simp_all)
  rw [ZV hoff] at hi
  subst hi
  clear hN hoff
  refine aB [3,4,5,6,9] [4,5,6] [] ?_
  (conv=>whnf)
  refine aA.go ((Int)) (fun q=>(q≤up)∧(-3≤q)∧(Ad (qN p b r 1 k) lo (q+1 - lo).toNat q=M)) (fun q=>[(10,.data (i64 q))]) (fun _=>[]) (fun _=>[]) (fun q=>(q+1 - lo).toNat) (up) ?_ ?_
  ·exact⟨Int.le_refl _,by omega,hM.symm⟩
  rintro q ⟨hq,hq2,hj⟩
  (repeat' ((conv=>whnf);first|with_reducible refine Idx.got g.lo rfl ?_|with_reducible refine Idx.got g.hi rfl ?_|with_reducible refine Idx.got g.modes rfl ?_|refine gA ?_|(refine gB ?_ ?_<;>intro h)|(refine gI ?_;intro x hx)|(refine gJ ?_;intro j x hj hx)|refine gP ?_|refine gV ?_|refine gC (fB b ⟨1,k,q⟩) ?_|refine gC (iF p (restrict b ⟨1,k,q⟩) r hp) ?_|intro _))<;>try (conv=>whnf)
  ·refine nx (q - 1) ?_
   exact⟨by omega,by omega,by rw [← abn (by assumption) (by assumption)];exact hj⟩
  all_goals
   have abS:¬(q≥lo∧qN p b r 1 k q=true):=by
    rintro⟨h1,h2⟩
    first|omega|(simp only [qN] at*;simp_all)
   rw [ZW abS] at hj
   subst hj
   clear hM abS
   refine aB [3,4,5,6,92,93] [4,5,6] [13] ?_
   (conv=>whnf)
   refine aA.mk ((Nat)×(List Lit)) (fun⟨j,o⟩=>(j≤m.length)∧(o.length≤2+j)∧(o=(atLeast k lo n++vN k up q)++((m.take j).filter fun v=>decide (m.length > 1)&&qN p b r 3 k v).map (fun v=>⟨4,k,v⟩))) (fun⟨j,o⟩=>[(94,.data (i64 j)),(9,.own 13 0)]) (fun _=>[]) (fun⟨j,o⟩=>[(13,39,o.map Lit.av,0)]) (fun⟨j,o⟩=>m.length - j) ⟨0,atLeast k lo n++vN k up q⟩ ?_ ?_ ?_
   rotate_left
   ·(repeat' ((conv=>whnf)<;>(first|exact trivial|exact rfl|with_reducible refine And.intro ?_ ?_)))<;>((conv=>whnf)<;>(simp [atLeast,vN,Lit.av, *]))
   rotate_left
   ·exact⟨Nat.zero_le _,by have h1:=Jr k lo n;have h2:=MX k up q;simp only [List.length_append];omega,by simp⟩
   rintro⟨j,o⟩ ⟨hj3,ol,ho⟩
   by_cases hlt:j < m.length
   ·obtain⟨v,hv⟩:∃v,m[j]? =some v:=⟨m[j]'hlt,by simp⟩
    (repeat' ((conv=>whnf);first|with_reducible refine Idx.got hv rfl ?_|with_reducible refine Idx.got g.lo rfl ?_|with_reducible refine Idx.got g.hi rfl ?_|with_reducible refine Idx.got g.modes rfl ?_|refine gA ?_|(refine gB ?_ ?_<;>intro h)|(refine gI ?_;intro x hx)|(refine gJ ?_;intro j x hj hx)|refine gP ?_|refine gV ?_|refine gC (fB b ⟨3,k,v⟩) ?_|refine gC (iF p (restrict b ⟨3,k,v⟩) r hp) ?_|intro _))<;>try (conv=>whnf)
    ·refine nw ⟨j+1,o++[⟨4,k,v⟩]⟩ ?_ ?_
     ·(repeat' ((conv=>whnf)<;>(first|exact trivial|exact rfl|with_reducible refine And.intro ?_ ?_)))<;>((conv=>whnf)<;>(simp [Lit.av]))
     have hml:m.length > 1:=by omega
     exact⟨by omega,by simp;omega,(mM ho hv).1 (by simp only [qN] at*;simp [*])⟩
    ·refine nx ⟨j+1,o⟩ ?_
     exact⟨by omega,by omega,(mM ho hv).2 (by simp only [qN] at*;simp [*])⟩
    ·refine nx ⟨j+1,o⟩ ?_
     have hml:¬ m.length > 1:=by omega
     exact⟨by omega,by omega,(mM ho hv).2 (by simp only [qN] at*;simp [*])⟩
    ·exfalso;omega
   ·(repeat' ((conv=>whnf);first|(exfalso;omega)|refine gA ?_|(refine gB ?_ ?_<;>intro h)|(refine gI ?_;intro x hx)|(refine gJ ?_;intro j x hj hx)|refine gP ?_|refine gV ?_|intro _))<;>try (conv=>whnf)
    all_goals (refine⟨?_,rfl,trivial⟩;rw [ho,List.take_of_length_le (by omega)])
end Go.Proofs.YtgkfifiobmklcaaGreat.Abs
namespace Go.Proofs.YtgkfifiobmklcaaGreat.Abs
open Go.Proofs
def Bg (p:Proj) (b:Dom) (r:Rul) (a:Int):Option Infer:=(mW p b r a.toNat).head?.map fun l=>⟨l,r,(dW p b r l).1⟩
def uQ (p:Proj) (b:Dom) (r:Rul):Option Infer:=(jk p r).findSome? (Bg p b r)
def bq (p:Proj) (b:Dom):Option Infer:=if (dQ p b).isSome=true then none else (bB p b).findSome? (uQ p b)
def abo:Infer:=⟨bV,RH,[]⟩
def ZX (o:Option Infer):RV:=let x:=o.getD abo;.tup [.agg [.d (i64 x.lit.kind),.d (i64 x.lit.act),.d (i64 x.lit.val),.d (i64 x.rule.kind),.d (i64 x.rule.a),.d (i64 x.rule.b),.d (i64 x.rule.c),.fr (x.clause.map Lit.av)],.d (.bool o.isSome)]
theorem PK {α β:Type} {f:α→Option β} {l:List α} {k:Nat} {x:α} (h:l[k]? =some x):(l.drop k).findSome? f=(match f x with|some y=>some y|none=>(l.drop (k+1)).findSome? f):=by
 rw [ay h,List.findSome?_cons];cases f x<;>rfl
theorem xZ {p:Proj} {b:Dom} (h:usable p b=true):ak p b=true:=(oU h).1
theorem Wx (p:Proj) (b:Dom) (r:Rul) (k:Nat) (hf:ak p b=true) (hk:k < p.acts.length):(mW p b r k).length≤5:=by
 obtain⟨a,x,y,m,g⟩:=dL hf hk
 rw [wK g,uP]
 have h1:=Jr k x (goUp (qN p b r 2 k) y (y+1 - x).toNat x)
 have h2:=MX k y (Ad (qN p b r 1 k) x (y+1 - x).toNat y)
 have h3:=MZ g
 have h4:=List.length_filter_le (fun v=>decide (m.length > 1)&&qN p b r 3 k v) m
 simp only [List.length_append,List.length_map];omega
theorem RI (p:Proj) (r:Rul):(jk p r).length≤200:=by
 unfold jk
 split
 ·rename_i ho
  have hpo:aG p=true:=by simp only [iV,Bool.and_eq_true] at ho;exact ho.1
  have hna:=(fU hpo).NV
  split
  ·have:=jU [(iE p r.a).src,(iE p r.a).dst]
   simp only [List.length_cons,List.length_nil] at this;omega
  split
  ·simp
  split
  ·simp
  split
  ·exact FK _
  ·unfold users
   split
   ·have:=yS (Bf p r.a) p.acts.length;omega
   ·simp
 ·simp
theorem rF (p:Proj) (b:Dom) (hp:p.fine):Con 8 [.d p.av,.d b.av] (ZX (bq p b)):=by
 refine con Tryz.func8 rfl rfl Tryz.call8 rfl fun hwf=>?_
 have hF:=mV p b hp
 have hcl:=CB p b
 cases hn:(dQ p b).isSome with
 |true=>
  rw [bq,if_pos hn]
  rw [Ww,hn] at hF
  (repeat' ((conv=>whnf);first|refine gA ?_|(refine gB ?_ ?_<;>intro h)|(refine gI ?_;intro x hx)|(refine gJ ?_;intro j x hj hx)|refine gV ?_|refine gC (hF) ?_|intro _))<;>try (conv=>whnf)
  exact fv
 |false=>
  rw [bq,if_neg (by simp [hn])]
  rw [Ww,hn] at hF
  (repeat' ((conv=>whnf);first|refine gA ?_|(refine gB ?_ ?_<;>intro h)|(refine gI ?_;intro x hx)|(refine gJ ?_;intro j x hj hx)|refine gV ?_|refine gC (hF) ?_|refine gC (mU p b hp) ?_|intro _))<;>try (conv=>whnf)
  refine aB [2,3,4,26,27] [2,3,4] [] ?_
  (conv=>whnf)
  refine aA.go ((Nat)) (fun k=>(k≤(bB p b).length)∧(((bB p b).drop k).findSome? (uQ p b)=(bB p b).findSome? (uQ p b))) (fun k=>[(28,.data (i64 k))]) (fun _=>[]) (fun _=>[]) (fun k=>(bB p b).length - k) (0) ?_ ?_
  ·exact⟨Nat.zero_le _,rfl⟩
  rintro k ⟨hk,hi⟩
  by_cases hlt:k < (bB p b).length
  rotate_left
  ·(repeat' ((conv=>whnf);first|(exfalso;omega)|refine gA ?_|(refine gB ?_ ?_<;>intro h)|(refine gI ?_;intro x hx)|(refine gJ ?_;intro j x hj hx)|refine gV ?_|intro _))<;>try (conv=>whnf)
   rw [aP (by assumption)] at hi
   rw [← hi]
   exact fv
  obtain⟨r,hr⟩:∃r,(bB p b)[k]? =some r:=⟨(bB p b)[k]'hlt,by simp⟩
  obtain⟨hu,hro⟩:=FP (List.mem_of_getElem? hr)
  have hf:=xZ hu
  have hal:=RI p r
  rw [PK hr] at hi
  (repeat' ((conv=>whnf);first|with_reducible refine Idx.got hr rfl ?_|refine gA ?_|(refine gB ?_ ?_<;>intro h)|(refine gI ?_;intro x hx)|(refine gJ ?_;intro j x hj hx)|refine gV ?_|refine gC (Bt p r hp) ?_|intro _))<;>try (conv=>whnf)
  rotate_left
  ·exact trivial
  refine aB [2,3,4,9,26,27,28,34,35] [2,3,4,9] [] ?_
  (conv=>whnf)
  refine aA.go ((Nat)) (fun j=>(j≤(jk p r).length)∧(((jk p r).drop j).findSome? (Bg p b r)=uQ p b r)) (fun j=>[(36,.data (i64 j))]) (fun _=>[]) (fun _=>[]) (fun j=>(jk p r).length - j) (0) ?_ ?_
  ·exact⟨Nat.zero_le _,rfl⟩
  rintro j ⟨hj,hi2⟩
  by_cases hjl:j < (jk p r).length
  rotate_left
  ·rw [aP (by omega)] at hi2
   rw [← hi2] at hi
   (repeat' ((conv=>whnf);first|(exfalso;omega)|refine gA ?_|(refine gB ?_ ?_<;>intro h)|(refine gI ?_;intro x hx)|(refine gJ ?_;intro j x hj hx)|refine gV ?_|intro _))<;>try (conv=>whnf)
   refine nx (k+1) ?_
   exact⟨by omega,hi⟩
  obtain⟨a,ha⟩:∃a,(jk p r)[j]? =some a:=⟨(jk p r)[j]'hjl,by simp⟩
  obtain⟨n,rfl,hna⟩:=xY (List.mem_of_getElem? ha)
  have hil:=Wx p b r n hf hna
  rw [PK ha,Bg,Int.toNat_natCast] at hi2
  (repeat' ((conv=>whnf);first|with_reducible refine Idx.got ha rfl ?_|refine gA ?_|(refine gB ?_ ?_<;>intro h)|(refine gI ?_;intro x hx)|(refine gJ ?_;intro j x hj hx)|refine gV ?_|refine gC (Oi p b r n hp hf hna) ?_|intro _))<;>try (conv=>whnf)
  rotate_left
  ·exfalso;omega
  refine aB [2,3,4,9,26,27,28,34,35,36,44,45] [2,3,4,9] [] ?_
  (conv=>whnf)
  refine aA.go ((Nat)) (fun m=>(m=0)) (fun m=>[(46,.data (i64 m))]) (fun _=>[]) (fun _=>[]) (fun m=>0) (0) ?_ ?_
  ·rfl
  rintro m hm
  subst hm
  by_cases h0:0 < (mW p b r n).length
  ·obtain⟨l,hx⟩:∃l,(mW p b r n)[0]? =some l:=⟨(mW p b r n)[0]'h0,by simp⟩
   have hh:(mW p b r n).head? =some l:=by rw [List.head?_eq_getElem?];exact hx
   rw [hh] at hi2
   have hi3:some (⟨l,r,(dW p b r l).1⟩:Infer)=uQ p b r:=hi2
   rw [← hi3] at hi
   have hi4:some (⟨l,r,(dW p b r l).1⟩:Infer)=(bB p b).findSome? (uQ p b):=hi
   rw [← hi4]
   (repeat' ((conv=>whnf);first|with_reducible refine Idx.got hx rfl ?_|refine gA ?_|(refine gB ?_ ?_<;>intro h)|(refine gI ?_;intro x hx)|(refine gJ ?_;intro j x hj hx)|refine gV ?_|refine gC (Bu p b r l hp) ?_|intro _))<;>try (conv=>whnf)
   ·exact fv
   ·exfalso;omega
  ·have hh:(mW p b r n).head? =none:=by rw [List.head?_eq_none_iff];exact List.eq_nil_of_length_eq_zero (by omega)
   rw [hh] at hi2
   (repeat' ((conv=>whnf);first|(exfalso;omega)|refine gA ?_|(refine gB ?_ ?_<;>intro h)|(refine gI ?_;intro x hx)|(refine gJ ?_;intro j x hj hx)|refine gV ?_|intro _))<;>try (conv=>whnf)
   refine nx (j+1) ?_
   exact⟨by omega,hi2⟩
end Go.Proofs.YtgkfifiobmklcaaGreat.Abs
