/- Contracts: a refutation is found; literals that follow from a rule are explained. -/
import Derived.Test.YtjfnojijdggfhaaGreatC28
import Derived.Test.YtjfnojijdggfhaaGreatC12
set_option linter.all false
set_option maxRecDepth 20000
set_option maxHeartbeats 0
namespace Go.Proofs.YtjfnojijdggfhaaGreat.Abs
open Go.Proofs
theorem RX {p:Proj} {b:Dom} (hu:usable p b=true) {r:Rul} (h:r∈CY p b):fT p r=true:=by
 have hpo:=(cZ (mW hu).1).1
 simp only [CY,jH,nH,List.mem_append,List.mem_map,List.mem_flatMap,List.mem_range] at h
 rcases h with (((⟨k,hk,rfl⟩|⟨k,hk,rfl⟩)|⟨k,hk,rfl⟩)|⟨i,hi,h⟩)|⟨i,hi,a,ha,h⟩
 ·have hw:within (k:Int) 0 ((p.links.length:Int) - 1)=true:=within_iff.2 (by omega)
  simp [fT,kg,hpo,hw]
 ·have hw:bg p (k:Int)=true:=within_iff.2 (by omega)
  simp [fT,endRule,hpo,hw]
 ·have hw:jk p (k:Int)=true:=within_iff.2 (by omega)
  simp [fT,jm,hpo,hw]
 ·have hw:eZ p (i:Int)=true:=within_iff.2 (by omega)
  obtain⟨x,hx⟩:∃x,p.bS[i]? =some x:=⟨p.bS[i]'hi,by simp⟩
  rw [Fy hx,List.mem_append,List.mem_map,List.mem_map] at h
  rcases h with⟨t,ht,rfl⟩|⟨q,hq,rfl⟩
  ·have:=(List.mem_filter.1 ht).2
   simp [fT,Jr,hpo,hw,this]
  ·obtain⟨u,v,rfl,h1,h2,h3⟩:=zC hq
   simp [fT,LK,hpo,hw,h1,h2,h3]
 ·unfold fA at h
  split at h
  ·rename_i hm
   obtain⟨j,hj,rfl⟩:=List.mem_map.1 h
   have hj:=List.mem_range.1 hj
   have h1:bg p (a:Int)=true:=within_iff.2 (by omega)
   have h2:bg p ((a+1+j:Nat):Int)=true:=within_iff.2 (by omega)
   have h3:(a:Int) < ((a+1+j:Nat):Int):=by omega
   unfold fT lH
   dsimp only
   rw [hpo,Bool.true_and,if_neg (by decide),if_neg (by decide),if_neg (by decide),if_neg (by decide),if_pos rfl]
   simp only [hm,h1,h2,decide_eq_true h3]
   rfl
  ·simp at h
theorem vC {p:Proj} {b:Dom} {r:Rul} (h:r∈aN p b):usable p b=true∧fT p r=true:=by
 unfold aN at h
 split at h
 ·rename_i hu
  exact⟨hu,RX hu h⟩
 ·simp at h
def pJ:Rul:=⟨0,0,0,0⟩
def eX (p:Proj) (b:Dom):Option Rul:=if ay p b=true∧aR b=true then some pJ else (aN p b).find? (refutes p b)
def NU (o:Option Rul):RV:=.tup [.d (o.getD pJ).av,.d (.bool o.isSome)]
theorem LQ {α:Type} {f:α→Bool} {l:List α} {k:Nat} {x:α} (h:l[k]? =some x):(l.drop k).find? f=if f x=true then some x else (l.drop (k+1)).find? f:=by
 rw [au h,List.find?_cons];cases f x<;>rfl
theorem sM (p:Proj) (b:Dom):(aN p b).length≤300:=by
 unfold aN
 split
 ·rename_i hu
  have hf:=(mW hu).1
  have hpo:=(cZ hf).1
  have h1:=LM hpo
  have h2:=Jv hpo
  have h3:=zB hf
  obtain⟨_,hr3,_,_⟩:=lV hpo
  obtain⟨_,l1,l2,l3,_⟩:=cZ hf
  have hna:=(fB hpo).Ko
  have h4:∀i,(qJ p b i).length≤50:=fun i=>by
   unfold qJ
   split
   ·rename_i x hx
    have h5:=LP hpo hx
    have h6:=jq (b.hi++x.steps.map Step.at')
    have h7:=List.length_filter_le dD (setOf (b.hi++x.steps.map Step.at'))
    simp only [List.length_append,List.length_map] at h6
    simp only [CX,List.length_append,List.length_map];omega
   ·simp
  have h5:=mD (f:=qJ p b) (c:=50) (l:=List.range p.bS.length) fun i _=>h4 i
  simp only [List.length_range] at h5
  simp only [CY,List.length_append];omega
 ·simp
theorem fU (p:Proj) (b:Dom) (hp:p.fine):Con 8 [.d p.av,.d b.av] (NU (eX p b)):=by
 refine con Tryz.func8 rfl rfl Tryz.call8 rfl fun hwf=>?_
 simp only [ARs.wf,AR.wf,AV.wf,AV.wfs,lm,lim] at hwf
 have hl:=sM p b
 cases h1:ay p b with
 |false=>
  rw [eX,if_neg (by simp [h1])]
  (repeat' ((conv=>whnf);first|refine gA ?_|(refine gB ?_ ?_<;>intro h)|(refine gI ?_;intro x hx)|(refine gJ ?_;intro j x hj hx)|refine gV ?_|refine gC (aQ p b hp) ?_|refine gC (bG b) ?_|refine gC (jd p b hp) ?_|intro _))<;>try (conv=>whnf)
  refine aB [2,3,4,18,19] [2,3,4] [] ?_
  (conv=>whnf)
  refine aA.go ((Nat)) (fun k=>(k≤(aN p b).length)∧(((aN p b).drop k).find? (refutes p b)=(aN p b).find? (refutes p b))) (fun k=>[(20,.data (i64 k))]) (fun _=>[]) (fun _=>[]) (fun k=>(aN p b).length - k) (0) ?_ ?_
  ·exact⟨Nat.zero_le _,rfl⟩
  rintro k ⟨hk,hi⟩
  by_cases hlt:k < (aN p b).length
  ·obtain⟨r,hr⟩:∃r,(aN p b)[k]? =some r:=⟨(aN p b)[k]'hlt,by simp⟩
   rw [LQ hr] at hi
   (repeat' ((conv=>whnf);first|with_reducible refine Idx.got hr rfl ?_|refine gA ?_|(refine gB ?_ ?_<;>intro h)|(refine gI ?_;intro x hx)|(refine gJ ?_;intro j x hj hx)|refine gV ?_|refine gC (fJ p b r hp) ?_|intro _))<;>try (conv=>whnf)
   ·rw [if_pos (by assumption)] at hi
    rw [← hi]
    exact fv
   ·refine nx (k+1) ?_
    rw [if_neg (by simp [*])] at hi
    exact⟨by omega,hi⟩
   ·exfalso;omega
  ·(repeat' ((conv=>whnf);first|(exfalso;omega)|refine gA ?_|(refine gB ?_ ?_<;>intro h)|(refine gI ?_;intro x hx)|(refine gJ ?_;intro j x hj hx)|refine gV ?_|intro _))<;>try (conv=>whnf)
   rw [aJ (by assumption)] at hi
   rw [← hi]
   exact fv
 |true=>
 cases h2:aR b with
 |true=>
  rw [eX,if_pos ⟨h1,h2⟩]
  (repeat' ((conv=>whnf);first|refine gA ?_|(refine gB ?_ ?_<;>intro h)|(refine gI ?_;intro x hx)|(refine gJ ?_;intro j x hj hx)|refine gV ?_|refine gC (aQ p b hp) ?_|refine gC (bG b) ?_|intro _))<;>try (conv=>whnf)
  exact fv
 |false=>
  rw [eX,if_neg (by simp [h2])]
  (repeat' ((conv=>whnf);first|refine gA ?_|(refine gB ?_ ?_<;>intro h)|(refine gI ?_;intro x hx)|(refine gJ ?_;intro j x hj hx)|refine gV ?_|refine gC (aQ p b hp) ?_|refine gC (bG b) ?_|refine gC (jd p b hp) ?_|intro _))<;>try (conv=>whnf)
  refine aB [2,3,4,18,19] [2,3,4] [] ?_
  (conv=>whnf)
  refine aA.go ((Nat)) (fun k=>(k≤(aN p b).length)∧(((aN p b).drop k).find? (refutes p b)=(aN p b).find? (refutes p b))) (fun k=>[(20,.data (i64 k))]) (fun _=>[]) (fun _=>[]) (fun k=>(aN p b).length - k) (0) ?_ ?_
  ·exact⟨Nat.zero_le _,rfl⟩
  rintro k ⟨hk,hi⟩
  by_cases hlt:k < (aN p b).length
  ·obtain⟨r,hr⟩:∃r,(aN p b)[k]? =some r:=⟨(aN p b)[k]'hlt,by simp⟩
   rw [LQ hr] at hi
   (repeat' ((conv=>whnf);first|with_reducible refine Idx.got hr rfl ?_|refine gA ?_|(refine gB ?_ ?_<;>intro h)|(refine gI ?_;intro x hx)|(refine gJ ?_;intro j x hj hx)|refine gV ?_|refine gC (fJ p b r hp) ?_|intro _))<;>try (conv=>whnf)
   ·rw [if_pos (by assumption)] at hi
    rw [← hi]
    exact fv
   ·refine nx (k+1) ?_
    rw [if_neg (by simp [*])] at hi
    exact⟨by omega,hi⟩
   ·exfalso;omega
  ·(repeat' ((conv=>whnf);first|(exfalso;omega)|refine gA ?_|(refine gB ?_ ?_<;>intro h)|(refine gI ?_;intro x hx)|(refine gJ ?_;intro j x hj hx)|refine gV ?_|intro _))<;>try (conv=>whnf)
   rw [aJ (by assumption)] at hi
   rw [← hi]
   exact fv
def dw (p:Proj) (b:Dom) (r:Rul) (l:Lit):List Lit×Bool:=
 if jA p l=true∧refutes p (restrict b (negate l)) r=true then (mg p r (fun x=>bT x l) (dB (mY p b++[l])),true) else ([],false)
def ZG (r:List Lit×Bool):RV:=.tup [.fr (r.1.map Lit.av),.d (.bool r.2)]
theorem oq (x l:Lit):Con 75 [.d x.av,.ref l.av] (.d (.bool (bT x l))):=by
 refine con Tryz.func75 rfl rfl Tryz.call75 rfl fun hwf=>?_
 (repeat' ((conv=>whnf);first|refine gA ?_|(refine gB ?_ ?_<;>intro h)|intro _))<;>try (conv=>whnf)
 all_goals exact⟨by simp [bT],rfl,trivial⟩
theorem Qu (p:Proj) (b:Dom):(mY p b).length≤1212:=by rw [mY,List.length_map];exact Fv p b
theorem yQ (p:Proj) (b:Dom) (r:Rul) (l:Lit) (hp:p.fine):Con 22 [.d p.av,.d b.av,.d r.av,.d l.av] (ZG (dw p b r l)):=by
 refine con Tryz.func22 rfl rfl Tryz.call22 rfl fun hwf=>?_
 have hnl:=Qu p b
 have hN:=qH (mY p b++[l])
 rw [lits,List.map_append] at hN
 (repeat' ((conv=>whnf);first|refine gA ?_|(refine gB ?_ ?_<;>intro h)|refine gP ?_|refine gC (qA p l hp) ?_|refine gC (rC l) ?_|refine gC (iQ b (negate l)) ?_|refine gC (fJ p (restrict b (negate l)) r hp) ?_|refine gC (qI p b hp) ?_|refine gC (hN) ?_|refine gC (qG p r (dB (mY p b++[l])) 75 [l.av] _ hp (fun x=>oq x l)) ?_|intro _))<;>try (conv=>whnf)
 ·rw [dw,if_pos ⟨by assumption,by assumption⟩]
  exact fv
 ·rw [dw,if_neg (by simp [*])]
  exact fv
 ·rw [dw,if_neg (by simp [*])]
  exact fv
theorem Jw {p:Proj} {b:Dom} (h:ay p b=true) {n:Nat} {m:List Int} (hm:b.modes[n]? =some m):nV m=true:=by
 have hn:=(List.getElem?_eq_some_iff.1 hm).1
 obtain⟨_,l1,l2,l3,_⟩:=cZ h
 obtain⟨a,x,y,m',g⟩:=eP h (show n < p.acts.length by omega)
 have:=g.modes
 rw [hm] at this
 cases this
 exact g.mok
open Go.Proofs
theorem LU {p:Proj} {r:Int} {a:Int} (h:a∈users p r):∃k:Nat,a=k∧k < p.acts.length:=by
 unfold users at h
 split at h
 ·have h1:=(List.mem_filter.1 h).1
  simp only [upTo,List.mem_map,List.mem_range] at h1
  obtain⟨k,hk,rfl⟩:=h1
  exact⟨k,rfl,hk⟩
 ·simp at h
theorem tX {p:Proj} {a:Int} (h:bg p a=true):∃k:Nat,a=k∧k < p.acts.length:=by
 obtain⟨n,x,h1,h2⟩:=lT h
 exact⟨n,h1,(List.getElem?_eq_some_iff.1 h2).1⟩
theorem vD {p:Proj} {r:Rul} {a:Int} (h:a∈dH p r):∃k:Nat,a=k∧k < p.acts.length:=by
 unfold dH at h
 split at h
 ·rename_i ho
  have hpo:aL p=true:=by simp only [fT,Bool.and_eq_true] at ho;exact ho.1
  cases CK ho with
  |link hk k l e1 hl=>
   rw [if_pos hk,pU] at h
   have e:gu p r.a=l:=by simp [gu,e1,List.getD_eq_getElem?_getD,hl]
   rw [e] at h
   have hlo:=(fB hpo).link k l hl
   simp only [jS,Bool.and_eq_true] at hlo
   simp only [List.mem_cons,List.not_mem_nil,or_false] at h
   rcases h with rfl|rfl
   ·exact tX hlo.1.1.1
   ·exact tX hlo.1.1.2
  |fin hk ha=>
   simp [hk] at h
   subst h
   exact tX ha
  |time hk ha hb=>simp [hk] at h;exact LU h
  |work hk ha hb hc hlt=>simp [hk] at h;exact LU h
  |pair hk ha hb hc hlt=>
   simp [hk] at h
   rcases h with rfl|rfl
   ·exact tX hb
   ·exact tX hc
  |Ct hk ha=>simp [hk] at h;exact Cu h
 ·simp at h
def ou (p:Proj) (b:Dom) (r:Rul) (k:Int) (a:Nat) (n:Int):Bool:=refutes p (restrict b ⟨k,a,n⟩) r
def goUp (f:Int→Bool) (hi:Int):Nat→Int→Int
 |0,n=>n
 |k+1,n=>if n≤hi∧f n=true then goUp f hi k (n+1) else n
def xK (f:Int→Bool) (lo:Int):Nat→Int→Int
 |0,n=>n
 |k+1,n=>if n≥lo∧f n=true then xK f lo k (n - 1) else n
theorem Xg {f:Int→Bool} {hi n:Int} (h:n≤hi) (hf:f n=true):goUp f hi (hi+1 - n).toNat n=goUp f hi (hi+1 - (n+1)).toNat (n+1):=by
 obtain⟨m,hm⟩:∃m,(hi+1 - n).toNat=m+1:=⟨(hi - n).toNat,by omega⟩
 rw [hm,goUp,if_pos ⟨h,hf⟩,show (hi+1 - (n+1)).toNat=m by omega]
theorem VU {f:Int→Bool} {hi n:Int} (h:¬(n≤hi∧f n=true)):∀k,goUp f hi k n=n
 |0=>rfl
 |k+1=>by rw [goUp,if_neg h]
theorem Xh {f:Int→Bool} {lo n:Int} (h:n≥lo) (hf:f n=true):xK f lo (n+1 - lo).toNat n=xK f lo (n - 1+1 - lo).toNat (n - 1):=by
 obtain⟨m,hm⟩:∃m,(n+1 - lo).toNat=m+1:=⟨(n - lo).toNat,by omega⟩
 rw [hm,xK,if_pos ⟨h,hf⟩,show (n - 1+1 - lo).toNat=m by omega]
theorem VW {f:Int→Bool} {lo n:Int} (h:¬(n≥lo∧f n=true)):∀k,xK f lo k n=n
 |0=>rfl
 |k+1=>by rw [xK,if_neg h]
def atLeast (k:Nat) (lo n:Int):List Lit:=if n > lo then [⟨1,k,n⟩] else []
def sN (k:Nat) (up n:Int):List Lit:=if n < up then [⟨2,k,n⟩] else []
theorem FB (k:Nat) (lo n:Int):(atLeast k lo n).length≤1:=by unfold atLeast;split<;>simp
theorem Jy (k:Nat) (up n:Int):(sN k up n).length≤1:=by unfold sN;split<;>simp
def rO (p:Proj) (b:Dom) (r:Rul) (k:Nat) (lo up:Int) (m:List Int):List Lit:=
 atLeast k lo (goUp (ou p b r 2 k) up (up+1 - lo).toNat lo)++sN k up (xK (ou p b r 1 k) lo (up+1 - lo).toNat up)++
  (m.filter fun v=>decide (m.length > 1)&&ou p b r 3 k v).map fun v=>⟨4,k,v⟩
def iR (p:Proj) (b:Dom) (r:Rul) (k:Nat):List Lit:=
 match b.lo[k]?,b.hi[k]?,b.modes[k]? with
 |some lo,some up,some m=>rO p b r k lo up m
 |_,_,_=>[]
theorem tY {p:Proj} {b:Dom} {r:Rul} {k:Nat} {a:aK} {x y:Int} {m:List Int} (g:fM p b k a x y m):iR p b r k=rO p b r k x y m:=by
 simp only [iR,g.lo,g.hi,g.modes]
theorem YA {l:List Int} (h:l.Pairwise (· < ·)):∀{lo hi:Int},(∀x∈l,lo≤x∧x < hi)→lo≤hi→(l.length:Int)≤hi - lo:=by
 induction l with
 |nil=>intro lo hi _ h;simp;omega
 |cons x r ih=>
  intro lo hi hx _
  rw [List.pairwise_cons] at h
  have h1:=hx x (by simp)
  have:=ih h.2 (lo:=x+1) (hi:=hi) (fun y hy=>⟨by have:=h.1 y hy;omega,(hx y (by simp [hy])).2⟩) (by omega)
  simp only [List.length_cons];push_cast;omega
theorem Jz {p:Proj} {b:Dom} {k:Nat} {a:aK} {x y:Int} {m:List Int} (g:fM p b k a x y m):m.length≤3:=by
 have h2:=g.aok
 simp only [bC,Bool.and_eq_true,within_iff] at h2
 have:=YA (Cj g.mok) (lo:=0) (hi:=3) (fun x hx=>by
  obtain⟨j,rfl,hj⟩:=g.ZA x hx
  omega) (by omega)
 omega
theorem zD (p:Proj) (b:Dom) (r:Rul) (k:Nat) (hp:p.fine) (hf:ay p b=true) (hk:k < p.acts.length):Con 72 [.d p.av,.d b.av,.d r.av,.d (i64 k)] (.d (lits (iR p b r k))):=by
 refine con Tryz.func72 rfl rfl Tryz.call72 rfl fun hwf=>?_
 simp only [ARs.wf,AR.wf,AV.wf,AV.wfs,lm,lim] at hwf
 obtain⟨a,lo,up,m,g⟩:=eP hf hk
 rw [tY g,rO]
 have hlo:=g.lob
 have hup:=g.hib
 have hm3:=Jz g
 obtain⟨N,hN⟩:∃N,N=goUp (ou p b r 2 k) up (up+1 - lo).toNat lo:=⟨_,rfl⟩
 obtain⟨M,hM⟩:∃M,M=xK (ou p b r 1 k) lo (up+1 - lo).toNat up:=⟨_,rfl⟩
 rw [← hN, ← hM]
 (repeat' ((conv=>whnf);first|with_reducible refine Idx.got g.lo rfl ?_|with_reducible refine Idx.got g.hi rfl ?_|with_reducible refine Idx.got g.modes rfl ?_|refine gA ?_|(refine gB ?_ ?_<;>intro h)|(refine gI ?_;intro x hx)|(refine gJ ?_;intro j x hj hx)|refine gP ?_|refine gV ?_|intro _))<;>try (conv=>whnf)
 refine aB [3,4,5,6,9] [4,5,6] [] ?_
 (conv=>whnf)
 refine aA.go ((Int)) (fun n=>(lo≤n)∧(n≤63)∧(goUp (ou p b r 2 k) up (up+1 - n).toNat n=N)) (fun n=>[(10,.data (i64 n))]) (fun _=>[]) (fun _=>[]) (fun n=>(up+1 - n).toNat) (lo) ?_ ?_
 ·exact⟨Int.le_refl _,by omega,hN.symm⟩
 rintro n ⟨hn,hn2,hi⟩
 (repeat' ((conv=>whnf);first|with_reducible refine Idx.got g.lo rfl ?_|with_reducible refine Idx.got g.hi rfl ?_|with_reducible refine Idx.got g.modes rfl ?_|refine gA ?_|(refine gB ?_ ?_<;>intro h)|(refine gI ?_;intro x hx)|(refine gJ ?_;intro j x hj hx)|refine gP ?_|refine gV ?_|refine gC (iQ b ⟨2,k,n⟩) ?_|refine gC (fJ p (restrict b ⟨2,k,n⟩) r hp) ?_|intro _))<;>try (conv=>whnf)
 ·refine nx (n+1) ?_
  exact⟨by omega,by omega,by rw [← Xg (by assumption) (by assumption)];exact hi⟩
 all_goals
  have hoff:¬(n≤up∧ou p b r 2 k n=true):=by
   rintro⟨h1,h2⟩
   first|omega|(simp only [ou] at*;simp_all)
  rw [VU hoff] at hi
  subst hi
  clear hN hoff
  refine aB [3,4,5,6,9] [4,5,6] [] ?_
  (conv=>whnf)
  refine aA.go ((Int)) (fun q=>(q≤up)∧(-3≤q)∧(xK (ou p b r 1 k) lo (q+1 - lo).toNat q=M)) (fun q=>[(10,.data (i64 q))]) (fun _=>[]) (fun _=>[]) (fun q=>(q+1 - lo).toNat) (up) ?_ ?_
  ·exact⟨Int.le_refl _,by omega,hM.symm⟩
  rintro q ⟨hq,hq2,hj⟩
  (repeat' ((conv=>whnf);first|with_reducible refine Idx.got g.lo rfl ?_|with_reducible refine Idx.got g.hi rfl ?_|with_reducible refine Idx.got g.modes rfl ?_|refine gA ?_|(refine gB ?_ ?_<;>intro h)|(refine gI ?_;intro x hx)|(refine gJ ?_;intro j x hj hx)|refine gP ?_|refine gV ?_|refine gC (iQ b ⟨1,k,q⟩) ?_|refine gC (fJ p (restrict b ⟨1,k,q⟩) r hp) ?_|intro _))<;>try (conv=>whnf)
  ·refine nx (q - 1) ?_
   exact⟨by omega,by omega,by rw [← Xh (by assumption) (by assumption)];exact hj⟩
  all_goals
   have XD:¬(q≥lo∧ou p b r 1 k q=true):=by
    rintro⟨h1,h2⟩
    first|omega|(simp only [ou] at*;simp_all)
   rw [VW XD] at hj
   subst hj
   clear hM XD
   refine aB [3,4,5,6,92,93] [4,5,6] [13] ?_
   (conv=>whnf)
   refine aA.mk ((Nat)×(List Lit)) (fun⟨j,o⟩=>(j≤m.length)∧(o.length≤2+j)∧(o=(atLeast k lo n++sN k up q)++((m.take j).filter fun v=>decide (m.length > 1)&&ou p b r 3 k v).map (fun v=>⟨4,k,v⟩))) (fun⟨j,o⟩=>[(94,.data (i64 j)),(9,.own 13 0)]) (fun _=>[]) (fun⟨j,o⟩=>[(13,42,o.map Lit.av,0)]) (fun⟨j,o⟩=>m.length - j) ⟨0,atLeast k lo n++sN k up q⟩ ?_ ?_ ?_
   rotate_left
   ·(repeat' ((conv=>whnf)<;>(first|exact trivial|exact rfl|with_reducible refine And.intro ?_ ?_)))<;>((conv=>whnf)<;>(simp [atLeast,sN,Lit.av, *]))
   rotate_left
   ·exact⟨Nat.zero_le _,by have h1:=FB k lo n;have h2:=Jy k up q;simp only [List.length_append];omega,by simp⟩
   rintro⟨j,o⟩ ⟨hj3,ol,ho⟩
   by_cases hlt:j < m.length
   ·obtain⟨v,hv⟩:∃v,m[j]? =some v:=⟨m[j]'hlt,by simp⟩
    (repeat' ((conv=>whnf);first|with_reducible refine Idx.got hv rfl ?_|with_reducible refine Idx.got g.lo rfl ?_|with_reducible refine Idx.got g.hi rfl ?_|with_reducible refine Idx.got g.modes rfl ?_|refine gA ?_|(refine gB ?_ ?_<;>intro h)|(refine gI ?_;intro x hx)|(refine gJ ?_;intro j x hj hx)|refine gP ?_|refine gV ?_|refine gC (iQ b ⟨3,k,v⟩) ?_|refine gC (fJ p (restrict b ⟨3,k,v⟩) r hp) ?_|intro _))<;>try (conv=>whnf)
    ·refine nw ⟨j+1,o++[⟨4,k,v⟩]⟩ ?_ ?_
     ·(repeat' ((conv=>whnf)<;>(first|exact trivial|exact rfl|with_reducible refine And.intro ?_ ?_)))<;>((conv=>whnf)<;>(simp [Lit.av]))
     have hml:m.length > 1:=by omega
     exact⟨by omega,by simp;omega,(kV ho hv).1 (by simp only [ou] at*;simp [*])⟩
    ·refine nx ⟨j+1,o⟩ ?_
     exact⟨by omega,by omega,(kV ho hv).2 (by simp only [ou] at*;simp [*])⟩
    ·refine nx ⟨j+1,o⟩ ?_
     have hml:¬ m.length > 1:=by omega
     exact⟨by omega,by omega,(kV ho hv).2 (by simp only [ou] at*;simp [*])⟩
    ·exfalso;omega
   ·(repeat' ((conv=>whnf);first|(exfalso;omega)|refine gA ?_|(refine gB ?_ ?_<;>intro h)|(refine gI ?_;intro x hx)|(refine gJ ?_;intro j x hj hx)|refine gP ?_|refine gV ?_|intro _))<;>try (conv=>whnf)
    all_goals (refine⟨?_,rfl,trivial⟩;rw [ho,List.take_of_length_le (by omega)])
end Go.Proofs.YtjfnojijdggfhaaGreat.Abs
namespace Go.Proofs.YtjfnojijdggfhaaGreat.Abs
open Go.Proofs
def vE (p:Proj) (b:Dom) (r:Rul) (a:Int):Option Infer:=(iR p b r a.toNat).head?.map fun l=>⟨l,r,(dw p b r l).1⟩
def lN (p:Proj) (b:Dom) (r:Rul):Option Infer:=(dH p r).findSome? (vE p b r)
def bL (p:Proj) (b:Dom):Option Infer:=if (eX p b).isSome=true then none else (aN p b).findSome? (lN p b)
def TH:Infer:=⟨iJ,pJ,[]⟩
def YB (o:Option Infer):RV:=let x:=o.getD TH;.tup [.agg [.d (i64 x.lit.kind),.d (i64 x.lit.act),.d (i64 x.lit.val),.d (i64 x.rule.kind),.d (i64 x.rule.a),.d (i64 x.rule.b),.d (i64 x.rule.c),.fr (x.clause.map Lit.av)],.d (.bool o.isSome)]
theorem yG {α β:Type} {f:α→Option β} {l:List α} {k:Nat} {x:α} (h:l[k]? =some x):(l.drop k).findSome? f=(match f x with|some y=>some y|none=>(l.drop (k+1)).findSome? f):=by
 rw [au h,List.findSome?_cons];cases f x<;>rfl
theorem pK {p:Proj} {b:Dom} (h:usable p b=true):ay p b=true:=(mW h).1
theorem JA (p:Proj) (b:Dom) (r:Rul) (k:Nat) (hf:ay p b=true) (hk:k < p.acts.length):(iR p b r k).length≤5:=by
 obtain⟨a,x,y,m,g⟩:=eP hf hk
 rw [tY g,rO]
 have h1:=FB k x (goUp (ou p b r 2 k) y (y+1 - x).toNat x)
 have h2:=Jy k y (xK (ou p b r 1 k) x (y+1 - x).toNat y)
 have h3:=Jz g
 have h4:=List.length_filter_le (fun v=>decide (m.length > 1)&&ou p b r 3 k v) m
 simp only [List.length_append,List.length_map];omega
theorem CZ (p:Proj) (r:Rul):(dH p r).length≤200:=by
 unfold dH
 split
 ·rename_i ho
  have hpo:aL p=true:=by simp only [fT,Bool.and_eq_true] at ho;exact ho.1
  have hna:=(fB hpo).Ko
  split
  ·have:=jq [(gu p r.a).src,(gu p r.a).dst]
   simp only [List.length_cons,List.length_nil] at this;omega
  split
  ·simp
  split
  ·simp
  split
  ·exact CW _
  ·unfold users
   split
   ·have:=vY (yF p r.a) p.acts.length;omega
   ·simp
 ·simp
theorem oV (p:Proj) (b:Dom) (hp:p.fine):Con 30 [.d p.av,.d b.av] (YB (bL p b)):=by
 refine con Tryz.func30 rfl rfl Tryz.call30 rfl fun hwf=>?_
 have hF:=fU p b hp
 have hcl:=sM p b
 cases hn:(eX p b).isSome with
 |true=>
  rw [bL,if_pos hn]
  rw [NU,hn] at hF
  (repeat' ((conv=>whnf);first|refine gA ?_|(refine gB ?_ ?_<;>intro h)|(refine gI ?_;intro x hx)|(refine gJ ?_;intro j x hj hx)|refine gV ?_|refine gC (hF) ?_|intro _))<;>try (conv=>whnf)
  exact fv
 |false=>
  rw [bL,if_neg (by simp [hn])]
  rw [NU,hn] at hF
  (repeat' ((conv=>whnf);first|refine gA ?_|(refine gB ?_ ?_<;>intro h)|(refine gI ?_;intro x hx)|(refine gJ ?_;intro j x hj hx)|refine gV ?_|refine gC (hF) ?_|refine gC (jd p b hp) ?_|intro _))<;>try (conv=>whnf)
  refine aB [2,3,4,26,27] [2,3,4] [] ?_
  (conv=>whnf)
  refine aA.go ((Nat)) (fun k=>(k≤(aN p b).length)∧(((aN p b).drop k).findSome? (lN p b)=(aN p b).findSome? (lN p b))) (fun k=>[(28,.data (i64 k))]) (fun _=>[]) (fun _=>[]) (fun k=>(aN p b).length - k) (0) ?_ ?_
  ·exact⟨Nat.zero_le _,rfl⟩
  rintro k ⟨hk,hi⟩
  by_cases hlt:k < (aN p b).length
  rotate_left
  ·(repeat' ((conv=>whnf);first|(exfalso;omega)|refine gA ?_|(refine gB ?_ ?_<;>intro h)|(refine gI ?_;intro x hx)|(refine gJ ?_;intro j x hj hx)|refine gV ?_|intro _))<;>try (conv=>whnf)
   rw [aJ (by assumption)] at hi
   rw [← hi]
   exact fv
  obtain⟨r,hr⟩:∃r,(aN p b)[k]? =some r:=⟨(aN p b)[k]'hlt,by simp⟩
  obtain⟨hu,hro⟩:=vC (List.mem_of_getElem? hr)
  have hf:=pK hu
  have hal:=CZ p r
  rw [yG hr] at hi
  (repeat' ((conv=>whnf);first|with_reducible refine Idx.got hr rfl ?_|refine gA ?_|(refine gB ?_ ?_<;>intro h)|(refine gI ?_;intro x hx)|(refine gJ ?_;intro j x hj hx)|refine gV ?_|refine gC (oU p r hp) ?_|intro _))<;>try (conv=>whnf)
  rotate_left
  ·exact trivial
  refine aB [2,3,4,9,26,27,28,34,35] [2,3,4,9] [] ?_
  (conv=>whnf)
  refine aA.go ((Nat)) (fun j=>(j≤(dH p r).length)∧(((dH p r).drop j).findSome? (vE p b r)=lN p b r)) (fun j=>[(36,.data (i64 j))]) (fun _=>[]) (fun _=>[]) (fun j=>(dH p r).length - j) (0) ?_ ?_
  ·exact⟨Nat.zero_le _,rfl⟩
  rintro j ⟨hj,hi2⟩
  by_cases hjl:j < (dH p r).length
  rotate_left
  ·rw [aJ (by omega)] at hi2
   rw [← hi2] at hi
   (repeat' ((conv=>whnf);first|(exfalso;omega)|refine gA ?_|(refine gB ?_ ?_<;>intro h)|(refine gI ?_;intro x hx)|(refine gJ ?_;intro j x hj hx)|refine gV ?_|intro _))<;>try (conv=>whnf)
   refine nx (k+1) ?_
   exact⟨by omega,hi⟩
  obtain⟨a,ha⟩:∃a,(dH p r)[j]? =some a:=⟨(dH p r)[j]'hjl,by simp⟩
  obtain⟨n,rfl,hna⟩:=vD (List.mem_of_getElem? ha)
  have hil:=JA p b r n hf hna
  rw [yG ha,vE,Int.toNat_natCast] at hi2
  (repeat' ((conv=>whnf);first|with_reducible refine Idx.got ha rfl ?_|refine gA ?_|(refine gB ?_ ?_<;>intro h)|(refine gI ?_;intro x hx)|(refine gJ ?_;intro j x hj hx)|refine gV ?_|refine gC (zD p b r n hp hf hna) ?_|intro _))<;>try (conv=>whnf)
  rotate_left
  ·exfalso;omega
  refine aB [2,3,4,9,26,27,28,34,35,36,44,45] [2,3,4,9] [] ?_
  (conv=>whnf)
  refine aA.go ((Nat)) (fun m=>(m=0)) (fun m=>[(46,.data (i64 m))]) (fun _=>[]) (fun _=>[]) (fun m=>0) (0) ?_ ?_
  ·rfl
  rintro m hm
  subst hm
  by_cases h0:0 < (iR p b r n).length
  ·obtain⟨l,hx⟩:∃l,(iR p b r n)[0]? =some l:=⟨(iR p b r n)[0]'h0,by simp⟩
   have hh:(iR p b r n).head? =some l:=by rw [List.head?_eq_getElem?];exact hx
   rw [hh] at hi2
   have hi3:some (⟨l,r,(dw p b r l).1⟩:Infer)=lN p b r:=hi2
   rw [← hi3] at hi
   have hi4:some (⟨l,r,(dw p b r l).1⟩:Infer)=(aN p b).findSome? (lN p b):=hi
   rw [← hi4]
   (repeat' ((conv=>whnf);first|with_reducible refine Idx.got hx rfl ?_|refine gA ?_|(refine gB ?_ ?_<;>intro h)|(refine gI ?_;intro x hx)|(refine gJ ?_;intro j x hj hx)|refine gV ?_|refine gC (yQ p b r l hp) ?_|intro _))<;>try (conv=>whnf)
   ·exact fv
   ·exfalso;omega
  ·have hh:(iR p b r n).head? =none:=by rw [List.head?_eq_none_iff];exact List.eq_nil_of_length_eq_zero (by omega)
   rw [hh] at hi2
   (repeat' ((conv=>whnf);first|(exfalso;omega)|refine gA ?_|(refine gB ?_ ?_<;>intro h)|(refine gI ?_;intro x hx)|(refine gJ ?_;intro j x hj hx)|refine gV ?_|intro _))<;>try (conv=>whnf)
   refine nx (j+1) ?_
   exact⟨by omega,hi2⟩
def Qv (p:Proj) (b:Dom):Bool:=usable p b&& !(eX p b).isSome&& !(bL p b).isSome
theorem Gm (p:Proj) (b:Dom) (hp:p.fine):Con 28 [.d p.av,.d b.av] (.d (.bool (Qv p b))):=by
 refine con Tryz.func28 rfl rfl Tryz.call28 rfl fun hwf=>?_
 have h1:=fU p b hp
 have h2:=oV p b hp
 rw [NU] at h1
 rw [YB] at h2
 (repeat' ((conv=>whnf);first|refine gA ?_|(refine gB ?_ ?_<;>intro h)|refine gC (gL p b hp) ?_|refine gC (h1) ?_|refine gC (h2) ?_|intro _))<;>try (conv=>whnf)
 all_goals (refine⟨?_,rfl,trivial⟩;simp [Qv, *])
end Go.Proofs.YtjfnojijdggfhaaGreat.Abs
