/- Contracts: a refutation is found; literals that follow from a rule are explained. -/
import Derived.Test.YtmenphiahgkjkaaGreatDoorC28
import Derived.Test.YtmenphiahgkjkaaGreatDoorC12
set_option linter.all false
set_option maxRecDepth 20000
set_option maxHeartbeats 0
namespace Go.Proofs.YtmenphiahgkjkaaGreatDoor.Abs
open Go.Proofs
theorem VA {p:Proj} {b:Dom} (hu:usable p b=true) {r:Rul} (h:r∈EY p b):jd p r=true:=by
 have hpo:=(bZ (mH hu).1).1
 simp only [EY,kF,pU,List.mem_append,List.mem_map,List.mem_flatMap,List.mem_range] at h
 rcases h with (((⟨k,hk,rfl⟩|⟨k,hk,rfl⟩)|⟨k,hk,rfl⟩)|⟨i,hi,h⟩)|⟨i,hi,a,ha,h⟩
 ·have hw:within (k:Int) 0 ((p.links.length:Int) - 1)=true:=within_iff.2 (by omega)
  simp [jd,kX,hpo,hw]
 ·have hw:bJ p (k:Int)=true:=within_iff.2 (by omega)
  simp [jd,endRule,hpo,hw]
 ·have hw:jS p (k:Int)=true:=within_iff.2 (by omega)
  simp [jd,jU,hpo,hw]
 ·have hw:fT p (i:Int)=true:=within_iff.2 (by omega)
  obtain⟨x,hx⟩:∃x,p.bB[i]? =some x:=⟨p.bB[i]'hi,by simp⟩
  rw [Ip hx,List.mem_append,List.mem_map,List.mem_map] at h
  rcases h with⟨t,ht,rfl⟩|⟨q,hq,rfl⟩
  ·have:=(List.mem_filter.1 ht).2
   simp [jd,LH,hpo,hw,this]
  ·obtain⟨u,v,rfl,h1,h2,h3⟩:=Cc hq
   simp [jd,OB,hpo,hw,h1,h2,h3]
 ·unfold fU at h
  split at h
  ·rename_i hm
   obtain⟨j,hj,rfl⟩:=List.mem_map.1 h
   have hj:=List.mem_range.1 hj
   have h1:bJ p (a:Int)=true:=within_iff.2 (by omega)
   have h2:bJ p ((a+1+j:Nat):Int)=true:=within_iff.2 (by omega)
   have h3:(a:Int) < ((a+1+j:Nat):Int):=by omega
   unfold jd mY
   dsimp only
   rw [hpo,Bool.true_and,if_neg (by decide),if_neg (by decide),if_neg (by decide),if_neg (by decide),if_pos rfl]
   simp only [hm,h1,h2,decide_eq_true h3]
   rfl
  ·simp at h
theorem EZ {p:Proj} {b:Dom} {r:Rul} (h:r∈aX p b):usable p b=true∧jd p r=true:=by
 unfold aX at h
 split at h
 ·rename_i hu
  exact⟨hu,VA hu h⟩
 ·simp at h
def QN:Rul:=⟨0,0,0,0⟩
def fM (p:Proj) (b:Dom):Option Rul:=if ak p b=true∧aP b=true then some QN else (aX p b).find? (refutes p b)
def Zg (o:Option Rul):RV:=.tup [.d (o.getD QN).av,.d (.bool o.isSome)]
theorem OE {α:Type} {f:α→Bool} {l:List α} {k:Nat} {x:α} (h:l[k]? =some x):(l.drop k).find? f=if f x=true then some x else (l.drop (k+1)).find? f:=by
 rw [aF h,List.find?_cons];cases f x<;>rfl
theorem Ce (p:Proj) (b:Dom):(aX p b).length≤300:=by
 unfold aX
 split
 ·rename_i hu
  have hf:=(mH hu).1
  have hpo:=(bZ hf).1
  have h1:=OC hpo
  have h2:=LP hpo
  have h3:=Cb hf
  obtain⟨_,hr3,_,_⟩:=nM hpo
  obtain⟨_,l1,l2,l3,_⟩:=bZ hf
  have hna:=(fG hpo).KS
  have h4:∀i,(tO p b i).length≤50:=fun i=>by
   unfold tO
   split
   ·rename_i x hx
    have h5:=OD hpo hx
    have h6:=jV (b.hi++x.steps.map Step.at')
    have h7:=List.length_filter_le eY (setOf (b.hi++x.steps.map Step.at'))
    simp only [List.length_append,List.length_map] at h6
    simp only [EX,List.length_append,List.length_map];omega
   ·simp
  have h5:=nV (f:=tO p b) (c:=50) (l:=List.range p.bB.length) fun i _=>h4 i
  simp only [List.length_range] at h5
  simp only [EY,List.length_append];omega
 ·simp
theorem rF (p:Proj) (b:Dom) (hp:p.fine):Con 96 [.d p.av,.d b.av] (Zg (fM p b)):=by
 refine con Tryz.func96 rfl rfl Tryz.call96 rfl fun hwf=>?_
 simp only [ARs.wf,AR.wf,AV.wf,AV.wfs,lm,lim] at hwf
 have hl:=Ce p b
 cases h1:ak p b with
 |false=>
  rw [fM,if_neg (by simp [h1])]
  (repeat' ((conv=>whnf);first|refine gA ?_|(refine gB ?_ ?_<;>intro h)|(refine gI ?_;intro x hx)|(refine gJ ?_;intro j x hj hx)|refine gV ?_|refine gC (aT p b hp) ?_|refine gC (aY b) ?_|refine gC (mP p b hp) ?_|intro _))<;>try (conv=>whnf)
  refine aB [2,3,4,18,19] [2,3,4] [] ?_
  (conv=>whnf)
  refine aA.go ((Nat)) (fun k=>(k≤(aX p b).length)∧(((aX p b).drop k).find? (refutes p b)=(aX p b).find? (refutes p b))) (fun k=>[(20,.data (i64 k))]) (fun _=>[]) (fun _=>[]) (fun k=>(aX p b).length - k) (0) ?_ ?_
  ·exact⟨Nat.zero_le _,rfl⟩
  rintro k ⟨hk,hi⟩
  by_cases hlt:k < (aX p b).length
  ·obtain⟨r,hr⟩:∃r,(aX p b)[k]? =some r:=⟨(aX p b)[k]'hlt,by simp⟩
   rw [OE hr] at hi
   (repeat' ((conv=>whnf);first|with_reducible refine Idx.got hr rfl ?_|refine gA ?_|(refine gB ?_ ?_<;>intro h)|(refine gI ?_;intro x hx)|(refine gJ ?_;intro j x hj hx)|refine gV ?_|refine gC (iG p b r hp) ?_|intro _))<;>try (conv=>whnf)
   ·rw [if_pos (by assumption)] at hi
    rw [← hi]
    exact fv
   ·refine nx (k+1) ?_
    rw [if_neg (by simp [*])] at hi
    exact⟨by omega,hi⟩
   ·exfalso;omega
  ·(repeat' ((conv=>whnf);first|(exfalso;omega)|refine gA ?_|(refine gB ?_ ?_<;>intro h)|(refine gI ?_;intro x hx)|(refine gJ ?_;intro j x hj hx)|refine gV ?_|intro _))<;>try (conv=>whnf)
   rw [bC (by assumption)] at hi
   rw [← hi]
   exact fv
 |true=>
 cases h2:aP b with
 |true=>
  rw [fM,if_pos ⟨h1,h2⟩]
  (repeat' ((conv=>whnf);first|refine gA ?_|(refine gB ?_ ?_<;>intro h)|(refine gI ?_;intro x hx)|(refine gJ ?_;intro j x hj hx)|refine gV ?_|refine gC (aT p b hp) ?_|refine gC (aY b) ?_|intro _))<;>try (conv=>whnf)
  exact fv
 |false=>
  rw [fM,if_neg (by simp [h2])]
  (repeat' ((conv=>whnf);first|refine gA ?_|(refine gB ?_ ?_<;>intro h)|(refine gI ?_;intro x hx)|(refine gJ ?_;intro j x hj hx)|refine gV ?_|refine gC (aT p b hp) ?_|refine gC (aY b) ?_|refine gC (mP p b hp) ?_|intro _))<;>try (conv=>whnf)
  refine aB [2,3,4,18,19] [2,3,4] [] ?_
  (conv=>whnf)
  refine aA.go ((Nat)) (fun k=>(k≤(aX p b).length)∧(((aX p b).drop k).find? (refutes p b)=(aX p b).find? (refutes p b))) (fun k=>[(20,.data (i64 k))]) (fun _=>[]) (fun _=>[]) (fun k=>(aX p b).length - k) (0) ?_ ?_
  ·exact⟨Nat.zero_le _,rfl⟩
  rintro k ⟨hk,hi⟩
  by_cases hlt:k < (aX p b).length
  ·obtain⟨r,hr⟩:∃r,(aX p b)[k]? =some r:=⟨(aX p b)[k]'hlt,by simp⟩
   rw [OE hr] at hi
   (repeat' ((conv=>whnf);first|with_reducible refine Idx.got hr rfl ?_|refine gA ?_|(refine gB ?_ ?_<;>intro h)|(refine gI ?_;intro x hx)|(refine gJ ?_;intro j x hj hx)|refine gV ?_|refine gC (iG p b r hp) ?_|intro _))<;>try (conv=>whnf)
   ·rw [if_pos (by assumption)] at hi
    rw [← hi]
    exact fv
   ·refine nx (k+1) ?_
    rw [if_neg (by simp [*])] at hi
    exact⟨by omega,hi⟩
   ·exfalso;omega
  ·(repeat' ((conv=>whnf);first|(exfalso;omega)|refine gA ?_|(refine gB ?_ ?_<;>intro h)|(refine gI ?_;intro x hx)|(refine gJ ?_;intro j x hj hx)|refine gV ?_|intro _))<;>try (conv=>whnf)
   rw [bC (by assumption)] at hi
   rw [← hi]
   exact fv
def dO (p:Proj) (b:Dom) (r:Rul) (l:Lit):List Lit×Bool:=
 if dI p l=true∧refutes p (restrict b (negate l)) r=true then (pR p r (fun x=>bH x l) (dh (rV p b++[l])),true) else ([],false)
def acY (r:List Lit×Bool):RV:=.tup [.fr (r.1.map Lit.av),.d (.bool r.2)]
theorem zS (x l:Lit):Con 153 [.d x.av,.ref l.av] (.d (.bool (bH x l))):=by
 refine con Tryz.func153 rfl rfl Tryz.call153 rfl fun hwf=>?_
 (repeat' ((conv=>whnf);first|refine gA ?_|(refine gB ?_ ?_<;>intro h)|intro _))<;>try (conv=>whnf)
 all_goals exact⟨by simp [bH],rfl,trivial⟩
theorem Zh (p:Proj) (b:Dom):(rV p b).length≤1212:=by rw [rV,List.length_map];exact Il p b
theorem Bf (p:Proj) (b:Dom) (r:Rul) (l:Lit) (hp:p.fine):Con 124 [.d p.av,.d b.av,.d r.av,.d l.av] (acY (dO p b r l)):=by
 refine con Tryz.func124 rfl rfl Tryz.call124 rfl fun hwf=>?_
 have hnl:=Zh p b
 have hN:=iW (rV p b++[l])
 rw [lits,List.map_append] at hN
 (repeat' ((conv=>whnf);first|refine gA ?_|(refine gB ?_ ?_<;>intro h)|refine gP ?_|refine gC (oJ p l hp) ?_|refine gC (gF l) ?_|refine gC (fu b (negate l)) ?_|refine gC (iG p (restrict b (negate l)) r hp) ?_|refine gC (zR p b hp) ?_|refine gC (hN) ?_|refine gC (Ls p r (dh (rV p b++[l])) 153 [l.av] _ hp (fun x=>zS x l)) ?_|intro _))<;>try (conv=>whnf)
 ·rw [dO,if_pos ⟨by assumption,by assumption⟩]
  exact fv
 ·rw [dO,if_neg (by simp [*])]
  exact fv
 ·rw [dO,if_neg (by simp [*])]
  exact fv
open Go.Proofs
theorem OG {p:Proj} {r:Int} {a:Int} (h:a∈users p r):∃k:Nat,a=k∧k < p.acts.length:=by
 unfold users at h
 split at h
 ·have h1:=(List.mem_filter.1 h).1
  simp only [upTo,List.mem_map,List.mem_range] at h1
  obtain⟨k,hk,rfl⟩:=h1
  exact⟨k,rfl,hk⟩
 ·simp at h
theorem wF {p:Proj} {a:Int} (h:bJ p a=true):∃k:Nat,a=k∧k < p.acts.length:=by
 obtain⟨n,x,h1,h2⟩:=nJ h
 exact⟨n,h1,(List.getElem?_eq_some_iff.1 h2).1⟩
theorem xS {p:Proj} {r:Rul} {a:Int} (h:a∈jA p r):∃k:Nat,a=k∧k < p.acts.length:=by
 unfold jA at h
 split at h
 ·rename_i ho
  have hpo:aL p=true:=by simp only [jd,Bool.and_eq_true] at ho;exact ho.1
  cases KY ho with
  |link hk k l e1 hl=>
   rw [if_pos hk,sj] at h
   have e:iF p r.a=l:=by simp [iF,e1,List.getD_eq_getElem?_getD,hl]
   rw [e] at h
   have hlo:=(fG hpo).link k l hl
   simp only [qX,Bool.and_eq_true] at hlo
   simp only [List.mem_cons,List.not_mem_nil,or_false] at h
   rcases h with rfl|rfl
   ·exact wF hlo.1.1.1
   ·exact wF hlo.1.1.2
  |fin hk ha=>
   simp [hk] at h
   subst h
   exact wF ha
  |time hk ha hb=>simp [hk] at h;exact OG h
  |work hk ha hb hc hlt=>simp [hk] at h;exact OG h
  |pair hk ha hb hc hlt=>
   simp [hk] at h
   rcases h with rfl|rfl
   ·exact wF hb
   ·exact wF hc
  |Ie hk ha=>simp [hk] at h;exact xK h
 ·simp at h
def qL (p:Proj) (b:Dom) (r:Rul) (k:Int) (a:Nat) (n:Int):Bool:=refutes p (restrict b ⟨k,a,n⟩) r
def goUp (f:Int→Bool) (hi:Int):Nat→Int→Int
 |0,n=>n
 |k+1,n=>if n≤hi∧f n=true then goUp f hi k (n+1) else n
def zT (f:Int→Bool) (lo:Int):Nat→Int→Int
 |0,n=>n
 |k+1,n=>if n≥lo∧f n=true then zT f lo k (n - 1) else n
theorem aar {f:Int→Bool} {hi n:Int} (h:n≤hi) (hf:f n=true):goUp f hi (hi+1 - n).toNat n=goUp f hi (hi+1 - (n+1)).toNat (n+1):=by
 obtain⟨m,hm⟩:∃m,(hi+1 - n).toNat=m+1:=⟨(hi - n).toNat,by omega⟩
 rw [hm,goUp,if_pos ⟨h,hf⟩,show (hi+1 - (n+1)).toNat=m by omega]
theorem Zi {f:Int→Bool} {hi n:Int} (h:¬(n≤hi∧f n=true)):∀k,goUp f hi k n=n
 |0=>rfl
 |k+1=>by rw [goUp,if_neg h]
theorem aas {f:Int→Bool} {lo n:Int} (h:n≥lo) (hf:f n=true):zT f lo (n+1 - lo).toNat n=zT f lo (n - 1+1 - lo).toNat (n - 1):=by
 obtain⟨m,hm⟩:∃m,(n+1 - lo).toNat=m+1:=⟨(n - lo).toNat,by omega⟩
 rw [hm,zT,if_pos ⟨h,hf⟩,show (n - 1+1 - lo).toNat=m by omega]
theorem Zj {f:Int→Bool} {lo n:Int} (h:¬(n≥lo∧f n=true)):∀k,zT f lo k n=n
 |0=>rfl
 |k+1=>by rw [zT,if_neg h]
def atLeast (k:Nat) (lo n:Int):List Lit:=if n > lo then [⟨1,k,n⟩] else []
def vM (k:Nat) (up n:Int):List Lit:=if n < up then [⟨2,k,n⟩] else []
theorem Iq (k:Nat) (lo n:Int):(atLeast k lo n).length≤1:=by unfold atLeast;split<;>simp
theorem LQ (k:Nat) (up n:Int):(vM k up n).length≤1:=by unfold vM;split<;>simp
def uR (p:Proj) (b:Dom) (r:Rul) (k:Nat) (lo up:Int) (m:List Int):List Lit:=
 atLeast k lo (goUp (qL p b r 2 k) up (up+1 - lo).toNat lo)++vM k up (zT (qL p b r 1 k) lo (up+1 - lo).toNat up)++
  (m.filter fun v=>decide (m.length > 1)&&qL p b r 3 k v).map fun v=>⟨4,k,v⟩
def mQ (p:Proj) (b:Dom) (r:Rul) (k:Nat):List Lit:=
 match b.lo[k]?,b.hi[k]?,b.modes[k]? with
 |some lo,some up,some m=>uR p b r k lo up m
 |_,_,_=>[]
theorem wG {p:Proj} {b:Dom} {r:Rul} {k:Nat} {a:aC} {x y:Int} {m:List Int} (g:fV p b k a x y m):mQ p b r k=uR p b r k x y m:=by
 simp only [mQ,g.lo,g.hi,g.modes]
theorem abK {l:List Int} (h:l.Pairwise (· < ·)):∀{lo hi:Int},(∀x∈l,lo≤x∧x < hi)→lo≤hi→(l.length:Int)≤hi - lo:=by
 induction l with
 |nil=>intro lo hi _ h;simp;omega
 |cons x r ih=>
  intro lo hi hx _
  rw [List.pairwise_cons] at h
  have h1:=hx x (by simp)
  have:=ih h.2 (lo:=x+1) (hi:=hi) (fun y hy=>⟨by have:=h.1 y hy;omega,(hx y (by simp [hy])).2⟩) (by omega)
  simp only [List.length_cons];push_cast;omega
theorem TM {p:Proj} {b:Dom} {k:Nat} {a:aC} {x y:Int} {m:List Int} (g:fV p b k a x y m):m.length≤3:=by
 have h2:=g.aok
 simp only [dD,Bool.and_eq_true,within_iff] at h2
 have:=abK (EC g.mok) (lo:=0) (hi:=3) (fun x hx=>by
  obtain⟨j,rfl,hj⟩:=g.aah x hx
  omega) (by omega)
 omega
theorem Nf (p:Proj) (b:Dom) (r:Rul) (k:Nat) (hp:p.fine) (hf:ak p b=true) (hk:k < p.acts.length):Con 123 [.d p.av,.d b.av,.d r.av,.d (i64 k)] (.d (lits (mQ p b r k))):=by
 refine con Tryz.func123 rfl rfl Tryz.call123 rfl fun hwf=>?_
 simp only [ARs.wf,AR.wf,AV.wf,AV.wfs,lm,lim] at hwf
 obtain⟨a,lo,up,m,g⟩:=dL hf hk
 rw [wG g,uR]
 have hlo:=g.lob
 have hup:=g.hib
 have hm3:=TM g
 obtain⟨N,hN⟩:∃N,N=goUp (qL p b r 2 k) up (up+1 - lo).toNat lo:=⟨_,rfl⟩
 obtain⟨M,hM⟩:∃M,M=zT (qL p b r 1 k) lo (up+1 - lo).toNat up:=⟨_,rfl⟩
 rw [← hN, ← hM]
 (repeat' ((conv=>whnf);first|with_reducible refine Idx.got g.lo rfl ?_|with_reducible refine Idx.got g.hi rfl ?_|with_reducible refine Idx.got g.modes rfl ?_|refine gA ?_|(refine gB ?_ ?_<;>intro h)|(refine gI ?_;intro x hx)|(refine gJ ?_;intro j x hj hx)|refine gP ?_|refine gV ?_|intro _))<;>try (conv=>whnf)
 refine aB [3,4,5,6,9] [4,5,6] [] ?_
 (conv=>whnf)
 refine aA.go ((Int)) (fun n=>(lo≤n)∧(n≤63)∧(goUp (qL p b r 2 k) up (up+1 - n).toNat n=N)) (fun n=>[(10,.data (i64 n))]) (fun _=>[]) (fun _=>[]) (fun n=>(up+1 - n).toNat) (lo) ?_ ?_
 ·exact⟨Int.le_refl _,by omega,hN.symm⟩
 rintro n ⟨hn,hn2,hi⟩
 (repeat' ((conv=>whnf);first|with_reducible refine Idx.got g.lo rfl ?_|with_reducible refine Idx.got g.hi rfl ?_|with_reducible refine Idx.got g.modes rfl ?_|refine gA ?_|(refine gB ?_ ?_<;>intro h)|(refine gI ?_;intro x hx)|(refine gJ ?_;intro j x hj hx)|refine gP ?_|refine gV ?_|refine gC (fu b ⟨2,k,n⟩) ?_|refine gC (iG p (restrict b ⟨2,k,n⟩) r hp) ?_|intro _))<;>try (conv=>whnf)
 ·refine nx (n+1) ?_
  exact⟨by omega,by omega,by rw [← aar (by assumption) (by assumption)];exact hi⟩
 all_goals
  have hoff:¬(n≤up∧qL p b r 2 k n=true):=by
   rintro⟨h1,h2⟩
   first|omega|(simp only [qL] at*;simp_all)
  rw [Zi hoff] at hi
  subst hi
  clear hN hoff
  refine aB [3,4,5,6,9] [4,5,6] [] ?_
  (conv=>whnf)
  refine aA.go ((Int)) (fun q=>(q≤up)∧(-3≤q)∧(zT (qL p b r 1 k) lo (q+1 - lo).toNat q=M)) (fun q=>[(10,.data (i64 q))]) (fun _=>[]) (fun _=>[]) (fun q=>(q+1 - lo).toNat) (up) ?_ ?_
  ·exact⟨Int.le_refl _,by omega,hM.symm⟩
  rintro q ⟨hq,hq2,hj⟩
  (repeat' ((conv=>whnf);first|with_reducible refine Idx.got g.lo rfl ?_|with_reducible refine Idx.got g.hi rfl ?_|with_reducible refine Idx.got g.modes rfl ?_|refine gA ?_|(refine gB ?_ ?_<;>intro h)|(refine gI ?_;intro x hx)|(refine gJ ?_;intro j x hj hx)|refine gP ?_|refine gV ?_|refine gC (fu b ⟨1,k,q⟩) ?_|refine gC (iG p (restrict b ⟨1,k,q⟩) r hp) ?_|intro _))<;>try (conv=>whnf)
  ·refine nx (q - 1) ?_
   exact⟨by omega,by omega,by rw [← aas (by assumption) (by assumption)];exact hj⟩
  all_goals
   have aaP:¬(q≥lo∧qL p b r 1 k q=true):=by
    rintro⟨h1,h2⟩
    first|omega|(simp only [qL] at*;simp_all)
   rw [Zj aaP] at hj
   subst hj
   clear hM aaP
   refine aB [3,4,5,6,92,93] [4,5,6] [13] ?_
   (conv=>whnf)
   refine aA.mk ((Nat)×(List Lit)) (fun⟨j,o⟩=>(j≤m.length)∧(o.length≤2+j)∧(o=(atLeast k lo n++vM k up q)++((m.take j).filter fun v=>decide (m.length > 1)&&qL p b r 3 k v).map (fun v=>⟨4,k,v⟩))) (fun⟨j,o⟩=>[(94,.data (i64 j)),(9,.own 13 0)]) (fun _=>[]) (fun⟨j,o⟩=>[(13,79,o.map Lit.av,0)]) (fun⟨j,o⟩=>m.length - j) ⟨0,atLeast k lo n++vM k up q⟩ ?_ ?_ ?_
   rotate_left
   ·(repeat' ((conv=>whnf)<;>(first|exact trivial|exact rfl|with_reducible refine And.intro ?_ ?_)))<;>((conv=>whnf)<;>(simp [atLeast,vM,Lit.av, *]))
   rotate_left
   ·exact⟨Nat.zero_le _,by have h1:=Iq k lo n;have h2:=LQ k up q;simp only [List.length_append];omega,by simp⟩
   rintro⟨j,o⟩ ⟨hj3,ol,ho⟩
   by_cases hlt:j < m.length
   ·obtain⟨v,hv⟩:∃v,m[j]? =some v:=⟨m[j]'hlt,by simp⟩
    (repeat' ((conv=>whnf);first|with_reducible refine Idx.got hv rfl ?_|with_reducible refine Idx.got g.lo rfl ?_|with_reducible refine Idx.got g.hi rfl ?_|with_reducible refine Idx.got g.modes rfl ?_|refine gA ?_|(refine gB ?_ ?_<;>intro h)|(refine gI ?_;intro x hx)|(refine gJ ?_;intro j x hj hx)|refine gP ?_|refine gV ?_|refine gC (fu b ⟨3,k,v⟩) ?_|refine gC (iG p (restrict b ⟨3,k,v⟩) r hp) ?_|intro _))<;>try (conv=>whnf)
    ·refine nw ⟨j+1,o++[⟨4,k,v⟩]⟩ ?_ ?_
     ·(repeat' ((conv=>whnf)<;>(first|exact trivial|exact rfl|with_reducible refine And.intro ?_ ?_)))<;>((conv=>whnf)<;>(simp [Lit.av]))
     have hml:m.length > 1:=by omega
     exact⟨by omega,by simp;omega,(mG ho hv).1 (by simp only [qL] at*;simp [*])⟩
    ·refine nx ⟨j+1,o⟩ ?_
     exact⟨by omega,by omega,(mG ho hv).2 (by simp only [qL] at*;simp [*])⟩
    ·refine nx ⟨j+1,o⟩ ?_
     have hml:¬ m.length > 1:=by omega
     exact⟨by omega,by omega,(mG ho hv).2 (by simp only [qL] at*;simp [*])⟩
    ·exfalso;omega
   ·(repeat' ((conv=>whnf);first|(exfalso;omega)|refine gA ?_|(refine gB ?_ ?_<;>intro h)|(refine gI ?_;intro x hx)|(refine gJ ?_;intro j x hj hx)|refine gP ?_|refine gV ?_|intro _))<;>try (conv=>whnf)
    all_goals (refine⟨?_,rfl,trivial⟩;rw [ho,List.take_of_length_le (by omega)])
end Go.Proofs.YtmenphiahgkjkaaGreatDoor.Abs
namespace Go.Proofs.YtmenphiahgkjkaaGreatDoor.Abs
open Go.Proofs
def AP (p:Proj) (b:Dom) (r:Rul) (a:Int):Option Infer:=(mQ p b r a.toNat).head?.map fun l=>⟨l,r,(dO p b r l).1⟩
def uS (p:Proj) (b:Dom) (r:Rul):Option Infer:=(jA p r).findSome? (AP p b r)
def bF (p:Proj) (b:Dom):Option Infer:=if (fM p b).isSome=true then none else (aX p b).findSome? (uS p b)
def aat:Infer:=⟨bU,QN,[]⟩
def abL (o:Option Infer):RV:=let x:=o.getD aat;.tup [.agg [.d (i64 x.lit.kind),.d (i64 x.lit.act),.d (i64 x.lit.val),.d (i64 x.rule.kind),.d (i64 x.rule.a),.d (i64 x.rule.b),.d (i64 x.rule.c),.fr (x.clause.map Lit.av)],.d (.bool o.isSome)]
theorem OH {α β:Type} {f:α→Option β} {l:List α} {k:Nat} {x:α} (h:l[k]? =some x):(l.drop k).findSome? f=(match f x with|some y=>some y|none=>(l.drop (k+1)).findSome? f):=by
 rw [aF h,List.findSome?_cons];cases f x<;>rfl
theorem xU {p:Proj} {b:Dom} (h:usable p b=true):ak p b=true:=(mH h).1
theorem VB (p:Proj) (b:Dom) (r:Rul) (k:Nat) (hf:ak p b=true) (hk:k < p.acts.length):(mQ p b r k).length≤5:=by
 obtain⟨a,x,y,m,g⟩:=dL hf hk
 rw [wG g,uR]
 have h1:=Iq k x (goUp (qL p b r 2 k) y (y+1 - x).toNat x)
 have h2:=LQ k y (zT (qL p b r 1 k) x (y+1 - x).toNat y)
 have h3:=TM g
 have h4:=List.length_filter_le (fun v=>decide (m.length > 1)&&qL p b r 3 k v) m
 simp only [List.length_append,List.length_map];omega
theorem QO (p:Proj) (r:Rul):(jA p r).length≤200:=by
 unfold jA
 split
 ·rename_i ho
  have hpo:aL p=true:=by simp only [jd,Bool.and_eq_true] at ho;exact ho.1
  have hna:=(fG hpo).KS
  split
  ·have:=jV [(iF p r.a).src,(iF p r.a).dst]
   simp only [List.length_cons,List.length_nil] at this;omega
  split
  ·simp
  split
  ·simp
  split
  ·exact EW _
  ·unfold users
   split
   ·have:=yM (AO p r.a) p.acts.length;omega
   ·simp
 ·simp
theorem Bg (p:Proj) (b:Dom) (hp:p.fine):Con 94 [.d p.av,.d b.av] (abL (bF p b)):=by
 refine con Tryz.func94 rfl rfl Tryz.call94 rfl fun hwf=>?_
 have hF:=rF p b hp
 have hcl:=Ce p b
 cases hn:(fM p b).isSome with
 |true=>
  rw [bF,if_pos hn]
  rw [Zg,hn] at hF
  (repeat' ((conv=>whnf);first|refine gA ?_|(refine gB ?_ ?_<;>intro h)|(refine gI ?_;intro x hx)|(refine gJ ?_;intro j x hj hx)|refine gV ?_|refine gC (hF) ?_|intro _))<;>try (conv=>whnf)
  exact fv
 |false=>
  rw [bF,if_neg (by simp [hn])]
  rw [Zg,hn] at hF
  (repeat' ((conv=>whnf);first|refine gA ?_|(refine gB ?_ ?_<;>intro h)|(refine gI ?_;intro x hx)|(refine gJ ?_;intro j x hj hx)|refine gV ?_|refine gC (hF) ?_|refine gC (mP p b hp) ?_|intro _))<;>try (conv=>whnf)
  refine aB [2,3,4,26,27] [2,3,4] [] ?_
  (conv=>whnf)
  refine aA.go ((Nat)) (fun k=>(k≤(aX p b).length)∧(((aX p b).drop k).findSome? (uS p b)=(aX p b).findSome? (uS p b))) (fun k=>[(28,.data (i64 k))]) (fun _=>[]) (fun _=>[]) (fun k=>(aX p b).length - k) (0) ?_ ?_
  ·exact⟨Nat.zero_le _,rfl⟩
  rintro k ⟨hk,hi⟩
  by_cases hlt:k < (aX p b).length
  rotate_left
  ·(repeat' ((conv=>whnf);first|(exfalso;omega)|refine gA ?_|(refine gB ?_ ?_<;>intro h)|(refine gI ?_;intro x hx)|(refine gJ ?_;intro j x hj hx)|refine gV ?_|intro _))<;>try (conv=>whnf)
   rw [bC (by assumption)] at hi
   rw [← hi]
   exact fv
  obtain⟨r,hr⟩:∃r,(aX p b)[k]? =some r:=⟨(aX p b)[k]'hlt,by simp⟩
  obtain⟨hu,hro⟩:=EZ (List.mem_of_getElem? hr)
  have hf:=xU hu
  have hal:=QO p r
  rw [OH hr] at hi
  (repeat' ((conv=>whnf);first|with_reducible refine Idx.got hr rfl ?_|refine gA ?_|(refine gB ?_ ?_<;>intro h)|(refine gI ?_;intro x hx)|(refine gJ ?_;intro j x hj hx)|refine gV ?_|refine gC (Bd p r hp) ?_|intro _))<;>try (conv=>whnf)
  rotate_left
  ·exact trivial
  refine aB [2,3,4,9,26,27,28,34,35] [2,3,4,9] [] ?_
  (conv=>whnf)
  refine aA.go ((Nat)) (fun j=>(j≤(jA p r).length)∧(((jA p r).drop j).findSome? (AP p b r)=uS p b r)) (fun j=>[(36,.data (i64 j))]) (fun _=>[]) (fun _=>[]) (fun j=>(jA p r).length - j) (0) ?_ ?_
  ·exact⟨Nat.zero_le _,rfl⟩
  rintro j ⟨hj,hi2⟩
  by_cases hjl:j < (jA p r).length
  rotate_left
  ·rw [bC (by omega)] at hi2
   rw [← hi2] at hi
   (repeat' ((conv=>whnf);first|(exfalso;omega)|refine gA ?_|(refine gB ?_ ?_<;>intro h)|(refine gI ?_;intro x hx)|(refine gJ ?_;intro j x hj hx)|refine gV ?_|intro _))<;>try (conv=>whnf)
   refine nx (k+1) ?_
   exact⟨by omega,hi⟩
  obtain⟨a,ha⟩:∃a,(jA p r)[j]? =some a:=⟨(jA p r)[j]'hjl,by simp⟩
  obtain⟨n,rfl,hna⟩:=xS (List.mem_of_getElem? ha)
  have hil:=VB p b r n hf hna
  rw [OH ha,AP,Int.toNat_natCast] at hi2
  (repeat' ((conv=>whnf);first|with_reducible refine Idx.got ha rfl ?_|refine gA ?_|(refine gB ?_ ?_<;>intro h)|(refine gI ?_;intro x hx)|(refine gJ ?_;intro j x hj hx)|refine gV ?_|refine gC (Nf p b r n hp hf hna) ?_|intro _))<;>try (conv=>whnf)
  rotate_left
  ·exfalso;omega
  refine aB [2,3,4,9,26,27,28,34,35,36,44,45] [2,3,4,9] [] ?_
  (conv=>whnf)
  refine aA.go ((Nat)) (fun m=>(m=0)) (fun m=>[(46,.data (i64 m))]) (fun _=>[]) (fun _=>[]) (fun m=>0) (0) ?_ ?_
  ·rfl
  rintro m hm
  subst hm
  by_cases h0:0 < (mQ p b r n).length
  ·obtain⟨l,hx⟩:∃l,(mQ p b r n)[0]? =some l:=⟨(mQ p b r n)[0]'h0,by simp⟩
   have hh:(mQ p b r n).head? =some l:=by rw [List.head?_eq_getElem?];exact hx
   rw [hh] at hi2
   have hi3:some (⟨l,r,(dO p b r l).1⟩:Infer)=uS p b r:=hi2
   rw [← hi3] at hi
   have hi4:some (⟨l,r,(dO p b r l).1⟩:Infer)=(aX p b).findSome? (uS p b):=hi
   rw [← hi4]
   (repeat' ((conv=>whnf);first|with_reducible refine Idx.got hx rfl ?_|refine gA ?_|(refine gB ?_ ?_<;>intro h)|(refine gI ?_;intro x hx)|(refine gJ ?_;intro j x hj hx)|refine gV ?_|refine gC (Bf p b r l hp) ?_|intro _))<;>try (conv=>whnf)
   ·exact fv
   ·exfalso;omega
  ·have hh:(mQ p b r n).head? =none:=by rw [List.head?_eq_none_iff];exact List.eq_nil_of_length_eq_zero (by omega)
   rw [hh] at hi2
   (repeat' ((conv=>whnf);first|(exfalso;omega)|refine gA ?_|(refine gB ?_ ?_<;>intro h)|(refine gI ?_;intro x hx)|(refine gJ ?_;intro j x hj hx)|refine gV ?_|intro _))<;>try (conv=>whnf)
   refine nx (j+1) ?_
   exact⟨by omega,hi2⟩
end Go.Proofs.YtmenphiahgkjkaaGreatDoor.Abs
