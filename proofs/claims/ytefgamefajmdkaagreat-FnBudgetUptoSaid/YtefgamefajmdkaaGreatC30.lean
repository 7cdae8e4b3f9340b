/- Contracts: a refutation is found; literals that follow from a rule are explained. -/
import Derived.Test.YtefgamefajmdkaaGreatC28
import Derived.Test.YtefgamefajmdkaaGreatC12
set_option linter.all false
set_option maxRecDepth 20000
set_option maxHeartbeats 0
namespace Go.Proofs.YtefgamefajmdkaaGreat.Abs
open Go.Proofs
theorem Qj {p:Proj} {b:Dom} (hu:usable p b=true) {r:Rul} (h:r∈Bb p b):ji p r=true:=by
 have hpo:=(bF (jV hu).1).1
 simp only [Bb,iU,mG,List.mem_append,List.mem_map,List.mem_flatMap,List.mem_range] at h
 rcases h with (((⟨k,hk,rfl⟩|⟨k,hk,rfl⟩)|⟨k,hk,rfl⟩)|⟨i,hi,h⟩)|⟨i,hi,a,ha,h⟩
 ·have hw:within (k:Int) 0 ((p.links.length:Int) - 1)=true:=within_iff.2 (by omega)
  simp [ji,lK,hpo,hw]
 ·have hw:bM p (k:Int)=true:=within_iff.2 (by omega)
  simp [ji,endRule,hpo,hw]
 ·have hw:jy p (k:Int)=true:=within_iff.2 (by omega)
  simp [ji,jO,hpo,hw]
 ·have hw:fI p (i:Int)=true:=within_iff.2 (by omega)
  obtain⟨x,hx⟩:∃x,p.aW[i]? =some x:=⟨p.aW[i]'hi,by simp⟩
  rw [DJ hx,List.mem_append,List.mem_map,List.mem_map] at h
  rcases h with⟨t,ht,rfl⟩|⟨q,hq,rfl⟩
  ·have:=(List.mem_filter.1 ht).2
   simp [ji,GJ,hpo,hw,this]
  ·obtain⟨u,v,rfl,h1,h2,h3⟩:=yt hq
   simp [ji,JU,hpo,hw,h1,h2,h3]
 ·unfold eB at h
  split at h
  ·rename_i hm
   obtain⟨j,hj,rfl⟩:=List.mem_map.1 h
   have hj:=List.mem_range.1 hj
   have h1:bM p (a:Int)=true:=within_iff.2 (by omega)
   have h2:bM p ((a+1+j:Nat):Int)=true:=within_iff.2 (by omega)
   have h3:(a:Int) < ((a+1+j:Nat):Int):=by omega
   unfold ji mZ
   dsimp only
   rw [hpo,Bool.true_and,if_neg (by decide),if_neg (by decide),if_neg (by decide),if_neg (by decide),if_pos rfl]
   simp only [hm,h1,h2,decide_eq_true h3]
   rfl
  ·simp at h
theorem LY {p:Proj} {b:Dom} {r:Rul} (h:r∈aQ p b):usable p b=true∧ji p r=true:=by
 unfold aQ at h
 split at h
 ·rename_i hu
  exact⟨hu,Qj hu h⟩
 ·simp at h
def LZ:Rul:=⟨0,0,0,0⟩
def fE (p:Proj) (b:Dom):Option Rul:=if aS p b=true∧jB b=true then some LZ else (aQ p b).find? (refutes p b)
def TY (o:Option Rul):RV:=.tup [.d (o.getD LZ).av,.d (.bool o.isSome)]
theorem JX {α:Type} {f:α→Bool} {l:List α} {k:Nat} {x:α} (h:l[k]? =some x):(l.drop k).find? f=if f x=true then some x else (l.drop (k+1)).find? f:=by
 rw [aC h,List.find?_cons];cases f x<;>rfl
theorem yu (p:Proj) (b:Dom):(aQ p b).length≤300:=by
 unfold aQ
 split
 ·rename_i hu
  have hf:=(jV hu).1
  have hpo:=(bF hf).1
  have h1:=JV hpo
  have h2:=GQ hpo
  have h3:=yj hf
  obtain⟨_,hr3,_,_⟩:=kP hpo
  obtain⟨_,l1,l2,l3,_⟩:=bF hf
  have hna:=(dP hpo).FU
  have h4:∀i,(pW p b i).length≤50:=fun i=>by
   unfold pW
   split
   ·rename_i x hx
    have h5:=JW hpo hx
    have h6:=jg (b.hi++x.steps.map Step.at')
    have h7:=List.length_filter_le fF (setOf (b.hi++x.steps.map Step.at'))
    simp only [List.length_append,List.length_map] at h6
    simp only [Ba,List.length_append,List.length_map];omega
   ·simp
  have h5:=kY (f:=pW p b) (c:=50) (l:=List.range p.aW.length) fun i _=>h4 i
  simp only [List.length_range] at h5
  simp only [Bb,List.length_append];omega
 ·simp
theorem nV (p:Proj) (b:Dom) (hp:p.fine):Con 204 [.d p.av,.d b.av] (TY (fE p b)):=by
 refine con Tryz.func204 rfl rfl Tryz.call204 rfl fun hwf=>?_
 simp only [ARs.wf,AR.wf,AV.wf,AV.wfs,lm,lim] at hwf
 have hl:=yu p b
 cases h1:aS p b with
 |false=>
  rw [fE,if_neg (by simp [h1])]
  (repeat' ((conv=>whnf);first|refine gA ?_|(refine gB ?_ ?_<;>intro h)|(refine gI ?_;intro x hx)|(refine gJ ?_;intro j x hj hx)|refine gV ?_|refine gC (aL p b hp) ?_|refine gC (aP b) ?_|refine gC (kg p b hp) ?_|intro _))<;>try (conv=>whnf)
  refine aA [2,3,4,18,19] [2,3,4] [] ?_
  (conv=>whnf)
  refine ay.go ((Nat)) (fun k=>(k≤(aQ p b).length)∧(((aQ p b).drop k).find? (refutes p b)=(aQ p b).find? (refutes p b))) (fun k=>[(20,.data (i64 k))]) (fun _=>[]) (fun _=>[]) (fun k=>(aQ p b).length - k) (0) ?_ ?_
  ·exact⟨Nat.zero_le _,rfl⟩
  rintro k ⟨hk,hi⟩
  by_cases hlt:k < (aQ p b).length
  ·obtain⟨r,hr⟩:∃r,(aQ p b)[k]? =some r:=⟨(aQ p b)[k]'hlt,by simp⟩
   rw [JX hr] at hi
   (repeat' ((conv=>whnf);first|with_reducible refine Idx.got hr rfl ?_|refine gA ?_|(refine gB ?_ ?_<;>intro h)|(refine gI ?_;intro x hx)|(refine gJ ?_;intro j x hj hx)|refine gV ?_|refine gC (fJ p b r hp) ?_|intro _))<;>try (conv=>whnf)
   ·rw [if_pos (by assumption)] at hi
    rw [← hi]
    exact fv
   ·refine nx (k+1) ?_
    rw [if_neg (by simp [*])] at hi
    exact⟨by omega,hi⟩
   ·exfalso;omega
  ·(repeat' ((conv=>whnf);first|(exfalso;omega)|refine gA ?_|(refine gB ?_ ?_<;>intro h)|(refine gI ?_;intro x hx)|(refine gJ ?_;intro j x hj hx)|refine gV ?_|intro _))<;>try (conv=>whnf)
   rw [aU (by assumption)] at hi
   rw [← hi]
   exact fv
 |true=>
 cases h2:jB b with
 |true=>
  rw [fE,if_pos ⟨h1,h2⟩]
  (repeat' ((conv=>whnf);first|refine gA ?_|(refine gB ?_ ?_<;>intro h)|(refine gI ?_;intro x hx)|(refine gJ ?_;intro j x hj hx)|refine gV ?_|refine gC (aL p b hp) ?_|refine gC (aP b) ?_|intro _))<;>try (conv=>whnf)
  exact fv
 |false=>
  rw [fE,if_neg (by simp [h2])]
  (repeat' ((conv=>whnf);first|refine gA ?_|(refine gB ?_ ?_<;>intro h)|(refine gI ?_;intro x hx)|(refine gJ ?_;intro j x hj hx)|refine gV ?_|refine gC (aL p b hp) ?_|refine gC (aP b) ?_|refine gC (kg p b hp) ?_|intro _))<;>try (conv=>whnf)
  refine aA [2,3,4,18,19] [2,3,4] [] ?_
  (conv=>whnf)
  refine ay.go ((Nat)) (fun k=>(k≤(aQ p b).length)∧(((aQ p b).drop k).find? (refutes p b)=(aQ p b).find? (refutes p b))) (fun k=>[(20,.data (i64 k))]) (fun _=>[]) (fun _=>[]) (fun k=>(aQ p b).length - k) (0) ?_ ?_
  ·exact⟨Nat.zero_le _,rfl⟩
  rintro k ⟨hk,hi⟩
  by_cases hlt:k < (aQ p b).length
  ·obtain⟨r,hr⟩:∃r,(aQ p b)[k]? =some r:=⟨(aQ p b)[k]'hlt,by simp⟩
   rw [JX hr] at hi
   (repeat' ((conv=>whnf);first|with_reducible refine Idx.got hr rfl ?_|refine gA ?_|(refine gB ?_ ?_<;>intro h)|(refine gI ?_;intro x hx)|(refine gJ ?_;intro j x hj hx)|refine gV ?_|refine gC (fJ p b r hp) ?_|intro _))<;>try (conv=>whnf)
   ·rw [if_pos (by assumption)] at hi
    rw [← hi]
    exact fv
   ·refine nx (k+1) ?_
    rw [if_neg (by simp [*])] at hi
    exact⟨by omega,hi⟩
   ·exfalso;omega
  ·(repeat' ((conv=>whnf);first|(exfalso;omega)|refine gA ?_|(refine gB ?_ ?_<;>intro h)|(refine gI ?_;intro x hx)|(refine gJ ?_;intro j x hj hx)|refine gV ?_|intro _))<;>try (conv=>whnf)
   rw [aU (by assumption)] at hi
   rw [← hi]
   exact fv
def kQ (p:Proj) (b:Dom) (r:Rul) (l:Lit):List Lit×Bool:=
 if vw p l=true∧refutes p (restrict b (negate l)) r=true then (rX p r (fun x=>bD x l) (eP (Gx p b++[l])),true) else ([],false)
def XR (r:List Lit×Bool):RV:=.tup [.fr (r.1.map Lit.av),.d (.bool r.2)]
theorem vW (x l:Lit):Con 280 [.d x.av,.ref l.av] (.d (.bool (bD x l))):=by
 refine con Tryz.func280 rfl rfl Tryz.call280 rfl fun hwf=>?_
 (repeat' ((conv=>whnf);first|refine gA ?_|(refine gB ?_ ?_<;>intro h)|intro _))<;>try (conv=>whnf)
 all_goals exact⟨by simp [bD],rfl,trivial⟩
theorem Ua (p:Proj) (b:Dom):(Gx p b).length≤1212:=by rw [Gx,List.length_map];exact DC p b
theorem xw (p:Proj) (b:Dom) (r:Rul) (l:Lit) (hp:p.fine):Con 249 [.d p.av,.d b.av,.d r.av,.d l.av] (XR (kQ p b r l)):=by
 refine con Tryz.func249 rfl rfl Tryz.call249 rfl fun hwf=>?_
 have hnl:=Ua p b
 have hN:=gD (Gx p b++[l])
 rw [lits,List.map_append] at hN
 (repeat' ((conv=>whnf);first|refine gA ?_|(refine gB ?_ ?_<;>intro h)|refine gP ?_|refine gC (lN p l hp) ?_|refine gC (dZ l) ?_|refine gC (dH b (negate l)) ?_|refine gC (fJ p (restrict b (negate l)) r hp) ?_|refine gC (vV p b hp) ?_|refine gC (hN) ?_|refine gC (Gu p r (eP (Gx p b++[l])) 280 [l.av] _ hp (fun x=>vW x l)) ?_|intro _))<;>try (conv=>whnf)
 ·rw [kQ,if_pos ⟨by assumption,by assumption⟩]
  exact fv
 ·rw [kQ,if_neg (by simp [*])]
  exact fv
 ·rw [kQ,if_neg (by simp [*])]
  exact fv
open Go.Proofs
theorem JY {p:Proj} {r:Int} {a:Int} (h:a∈users p r):∃k:Nat,a=k∧k < p.acts.length:=by
 unfold users at h
 split at h
 ·have h1:=(List.mem_filter.1 h).1
  simp only [upTo,List.mem_map,List.mem_range] at h1
  obtain⟨k,hk,rfl⟩:=h1
  exact⟨k,rfl,hk⟩
 ·simp at h
theorem sj {p:Proj} {a:Int} (h:bM p a=true):∃k:Nat,a=k∧k < p.acts.length:=by
 obtain⟨n,x,h1,h2⟩:=kL h
 exact⟨n,h1,(List.getElem?_eq_some_iff.1 h2).1⟩
theorem Ma {p:Proj} {r:Rul} {a:Int} (h:a∈gZ p r):∃k:Nat,a=k∧k < p.acts.length:=by
 unfold gZ at h
 split at h
 ·rename_i ho
  have hpo:bC p=true:=by simp only [ji,Bool.and_eq_true] at ho;exact ho.1
  cases Ga ho with
  |link hk k l e1 hl=>
   rw [if_pos hk,CK] at h
   have e:nN p r.a=l:=by simp [nN,e1,List.getD_eq_getElem?_getD,hl]
   rw [e] at h
   have hlo:=(dP hpo).link k l hl
   simp only [pI,Bool.and_eq_true] at hlo
   simp only [List.mem_cons,List.not_mem_nil,or_false] at h
   rcases h with rfl|rfl
   ·exact sj hlo.1.1.1
   ·exact sj hlo.1.1.2
  |fin hk ha=>
   simp [hk] at h
   subst h
   exact sj ha
  |time hk ha hb=>simp [hk] at h;exact JY h
  |work hk ha hb hc hlt=>simp [hk] at h;exact JY h
  |pair hk ha hb hc hlt=>
   simp [hk] at h
   rcases h with rfl|rfl
   ·exact sj hb
   ·exact sj hc
  |Dv hk ha=>simp [hk] at h;exact Ar h
 ·simp at h
def uK (p:Proj) (b:Dom) (r:Rul) (k:Int) (a:Nat) (n:Int):Bool:=refutes p (restrict b ⟨k,a,n⟩) r
def goUp (f:Int→Bool) (hi:Int):Nat→Int→Int
 |0,n=>n
 |k+1,n=>if n≤hi∧f n=true then goUp f hi k (n+1) else n
def IG (f:Int→Bool) (lo:Int):Nat→Int→Int
 |0,n=>n
 |k+1,n=>if n≥lo∧f n=true then IG f lo k (n - 1) else n
theorem Ve {f:Int→Bool} {hi n:Int} (h:n≤hi) (hf:f n=true):goUp f hi (hi+1 - n).toNat n=goUp f hi (hi+1 - (n+1)).toNat (n+1):=by
 obtain⟨m,hm⟩:∃m,(hi+1 - n).toNat=m+1:=⟨(hi - n).toNat,by omega⟩
 rw [hm,goUp,if_pos ⟨h,hf⟩,show (hi+1 - (n+1)).toNat=m by omega]
theorem Ub {f:Int→Bool} {hi n:Int} (h:¬(n≤hi∧f n=true)):∀k,goUp f hi k n=n
 |0=>rfl
 |k+1=>by rw [goUp,if_neg h]
theorem Vf {f:Int→Bool} {lo n:Int} (h:n≥lo) (hf:f n=true):IG f lo (n+1 - lo).toNat n=IG f lo (n - 1+1 - lo).toNat (n - 1):=by
 obtain⟨m,hm⟩:∃m,(n+1 - lo).toNat=m+1:=⟨(n - lo).toNat,by omega⟩
 rw [hm,IG,if_pos ⟨h,hf⟩,show (n - 1+1 - lo).toNat=m by omega]
theorem Uc {f:Int→Bool} {lo n:Int} (h:¬(n≥lo∧f n=true)):∀k,IG f lo k n=n
 |0=>rfl
 |k+1=>by rw [IG,if_neg h]
def atLeast (k:Nat) (lo n:Int):List Lit:=if n > lo then [⟨1,k,n⟩] else []
def CU (k:Nat) (up n:Int):List Lit:=if n < up then [⟨2,k,n⟩] else []
theorem DK (k:Nat) (lo n:Int):(atLeast k lo n).length≤1:=by unfold atLeast;split<;>simp
theorem GR (k:Nat) (up n:Int):(CU k up n).length≤1:=by unfold CU;split<;>simp
def Ew (p:Proj) (b:Dom) (r:Rul) (k:Nat) (lo up:Int) (m:List Int):List Lit:=
 atLeast k lo (goUp (uK p b r 2 k) up (up+1 - lo).toNat lo)++CU k up (IG (uK p b r 1 k) lo (up+1 - lo).toNat up)++
  (m.filter fun v=>decide (m.length > 1)&&uK p b r 3 k v).map fun v=>⟨4,k,v⟩
def ru (p:Proj) (b:Dom) (r:Rul) (k:Nat):List Lit:=
 match b.lo[k]?,b.hi[k]?,b.modes[k]? with
 |some lo,some up,some m=>Ew p b r k lo up m
 |_,_,_=>[]
theorem JZ {p:Proj} {b:Dom} {r:Rul} {k:Nat} {a:aB} {x y:Int} {m:List Int} (g:dX p b k a x y m):ru p b r k=Ew p b r k x y m:=by
 simp only [ru,g.lo,g.hi,g.modes]
theorem WG {l:List Int} (h:l.Pairwise (· < ·)):∀{lo hi:Int},(∀x∈l,lo≤x∧x < hi)→lo≤hi→(l.length:Int)≤hi - lo:=by
 induction l with
 |nil=>intro lo hi _ h;simp;omega
 |cons x r ih=>
  intro lo hi hx _
  rw [List.pairwise_cons] at h
  have h1:=hx x (by simp)
  have:=ih h.2 (lo:=x+1) (hi:=hi) (fun y hy=>⟨by have:=h.1 y hy;omega,(hx y (by simp [hy])).2⟩) (by omega)
  simp only [List.length_cons];push_cast;omega
theorem OA {p:Proj} {b:Dom} {k:Nat} {a:aB} {x y:Int} {m:List Int} (g:dX p b k a x y m):m.length≤3:=by
 have h2:=g.aok
 simp only [cB,Bool.and_eq_true,within_iff] at h2
 have:=WG (FQ g.mok) (lo:=0) (hi:=3) (fun x hx=>by
  obtain⟨j,rfl,hj⟩:=g.UO x hx
  omega) (by omega)
 omega
theorem II (p:Proj) (b:Dom) (r:Rul) (k:Nat) (hp:p.fine) (hf:aS p b=true) (hk:k < p.acts.length):Con 248 [.d p.av,.d b.av,.d r.av,.d (i64 k)] (.d (lits (ru p b r k))):=by
 refine con Tryz.func248 rfl rfl Tryz.call248 rfl fun hwf=>?_
 simp only [ARs.wf,AR.wf,AV.wf,AV.wfs,lm,lim] at hwf
 obtain⟨a,lo,up,m,g⟩:=gY hf hk
 rw [JZ g,Ew]
 have hlo:=g.lob
 have hup:=g.hib
 have hm3:=OA g
 obtain⟨N,hN⟩:∃N,N=goUp (uK p b r 2 k) up (up+1 - lo).toNat lo:=⟨_,rfl⟩
 obtain⟨M,hM⟩:∃M,M=IG (uK p b r 1 k) lo (up+1 - lo).toNat up:=⟨_,rfl⟩
 rw [← hN, ← hM]
 (repeat' ((conv=>whnf);first|with_reducible refine Idx.got g.lo rfl ?_|with_reducible refine Idx.got g.hi rfl ?_|with_reducible refine Idx.got g.modes rfl ?_|refine gA ?_|(refine gB ?_ ?_<;>intro h)|(refine gI ?_;intro x hx)|(refine gJ ?_;intro j x hj hx)|refine gP ?_|refine gV ?_|intro _))<;>try (conv=>whnf)
 refine aA [3,4,5,6,9] [4,5,6] [] ?_
 (conv=>whnf)
 refine ay.go ((Int)) (fun n=>(lo≤n)∧(n≤63)∧(goUp (uK p b r 2 k) up (up+1 - n).toNat n=N)) (fun n=>[(10,.data (i64 n))]) (fun _=>[]) (fun _=>[]) (fun n=>(up+1 - n).toNat) (lo) ?_ ?_
 ·exact⟨Int.le_refl _,by omega,hN.symm⟩
 rintro n ⟨hn,hn2,hi⟩
 (repeat' ((conv=>whnf);first|with_reducible refine Idx.got g.lo rfl ?_|with_reducible refine Idx.got g.hi rfl ?_|with_reducible refine Idx.got g.modes rfl ?_|refine gA ?_|(refine gB ?_ ?_<;>intro h)|(refine gI ?_;intro x hx)|(refine gJ ?_;intro j x hj hx)|refine gP ?_|refine gV ?_|refine gC (dH b ⟨2,k,n⟩) ?_|refine gC (fJ p (restrict b ⟨2,k,n⟩) r hp) ?_|intro _))<;>try (conv=>whnf)
 ·refine nx (n+1) ?_
  exact⟨by omega,by omega,by rw [← Ve (by assumption) (by assumption)];exact hi⟩
 all_goals
  have hoff:¬(n≤up∧uK p b r 2 k n=true):=by
   rintro⟨h1,h2⟩
   first|omega|(simp only [uK] at*;simp_all)
  rw [Ub hoff] at hi
  subst hi
  clear hN hoff
  refine aA [3,4,5,6,9] [4,5,6] [] ?_
  (conv=>whnf)
  refine ay.go ((Int)) (fun q=>(q≤up)∧(-3≤q)∧(IG (uK p b r 1 k) lo (q+1 - lo).toNat q=M)) (fun q=>[(10,.data (i64 q))]) (fun _=>[]) (fun _=>[]) (fun q=>(q+1 - lo).toNat) (up) ?_ ?_
  ·exact⟨Int.le_refl _,by omega,hM.symm⟩
  rintro q ⟨hq,hq2,hj⟩
  (repeat' ((conv=>whnf);first|with_reducible refine Idx.got g.lo rfl ?_|with_reducible refine Idx.got g.hi rfl ?_|with_reducible refine Idx.got g.modes rfl ?_|refine gA ?_|(refine gB ?_ ?_<;>intro h)|(refine gI ?_;intro x hx)|(refine gJ ?_;intro j x hj hx)|refine gP ?_|refine gV ?_|refine gC (dH b ⟨1,k,q⟩) ?_|refine gC (fJ p (restrict b ⟨1,k,q⟩) r hp) ?_|intro _))<;>try (conv=>whnf)
  ·refine nx (q - 1) ?_
   exact⟨by omega,by omega,by rw [← Vf (by assumption) (by assumption)];exact hj⟩
  all_goals
   have Vy:¬(q≥lo∧uK p b r 1 k q=true):=by
    rintro⟨h1,h2⟩
    first|omega|(simp only [uK] at*;simp_all)
   rw [Uc Vy] at hj
   subst hj
   clear hM Vy
   refine aA [3,4,5,6,92,93] [4,5,6] [13] ?_
   (conv=>whnf)
   refine ay.mk ((Nat)×(List Lit)) (fun⟨j,o⟩=>(j≤m.length)∧(o.length≤2+j)∧(o=(atLeast k lo n++CU k up q)++((m.take j).filter fun v=>decide (m.length > 1)&&uK p b r 3 k v).map (fun v=>⟨4,k,v⟩))) (fun⟨j,o⟩=>[(94,.data (i64 j)),(9,.own 13 0)]) (fun _=>[]) (fun⟨j,o⟩=>[(13,82,o.map Lit.av,0)]) (fun⟨j,o⟩=>m.length - j) ⟨0,atLeast k lo n++CU k up q⟩ ?_ ?_ ?_
   rotate_left
   ·(repeat' ((conv=>whnf)<;>(first|exact trivial|exact rfl|with_reducible refine And.intro ?_ ?_)))<;>((conv=>whnf)<;>(simp [atLeast,CU,Lit.av, *]))
   rotate_left
   ·exact⟨Nat.zero_le _,by have h1:=DK k lo n;have h2:=GR k up q;simp only [List.length_append];omega,by simp⟩
   rintro⟨j,o⟩ ⟨hj3,ol,ho⟩
   by_cases hlt:j < m.length
   ·obtain⟨v,hv⟩:∃v,m[j]? =some v:=⟨m[j]'hlt,by simp⟩
    (repeat' ((conv=>whnf);first|with_reducible refine Idx.got hv rfl ?_|with_reducible refine Idx.got g.lo rfl ?_|with_reducible refine Idx.got g.hi rfl ?_|with_reducible refine Idx.got g.modes rfl ?_|refine gA ?_|(refine gB ?_ ?_<;>intro h)|(refine gI ?_;intro x hx)|(refine gJ ?_;intro j x hj hx)|refine gP ?_|refine gV ?_|refine gC (dH b ⟨3,k,v⟩) ?_|refine gC (fJ p (restrict b ⟨3,k,v⟩) r hp) ?_|intro _))<;>try (conv=>whnf)
    ·refine nw ⟨j+1,o++[⟨4,k,v⟩]⟩ ?_ ?_
     ·(repeat' ((conv=>whnf)<;>(first|exact trivial|exact rfl|with_reducible refine And.intro ?_ ?_)))<;>((conv=>whnf)<;>(simp [Lit.av]))
     have hml:m.length > 1:=by omega
     exact⟨by omega,by simp;omega,(jU ho hv).1 (by simp only [uK] at*;simp [*])⟩
    ·refine nx ⟨j+1,o⟩ ?_
     exact⟨by omega,by omega,(jU ho hv).2 (by simp only [uK] at*;simp [*])⟩
    ·refine nx ⟨j+1,o⟩ ?_
     have hml:¬ m.length > 1:=by omega
     exact⟨by omega,by omega,(jU ho hv).2 (by simp only [uK] at*;simp [*])⟩
    ·exfalso;omega
   ·(repeat' ((conv=>whnf);first|(exfalso;omega)|refine gA ?_|(refine gB ?_ ?_<;>intro h)|(refine gI ?_;intro x hx)|(refine gJ ?_;intro j x hj hx)|refine gP ?_|refine gV ?_|intro _))<;>try (conv=>whnf)
    all_goals (refine⟨?_,rfl,trivial⟩;rw [ho,List.take_of_length_le (by omega)])
end Go.Proofs.YtefgamefajmdkaaGreat.Abs
namespace Go.Proofs.YtefgamefajmdkaaGreat.Abs
open Go.Proofs
def Mc (p:Proj) (b:Dom) (r:Rul) (a:Int):Option Infer:=(ru p b r a.toNat).head?.map fun l=>⟨l,r,(kQ p b r l).1⟩
def wV (p:Proj) (b:Dom) (r:Rul):Option Infer:=(gZ p r).findSome? (Mc p b r)
def eZ (p:Proj) (b:Dom):Option Infer:=if (fE p b).isSome=true then none else (aQ p b).findSome? (wV p b)
def Vg:Infer:=⟨fB,LZ,[]⟩
def WH (o:Option Infer):RV:=let x:=o.getD Vg;.tup [.agg [.d (i64 x.lit.kind),.d (i64 x.lit.act),.d (i64 x.lit.val),.d (i64 x.rule.kind),.d (i64 x.rule.a),.d (i64 x.rule.b),.d (i64 x.rule.c),.fr (x.clause.map Lit.av)],.d (.bool o.isSome)]
theorem Ka {α β:Type} {f:α→Option β} {l:List α} {k:Nat} {x:α} (h:l[k]? =some x):(l.drop k).findSome? f=(match f x with|some y=>some y|none=>(l.drop (k+1)).findSome? f):=by
 rw [aC h,List.findSome?_cons];cases f x<;>rfl
theorem Md {p:Proj} {b:Dom} (h:usable p b=true):aS p b=true:=(jV h).1
theorem Qk (p:Proj) (b:Dom) (r:Rul) (k:Nat) (hf:aS p b=true) (hk:k < p.acts.length):(ru p b r k).length≤5:=by
 obtain⟨a,x,y,m,g⟩:=gY hf hk
 rw [JZ g,Ew]
 have h1:=DK k x (goUp (uK p b r 2 k) y (y+1 - x).toNat x)
 have h2:=GR k y (IG (uK p b r 1 k) x (y+1 - x).toNat y)
 have h3:=OA g
 have h4:=List.length_filter_le (fun v=>decide (m.length > 1)&&uK p b r 3 k v) m
 simp only [List.length_append,List.length_map];omega
theorem Me (p:Proj) (r:Rul):(gZ p r).length≤200:=by
 unfold gZ
 split
 ·rename_i ho
  have hpo:bC p=true:=by simp only [ji,Bool.and_eq_true] at ho;exact ho.1
  have hna:=(dP hpo).FU
  split
  ·have:=jg [(nN p r.a).src,(nN p r.a).dst]
   simp only [List.length_cons,List.length_nil] at this;omega
  split
  ·simp
  split
  ·simp
  split
  ·exact AZ _
  ·unfold users
   split
   ·have:=uF (wU p r.a) p.acts.length;omega
   ·simp
 ·simp
theorem xA (p:Proj) (b:Dom) (hp:p.fine):Con 202 [.d p.av,.d b.av] (WH (eZ p b)):=by
 refine con Tryz.func202 rfl rfl Tryz.call202 rfl fun hwf=>?_
 have hF:=nV p b hp
 have hcl:=yu p b
 cases hn:(fE p b).isSome with
 |true=>
  rw [eZ,if_pos hn]
  rw [TY,hn] at hF
  (repeat' ((conv=>whnf);first|refine gA ?_|(refine gB ?_ ?_<;>intro h)|(refine gI ?_;intro x hx)|(refine gJ ?_;intro j x hj hx)|refine gV ?_|refine gC (hF) ?_|intro _))<;>try (conv=>whnf)
  exact fv
 |false=>
  rw [eZ,if_neg (by simp [hn])]
  rw [TY,hn] at hF
  (repeat' ((conv=>whnf);first|refine gA ?_|(refine gB ?_ ?_<;>intro h)|(refine gI ?_;intro x hx)|(refine gJ ?_;intro j x hj hx)|refine gV ?_|refine gC (hF) ?_|refine gC (kg p b hp) ?_|intro _))<;>try (conv=>whnf)
  refine aA [2,3,4,26,27] [2,3,4] [] ?_
  (conv=>whnf)
  refine ay.go ((Nat)) (fun k=>(k≤(aQ p b).length)∧(((aQ p b).drop k).findSome? (wV p b)=(aQ p b).findSome? (wV p b))) (fun k=>[(28,.data (i64 k))]) (fun _=>[]) (fun _=>[]) (fun k=>(aQ p b).length - k) (0) ?_ ?_
  ·exact⟨Nat.zero_le _,rfl⟩
  rintro k ⟨hk,hi⟩
  by_cases hlt:k < (aQ p b).length
  rotate_left
  ·(repeat' ((conv=>whnf);first|(exfalso;omega)|refine gA ?_|(refine gB ?_ ?_<;>intro h)|(refine gI ?_;intro x hx)|(refine gJ ?_;intro j x hj hx)|refine gV ?_|intro _))<;>try (conv=>whnf)
   rw [aU (by assumption)] at hi
   rw [← hi]
   exact fv
  obtain⟨r,hr⟩:∃r,(aQ p b)[k]? =some r:=⟨(aQ p b)[k]'hlt,by simp⟩
  obtain⟨hu,hro⟩:=LY (List.mem_of_getElem? hr)
  have hf:=Md hu
  have hal:=Me p r
  rw [Ka hr] at hi
  (repeat' ((conv=>whnf);first|with_reducible refine Idx.got hr rfl ?_|refine gA ?_|(refine gB ?_ ?_<;>intro h)|(refine gI ?_;intro x hx)|(refine gJ ?_;intro j x hj hx)|refine gV ?_|refine gC (xu p r hp) ?_|intro _))<;>try (conv=>whnf)
  rotate_left
  ·exact trivial
  refine aA [2,3,4,9,26,27,28,34,35] [2,3,4,9] [] ?_
  (conv=>whnf)
  refine ay.go ((Nat)) (fun j=>(j≤(gZ p r).length)∧(((gZ p r).drop j).findSome? (Mc p b r)=wV p b r)) (fun j=>[(36,.data (i64 j))]) (fun _=>[]) (fun _=>[]) (fun j=>(gZ p r).length - j) (0) ?_ ?_
  ·exact⟨Nat.zero_le _,rfl⟩
  rintro j ⟨hj,hi2⟩
  by_cases hjl:j < (gZ p r).length
  rotate_left
  ·rw [aU (by omega)] at hi2
   rw [← hi2] at hi
   (repeat' ((conv=>whnf);first|(exfalso;omega)|refine gA ?_|(refine gB ?_ ?_<;>intro h)|(refine gI ?_;intro x hx)|(refine gJ ?_;intro j x hj hx)|refine gV ?_|intro _))<;>try (conv=>whnf)
   refine nx (k+1) ?_
   exact⟨by omega,hi⟩
  obtain⟨a,ha⟩:∃a,(gZ p r)[j]? =some a:=⟨(gZ p r)[j]'hjl,by simp⟩
  obtain⟨n,rfl,hna⟩:=Ma (List.mem_of_getElem? ha)
  have hil:=Qk p b r n hf hna
  rw [Ka ha,Mc,Int.toNat_natCast] at hi2
  (repeat' ((conv=>whnf);first|with_reducible refine Idx.got ha rfl ?_|refine gA ?_|(refine gB ?_ ?_<;>intro h)|(refine gI ?_;intro x hx)|(refine gJ ?_;intro j x hj hx)|refine gV ?_|refine gC (II p b r n hp hf hna) ?_|intro _))<;>try (conv=>whnf)
  rotate_left
  ·exfalso;omega
  refine aA [2,3,4,9,26,27,28,34,35,36,44,45] [2,3,4,9] [] ?_
  (conv=>whnf)
  refine ay.go ((Nat)) (fun m=>(m=0)) (fun m=>[(46,.data (i64 m))]) (fun _=>[]) (fun _=>[]) (fun m=>0) (0) ?_ ?_
  ·rfl
  rintro m hm
  subst hm
  by_cases h0:0 < (ru p b r n).length
  ·obtain⟨l,hx⟩:∃l,(ru p b r n)[0]? =some l:=⟨(ru p b r n)[0]'h0,by simp⟩
   have hh:(ru p b r n).head? =some l:=by rw [List.head?_eq_getElem?];exact hx
   rw [hh] at hi2
   have hi3:some (⟨l,r,(kQ p b r l).1⟩:Infer)=wV p b r:=hi2
   rw [← hi3] at hi
   have hi4:some (⟨l,r,(kQ p b r l).1⟩:Infer)=(aQ p b).findSome? (wV p b):=hi
   rw [← hi4]
   (repeat' ((conv=>whnf);first|with_reducible refine Idx.got hx rfl ?_|refine gA ?_|(refine gB ?_ ?_<;>intro h)|(refine gI ?_;intro x hx)|(refine gJ ?_;intro j x hj hx)|refine gV ?_|refine gC (xw p b r l hp) ?_|intro _))<;>try (conv=>whnf)
   ·exact fv
   ·exfalso;omega
  ·have hh:(ru p b r n).head? =none:=by rw [List.head?_eq_none_iff];exact List.eq_nil_of_length_eq_zero (by omega)
   rw [hh] at hi2
   (repeat' ((conv=>whnf);first|(exfalso;omega)|refine gA ?_|(refine gB ?_ ?_<;>intro h)|(refine gI ?_;intro x hx)|(refine gJ ?_;intro j x hj hx)|refine gV ?_|intro _))<;>try (conv=>whnf)
   refine nx (j+1) ?_
   exact⟨by omega,hi2⟩
end Go.Proofs.YtefgamefajmdkaaGreat.Abs
