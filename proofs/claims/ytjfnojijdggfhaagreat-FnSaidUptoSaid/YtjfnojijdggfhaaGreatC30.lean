/- Contracts: a refutation is found; literals that follow from a rule are explained. -/
import Derived.Test.YtjfnojijdggfhaaGreatC28
import Derived.Test.YtjfnojijdggfhaaGreatC12
set_option linter.all false
set_option maxRecDepth 20000
set_option maxHeartbeats 0
namespace Go.Proofs.YtjfnojijdggfhaaGreat.Abs
open Go.Proofs
def Vj:Rul:=⟨0,0,0,0⟩
def EW (p:Proj) (b:Dom):Option Rul:=if aA p b=true∧aS b=true then some Vj else (iR p b).find? (refutes p b)
theorem Jc (p:Proj) (b:Dom):(iR p b).length≤300:=by
 unfold iR
 split
 ·rename_i hu
  have hf:=(mD hu).1
  have hpo:=(dw hf).1
  have h1:=Ke hpo
  have h2:=Hw hpo
  have h3:=xY hf
  obtain⟨_,hr3,_,_⟩:=kZ hpo
  obtain⟨_,l1,l2,l3,_⟩:=dw hf
  have hna:=(eB hpo).IV
  have h4:∀i,(qc p b i).length≤50:=fun i=>by
   unfold qc
   split
   ·rename_i x hx
    have h5:=Kg hpo hx
    have h6:=iQ (b.hi++x.steps.map Step.at')
    have h7:=List.length_filter_le bZ (setOf (b.hi++x.steps.map Step.at'))
    simp only [List.length_append,List.length_map] at h6
    simp only [AZ,List.length_append,List.length_map];omega
   ·simp
  have h5:=lD (f:=qc p b) (c:=50) (l:=List.range p.bM.length) fun i _=>h4 i
  simp only [List.length_range] at h5
  simp only [EU,List.length_append];omega
 ·simp
def aU (p:Proj) (b:Dom) (r:Rul) (l:Lit):List Lit×Bool:=
 if iV p l=true∧refutes p (restrict b (negate l)) r=true then (oJ p r (fun x=>dD x l) (dW (qb p b++[l])),true) else ([],false)
def VJ (r:List Lit×Bool):RV:=.tup [.fr (r.1.map Lit.av),.d (.bool r.2)]
theorem nK (x l:Lit):Con 75 [.d x.av,.ref l.av] (.d (.bool (dD x l))):=by
 refine con Tryz.func75 rfl rfl Tryz.call75 rfl fun hwf=>?_
 (repeat' ((conv=>whnf);first|refine gA ?_|(refine gB ?_ ?_<;>intro h)|intro _))<;>try (conv=>whnf)
 all_goals exact⟨by simp [dD],rfl,trivial⟩
theorem OC (p:Proj) (b:Dom):(qb p b).length≤1212:=by rw [qb,List.length_map];exact DR p b
theorem xu (p:Proj) (b:Dom) (r:Rul) (l:Lit) (hp:p.fine):Con 22 [.d p.av,.d b.av,.d r.av,.d l.av] (VJ (aU p b r l)):=by
 refine con Tryz.func22 rfl rfl Tryz.call22 rfl fun hwf=>?_
 have hnl:=OC p b
 have hN:=vS (qb p b++[l])
 rw [lits,List.map_append] at hN
 (repeat' ((conv=>whnf);first|refine gA ?_|(refine gB ?_ ?_<;>intro h)|refine gP ?_|refine gC (pQ p l hp) ?_|refine gC (qH l) ?_|refine gC (jv b (negate l)) ?_|refine gC (fP p (restrict b (negate l)) r hp) ?_|refine gC (vT p b hp) ?_|refine gC (hN) ?_|refine gC (GY p r (dW (qb p b++[l])) 75 [l.av] _ hp (fun x=>nK x l)) ?_|intro _))<;>try (conv=>whnf)
 ·rw [aU,if_pos ⟨by assumption,by assumption⟩]
  exact fv
 ·rw [aU,if_neg (by simp [*])]
  exact fv
 ·rw [aU,if_neg (by simp [*])]
  exact fv
theorem Hy {p:Proj} {b:Dom} (h:aA p b=true) {n:Nat} {m:List Int} (hm:b.modes[n]? =some m):lN m=true:=by
 have hn:=(List.getElem?_eq_some_iff.1 hm).1
 obtain⟨_,l1,l2,l3,_⟩:=dw h
 obtain⟨a,x,y,m',g⟩:=fF h (show n < p.acts.length by omega)
 have:=g.modes
 rw [hm] at this
 cases this
 exact g.mok
open Go.Proofs
theorem Kh {p:Proj} {r:Int} {a:Int} (h:a∈users p r):∃k:Nat,a=k∧k < p.acts.length:=by
 unfold users at h
 split at h
 ·have h1:=(List.mem_filter.1 h).1
  simp only [upTo,List.mem_map,List.mem_range] at h1
  obtain⟨k,hk,rfl⟩:=h1
  exact⟨k,rfl,hk⟩
 ·simp at h
theorem sD {p:Proj} {a:Int} (h:bA p a=true):∃k:Nat,a=k∧k < p.acts.length:=by
 obtain⟨n,x,h1,h2⟩:=kY h
 exact⟨n,h1,(List.getElem?_eq_some_iff.1 h2).1⟩
theorem tZ {p:Proj} {r:Rul} {a:Int} (h:a∈cZ p r):∃k:Nat,a=k∧k < p.acts.length:=by
 unfold cZ at h
 split at h
 ·rename_i ho
  have hpo:aK p=true:=by simp only [kJ,Bool.and_eq_true] at ho;exact ho.1
  cases AL ho with
  |link hk k l e1 hl=>
   rw [if_pos hk,oL] at h
   have e:fO p r.a=l:=by simp [fO,e1,List.getD_eq_getElem?_getD,hl]
   rw [e] at h
   have hlo:=(eB hpo).link k l hl
   simp only [jB,Bool.and_eq_true] at hlo
   simp only [List.mem_cons,List.not_mem_nil,or_false] at h
   rcases h with rfl|rfl
   ·exact sD hlo.1.1.1
   ·exact sD hlo.1.1.2
  |fin hk ha=>
   simp [hk] at h
   subst h
   exact sD ha
  |time hk ha hb=>simp [hk] at h;exact Kh h
  |work hk ha hb hc hlt=>simp [hk] at h;exact Kh h
  |pair hk ha hb hc hlt=>
   simp [hk] at h
   rcases h with rfl|rfl
   ·exact sD hb
   ·exact sD hc
  |Aq hk ha=>simp [hk] at h;exact Ar h
 ·simp at h
def qy (p:Proj) (b:Dom) (r:Rul) (k:Int) (a:Nat) (n:Int):Bool:=refutes p (restrict b ⟨k,a,n⟩) r
def goUp (f:Int→Bool) (hi:Int):Nat→Int→Int
 |0,n=>n
 |k+1,n=>if n≤hi∧f n=true then goUp f hi k (n+1) else n
def yU (f:Int→Bool) (lo:Int):Nat→Int→Int
 |0,n=>n
 |k+1,n=>if n≥lo∧f n=true then yU f lo k (n - 1) else n
theorem Vk {f:Int→Bool} {hi n:Int} (h:n≤hi) (hf:f n=true):goUp f hi (hi+1 - n).toNat n=goUp f hi (hi+1 - (n+1)).toNat (n+1):=by
 obtain⟨m,hm⟩:∃m,(hi+1 - n).toNat=m+1:=⟨(hi - n).toNat,by omega⟩
 rw [hm,goUp,if_pos ⟨h,hf⟩,show (hi+1 - (n+1)).toNat=m by omega]
theorem Ue {f:Int→Bool} {hi n:Int} (h:¬(n≤hi∧f n=true)):∀k,goUp f hi k n=n
 |0=>rfl
 |k+1=>by rw [goUp,if_neg h]
theorem Vl {f:Int→Bool} {lo n:Int} (h:n≥lo) (hf:f n=true):yU f lo (n+1 - lo).toNat n=yU f lo (n - 1+1 - lo).toNat (n - 1):=by
 obtain⟨m,hm⟩:∃m,(n+1 - lo).toNat=m+1:=⟨(n - lo).toNat,by omega⟩
 rw [hm,yU,if_pos ⟨h,hf⟩,show (n - 1+1 - lo).toNat=m by omega]
theorem Uf {f:Int→Bool} {lo n:Int} (h:¬(n≥lo∧f n=true)):∀k,yU f lo k n=n
 |0=>rfl
 |k+1=>by rw [yU,if_neg h]
def atLeast (k:Nat) (lo n:Int):List Lit:=if n > lo then [⟨1,k,n⟩] else []
def vU (k:Nat) (up n:Int):List Lit:=if n < up then [⟨2,k,n⟩] else []
theorem DV (k:Nat) (lo n:Int):(atLeast k lo n).length≤1:=by unfold atLeast;split<;>simp
theorem Hz (k:Nat) (up n:Int):(vU k up n).length≤1:=by unfold vU;split<;>simp
def wS (p:Proj) (b:Dom) (r:Rul) (k:Nat) (lo up:Int) (m:List Int):List Lit:=
 atLeast k lo (goUp (qy p b r 2 k) up (up+1 - lo).toNat lo)++vU k up (yU (qy p b r 1 k) lo (up+1 - lo).toNat up)++
  (m.filter fun v=>decide (m.length > 1)&&qy p b r 3 k v).map fun v=>⟨4,k,v⟩
def mE (p:Proj) (b:Dom) (r:Rul) (k:Nat):List Lit:=
 match b.lo[k]?,b.hi[k]?,b.modes[k]? with
 |some lo,some up,some m=>wS p b r k lo up m
 |_,_,_=>[]
theorem wT {p:Proj} {b:Dom} {r:Rul} {k:Nat} {a:aJ} {x y:Int} {m:List Int} (g:fB p b k a x y m):mE p b r k=wS p b r k x y m:=by
 simp only [mE,g.lo,g.hi,g.modes]
theorem WU {l:List Int} (h:l.Pairwise (· < ·)):∀{lo hi:Int},(∀x∈l,lo≤x∧x < hi)→lo≤hi→(l.length:Int)≤hi - lo:=by
 induction l with
 |nil=>intro lo hi _ h;simp;omega
 |cons x r ih=>
  intro lo hi hx _
  rw [List.pairwise_cons] at h
  have h1:=hx x (by simp)
  have:=ih h.2 (lo:=x+1) (hi:=hi) (fun y hy=>⟨by have:=h.1 y hy;omega,(hx y (by simp [hy])).2⟩) (by omega)
  simp only [List.length_cons];push_cast;omega
theorem OD {p:Proj} {b:Dom} {k:Nat} {a:aJ} {x y:Int} {m:List Int} (g:fB p b k a x y m):m.length≤3:=by
 have h2:=g.aok
 simp only [bg,Bool.and_eq_true,within_iff] at h2
 have:=WU (Ai g.mok) (lo:=0) (hi:=3) (fun x hx=>by
  obtain⟨j,rfl,hj⟩:=g.XP x hx
  omega) (by omega)
 omega
theorem Jd (p:Proj) (b:Dom) (r:Rul) (k:Nat) (hp:p.fine) (hf:aA p b=true) (hk:k < p.acts.length):Con 72 [.d p.av,.d b.av,.d r.av,.d (i64 k)] (.d (lits (mE p b r k))):=by
 refine con Tryz.func72 rfl rfl Tryz.call72 rfl fun hwf=>?_
 simp only [ARs.wf,AR.wf,AV.wf,AV.wfs,lm,lim] at hwf
 obtain⟨a,lo,up,m,g⟩:=fF hf hk
 rw [wT g,wS]
 have hlo:=g.lob
 have hup:=g.hib
 have hm3:=OD g
 obtain⟨N,hN⟩:∃N,N=goUp (qy p b r 2 k) up (up+1 - lo).toNat lo:=⟨_,rfl⟩
 obtain⟨M,hM⟩:∃M,M=yU (qy p b r 1 k) lo (up+1 - lo).toNat up:=⟨_,rfl⟩
 rw [← hN, ← hM]
 (repeat' ((conv=>whnf);first|with_reducible refine Idx.got g.lo rfl ?_|with_reducible refine Idx.got g.hi rfl ?_|with_reducible refine Idx.got g.modes rfl ?_|refine gA ?_|(refine gB ?_ ?_<;>intro h)|(refine gI ?_;intro x hx)|(refine gJ ?_;intro j x hj hx)|refine gP ?_|refine gV ?_|intro _))<;>try (conv=>whnf)
 refine aC [3,4,5,6,9] [4,5,6] [] ?_
 (conv=>whnf)
 refine aB.go ((Int)) (fun n=>(lo≤n)∧(n≤63)∧(goUp (qy p b r 2 k) up (up+1 - n).toNat n=N)) (fun n=>[(10,.data (i64 n))]) (fun _=>[]) (fun _=>[]) (fun n=>(up+1 - n).toNat) (lo) ?_ ?_
 ·exact⟨Int.le_refl _,by omega,hN.symm⟩
 rintro n ⟨hn,hn2,hi⟩
 (repeat' ((conv=>whnf);first|with_reducible refine Idx.got g.lo rfl ?_|with_reducible refine Idx.got g.hi rfl ?_|with_reducible refine Idx.got g.modes rfl ?_|refine gA ?_|(refine gB ?_ ?_<;>intro h)|(refine gI ?_;intro x hx)|(refine gJ ?_;intro j x hj hx)|refine gP ?_|refine gV ?_|refine gC (jv b ⟨2,k,n⟩) ?_|refine gC (fP p (restrict b ⟨2,k,n⟩) r hp) ?_|intro _))<;>try (conv=>whnf)
 ·refine nx (n+1) ?_
  exact⟨by omega,by omega,by rw [← Vk (by assumption) (by assumption)];exact hi⟩
 all_goals
  have hoff:¬(n≤up∧qy p b r 2 k n=true):=by
   rintro⟨h1,h2⟩
   first|omega|(simp only [qy] at*;simp_all)
  rw [Ue hoff] at hi
  subst hi
  clear hN hoff
  refine aC [3,4,5,6,9] [4,5,6] [] ?_
  (conv=>whnf)
  refine aB.go ((Int)) (fun q=>(q≤up)∧(-3≤q)∧(yU (qy p b r 1 k) lo (q+1 - lo).toNat q=M)) (fun q=>[(10,.data (i64 q))]) (fun _=>[]) (fun _=>[]) (fun q=>(q+1 - lo).toNat) (up) ?_ ?_
  ·exact⟨Int.le_refl _,by omega,hM.symm⟩
  rintro q ⟨hq,hq2,hj⟩
  (repeat' ((conv=>whnf);first|with_reducible refine Idx.got g.lo rfl ?_|with_reducible refine Idx.got g.hi rfl ?_|with_reducible refine Idx.got g.modes rfl ?_|refine gA ?_|(refine gB ?_ ?_<;>intro h)|(refine gI ?_;intro x hx)|(refine gJ ?_;intro j x hj hx)|refine gP ?_|refine gV ?_|refine gC (jv b ⟨1,k,q⟩) ?_|refine gC (fP p (restrict b ⟨1,k,q⟩) r hp) ?_|intro _))<;>try (conv=>whnf)
  ·refine nx (q - 1) ?_
   exact⟨by omega,by omega,by rw [← Vl (by assumption) (by assumption)];exact hj⟩
  all_goals
   have VK:¬(q≥lo∧qy p b r 1 k q=true):=by
    rintro⟨h1,h2⟩
    first|omega|(simp only [qy] at*;simp_all)
   rw [Uf VK] at hj
   subst hj
   clear hM VK
   refine aC [3,4,5,6,92,93] [4,5,6] [13] ?_
   (conv=>whnf)
   refine aB.mk ((Nat)×(List Lit)) (fun⟨j,o⟩=>(j≤m.length)∧(o.length≤2+j)∧(o=(atLeast k lo n++vU k up q)++((m.take j).filter fun v=>decide (m.length > 1)&&qy p b r 3 k v).map (fun v=>⟨4,k,v⟩))) (fun⟨j,o⟩=>[(94,.data (i64 j)),(9,.own 13 0)]) (fun _=>[]) (fun⟨j,o⟩=>[(13,42,o.map Lit.av,0)]) (fun⟨j,o⟩=>m.length - j) ⟨0,atLeast k lo n++vU k up q⟩ ?_ ?_ ?_
   rotate_left
   ·(repeat' ((conv=>whnf)<;>(first|exact trivial|exact rfl|with_reducible refine And.intro ?_ ?_)))<;>((conv=>whnf)<;>(simp [atLeast,vU,Lit.av, *]))
   rotate_left
   ·exact⟨Nat.zero_le _,by have h1:=DV k lo n;have h2:=Hz k up q;simp only [List.length_append];omega,by simp⟩
   rintro⟨j,o⟩ ⟨hj3,ol,ho⟩
   by_cases hlt:j < m.length
   ·obtain⟨v,hv⟩:∃v,m[j]? =some v:=⟨m[j]'hlt,by simp⟩
    (repeat' ((conv=>whnf);first|with_reducible refine Idx.got hv rfl ?_|with_reducible refine Idx.got g.lo rfl ?_|with_reducible refine Idx.got g.hi rfl ?_|with_reducible refine Idx.got g.modes rfl ?_|refine gA ?_|(refine gB ?_ ?_<;>intro h)|(refine gI ?_;intro x hx)|(refine gJ ?_;intro j x hj hx)|refine gP ?_|refine gV ?_|refine gC (jv b ⟨3,k,v⟩) ?_|refine gC (fP p (restrict b ⟨3,k,v⟩) r hp) ?_|intro _))<;>try (conv=>whnf)
    ·refine nw ⟨j+1,o++[⟨4,k,v⟩]⟩ ?_ ?_
     ·(repeat' ((conv=>whnf)<;>(first|exact trivial|exact rfl|with_reducible refine And.intro ?_ ?_)))<;>((conv=>whnf)<;>(simp [Lit.av]))
     have hml:m.length > 1:=by omega
     exact⟨by omega,by simp;omega,(kE ho hv).1 (by simp only [qy] at*;simp [*])⟩
    ·refine nx ⟨j+1,o⟩ ?_
     exact⟨by omega,by omega,(kE ho hv).2 (by simp only [qy] at*;simp [*])⟩
    ·refine nx ⟨j+1,o⟩ ?_
     have hml:¬ m.length > 1:=by omega
     exact⟨by omega,by omega,(kE ho hv).2 (by simp only [qy] at*;simp [*])⟩
    ·exfalso;omega
   ·(repeat' ((conv=>whnf);first|(exfalso;omega)|refine gA ?_|(refine gB ?_ ?_<;>intro h)|(refine gI ?_;intro x hx)|(refine gJ ?_;intro j x hj hx)|refine gP ?_|refine gV ?_|intro _))<;>try (conv=>whnf)
    all_goals (refine⟨?_,rfl,trivial⟩;rw [ho,List.take_of_length_le (by omega)])
end Go.Proofs.YtjfnojijdggfhaaGreat.Abs
namespace Go.Proofs.YtjfnojijdggfhaaGreat.Abs
open Go.Proofs
def Vm (p:Proj) (b:Dom) (r:Rul) (a:Int):Option Infer:=(mE p b r a.toNat).head?.map fun l=>⟨l,r,(aU p b r l).1⟩
def Vn (p:Proj) (b:Dom) (r:Rul):Option Infer:=(cZ p r).findSome? (Vm p b r)
def nL (p:Proj) (b:Dom):Option Infer:=if (EW p b).isSome=true then none else (iR p b).findSome? (Vn p b)
theorem Mf {p:Proj} {b:Dom} (h:usable p b=true):aA p b=true:=(mD h).1
theorem HV (p:Proj) (b:Dom) (r:Rul) (k:Nat) (hf:aA p b=true) (hk:k < p.acts.length):(mE p b r k).length≤5:=by
 obtain⟨a,x,y,m,g⟩:=fF hf hk
 rw [wT g,wS]
 have h1:=DV k x (goUp (qy p b r 2 k) y (y+1 - x).toNat x)
 have h2:=Hz k y (yU (qy p b r 1 k) x (y+1 - x).toNat y)
 have h3:=OD g
 have h4:=List.length_filter_le (fun v=>decide (m.length > 1)&&qy p b r 3 k v) m
 simp only [List.length_append,List.length_map];omega
theorem Ba (p:Proj) (r:Rul):(cZ p r).length≤200:=by
 unfold cZ
 split
 ·rename_i ho
  have hpo:aK p=true:=by simp only [kJ,Bool.and_eq_true] at ho;exact ho.1
  have hna:=(eB hpo).IV
  split
  ·have:=iQ [(fO p r.a).src,(fO p r.a).dst]
   simp only [List.length_cons,List.length_nil] at this;omega
  split
  ·simp
  split
  ·simp
  split
  ·exact AU _
  ·unfold users
   split
   ·have:=uK (wR p r.a) p.acts.length;omega
   ·simp
 ·simp
end Go.Proofs.YtjfnojijdggfhaaGreat.Abs
