/- Contracts: a refutation is found; literals that follow from a rule are explained. -/
import Derived.Test.YtefgamefajmdkaaGreatC28
import Derived.Test.YtefgamefajmdkaaGreatC12
set_option linter.all false
set_option maxRecDepth 20000
set_option maxHeartbeats 0
namespace Go.Proofs.YtefgamefajmdkaaGreat.Abs
open Go.Proofs
theorem CP {p:Proj} {b:Dom} (hu:usable p b=true) {r:Rul} (h:r∈gD p b):fG p r=true:=by
 have hpo:=(bD (lT hu).1).1
 simp only [gD,mW,Gt,List.mem_append,List.mem_map,List.mem_flatMap,List.mem_range] at h
 rcases h with (((⟨k,hk,rfl⟩|⟨k,hk,rfl⟩)|⟨k,hk,rfl⟩)|⟨i,hi,h⟩)|⟨i,hi,a,ha,h⟩
 ·have hw:within (k:Int) 0 ((p.links.length:Int) - 1)=true:=within_iff.2 (by omega)
  simp [fG,jo,hpo,hw]
 ·have hw:bn p (k:Int)=true:=within_iff.2 (by omega)
  simp [fG,endRule,hpo,hw]
 ·have hw:iO p (k:Int)=true:=within_iff.2 (by omega)
  simp [fG,gZ,hpo,hw]
 ·have hw:dV p (i:Int)=true:=within_iff.2 (by omega)
  obtain⟨x,hx⟩:∃x,p.bB[i]? =some x:=⟨p.bB[i]'hi,by simp⟩
  rw [Hz hx,List.mem_append,List.mem_map,List.mem_map] at h
  rcases h with⟨t,ht,rfl⟩|⟨q,hq,rfl⟩
  ·have:=(List.mem_filter.1 ht).2
   simp [fG,KN,hpo,hw,this]
  ·obtain⟨u,v,rfl,h1,h2,h3⟩:=Bp hq
   simp [fG,Nh,hpo,hw,h1,h2,h3]
 ·unfold fO at h
  split at h
  ·rename_i hm
   obtain⟨j,hj,rfl⟩:=List.mem_map.1 h
   have hj:=List.mem_range.1 hj
   have h1:bn p (a:Int)=true:=within_iff.2 (by omega)
   have h2:bn p ((a+1+j:Nat):Int)=true:=within_iff.2 (by omega)
   have h3:(a:Int) < ((a+1+j:Nat):Int):=by omega
   unfold fG jN
   dsimp only
   rw [hpo,Bool.true_and,if_neg (by decide),if_neg (by decide),if_neg (by decide),if_neg (by decide),if_pos rfl]
   simp only [hm,h1,h2,decide_eq_true h3]
   rfl
  ·simp at h
theorem Pn {p:Proj} {b:Dom} {r:Rul} (h:r∈iK p b):usable p b=true∧fG p r=true:=by
 unfold iK at h
 split at h
 ·rename_i hu
  exact⟨hu,CP hu h⟩
 ·simp at h
def Po:Rul:=⟨0,0,0,0⟩
def gF (p:Proj) (b:Dom):Option Rul:=if aC p b=true∧aZ b=true then some Po else (iK p b).find? (refutes p b)
def Xq (o:Option Rul):RV:=.tup [.d (o.getD Po).av,.d (.bool o.isSome)]
theorem VE {α:Type} {f:α→Bool} {l:List α} {k:Nat} {x:α} (h:l[k]? =some x):(l.drop k).find? f=if f x=true then some x else (l.drop (k+1)).find? f:=by
 rw [au h,List.find?_cons];cases f x<;>rfl
theorem Bq (p:Proj) (b:Dom):(iK p b).length≤300:=by
 unfold iK
 split
 ·rename_i hu
  have hf:=(lT hu).1
  have hpo:=(bD hf).1
  have h1:=Ni hpo
  have h2:=Xp hpo
  have h3:=Bo hf
  obtain⟨_,hr3,_,_⟩:=oC hpo
  obtain⟨_,l1,l2,l3,_⟩:=bD hf
  have hna:=(eD hpo).LG
  have h4:∀i,(rW p b i).length≤50:=fun i=>by
   unfold rW
   split
   ·rename_i x hx
    have h5:=Nj hpo hx
    have h6:=jf (b.hi++x.steps.map Step.at')
    have h7:=List.length_filter_le bC (setOf (b.hi++x.steps.map Step.at'))
    simp only [List.length_append,List.length_map] at h6
    simp only [EM,List.length_append,List.length_map];omega
   ·simp
  have h5:=pJ (f:=rW p b) (c:=50) (l:=List.range p.bB.length) fun i _=>h4 i
  simp only [List.length_range] at h5
  simp only [gD,List.length_append];omega
 ·simp
theorem LV {p:Proj} {b:Dom} {r:Rul} (hu:usable p b=true) (ho:fG p r=true):refutes p b r=fails p b r:=by
 obtain⟨h1,h2⟩:=lT hu
 simp [refutes,h1,h2,ho]
theorem Aj (p:Proj) (b:Dom) (hp:p.fine):Con 96 [.d p.av,.d b.av] (Xq (gF p b)):=by
 refine con Tryz.func96 rfl rfl Tryz.call96 rfl fun hwf=>?_
 simp only [ARs.wf,AR.wf,AV.wf,AV.wfs,lm,lim] at hwf
 cases h1:aC p b with
 |false=>
  have e:gF p b=none:=by
   rw [gF,if_neg (by simp [h1]),iK,if_neg (by simp [usable,h1])];rfl
  rw [e]
  (repeat' ((conv=>whnf);first|refine gA ?_|(refine gB ?_ ?_<;>intro h)|(refine gI ?_;intro x hx)|(refine gJ ?_;intro j x hj hx)|refine gV ?_|refine gC (dw p b hp) ?_|intro _))<;>try (conv=>whnf)
  exact fv
 |true=>
 cases h2:aZ b with
 |true=>
  rw [gF,if_pos ⟨h1,h2⟩]
  (repeat' ((conv=>whnf);first|refine gA ?_|(refine gB ?_ ?_<;>intro h)|(refine gI ?_;intro x hx)|(refine gJ ?_;intro j x hj hx)|refine gV ?_|refine gC (dw p b hp) ?_|refine gC (bZ b) ?_|intro _))<;>try (conv=>whnf)
  exact fv
 |false=>
  have hu:usable p b=true:=by simp [usable,h1,h2]
  have hl:=Bq p b
  rw [iK,if_pos hu] at hl
  rw [gF,if_neg (by simp [h2]),iK,if_pos hu]
  (repeat' ((conv=>whnf);first|refine gA ?_|(refine gB ?_ ?_<;>intro h)|(refine gI ?_;intro x hx)|(refine gJ ?_;intro j x hj hx)|refine gV ?_|refine gC (dw p b hp) ?_|refine gC (bZ b) ?_|refine gC (HV p b hp hu) ?_|intro _))<;>try (conv=>whnf)
  refine aB [2,3,4,18,19] [2,3,4] [] ?_
  (conv=>whnf)
  refine aA.go ((Nat)) (fun k=>(k≤(gD p b).length)∧(((gD p b).drop k).find? (refutes p b)=(gD p b).find? (refutes p b))) (fun k=>[(20,.data (i64 k))]) (fun _=>[]) (fun _=>[]) (fun k=>(gD p b).length - k) (0) ?_ ?_
  ·exact⟨Nat.zero_le _,rfl⟩
  rintro k ⟨hk,hi⟩
  by_cases hlt:k < (gD p b).length
  ·obtain⟨r,hr⟩:∃r,(gD p b)[k]? =some r:=⟨(gD p b)[k]'hlt,by simp⟩
   have hro:=CP hu (List.mem_of_getElem? hr)
   rw [VE hr,LV hu hro] at hi
   (repeat' ((conv=>whnf);first|with_reducible refine Idx.got hr rfl ?_|refine gA ?_|(refine gB ?_ ?_<;>intro h)|(refine gI ?_;intro x hx)|(refine gJ ?_;intro j x hj hx)|refine gV ?_|refine gC (ql p b r h1 hro) ?_|intro _))<;>try (conv=>whnf)
   ·rw [if_pos (by assumption)] at hi
    rw [← hi]
    exact fv
   ·refine nx (k+1) ?_
    rw [if_neg (by simp [*])] at hi
    exact⟨by omega,hi⟩
   ·exfalso;omega
  ·(repeat' ((conv=>whnf);first|(exfalso;omega)|refine gA ?_|(refine gB ?_ ?_<;>intro h)|(refine gI ?_;intro x hx)|(refine gJ ?_;intro j x hj hx)|refine gV ?_|intro _))<;>try (conv=>whnf)
   rw [aG (by assumption)] at hi
   rw [← hi]
   exact fv
def iR (p:Proj) (b:Dom) (r:Rul) (l:Lit):List Lit×Bool:=
 if gG p l=true∧refutes p (restrict b (negate l)) r=true then (ng p r (fun x=>dD x l) (cB (qm p b++[l])),true) else ([],false)
def ZF (r:List Lit×Bool):RV:=.tup [.d (lits r.1),.d (.bool r.2)]
theorem Xr (p:Proj) (b:Dom):(qm p b).length≤1212:=by rw [qm,List.length_map];exact Hy p b
theorem rX {p:Proj} {b:Dom} (h:aC p b=true) {n:Nat} {m:List Int} (hm:b.modes[n]? =some m):jk m=true:=by
 have hn:=(List.getElem?_eq_some_iff.1 hm).1
 obtain⟨_,l1,l2,l3,_⟩:=bD h
 obtain⟨a,x,y,m',g⟩:=dR h (show n < p.acts.length by omega)
 have:=g.modes
 rw [hm] at this
 cases this
 exact g.mok
theorem VF {l:List Lit} {k:Nat} {x:Lit} (h:l[k]? =some x):Gp l (k:Int)=x:=by
 have hk:=(List.getElem?_eq_some_iff.1 h).1
 exact Nc (within_iff.2 (by omega)) (by rw [Int.toNat_natCast];exact h)
theorem Ak (p:Proj) (b:Dom) (r:Rul) (l:Lit) (hp:p.fine) (hf:aC p b=true):Con 101 [.d p.av,.d b.av,.d r.av,.d l.av] (ZF (iR p b r l)):=by
 refine con Tryz.func101 rfl rfl Tryz.call101 rfl fun hwf=>?_
 have hpo:=(bD hf).1
 have hnl:=Xr p b
 have hs:∀m,b.modes[(negate l).act.toNat]? =some m→jk m=true:=fun m hm=>rX hf hm
 have hN:=nU (qm p b++[l])
 rw [lits,List.map_append] at hN
 have hcl:=Bn (qm p b++[l])
 simp only [List.length_append,List.length_cons,List.length_nil] at hcl
 have hmem:l∈cB (qm p b++[l]):=by rw [(uZ _).2];simp
 by_cases hc:gG p l=true∧refutes p (restrict b (negate l)) r=true
 ·obtain⟨h1,h2⟩:=hc
  (repeat' ((conv=>whnf);first|refine gA ?_|(refine gB ?_ ?_<;>intro h)|(refine gI ?_;intro x hx)|(refine gJ ?_;intro j x hj hx)|refine gP ?_|refine gV ?_|refine gC (rH p l hp) ?_|refine gC (pz l) ?_|refine gC (iH b (negate l) hs) ?_|refine gC (nT p (restrict b (negate l)) r hp) ?_|refine gC (yZ p b hp) ?_|refine gC (hN) ?_|intro _))<;>try (conv=>whnf)
  refine aB [4,6,7,10,35,36] [4,6,7] [] ?_
  (conv=>whnf)
  refine aA.go ((Nat)×(Nat)) (fun⟨k,j⟩=>(k≤(cB (qm p b++[l])).length)∧(j≤k)∧(l∈(cB (qm p b++[l])).take k→(cB (qm p b++[l]))[j]? =some l)) (fun⟨k,j⟩=>[(37,.data (i64 k)),(11,.data (i64 j))]) (fun _=>[]) (fun _=>[]) (fun⟨k,j⟩=>(cB (qm p b++[l])).length - k) ⟨0,0⟩ ?_ ?_
  ·exact⟨Nat.zero_le _,Nat.le_refl _,by simp⟩
  rintro⟨k,j⟩ ⟨hk,hj,hi⟩
  by_cases hlt:k < (cB (qm p b++[l])).length
  ·obtain⟨x,hx⟩:∃x,(cB (qm p b++[l]))[k]? =some x:=⟨(cB (qm p b++[l]))[k]'hlt,by simp⟩
   (repeat' ((conv=>whnf);first|with_reducible refine Idx.got hx rfl ?_|refine gA ?_|(refine gB ?_ ?_<;>intro h)|(refine gI ?_;intro x hx)|(refine gJ ?_;intro j x hj hx)|refine gP ?_|refine gV ?_|intro _))<;>try (conv=>whnf)
   ·refine nx ⟨k+1,k⟩ ?_
    have e:x=l:=jm.1 (iA (by assumption))
    exact⟨by omega,by omega,fun _=>by rw [hx,e]⟩
   ·refine nx ⟨k+1,j⟩ ?_
    refine⟨by omega,by omega,fun hm=>hi ?_⟩
    obtain⟨hk',hx'⟩:=List.getElem?_eq_some_iff.1 hx
    rw [List.take_succ_eq_append_getElem hk',List.mem_append,List.mem_singleton,hx'] at hm
    rcases hm with hm|hm
    ·exact hm
    ·have hne:=iA (by assumption)
     rw [jm.2 hm.symm] at hne
     cases hne
   ·exfalso;omega
  ·have hj2:=hi (by rw [List.take_of_length_le (by omega)];exact hmem)
   have hS:=LQ p r (cB (qm p b++[l])) j hp hpo
   rw [VF hj2] at hS
   (repeat' ((conv=>whnf);first|(exfalso;omega)|refine gA ?_|(refine gB ?_ ?_<;>intro h)|(refine gI ?_;intro x hx)|(refine gJ ?_;intro j x hj hx)|refine gP ?_|refine gV ?_|refine gC (hS) ?_|intro _))<;>try (conv=>whnf)
   rw [iR,if_pos ⟨h1,h2⟩]
   exact fv
 ·(repeat' ((conv=>whnf);first|refine gA ?_|(refine gB ?_ ?_<;>intro h)|(refine gI ?_;intro x hx)|(refine gJ ?_;intro j x hj hx)|refine gP ?_|refine gV ?_|refine gC (rH p l hp) ?_|refine gC (pz l) ?_|refine gC (iH b (negate l) hs) ?_|refine gC (nT p (restrict b (negate l)) r hp) ?_|refine gC (yZ p b hp) ?_|refine gC (hN) ?_|intro _))<;>try (conv=>whnf)
  ·exact absurd ⟨by assumption,by assumption⟩ hc
  ·rw [iR,if_neg hc]
   exact fv
  ·rw [iR,if_neg hc]
   exact fv
open Go.Proofs
theorem Nk {p:Proj} {r:Int} {a:Int} (h:a∈users p r):∃k:Nat,a=k∧k < p.acts.length:=by
 unfold users at h
 split at h
 ·have h1:=(List.mem_filter.1 h).1
  simp only [upTo,List.mem_map,List.mem_range] at h1
  obtain⟨k,hk,rfl⟩:=h1
  exact⟨k,rfl,hk⟩
 ·simp at h
theorem vv {p:Proj} {a:Int} (h:bn p a=true):∃k:Nat,a=k∧k < p.acts.length:=by
 obtain⟨n,x,h1,h2⟩:=jD h
 exact⟨n,h1,(List.getElem?_eq_some_iff.1 h2).1⟩
theorem EN {p:Proj} {r:Rul} {a:Int} (h:a∈jv p r):∃k:Nat,a=k∧k < p.acts.length:=by
 unfold jv at h
 split at h
 ·rename_i ho
  have hpo:aF p=true:=by simp only [fG,Bool.and_eq_true] at ho;exact ho.1
  cases EI ho with
  |link hk k l e1 hl=>
   rw [if_pos hk,vo] at h
   have e:iy p r.a=l:=by simp [iy,e1,List.getD_eq_getElem?_getD,hl]
   rw [e] at h
   have hlo:=(eD hpo).link k l hl
   simp only [jR,Bool.and_eq_true] at hlo
   simp only [List.mem_cons,List.not_mem_nil,or_false] at h
   rcases h with rfl|rfl
   ·exact vv hlo.1.1.1
   ·exact vv hlo.1.1.2
  |fin hk ha=>
   simp [hk] at h
   subst h
   exact vv ha
  |time hk ha hb=>simp [hk] at h;exact Nk h
  |work hk ha hb hc hlt=>simp [hk] at h;exact Nk h
  |pair hk ha hb hc hlt=>
   simp [hk] at h
   rcases h with rfl|rfl
   ·exact vv hb
   ·exact vv hc
  |EA hk ha=>simp [hk] at h;exact EB h
 ·simp at h
def qJ (p:Proj) (b:Dom) (r:Rul) (k:Int) (a:Nat) (n:Int):Bool:=refutes p (restrict b ⟨k,a,n⟩) r
def goUp (f:Int→Bool) (hi:Int):Nat→Int→Int
 |0,n=>n
 |k+1,n=>if n≤hi∧f n=true then goUp f hi k (n+1) else n
def CQ (f:Int→Bool) (lo:Int):Nat→Int→Int
 |0,n=>n
 |k+1,n=>if n≥lo∧f n=true then CQ f lo k (n - 1) else n
theorem Yt {f:Int→Bool} {hi n:Int} (h:n≤hi) (hf:f n=true):goUp f hi (hi+1 - n).toNat n=goUp f hi (hi+1 - (n+1)).toNat (n+1):=by
 obtain⟨m,hm⟩:∃m,(hi+1 - n).toNat=m+1:=⟨(hi - n).toNat,by omega⟩
 rw [hm,goUp,if_pos ⟨h,hf⟩,show (hi+1 - (n+1)).toNat=m by omega]
theorem Xt {f:Int→Bool} {hi n:Int} (h:¬(n≤hi∧f n=true)):∀k,goUp f hi k n=n
 |0=>rfl
 |k+1=>by rw [goUp,if_neg h]
theorem Yu {f:Int→Bool} {lo n:Int} (h:n≥lo) (hf:f n=true):CQ f lo (n+1 - lo).toNat n=CQ f lo (n - 1+1 - lo).toNat (n - 1):=by
 obtain⟨m,hm⟩:∃m,(n+1 - lo).toNat=m+1:=⟨(n - lo).toNat,by omega⟩
 rw [hm,CQ,if_pos ⟨h,hf⟩,show (n - 1+1 - lo).toNat=m by omega]
theorem Xu {f:Int→Bool} {lo n:Int} (h:¬(n≥lo∧f n=true)):∀k,CQ f lo k n=n
 |0=>rfl
 |k+1=>by rw [CQ,if_neg h]
def atLeast (k:Nat) (lo n:Int):List Lit:=if n > lo then [⟨1,k,n⟩] else []
def ze (k:Nat) (up n:Int):List Lit:=if n < up then [⟨2,k,n⟩] else []
theorem HY (k:Nat) (lo n:Int):(atLeast k lo n).length≤1:=by unfold atLeast;split<;>simp
theorem KO (k:Nat) (up n:Int):(ze k up n).length≤1:=by unfold ze;split<;>simp
def Aa (p:Proj) (b:Dom) (r:Rul) (k:Nat) (lo up:Int) (m:List Int):List Lit:=
 atLeast k lo (goUp (qJ p b r 2 k) up (up+1 - lo).toNat lo)++ze k up (CQ (qJ p b r 1 k) lo (up+1 - lo).toNat up)++
  (m.filter fun v=>decide (m.length > 1)&&qJ p b r 3 k v).map fun v=>⟨4,k,v⟩
def oF (p:Proj) (b:Dom) (r:Rul) (k:Nat):List Lit:=
 match b.lo[k]?,b.hi[k]?,b.modes[k]? with
 |some lo,some up,some m=>Aa p b r k lo up m
 |_,_,_=>[]
theorem Gu {p:Proj} {b:Dom} {r:Rul} {k:Nat} {a:aH} {x y:Int} {m:List Int} (g:dW p b k a x y m):oF p b r k=Aa p b r k x y m:=by
 simp only [oF,g.lo,g.hi,g.modes]
theorem ZG {l:List Int} (h:l.Pairwise (· < ·)):∀{lo hi:Int},(∀x∈l,lo≤x∧x < hi)→lo≤hi→(l.length:Int)≤hi - lo:=by
 induction l with
 |nil=>intro lo hi _ h;simp;omega
 |cons x r ih=>
  intro lo hi hx _
  rw [List.pairwise_cons] at h
  have h1:=hx x (by simp)
  have:=ih h.2 (lo:=x+1) (hi:=hi) (fun y hy=>⟨by have:=h.1 y hy;omega,(hx y (by simp [hy])).2⟩) (by omega)
  simp only [List.length_cons];push_cast;omega
theorem RJ {p:Proj} {b:Dom} {k:Nat} {a:aH} {x y:Int} {m:List Int} (g:dW p b k a x y m):m.length≤3:=by
 have h2:=g.aok
 simp only [bG,Bool.and_eq_true,within_iff] at h2
 have:=ZG (Es g.mok) (lo:=0) (hi:=3) (fun x hx=>by
  obtain⟨j,rfl,hj⟩:=g.ZE x hx
  omega) (by omega)
 omega
theorem CU (p:Proj) (b:Dom) (r:Rul) (c:Int) (k:Nat) (n:Int) (hf:aC p b=true) (hro:fG p r=true) (hp:p.fine):Con 171 [.d p.av,.d b.av,.d r.av,.d (i64 c),.d (i64 k),.d (i64 n)] (.d (.bool (qJ p b r c k n))):=by
 refine con Tryz.func171 rfl rfl Tryz.call171 rfl fun hwf=>?_
 have hfr:=gu hf ⟨c,k,n⟩
 (repeat' ((conv=>whnf);first|refine gA ?_|(refine gB ?_ ?_<;>intro h)|refine gC (iH b ⟨c,k,n⟩ (fun m hm=>rX hf hm)) ?_|refine gC (bZ (restrict b ⟨c,k,n⟩)) ?_|refine gC (ql p (restrict b ⟨c,k,n⟩) r hfr hro) ?_|intro _))<;>try (conv=>whnf)
 all_goals (refine⟨?_,rfl,trivial⟩;simp [qJ,refutes,hfr,hro, *])
theorem Bt (p:Proj) (b:Dom) (r:Rul) (k:Nat) (hp:p.fine) (hf:aC p b=true) (hro:fG p r=true) (hk:k < p.acts.length):Con 100 [.d p.av,.d b.av,.d r.av,.d (i64 k)] (.d (lits (oF p b r k))):=by
 refine con Tryz.func100 rfl rfl Tryz.call100 rfl fun hwf=>?_
 simp only [ARs.wf,AR.wf,AV.wf,AV.wfs,lm,lim] at hwf
 obtain⟨a,lo,up,m,g⟩:=dR hf hk
 rw [Gu g,Aa]
 have hlo:=g.lob
 have hup:=g.hib
 have hm3:=RJ g
 obtain⟨N,hN⟩:∃N,N=goUp (qJ p b r 2 k) up (up+1 - lo).toNat lo:=⟨_,rfl⟩
 obtain⟨M,hM⟩:∃M,M=CQ (qJ p b r 1 k) lo (up+1 - lo).toNat up:=⟨_,rfl⟩
 rw [← hN, ← hM]
 (repeat' ((conv=>whnf);first|with_reducible refine Idx.got g.lo rfl ?_|with_reducible refine Idx.got g.hi rfl ?_|with_reducible refine Idx.got g.modes rfl ?_|refine gA ?_|(refine gB ?_ ?_<;>intro h)|(refine gI ?_;intro x hx)|(refine gJ ?_;intro j x hj hx)|refine gP ?_|refine gV ?_|intro _))<;>try (conv=>whnf)
 refine aB [3,4,5,6,9] [4,5,6] [] ?_
 (conv=>whnf)
 refine aA.go ((Int)) (fun n=>(lo≤n)∧(n≤63)∧(goUp (qJ p b r 2 k) up (up+1 - n).toNat n=N)) (fun n=>[(10,.data (i64 n))]) (fun _=>[]) (fun _=>[]) (fun n=>(up+1 - n).toNat) (lo) ?_ ?_
 ·exact⟨Int.le_refl _,by omega,hN.symm⟩
 rintro n ⟨hn,hn2,hi⟩
 (repeat' ((conv=>whnf);first|with_reducible refine Idx.got g.lo rfl ?_|with_reducible refine Idx.got g.hi rfl ?_|with_reducible refine Idx.got g.modes rfl ?_|refine gA ?_|(refine gB ?_ ?_<;>intro h)|(refine gI ?_;intro x hx)|(refine gJ ?_;intro j x hj hx)|refine gP ?_|refine gV ?_|refine gC (CU p b r 2 k n hf hro hp) ?_|intro _))<;>try (conv=>whnf)
 ·refine nx (n+1) ?_
  exact⟨by omega,by omega,by rw [← Yt (by assumption) (by assumption)];exact hi⟩
 all_goals
  have hoff:¬(n≤up∧qJ p b r 2 k n=true):=by
   rintro⟨h1,h2⟩
   first|omega|(simp only [qJ] at*;simp_all)
  rw [Xt hoff] at hi
  subst hi
  clear hN hoff
  refine aB [3,4,5,6,9] [4,5,6] [] ?_
  (conv=>whnf)
  refine aA.go ((Int)) (fun q=>(q≤up)∧(-3≤q)∧(CQ (qJ p b r 1 k) lo (q+1 - lo).toNat q=M)) (fun q=>[(10,.data (i64 q))]) (fun _=>[]) (fun _=>[]) (fun q=>(q+1 - lo).toNat) (up) ?_ ?_
  ·exact⟨Int.le_refl _,by omega,hM.symm⟩
  rintro q ⟨hq,hq2,hj⟩
  (repeat' ((conv=>whnf);first|with_reducible refine Idx.got g.lo rfl ?_|with_reducible refine Idx.got g.hi rfl ?_|with_reducible refine Idx.got g.modes rfl ?_|refine gA ?_|(refine gB ?_ ?_<;>intro h)|(refine gI ?_;intro x hx)|(refine gJ ?_;intro j x hj hx)|refine gP ?_|refine gV ?_|refine gC (CU p b r 1 k q hf hro hp) ?_|intro _))<;>try (conv=>whnf)
  ·refine nx (q - 1) ?_
   exact⟨by omega,by omega,by rw [← Yu (by assumption) (by assumption)];exact hj⟩
  all_goals
   have YQ:¬(q≥lo∧qJ p b r 1 k q=true):=by
    rintro⟨h1,h2⟩
    first|omega|(simp only [qJ] at*;simp_all)
   rw [Xu YQ] at hj
   subst hj
   clear hM YQ
   refine aB [3,4,5,6,88,89] [4,5,6] [13] ?_
   (conv=>whnf)
   refine aA.mk ((Nat)×(List Lit)) (fun⟨j,o⟩=>(j≤m.length)∧(o.length≤2+j)∧(o=(atLeast k lo n++ze k up q)++((m.take j).filter fun v=>decide (m.length > 1)&&qJ p b r 3 k v).map (fun v=>⟨4,k,v⟩))) (fun⟨j,o⟩=>[(90,.data (i64 j)),(9,.own 13 0)]) (fun _=>[]) (fun⟨j,o⟩=>[(13,82,o.map Lit.av,0)]) (fun⟨j,o⟩=>m.length - j) ⟨0,atLeast k lo n++ze k up q⟩ ?_ ?_ ?_
   rotate_left
   ·(repeat' ((conv=>whnf)<;>(first|exact trivial|exact rfl|with_reducible refine And.intro ?_ ?_)))<;>((conv=>whnf)<;>(simp [atLeast,ze,Lit.av, *]))
   rotate_left
   ·exact⟨Nat.zero_le _,by have h1:=HY k lo n;have h2:=KO k up q;simp only [List.length_append];omega,by simp⟩
   rintro⟨j,o⟩ ⟨hj3,ol,ho⟩
   by_cases hlt:j < m.length
   ·obtain⟨v,hv⟩:∃v,m[j]? =some v:=⟨m[j]'hlt,by simp⟩
    (repeat' ((conv=>whnf);first|with_reducible refine Idx.got hv rfl ?_|with_reducible refine Idx.got g.lo rfl ?_|with_reducible refine Idx.got g.hi rfl ?_|with_reducible refine Idx.got g.modes rfl ?_|refine gA ?_|(refine gB ?_ ?_<;>intro h)|(refine gI ?_;intro x hx)|(refine gJ ?_;intro j x hj hx)|refine gP ?_|refine gV ?_|refine gC (CU p b r 3 k v hf hro hp) ?_|intro _))<;>try (conv=>whnf)
    ·refine nw ⟨j+1,o++[⟨4,k,v⟩]⟩ ?_ ?_
     ·(repeat' ((conv=>whnf)<;>(first|exact trivial|exact rfl|with_reducible refine And.intro ?_ ?_)))<;>((conv=>whnf)<;>(simp [Lit.av]))
     have hml:m.length > 1:=by omega
     exact⟨by omega,by simp;omega,(lS ho hv).1 (by simp only [qJ] at*;simp [*])⟩
    ·refine nx ⟨j+1,o⟩ ?_
     exact⟨by omega,by omega,(lS ho hv).2 (by simp only [qJ] at*;simp [*])⟩
    ·refine nx ⟨j+1,o⟩ ?_
     have hml:¬ m.length > 1:=by omega
     exact⟨by omega,by omega,(lS ho hv).2 (by simp only [qJ] at*;simp [*])⟩
    ·exfalso;omega
   ·(repeat' ((conv=>whnf);first|(exfalso;omega)|refine gA ?_|(refine gB ?_ ?_<;>intro h)|(refine gI ?_;intro x hx)|(refine gJ ?_;intro j x hj hx)|refine gP ?_|refine gV ?_|intro _))<;>try (conv=>whnf)
    all_goals (refine⟨?_,rfl,trivial⟩;rw [ho,List.take_of_length_le (by omega)])
end Go.Proofs.YtefgamefajmdkaaGreat.Abs
namespace Go.Proofs.YtefgamefajmdkaaGreat.Abs
open Go.Proofs
def EO (p:Proj) (b:Dom) (r:Rul) (a:Int):Option Infer:=(oF p b r a.toNat).head?.map fun l=>⟨l,r,(iR p b r l).1⟩
def wM (p:Proj) (b:Dom) (r:Rul):Option Infer:=(jv p r).findSome? (EO p b r)
def bJ (p:Proj) (b:Dom):Option Infer:=if (gF p b).isSome=true then none else (iK p b).findSome? (wM p b)
def Yv:Infer:=⟨bq,Po,[]⟩
def Xv (o:Option Infer):RV:=.tup [.d (o.getD Yv).av,.d (.bool o.isSome)]
theorem Nl {α β:Type} {f:α→Option β} {l:List α} {k:Nat} {x:α} (h:l[k]? =some x):(l.drop k).findSome? f=(match f x with|some y=>some y|none=>(l.drop (k+1)).findSome? f):=by
 rw [au h,List.findSome?_cons];cases f x<;>rfl
theorem EP {p:Proj} {b:Dom} (h:usable p b=true):aC p b=true:=(lT h).1
theorem TJ (p:Proj) (b:Dom) (r:Rul) (k:Nat) (hf:aC p b=true) (hk:k < p.acts.length):(oF p b r k).length≤5:=by
 obtain⟨a,x,y,m,g⟩:=dR hf hk
 rw [Gu g,Aa]
 have h1:=HY k x (goUp (qJ p b r 2 k) y (y+1 - x).toNat x)
 have h2:=KO k y (CQ (qJ p b r 1 k) x (y+1 - x).toNat y)
 have h3:=RJ g
 have h4:=List.length_filter_le (fun v=>decide (m.length > 1)&&qJ p b r 3 k v) m
 simp only [List.length_append,List.length_map];omega
theorem Pp (p:Proj) (r:Rul):(jv p r).length≤200:=by
 unfold jv
 split
 ·rename_i ho
  have hpo:aF p=true:=by simp only [fG,Bool.and_eq_true] at ho;exact ho.1
  have hna:=(eD hpo).LG
  split
  ·have:=jf [(iy p r.a).src,(iy p r.a).dst]
   simp only [List.length_cons,List.length_nil] at this;omega
  split
  ·simp
  split
  ·simp
  split
  ·exact EL _
  ·unfold users
   split
   ·have:=xw (tK p r.a) p.acts.length;omega
   ·simp
 ·simp
theorem Al (p:Proj) (b:Dom) (hp:p.fine):Con 36 [.d p.av,.d b.av] (Xv (bJ p b)):=by
 refine con Tryz.func36 rfl rfl Tryz.call36 rfl fun hwf=>?_
 have hF:=Aj p b hp
 cases hu:usable p b with
 |false=>
  have hc:iK p b= []:=by rw [iK,if_neg (by simp [hu])]
  have e:bJ p b=none:=by rw [bJ,hc];cases (gF p b).isSome<;>rfl
  rw [e]
  cases hn:(gF p b).isSome with
  |true=>
   rw [Xq,hn] at hF
   (repeat' ((conv=>whnf);first|refine gA ?_|(refine gB ?_ ?_<;>intro h)|(refine gI ?_;intro x hx)|(refine gJ ?_;intro j x hj hx)|refine gV ?_|refine gC (hF) ?_|refine gC (oD p b hp) ?_|intro _))<;>try (conv=>whnf)
   exact fv
  |false=>
   rw [Xq,hn] at hF
   (repeat' ((conv=>whnf);first|refine gA ?_|(refine gB ?_ ?_<;>intro h)|(refine gI ?_;intro x hx)|(refine gJ ?_;intro j x hj hx)|refine gV ?_|refine gC (hF) ?_|refine gC (oD p b hp) ?_|intro _))<;>try (conv=>whnf)
   exact fv
 |true=>
 cases hn:(gF p b).isSome with
 |true=>
  rw [bJ,if_pos hn]
  rw [Xq,hn] at hF
  (repeat' ((conv=>whnf);first|refine gA ?_|(refine gB ?_ ?_<;>intro h)|(refine gI ?_;intro x hx)|(refine gJ ?_;intro j x hj hx)|refine gV ?_|refine gC (hF) ?_|refine gC (oD p b hp) ?_|intro _))<;>try (conv=>whnf)
  exact fv
 |false=>
  rw [bJ,if_neg (by simp [hn])]
  rw [Xq,hn] at hF
  have hf:=EP hu
  have hcl:=Bq p b
  rw [iK,if_pos hu] at hcl
  rw [iK,if_pos hu]
  (repeat' ((conv=>whnf);first|refine gA ?_|(refine gB ?_ ?_<;>intro h)|(refine gI ?_;intro x hx)|(refine gJ ?_;intro j x hj hx)|refine gV ?_|refine gC (hF) ?_|refine gC (oD p b hp) ?_|refine gC (HV p b hp hu) ?_|intro _))<;>try (conv=>whnf)
  refine aB [2,3,4,31,32] [2,3,4] [] ?_
  (conv=>whnf)
  refine aA.go ((Nat)) (fun k=>(k≤(gD p b).length)∧(((gD p b).drop k).findSome? (wM p b)=(gD p b).findSome? (wM p b))) (fun k=>[(33,.data (i64 k))]) (fun _=>[]) (fun _=>[]) (fun k=>(gD p b).length - k) (0) ?_ ?_
  ·exact⟨Nat.zero_le _,rfl⟩
  rintro k ⟨hk,hi⟩
  by_cases hlt:k < (gD p b).length
  rotate_left
  ·(repeat' ((conv=>whnf);first|(exfalso;omega)|refine gA ?_|(refine gB ?_ ?_<;>intro h)|(refine gI ?_;intro x hx)|(refine gJ ?_;intro j x hj hx)|refine gV ?_|intro _))<;>try (conv=>whnf)
   rw [aG (by assumption)] at hi
   rw [← hi]
   exact fv
  obtain⟨r,hr⟩:∃r,(gD p b)[k]? =some r:=⟨(gD p b)[k]'hlt,by simp⟩
  have hro:=CP hu (List.mem_of_getElem? hr)
  have hal:=Pp p r
  rw [Nl hr] at hi
  (repeat' ((conv=>whnf);first|with_reducible refine Idx.got hr rfl ?_|refine gA ?_|(refine gB ?_ ?_<;>intro h)|(refine gI ?_;intro x hx)|(refine gJ ?_;intro j x hj hx)|refine gV ?_|refine gC (Ai p r hp) ?_|intro _))<;>try (conv=>whnf)
  rotate_left
  ·exfalso;omega
  refine aB [2,3,4,9,31,32,33,39,40] [2,3,4,9] [] ?_
  (conv=>whnf)
  refine aA.go ((Nat)) (fun j=>(j≤(jv p r).length)∧(((jv p r).drop j).findSome? (EO p b r)=wM p b r)) (fun j=>[(41,.data (i64 j))]) (fun _=>[]) (fun _=>[]) (fun j=>(jv p r).length - j) (0) ?_ ?_
  ·exact⟨Nat.zero_le _,rfl⟩
  rintro j ⟨hj,hi2⟩
  by_cases hjl:j < (jv p r).length
  rotate_left
  ·rw [aG (by omega)] at hi2
   rw [← hi2] at hi
   (repeat' ((conv=>whnf);first|(exfalso;omega)|refine gA ?_|(refine gB ?_ ?_<;>intro h)|(refine gI ?_;intro x hx)|(refine gJ ?_;intro j x hj hx)|refine gV ?_|intro _))<;>try (conv=>whnf)
   refine nx (k+1) ?_
   exact⟨by omega,hi⟩
  obtain⟨a,ha⟩:∃a,(jv p r)[j]? =some a:=⟨(jv p r)[j]'hjl,by simp⟩
  obtain⟨n,rfl,hna⟩:=EN (List.mem_of_getElem? ha)
  have hil:=TJ p b r n hf hna
  rw [Nl ha,EO,Int.toNat_natCast] at hi2
  by_cases h0:0 < (oF p b r n).length
  ·obtain⟨l,hx⟩:∃l,(oF p b r n)[0]? =some l:=⟨(oF p b r n)[0]'h0,by simp⟩
   have hh:(oF p b r n).head? =some l:=by rw [List.head?_eq_getElem?];exact hx
   rw [hh] at hi2
   have hi3:some (⟨l,r,(iR p b r l).1⟩:Infer)=wM p b r:=hi2
   rw [← hi3] at hi
   have hi4:some (⟨l,r,(iR p b r l).1⟩:Infer)=(gD p b).findSome? (wM p b):=hi
   rw [← hi4]
   (repeat' ((conv=>whnf);first|with_reducible refine Idx.got ha rfl ?_|with_reducible refine Idx.got hx rfl ?_|refine gA ?_|(refine gB ?_ ?_<;>intro h)|(refine gI ?_;intro x hx)|(refine gJ ?_;intro j x hj hx)|refine gV ?_|refine gC (Bt p b r n hp hf hro hna) ?_|refine gC (Ak p b r l hp hf) ?_|intro _))<;>try (conv=>whnf)
   ·exact fv
   ·exfalso;omega
   ·exfalso;omega
  ·have hh:(oF p b r n).head? =none:=by rw [List.head?_eq_none_iff];exact List.eq_nil_of_length_eq_zero (by omega)
   rw [hh] at hi2
   (repeat' ((conv=>whnf);first|with_reducible refine Idx.got ha rfl ?_|(exfalso;omega)|refine gA ?_|(refine gB ?_ ?_<;>intro h)|(refine gI ?_;intro x hx)|(refine gJ ?_;intro j x hj hx)|refine gV ?_|refine gC (Bt p b r n hp hf hro hna) ?_|intro _))<;>try (conv=>whnf)
   refine nx (j+1) ?_
   exact⟨by omega,hi2⟩
end Go.Proofs.YtefgamefajmdkaaGreat.Abs
