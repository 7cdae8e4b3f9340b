/- Contracts: a refutation is found; literals that follow from a rule are explained. -/
import Derived.Test.YtglikcnmgnlejaaGreatC28
import Derived.Test.YtglikcnmgnlejaaGreatC12
set_option linter.all false
set_option maxRecDepth 20000
set_option maxHeartbeats 0
namespace Go.Proofs.YtglikcnmgnlejaaGreat.Abs
open Go.Proofs
theorem Dp {p:Proj} {b:Dom} (hu:usable p b=true) {r:Rul} (h:r∈gH p b):iC p r=true:=by
 have hpo:=(bB (jR hu).1).1
 simp only [gH,iO,qD,List.mem_append,List.mem_map,List.mem_flatMap,List.mem_range] at h
 rcases h with (((⟨k,hk,rfl⟩|⟨k,hk,rfl⟩)|⟨k,hk,rfl⟩)|⟨i,hi,h⟩)|⟨i,hi,a,ha,h⟩
 ·have hw:within (k:Int) 0 ((p.links.length:Int) - 1)=true:=within_iff.2 (by omega)
  simp [iC,pJ,hpo,hw]
 ·have hw:dz p (k:Int)=true:=within_iff.2 (by omega)
  simp [iC,endRule,hpo,hw]
 ·have hw:oZ p (k:Int)=true:=within_iff.2 (by omega)
  simp [iC,mV,hpo,hw]
 ·have hw:iB p (i:Int)=true:=within_iff.2 (by omega)
  obtain⟨x,hx⟩:∃x,p.aU[i]? =some x:=⟨p.aU[i]'hi,by simp⟩
  rw [Ah hx,List.mem_append,List.mem_map,List.mem_map] at h
  rcases h with⟨t,ht,rfl⟩|⟨q,hq,rfl⟩
  ·have:=(List.mem_filter.1 ht).2
   simp [iC,Ag,hpo,hw,this]
  ·obtain⟨u,v,rfl,h1,h2,h3⟩:=vS hq
   simp [iC,ET,hpo,hw,h1,h2,h3]
 ·unfold gG at h
  split at h
  ·rename_i hm
   obtain⟨j,hj,rfl⟩:=List.mem_map.1 h
   have hj:=List.mem_range.1 hj
   have h1:dz p (a:Int)=true:=within_iff.2 (by omega)
   have h2:dz p ((a+1+j:Nat):Int)=true:=within_iff.2 (by omega)
   have h3:(a:Int) < ((a+1+j:Nat):Int):=by omega
   unfold iC qZ
   dsimp only
   rw [hpo,Bool.true_and,if_neg (by decide),if_neg (by decide),if_neg (by decide),if_neg (by decide),if_pos rfl]
   simp only [hm,h1,h2,decide_eq_true h3]
   rfl
  ·simp at h
theorem EW {p:Proj} {b:Dom} {r:Rul} (h:r∈aX p b):usable p b=true∧iC p r=true:=by
 unfold aX at h
 split at h
 ·rename_i hu
  exact⟨hu,Dp hu h⟩
 ·simp at h
def Rk:Rul:=⟨0,0,0,0⟩
def iR (p:Proj) (b:Dom):Option Rul:=if aQ p b=true∧jf b=true then some Rk else (aX p b).find? (refutes p b)
def Ui (o:Option Rul):RV:=.tup [.d (o.getD Rk).av,.d (.bool o.isSome)]
theorem GU {α:Type} {f:α→Bool} {l:List α} {k:Nat} {x:α} (h:l[k]? =some x):(l.drop k).find? f=if f x=true then some x else (l.drop (k+1)).find? f:=by
 rw [ay h,List.find?_cons];cases f x<;>rfl
theorem qR (p:Proj) (b:Dom):(aX p b).length≤300:=by
 unfold aX
 split
 ·rename_i hu
  have hf:=(jR hu).1
  have hpo:=(bB hf).1
  have h1:=GQ hpo
  have h2:=Mi hpo
  have h3:=vR hf
  obtain⟨_,hr3,_,_⟩:=oq hpo
  obtain⟨_,l1,l2,l3,_⟩:=bB hf
  have hna:=(eu hpo).Jj
  have h4:∀i,(rD p b i).length≤50:=fun i=>by
   unfold rD
   split
   ·rename_i x hx
    have h5:=GR hpo hx
    have h6:=fV (b.hi++x.steps.map Step.at')
    have h7:=List.length_filter_le dw (setOf (b.hi++x.steps.map Step.at'))
    simp only [List.length_append,List.length_map] at h6
    simp only [yu,List.length_append,List.length_map];omega
   ·simp
  have h5:=oC (f:=rD p b) (c:=50) (l:=List.range p.aU.length) fun i _=>h4 i
  simp only [List.length_range] at h5
  simp only [gH,List.length_append];omega
 ·simp
theorem Bv (p:Proj) (b:Dom) (hp:p.fine):Con 290 [.d p.av,.d b.av] (Ui (iR p b)):=by
 refine con Tryz.func290 rfl rfl Tryz.call290 rfl fun hwf=>?_
 simp only [ARs.wf,AR.wf,AV.wf,AV.wfs,lm,lim] at hwf
 have hl:=qR p b
 cases h1:aQ p b with
 |false=>
  rw [iR,if_neg (by simp [h1])]
  (repeat' ((conv=>whnf);first|refine gA ?_|(refine gB ?_ ?_<;>intro h)|(refine gI ?_;intro x hx)|(refine gJ ?_;intro j x hj hx)|refine gV ?_|refine gC (bn p b hp) ?_|refine gC (bD b) ?_|refine gC (nG p b hp) ?_|intro _))<;>try (conv=>whnf)
  refine au [2,3,4,18,19] [2,3,4] [] ?_
  (conv=>whnf)
  refine ak.go ((Nat)) (fun k=>(k≤(aX p b).length)∧(((aX p b).drop k).find? (refutes p b)=(aX p b).find? (refutes p b))) (fun k=>[(20,.data (i64 k))]) (fun _=>[]) (fun _=>[]) (fun k=>(aX p b).length - k) (0) ?_ ?_
  ·exact⟨Nat.zero_le _,rfl⟩
  rintro k ⟨hk,hi⟩
  by_cases hlt:k < (aX p b).length
  ·obtain⟨r,hr⟩:∃r,(aX p b)[k]? =some r:=⟨(aX p b)[k]'hlt,by simp⟩
   rw [GU hr] at hi
   (repeat' ((conv=>whnf);first|with_reducible refine Idx.got hr rfl ?_|refine gA ?_|(refine gB ?_ ?_<;>intro h)|(refine gI ?_;intro x hx)|(refine gJ ?_;intro j x hj hx)|refine gV ?_|refine gC (jM p b r hp) ?_|intro _))<;>try (conv=>whnf)
   ·rw [if_pos (by assumption)] at hi
    rw [← hi]
    exact fv
   ·refine nx (k+1) ?_
    rw [if_neg (by simp [*])] at hi
    exact⟨by omega,hi⟩
   ·exfalso;omega
  ·(repeat' ((conv=>whnf);first|(exfalso;omega)|refine gA ?_|(refine gB ?_ ?_<;>intro h)|(refine gI ?_;intro x hx)|(refine gJ ?_;intro j x hj hx)|refine gV ?_|intro _))<;>try (conv=>whnf)
   rw [aG (by assumption)] at hi
   rw [← hi]
   exact fv
 |true=>
 cases h2:jf b with
 |true=>
  rw [iR,if_pos ⟨h1,h2⟩]
  (repeat' ((conv=>whnf);first|refine gA ?_|(refine gB ?_ ?_<;>intro h)|(refine gI ?_;intro x hx)|(refine gJ ?_;intro j x hj hx)|refine gV ?_|refine gC (bn p b hp) ?_|refine gC (bD b) ?_|intro _))<;>try (conv=>whnf)
  exact fv
 |false=>
  rw [iR,if_neg (by simp [h2])]
  (repeat' ((conv=>whnf);first|refine gA ?_|(refine gB ?_ ?_<;>intro h)|(refine gI ?_;intro x hx)|(refine gJ ?_;intro j x hj hx)|refine gV ?_|refine gC (bn p b hp) ?_|refine gC (bD b) ?_|refine gC (nG p b hp) ?_|intro _))<;>try (conv=>whnf)
  refine au [2,3,4,18,19] [2,3,4] [] ?_
  (conv=>whnf)
  refine ak.go ((Nat)) (fun k=>(k≤(aX p b).length)∧(((aX p b).drop k).find? (refutes p b)=(aX p b).find? (refutes p b))) (fun k=>[(20,.data (i64 k))]) (fun _=>[]) (fun _=>[]) (fun k=>(aX p b).length - k) (0) ?_ ?_
  ·exact⟨Nat.zero_le _,rfl⟩
  rintro k ⟨hk,hi⟩
  by_cases hlt:k < (aX p b).length
  ·obtain⟨r,hr⟩:∃r,(aX p b)[k]? =some r:=⟨(aX p b)[k]'hlt,by simp⟩
   rw [GU hr] at hi
   (repeat' ((conv=>whnf);first|with_reducible refine Idx.got hr rfl ?_|refine gA ?_|(refine gB ?_ ?_<;>intro h)|(refine gI ?_;intro x hx)|(refine gJ ?_;intro j x hj hx)|refine gV ?_|refine gC (jM p b r hp) ?_|intro _))<;>try (conv=>whnf)
   ·rw [if_pos (by assumption)] at hi
    rw [← hi]
    exact fv
   ·refine nx (k+1) ?_
    rw [if_neg (by simp [*])] at hi
    exact⟨by omega,hi⟩
   ·exfalso;omega
  ·(repeat' ((conv=>whnf);first|(exfalso;omega)|refine gA ?_|(refine gB ?_ ?_<;>intro h)|(refine gI ?_;intro x hx)|(refine gJ ?_;intro j x hj hx)|refine gV ?_|intro _))<;>try (conv=>whnf)
   rw [aG (by assumption)] at hi
   rw [← hi]
   exact fv
theorem ND {p:Proj} {b:Dom} {r:Rul} (hu:usable p b=true) (ho:iC p r=true):refutes p b r=fails p b r:=by
 obtain⟨h1,h2⟩:=jR hu
 simp [refutes,h1,h2,ho]
theorem Bw (p:Proj) (b:Dom) (hp:p.fine):Con 267 [.d p.av,.d b.av] (Ui (iR p b)):=by
 refine con Tryz.func267 rfl rfl Tryz.call267 rfl fun hwf=>?_
 simp only [ARs.wf,AR.wf,AV.wf,AV.wfs,lm,lim] at hwf
 cases h1:aQ p b with
 |false=>
  have e:iR p b=none:=by
   rw [iR,if_neg (by simp [h1]),aX,if_neg (by simp [usable,h1])];rfl
  rw [e]
  (repeat' ((conv=>whnf);first|refine gA ?_|(refine gB ?_ ?_<;>intro h)|(refine gI ?_;intro x hx)|(refine gJ ?_;intro j x hj hx)|refine gV ?_|refine gC (bX p b hp) ?_|intro _))<;>try (conv=>whnf)
  exact fv
 |true=>
 cases h2:jf b with
 |true=>
  rw [iR,if_pos ⟨h1,h2⟩]
  (repeat' ((conv=>whnf);first|refine gA ?_|(refine gB ?_ ?_<;>intro h)|(refine gI ?_;intro x hx)|(refine gJ ?_;intro j x hj hx)|refine gV ?_|refine gC (bX p b hp) ?_|refine gC (dY b) ?_|intro _))<;>try (conv=>whnf)
  exact fv
 |false=>
  have hu:usable p b=true:=by simp [usable,h1,h2]
  have hl:=qR p b
  rw [aX,if_pos hu] at hl
  rw [iR,if_neg (by simp [h2]),aX,if_pos hu]
  (repeat' ((conv=>whnf);first|refine gA ?_|(refine gB ?_ ?_<;>intro h)|(refine gI ?_;intro x hx)|(refine gJ ?_;intro j x hj hx)|refine gV ?_|refine gC (bX p b hp) ?_|refine gC (dY b) ?_|refine gC (IL p b hp hu) ?_|intro _))<;>try (conv=>whnf)
  refine au [2,3,4,18,19] [2,3,4] [] ?_
  (conv=>whnf)
  refine ak.go ((Nat)) (fun k=>(k≤(gH p b).length)∧(((gH p b).drop k).find? (refutes p b)=(gH p b).find? (refutes p b))) (fun k=>[(20,.data (i64 k))]) (fun _=>[]) (fun _=>[]) (fun k=>(gH p b).length - k) (0) ?_ ?_
  ·exact⟨Nat.zero_le _,rfl⟩
  rintro k ⟨hk,hi⟩
  by_cases hlt:k < (gH p b).length
  ·obtain⟨r,hr⟩:∃r,(gH p b)[k]? =some r:=⟨(gH p b)[k]'hlt,by simp⟩
   have hro:=Dp hu (List.mem_of_getElem? hr)
   rw [GU hr,ND hu hro] at hi
   (repeat' ((conv=>whnf);first|with_reducible refine Idx.got hr rfl ?_|refine gA ?_|(refine gB ?_ ?_<;>intro h)|(refine gI ?_;intro x hx)|(refine gJ ?_;intro j x hj hx)|refine gV ?_|refine gC (rP p b r h1 hro) ?_|intro _))<;>try (conv=>whnf)
   ·rw [if_pos (by assumption)] at hi
    rw [← hi]
    exact fv
   ·refine nx (k+1) ?_
    rw [if_neg (by simp [*])] at hi
    exact⟨by omega,hi⟩
   ·exfalso;omega
  ·(repeat' ((conv=>whnf);first|(exfalso;omega)|refine gA ?_|(refine gB ?_ ?_<;>intro h)|(refine gI ?_;intro x hx)|(refine gJ ?_;intro j x hj hx)|refine gV ?_|intro _))<;>try (conv=>whnf)
   rw [aG (by assumption)] at hi
   rw [← hi]
   exact fv
def gZ (p:Proj) (b:Dom) (r:Rul) (l:Lit):List Lit×Bool:=
 if rX p l=true∧refutes p (restrict b (negate l)) r=true then (mZ p r (fun x=>aV x l) (bZ (wV p b++[l])),true) else ([],false)
def aeQ (r:List Lit×Bool):RV:=.tup [.fr (r.1.map Lit.av),.d (.bool r.2)]
def ada (r:List Lit×Bool):RV:=.tup [.d (lits r.1),.d (.bool r.2)]
theorem Ai (x l:Lit):Con 370 [.d x.av,.ref l.av] (.d (.bool (aV x l))):=by
 refine con Tryz.func370 rfl rfl Tryz.call370 rfl fun hwf=>?_
 (repeat' ((conv=>whnf);first|refine gA ?_|(refine gB ?_ ?_<;>intro h)|intro _))<;>try (conv=>whnf)
 all_goals exact⟨by simp [aV],rfl,trivial⟩
theorem Uj (p:Proj) (b:Dom):(wV p b).length≤1212:=by rw [wV,List.length_map];exact Ac p b
theorem Bz (p:Proj) (b:Dom) (r:Rul) (l:Lit) (hp:p.fine):Con 294 [.d p.av,.d b.av,.d r.av,.d l.av] (aeQ (gZ p b r l)):=by
 refine con Tryz.func294 rfl rfl Tryz.call294 rfl fun hwf=>?_
 have hnl:=Uj p b
 have hN:=LQ (wV p b++[l])
 rw [lits,List.map_append] at hN
 (repeat' ((conv=>whnf);first|refine gA ?_|(refine gB ?_ ?_<;>intro h)|refine gP ?_|refine gC (tT p l hp) ?_|refine gC (zM l) ?_|refine gC (fJ b (negate l)) ?_|refine gC (jM p (restrict b (negate l)) r hp) ?_|refine gC (LV p b hp) ?_|refine gC (hN) ?_|refine gC (LH p r (bZ (wV p b++[l])) 370 [l.av] _ hp (fun x=>Ai x l)) ?_|intro _))<;>try (conv=>whnf)
 ·rw [gZ,if_pos ⟨by assumption,by assumption⟩]
  exact fv
 ·rw [gZ,if_neg (by simp [*])]
  exact fv
 ·rw [gZ,if_neg (by simp [*])]
  exact fv
theorem uD {p:Proj} {b:Dom} (h:aQ p b=true) {n:Nat} {m:List Int} (hm:b.modes[n]? =some m):kr m=true:=by
 have hn:=(List.getElem?_eq_some_iff.1 hm).1
 obtain⟨_,l1,l2,l3,_⟩:=bB h
 obtain⟨a,x,y,m',g⟩:=fF h (show n < p.acts.length by omega)
 have:=g.modes
 rw [hm] at this
 cases this
 exact g.mok
theorem Yv {l:List Lit} {k:Nat} {x:Lit} (h:l[k]? =some x):GD l (k:Int)=x:=by
 have hk:=(List.getElem?_eq_some_iff.1 h).1
 exact Pe (within_iff.2 (by omega)) (by rw [Int.toNat_natCast];exact h)
theorem BA (p:Proj) (b:Dom) (r:Rul) (l:Lit) (hp:p.fine) (hf:aQ p b=true):Con 272 [.d p.av,.d b.av,.d r.av,.d l.av] (ada (gZ p b r l)):=by
 refine con Tryz.func272 rfl rfl Tryz.call272 rfl fun hwf=>?_
 have hpo:=(bB hf).1
 have hnl:=Uj p b
 have hs:∀m,b.modes[(negate l).act.toNat]? =some m→kr m=true:=fun m hm=>uD hf hm
 have hN:=LU (wV p b++[l])
 rw [lits,List.map_append] at hN
 have hcl:=Cq (wV p b++[l])
 simp only [List.length_append,List.length_cons,List.length_nil] at hcl
 have hmem:l∈bZ (wV p b++[l]):=by rw [(wQ _).2];simp
 by_cases hc:rX p l=true∧refutes p (restrict b (negate l)) r=true
 ·obtain⟨h1,h2⟩:=hc
  (repeat' ((conv=>whnf);first|refine gA ?_|(refine gB ?_ ?_<;>intro h)|(refine gI ?_;intro x hx)|(refine gJ ?_;intro j x hj hx)|refine gP ?_|refine gV ?_|refine gC (pK p l hp) ?_|refine gC (uR l) ?_|refine gC (jY b (negate l) hs) ?_|refine gC (pO p (restrict b (negate l)) r hp) ?_|refine gC (Ad p b hp) ?_|refine gC (hN) ?_|intro _))<;>try (conv=>whnf)
  refine au [4,6,7,10,35,36] [4,6,7] [] ?_
  (conv=>whnf)
  refine ak.go ((Nat)×(Nat)) (fun⟨k,j⟩=>(k≤(bZ (wV p b++[l])).length)∧(j≤k)∧(l∈(bZ (wV p b++[l])).take k→(bZ (wV p b++[l]))[j]? =some l)) (fun⟨k,j⟩=>[(37,.data (i64 k)),(11,.data (i64 j))]) (fun _=>[]) (fun _=>[]) (fun⟨k,j⟩=>(bZ (wV p b++[l])).length - k) ⟨0,0⟩ ?_ ?_
  ·exact⟨Nat.zero_le _,Nat.le_refl _,by simp⟩
  rintro⟨k,j⟩ ⟨hk,hj,hi⟩
  by_cases hlt:k < (bZ (wV p b++[l])).length
  ·obtain⟨x,hx⟩:∃x,(bZ (wV p b++[l]))[k]? =some x:=⟨(bZ (wV p b++[l]))[k]'hlt,by simp⟩
   (repeat' ((conv=>whnf);first|with_reducible refine Idx.got hx rfl ?_|refine gA ?_|(refine gB ?_ ?_<;>intro h)|(refine gI ?_;intro x hx)|(refine gJ ?_;intro j x hj hx)|refine gP ?_|refine gV ?_|intro _))<;>try (conv=>whnf)
   ·refine nx ⟨k+1,k⟩ ?_
    have e:x=l:=gq.1 (iN (by assumption))
    exact⟨by omega,by omega,fun _=>by rw [hx,e]⟩
   ·refine nx ⟨k+1,j⟩ ?_
    refine⟨by omega,by omega,fun hm=>hi ?_⟩
    obtain⟨hk',hx'⟩:=List.getElem?_eq_some_iff.1 hx
    rw [List.take_succ_eq_append_getElem hk',List.mem_append,List.mem_singleton,hx'] at hm
    rcases hm with hm|hm
    ·exact hm
    ·have hne:=iN (by assumption)
     rw [gq.2 hm.symm] at hne
     cases hne
   ·exfalso;omega
  ·have hj2:=hi (by rw [List.take_of_length_le (by omega)];exact hmem)
   have hS:=NA p r (bZ (wV p b++[l])) j hp hpo
   rw [Yv hj2] at hS
   (repeat' ((conv=>whnf);first|(exfalso;omega)|refine gA ?_|(refine gB ?_ ?_<;>intro h)|(refine gI ?_;intro x hx)|(refine gJ ?_;intro j x hj hx)|refine gP ?_|refine gV ?_|refine gC (hS) ?_|intro _))<;>try (conv=>whnf)
   rw [gZ,if_pos ⟨h1,h2⟩]
   exact fv
 ·(repeat' ((conv=>whnf);first|refine gA ?_|(refine gB ?_ ?_<;>intro h)|(refine gI ?_;intro x hx)|(refine gJ ?_;intro j x hj hx)|refine gP ?_|refine gV ?_|refine gC (pK p l hp) ?_|refine gC (uR l) ?_|refine gC (jY b (negate l) hs) ?_|refine gC (pO p (restrict b (negate l)) r hp) ?_|refine gC (Ad p b hp) ?_|refine gC (hN) ?_|intro _))<;>try (conv=>whnf)
  ·exact absurd ⟨by assumption,by assumption⟩ hc
  ·rw [gZ,if_neg hc]
   exact fv
  ·rw [gZ,if_neg hc]
   exact fv
end Go.Proofs.YtglikcnmgnlejaaGreat.Abs
namespace Go.Proofs.YtglikcnmgnlejaaGreat.Abs
open Go.Proofs
theorem Pm {p:Proj} {r:Int} {a:Int} (h:a∈users p r):∃k:Nat,a=k∧k < p.acts.length:=by
 unfold users at h
 split at h
 ·have h1:=(List.mem_filter.1 h).1
  simp only [upTo,List.mem_map,List.mem_range] at h1
  obtain⟨k,hk,rfl⟩:=h1
  exact⟨k,rfl,hk⟩
 ·simp at h
theorem wW {p:Proj} {a:Int} (h:dz p a=true):∃k:Nat,a=k∧k < p.acts.length:=by
 obtain⟨n,x,h1,h2⟩:=lY h
 exact⟨n,h1,(List.getElem?_eq_some_iff.1 h2).1⟩
theorem EX {p:Proj} {r:Rul} {a:Int} (h:a∈dR p r):∃k:Nat,a=k∧k < p.acts.length:=by
 unfold dR at h
 split at h
 ·rename_i ho
  have hpo:bE p=true:=by simp only [iC,Bool.and_eq_true] at ho;exact ho.1
  cases zU ho with
  |link hk k l e1 hl=>
   rw [if_pos hk,GH] at h
   have e:qm p r.a=l:=by simp [qm,e1,List.getD_eq_getElem?_getD,hl]
   rw [e] at h
   have hlo:=(eu hpo).link k l hl
   simp only [nW,Bool.and_eq_true] at hlo
   simp only [List.mem_cons,List.not_mem_nil,or_false] at h
   rcases h with rfl|rfl
   ·exact wW hlo.1.1.1
   ·exact wW hlo.1.1.2
  |fin hk ha=>
   simp [hk] at h
   subst h
   exact wW ha
  |time hk ha hb=>simp [hk] at h;exact Pm h
  |work hk ha hb hc hlt=>simp [hk] at h;exact Pm h
  |pair hk ha hb hc hlt=>
   simp [hk] at h
   rcases h with rfl|rfl
   ·exact wW hb
   ·exact wW hc
  |KT hk ha=>simp [hk] at h;exact ED h
 ·simp at h
def nO (p:Proj) (b:Dom) (r:Rul) (k:Int) (a:Nat) (n:Int):Bool:=refutes p (restrict b ⟨k,a,n⟩) r
def goUp (f:Int→Bool) (hi:Int):Nat→Int→Int
 |0,n=>n
 |k+1,n=>if n≤hi∧f n=true then goUp f hi k (n+1) else n
def Jq (f:Int→Bool) (lo:Int):Nat→Int→Int
 |0,n=>n
 |k+1,n=>if n≥lo∧f n=true then Jq f lo k (n - 1) else n
theorem Xv {f:Int→Bool} {hi n:Int} (h:n≤hi) (hf:f n=true):goUp f hi (hi+1 - n).toNat n=goUp f hi (hi+1 - (n+1)).toNat (n+1):=by
 obtain⟨m,hm⟩:∃m,(hi+1 - n).toNat=m+1:=⟨(hi - n).toNat,by omega⟩
 rw [hm,goUp,if_pos ⟨h,hf⟩,show (hi+1 - (n+1)).toNat=m by omega]
theorem Uk {f:Int→Bool} {hi n:Int} (h:¬(n≤hi∧f n=true)):∀k,goUp f hi k n=n
 |0=>rfl
 |k+1=>by rw [goUp,if_neg h]
theorem Xw {f:Int→Bool} {lo n:Int} (h:n≥lo) (hf:f n=true):Jq f lo (n+1 - lo).toNat n=Jq f lo (n - 1+1 - lo).toNat (n - 1):=by
 obtain⟨m,hm⟩:∃m,(n+1 - lo).toNat=m+1:=⟨(n - lo).toNat,by omega⟩
 rw [hm,Jq,if_pos ⟨h,hf⟩,show (n - 1+1 - lo).toNat=m by omega]
theorem Ul {f:Int→Bool} {lo n:Int} (h:¬(n≥lo∧f n=true)):∀k,Jq f lo k n=n
 |0=>rfl
 |k+1=>by rw [Jq,if_neg h]
def atLeast (k:Nat) (lo n:Int):List Lit:=if n > lo then [⟨1,k,n⟩] else []
def vT (k:Nat) (up n:Int):List Lit:=if n < up then [⟨2,k,n⟩] else []
theorem Aj (k:Nat) (lo n:Int):(atLeast k lo n).length≤1:=by unfold atLeast;split<;>simp
theorem Dq (k:Nat) (up n:Int):(vT k up n).length≤1:=by unfold vT;split<;>simp
def AZ (p:Proj) (b:Dom) (r:Rul) (k:Nat) (lo up:Int) (m:List Int):List Lit:=
 atLeast k lo (goUp (nO p b r 2 k) up (up+1 - lo).toNat lo)++vT k up (Jq (nO p b r 1 k) lo (up+1 - lo).toNat up)++
  (m.filter fun v=>decide (m.length > 1)&&nO p b r 3 k v).map fun v=>⟨4,k,v⟩
def mE (p:Proj) (b:Dom) (r:Rul) (k:Nat):List Lit:=
 match b.lo[k]?,b.hi[k]?,b.modes[k]? with
 |some lo,some up,some m=>AZ p b r k lo up m
 |_,_,_=>[]
theorem GV {p:Proj} {b:Dom} {r:Rul} {k:Nat} {a:aC} {x y:Int} {m:List Int} (g:eD p b k a x y m):mE p b r k=AZ p b r k x y m:=by
 simp only [mE,g.lo,g.hi,g.modes]
theorem adb {l:List Int} (h:l.Pairwise (· < ·)):∀{lo hi:Int},(∀x∈l,lo≤x∧x < hi)→lo≤hi→(l.length:Int)≤hi - lo:=by
 induction l with
 |nil=>intro lo hi _ h;simp;omega
 |cons x r ih=>
  intro lo hi hx _
  rw [List.pairwise_cons] at h
  have h1:=hx x (by simp)
  have:=ih h.2 (lo:=x+1) (hi:=hi) (fun y hy=>⟨by have:=h.1 y hy;omega,(hx y (by simp [hy])).2⟩) (by omega)
  simp only [List.length_cons];push_cast;omega
theorem Mk {p:Proj} {b:Dom} {k:Nat} {a:aC} {x y:Int} {m:List Int} (g:eD p b k a x y m):m.length≤3:=by
 have h2:=g.aok
 simp only [dJ,Bool.and_eq_true,within_iff] at h2
 have:=adb (Ez g.mok) (lo:=0) (hi:=3) (fun x hx=>by
  obtain⟨j,rfl,hj⟩:=g.acM x hx
  omega) (by omega)
 omega
theorem Dr (p:Proj) (b:Dom) (r:Rul) (c:Int) (k:Nat) (n:Int) (hf:aQ p b=true) (hro:iC p r=true) (hp:p.fine):Con 351 [.d p.av,.d b.av,.d r.av,.d (i64 c),.d (i64 k),.d (i64 n)] (.d (.bool (nO p b r c k n))):=by
 refine con Tryz.func351 rfl rfl Tryz.call351 rfl fun hwf=>?_
 have hfr:=Ci hf ⟨c,k,n⟩
 (repeat' ((conv=>whnf);first|refine gA ?_|(refine gB ?_ ?_<;>intro h)|refine gC (jY b ⟨c,k,n⟩ (fun m hm=>uD hf hm)) ?_|refine gC (dY (restrict b ⟨c,k,n⟩)) ?_|refine gC (rP p (restrict b ⟨c,k,n⟩) r hfr hro) ?_|intro _))<;>try (conv=>whnf)
 all_goals (refine⟨?_,rfl,trivial⟩;simp [nO,refutes,hfr,hro, *])
theorem NG (p:Proj) (b:Dom) (r:Rul) (k:Nat) (hp:p.fine) (hf:aQ p b=true) (hk:k < p.acts.length):Con 293 [.d p.av,.d b.av,.d r.av,.d (i64 k)] (.d (lits (mE p b r k))):=by
 refine con Tryz.func293 rfl rfl Tryz.call293 rfl fun hwf=>?_
 simp only [ARs.wf,AR.wf,AV.wf,AV.wfs,lm,lim] at hwf
 obtain⟨a,lo,up,m,g⟩:=fF hf hk
 rw [GV g,AZ]
 have hlo:=g.lob
 have hup:=g.hib
 have hm3:=Mk g
 obtain⟨N,hN⟩:∃N,N=goUp (nO p b r 2 k) up (up+1 - lo).toNat lo:=⟨_,rfl⟩
 obtain⟨M,hM⟩:∃M,M=Jq (nO p b r 1 k) lo (up+1 - lo).toNat up:=⟨_,rfl⟩
 rw [← hN, ← hM]
 (repeat' ((conv=>whnf);first|with_reducible refine Idx.got g.lo rfl ?_|with_reducible refine Idx.got g.hi rfl ?_|with_reducible refine Idx.got g.modes rfl ?_|refine gA ?_|(refine gB ?_ ?_<;>intro h)|(refine gI ?_;intro x hx)|(refine gJ ?_;intro j x hj hx)|refine gP ?_|refine gV ?_|intro _))<;>try (conv=>whnf)
 refine au [3,4,5,6,9] [4,5,6] [] ?_
 (conv=>whnf)
 refine ak.go ((Int)) (fun n=>(lo≤n)∧(n≤63)∧(goUp (nO p b r 2 k) up (up+1 - n).toNat n=N)) (fun n=>[(10,.data (i64 n))]) (fun _=>[]) (fun _=>[]) (fun n=>(up+1 - n).toNat) (lo) ?_ ?_
 ·exact⟨Int.le_refl _,by omega,hN.symm⟩
 rintro n ⟨hn,hn2,hi⟩
 (repeat' ((conv=>whnf);first|with_reducible refine Idx.got g.lo rfl ?_|with_reducible refine Idx.got g.hi rfl ?_|with_reducible refine Idx.got g.modes rfl ?_|refine gA ?_|(refine gB ?_ ?_<;>intro h)|(refine gI ?_;intro x hx)|(refine gJ ?_;intro j x hj hx)|refine gP ?_|refine gV ?_|refine gC (fJ b ⟨2,k,n⟩) ?_|refine gC (jM p (restrict b ⟨2,k,n⟩) r hp) ?_|intro _))<;>try (conv=>whnf)
 ·refine nx (n+1) ?_
  exact⟨by omega,by omega,by rw [← Xv (by assumption) (by assumption)];exact hi⟩
 all_goals
  have hoff:¬(n≤up∧nO p b r 2 k n=true):=by
   rintro⟨h1,h2⟩
   first|omega|(simp only [nO] at*;simp_all)
  rw [Uk hoff] at hi
  subst hi
  clear hN hoff
  refine au [3,4,5,6,9] [4,5,6] [] ?_
  (conv=>whnf)
  refine ak.go ((Int)) (fun q=>(q≤up)∧(-3≤q)∧(Jq (nO p b r 1 k) lo (q+1 - lo).toNat q=M)) (fun q=>[(10,.data (i64 q))]) (fun _=>[]) (fun _=>[]) (fun q=>(q+1 - lo).toNat) (up) ?_ ?_
  ·exact⟨Int.le_refl _,by omega,hM.symm⟩
  rintro q ⟨hq,hq2,hj⟩
  (repeat' ((conv=>whnf);first|with_reducible refine Idx.got g.lo rfl ?_|with_reducible refine Idx.got g.hi rfl ?_|with_reducible refine Idx.got g.modes rfl ?_|refine gA ?_|(refine gB ?_ ?_<;>intro h)|(refine gI ?_;intro x hx)|(refine gJ ?_;intro j x hj hx)|refine gP ?_|refine gV ?_|refine gC (fJ b ⟨1,k,q⟩) ?_|refine gC (jM p (restrict b ⟨1,k,q⟩) r hp) ?_|intro _))<;>try (conv=>whnf)
  ·refine nx (q - 1) ?_
   exact⟨by omega,by omega,by rw [← Xw (by assumption) (by assumption)];exact hj⟩
  all_goals
   have Um:¬(q≥lo∧nO p b r 1 k q=true):=by
    rintro⟨h1,h2⟩
    first|omega|(simp only [nO] at*;simp_all)
   rw [Ul Um] at hj
   subst hj
   clear hM Um
   refine au [3,4,5,6,92,93] [4,5,6] [13] ?_
   (conv=>whnf)
   refine ak.mk ((Nat)×(List Lit)) (fun⟨j,o⟩=>(j≤m.length)∧(o.length≤2+j)∧(o=(atLeast k lo n++vT k up q)++((m.take j).filter fun v=>decide (m.length > 1)&&nO p b r 3 k v).map (fun v=>⟨4,k,v⟩))) (fun⟨j,o⟩=>[(94,.data (i64 j)),(9,.own 13 0)]) (fun _=>[]) (fun⟨j,o⟩=>[(13,190,o.map Lit.av,0)]) (fun⟨j,o⟩=>m.length - j) ⟨0,atLeast k lo n++vT k up q⟩ ?_ ?_ ?_
   rotate_left
   ·(repeat' ((conv=>whnf)<;>(first|exact trivial|exact rfl|with_reducible refine And.intro ?_ ?_)))<;>((conv=>whnf)<;>(simp [atLeast,vT,Lit.av, *]))
   rotate_left
   ·exact⟨Nat.zero_le _,by have h1:=Aj k lo n;have h2:=Dq k up q;simp only [List.length_append];omega,by simp⟩
   rintro⟨j,o⟩ ⟨hj3,ol,ho⟩
   by_cases hlt:j < m.length
   ·obtain⟨v,hv⟩:∃v,m[j]? =some v:=⟨m[j]'hlt,by simp⟩
    (repeat' ((conv=>whnf);first|with_reducible refine Idx.got hv rfl ?_|with_reducible refine Idx.got g.lo rfl ?_|with_reducible refine Idx.got g.hi rfl ?_|with_reducible refine Idx.got g.modes rfl ?_|refine gA ?_|(refine gB ?_ ?_<;>intro h)|(refine gI ?_;intro x hx)|(refine gJ ?_;intro j x hj hx)|refine gP ?_|refine gV ?_|refine gC (fJ b ⟨3,k,v⟩) ?_|refine gC (jM p (restrict b ⟨3,k,v⟩) r hp) ?_|intro _))<;>try (conv=>whnf)
    ·refine nw ⟨j+1,o++[⟨4,k,v⟩]⟩ ?_ ?_
     ·(repeat' ((conv=>whnf)<;>(first|exact trivial|exact rfl|with_reducible refine And.intro ?_ ?_)))<;>((conv=>whnf)<;>(simp [Lit.av]))
     have hml:m.length > 1:=by omega
     exact⟨by omega,by simp;omega,(eP ho hv).1 (by simp only [nO] at*;simp [*])⟩
    ·refine nx ⟨j+1,o⟩ ?_
     exact⟨by omega,by omega,(eP ho hv).2 (by simp only [nO] at*;simp [*])⟩
    ·refine nx ⟨j+1,o⟩ ?_
     have hml:¬ m.length > 1:=by omega
     exact⟨by omega,by omega,(eP ho hv).2 (by simp only [nO] at*;simp [*])⟩
    ·exfalso;omega
   ·(repeat' ((conv=>whnf);first|(exfalso;omega)|refine gA ?_|(refine gB ?_ ?_<;>intro h)|(refine gI ?_;intro x hx)|(refine gJ ?_;intro j x hj hx)|refine gP ?_|refine gV ?_|intro _))<;>try (conv=>whnf)
    all_goals (refine⟨?_,rfl,trivial⟩;rw [ho,List.take_of_length_le (by omega)])
theorem Cr (p:Proj) (b:Dom) (r:Rul) (k:Nat) (hp:p.fine) (hf:aQ p b=true) (hro:iC p r=true) (hk:k < p.acts.length):Con 271 [.d p.av,.d b.av,.d r.av,.d (i64 k)] (.d (lits (mE p b r k))):=by
 refine con Tryz.func271 rfl rfl Tryz.call271 rfl fun hwf=>?_
 simp only [ARs.wf,AR.wf,AV.wf,AV.wfs,lm,lim] at hwf
 obtain⟨a,lo,up,m,g⟩:=fF hf hk
 rw [GV g,AZ]
 have hlo:=g.lob
 have hup:=g.hib
 have hm3:=Mk g
 obtain⟨N,hN⟩:∃N,N=goUp (nO p b r 2 k) up (up+1 - lo).toNat lo:=⟨_,rfl⟩
 obtain⟨M,hM⟩:∃M,M=Jq (nO p b r 1 k) lo (up+1 - lo).toNat up:=⟨_,rfl⟩
 rw [← hN, ← hM]
 (repeat' ((conv=>whnf);first|with_reducible refine Idx.got g.lo rfl ?_|with_reducible refine Idx.got g.hi rfl ?_|with_reducible refine Idx.got g.modes rfl ?_|refine gA ?_|(refine gB ?_ ?_<;>intro h)|(refine gI ?_;intro x hx)|(refine gJ ?_;intro j x hj hx)|refine gP ?_|refine gV ?_|intro _))<;>try (conv=>whnf)
 refine au [3,4,5,6,9] [4,5,6] [] ?_
 (conv=>whnf)
 refine ak.go ((Int)) (fun n=>(lo≤n)∧(n≤63)∧(goUp (nO p b r 2 k) up (up+1 - n).toNat n=N)) (fun n=>[(10,.data (i64 n))]) (fun _=>[]) (fun _=>[]) (fun n=>(up+1 - n).toNat) (lo) ?_ ?_
 ·exact⟨Int.le_refl _,by omega,hN.symm⟩
 rintro n ⟨hn,hn2,hi⟩
 (repeat' ((conv=>whnf);first|with_reducible refine Idx.got g.lo rfl ?_|with_reducible refine Idx.got g.hi rfl ?_|with_reducible refine Idx.got g.modes rfl ?_|refine gA ?_|(refine gB ?_ ?_<;>intro h)|(refine gI ?_;intro x hx)|(refine gJ ?_;intro j x hj hx)|refine gP ?_|refine gV ?_|refine gC (Dr p b r 2 k n hf hro hp) ?_|intro _))<;>try (conv=>whnf)
 ·refine nx (n+1) ?_
  exact⟨by omega,by omega,by rw [← Xv (by assumption) (by assumption)];exact hi⟩
 all_goals
  have hoff:¬(n≤up∧nO p b r 2 k n=true):=by
   rintro⟨h1,h2⟩
   first|omega|(simp only [nO] at*;simp_all)
  rw [Uk hoff] at hi
  subst hi
  clear hN hoff
  refine au [3,4,5,6,9] [4,5,6] [] ?_
  (conv=>whnf)
  refine ak.go ((Int)) (fun q=>(q≤up)∧(-3≤q)∧(Jq (nO p b r 1 k) lo (q+1 - lo).toNat q=M)) (fun q=>[(10,.data (i64 q))]) (fun _=>[]) (fun _=>[]) (fun q=>(q+1 - lo).toNat) (up) ?_ ?_
  ·exact⟨Int.le_refl _,by omega,hM.symm⟩
  rintro q ⟨hq,hq2,hj⟩
  (repeat' ((conv=>whnf);first|with_reducible refine Idx.got g.lo rfl ?_|with_reducible refine Idx.got g.hi rfl ?_|with_reducible refine Idx.got g.modes rfl ?_|refine gA ?_|(refine gB ?_ ?_<;>intro h)|(refine gI ?_;intro x hx)|(refine gJ ?_;intro j x hj hx)|refine gP ?_|refine gV ?_|refine gC (Dr p b r 1 k q hf hro hp) ?_|intro _))<;>try (conv=>whnf)
  ·refine nx (q - 1) ?_
   exact⟨by omega,by omega,by rw [← Xw (by assumption) (by assumption)];exact hj⟩
  all_goals
   have Um:¬(q≥lo∧nO p b r 1 k q=true):=by
    rintro⟨h1,h2⟩
    first|omega|(simp only [nO] at*;simp_all)
   rw [Ul Um] at hj
   subst hj
   clear hM Um
   refine au [3,4,5,6,88,89] [4,5,6] [13] ?_
   (conv=>whnf)
   refine ak.mk ((Nat)×(List Lit)) (fun⟨j,o⟩=>(j≤m.length)∧(o.length≤2+j)∧(o=(atLeast k lo n++vT k up q)++((m.take j).filter fun v=>decide (m.length > 1)&&nO p b r 3 k v).map (fun v=>⟨4,k,v⟩))) (fun⟨j,o⟩=>[(90,.data (i64 j)),(9,.own 13 0)]) (fun _=>[]) (fun⟨j,o⟩=>[(13,190,o.map Lit.av,0)]) (fun⟨j,o⟩=>m.length - j) ⟨0,atLeast k lo n++vT k up q⟩ ?_ ?_ ?_
   rotate_left
   ·(repeat' ((conv=>whnf)<;>(first|exact trivial|exact rfl|with_reducible refine And.intro ?_ ?_)))<;>((conv=>whnf)<;>(simp [atLeast,vT,Lit.av, *]))
   rotate_left
   ·exact⟨Nat.zero_le _,by have h1:=Aj k lo n;have h2:=Dq k up q;simp only [List.length_append];omega,by simp⟩
   rintro⟨j,o⟩ ⟨hj3,ol,ho⟩
   by_cases hlt:j < m.length
   ·obtain⟨v,hv⟩:∃v,m[j]? =some v:=⟨m[j]'hlt,by simp⟩
    (repeat' ((conv=>whnf);first|with_reducible refine Idx.got hv rfl ?_|with_reducible refine Idx.got g.lo rfl ?_|with_reducible refine Idx.got g.hi rfl ?_|with_reducible refine Idx.got g.modes rfl ?_|refine gA ?_|(refine gB ?_ ?_<;>intro h)|(refine gI ?_;intro x hx)|(refine gJ ?_;intro j x hj hx)|refine gP ?_|refine gV ?_|refine gC (Dr p b r 3 k v hf hro hp) ?_|intro _))<;>try (conv=>whnf)
    ·refine nw ⟨j+1,o++[⟨4,k,v⟩]⟩ ?_ ?_
     ·(repeat' ((conv=>whnf)<;>(first|exact trivial|exact rfl|with_reducible refine And.intro ?_ ?_)))<;>((conv=>whnf)<;>(simp [Lit.av]))
     have hml:m.length > 1:=by omega
     exact⟨by omega,by simp;omega,(eP ho hv).1 (by simp only [nO] at*;simp [*])⟩
    ·refine nx ⟨j+1,o⟩ ?_
     exact⟨by omega,by omega,(eP ho hv).2 (by simp only [nO] at*;simp [*])⟩
    ·refine nx ⟨j+1,o⟩ ?_
     have hml:¬ m.length > 1:=by omega
     exact⟨by omega,by omega,(eP ho hv).2 (by simp only [nO] at*;simp [*])⟩
    ·exfalso;omega
   ·(repeat' ((conv=>whnf);first|(exfalso;omega)|refine gA ?_|(refine gB ?_ ?_<;>intro h)|(refine gI ?_;intro x hx)|(refine gJ ?_;intro j x hj hx)|refine gP ?_|refine gV ?_|intro _))<;>try (conv=>whnf)
    all_goals (refine⟨?_,rfl,trivial⟩;rw [ho,List.take_of_length_le (by omega)])
end Go.Proofs.YtglikcnmgnlejaaGreat.Abs
namespace Go.Proofs.YtglikcnmgnlejaaGreat.Abs
open Go.Proofs
def Ba (p:Proj) (b:Dom) (r:Rul) (a:Int):Option Infer:=(mE p b r a.toNat).head?.map fun l=>⟨l,r,(gZ p b r l).1⟩
def pU (p:Proj) (b:Dom) (r:Rul):Option Infer:=(dR p r).findSome? (Ba p b r)
def eY (p:Proj) (b:Dom):Option Infer:=if (iR p b).isSome=true then none else (aX p b).findSome? (pU p b)
def Xx:Infer:=⟨bG,Rk,[]⟩
def Yw (o:Option Infer):RV:=let x:=o.getD Xx;.tup [.agg [.d (i64 x.lit.kind),.d (i64 x.lit.act),.d (i64 x.lit.val),.d (i64 x.rule.kind),.d (i64 x.rule.a),.d (i64 x.rule.b),.d (i64 x.rule.c),.fr (x.clause.map Lit.av)],.d (.bool o.isSome)]
def aah (o:Option Infer):RV:=.tup [.d (o.getD Xx).av,.d (.bool o.isSome)]
theorem Bb {α β:Type} {f:α→Option β} {l:List α} {k:Nat} {x:α} (h:l[k]? =some x):(l.drop k).findSome? f=(match f x with|some y=>some y|none=>(l.drop (k+1)).findSome? f):=by
 rw [ay h,List.findSome?_cons];cases f x<;>rfl
theorem yw {p:Proj} {b:Dom} (h:usable p b=true):aQ p b=true:=(jR h).1
theorem Ml (p:Proj) (b:Dom) (r:Rul) (k:Nat) (hf:aQ p b=true) (hk:k < p.acts.length):(mE p b r k).length≤5:=by
 obtain⟨a,x,y,m,g⟩:=fF hf hk
 rw [GV g,AZ]
 have h1:=Aj k x (goUp (nO p b r 2 k) y (y+1 - x).toNat x)
 have h2:=Dq k y (Jq (nO p b r 1 k) x (y+1 - x).toNat y)
 have h3:=Mk g
 have h4:=List.length_filter_le (fun v=>decide (m.length > 1)&&nO p b r 3 k v) m
 simp only [List.length_append,List.length_map];omega
theorem EY (p:Proj) (r:Rul):(dR p r).length≤200:=by
 unfold dR
 split
 ·rename_i ho
  have hpo:bE p=true:=by simp only [iC,Bool.and_eq_true] at ho;exact ho.1
  have hna:=(eu hpo).Jj
  split
  ·have:=fV [(qm p r.a).src,(qm p r.a).dst]
   simp only [List.length_cons,List.length_nil] at this;omega
  split
  ·simp
  split
  ·simp
  split
  ·exact ER _
  ·unfold users
   split
   ·have:=rT (nR p r.a) p.acts.length;omega
   ·simp
 ·simp
theorem rY (p:Proj) (b:Dom) (hp:p.fine):Con 194 [.d p.av,.d b.av] (Yw (eY p b)):=by
 refine con Tryz.func194 rfl rfl Tryz.call194 rfl fun hwf=>?_
 have hF:=Bv p b hp
 have hcl:=qR p b
 cases hn:(iR p b).isSome with
 |true=>
  rw [eY,if_pos hn]
  rw [Ui,hn] at hF
  (repeat' ((conv=>whnf);first|refine gA ?_|(refine gB ?_ ?_<;>intro h)|(refine gI ?_;intro x hx)|(refine gJ ?_;intro j x hj hx)|refine gV ?_|refine gC (hF) ?_|intro _))<;>try (conv=>whnf)
  exact fv
 |false=>
  rw [eY,if_neg (by simp [hn])]
  rw [Ui,hn] at hF
  (repeat' ((conv=>whnf);first|refine gA ?_|(refine gB ?_ ?_<;>intro h)|(refine gI ?_;intro x hx)|(refine gJ ?_;intro j x hj hx)|refine gV ?_|refine gC (hF) ?_|refine gC (nG p b hp) ?_|intro _))<;>try (conv=>whnf)
  refine au [2,3,4,26,27] [2,3,4] [] ?_
  (conv=>whnf)
  refine ak.go ((Nat)) (fun k=>(k≤(aX p b).length)∧(((aX p b).drop k).findSome? (pU p b)=(aX p b).findSome? (pU p b))) (fun k=>[(28,.data (i64 k))]) (fun _=>[]) (fun _=>[]) (fun k=>(aX p b).length - k) (0) ?_ ?_
  ·exact⟨Nat.zero_le _,rfl⟩
  rintro k ⟨hk,hi⟩
  by_cases hlt:k < (aX p b).length
  rotate_left
  ·(repeat' ((conv=>whnf);first|(exfalso;omega)|refine gA ?_|(refine gB ?_ ?_<;>intro h)|(refine gI ?_;intro x hx)|(refine gJ ?_;intro j x hj hx)|refine gV ?_|intro _))<;>try (conv=>whnf)
   rw [aG (by assumption)] at hi
   rw [← hi]
   exact fv
  obtain⟨r,hr⟩:∃r,(aX p b)[k]? =some r:=⟨(aX p b)[k]'hlt,by simp⟩
  obtain⟨hu,hro⟩:=EW (List.mem_of_getElem? hr)
  have hf:=yw hu
  have hal:=EY p r
  rw [Bb hr] at hi
  (repeat' ((conv=>whnf);first|with_reducible refine Idx.got hr rfl ?_|refine gA ?_|(refine gB ?_ ?_<;>intro h)|(refine gI ?_;intro x hx)|(refine gJ ?_;intro j x hj hx)|refine gV ?_|refine gC (Bt p r hp) ?_|intro _))<;>try (conv=>whnf)
  rotate_left
  ·exact trivial
  refine au [2,3,4,9,26,27,28,34,35] [2,3,4,9] [] ?_
  (conv=>whnf)
  refine ak.go ((Nat)) (fun j=>(j≤(dR p r).length)∧(((dR p r).drop j).findSome? (Ba p b r)=pU p b r)) (fun j=>[(36,.data (i64 j))]) (fun _=>[]) (fun _=>[]) (fun j=>(dR p r).length - j) (0) ?_ ?_
  ·exact⟨Nat.zero_le _,rfl⟩
  rintro j ⟨hj,hi2⟩
  by_cases hjl:j < (dR p r).length
  rotate_left
  ·rw [aG (by omega)] at hi2
   rw [← hi2] at hi
   (repeat' ((conv=>whnf);first|(exfalso;omega)|refine gA ?_|(refine gB ?_ ?_<;>intro h)|(refine gI ?_;intro x hx)|(refine gJ ?_;intro j x hj hx)|refine gV ?_|intro _))<;>try (conv=>whnf)
   refine nx (k+1) ?_
   exact⟨by omega,hi⟩
  obtain⟨a,ha⟩:∃a,(dR p r)[j]? =some a:=⟨(dR p r)[j]'hjl,by simp⟩
  obtain⟨n,rfl,hna⟩:=EX (List.mem_of_getElem? ha)
  have hil:=Ml p b r n hf hna
  rw [Bb ha,Ba,Int.toNat_natCast] at hi2
  (repeat' ((conv=>whnf);first|with_reducible refine Idx.got ha rfl ?_|refine gA ?_|(refine gB ?_ ?_<;>intro h)|(refine gI ?_;intro x hx)|(refine gJ ?_;intro j x hj hx)|refine gV ?_|refine gC (NG p b r n hp hf hna) ?_|intro _))<;>try (conv=>whnf)
  rotate_left
  ·exfalso;omega
  refine au [2,3,4,9,26,27,28,34,35,36,44,45] [2,3,4,9] [] ?_
  (conv=>whnf)
  refine ak.go ((Nat)) (fun m=>(m=0)) (fun m=>[(46,.data (i64 m))]) (fun _=>[]) (fun _=>[]) (fun m=>0) (0) ?_ ?_
  ·rfl
  rintro m hm
  subst hm
  by_cases h0:0 < (mE p b r n).length
  ·obtain⟨l,hx⟩:∃l,(mE p b r n)[0]? =some l:=⟨(mE p b r n)[0]'h0,by simp⟩
   have hh:(mE p b r n).head? =some l:=by rw [List.head?_eq_getElem?];exact hx
   rw [hh] at hi2
   have hi3:some (⟨l,r,(gZ p b r l).1⟩:Infer)=pU p b r:=hi2
   rw [← hi3] at hi
   have hi4:some (⟨l,r,(gZ p b r l).1⟩:Infer)=(aX p b).findSome? (pU p b):=hi
   rw [← hi4]
   (repeat' ((conv=>whnf);first|with_reducible refine Idx.got hx rfl ?_|refine gA ?_|(refine gB ?_ ?_<;>intro h)|(refine gI ?_;intro x hx)|(refine gJ ?_;intro j x hj hx)|refine gV ?_|refine gC (Bz p b r l hp) ?_|intro _))<;>try (conv=>whnf)
   ·exact fv
   ·exfalso;omega
  ·have hh:(mE p b r n).head? =none:=by rw [List.head?_eq_none_iff];exact List.eq_nil_of_length_eq_zero (by omega)
   rw [hh] at hi2
   (repeat' ((conv=>whnf);first|(exfalso;omega)|refine gA ?_|(refine gB ?_ ?_<;>intro h)|(refine gI ?_;intro x hx)|(refine gJ ?_;intro j x hj hx)|refine gV ?_|intro _))<;>try (conv=>whnf)
   refine nx (j+1) ?_
   exact⟨by omega,hi2⟩
theorem BD (p:Proj) (b:Dom) (hp:p.fine):Con 177 [.d p.av,.d b.av] (aah (eY p b)):=by
 refine con Tryz.func177 rfl rfl Tryz.call177 rfl fun hwf=>?_
 have hF:=Bw p b hp
 cases hu:usable p b with
 |false=>
  have hc:aX p b= []:=by rw [aX,if_neg (by simp [hu])]
  have e:eY p b=none:=by rw [eY,hc];cases (iR p b).isSome<;>rfl
  rw [e]
  cases hn:(iR p b).isSome with
  |true=>
   rw [Ui,hn] at hF
   (repeat' ((conv=>whnf);first|refine gA ?_|(refine gB ?_ ?_<;>intro h)|(refine gI ?_;intro x hx)|(refine gJ ?_;intro j x hj hx)|refine gV ?_|refine gC (hF) ?_|refine gC (qC p b hp) ?_|intro _))<;>try (conv=>whnf)
   exact fv
  |false=>
   rw [Ui,hn] at hF
   (repeat' ((conv=>whnf);first|refine gA ?_|(refine gB ?_ ?_<;>intro h)|(refine gI ?_;intro x hx)|(refine gJ ?_;intro j x hj hx)|refine gV ?_|refine gC (hF) ?_|refine gC (qC p b hp) ?_|intro _))<;>try (conv=>whnf)
   exact fv
 |true=>
 cases hn:(iR p b).isSome with
 |true=>
  rw [eY,if_pos hn]
  rw [Ui,hn] at hF
  (repeat' ((conv=>whnf);first|refine gA ?_|(refine gB ?_ ?_<;>intro h)|(refine gI ?_;intro x hx)|(refine gJ ?_;intro j x hj hx)|refine gV ?_|refine gC (hF) ?_|refine gC (qC p b hp) ?_|intro _))<;>try (conv=>whnf)
  exact fv
 |false=>
  rw [eY,if_neg (by simp [hn])]
  rw [Ui,hn] at hF
  have hf:=yw hu
  have hcl:=qR p b
  rw [aX,if_pos hu] at hcl
  rw [aX,if_pos hu]
  (repeat' ((conv=>whnf);first|refine gA ?_|(refine gB ?_ ?_<;>intro h)|(refine gI ?_;intro x hx)|(refine gJ ?_;intro j x hj hx)|refine gV ?_|refine gC (hF) ?_|refine gC (qC p b hp) ?_|refine gC (IL p b hp hu) ?_|intro _))<;>try (conv=>whnf)
  refine au [2,3,4,31,32] [2,3,4] [] ?_
  (conv=>whnf)
  refine ak.go ((Nat)) (fun k=>(k≤(gH p b).length)∧(((gH p b).drop k).findSome? (pU p b)=(gH p b).findSome? (pU p b))) (fun k=>[(33,.data (i64 k))]) (fun _=>[]) (fun _=>[]) (fun k=>(gH p b).length - k) (0) ?_ ?_
  ·exact⟨Nat.zero_le _,rfl⟩
  rintro k ⟨hk,hi⟩
  by_cases hlt:k < (gH p b).length
  rotate_left
  ·(repeat' ((conv=>whnf);first|(exfalso;omega)|refine gA ?_|(refine gB ?_ ?_<;>intro h)|(refine gI ?_;intro x hx)|(refine gJ ?_;intro j x hj hx)|refine gV ?_|intro _))<;>try (conv=>whnf)
   rw [aG (by assumption)] at hi
   rw [← hi]
   exact fv
  obtain⟨r,hr⟩:∃r,(gH p b)[k]? =some r:=⟨(gH p b)[k]'hlt,by simp⟩
  have hro:=Dp hu (List.mem_of_getElem? hr)
  have hal:=EY p r
  rw [Bb hr] at hi
  (repeat' ((conv=>whnf);first|with_reducible refine Idx.got hr rfl ?_|refine gA ?_|(refine gB ?_ ?_<;>intro h)|(refine gI ?_;intro x hx)|(refine gJ ?_;intro j x hj hx)|refine gV ?_|refine gC (Bu p r hp) ?_|intro _))<;>try (conv=>whnf)
  rotate_left
  ·exfalso;omega
  refine au [2,3,4,9,31,32,33,39,40] [2,3,4,9] [] ?_
  (conv=>whnf)
  refine ak.go ((Nat)) (fun j=>(j≤(dR p r).length)∧(((dR p r).drop j).findSome? (Ba p b r)=pU p b r)) (fun j=>[(41,.data (i64 j))]) (fun _=>[]) (fun _=>[]) (fun j=>(dR p r).length - j) (0) ?_ ?_
  ·exact⟨Nat.zero_le _,rfl⟩
  rintro j ⟨hj,hi2⟩
  by_cases hjl:j < (dR p r).length
  rotate_left
  ·rw [aG (by omega)] at hi2
   rw [← hi2] at hi
   (repeat' ((conv=>whnf);first|(exfalso;omega)|refine gA ?_|(refine gB ?_ ?_<;>intro h)|(refine gI ?_;intro x hx)|(refine gJ ?_;intro j x hj hx)|refine gV ?_|intro _))<;>try (conv=>whnf)
   refine nx (k+1) ?_
   exact⟨by omega,hi⟩
  obtain⟨a,ha⟩:∃a,(dR p r)[j]? =some a:=⟨(dR p r)[j]'hjl,by simp⟩
  obtain⟨n,rfl,hna⟩:=EX (List.mem_of_getElem? ha)
  have hil:=Ml p b r n hf hna
  rw [Bb ha,Ba,Int.toNat_natCast] at hi2
  by_cases h0:0 < (mE p b r n).length
  ·obtain⟨l,hx⟩:∃l,(mE p b r n)[0]? =some l:=⟨(mE p b r n)[0]'h0,by simp⟩
   have hh:(mE p b r n).head? =some l:=by rw [List.head?_eq_getElem?];exact hx
   rw [hh] at hi2
   have hi3:some (⟨l,r,(gZ p b r l).1⟩:Infer)=pU p b r:=hi2
   rw [← hi3] at hi
   have hi4:some (⟨l,r,(gZ p b r l).1⟩:Infer)=(gH p b).findSome? (pU p b):=hi
   rw [← hi4]
   (repeat' ((conv=>whnf);first|with_reducible refine Idx.got ha rfl ?_|with_reducible refine Idx.got hx rfl ?_|refine gA ?_|(refine gB ?_ ?_<;>intro h)|(refine gI ?_;intro x hx)|(refine gJ ?_;intro j x hj hx)|refine gV ?_|refine gC (Cr p b r n hp hf hro hna) ?_|refine gC (BA p b r l hp hf) ?_|intro _))<;>try (conv=>whnf)
   ·exact fv
   ·exfalso;omega
   ·exfalso;omega
  ·have hh:(mE p b r n).head? =none:=by rw [List.head?_eq_none_iff];exact List.eq_nil_of_length_eq_zero (by omega)
   rw [hh] at hi2
   (repeat' ((conv=>whnf);first|with_reducible refine Idx.got ha rfl ?_|(exfalso;omega)|refine gA ?_|(refine gB ?_ ?_<;>intro h)|(refine gI ?_;intro x hx)|(refine gJ ?_;intro j x hj hx)|refine gV ?_|refine gC (Cr p b r n hp hf hro hna) ?_|intro _))<;>try (conv=>whnf)
   refine nx (j+1) ?_
   exact⟨by omega,hi2⟩
end Go.Proofs.YtglikcnmgnlejaaGreat.Abs
