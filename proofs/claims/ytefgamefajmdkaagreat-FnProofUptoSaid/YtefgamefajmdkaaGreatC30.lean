/- Contracts: a refutation is found; literals that follow from a rule are explained. -/
import Derived.Test.YtefgamefajmdkaaGreatC28
import Derived.Test.YtefgamefajmdkaaGreatC12
set_option linter.all false
set_option maxRecDepth 20000
set_option maxHeartbeats 0
namespace Go.Proofs.YtefgamefajmdkaaGreat.Abs
open Go.Proofs
theorem Bl {p:Proj} {b:Dom} (hu:usable p b=true) {r:Rul} (h:r∈fO p b):fq p r=true:=by
 have hpo:=(bq (lJ hu).1).1
 simp only [fO,mI,Fj,List.mem_append,List.mem_map,List.mem_flatMap,List.mem_range] at h
 rcases h with (((⟨k,hk,rfl⟩|⟨k,hk,rfl⟩)|⟨k,hk,rfl⟩)|⟨i,hi,h⟩)|⟨i,hi,a,ha,h⟩
 ·have hw:within (k:Int) 0 ((p.links.length:Int) - 1)=true:=within_iff.2 (by omega)
  simp [fq,iZ,hpo,hw]
 ·have hw:aZ p (k:Int)=true:=within_iff.2 (by omega)
  simp [fq,endRule,hpo,hw]
 ·have hw:iG p (k:Int)=true:=within_iff.2 (by omega)
  simp [fq,gF,hpo,hw]
 ·have hw:dP p (i:Int)=true:=within_iff.2 (by omega)
  obtain⟨x,hx⟩:∃x,p.bg[i]? =some x:=⟨p.bg[i]'hi,by simp⟩
  rw [Gf hx,List.mem_append,List.mem_map,List.mem_map] at h
  rcases h with⟨t,ht,rfl⟩|⟨q,hq,rfl⟩
  ·have:=(List.mem_filter.1 ht).2
   simp [fq,JU,hpo,hw,this]
  ·obtain⟨u,v,rfl,h1,h2,h3⟩:=Af hq
   simp [fq,Mh,hpo,hw,h1,h2,h3]
 ·unfold fE at h
  split at h
  ·rename_i hm
   obtain⟨j,hj,rfl⟩:=List.mem_map.1 h
   have hj:=List.mem_range.1 hj
   have h1:aZ p (a:Int)=true:=within_iff.2 (by omega)
   have h2:aZ p ((a+1+j:Nat):Int)=true:=within_iff.2 (by omega)
   have h3:(a:Int) < ((a+1+j:Nat):Int):=by omega
   unfold fq jG
   dsimp only
   rw [hpo,Bool.true_and,if_neg (by decide),if_neg (by decide),if_neg (by decide),if_neg (by decide),if_pos rfl]
   simp only [hm,h1,h2,decide_eq_true h3]
   rfl
  ·simp at h
theorem Ou {p:Proj} {b:Dom} {r:Rul} (h:r∈iD p b):usable p b=true∧fq p r=true:=by
 unfold iD at h
 split at h
 ·rename_i hu
  exact⟨hu,Bl hu h⟩
 ·simp at h
def Ov:Rul:=⟨0,0,0,0⟩
def fP (p:Proj) (b:Dom):Option Rul:=if aC p b=true∧bF b=true then some Ov else (iD p b).find? (refutes p b)
def WK (o:Option Rul):RV:=.tup [.d (o.getD Ov).av,.d (.bool o.isSome)]
theorem UU {α:Type} {f:α→Bool} {l:List α} {k:Nat} {x:α} (h:l[k]? =some x):(l.drop k).find? f=if f x=true then some x else (l.drop (k+1)).find? f:=by
 rw [au h,List.find?_cons];cases f x<;>rfl
theorem Ag (p:Proj) (b:Dom):(iD p b).length≤300:=by
 unfold iD
 split
 ·rename_i hu
  have hf:=(lJ hu).1
  have hpo:=(bq hf).1
  have h1:=Mi hpo
  have h2:=WJ hpo
  have h3:=Ae hf
  obtain⟨_,hr3,_,_⟩:=nW hpo
  obtain⟨_,l1,l2,l3,_⟩:=bq hf
  have hna:=(dX hpo).KI
  have h4:∀i,(rD p b i).length≤50:=fun i=>by
   unfold rD
   split
   ·rename_i x hx
    have h5:=Mj hpo hx
    have h6:=iT (b.hi++x.steps.map Step.at')
    have h7:=List.length_filter_le bn (setOf (b.hi++x.steps.map Step.at'))
    simp only [List.length_append,List.length_map] at h6
    simp only [DR,List.length_append,List.length_map];omega
   ·simp
  have h5:=oV (f:=rD p b) (c:=50) (l:=List.range p.bg.length) fun i _=>h4 i
  simp only [List.length_range] at h5
  simp only [fO,List.length_append];omega
 ·simp
theorem KS {p:Proj} {b:Dom} {r:Rul} (hu:usable p b=true) (ho:fq p r=true):refutes p b r=fails p b r:=by
 obtain⟨h1,h2⟩:=lJ hu
 simp [refutes,h1,h2,ho]
theorem zw (p:Proj) (b:Dom) (hp:p.fine):Con 96 [.d p.av,.d b.av] (WK (fP p b)):=by
 refine con Tryz.func96 rfl rfl Tryz.call96 rfl fun hwf=>?_
 simp only [ARs.wf,AR.wf,AV.wf,AV.wfs,lm,lim] at hwf
 cases h1:aC p b with
 |false=>
  have e:fP p b=none:=by
   rw [fP,if_neg (by simp [h1]),iD,if_neg (by simp [usable,h1])];rfl
  rw [e]
  (repeat' ((conv=>whnf);first|refine gA ?_|(refine gB ?_ ?_<;>intro h)|(refine gI ?_;intro x hx)|(refine gJ ?_;intro j x hj hx)|refine gV ?_|refine gC (cZ p b hp) ?_|intro _))<;>try (conv=>whnf)
  exact fv
 |true=>
 cases h2:bF b with
 |true=>
  rw [fP,if_pos ⟨h1,h2⟩]
  (repeat' ((conv=>whnf);first|refine gA ?_|(refine gB ?_ ?_<;>intro h)|(refine gI ?_;intro x hx)|(refine gJ ?_;intro j x hj hx)|refine gV ?_|refine gC (cZ p b hp) ?_|refine gC (dw b) ?_|intro _))<;>try (conv=>whnf)
  exact fv
 |false=>
  have hu:usable p b=true:=by simp [usable,h1,h2]
  have hl:=Ag p b
  rw [iD,if_pos hu] at hl
  rw [fP,if_neg (by simp [h2]),iD,if_pos hu]
  (repeat' ((conv=>whnf);first|refine gA ?_|(refine gB ?_ ?_<;>intro h)|(refine gI ?_;intro x hx)|(refine gJ ?_;intro j x hj hx)|refine gV ?_|refine gC (cZ p b hp) ?_|refine gC (dw b) ?_|refine gC (Gg p b hp hu) ?_|intro _))<;>try (conv=>whnf)
  refine aB [2,3,4,18,19] [2,3,4] [] ?_
  (conv=>whnf)
  refine aA.go ((Nat)) (fun k=>(k≤(fO p b).length)∧(((fO p b).drop k).find? (refutes p b)=(fO p b).find? (refutes p b))) (fun k=>[(20,.data (i64 k))]) (fun _=>[]) (fun _=>[]) (fun k=>(fO p b).length - k) (0) ?_ ?_
  ·exact⟨Nat.zero_le _,rfl⟩
  rintro k ⟨hk,hi⟩
  by_cases hlt:k < (fO p b).length
  ·obtain⟨r,hr⟩:∃r,(fO p b)[k]? =some r:=⟨(fO p b)[k]'hlt,by simp⟩
   have hro:=Bl hu (List.mem_of_getElem? hr)
   rw [UU hr,KS hu hro] at hi
   (repeat' ((conv=>whnf);first|with_reducible refine Idx.got hr rfl ?_|refine gA ?_|(refine gB ?_ ?_<;>intro h)|(refine gI ?_;intro x hx)|(refine gJ ?_;intro j x hj hx)|refine gV ?_|refine gC (pU p b r h1 hro) ?_|intro _))<;>try (conv=>whnf)
   ·rw [if_pos (by assumption)] at hi
    rw [← hi]
    exact fv
   ·refine nx (k+1) ?_
    rw [if_neg (by simp [*])] at hi
    exact⟨by omega,hi⟩
   ·exfalso;omega
  ·(repeat' ((conv=>whnf);first|(exfalso;omega)|refine gA ?_|(refine gB ?_ ?_<;>intro h)|(refine gI ?_;intro x hx)|(refine gJ ?_;intro j x hj hx)|refine gV ?_|intro _))<;>try (conv=>whnf)
   rw [aH (by assumption)] at hi
   rw [← hi]
   exact fv
def iJ (p:Proj) (b:Dom) (r:Rul) (l:Lit):List Lit×Bool:=
 if fQ p l=true∧refutes p (restrict b (negate l)) r=true then (mP p r (fun x=>dA x l) (bW (pV p b++[l])),true) else ([],false)
def YS (r:List Lit×Bool):RV:=.tup [.d (lits r.1),.d (.bool r.2)]
theorem WL (p:Proj) (b:Dom):(pV p b).length≤1212:=by rw [pV,List.length_map];exact Gd p b
theorem rE {p:Proj} {b:Dom} (h:aC p b=true) {n:Nat} {m:List Int} (hm:b.modes[n]? =some m):iX m=true:=by
 have hn:=(List.getElem?_eq_some_iff.1 hm).1
 obtain⟨_,l1,l2,l3,_⟩:=bq h
 obtain⟨a,x,y,m',g⟩:=eu h (show n < p.acts.length by omega)
 have:=g.modes
 rw [hm] at this
 cases this
 exact g.mok
theorem UW {l:List Lit} {k:Nat} {x:Lit} (h:l[k]? =some x):Fg l (k:Int)=x:=by
 have hk:=(List.getElem?_eq_some_iff.1 h).1
 exact Me (within_iff.2 (by omega)) (by rw [Int.toNat_natCast];exact h)
theorem zx (p:Proj) (b:Dom) (r:Rul) (l:Lit) (hp:p.fine) (hf:aC p b=true):Con 101 [.d p.av,.d b.av,.d r.av,.d l.av] (YS (iJ p b r l)):=by
 refine con Tryz.func101 rfl rfl Tryz.call101 rfl fun hwf=>?_
 have hpo:=(bq hf).1
 have hnl:=WL p b
 have hs:∀m,b.modes[(negate l).act.toNat]? =some m→iX m=true:=fun m hm=>rE hf hm
 have hN:=nL (pV p b++[l])
 rw [lits,List.map_append] at hN
 have hcl:=Ad (pV p b++[l])
 simp only [List.length_append,List.length_cons,List.length_nil] at hcl
 have hmem:l∈bW (pV p b++[l]):=by rw [(uG _).2];simp
 by_cases hc:fQ p l=true∧refutes p (restrict b (negate l)) r=true
 ·obtain⟨h1,h2⟩:=hc
  (repeat' ((conv=>whnf);first|refine gA ?_|(refine gB ?_ ?_<;>intro h)|(refine gI ?_;intro x hx)|(refine gJ ?_;intro j x hj hx)|refine gP ?_|refine gV ?_|refine gC (qV p l hp) ?_|refine gC (oO l) ?_|refine gC (ji b (negate l) hs) ?_|refine gC (nK p (restrict b (negate l)) r hp) ?_|refine gC (yg p b hp) ?_|refine gC (hN) ?_|intro _))<;>try (conv=>whnf)
  refine aB [4,6,7,10,35,36] [4,6,7] [] ?_
  (conv=>whnf)
  refine aA.go ((Nat)×(Nat)) (fun⟨k,j⟩=>(k≤(bW (pV p b++[l])).length)∧(j≤k)∧(l∈(bW (pV p b++[l])).take k→(bW (pV p b++[l]))[j]? =some l)) (fun⟨k,j⟩=>[(37,.data (i64 k)),(11,.data (i64 j))]) (fun _=>[]) (fun _=>[]) (fun⟨k,j⟩=>(bW (pV p b++[l])).length - k) ⟨0,0⟩ ?_ ?_
  ·exact⟨Nat.zero_le _,Nat.le_refl _,by simp⟩
  rintro⟨k,j⟩ ⟨hk,hj,hi⟩
  by_cases hlt:k < (bW (pV p b++[l])).length
  ·obtain⟨x,hx⟩:∃x,(bW (pV p b++[l]))[k]? =some x:=⟨(bW (pV p b++[l]))[k]'hlt,by simp⟩
   (repeat' ((conv=>whnf);first|with_reducible refine Idx.got hx rfl ?_|refine gA ?_|(refine gB ?_ ?_<;>intro h)|(refine gI ?_;intro x hx)|(refine gJ ?_;intro j x hj hx)|refine gP ?_|refine gV ?_|intro _))<;>try (conv=>whnf)
   ·refine nx ⟨k+1,k⟩ ?_
    have e:x=l:=iY.1 (gL (by assumption))
    exact⟨by omega,by omega,fun _=>by rw [hx,e]⟩
   ·refine nx ⟨k+1,j⟩ ?_
    refine⟨by omega,by omega,fun hm=>hi ?_⟩
    obtain⟨hk',hx'⟩:=List.getElem?_eq_some_iff.1 hx
    rw [List.take_succ_eq_append_getElem hk',List.mem_append,List.mem_singleton,hx'] at hm
    rcases hm with hm|hm
    ·exact hm
    ·have hne:=gL (by assumption)
     rw [iY.2 hm.symm] at hne
     cases hne
   ·exfalso;omega
  ·have hj2:=hi (by rw [List.take_of_length_le (by omega)];exact hmem)
   have hS:=KQ p r (bW (pV p b++[l])) j hp hpo
   rw [UW hj2] at hS
   (repeat' ((conv=>whnf);first|(exfalso;omega)|refine gA ?_|(refine gB ?_ ?_<;>intro h)|(refine gI ?_;intro x hx)|(refine gJ ?_;intro j x hj hx)|refine gP ?_|refine gV ?_|refine gC (hS) ?_|intro _))<;>try (conv=>whnf)
   rw [iJ,if_pos ⟨h1,h2⟩]
   exact fv
 ·(repeat' ((conv=>whnf);first|refine gA ?_|(refine gB ?_ ?_<;>intro h)|(refine gI ?_;intro x hx)|(refine gJ ?_;intro j x hj hx)|refine gP ?_|refine gV ?_|refine gC (qV p l hp) ?_|refine gC (oO l) ?_|refine gC (ji b (negate l) hs) ?_|refine gC (nK p (restrict b (negate l)) r hp) ?_|refine gC (yg p b hp) ?_|refine gC (hN) ?_|intro _))<;>try (conv=>whnf)
  ·exact absurd ⟨by assumption,by assumption⟩ hc
  ·rw [iJ,if_neg hc]
   exact fv
  ·rw [iJ,if_neg hc]
   exact fv
open Go.Proofs
theorem Mk {p:Proj} {r:Int} {a:Int} (h:a∈users p r):∃k:Nat,a=k∧k < p.acts.length:=by
 unfold users at h
 split at h
 ·have h1:=(List.mem_filter.1 h).1
  simp only [upTo,List.mem_map,List.mem_range] at h1
  obtain⟨k,hk,rfl⟩:=h1
  exact⟨k,rfl,hk⟩
 ·simp at h
theorem uK {p:Proj} {a:Int} (h:aZ p a=true):∃k:Nat,a=k∧k < p.acts.length:=by
 obtain⟨n,x,h1,h2⟩:=jk h
 exact⟨n,h1,(List.getElem?_eq_some_iff.1 h2).1⟩
theorem DT {p:Proj} {r:Rul} {a:Int} (h:a∈je p r):∃k:Nat,a=k∧k < p.acts.length:=by
 unfold je at h
 split at h
 ·rename_i ho
  have hpo:aF p=true:=by simp only [fq,Bool.and_eq_true] at ho;exact ho.1
  cases DK ho with
  |link hk k l e1 hl=>
   rw [if_pos hk,uJ] at h
   have e:gH p r.a=l:=by simp [gH,e1,List.getD_eq_getElem?_getD,hl]
   rw [e] at h
   have hlo:=(dX hpo).link k l hl
   simp only [jK,Bool.and_eq_true] at hlo
   simp only [List.mem_cons,List.not_mem_nil,or_false] at h
   rcases h with rfl|rfl
   ·exact uK hlo.1.1.1
   ·exact uK hlo.1.1.2
  |fin hk ha=>
   simp [hk] at h
   subst h
   exact uK ha
  |time hk ha hb=>simp [hk] at h;exact Mk h
  |work hk ha hb hc hlt=>simp [hk] at h;exact Mk h
  |pair hk ha hb hc hlt=>
   simp [hk] at h
   rcases h with rfl|rfl
   ·exact uK hb
   ·exact uK hc
  |Dx hk ha=>simp [hk] at h;exact Dy h
 ·simp at h
def qo (p:Proj) (b:Dom) (r:Rul) (k:Int) (a:Nat) (n:Int):Bool:=refutes p (restrict b ⟨k,a,n⟩) r
def goUp (f:Int→Bool) (hi:Int):Nat→Int→Int
 |0,n=>n
 |k+1,n=>if n≤hi∧f n=true then goUp f hi k (n+1) else n
def Bn (f:Int→Bool) (lo:Int):Nat→Int→Int
 |0,n=>n
 |k+1,n=>if n≥lo∧f n=true then Bn f lo k (n - 1) else n
theorem XH {f:Int→Bool} {hi n:Int} (h:n≤hi) (hf:f n=true):goUp f hi (hi+1 - n).toNat n=goUp f hi (hi+1 - (n+1)).toNat (n+1):=by
 obtain⟨m,hm⟩:∃m,(hi+1 - n).toNat=m+1:=⟨(hi - n).toNat,by omega⟩
 rw [hm,goUp,if_pos ⟨h,hf⟩,show (hi+1 - (n+1)).toNat=m by omega]
theorem WM {f:Int→Bool} {hi n:Int} (h:¬(n≤hi∧f n=true)):∀k,goUp f hi k n=n
 |0=>rfl
 |k+1=>by rw [goUp,if_neg h]
theorem XI {f:Int→Bool} {lo n:Int} (h:n≥lo) (hf:f n=true):Bn f lo (n+1 - lo).toNat n=Bn f lo (n - 1+1 - lo).toNat (n - 1):=by
 obtain⟨m,hm⟩:∃m,(n+1 - lo).toNat=m+1:=⟨(n - lo).toNat,by omega⟩
 rw [hm,Bn,if_pos ⟨h,hf⟩,show (n - 1+1 - lo).toNat=m by omega]
theorem WO {f:Int→Bool} {lo n:Int} (h:¬(n≥lo∧f n=true)):∀k,Bn f lo k n=n
 |0=>rfl
 |k+1=>by rw [Bn,if_neg h]
def atLeast (k:Nat) (lo n:Int):List Lit:=if n > lo then [⟨1,k,n⟩] else []
def yj (k:Nat) (up n:Int):List Lit:=if n < up then [⟨2,k,n⟩] else []
theorem Gh (k:Nat) (lo n:Int):(atLeast k lo n).length≤1:=by unfold atLeast;split<;>simp
theorem JV (k:Nat) (up n:Int):(yj k up n).length≤1:=by unfold yj;split<;>simp
def zi (p:Proj) (b:Dom) (r:Rul) (k:Nat) (lo up:Int) (m:List Int):List Lit:=
 atLeast k lo (goUp (qo p b r 2 k) up (up+1 - lo).toNat lo)++yj k up (Bn (qo p b r 1 k) lo (up+1 - lo).toNat up)++
  (m.filter fun v=>decide (m.length > 1)&&qo p b r 3 k v).map fun v=>⟨4,k,v⟩
def nY (p:Proj) (b:Dom) (r:Rul) (k:Nat):List Lit:=
 match b.lo[k]?,b.hi[k]?,b.modes[k]? with
 |some lo,some up,some m=>zi p b r k lo up m
 |_,_,_=>[]
theorem Fp {p:Proj} {b:Dom} {r:Rul} {k:Nat} {a:aG} {x y:Int} {m:List Int} (g:dQ p b k a x y m):nY p b r k=zi p b r k x y m:=by
 simp only [nY,g.lo,g.hi,g.modes]
theorem YT {l:List Int} (h:l.Pairwise (· < ·)):∀{lo hi:Int},(∀x∈l,lo≤x∧x < hi)→lo≤hi→(l.length:Int)≤hi - lo:=by
 induction l with
 |nil=>intro lo hi _ h;simp;omega
 |cons x r ih=>
  intro lo hi hx _
  rw [List.pairwise_cons] at h
  have h1:=hx x (by simp)
  have:=ih h.2 (lo:=x+1) (hi:=hi) (fun y hy=>⟨by have:=h.1 y hy;omega,(hx y (by simp [hy])).2⟩) (by omega)
  simp only [List.length_cons];push_cast;omega
theorem QN {p:Proj} {b:Dom} {k:Nat} {a:aG} {x y:Int} {m:List Int} (g:dQ p b k a x y m):m.length≤3:=by
 have h2:=g.aok
 simp only [bC,Bool.and_eq_true,within_iff] at h2
 have:=YT (Dp g.mok) (lo:=0) (hi:=3) (fun x hx=>by
  obtain⟨j,rfl,hj⟩:=g.YR x hx
  omega) (by omega)
 omega
theorem Bo (p:Proj) (b:Dom) (r:Rul) (c:Int) (k:Nat) (n:Int) (hf:aC p b=true) (hro:fq p r=true) (hp:p.fine):Con 171 [.d p.av,.d b.av,.d r.av,.d (i64 c),.d (i64 k),.d (i64 n)] (.d (.bool (qo p b r c k n))):=by
 refine con Tryz.func171 rfl rfl Tryz.call171 rfl fun hwf=>?_
 have hfr:=jm hf ⟨c,k,n⟩
 (repeat' ((conv=>whnf);first|refine gA ?_|(refine gB ?_ ?_<;>intro h)|refine gC (ji b ⟨c,k,n⟩ (fun m hm=>rE hf hm)) ?_|refine gC (dw (restrict b ⟨c,k,n⟩)) ?_|refine gC (pU p (restrict b ⟨c,k,n⟩) r hfr hro) ?_|intro _))<;>try (conv=>whnf)
 all_goals (refine⟨?_,rfl,trivial⟩;simp [qo,refutes,hfr,hro, *])
theorem Ah (p:Proj) (b:Dom) (r:Rul) (k:Nat) (hp:p.fine) (hf:aC p b=true) (hro:fq p r=true) (hk:k < p.acts.length):Con 100 [.d p.av,.d b.av,.d r.av,.d (i64 k)] (.d (lits (nY p b r k))):=by
 refine con Tryz.func100 rfl rfl Tryz.call100 rfl fun hwf=>?_
 simp only [ARs.wf,AR.wf,AV.wf,AV.wfs,lm,lim] at hwf
 obtain⟨a,lo,up,m,g⟩:=eu hf hk
 rw [Fp g,zi]
 have hlo:=g.lob
 have hup:=g.hib
 have hm3:=QN g
 obtain⟨N,hN⟩:∃N,N=goUp (qo p b r 2 k) up (up+1 - lo).toNat lo:=⟨_,rfl⟩
 obtain⟨M,hM⟩:∃M,M=Bn (qo p b r 1 k) lo (up+1 - lo).toNat up:=⟨_,rfl⟩
 rw [← hN, ← hM]
 (repeat' ((conv=>whnf);first|with_reducible refine Idx.got g.lo rfl ?_|with_reducible refine Idx.got g.hi rfl ?_|with_reducible refine Idx.got g.modes rfl ?_|refine gA ?_|(refine gB ?_ ?_<;>intro h)|(refine gI ?_;intro x hx)|(refine gJ ?_;intro j x hj hx)|refine gP ?_|refine gV ?_|intro _))<;>try (conv=>whnf)
 refine aB [3,4,5,6,9] [4,5,6] [] ?_
 (conv=>whnf)
 refine aA.go ((Int)) (fun n=>(lo≤n)∧(n≤63)∧(goUp (qo p b r 2 k) up (up+1 - n).toNat n=N)) (fun n=>[(10,.data (i64 n))]) (fun _=>[]) (fun _=>[]) (fun n=>(up+1 - n).toNat) (lo) ?_ ?_
 ·exact⟨Int.le_refl _,by omega,hN.symm⟩
 rintro n ⟨hn,hn2,hi⟩
 (repeat' ((conv=>whnf);first|with_reducible refine Idx.got g.lo rfl ?_|with_reducible refine Idx.got g.hi rfl ?_|with_reducible refine Idx.got g.modes rfl ?_|refine gA ?_|(refine gB ?_ ?_<;>intro h)|(refine gI ?_;intro x hx)|(refine gJ ?_;intro j x hj hx)|refine gP ?_|refine gV ?_|refine gC (Bo p b r 2 k n hf hro hp) ?_|intro _))<;>try (conv=>whnf)
 ·refine nx (n+1) ?_
  exact⟨by omega,by omega,by rw [← XH (by assumption) (by assumption)];exact hi⟩
 all_goals
  have hoff:¬(n≤up∧qo p b r 2 k n=true):=by
   rintro⟨h1,h2⟩
   first|omega|(simp only [qo] at*;simp_all)
  rw [WM hoff] at hi
  subst hi
  clear hN hoff
  refine aB [3,4,5,6,9] [4,5,6] [] ?_
  (conv=>whnf)
  refine aA.go ((Int)) (fun q=>(q≤up)∧(-3≤q)∧(Bn (qo p b r 1 k) lo (q+1 - lo).toNat q=M)) (fun q=>[(10,.data (i64 q))]) (fun _=>[]) (fun _=>[]) (fun q=>(q+1 - lo).toNat) (up) ?_ ?_
  ·exact⟨Int.le_refl _,by omega,hM.symm⟩
  rintro q ⟨hq,hq2,hj⟩
  (repeat' ((conv=>whnf);first|with_reducible refine Idx.got g.lo rfl ?_|with_reducible refine Idx.got g.hi rfl ?_|with_reducible refine Idx.got g.modes rfl ?_|refine gA ?_|(refine gB ?_ ?_<;>intro h)|(refine gI ?_;intro x hx)|(refine gJ ?_;intro j x hj hx)|refine gP ?_|refine gV ?_|refine gC (Bo p b r 1 k q hf hro hp) ?_|intro _))<;>try (conv=>whnf)
  ·refine nx (q - 1) ?_
   exact⟨by omega,by omega,by rw [← XI (by assumption) (by assumption)];exact hj⟩
  all_goals
   have Yh:¬(q≥lo∧qo p b r 1 k q=true):=by
    rintro⟨h1,h2⟩
    first|omega|(simp only [qo] at*;simp_all)
   rw [WO Yh] at hj
   subst hj
   clear hM Yh
   refine aB [3,4,5,6,88,89] [4,5,6] [13] ?_
   (conv=>whnf)
   refine aA.mk ((Nat)×(List Lit)) (fun⟨j,o⟩=>(j≤m.length)∧(o.length≤2+j)∧(o=(atLeast k lo n++yj k up q)++((m.take j).filter fun v=>decide (m.length > 1)&&qo p b r 3 k v).map (fun v=>⟨4,k,v⟩))) (fun⟨j,o⟩=>[(90,.data (i64 j)),(9,.own 13 0)]) (fun _=>[]) (fun⟨j,o⟩=>[(13,82,o.map Lit.av,0)]) (fun⟨j,o⟩=>m.length - j) ⟨0,atLeast k lo n++yj k up q⟩ ?_ ?_ ?_
   rotate_left
   ·(repeat' ((conv=>whnf)<;>(first|exact trivial|exact rfl|with_reducible refine And.intro ?_ ?_)))<;>((conv=>whnf)<;>(simp [atLeast,yj,Lit.av, *]))
   rotate_left
   ·exact⟨Nat.zero_le _,by have h1:=Gh k lo n;have h2:=JV k up q;simp only [List.length_append];omega,by simp⟩
   rintro⟨j,o⟩ ⟨hj3,ol,ho⟩
   by_cases hlt:j < m.length
   ·obtain⟨v,hv⟩:∃v,m[j]? =some v:=⟨m[j]'hlt,by simp⟩
    (repeat' ((conv=>whnf);first|with_reducible refine Idx.got hv rfl ?_|with_reducible refine Idx.got g.lo rfl ?_|with_reducible refine Idx.got g.hi rfl ?_|with_reducible refine Idx.got g.modes rfl ?_|refine gA ?_|(refine gB ?_ ?_<;>intro h)|(refine gI ?_;intro x hx)|(refine gJ ?_;intro j x hj hx)|refine gP ?_|refine gV ?_|refine gC (Bo p b r 3 k v hf hro hp) ?_|intro _))<;>try (conv=>whnf)
    ·refine nw ⟨j+1,o++[⟨4,k,v⟩]⟩ ?_ ?_
     ·(repeat' ((conv=>whnf)<;>(first|exact trivial|exact rfl|with_reducible refine And.intro ?_ ?_)))<;>((conv=>whnf)<;>(simp [Lit.av]))
     have hml:m.length > 1:=by omega
     exact⟨by omega,by simp;omega,(lI ho hv).1 (by simp only [qo] at*;simp [*])⟩
    ·refine nx ⟨j+1,o⟩ ?_
     exact⟨by omega,by omega,(lI ho hv).2 (by simp only [qo] at*;simp [*])⟩
    ·refine nx ⟨j+1,o⟩ ?_
     have hml:¬ m.length > 1:=by omega
     exact⟨by omega,by omega,(lI ho hv).2 (by simp only [qo] at*;simp [*])⟩
    ·exfalso;omega
   ·(repeat' ((conv=>whnf);first|(exfalso;omega)|refine gA ?_|(refine gB ?_ ?_<;>intro h)|(refine gI ?_;intro x hx)|(refine gJ ?_;intro j x hj hx)|refine gP ?_|refine gV ?_|intro _))<;>try (conv=>whnf)
    all_goals (refine⟨?_,rfl,trivial⟩;rw [ho,List.take_of_length_le (by omega)])
end Go.Proofs.YtefgamefajmdkaaGreat.Abs
namespace Go.Proofs.YtefgamefajmdkaaGreat.Abs
open Go.Proofs
def DU (p:Proj) (b:Dom) (r:Rul) (a:Int):Option Infer:=(nY p b r a.toNat).head?.map fun l=>⟨l,r,(iJ p b r l).1⟩
def vS (p:Proj) (b:Dom) (r:Rul):Option Infer:=(je p r).findSome? (DU p b r)
def bG (p:Proj) (b:Dom):Option Infer:=if (fP p b).isSome=true then none else (iD p b).findSome? (vS p b)
def XJ:Infer:=⟨bf,Ov,[]⟩
def WQ (o:Option Infer):RV:=.tup [.d (o.getD XJ).av,.d (.bool o.isSome)]
theorem Ml {α β:Type} {f:α→Option β} {l:List α} {k:Nat} {x:α} (h:l[k]? =some x):(l.drop k).findSome? f=(match f x with|some y=>some y|none=>(l.drop (k+1)).findSome? f):=by
 rw [au h,List.findSome?_cons];cases f x<;>rfl
theorem DV {p:Proj} {b:Dom} (h:usable p b=true):aC p b=true:=(lJ h).1
theorem SF (p:Proj) (b:Dom) (r:Rul) (k:Nat) (hf:aC p b=true) (hk:k < p.acts.length):(nY p b r k).length≤5:=by
 obtain⟨a,x,y,m,g⟩:=eu hf hk
 rw [Fp g,zi]
 have h1:=Gh k x (goUp (qo p b r 2 k) y (y+1 - x).toNat x)
 have h2:=JV k y (Bn (qo p b r 1 k) x (y+1 - x).toNat y)
 have h3:=QN g
 have h4:=List.length_filter_le (fun v=>decide (m.length > 1)&&qo p b r 3 k v) m
 simp only [List.length_append,List.length_map];omega
theorem Ow (p:Proj) (r:Rul):(je p r).length≤200:=by
 unfold je
 split
 ·rename_i ho
  have hpo:aF p=true:=by simp only [fq,Bool.and_eq_true] at ho;exact ho.1
  have hna:=(dX hpo).KI
  split
  ·have:=iT [(gH p r.a).src,(gH p r.a).dst]
   simp only [List.length_cons,List.length_nil] at this;omega
  split
  ·simp
  split
  ·simp
  split
  ·exact DN _
  ·unfold users
   split
   ·have:=wH (sI p r.a) p.acts.length;omega
   ·simp
 ·simp
theorem zy (p:Proj) (b:Dom) (hp:p.fine):Con 36 [.d p.av,.d b.av] (WQ (bG p b)):=by
 refine con Tryz.func36 rfl rfl Tryz.call36 rfl fun hwf=>?_
 have hF:=zw p b hp
 cases hu:usable p b with
 |false=>
  have hc:iD p b= []:=by rw [iD,if_neg (by simp [hu])]
  have e:bG p b=none:=by rw [bG,hc];cases (fP p b).isSome<;>rfl
  rw [e]
  cases hn:(fP p b).isSome with
  |true=>
   rw [WK,hn] at hF
   (repeat' ((conv=>whnf);first|refine gA ?_|(refine gB ?_ ?_<;>intro h)|(refine gI ?_;intro x hx)|(refine gJ ?_;intro j x hj hx)|refine gV ?_|refine gC (hF) ?_|refine gC (nX p b hp) ?_|intro _))<;>try (conv=>whnf)
   exact fv
  |false=>
   rw [WK,hn] at hF
   (repeat' ((conv=>whnf);first|refine gA ?_|(refine gB ?_ ?_<;>intro h)|(refine gI ?_;intro x hx)|(refine gJ ?_;intro j x hj hx)|refine gV ?_|refine gC (hF) ?_|refine gC (nX p b hp) ?_|intro _))<;>try (conv=>whnf)
   exact fv
 |true=>
 cases hn:(fP p b).isSome with
 |true=>
  rw [bG,if_pos hn]
  rw [WK,hn] at hF
  (repeat' ((conv=>whnf);first|refine gA ?_|(refine gB ?_ ?_<;>intro h)|(refine gI ?_;intro x hx)|(refine gJ ?_;intro j x hj hx)|refine gV ?_|refine gC (hF) ?_|refine gC (nX p b hp) ?_|intro _))<;>try (conv=>whnf)
  exact fv
 |false=>
  rw [bG,if_neg (by simp [hn])]
  rw [WK,hn] at hF
  have hf:=DV hu
  have hcl:=Ag p b
  rw [iD,if_pos hu] at hcl
  rw [iD,if_pos hu]
  (repeat' ((conv=>whnf);first|refine gA ?_|(refine gB ?_ ?_<;>intro h)|(refine gI ?_;intro x hx)|(refine gJ ?_;intro j x hj hx)|refine gV ?_|refine gC (hF) ?_|refine gC (nX p b hp) ?_|refine gC (Gg p b hp hu) ?_|intro _))<;>try (conv=>whnf)
  refine aB [2,3,4,31,32] [2,3,4] [] ?_
  (conv=>whnf)
  refine aA.go ((Nat)) (fun k=>(k≤(fO p b).length)∧(((fO p b).drop k).findSome? (vS p b)=(fO p b).findSome? (vS p b))) (fun k=>[(33,.data (i64 k))]) (fun _=>[]) (fun _=>[]) (fun k=>(fO p b).length - k) (0) ?_ ?_
  ·exact⟨Nat.zero_le _,rfl⟩
  rintro k ⟨hk,hi⟩
  by_cases hlt:k < (fO p b).length
  rotate_left
  ·(repeat' ((conv=>whnf);first|(exfalso;omega)|refine gA ?_|(refine gB ?_ ?_<;>intro h)|(refine gI ?_;intro x hx)|(refine gJ ?_;intro j x hj hx)|refine gV ?_|intro _))<;>try (conv=>whnf)
   rw [aH (by assumption)] at hi
   rw [← hi]
   exact fv
  obtain⟨r,hr⟩:∃r,(fO p b)[k]? =some r:=⟨(fO p b)[k]'hlt,by simp⟩
  have hro:=Bl hu (List.mem_of_getElem? hr)
  have hal:=Ow p r
  rw [Ml hr] at hi
  (repeat' ((conv=>whnf);first|with_reducible refine Idx.got hr rfl ?_|refine gA ?_|(refine gB ?_ ?_<;>intro h)|(refine gI ?_;intro x hx)|(refine gJ ?_;intro j x hj hx)|refine gV ?_|refine gC (zu p r hp) ?_|intro _))<;>try (conv=>whnf)
  rotate_left
  ·exfalso;omega
  refine aB [2,3,4,9,31,32,33,39,40] [2,3,4,9] [] ?_
  (conv=>whnf)
  refine aA.go ((Nat)) (fun j=>(j≤(je p r).length)∧(((je p r).drop j).findSome? (DU p b r)=vS p b r)) (fun j=>[(41,.data (i64 j))]) (fun _=>[]) (fun _=>[]) (fun j=>(je p r).length - j) (0) ?_ ?_
  ·exact⟨Nat.zero_le _,rfl⟩
  rintro j ⟨hj,hi2⟩
  by_cases hjl:j < (je p r).length
  rotate_left
  ·rw [aH (by omega)] at hi2
   rw [← hi2] at hi
   (repeat' ((conv=>whnf);first|(exfalso;omega)|refine gA ?_|(refine gB ?_ ?_<;>intro h)|(refine gI ?_;intro x hx)|(refine gJ ?_;intro j x hj hx)|refine gV ?_|intro _))<;>try (conv=>whnf)
   refine nx (k+1) ?_
   exact⟨by omega,hi⟩
  obtain⟨a,ha⟩:∃a,(je p r)[j]? =some a:=⟨(je p r)[j]'hjl,by simp⟩
  obtain⟨n,rfl,hna⟩:=DT (List.mem_of_getElem? ha)
  have hil:=SF p b r n hf hna
  rw [Ml ha,DU,Int.toNat_natCast] at hi2
  by_cases h0:0 < (nY p b r n).length
  ·obtain⟨l,hx⟩:∃l,(nY p b r n)[0]? =some l:=⟨(nY p b r n)[0]'h0,by simp⟩
   have hh:(nY p b r n).head? =some l:=by rw [List.head?_eq_getElem?];exact hx
   rw [hh] at hi2
   have hi3:some (⟨l,r,(iJ p b r l).1⟩:Infer)=vS p b r:=hi2
   rw [← hi3] at hi
   have hi4:some (⟨l,r,(iJ p b r l).1⟩:Infer)=(fO p b).findSome? (vS p b):=hi
   rw [← hi4]
   (repeat' ((conv=>whnf);first|with_reducible refine Idx.got ha rfl ?_|with_reducible refine Idx.got hx rfl ?_|refine gA ?_|(refine gB ?_ ?_<;>intro h)|(refine gI ?_;intro x hx)|(refine gJ ?_;intro j x hj hx)|refine gV ?_|refine gC (Ah p b r n hp hf hro hna) ?_|refine gC (zx p b r l hp hf) ?_|intro _))<;>try (conv=>whnf)
   ·exact fv
   ·exfalso;omega
   ·exfalso;omega
  ·have hh:(nY p b r n).head? =none:=by rw [List.head?_eq_none_iff];exact List.eq_nil_of_length_eq_zero (by omega)
   rw [hh] at hi2
   (repeat' ((conv=>whnf);first|with_reducible refine Idx.got ha rfl ?_|(exfalso;omega)|refine gA ?_|(refine gB ?_ ?_<;>intro h)|(refine gI ?_;intro x hx)|(refine gJ ?_;intro j x hj hx)|refine gV ?_|refine gC (Ah p b r n hp hf hro hna) ?_|intro _))<;>try (conv=>whnf)
   refine nx (j+1) ?_
   exact⟨by omega,hi2⟩
end Go.Proofs.YtefgamefajmdkaaGreat.Abs
