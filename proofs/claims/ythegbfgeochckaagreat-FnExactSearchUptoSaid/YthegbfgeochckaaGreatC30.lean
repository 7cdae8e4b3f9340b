/- Part of a proof. -/
import Derived.Test.YthegbfgeochckaaGreatC28
import Derived.Test.YthegbfgeochckaaGreatC12
set_option linter.all false
set_option maxRecDepth 20000
set_option maxHeartbeats 0
namespace Go.Proofs.YthegbfgeochckaaGreat.Abs
open Go.Proofs
theorem GI {p:Proj} {b:Dom} (hu:usable p b=true) {r:Rul} (h:r∈iN p b):iZ p r=true:=by
 have hpo:=(bA (jH hu).1).1
 simp only [iN,jy,tC,List.mem_append,List.mem_map,List.mem_flatMap,List.mem_range] at h
 rcases h with (((⟨k,hk,rfl⟩|⟨k,hk,rfl⟩)|⟨k,hk,rfl⟩)|⟨i,hi,h⟩)|⟨i,hi,a,ha,h⟩
 ·have hw:within (k:Int) 0 ((p.links.length:Int) - 1)=true:=within_iff.2 (by omega)
  simp [iZ,jc,hpo,hw]
 ·have hw:dI p (k:Int)=true:=within_iff.2 (by omega)
  simp [iZ,endRule,hpo,hw]
 ·have hw:kV p (k:Int)=true:=within_iff.2 (by omega)
  simp [iZ,gL,hpo,hw]
 ·have hw:fM p (i:Int)=true:=within_iff.2 (by omega)
  obtain⟨x,hx⟩:∃x,p.aS[i]? =some x:=⟨p.aS[i]'hi,by simp⟩
  rw [Dh hx,List.mem_append,List.mem_map,List.mem_map] at h
  rcases h with⟨t,ht,rfl⟩|⟨q,hq,rfl⟩
  ·have:=(List.mem_filter.1 ht).2
   simp [iZ,Df,hpo,hw,this]
  ·obtain⟨u,v,rfl,h1,h2,h3⟩:=yQ hq
   simp [iZ,Jm,hpo,hw,h1,h2,h3]
 ·unfold dW at h
  split at h
  ·rename_i hm
   obtain⟨j,hj,rfl⟩:=List.mem_map.1 h
   have hj:=List.mem_range.1 hj
   have h1:dI p (a:Int)=true:=within_iff.2 (by omega)
   have h2:dI p ((a+1+j:Nat):Int)=true:=within_iff.2 (by omega)
   have h3:(a:Int) < ((a+1+j:Nat):Int):=by omega
   unfold iZ jd
   dsimp only
   rw [hpo,Bool.true_and,if_neg (by decide),if_neg (by decide),if_neg (by decide),if_neg (by decide),if_pos rfl]
   simp only [hm,h1,h2,decide_eq_true h3]
   rfl
  ·simp at h
theorem Jo {p:Proj} {b:Dom} {r:Rul} (h:r∈bf p b):usable p b=true/\iZ p r=true:=by
 unfold bf at h
 split at h
 ·rename_i hu
  exact⟨hu,GI hu h⟩
 ·simp at h
def Vl:Rul:=⟨0,0,0,0⟩
def eu (p:Proj) (b:Dom):Option Rul:=if aW p b=true/\jB b=true then some Vl else (bf p b).find? (refutes p b)
def MI (o:Option Rul):RV:=.tup [.d (o.getD Vl).av,.d (.bool o.isSome)]
theorem KN {α:Type} {f:α->Bool} {l:List α} {k:Nat} {x:α} (h:l[k]? =some x):(l.drop k).find? f=if f x=true then some x else (l.drop (k+1)).find? f:=by
 rw [aA h,List.find?_cons];cases f x<;>rfl
theorem uf (p:Proj) (b:Dom):(bf p b).length<=300:=by
 unfold bf
 split
 ·rename_i hu
  have hf:=(jH hu).1
  have hpo:=(bA hf).1
  have h1:=KL hpo
  have h2:=PG hpo
  have h3:=yP hf
  obtain⟨_,hr3,_,_⟩:=mW hpo
  obtain⟨_,l1,l2,l3,_⟩:=bA hf
  have hna:=(bX hpo).Cy
  have h4:∀i,(uJ p b i).length<=50:=fun i=>by
   unfold uJ
   split
   ·rename_i x hx
    have h5:=KM hpo hx
    have h6:=iI (b.hi++x.steps.map Step.at')
    have h7:=List.length_filter_le cu (setOf (b.hi++x.steps.map Step.at'))
    simp only [List.length_append,List.length_map] at h6
    simp only [AL,List.length_append,List.length_map];omega
   ·simp
  have h5:=qM (f:=uJ p b) (c:=50) (l:=List.range p.aS.length) fun i _=>h4 i
  simp only [List.length_range] at h5
  simp only [iN,List.length_append];omega
 ·simp
theorem vw (p:Proj) (b:Dom) (hp:p.fine):Con 164 [.d p.av,.d b.av] (MI (eu p b)):=by
 refine con Tryz.func164 rfl rfl Tryz.call164 rfl fun hwf=>?_
 have hl:=uf p b
 cases h1:aW p b with
 |false=>
  rw [eu,if_neg (by simp [h1])]
  (repeat' ((conv=>whnf);first|refine gA ?_|refine gC (bD p b hp) ?_|refine gC (pY p b hp) ?_|intro _))
  refine ay [2,3,4,18,19] [2,3,4] [] ?_
  (conv=>whnf)
  refine au.go ((Nat)) (fun k=>(k<=(bf p b).length)/\(((bf p b).drop k).find? (refutes p b)=(bf p b).find? (refutes p b))) (fun k=>[(20,.data (i64 k))]) lE lE (fun k=>(bf p b).length - k) (0) ?_ ?_
  ·exact⟨Nat.zero_le _,rfl⟩
  rintro k ⟨hk,hi⟩
  by_cases hlt:k < (bf p b).length
  ·obtain⟨r,hr⟩:∃r,(bf p b)[k]? =some r:=⟨(bf p b)[k]'hlt,by simp⟩
   rw [KN hr] at hi
   (repeat' ((conv=>whnf);first|with_reducible refine Idx.got hr rfl ?_|refine gAV ?_|(refine gB ?_ ?_<;>intro h)|refine gC (jE p b r hp) ?_|intro _))
   ·rw [if_pos (by assumption)] at hi
    rw [<- hi]
    exact fv
   ·refine nx (k+1) ?_
    rw [if_neg (by simp [*])] at hi
    exact⟨by omega,hi⟩
   ·exfalso;omega
  ·(repeat' ((conv=>whnf);first|(exfalso;omega)|(refine gB ?_ ?_<;>intro h)))
   rw [aG (by assumption)] at hi
   rw [<- hi]
   exact fv
 |true=>
 cases h2:jB b with
 |true=>
  rw [eu,if_pos ⟨h1,h2⟩]
  (repeat' ((conv=>whnf);first|refine gA ?_|refine gC (bD p b hp) ?_|refine gC (bP b) ?_|intro _))
  exact fv
 |false=>
  rw [eu,if_neg (by simp [h2])]
  (repeat' ((conv=>whnf);first|refine gA ?_|refine gC (bD p b hp) ?_|refine gC (bP b) ?_|refine gC (pY p b hp) ?_|intro _))
  refine ay [2,3,4,18,19] [2,3,4] [] ?_
  (conv=>whnf)
  refine au.go ((Nat)) (fun k=>(k<=(bf p b).length)/\(((bf p b).drop k).find? (refutes p b)=(bf p b).find? (refutes p b))) (fun k=>[(20,.data (i64 k))]) lE lE (fun k=>(bf p b).length - k) (0) ?_ ?_
  ·exact⟨Nat.zero_le _,rfl⟩
  rintro k ⟨hk,hi⟩
  by_cases hlt:k < (bf p b).length
  ·obtain⟨r,hr⟩:∃r,(bf p b)[k]? =some r:=⟨(bf p b)[k]'hlt,by simp⟩
   rw [KN hr] at hi
   (repeat' ((conv=>whnf);first|with_reducible refine Idx.got hr rfl ?_|refine gAV ?_|(refine gB ?_ ?_<;>intro h)|refine gC (jE p b r hp) ?_|intro _))
   ·rw [if_pos (by assumption)] at hi
    rw [<- hi]
    exact fv
   ·refine nx (k+1) ?_
    rw [if_neg (by simp [*])] at hi
    exact⟨by omega,hi⟩
   ·exfalso;omega
  ·(repeat' ((conv=>whnf);first|(exfalso;omega)|(refine gB ?_ ?_<;>intro h)))
   rw [aG (by assumption)] at hi
   rw [<- hi]
   exact fv
theorem Rf {p:Proj} {b:Dom} {r:Rul} (hu:usable p b=true) (ho:iZ p r=true):refutes p b r=fails p b r:=by
 obtain⟨h1,h2⟩:=jH hu
 simp [refutes,h1,h2,ho]
theorem vB (p:Proj) (b:Dom) (hp:p.fine):Con 126 [.d p.av,.d b.av] (MI (eu p b)):=by
 refine con Tryz.func126 rfl rfl Tryz.call126 rfl fun hwf=>?_
 cases h1:aW p b with
 |false=>
  have e:eu p b=none:=by
   rw [eu,if_neg (by simp [h1]),bf,if_neg (by simp [usable,h1])];rfl
  rw [e]
  (repeat' ((conv=>whnf);first|refine gA ?_|refine gC (dH p b hp) ?_|intro _))
  exact fv
 |true=>
 cases h2:jB b with
 |true=>
  rw [eu,if_pos ⟨h1,h2⟩]
  (repeat' ((conv=>whnf);first|refine gA ?_|refine gC (dH p b hp) ?_|refine gC (fq b) ?_|intro _))
  exact fv
 |false=>
  have hu:usable p b=true:=by simp [usable,h1,h2]
  have hl:=uf p b
  rw [bf,if_pos hu] at hl
  rw [eu,if_neg (by simp [h2]),bf,if_pos hu]
  (repeat' ((conv=>whnf);first|refine gA ?_|refine gC (dH p b hp) ?_|refine gC (fq b) ?_|refine gC (LV p b hp hu) ?_|intro _))
  refine ay [2,3,4,18,19] [2,3,4] [] ?_
  (conv=>whnf)
  refine au.go ((Nat)) (fun k=>(k<=(iN p b).length)/\(((iN p b).drop k).find? (refutes p b)=(iN p b).find? (refutes p b))) (fun k=>[(20,.data (i64 k))]) lE lE (fun k=>(iN p b).length - k) (0) ?_ ?_
  ·exact⟨Nat.zero_le _,rfl⟩
  rintro k ⟨hk,hi⟩
  by_cases hlt:k < (iN p b).length
  ·obtain⟨r,hr⟩:∃r,(iN p b)[k]? =some r:=⟨(iN p b)[k]'hlt,by simp⟩
   have hro:=GI hu (List.mem_of_getElem? hr)
   rw [KN hr,Rf hu hro] at hi
   (repeat' ((conv=>whnf);first|with_reducible refine Idx.got hr rfl ?_|refine gAV ?_|(refine gB ?_ ?_<;>intro h)|refine gC (uV p b r h1 hro) ?_|intro _))
   ·rw [if_pos (by assumption)] at hi
    rw [<- hi]
    exact fv
   ·refine nx (k+1) ?_
    rw [if_neg (by simp [*])] at hi
    exact⟨by omega,hi⟩
   ·exfalso;omega
  ·(repeat' ((conv=>whnf);first|(exfalso;omega)|(refine gB ?_ ?_<;>intro h)))
   rw [aG (by assumption)] at hi
   rw [<- hi]
   exact fv
def iT (p:Proj) (b:Dom) (r:Rul) (l:Lit):List Lit×Bool:=
 if qZ p l=true/\refutes p (restrict b (negate l)) r=true then (mE p r (fun x=>aY x l) (bJ (qU p b++[l])),true) else ([],false)
def air (r:List Lit×Bool):RV:=.tup [.fr (r.1.map Lit.av),.d (.bool r.2)]
def agL (r:List Lit×Bool):RV:=.tup [.d (lits r.1),.d (.bool r.2)]
theorem Di (x l:Lit):Con 292 [.d x.av,.ref l.av] (.d (.bool (aY x l))):=by
 refine con Tryz.func292 rfl rfl Tryz.call292 rfl fun hwf=>?_
 try (conv=>whnf)
 all_goals exact⟨by simp [aY],rfl,trivial⟩
theorem XQ (p:Proj) (b:Dom):(qU p b).length<=1212:=by rw [qU,List.length_map];exact CZ p b
theorem ED (p:Proj) (b:Dom) (r:Rul) (l:Lit) (hp:p.fine):Con 237 [.d p.av,.d b.av,.d r.av,.d l.av] (air (iT p b r l)):=by
 refine con Tryz.func237 rfl rfl Tryz.call237 rfl fun hwf=>?_
 have hnl:=XQ p b
 have hN:=jX (qU p b++[l])
 rw [lits,List.map_append] at hN
 (repeat' ((conv=>whnf);first|refine gAP ?_|(refine gB ?_ ?_<;>intro h)|refine gC (rF p l hp) ?_|refine gC (iK l) ?_|refine gC (fP b (negate l)) ?_|refine gC (jE p (restrict b (negate l)) r hp) ?_|refine gC (Da p b hp) ?_|refine gC hN ?_|refine gC (Pe p r (bJ (qU p b++[l])) 292 [l.av] _ hp (fun x=>Di x l)) ?_|intro _))
 ·rw [iT,if_pos ⟨by assumption,by assumption⟩]
  exact fv
 ·rw [iT,if_neg (by simp [*])]
  exact fv
 ·rw [iT,if_neg (by simp [*])]
  exact fv
theorem rP {p:Proj} {b:Dom} (h:aW p b=true) {n:Nat} {m:List Int} (hm:b.modes[n]? =some m):jU m=true:=by
 have hn:=(List.getElem?_eq_some_iff.1 hm).1
 obtain⟨_,l1,l2,l3,_⟩:=bA h
 obtain⟨a,x,y,m',g⟩:=dN h (show n < p.acts.length by omega)
 have:=g.modes
 rw [hm] at this
 cases this
 exact g.mok
theorem acg {l:List Lit} {k:Nat} {x:Lit} (h:l[k]? =some x):GA l (k:Int)=x:=by
 have hk:=(List.getElem?_eq_some_iff.1 h).1
 exact Tg (within_iff.2 (by omega)) (by rw [Int.toNat_natCast];exact h)
theorem EF (p:Proj) (b:Dom) (r:Rul) (l:Lit) (hp:p.fine) (hf:aW p b=true):Con 210 [.d p.av,.d b.av,.d r.av,.d l.av] (agL (iT p b r l)):=by
 refine con Tryz.func210 rfl rfl Tryz.call210 rfl fun hwf=>?_
 have hpo:=(bA hf).1
 have hnl:=XQ p b
 have hs:∀m,b.modes[(negate l).act.toNat]? =some m->jU m=true:=fun m hm=>rP hf hm
 have hN:=wY (qU p b++[l])
 rw [lits,List.map_append] at hN
 have hcl:=FD (qU p b++[l])
 simp only [List.length_append,List.length_cons,List.length_nil] at hcl
 have hmem:l∈bJ (qU p b++[l]):=by rw [(sZ _).2];simp
 by_cases hc:qZ p l=true/\refutes p (restrict b (negate l)) r=true
 ·obtain⟨h1,h2⟩:=hc
  (repeat' ((conv=>whnf);first|refine gAX ?_|refine gC (oh p l hp) ?_|refine gC (qL l) ?_|refine gC (jL b (negate l) hs) ?_|refine gC (mR p (restrict b (negate l)) r hp) ?_|refine gC (wZ p b hp) ?_|refine gC hN ?_|intro _))
  refine ay [4,6,7,10,35,36] [4,6,7] [] ?_
  (conv=>whnf)
  refine au.go ((Nat)×(Nat)) (fun⟨k,j⟩=>(k<=(bJ (qU p b++[l])).length)/\(j<=k)/\(l∈(bJ (qU p b++[l])).take k->(bJ (qU p b++[l]))[j]? =some l)) (fun⟨k,j⟩=>[(37,.data (i64 k)),(11,.data (i64 j))]) lE lE (fun⟨k,j⟩=>(bJ (qU p b++[l])).length - k) ⟨0,0⟩ ?_ ?_
  ·exact⟨Nat.zero_le _,Nat.le_refl _,by simp⟩
  rintro⟨k,j⟩ ⟨hk,hj,hi⟩
  by_cases hlt:k < (bJ (qU p b++[l])).length
  ·obtain⟨x,hx⟩:∃x,(bJ (qU p b++[l]))[k]? =some x:=⟨(bJ (qU p b++[l]))[k]'hlt,by simp⟩
   (repeat' ((conv=>whnf);first|with_reducible refine Idx.got hx rfl ?_|refine gA ?_|(refine gB ?_ ?_<;>intro h)))
   ·refine nx ⟨k+1,k⟩ ?_
    have e:x=l:=gH.1 (jw (by assumption))
    exact⟨by omega,by omega,fun _=>by rw [hx,e]⟩
   ·refine nx ⟨k+1,j⟩ ?_
    refine⟨by omega,by omega,fun hm=>hi ?_⟩
    obtain⟨hk',hx'⟩:=List.getElem?_eq_some_iff.1 hx
    rw [List.take_succ_eq_append_getElem hk',List.mem_append,List.mem_singleton,hx'] at hm
    rcases hm with hm|hm
    ·exact hm
    ·have hne:=jw (by assumption)
     rw [gH.2 hm.symm] at hne
     cases hne
   ·exfalso;omega
  ·have hj2:=hi (by rw [List.take_of_length_le (by omega)];exact hmem)
   have hS:=FE p r (bJ (qU p b++[l])) j hp hpo
   rw [acg hj2] at hS
   (repeat' ((conv=>whnf);first|(exfalso;omega)|refine gA ?_|(refine gB ?_ ?_<;>intro h)|refine gC hS ?_|intro _))
   rw [iT,if_pos ⟨h1,h2⟩]
   exact fv
 ·(repeat' ((conv=>whnf);first|refine gAX ?_|(refine gB ?_ ?_<;>intro h)|refine gC (oh p l hp) ?_|refine gC (qL l) ?_|refine gC (jL b (negate l) hs) ?_|refine gC (mR p (restrict b (negate l)) r hp) ?_|refine gC (wZ p b hp) ?_|refine gC hN ?_|intro _))
  ·exact absurd ⟨by assumption,by assumption⟩ hc
  ·rw [iT,if_neg hc]
   exact fv
  ·rw [iT,if_neg hc]
   exact fv
open Go.Proofs
theorem Tn {p:Proj} {r:Int} {a:Int} (h:a∈users p r):∃k:Nat,a=k/\k < p.acts.length:=by
 unfold users at h
 split at h
 ·have h1:=(List.mem_filter.1 h).1
  simp only [upTo,List.mem_map,List.mem_range] at h1
  obtain⟨k,hk,rfl⟩:=h1
  exact⟨k,rfl,hk⟩
 ·simp at h
theorem zI {p:Proj} {a:Int} (h:dI p a=true):∃k:Nat,a=k/\k < p.acts.length:=by
 obtain⟨n,x,h1,h2⟩:=jr h
 exact⟨n,h1,(List.getElem?_eq_some_iff.1 h2).1⟩
theorem Jp {p:Proj} {r:Rul} {a:Int} (h:a∈eP p r):∃k:Nat,a=k/\k < p.acts.length:=by
 unfold eP at h
 split at h
 ·rename_i ho
  have hpo:bI p=true:=by simp only [iZ,Bool.and_eq_true] at ho;exact ho.1
  cases CK ho with
  |link hk k l e1 hl=>
   rw [if_pos hk,KE] at h
   have e:pV p r.a=l:=by simp [pV,e1,List.getD_eq_getElem?_getD,hl]
   rw [e] at h
   have hlo:=(bX hpo).link k l hl
   simp only [nM,Bool.and_eq_true] at hlo
   simp only [List.mem_cons,List.not_mem_nil,or_false] at h
   rcases h with rfl|rfl
   ·exact zI hlo.1.1.1
   ·exact zI hlo.1.1.2
  |fin hk ha=>
   simp [hk] at h
   subst h
   exact zI ha
  |time hk ha hb=>simp [hk] at h;exact Tn h
  |work hk ha hb hc hlt=>simp [hk] at h;exact Tn h
  |pair hk ha hb hc hlt=>
   simp [hk] at h
   rcases h with rfl|rfl
   ·exact zI hb
   ·exact zI hc
  |Cz hk ha=>simp [hk] at h;exact Ak h
 ·simp at h
def qo (p:Proj) (b:Dom) (r:Rul) (k:Int) (a:Nat) (n:Int):Bool:=refutes p (restrict b ⟨k,a,n⟩) r
def goUp (f:Int->Bool) (hi:Int):Nat->Int->Int
 |0,n=>n
 |k+1,n=>if n<=hi/\f n=true then goUp f hi k (n+1) else n
def MJ (f:Int->Bool) (lo:Int):Nat->Int->Int
 |0,n=>n
 |k+1,n=>if n>=lo/\f n=true then MJ f lo k (n - 1) else n
theorem abd {f:Int->Bool} {hi n:Int} (h:n<=hi) (hf:f n=true):goUp f hi (hi+1 - n).toNat n=goUp f hi (hi+1 - (n+1)).toNat (n+1):=by
 obtain⟨m,hm⟩:∃m,(hi+1 - n).toNat=m+1:=⟨(hi - n).toNat,by omega⟩
 rw [hm,goUp,if_pos ⟨h,hf⟩,show (hi+1 - (n+1)).toNat=m by omega]
theorem XR {f:Int->Bool} {hi n:Int} (h:¬(n<=hi/\f n=true)):∀k,goUp f hi k n=n
 |0=>rfl
 |k+1=>by rw [goUp,if_neg h]
theorem abe {f:Int->Bool} {lo n:Int} (h:n>=lo) (hf:f n=true):MJ f lo (n+1 - lo).toNat n=MJ f lo (n - 1+1 - lo).toNat (n - 1):=by
 obtain⟨m,hm⟩:∃m,(n+1 - lo).toNat=m+1:=⟨(n - lo).toNat,by omega⟩
 rw [hm,MJ,if_pos ⟨h,hf⟩,show (n - 1+1 - lo).toNat=m by omega]
theorem XT {f:Int->Bool} {lo n:Int} (h:¬(n>=lo/\f n=true)):∀k,MJ f lo k n=n
 |0=>rfl
 |k+1=>by rw [MJ,if_neg h]
def atLeast (k:Nat) (lo n:Int):List Lit:=if n > lo then [⟨1,k,n⟩] else []
def yR (k:Nat) (up n:Int):List Lit:=if n < up then [⟨2,k,n⟩] else []
theorem Dj (k:Nat) (lo n:Int):(atLeast k lo n).length<=1:=by unfold atLeast;split<;>simp
theorem GJ (k:Nat) (up n:Int):(yR k up n).length<=1:=by unfold yR;split<;>simp
def Ef (p:Proj) (b:Dom) (r:Rul) (k:Nat) (lo up:Int) (m:List Int):List Lit:=
 atLeast k lo (goUp (qo p b r 2 k) up (up+1 - lo).toNat lo)++yR k up (MJ (qo p b r 1 k) lo (up+1 - lo).toNat up)++
  (m.filter fun v=>decide (m.length > 1)&&qo p b r 3 k v).map fun v=>⟨4,k,v⟩
def oH (p:Proj) (b:Dom) (r:Rul) (k:Nat):List Lit:=
 match b.lo[k]?,b.hi[k]?,b.modes[k]? with
 |some lo,some up,some m=>Ef p b r k lo up m
 |_,_,_=>[]
theorem KO {p:Proj} {b:Dom} {r:Rul} {k:Nat} {a:aB} {x y:Int} {m:List Int} (g:eG p b k a x y m):oH p b r k=Ef p b r k x y m:=by
 simp only [oH,g.lo,g.hi,g.modes]
theorem agM {l:List Int} (h:l.Pairwise (· < ·)):∀{lo hi:Int},(∀x∈l,lo<=x/\x < hi)->lo<=hi->(l.length:Int)<=hi - lo:=by
 induction l with
 |nil=>intro lo hi _ h;simp;omega
 |cons x r ih=>
  intro lo hi hx _
  rw [List.pairwise_cons] at h
  have h1:=hx x (by simp)
  have:=ih h.2 (lo:=x+1) (hi:=hi) (fun y hy=>⟨by have:=h.1 y hy;omega,(hx y (by simp [hy])).2⟩) (by omega)
  simp only [List.length_cons];push_cast;omega
theorem PK {p:Proj} {b:Dom} {k:Nat} {a:aB} {x y:Int} {m:List Int} (g:eG p b k a x y m):m.length<=3:=by
 have h2:=g.aok
 simp only [dV,Bool.and_eq_true,within_iff] at h2
 have:=agM (IJ g.mok) (lo:=0) (hi:=3) (fun x hx=>by
  obtain⟨j,rfl,hj⟩:=g.aeP x hx
  omega) (by omega)
 omega
theorem GK (p:Proj) (b:Dom) (r:Rul) (c:Int) (k:Nat) (n:Int) (hf:aW p b=true) (hro:iZ p r=true) (hp:p.fine):Con 264 [.d p.av,.d b.av,.d r.av,.d (i64 c),.d (i64 k),.d (i64 n)] (.d (.bool (qo p b r c k n))):=by
 refine con Tryz.func264 rfl rfl Tryz.call264 rfl fun hwf=>?_
 have hfr:=Fx hf ⟨c,k,n⟩
 (repeat' ((conv=>whnf);first|refine gA ?_|(refine gB ?_ ?_<;>intro h)|refine gC (jL b ⟨c,k,n⟩ (fun m hm=>rP hf hm)) ?_|refine gC (fq (restrict b ⟨c,k,n⟩)) ?_|refine gC (uV p (restrict b ⟨c,k,n⟩) r hfr hro) ?_|intro _))
 all_goals (refine⟨?_,rfl,trivial⟩;simp [qo,refutes,hfr,hro, *])
theorem Rh (p:Proj) (b:Dom) (r:Rul) (k:Nat) (hp:p.fine) (hf:aW p b=true) (hk:k < p.acts.length):Con 236 [.d p.av,.d b.av,.d r.av,.d (i64 k)] (.d (lits (oH p b r k))):=by
 refine con Tryz.func236 rfl rfl Tryz.call236 rfl fun hwf=>?_
 obtain⟨a,lo,up,m,g⟩:=dN hf hk
 rw [KO g,Ef]
 have hlo:=g.lob
 have hup:=g.hib
 have hm3:=PK g
 obtain⟨N,hN⟩:∃N,N=goUp (qo p b r 2 k) up (up+1 - lo).toNat lo:=⟨_,rfl⟩
 obtain⟨M,hM⟩:∃M,M=MJ (qo p b r 1 k) lo (up+1 - lo).toNat up:=⟨_,rfl⟩
 rw [<- hN, <- hM]
 (repeat' ((conv=>whnf);first|with_reducible refine Idx.got g.lo rfl ?_))
 refine ay [3,4,5,6,9] [4,5,6] [] ?_
 (conv=>whnf)
 refine au.go ((Int)) (fun n=>(lo<=n)/\(n<=63)/\(goUp (qo p b r 2 k) up (up+1 - n).toNat n=N)) (fun n=>[(10,.data (i64 n))]) lE lE (fun n=>(up+1 - n).toNat) (lo) ?_ ?_
 ·exact⟨Int.le_refl _,by omega,hN.symm⟩
 rintro n ⟨hn,hn2,hi⟩
 (repeat' ((conv=>whnf);first|(with_reducible first|refine Idx.got g.lo rfl ?_|refine Idx.got g.hi rfl ?_)|refine gAX ?_|(refine gB ?_ ?_<;>intro h)|refine gC (fP b ⟨2,k,n⟩) ?_|refine gC (jE p (restrict b ⟨2,k,n⟩) r hp) ?_|intro _))
 ·refine nx (n+1) ?_
  exact⟨by omega,by omega,by rw [<- abd (by assumption) (by assumption)];exact hi⟩
 all_goals
  have hoff:¬(n<=up/\qo p b r 2 k n=true):=by
   rintro⟨h1,h2⟩
   first|omega|(simp only [qo] at*;simp_all)
  rw [XR hoff] at hi
  subst hi
  clear hN hoff
  refine ay [3,4,5,6,9] [4,5,6] [] ?_
  (conv=>whnf)
  refine au.go ((Int)) (fun q=>(q<=up)/\(-3<=q)/\(MJ (qo p b r 1 k) lo (q+1 - lo).toNat q=M)) (fun q=>[(10,.data (i64 q))]) lE lE (fun q=>(q+1 - lo).toNat) (up) ?_ ?_
  ·exact⟨Int.le_refl _,by omega,hM.symm⟩
  rintro q ⟨hq,hq2,hj⟩
  (repeat' ((conv=>whnf);first|(with_reducible first|refine Idx.got g.lo rfl ?_|refine Idx.got g.hi rfl ?_|refine Idx.got g.modes rfl ?_)|refine gAX ?_|(refine gB ?_ ?_<;>intro h)|refine gC (fP b ⟨1,k,q⟩) ?_|refine gC (jE p (restrict b ⟨1,k,q⟩) r hp) ?_|intro _))
  ·refine nx (q - 1) ?_
   exact⟨by omega,by omega,by rw [<- abe (by assumption) (by assumption)];exact hj⟩
  all_goals
   have XU:¬(q>=lo/\qo p b r 1 k q=true):=by
    rintro⟨h1,h2⟩
    first|omega|(simp only [qo] at*;simp_all)
   rw [XT XU] at hj
   subst hj
   clear hM XU
   refine ay [3,4,5,6,92,93] [4,5,6] [13] ?_
   (conv=>whnf)
   refine au.mk ((Nat)×(List Lit)) (fun⟨j,o⟩=>(j<=m.length)/\(o.length<=2+j)/\(o=(atLeast k lo n++yR k up q)++((m.take j).filter fun v=>decide (m.length > 1)&&qo p b r 3 k v).map (fun v=>⟨4,k,v⟩))) (fun⟨j,o⟩=>[(94,.data (i64 j)),(9,.own 13 0)]) lE (fun⟨j,o⟩=>[(13,102,o.map Lit.av,0)]) (fun⟨j,o⟩=>m.length - j) ⟨0,atLeast k lo n++yR k up q⟩ ?_ ?_ ?_
   rotate_left
   ·(repeat' ((conv=>whnf)<;>(first|exact trivial|exact rfl|with_reducible refine And.intro ?_ ?_)))<;>((conv=>whnf)<;>(simp [atLeast,yR,Lit.av, *]))
   rotate_left
   ·exact⟨Nat.zero_le _,by have h1:=Dj k lo n;have h2:=GJ k up q;simp only [List.length_append];omega,by simp⟩
   rintro⟨j,o⟩ ⟨hj3,ol,ho⟩
   by_cases hlt:j < m.length
   ·obtain⟨v,hv⟩:∃v,m[j]? =some v:=⟨m[j]'hlt,by simp⟩
    (repeat' ((conv=>whnf);first|(with_reducible first|refine Idx.got hv rfl ?_|refine Idx.got g.modes rfl ?_)|refine gAX ?_|(refine gB ?_ ?_<;>intro h)|refine gC (fP b ⟨3,k,v⟩) ?_|refine gC (jE p (restrict b ⟨3,k,v⟩) r hp) ?_|intro _))
    ·refine nwL ⟨j+1,o++[⟨4,k,v⟩]⟩ ?_
     have hml:m.length > 1:=by omega
     exact⟨by omega,by simp;omega,(fI ho hv).1 (by simp only [qo] at*;simp [*])⟩
    ·refine nx ⟨j+1,o⟩ ?_
     exact⟨by omega,by omega,(fI ho hv).2 (by simp only [qo] at*;simp [*])⟩
    ·refine nx ⟨j+1,o⟩ ?_
     have hml:¬ m.length > 1:=by omega
     exact⟨by omega,by omega,(fI ho hv).2 (by simp only [qo] at*;simp [*])⟩
    ·exfalso;omega
   ·(repeat' ((conv=>whnf);first|(exfalso;omega)|(refine gB ?_ ?_<;>intro h)))
    all_goals (refine⟨?_,rfl,trivial⟩;rw [ho,List.take_of_length_le (by omega)])
theorem FH (p:Proj) (b:Dom) (r:Rul) (k:Nat) (hp:p.fine) (hf:aW p b=true) (hro:iZ p r=true) (hk:k < p.acts.length):Con 209 [.d p.av,.d b.av,.d r.av,.d (i64 k)] (.d (lits (oH p b r k))):=by
 refine con Tryz.func209 rfl rfl Tryz.call209 rfl fun hwf=>?_
 obtain⟨a,lo,up,m,g⟩:=dN hf hk
 rw [KO g,Ef]
 have hlo:=g.lob
 have hup:=g.hib
 have hm3:=PK g
 obtain⟨N,hN⟩:∃N,N=goUp (qo p b r 2 k) up (up+1 - lo).toNat lo:=⟨_,rfl⟩
 obtain⟨M,hM⟩:∃M,M=MJ (qo p b r 1 k) lo (up+1 - lo).toNat up:=⟨_,rfl⟩
 rw [<- hN, <- hM]
 (repeat' ((conv=>whnf);first|with_reducible refine Idx.got g.lo rfl ?_))
 refine ay [3,4,5,6,9] [4,5,6] [] ?_
 (conv=>whnf)
 refine au.go ((Int)) (fun n=>(lo<=n)/\(n<=63)/\(goUp (qo p b r 2 k) up (up+1 - n).toNat n=N)) (fun n=>[(10,.data (i64 n))]) lE lE (fun n=>(up+1 - n).toNat) (lo) ?_ ?_
 ·exact⟨Int.le_refl _,by omega,hN.symm⟩
 rintro n ⟨hn,hn2,hi⟩
 (repeat' ((conv=>whnf);first|(with_reducible first|refine Idx.got g.lo rfl ?_|refine Idx.got g.hi rfl ?_)|refine gAX ?_|(refine gB ?_ ?_<;>intro h)|refine gC (GK p b r 2 k n hf hro hp) ?_|intro _))
 ·refine nx (n+1) ?_
  exact⟨by omega,by omega,by rw [<- abd (by assumption) (by assumption)];exact hi⟩
 all_goals
  have hoff:¬(n<=up/\qo p b r 2 k n=true):=by
   rintro⟨h1,h2⟩
   first|omega|(simp only [qo] at*;simp_all)
  rw [XR hoff] at hi
  subst hi
  clear hN hoff
  refine ay [3,4,5,6,9] [4,5,6] [] ?_
  (conv=>whnf)
  refine au.go ((Int)) (fun q=>(q<=up)/\(-3<=q)/\(MJ (qo p b r 1 k) lo (q+1 - lo).toNat q=M)) (fun q=>[(10,.data (i64 q))]) lE lE (fun q=>(q+1 - lo).toNat) (up) ?_ ?_
  ·exact⟨Int.le_refl _,by omega,hM.symm⟩
  rintro q ⟨hq,hq2,hj⟩
  (repeat' ((conv=>whnf);first|(with_reducible first|refine Idx.got g.lo rfl ?_|refine Idx.got g.hi rfl ?_|refine Idx.got g.modes rfl ?_)|refine gAX ?_|(refine gB ?_ ?_<;>intro h)|refine gC (GK p b r 1 k q hf hro hp) ?_|intro _))
  ·refine nx (q - 1) ?_
   exact⟨by omega,by omega,by rw [<- abe (by assumption) (by assumption)];exact hj⟩
  all_goals
   have XU:¬(q>=lo/\qo p b r 1 k q=true):=by
    rintro⟨h1,h2⟩
    first|omega|(simp only [qo] at*;simp_all)
   rw [XT XU] at hj
   subst hj
   clear hM XU
   refine ay [3,4,5,6,88,89] [4,5,6] [13] ?_
   (conv=>whnf)
   refine au.mk ((Nat)×(List Lit)) (fun⟨j,o⟩=>(j<=m.length)/\(o.length<=2+j)/\(o=(atLeast k lo n++yR k up q)++((m.take j).filter fun v=>decide (m.length > 1)&&qo p b r 3 k v).map (fun v=>⟨4,k,v⟩))) (fun⟨j,o⟩=>[(90,.data (i64 j)),(9,.own 13 0)]) lE (fun⟨j,o⟩=>[(13,102,o.map Lit.av,0)]) (fun⟨j,o⟩=>m.length - j) ⟨0,atLeast k lo n++yR k up q⟩ ?_ ?_ ?_
   rotate_left
   ·(repeat' ((conv=>whnf)<;>(first|exact trivial|exact rfl|with_reducible refine And.intro ?_ ?_)))<;>((conv=>whnf)<;>(simp [atLeast,yR,Lit.av, *]))
   rotate_left
   ·exact⟨Nat.zero_le _,by have h1:=Dj k lo n;have h2:=GJ k up q;simp only [List.length_append];omega,by simp⟩
   rintro⟨j,o⟩ ⟨hj3,ol,ho⟩
   by_cases hlt:j < m.length
   ·obtain⟨v,hv⟩:∃v,m[j]? =some v:=⟨m[j]'hlt,by simp⟩
    (repeat' ((conv=>whnf);first|(with_reducible first|refine Idx.got hv rfl ?_|refine Idx.got g.modes rfl ?_)|refine gAX ?_|(refine gB ?_ ?_<;>intro h)|refine gC (GK p b r 3 k v hf hro hp) ?_|intro _))
    ·refine nwL ⟨j+1,o++[⟨4,k,v⟩]⟩ ?_
     have hml:m.length > 1:=by omega
     exact⟨by omega,by simp;omega,(fI ho hv).1 (by simp only [qo] at*;simp [*])⟩
    ·refine nx ⟨j+1,o⟩ ?_
     exact⟨by omega,by omega,(fI ho hv).2 (by simp only [qo] at*;simp [*])⟩
    ·refine nx ⟨j+1,o⟩ ?_
     have hml:¬ m.length > 1:=by omega
     exact⟨by omega,by omega,(fI ho hv).2 (by simp only [qo] at*;simp [*])⟩
    ·exfalso;omega
   ·(repeat' ((conv=>whnf);first|(exfalso;omega)|(refine gB ?_ ?_<;>intro h)))
    all_goals (refine⟨?_,rfl,trivial⟩;rw [ho,List.take_of_length_le (by omega)])
end Go.Proofs.YthegbfgeochckaaGreat.Abs
namespace Go.Proofs.YthegbfgeochckaaGreat.Abs
open Go.Proofs
def Eh (p:Proj) (b:Dom) (r:Rul) (a:Int):Option Infer:=(oH p b r a.toNat).head?.map fun l=>⟨l,r,(iT p b r l).1⟩
def rQ (p:Proj) (b:Dom) (r:Rul):Option Infer:=(eP p r).findSome? (Eh p b r)
def dS (p:Proj) (b:Dom):Option Infer:=if (eu p b).isSome=true then none else (bf p b).findSome? (rQ p b)
def abf:Infer:=⟨bL,Vl,[]⟩
def agN (o:Option Infer):RV:=let x:=o.getD abf;.tup [.agg [.d (i64 x.lit.kind),.d (i64 x.lit.act),.d (i64 x.lit.val),.d (i64 x.rule.kind),.d (i64 x.rule.a),.d (i64 x.rule.b),.d (i64 x.rule.c),.fr (x.clause.map Lit.av)],.d (.bool o.isSome)]
def adW (o:Option Infer):RV:=.tup [.d (o.getD abf).av,.d (.bool o.isSome)]
theorem Ei {α β:Type} {f:α->Option β} {l:List α} {k:Nat} {x:α} (h:l[k]? =some x):(l.drop k).findSome? f=(match f x with|some y=>some y|none=>(l.drop (k+1)).findSome? f):=by
 rw [aA h,List.findSome?_cons];cases f x<;>rfl
theorem AO {p:Proj} {b:Dom} (h:usable p b=true):aW p b=true:=(jH h).1
theorem PL (p:Proj) (b:Dom) (r:Rul) (k:Nat) (hf:aW p b=true) (hk:k < p.acts.length):(oH p b r k).length<=5:=by
 obtain⟨a,x,y,m,g⟩:=dN hf hk
 rw [KO g,Ef]
 have h1:=Dj k x (goUp (qo p b r 2 k) y (y+1 - x).toNat x)
 have h2:=GJ k y (MJ (qo p b r 1 k) x (y+1 - x).toNat y)
 have h3:=PK g
 have h4:=List.length_filter_le (fun v=>decide (m.length > 1)&&qo p b r 3 k v) m
 simp only [List.length_append,List.length_map];omega
theorem Jq (p:Proj) (r:Rul):(eP p r).length<=200:=by
 unfold eP
 split
 ·rename_i ho
  have hpo:bI p=true:=by simp only [iZ,Bool.and_eq_true] at ho;exact ho.1
  have hna:=(bX hpo).Cy
  split
  ·have:=iI [(pV p r.a).src,(pV p r.a).dst]
   simp only [List.length_cons,List.length_nil] at this;omega
  split
  ·simp
  split
  ·simp
  split
  ·exact Ji _
  ·unfold users
   split
   ·have:=uY (qp p r.a) p.acts.length;omega
   ·simp
 ·simp
theorem EG (p:Proj) (b:Dom) (hp:p.fine):Con 162 [.d p.av,.d b.av] (agN (dS p b)):=by
 refine con Tryz.func162 rfl rfl Tryz.call162 rfl fun hwf=>?_
 have hF:=vw p b hp
 have hcl:=uf p b
 cases hn:(eu p b).isSome with
 |true=>
  rw [dS,if_pos hn]
  rw [MI,hn] at hF
  (repeat' ((conv=>whnf);first|refine gA ?_|refine gC hF ?_|intro _))
  exact fv
 |false=>
  rw [dS,if_neg (by simp [hn])]
  rw [MI,hn] at hF
  (repeat' ((conv=>whnf);first|refine gA ?_|refine gC hF ?_|refine gC (pY p b hp) ?_|intro _))
  refine ay [2,3,4,26,27] [2,3,4] [] ?_
  (conv=>whnf)
  refine au.go ((Nat)) (fun k=>(k<=(bf p b).length)/\(((bf p b).drop k).findSome? (rQ p b)=(bf p b).findSome? (rQ p b))) (fun k=>[(28,.data (i64 k))]) lE lE (fun k=>(bf p b).length - k) (0) ?_ ?_
  ·exact⟨Nat.zero_le _,rfl⟩
  rintro k ⟨hk,hi⟩
  by_cases hlt:k < (bf p b).length
  rotate_left
  ·(repeat' ((conv=>whnf);first|(exfalso;omega)|(refine gB ?_ ?_<;>intro h)))
   rw [aG (by assumption)] at hi
   rw [<- hi]
   exact fv
  obtain⟨r,hr⟩:∃r,(bf p b)[k]? =some r:=⟨(bf p b)[k]'hlt,by simp⟩
  obtain⟨hu,hro⟩:=Jo (List.mem_of_getElem? hr)
  have hf:=AO hu
  have hal:=Jq p r
  rw [Ei hr] at hi
  (repeat' ((conv=>whnf);first|with_reducible refine Idx.got hr rfl ?_|refine gAV ?_|(refine gB ?_ ?_<;>intro h)|refine gC (EB p r hp) ?_|intro _))
  rotate_left
  ·exact trivial
  refine ay [2,3,4,9,26,27,28,34,35] [2,3,4,9] [] ?_
  (conv=>whnf)
  refine au.go ((Nat)) (fun j=>(j<=(eP p r).length)/\(((eP p r).drop j).findSome? (Eh p b r)=rQ p b r)) (fun j=>[(36,.data (i64 j))]) lE lE (fun j=>(eP p r).length - j) (0) ?_ ?_
  ·exact⟨Nat.zero_le _,rfl⟩
  rintro j ⟨hj,hi2⟩
  by_cases hjl:j < (eP p r).length
  rotate_left
  ·rw [aG (by omega)] at hi2
   rw [<- hi2] at hi
   (repeat' ((conv=>whnf);first|(exfalso;omega)|refine gA ?_|(refine gB ?_ ?_<;>intro h)))
   refine nx (k+1) ?_
   exact⟨by omega,hi⟩
  obtain⟨a,ha⟩:∃a,(eP p r)[j]? =some a:=⟨(eP p r)[j]'hjl,by simp⟩
  obtain⟨n,rfl,hna⟩:=Jp (List.mem_of_getElem? ha)
  have hil:=PL p b r n hf hna
  rw [Ei ha,Eh,Int.toNat_natCast] at hi2
  (repeat' ((conv=>whnf);first|with_reducible refine Idx.got ha rfl ?_|refine gA ?_|(refine gB ?_ ?_<;>intro h)|refine gC (Rh p b r n hp hf hna) ?_|intro _))
  rotate_left
  ·exfalso;omega
  refine ay [2,3,4,9,26,27,28,34,35,36,44,45] [2,3,4,9] [] ?_
  (conv=>whnf)
  refine au.go ((Nat)) (fun m=>(m=0)) (fun m=>[(46,.data (i64 m))]) lE lE (fun m=>0) (0) ?_ ?_
  ·rfl
  rintro m hm
  subst hm
  by_cases h0:0 < (oH p b r n).length
  ·obtain⟨l,hx⟩:∃l,(oH p b r n)[0]? =some l:=⟨(oH p b r n)[0]'h0,by simp⟩
   have hh:(oH p b r n).head? =some l:=by rw [List.head?_eq_getElem?];exact hx
   rw [hh] at hi2
   have hi3:some (⟨l,r,(iT p b r l).1⟩:Infer)=rQ p b r:=hi2
   rw [<- hi3] at hi
   have hi4:some (⟨l,r,(iT p b r l).1⟩:Infer)=(bf p b).findSome? (rQ p b):=hi
   rw [<- hi4]
   (repeat' ((conv=>whnf);first|with_reducible refine Idx.got hx rfl ?_|refine gA ?_|(refine gB ?_ ?_<;>intro h)|refine gC (ED p b r l hp) ?_|intro _))
   ·exact fv
   ·exfalso;omega
  ·have hh:(oH p b r n).head? =none:=by rw [List.head?_eq_none_iff];exact List.eq_nil_of_length_eq_zero (by omega)
   rw [hh] at hi2
   (repeat' ((conv=>whnf);first|(exfalso;omega)|refine gA ?_|(refine gB ?_ ?_<;>intro h)))
   refine nx (j+1) ?_
   exact⟨by omega,hi2⟩
theorem EH (p:Proj) (b:Dom) (hp:p.fine):Con 124 [.d p.av,.d b.av] (adW (dS p b)):=by
 refine con Tryz.func124 rfl rfl Tryz.call124 rfl fun hwf=>?_
 have hF:=vB p b hp
 cases hu:usable p b with
 |false=>
  have hc:bf p b= []:=by rw [bf,if_neg (by simp [hu])]
  have e:dS p b=none:=by rw [dS,hc];cases (eu p b).isSome<;>rfl
  rw [e]
  cases hn:(eu p b).isSome with
  |true=>
   rw [MI,hn] at hF
   (repeat' ((conv=>whnf);first|refine gA ?_|refine gC hF ?_|refine gC (qH p b hp) ?_|intro _))
   exact fv
  |false=>
   rw [MI,hn] at hF
   (repeat' ((conv=>whnf);first|refine gA ?_|refine gC hF ?_|refine gC (qH p b hp) ?_|intro _))
   exact fv
 |true=>
 cases hn:(eu p b).isSome with
 |true=>
  rw [dS,if_pos hn]
  rw [MI,hn] at hF
  (repeat' ((conv=>whnf);first|refine gA ?_|refine gC hF ?_|refine gC (qH p b hp) ?_|intro _))
  exact fv
 |false=>
  rw [dS,if_neg (by simp [hn])]
  rw [MI,hn] at hF
  have hf:=AO hu
  have hcl:=uf p b
  rw [bf,if_pos hu] at hcl
  rw [bf,if_pos hu]
  (repeat' ((conv=>whnf);first|refine gA ?_|refine gC hF ?_|refine gC (qH p b hp) ?_|refine gC (LV p b hp hu) ?_|intro _))
  refine ay [2,3,4,31,32] [2,3,4] [] ?_
  (conv=>whnf)
  refine au.go ((Nat)) (fun k=>(k<=(iN p b).length)/\(((iN p b).drop k).findSome? (rQ p b)=(iN p b).findSome? (rQ p b))) (fun k=>[(33,.data (i64 k))]) lE lE (fun k=>(iN p b).length - k) (0) ?_ ?_
  ·exact⟨Nat.zero_le _,rfl⟩
  rintro k ⟨hk,hi⟩
  by_cases hlt:k < (iN p b).length
  rotate_left
  ·(repeat' ((conv=>whnf);first|(exfalso;omega)|(refine gB ?_ ?_<;>intro h)))
   rw [aG (by assumption)] at hi
   rw [<- hi]
   exact fv
  obtain⟨r,hr⟩:∃r,(iN p b)[k]? =some r:=⟨(iN p b)[k]'hlt,by simp⟩
  have hro:=GI hu (List.mem_of_getElem? hr)
  have hal:=Jq p r
  rw [Ei hr] at hi
  (repeat' ((conv=>whnf);first|with_reducible refine Idx.got hr rfl ?_|refine gAV ?_|(refine gB ?_ ?_<;>intro h)|refine gC (EC p r hp) ?_|intro _))
  rotate_left
  ·exfalso;omega
  refine ay [2,3,4,9,31,32,33,39,40] [2,3,4,9] [] ?_
  (conv=>whnf)
  refine au.go ((Nat)) (fun j=>(j<=(eP p r).length)/\(((eP p r).drop j).findSome? (Eh p b r)=rQ p b r)) (fun j=>[(41,.data (i64 j))]) lE lE (fun j=>(eP p r).length - j) (0) ?_ ?_
  ·exact⟨Nat.zero_le _,rfl⟩
  rintro j ⟨hj,hi2⟩
  by_cases hjl:j < (eP p r).length
  rotate_left
  ·rw [aG (by omega)] at hi2
   rw [<- hi2] at hi
   (repeat' ((conv=>whnf);first|(exfalso;omega)|refine gA ?_|(refine gB ?_ ?_<;>intro h)))
   refine nx (k+1) ?_
   exact⟨by omega,hi⟩
  obtain⟨a,ha⟩:∃a,(eP p r)[j]? =some a:=⟨(eP p r)[j]'hjl,by simp⟩
  obtain⟨n,rfl,hna⟩:=Jp (List.mem_of_getElem? ha)
  have hil:=PL p b r n hf hna
  rw [Ei ha,Eh,Int.toNat_natCast] at hi2
  by_cases h0:0 < (oH p b r n).length
  ·obtain⟨l,hx⟩:∃l,(oH p b r n)[0]? =some l:=⟨(oH p b r n)[0]'h0,by simp⟩
   have hh:(oH p b r n).head? =some l:=by rw [List.head?_eq_getElem?];exact hx
   rw [hh] at hi2
   have hi3:some (⟨l,r,(iT p b r l).1⟩:Infer)=rQ p b r:=hi2
   rw [<- hi3] at hi
   have hi4:some (⟨l,r,(iT p b r l).1⟩:Infer)=(iN p b).findSome? (rQ p b):=hi
   rw [<- hi4]
   (repeat' ((conv=>whnf);first|(with_reducible first|refine Idx.got ha rfl ?_|refine Idx.got hx rfl ?_)|refine gA ?_|(refine gB ?_ ?_<;>intro h)|refine gC (FH p b r n hp hf hro hna) ?_|refine gC (EF p b r l hp hf) ?_|intro _))
   ·exact fv
   ·exfalso;omega
   ·exfalso;omega
  ·have hh:(oH p b r n).head? =none:=by rw [List.head?_eq_none_iff];exact List.eq_nil_of_length_eq_zero (by omega)
   rw [hh] at hi2
   (repeat' ((conv=>whnf);first|with_reducible refine Idx.got ha rfl ?_|(exfalso;omega)|refine gA ?_|(refine gB ?_ ?_<;>intro h)|refine gC (FH p b r n hp hf hro hna) ?_|intro _))
   refine nx (j+1) ?_
   exact⟨by omega,hi2⟩
end Go.Proofs.YthegbfgeochckaaGreat.Abs
