/- Part of a proof. -/
import Derived.Test.YthegbfgeochckaaGreatC11
import Derived.Test.YthegbfgeochckaaGreatPlain
set_option linter.all false
set_option maxRecDepth 20000
set_option maxHeartbeats 0
namespace Go.Proofs.YthegbfgeochckaaGreat.Abs
open Go.Proofs
theorem Zy {p:Proj} {b:Dom} (h1:bI p=true) (h2:b.lo.length=p.acts.length) (h3:b.hi.length=p.acts.length) (h4:b.modes.length=p.acts.length) (h5:∀k,k < p.acts.length->uD p b k=true):aW p b=true:=by
 simp only [aW,Bool.and_eq_true,dB,Bool.not_eq_true',decide_eq_false_iff_not]
 exact⟨⟨⟨⟨h1,by omega⟩,by omega⟩,by omega⟩,h5⟩
theorem Fw {m:List Int} {r:List Int} (f:Int->Bool) (h:subset m r=true):subset (m.filter f) r=true:=by
 simp only [subset,List.all_eq_true] at h ⊢
 intro x hx
 exact h x (List.mem_filter.1 hx).1
theorem Fx {p:Proj} {b:Dom} (h:aW p b=true) (l:Lit):aW p (restrict b l)=true:=by
 obtain⟨h1,h2,h3,h4,h5⟩:=bA h
 unfold restrict
 split
 ·rename_i hd
  obtain⟨n,e1,e2,e3,e4,e5⟩:=SK hd
  have hc:=Zm l.val
  have hn:n < p.acts.length:=by omega
  have hdn:=h5 n hn
  have g1:b.lo[n]? =some (b.lo[n]'e3):=by simp
  have g2:b.hi[n]? =some (b.hi[n]'e4):=by simp
  have g3:b.modes[n]? =some (b.modes[n]'e5):=by simp
  have g4:p.acts[n]? =some (p.acts[n]'hn):=by simp
  simp only [uD,g1,g2,g3,g4,Bool.and_eq_true,rz,within_iff] at hdn
  dsimp only
  rw [e2]
  simp only [List.getD_eq_getElem?_getD,g1,g2,g3,Option.getD_some]
  have key:∀b':Dom,b'.lo.length=b.lo.length->b'.hi.length=b.hi.length->b'.modes.length=b.modes.length->(∀k,k≠n->b'.lo[k]? =b.lo[k]? /\b'.hi[k]? =b.hi[k]? /\b'.modes[k]? =b.modes[k]?)->uD p b' n=true->aW p b'=true:=by
   intro b' k1 k2 k3 k4 k5
   refine Zy h1 (by omega) (by omega) (by omega) fun k hk=>?_
   by_cases e:k=n
   ·rw [e];exact k5
   ·obtain⟨j1,j2,j3⟩:=k4 k e
    have:=h5 k hk
    simp only [uD,j1,j2,j3] at this ⊢
    exact this
  split
  ·refine key _ (by simp) rfl rfl (fun k hk=>⟨by simp [List.getElem?_set,Ne.symm hk],rfl,rfl⟩) ?_
   simp only [uD,List.getElem?_set_self e3,g2,g3,g4,Bool.and_eq_true,rz,within_iff]
   exact⟨⟨⟨by omega,hdn.1.1.2⟩,hdn.1.2⟩,hdn.2⟩
  split
  ·refine key _ rfl (by simp) rfl (fun k hk=>⟨rfl,by simp [List.getElem?_set,Ne.symm hk],rfl⟩) ?_
   simp only [uD,List.getElem?_set_self e4,g1,g3,g4,Bool.and_eq_true,rz,within_iff]
   exact⟨⟨⟨hdn.1.1.1,by omega⟩,hdn.1.2⟩,hdn.2⟩
  split
  ·refine key _ rfl rfl (by simp) (fun k hk=>⟨rfl,rfl,by simp [List.getElem?_set,Ne.symm hk]⟩) ?_
   simp only [uD,List.getElem?_set_self e5,g1,g2,g4,Bool.and_eq_true,rz,within_iff]
   exact⟨⟨hdn.1.1,Ah hdn.1.2⟩,Fw _ hdn.2⟩
  split
  ·refine key _ rfl rfl (by simp) (fun k hk=>⟨rfl,rfl,by simp [List.getElem?_set,Ne.symm hk]⟩) ?_
   simp only [uD,List.getElem?_set_self e5,g1,g2,g4,Bool.and_eq_true,rz,within_iff]
   exact⟨⟨hdn.1.1,Ah hdn.1.2⟩,Fw _ hdn.2⟩
  ·exact h
 ·exact h
open Go.Proofs
theorem vK {a b:Bool}:valueOf a b=0↔a=false/\b=false:=by cases a<;>cases b<;>simp [valueOf]
theorem LK {m:List Int} {f:Int->Bool} {v:Int} (hv:v∈m) (h:f v=false):(m.filter f).length < m.length:=by
 rw [List.length_filter_lt_length_iff_exists]
 exact⟨v,hv,by simp [h]⟩
theorem other {m:List Int} {v:Int} (hs:jU m=true) (hv:v∈m) (hne:m≠[v]):∃w∈m,w≠v:=by
 have hp:=IJ hs
 match m,hv,hne,hp with
 |[x],hv,hne,_=>simp at hv;subst hv;exact absurd rfl hne
 |x::y::r,_,_,hp=>
  have:x < y:=(List.pairwise_cons.1 hp).1 y (by simp)
  by_cases e:x=v
  ·exact⟨y,by simp,by omega⟩
  ·exact⟨x,by simp,e⟩
theorem OD {p:Proj} {b:Dom} {k:Nat} {a:aB} {x y:Int} {m:List Int} (hg:eG p b k a x y m) {v:Int} (hv:v∈m):clamped v=v:=by
 obtain⟨j,e,hj⟩:=hg.aeP v hv
 have:=hg.aok
 simp only [dV,Bool.and_eq_true,within_iff] at this
 unfold clamped;omega
theorem QU {p:Proj} {b:Dom} (h:aW p b=true) {l:Lit} (hl:litValue b l=0):ny (restrict b l) < ny b:=by
 obtain⟨hd,hk1,hk2⟩:=EW hl
 obtain⟨n,e1,e2,e3,e4,e5⟩:=SK hd
 obtain⟨h1,h2,h3,h4,h5⟩:=bA h
 obtain⟨a,x,y,m,hg⟩:=dN h (k:=n) (by omega)
 rw [litValue,if_pos hd] at hl
 rw [restrict,if_pos hd]
 dsimp only at hl ⊢
 rw [e2] at hl ⊢
 simp only [List.getD_eq_getElem?_getD,hg.lo,hg.hi,hg.modes,Option.getD_some] at hl ⊢
 have b1:=hg.lob
 have b2:=hg.hib
 unfold ny
 split
 ·rename_i hk
  rw [if_pos hk,vK] at hl
  simp only [decide_eq_false_iff_not] at hl
  have:=Iz (fun n:Int=>(62 - n).toNat) (v:=max x (clamped l.val)) hg.lo
  have hc:clamped l.val=l.val:=by unfold clamped;omega
  dsimp only at this ⊢
  rw [hc] at this ⊢
  omega
 split
 ·rename_i hk' hk
  rw [if_neg hk',if_pos hk,vK] at hl
  simp only [decide_eq_false_iff_not] at hl
  have:=Iz (fun n:Int=>(n+2).toNat) (v:=min y (clamped l.val)) hg.hi
  have hc:clamped l.val=l.val:=by unfold clamped;omega
  dsimp only at this ⊢
  rw [hc] at this ⊢
  omega
 split
 ·rename_i k1 k2 hk
  rw [if_neg k1,if_neg k2,if_pos hk,vK] at hl
  simp only [decide_eq_false_iff_not,Bool.not_eq_false',List.contains_iff_mem] at hl
  rw [OD hg hl.2]
  obtain⟨w,hw,hwv⟩:=other hg.mok hl.2 hl.1
  have hless:=LK (f:=fun n=>decide (n=l.val)) hw (by simpa using hwv)
  have:=Iz List.length (v:=m.filter fun n=>decide (n=l.val)) hg.modes
  dsimp only at this ⊢
  omega
 split
 ·rename_i k1 k2 k3 hk
  rw [if_neg k1,if_neg k2,if_neg k3,if_pos hk,vK] at hl
  simp only [decide_eq_false_iff_not,Bool.not_eq_false',List.contains_iff_mem] at hl
  rw [OD hg hl.1]
  have hless:=LK (f:=fun n=>decide (n≠l.val)) hl.1 (by simp)
  have:=Iz List.length (v:=m.filter fun n=>decide (n≠l.val)) hg.modes
  dsimp only at this ⊢
  omega
 ·exfalso;omega
theorem pX (l:List Lit) (d:Dom):Con 160 [.d (lits l),.ref d.av] (.d (.bool (bites d l))):=by
 refine con Tryz.func160 rfl rfl Tryz.call160 rfl fun hwf=>?_
 (repeat' ((conv=>whnf);first|refine gA ?_|(refine gB ?_ ?_<;>intro h)|refine gC (nR d l) ?_|intro _))
 all_goals (refine⟨?_,rfl,trivial⟩;simp [bites,aY,bL, *];try rfl)
theorem nO (l:List (List Lit)) (fc:Nat) (caps:List AV) (p:List Lit->Bool) (hc:∀x:List Lit,Con fc ([.d (lits x)]++caps.map .ref) (.d (.bool (p x)))):
  Con 159 [.d (.sl (l.map lits)),.fn fc caps] (.d (i64 (bn p l 0))):=by
 refine con Tryz.func159 rfl rfl Tryz.call159 rfl fun hwf=>?_
 simp only [ARs.wf,AR.wf,AV.wf,AV.wfs,lm,lim] at hwf
 (conv=>whnf)
 refine ay [0,1,7] [] [] ?_
 (conv=>whnf)
 refine au.go ((Nat)) (fun k=>(k<=l.length)/\(bn p (l.drop k) k=bn p l 0)) (fun k=>[(8,.data (i64 k))]) lE lE (fun k=>l.length - k) (0) ?_ ?_
 ·exact⟨by omega,rfl⟩
 rintro k ⟨hk,hi⟩
 (repeat' ((conv=>whnf);first|refine gA ?_|(refine gB ?_ ?_<;>intro h)|(refine gI ?_;intro x hx)|refine gC (hc x) ?_|intro _))<;>try (conv=>whnf)
 all_goals first
  |exact trivial
  |(refine⟨?_,rfl,trivial⟩;rw [aG (l:=l) (by assumption)] at hi;first|(simp_all [bn];done)|(simp only [bn, <- hi];clear hi;simp_all [bn];done))
  |(refine⟨?_,rfl,trivial⟩;rw [aA (l:=l) (by assumption)] at hi;first|(simp_all [bn];done)|(simp only [bn, <- hi];clear hi;simp_all [bn];done))
  |(refine nx (k+1) ?_
    rw [aA (l:=l) (by assumption)] at hi;refine⟨by omega,?_⟩;simp_all [bn];done)
def RUp (r:Dom×Bool):RV:=.tup [.d r.1.av,.d (.bool r.2)]
theorem Gt {α:Type} (p:α->Bool):∀(l:List α) (k:Nat),(l.find? p=none/\bn p l k= -1)\/∃(n:Nat) (x:α),bn p l k=(k+n:Nat)/\l[n]? =some x/\l.find? p=some x/\p x=true
 |[],k=>.inl ⟨rfl,rfl⟩
 |y::r,k=>by
  rw [bn,List.find?_cons]
  cases h:p y with
  |true=>exact .inr ⟨0,y,by simp,rfl,rfl,h⟩
  |false=>
   simp only [Bool.false_eq_true,if_false]
   rcases Gt p r (k+1) with⟨h1,h2⟩|⟨n,x,h1,h2,h3,h4⟩
   ·exact .inl ⟨h1,h2⟩
   ·exact .inr ⟨n+1,x,by rw [h1];congr 1;omega,by simpa using h2,h3,h4⟩
theorem QV {p:Proj} {b:Dom} (h:aW p b=true) {m:List Int} (hm:m∈b.modes):jU m=true:=by
 obtain⟨k,hk,rfl⟩:=List.getElem_of_mem hm
 obtain⟨a,x,y,m',hg⟩:=dN h (k:=k) (by have:=(bA h).2.2.2.1;omega)
 have:=hg.modes
 rw [List.getElem?_eq_getElem hk] at this
 cases this
 exact hg.mok
theorem LM {p:Proj} {b:Dom} {l:List Lit} (hf:aW p b=true) (hb:bites b l=true) (hs:¬(status b l).1 < 0):
  aW p (restrict b (status b l).2)=true/\ny (restrict b (status b l).2) < ny b:=by
 refine⟨Fx hf _,QU hf ?_⟩
 simp only [bites,Bool.or_eq_true,Bool.and_eq_true,decide_eq_true_eq,Bool.not_eq_true'] at hb
 rcases hb with hb|⟨h0,h1⟩
 ·exact absurd hb hs
 ·refine LC (l:=l) (by rw [<- h0]) fun e=>?_
  rw [e] at h1
  rw [gH.2 rfl] at h1
  cases h1
theorem wR (p:Proj) (list:List (List Lit)) (b:Dom) (hp:p.fine):Con 78 [.d p.av,.d (.sl (list.map lits)),.d b.av] (RUp (mh p list b)):=by
 refine con Tryz.func78 rfl rfl Tryz.call78 rfl fun hwf=>?_
 cases hf:aW p b with
 |false=>
  (repeat' ((conv=>whnf);first|refine gA ?_|refine gC (qK b) ?_|refine gC (bD p b hp) ?_|intro _))
  rw [mh,if_neg (by simp [hf])]
  exact fv
 |true=>
  rw [mh,if_pos hf]
  (repeat' ((conv=>whnf);first|refine gA ?_|refine gC (qK b) ?_|refine gC (bD p b hp) ?_|intro _))
  refine ay [1,6,8] [6] [] ?_
  (conv=>whnf)
  refine au.go ((Dom)×(Nat)) (fun⟨d,n⟩=>(aW p d=true)/\(ny d < n)/\(LB list n d=LB list (ny b+1) b)) lE (fun⟨d,n⟩=>[(8,(AV.cells d.av).map SV.data)]) lE (fun⟨d,n⟩=>n) ⟨b,ny b+1⟩ ?_ ?_
  ·exact⟨hf,by omega,rfl⟩
  rintro⟨d,n⟩ ⟨hd,hn,hi⟩
  obtain⟨n,rfl⟩:∃m,n=m+1:=⟨n - 1,by omega⟩
  rw [LB,Zl] at hi
  rcases Gt (bites d) list 0 with⟨f1,f2⟩|⟨k,l,f1,f2,f3,f4⟩
  ·rw [f1] at hi
   (repeat' ((conv=>whnf);first|with_reducible refine Br.yes (decide_eq_true (by omega)) ?_|refine gA ?_|(refine gB ?_ ?_<;>intro h)|refine gC (bP d) ?_|refine gC (nO list 160 [d.av] _ fun x=>pX x d) ?_|intro _))
   ·rw [if_pos h] at hi
    rw [<- hi]
    exact fv
   ·rw [if_neg (Bool.eq_false_iff.1 h)] at hi
    rw [<- hi]
    exact fv
  ·rw [f3] at hi
   by_cases hs:(status d l).1 < 0
   ·(repeat' ((conv=>whnf);first|(with_reducible first|refine Br.no (decide_eq_false (by omega)) ?_|refine Idx.got f2 (by rw [f1,Nat.zero_add]) ?_)|refine gA ?_|(refine gB ?_ ?_<;>intro h)|refine gC (bP d) ?_|refine gC (nO list 160 [d.av] _ fun x=>pX x d) ?_|refine gC (nR d l) ?_|refine gC (fP d _) ?_|intro _))
    ·rw [if_pos h] at hi
     rw [<- hi]
     exact fv
    ·rw [if_neg (Bool.eq_false_iff.1 (by assumption))] at hi
     dsimp only at hi
     rw [if_pos hs] at hi
     rw [<- hi]
     exact fv
    ·exact absurd hs (by assumption)
   ·(repeat' ((conv=>whnf);first|(with_reducible first|refine Br.no (decide_eq_false (by omega)) ?_|refine Idx.got f2 (by rw [f1,Nat.zero_add]) ?_)|refine gA ?_|(refine gB ?_ ?_<;>intro h)|refine gC (bP d) ?_|refine gC (nO list 160 [d.av] _ fun x=>pX x d) ?_|refine gC (nR d l) ?_|refine gC (fP d _) ?_|intro _))
    ·rw [if_pos h] at hi
     rw [<- hi]
     exact fv
    ·have hnx:=LM hd f4 hs
     rw [if_neg (Bool.eq_false_iff.1 (by assumption))] at hi
     dsimp only at hi
     rw [if_neg hs] at hi
     refine nx ⟨restrict d (status d l).2,n⟩ ?_
     exact⟨hnx.1,by omega,hi⟩
def stepOf (list:List (List Lit)) (b:Dom):Int×Lit:=
 match list.find? (bites b) with
 |none=>(0,bL)
 |some l=>if (status b l).1 < 0 then (1,bL) else (2,(status b l).2)
theorem Ap (list:List (List Lit)) (b:Dom):Con 121 [.d (.sl (list.map lits)),.d b.av] (SL (stepOf list b)):=by
 refine con Tryz.func121 rfl rfl Tryz.call121 rfl fun hwf=>?_
 simp only [ARs.wf,AR.wf,AV.wf,AV.wfs,lm,lim] at hwf
 try (conv=>whnf)
 refine ay [3,5,10,11] [3,5] [] ?_
 (conv=>whnf)
 refine au.go ((Nat)) (fun k=>(k<=list.length)/\(stepOf (list.drop k) b=stepOf list b)) (fun k=>[(12,.data (i64 k))]) lE lE (fun k=>list.length - k) (0) ?_ ?_
 ·exact⟨by omega,rfl⟩
 rintro k ⟨hk,hi⟩
 by_cases hlt:k < list.length
 ·obtain⟨x,hx⟩:∃x,list[k]? =some x:=⟨list[k]'hlt,by simp⟩
  rw [aA hx,stepOf,List.find?_cons,adu] at hi
  (repeat' ((conv=>whnf);first|with_reducible refine Idx.got hx rfl ?_|refine gAV ?_|(refine gB ?_ ?_<;>intro h)|refine gC (xQ b x) ?_|intro _))<;>try (conv=>whnf)
  ·rw [decide_eq_true h] at hi
   simp only [Bool.true_or] at hi
   rw [if_pos (by omega)] at hi
   rw [<- hi]
   exact fv
  ·rw [show (decide ((status b x).1= -1)||(decide ((status b x).1=0)&& !decide ((status b x).2.kind=0)))=false by simp [*]] at hi
   refine nx (k+1) ?_
   exact⟨by omega,hi⟩
  ·rw [show (decide ((status b x).1= -1)||(decide ((status b x).1=0)&& !decide ((status b x).2.kind=0)))=true by simp [*]] at hi
   dsimp only at hi
   rw [if_neg (by omega)] at hi
   rw [<- hi]
   exact fv
  ·rw [show (decide ((status b x).1= -1)||(decide ((status b x).1=0)&& !decide ((status b x).2.kind=0)))=false by simp [*]] at hi
   refine nx (k+1) ?_
   exact⟨by omega,hi⟩
  ·exfalso;omega
 ·(repeat' ((conv=>whnf);first|(exfalso;omega)|(refine gB ?_ ?_<;>intro h)))<;>try (conv=>whnf)
  rw [<- hi,mg hlt]
  exact fv
theorem wS (p:Proj) (list:List (List Lit)) (b:Dom) (hp:p.fine):Con 53 [.d p.av,.d (.sl (list.map lits)),.d b.av] (RUp (mh p list b)):=by
 refine con Tryz.func53 rfl rfl Tryz.call53 rfl fun hwf=>?_
 cases hf:aW p b with
 |false=>
  (repeat' ((conv=>whnf);first|refine gA ?_|refine gC (mP b) ?_|refine gC (dH p b hp) ?_|intro _))
  rw [mh,if_neg (by simp [hf])]
  exact fv
 |true=>
  rw [mh,if_pos hf]
  (repeat' ((conv=>whnf);first|refine gA ?_|refine gC (mP b) ?_|refine gC (dH p b hp) ?_|intro _))
  refine ay [1,6,8] [6] [] ?_
  (conv=>whnf)
  refine au.go ((Dom)×(Nat)) (fun⟨d,n⟩=>(aW p d=true)/\(ny d < n)/\(LB list n d=LB list (ny b+1) b)) lE (fun⟨d,n⟩=>[(8,(AV.cells d.av).map SV.data)]) lE (fun⟨d,n⟩=>n) ⟨b,ny b+1⟩ ?_ ?_
  ·exact⟨hf,by omega,rfl⟩
  rintro⟨d,n⟩ ⟨hd,hn,hi⟩
  obtain⟨n,rfl⟩:∃m,n=m+1:=⟨n - 1,by omega⟩
  rw [LB,Zl] at hi
  have hst:stepOf list d=(match list.find? (bites d) with|none=>(0,bL)|some l=>if (status d l).1 < 0 then (1,bL) else (2,(status d l).2)):=rfl
  rcases Gt (bites d) list 0 with⟨f1,f2⟩|⟨k,l,f1,f2,f3,f4⟩
  ·rw [f1] at hi hst
   replace hst:stepOf list d=(0,bL):=hst
   have hS:=Ap list d
   rw [hst] at hS
   (repeat' ((conv=>whnf);first|(with_reducible first|refine Br.no (decide_eq_false (by omega)) ?_|refine Br.yes (decide_eq_true (by omega)) ?_)|refine gA ?_|(refine gB ?_ ?_<;>intro h)|refine gC (fq d) ?_|refine gC hS ?_|intro _))
   ·rw [if_pos h] at hi
    rw [<- hi]
    exact fv
   ·rw [if_neg (Bool.eq_false_iff.1 h)] at hi
    rw [<- hi]
    exact fv
  ·rw [f3] at hi hst
   by_cases hs:(status d l).1 < 0
   ·replace hst:stepOf list d=(1,bL):=by rw [hst];dsimp only;rw [if_pos hs]
    have hS:=Ap list d
    rw [hst] at hS
    (repeat' ((conv=>whnf);first|with_reducible refine Br.yes (decide_eq_true (by omega)) ?_|refine gA ?_|(refine gB ?_ ?_<;>intro h)|refine gC (fq d) ?_|refine gC hS ?_|intro _))
    ·rw [if_pos h] at hi
     rw [<- hi]
     exact fv
    ·rw [if_neg (Bool.eq_false_iff.1 (by assumption))] at hi
     dsimp only at hi
     rw [if_pos hs] at hi
     rw [<- hi]
     exact fv
   ·replace hst:stepOf list d=(2,(status d l).2):=by rw [hst];dsimp only;rw [if_neg hs]
    have hS:=Ap list d
    rw [hst] at hS
    (repeat' ((conv=>whnf);first|with_reducible refine Br.no (decide_eq_false (by omega)) ?_|refine gA ?_|(refine gB ?_ ?_<;>intro h)|refine gC (fq d) ?_|refine gC hS ?_|refine gC (jL d (status d l).2 (fun m hm=>QV hd (List.mem_of_getElem? hm))) ?_|intro _))
    ·rw [if_pos h] at hi
     rw [<- hi]
     exact fv
    ·have hnx:=LM hd f4 hs
     rw [if_neg (Bool.eq_false_iff.1 (by assumption))] at hi
     dsimp only at hi
     rw [if_neg hs] at hi
     refine nx ⟨restrict d (status d l).2,n⟩ ?_
     exact⟨hnx.1,by omega,hi⟩
end Go.Proofs.YthegbfgeochckaaGreat.Abs
namespace Go.Proofs.YthegbfgeochckaaGreat.Abs
open Go.Proofs
theorem zy (l:List Lit):Con 93 [.d (lits l)] (.own 102 (l.map Lit.av)):=by
 refine con Tryz.func93 rfl rfl Tryz.call93 rfl fun hwf=>?_
 simp only [ARs.wf,AR.wf,AV.wf,AV.wfs,lm,lim] at hwf
 (repeat' ((conv=>whnf);first|refine gAP ?_|refine abz.mk (fun h=>?_) ?_))<;>try (conv=>whnf)
 ·exact⟨h,rfl,trivial⟩
 ·exact⟨by simp,rfl,trivial⟩
theorem IZ (l:List Lin):Con 79 [.d (.sl (l.map Lin.av))] (.d (.sl ((l.map Lin.clause).map lits))):=by
 refine con Tryz.func79 rfl rfl Tryz.call79 rfl fun hwf=>?_
 simp only [ARs.wf,AR.wf,AV.wf,AV.wfs,lm,lim] at hwf
 try (conv=>whnf)
 refine ay [7,8] [] [6] ?_
 (conv=>whnf)
 refine au.go ((Nat)) (fun k=>(k<=l.length)) (fun k=>[(9,.data (i64 k)),(3,.own 6 0)]) lE (fun k=>[(6,42,(l.take k).map (fun x=>lits x.clause),0)]) (fun k=>l.length - k) (0) ?_ ?_
 ·exact Nat.zero_le _
 rintro k hk
 (repeat' ((conv=>whnf);first|refine gAX ?_|(refine gB ?_ ?_<;>intro h)|(refine gI ?_;intro x hx)|refine gC (zy x.clause) ?_|intro _))<;>try (conv=>whnf)
 ·refine nw (k+1) ?_ ?_
  ·(repeat' ((conv=>whnf)<;>(first|exact trivial|exact rfl|with_reducible refine And.intro ?_ ?_)))<;>((conv=>whnf)<;>(exact fO (fun x=>lits x.clause) hx))
  exact (by omega:k+1<=l.length)
 ·refine⟨?_,rfl,trivial⟩
  dsimp only
  rw [List.take_of_length_le (by omega)];simp [Function.comp_def]
theorem Ja (l:List Lin):Con 54 [.d (.sl (l.map Lin.av))] (.d (.sl ((l.map Lin.clause).map lits))):=by
 refine con Tryz.func54 rfl rfl Tryz.call54 rfl fun hwf=>?_
 simp only [ARs.wf,AR.wf,AV.wf,AV.wfs,lm,lim] at hwf
 try (conv=>whnf)
 refine ay [7,8] [] [6] ?_
 (conv=>whnf)
 refine au.go ((Nat)) (fun k=>(k<=l.length)) (fun k=>[(9,.data (i64 k)),(3,.own 6 0)]) lE (fun k=>[(6,42,(l.take k).map (fun x=>lits x.clause),0)]) (fun k=>l.length - k) (0) ?_ ?_
 ·exact Nat.zero_le _
 rintro k hk
 by_cases hlt:k < l.length
 ·obtain⟨x,hx⟩:∃x,l[k]? =some x:=⟨l[k]'hlt,by simp⟩
  have hm:=jD hwf.1.2 hx
  simp only [AV.wf,AV.wfs,List.length_map] at hm
  (repeat' ((conv=>whnf);first|with_reducible refine Idx.got hx rfl ?_|refine gAX ?_|(refine gB ?_ ?_<;>intro h)))<;>try (conv=>whnf)
  ·refine nw (k+1) ?_ ?_
   ·(repeat' ((conv=>whnf)<;>(first|exact trivial|exact rfl|with_reducible refine And.intro ?_ ?_)))<;>((conv=>whnf)<;>(exact fO (fun x=>lits x.clause) hx))
   exact (by omega:k+1<=l.length)
  ·exfalso;omega
 ·(repeat' ((conv=>whnf);first|(exfalso;omega)|(refine gB ?_ ?_<;>intro h)))<;>try (conv=>whnf)
  refine⟨?_,rfl,trivial⟩
  dsimp only
  rw [List.take_of_length_le (by omega)];simp [Function.comp_def]
theorem Xu (p:Proj) (l:Lin) (hp:p.fine):Con 172 [.d p.av,.d l.av] (.d (.bool (Kn p l))):=by
 refine con Tryz.func172 rfl rfl Tryz.call172 rfl fun hwf=>?_
 (repeat' ((conv=>whnf);first|refine gA ?_|(refine gB ?_ ?_<;>intro h)|refine gC (Fb p l.clause hp) ?_|intro _))
 all_goals refine⟨?_,rfl,trivial⟩
 all_goals (simp [Kn,UG, *];try rfl)
theorem Xv (p:Proj) (l:Lin) (hp:p.fine):Con 196 [.d p.av,.d l.av] (.d (.bool (Kn p l))):=by
 refine con Tryz.func196 rfl rfl Tryz.call196 rfl fun hwf=>?_
 (repeat' ((conv=>whnf);first|refine gA ?_|(refine gB ?_ ?_<;>intro h)|refine gC (Fe p l.clause hp) ?_|intro _))
 all_goals refine⟨?_,rfl,trivial⟩
 all_goals (simp [Kn,UG, *];try rfl)
theorem jg (p:Proj) (ahead:List Lin) (l:Lin) (hp:p.fine):Con 90 [.d p.av,.d (.sl (ahead.map Lin.av)),.d l.av] (.d (i64 (aO p ahead l))):=by
 refine con Tryz.func90 rfl rfl Tryz.call90 rfl fun hwf=>?_
 (repeat' ((conv=>whnf);first|refine gA ?_|(refine gB ?_ ?_<;>intro h)|refine gC (dJ p hp) ?_|refine gC (Xu p l hp) ?_|refine gC (Gp p l.rule l.clause hp) ?_|refine gC (IZ ahead) ?_|refine gC (qF p l.clause hp) ?_|refine gC (wR p (ahead.map Lin.clause) (qE p l.clause) hp) ?_|intro _))
 all_goals refine⟨?_,rfl,trivial⟩
 all_goals (simp [aO, *];try omega)
theorem wT (p:Proj) (ahead:List Lin) (l:Lin) (hp:p.fine):Con 119 [.d p.av,.d (.sl (ahead.map Lin.av)),.d l.av] (.d (i64 (aO p ahead l))):=by
 refine con Tryz.func119 rfl rfl Tryz.call119 rfl fun hwf=>?_
 (repeat' ((conv=>whnf);first|refine gA ?_|(refine gB ?_ ?_<;>intro h)|refine gC (dP p hp) ?_|refine gC (Xv p l hp) ?_|refine gC (Gq p l.rule l.clause hp) ?_|refine gC (Ja ahead) ?_|refine gC (wQ p l.clause hp) ?_|refine gC (wS p (ahead.map Lin.clause) (qE p l.clause) hp) ?_|intro _))
 all_goals refine⟨?_,rfl,trivial⟩
 all_goals (simp [aO, *];try omega)
open Go.Proofs
theorem Jb {p:Proj} {all:List Lin} {k:Nat} {x:Lin} (h:all[k]? =some x):oZ p all (all.drop k) k=if aO p (all.take k) x=0 then oZ p all (all.drop (k+1)) (k+1) else (aO p (all.take k) x,(k:Int)):=by
 rw [aA h,oZ]
def afA (r:Int×Int):RV:=.tup [.d (i64 r.1),.d (i64 r.2)]
theorem QW (p:Proj) (l:List Lin) (hp:p.fine):Con 157 [.d p.av,.d (.sl (l.map Lin.av))] (afA (Co p l)):=by
 refine con Tryz.func157 rfl rfl Tryz.call157 rfl fun hwf=>?_
 simp only [ARs.wf,AR.wf,AV.wf,AV.wfs,lm,lim] at hwf
 try (conv=>whnf)
 refine ay [1,2,9,10] [2] [] ?_
 (conv=>whnf)
 refine au.go ((Nat)) (fun k=>(k<=l.length)/\(oZ p l (l.drop k) k=Co p l)) (fun k=>[(11,.data (i64 k))]) lE lE (fun k=>l.length - k) (0) ?_ ?_
 ·exact⟨by omega,rfl⟩
 rintro k ⟨hk,hi⟩
 by_cases hlt:k < l.length
 ·obtain⟨x,hx⟩:∃x,l[k]? =some x:=⟨l[k]'hlt,by simp⟩
  rw [Jb hx] at hi
  have hc:=jg p (l.take k) x hp
  rw [<- oW] at hc
  (repeat' ((conv=>whnf);first|with_reducible refine Idx.got hx rfl ?_|refine gAV ?_|(refine gB ?_ ?_<;>intro h)|refine gC hc ?_|intro _))<;>try (conv=>whnf)
  ·refine nx (k+1) ?_
   rw [if_pos (by assumption)] at hi
   exact⟨by omega,hi⟩
  ·rw [if_neg (by assumption)] at hi
   rw [<- hi]
   exact fv
  ·exfalso;omega
 ·(repeat' ((conv=>whnf);first|(exfalso;omega)|(refine gB ?_ ?_<;>intro h)))<;>try (conv=>whnf)
  rw [mg hlt,oZ] at hi
  rw [<- hi,show k=l.length by omega]
  (repeat' ((conv=>whnf)<;>(first|exact trivial|exact VC.nod (by kernel_rfl)|refine VC.mk rfl ?_|refine VC.mk (by simp) ?_)))
theorem QX (p:Proj) (l:List Lin) (hp:p.fine):Con 52 [.d p.av,.d (.sl (l.map Lin.av))] (afA (Co p l)):=by
 refine con Tryz.func52 rfl rfl Tryz.call52 rfl fun hwf=>?_
 simp only [ARs.wf,AR.wf,AV.wf,AV.wfs,lm,lim] at hwf
 try (conv=>whnf)
 refine ay [1,2,9,10] [2] [] ?_
 (conv=>whnf)
 refine au.go ((Nat)) (fun k=>(k<=l.length)/\(oZ p l (l.drop k) k=Co p l)) (fun k=>[(11,.data (i64 k))]) lE lE (fun k=>l.length - k) (0) ?_ ?_
 ·exact⟨by omega,rfl⟩
 rintro k ⟨hk,hi⟩
 by_cases hlt:k < l.length
 ·obtain⟨x,hx⟩:∃x,l[k]? =some x:=⟨l[k]'hlt,by simp⟩
  rw [Jb hx] at hi
  have hc:=wT p (l.take k) x hp
  rw [<- oW] at hc
  (repeat' ((conv=>whnf);first|with_reducible refine Idx.got hx rfl ?_|refine gAV ?_|(refine gB ?_ ?_<;>intro h)|refine gC hc ?_|intro _))<;>try (conv=>whnf)
  ·refine nx (k+1) ?_
   rw [if_pos (by assumption)] at hi
   exact⟨by omega,hi⟩
  ·rw [if_neg (by assumption)] at hi
   rw [<- hi]
   exact fv
  ·exfalso;omega
 ·(repeat' ((conv=>whnf);first|(exfalso;omega)|(refine gB ?_ ?_<;>intro h)))<;>try (conv=>whnf)
  rw [mg hlt,oZ] at hi
  rw [<- hi,show k=l.length by omega]
  (repeat' ((conv=>whnf)<;>(first|exact trivial|exact VC.nod (by kernel_rfl)|refine VC.mk rfl ?_|refine VC.mk (by simp) ?_)))
theorem OE (p:Proj) (l:List Lin) (hp:p.fine):Con 77 [.d p.av,.d (.sl (l.map Lin.av))] (.d (.bool (zo p l))):=by
 refine con Tryz.func77 rfl rfl Tryz.call77 rfl fun hwf=>?_
 (repeat' ((conv=>whnf);first|refine gA ?_|refine gC (QW p l hp) ?_|intro _))
 exact⟨rfl,rfl,trivial⟩
end Go.Proofs.YthegbfgeochckaaGreat.Abs
namespace Go.Proofs.YthegbfgeochckaaGreat.Abs
open Go.Proofs
theorem xW (l:List Step):Con 177 [.d (.sl (l.map Step.av))] (.own 218 (l.map Step.av)):=by
 refine con Tryz.func177 rfl rfl Tryz.call177 rfl fun hwf=>?_
 simp only [ARs.wf,AR.wf,AV.wf,AV.wfs,lm,lim] at hwf
 (repeat' ((conv=>whnf);first|refine gAP ?_|refine abz.mk (fun h=>?_) ?_))<;>try (conv=>whnf)
 ·exact⟨h,rfl,trivial⟩
 ·exact⟨by simp,rfl,trivial⟩
theorem xX (l:List Link):Con 175 [.d (.sl (l.map Link.av))] (.own 173 (l.map Link.av)):=by
 refine con Tryz.func175 rfl rfl Tryz.call175 rfl fun hwf=>?_
 simp only [ARs.wf,AR.wf,AV.wf,AV.wfs,lm,lim] at hwf
 (repeat' ((conv=>whnf);first|refine gAP ?_|refine abz.mk (fun h=>?_) ?_))<;>try (conv=>whnf)
 ·exact⟨h,rfl,trivial⟩
 ·exact⟨by simp,rfl,trivial⟩
theorem kK {α:Type} {l o:List α} {k:Nat} {x:α} (h:l[k]? =some x) (ho:o=l.take k):o++[x]=l.take (k+1):=by
 rw [ho,List.take_add_one,h];rfl
theorem nG {α:Type} {l o:List α} {k:Nat} (h:¬ k < l.length) (ho:o=l.take k):o=l:=by
 rw [ho,List.take_of_length_le (by omega)]
theorem take_len {α:Type} {l o:List α} {k:Nat} (ho:o=l.take k):o.length<=k:=by rw [ho];simp;omega
theorem MC (p:Proj):Con 91 [.d p.av] (.d p.av):=by
 refine con Tryz.func91 rfl rfl Tryz.call91 rfl fun hwf=>?_
 simp only [ARs.wf,AR.wf,AV.wf,AV.wfs,lm,lim] at hwf
 (repeat' ((conv=>whnf);first|refine gA ?_|refine gC (xX p.links) ?_|refine gC (slices_Clone_int p.aH) ?_))<;>try (conv=>whnf)
 refine ay [1,2,3,24,25] [1,2] [61,19000,22000] ?_
 (conv=>whnf)
 refine au.go ((Nat)×(List aB)) (fun⟨k,o⟩=>(k<=p.acts.length)/\(o=p.acts.take k)) (fun⟨k,o⟩=>[(26,.data (i64 k))]) (fun⟨k,o⟩=>[(3,[.data (i64 p.dead),.own 61 0,.own 19000 0,.aj,.own 22000 0])]) (fun⟨k,o⟩=>[(61,165,o.map aB.av,0),(19000,173,p.links.map Link.av,0),(22000,3,p.aH.map i64,0)]) (fun⟨k,o⟩=>p.acts.length - k) ⟨0,[]⟩ ?_ ?_
 ·exact⟨Nat.zero_le _,rfl⟩
 rintro⟨k,o⟩ ⟨hk,ho⟩
 by_cases hlt:k < p.acts.length
 ·obtain⟨a,ha⟩:∃a,p.acts[k]? =some a:=⟨p.acts[k]'hlt,by simp⟩
  have hol:=take_len ho
  have hwa:=jD hwf.1.2.1.2 ha
  simp only [AV.wf,AV.wfs,List.length_map] at hwa
  (repeat' ((conv=>whnf);first|with_reducible refine Idx.got ha rfl ?_|(exfalso;omega)|(refine gB ?_ ?_<;>intro h)))<;>try (conv=>whnf)
  refine ay [1,2,3,6,24,25,26,36,37] [1,2,3] [54] ?_
  (conv=>whnf)
  refine au.go ((Nat)×(List Mode)) (fun⟨j,q⟩=>(j<=a.modes.length)/\(q=a.modes.take j)) (fun⟨j,q⟩=>[(38,.data (i64 j))]) (fun⟨j,q⟩=>[(6,[.data (.str a.name),.data (i64 a.fam),.own 54 0])]) (fun⟨j,q⟩=>[(54,210,q.map Mode.av,0)]) (fun⟨j,q⟩=>a.modes.length - j) ⟨0,[]⟩ ?_ ?_
  ·exact⟨Nat.zero_le _,rfl⟩
  rintro⟨j,q⟩ ⟨hj,hq⟩
  have hql:=take_len hq
  by_cases hjt:j < a.modes.length
  ·obtain⟨m,hm⟩:∃m,a.modes[j]? =some m:=⟨a.modes[j]'hjt,by simp⟩
   (repeat' ((conv=>whnf);first|with_reducible refine Idx.got hm rfl ?_|(exfalso;omega)|refine gAX ?_|(refine gB ?_ ?_<;>intro h)|refine gC (slices_Clone_int m.use) ?_|refine gC (slices_Clone_int m.con) ?_))<;>try (conv=>whnf)
   refine nwS ⟨j+1,q++[m]⟩ ?_
   exact⟨by omega,kK hm hq⟩
  ·obtain rfl:=nG hjt hq
   (repeat' ((conv=>whnf);first|(exfalso;omega)|refine gAX ?_|(refine gB ?_ ?_<;>intro h)))<;>try (conv=>whnf)
   refine nwS ⟨k+1,o++[a]⟩ ?_
   exact⟨by omega,kK ha ho⟩
 obtain rfl:=nG hlt ho
 (repeat' ((conv=>whnf);first|(exfalso;omega)|(refine gB ?_ ?_<;>intro h)))<;>try (conv=>whnf)
 refine ay [2,3,65,66] [2] [61,19000,94,22000] ?_
 (conv=>whnf)
 refine au.go ((Nat)×(List aK)) (fun⟨r,o⟩=>(r<=p.aS.length)/\(o=p.aS.take r)) (fun⟨r,o⟩=>[(67,.data (i64 r))]) (fun⟨r,o⟩=>[(3,[.data (i64 p.dead),.own 61 0,.own 19000 0,.own 94 0,.own 22000 0])]) (fun⟨r,o⟩=>[(61,165,p.acts.map aB.av,0),(19000,173,p.links.map Link.av,0),(94,170,o.map aK.av,0),(22000,3,p.aH.map i64,0)]) (fun⟨r,o⟩=>p.aS.length - r) ⟨0,[]⟩ ?_ ?_
 ·exact⟨Nat.zero_le _,rfl⟩
 rintro⟨r,o⟩ ⟨hk,ho⟩
 by_cases hlt:r < p.aS.length
 ·obtain⟨a,ha⟩:∃a,p.aS[r]? =some a:=⟨p.aS[r]'hlt,by simp⟩
  have hol:=take_len ho
  have hwa:=jD hwf.1.2.2.2.1.2 ha
  simp only [AV.wf,AV.wfs,List.length_map] at hwa
  (repeat' ((conv=>whnf);first|with_reducible refine Idx.got ha rfl ?_|(exfalso;omega)|refine gA ?_|(refine gB ?_ ?_<;>intro h)|refine gC (xW a.steps) ?_|intro _))<;>try (conv=>whnf)
  refine ay [2,3,11,65,66,67,76,77] [2,3] [74000,87] ?_
  (conv=>whnf)
  refine au.go ((Nat)×(List (List Int))) (fun⟨j,q⟩=>(j<=a.setup.length)/\(q=a.setup.take j)) (fun⟨j,q⟩=>[(78,.data (i64 j))]) (fun⟨j,q⟩=>[(11,[.own 74000 0,.own 87 0])]) (fun⟨j,q⟩=>[(74000,218,a.steps.map Step.av,0),(87,25,q.map ints,0)]) (fun⟨j,q⟩=>a.setup.length - j) ⟨0,[]⟩ ?_ ?_
  ·exact⟨Nat.zero_le _,rfl⟩
  rintro⟨j,q⟩ ⟨hj,hq⟩
  have hql:=take_len hq
  by_cases hjt:j < a.setup.length
  ·obtain⟨m,hm⟩:∃m,a.setup[j]? =some m:=⟨a.setup[j]'hjt,by simp⟩
   (repeat' ((conv=>whnf);first|with_reducible refine Idx.got hm rfl ?_|(exfalso;omega)|refine gAX ?_|(refine gB ?_ ?_<;>intro h)|refine gC (slices_Clone_int m) ?_))<;>try (conv=>whnf)
   refine nwS ⟨j+1,q++[m]⟩ ?_
   exact⟨by omega,kK hm hq⟩
  ·obtain rfl:=nG hjt hq
   (repeat' ((conv=>whnf);first|(exfalso;omega)|refine gAX ?_|(refine gB ?_ ?_<;>intro h)))<;>try (conv=>whnf)
   refine nwS ⟨r+1,o++[a]⟩ ?_
   exact⟨by omega,kK ha ho⟩
 obtain rfl:=nG hlt ho
 (repeat' ((conv=>whnf);first|(exfalso;omega)|(refine gB ?_ ?_<;>intro h)))<;>try (conv=>whnf)
 exact⟨rfl,rfl,trivial⟩
theorem UZ (a:aB):Con 135 [.d a.av] (.d a.av):=by
 refine con Tryz.func135 rfl rfl Tryz.call135 rfl fun hwf=>?_
 simp only [ARs.wf,AR.wf,AV.wf,AV.wfs,lm,lim] at hwf
 try (conv=>whnf)
 refine ay [2,3,12,13] [2] [32] ?_
 (conv=>whnf)
 refine au.go ((Nat)×(List Mode)) (fun⟨j,q⟩=>(j<=a.modes.length)/\(q=a.modes.take j)) (fun⟨j,q⟩=>[(14,.data (i64 j))]) (fun⟨j,q⟩=>[(3,[.data (.str a.name),.data (i64 a.fam),.own 32 0])]) (fun⟨j,q⟩=>[(32,210,q.map Mode.av,0)]) (fun⟨j,q⟩=>a.modes.length - j) ⟨0,[]⟩ ?_ ?_
 ·exact⟨Nat.zero_le _,rfl⟩
 rintro⟨j,q⟩ ⟨hj,hq⟩
 have hql:=take_len hq
 by_cases hjt:j < a.modes.length
 ·obtain⟨m,hm⟩:∃m,a.modes[j]? =some m:=⟨a.modes[j]'hjt,by simp⟩
  have hwm:=jD hwf.1.2.2.1.2 hm
  simp only [AV.wf,AV.wfs,List.length_map] at hwm
  (repeat' ((conv=>whnf);first|with_reducible refine Idx.got hm rfl ?_|(exfalso;omega)|refine gAX ?_|(refine gB ?_ ?_<;>intro h)))<;>try (conv=>whnf)
  refine nwS ⟨j+1,q++[m]⟩ ?_
  exact⟨by omega,kK hm hq⟩
 ·obtain rfl:=nG hjt hq
  (repeat' ((conv=>whnf);first|(exfalso;omega)|(refine gB ?_ ?_<;>intro h)))<;>try (conv=>whnf)
  exact⟨rfl,rfl,trivial⟩
theorem Jc (p:Proj):Con 62 [.d p.av] (.d p.av):=by
 refine con Tryz.func62 rfl rfl Tryz.call62 rfl fun hwf=>?_
 simp only [ARs.wf,AR.wf,AV.wf,AV.wfs,lm,lim] at hwf
 (repeat' ((conv=>whnf);first|refine gAX ?_))<;>try (conv=>whnf)
 refine ay [1,2,3,23,24] [1,2] [34,13,17] ?_
 (conv=>whnf)
 refine au.go ((Nat)×(List aB)) (fun⟨k,o⟩=>(k<=p.acts.length)/\(o=p.acts.take k)) (fun⟨k,o⟩=>[(25,.data (i64 k))]) (fun⟨k,o⟩=>[(3,[.data (i64 p.dead),.own 34 0,.own 13 0,.aj,.own 17 0])]) (fun⟨k,o⟩=>[(34,165,o.map aB.av,0),(13,173,p.links.map Link.av,0),(17,3,p.aH.map i64,0)]) (fun⟨k,o⟩=>p.acts.length - k) ⟨0,[]⟩ ?_ ?_
 ·exact⟨Nat.zero_le _,rfl⟩
 rintro⟨k,o⟩ ⟨hk,ho⟩
 have hol:=take_len ho
 by_cases hlt:k < p.acts.length
 ·obtain⟨a,ha⟩:∃a,p.acts[k]? =some a:=⟨p.acts[k]'hlt,by simp⟩
  (repeat' ((conv=>whnf);first|with_reducible refine Idx.got ha rfl ?_|(exfalso;omega)|refine gAX ?_|(refine gB ?_ ?_<;>intro h)|refine gC (UZ a) ?_|intro _))<;>try (conv=>whnf)
  refine nwS ⟨k+1,o++[a]⟩ ?_
  exact⟨by omega,kK ha ho⟩
 obtain rfl:=nG hlt ho
 (repeat' ((conv=>whnf);first|(exfalso;omega)|(refine gB ?_ ?_<;>intro h)))<;>try (conv=>whnf)
 refine ay [2,3,38,39] [2] [34,13,69,17] ?_
 (conv=>whnf)
 refine au.go ((Nat)×(List aK)) (fun⟨r,o⟩=>(r<=p.aS.length)/\(o=p.aS.take r)) (fun⟨r,o⟩=>[(40,.data (i64 r))]) (fun⟨r,o⟩=>[(3,[.data (i64 p.dead),.own 34 0,.own 13 0,.own 69 0,.own 17 0])]) (fun⟨r,o⟩=>[(34,165,p.acts.map aB.av,0),(13,173,p.links.map Link.av,0),(69,170,o.map aK.av,0),(17,3,p.aH.map i64,0)]) (fun⟨r,o⟩=>p.aS.length - r) ⟨0,[]⟩ ?_ ?_
 ·exact⟨Nat.zero_le _,rfl⟩
 rintro⟨r,o⟩ ⟨hk,ho⟩
 by_cases hlt:r < p.aS.length
 ·obtain⟨a,ha⟩:∃a,p.aS[r]? =some a:=⟨p.aS[r]'hlt,by simp⟩
  have hol:=take_len ho
  have hwa:=jD hwf.1.2.2.2.1.2 ha
  simp only [AV.wf,AV.wfs,List.length_map] at hwa
  (repeat' ((conv=>whnf);first|with_reducible refine Idx.got ha rfl ?_|(exfalso;omega)|(refine gB ?_ ?_<;>intro h)|refine gP ?_))<;>try (conv=>whnf)
  refine ay [2,3,8,38,39,40,50,51] [2,3] [44,62] ?_
  (conv=>whnf)
  refine au.go ((Nat)×(List (List Int))) (fun⟨j,q⟩=>(j<=a.setup.length)/\(q=a.setup.take j)) (fun⟨j,q⟩=>[(52,.data (i64 j))]) (fun⟨j,q⟩=>[(8,[.own 44 0,.own 62 0])]) (fun⟨j,q⟩=>[(44,218,a.steps.map Step.av,0),(62,25,q.map ints,0)]) (fun⟨j,q⟩=>a.setup.length - j) ⟨0,[]⟩ ?_ ?_
  ·exact⟨Nat.zero_le _,rfl⟩
  rintro⟨j,q⟩ ⟨hj,hq⟩
  have hql:=take_len hq
  by_cases hjt:j < a.setup.length
  ·obtain⟨m,hm⟩:∃m,a.setup[j]? =some m:=⟨a.setup[j]'hjt,by simp⟩
   have hwm:=jD hwa.2.1.2 hm
   simp only [AV.wf,AV.wfs,List.length_map] at hwm
   (repeat' ((conv=>whnf);first|with_reducible refine Idx.got hm rfl ?_|(exfalso;omega)|refine gAX ?_|(refine gB ?_ ?_<;>intro h)))<;>try (conv=>whnf)
   refine nwS ⟨j+1,q++[m]⟩ ?_
   exact⟨by omega,kK hm hq⟩
  ·obtain rfl:=nG hjt hq
   (repeat' ((conv=>whnf);first|(exfalso;omega)|refine gAX ?_|(refine gB ?_ ?_<;>intro h)))<;>try (conv=>whnf)
   refine nwS ⟨r+1,o++[a]⟩ ?_
   exact⟨by omega,kK ha ho⟩
 obtain rfl:=nG hlt ho
 (repeat' ((conv=>whnf);first|(exfalso;omega)|(refine gB ?_ ?_<;>intro h)))<;>try (conv=>whnf)
 exact⟨rfl,rfl,trivial⟩
open Go.Proofs
def ahX:Lin:=⟨0,⟨0,0,0,0⟩,[]⟩
def KA (ls:List Lin) (i:Int):Lin:=ls.getD i.toNat ahX
def aaP (ls:List Lin) (idx:List Int):List Lin:=idx.map (KA ls)
theorem uI {n:Nat} {x:Int} (h:x∈upTo n):0<=x/\x < n:=by
 simp only [upTo,List.mem_map,List.mem_range] at h
 obtain⟨k,h1,rfl⟩:=h
 exact⟨Int.natCast_nonneg k,Int.ofNat_lt.2 h1⟩
theorem OG {α β:Type} (f:α->β) {l:List α} {k:Nat} {x:α} (h:l[k]? =some x):(l.take k).map f++[f x]=(l.take (k+1)).map f:=by
 obtain⟨hk,rfl⟩:=List.getElem?_eq_some_iff.1 h
 rw [List.take_succ_eq_append_getElem hk,List.map_append];rfl
theorem Zz {ls:List Lin} {i:Int} {x:Lin} (h:ls[i.toNat]? =some x):KA ls i=x:=by simp [KA,List.getD_eq_getElem?_getD,h]
theorem Jd (l:Lin):Con 136 [.d l.av] (.d l.av):=by
 refine con Tryz.func136 rfl rfl Tryz.call136 rfl fun hwf=>?_
 simp only [ARs.wf,AR.wf,AV.wf,AV.wfs,lm,lim] at hwf
 (repeat' ((conv=>whnf);first|refine gAP ?_))<;>try (conv=>whnf)
 all_goals exact⟨by simp,rfl,trivial⟩
end Go.Proofs.YthegbfgeochckaaGreat.Abs
