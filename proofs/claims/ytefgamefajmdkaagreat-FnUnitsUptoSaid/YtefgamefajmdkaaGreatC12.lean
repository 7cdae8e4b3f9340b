/- Contracts: restricted domains. -/
import Derived.Test.YtefgamefajmdkaaGreatC11
import Derived.Test.YtefgamefajmdkaaGreatPlain
set_option linter.all false
set_option maxRecDepth 20000
set_option maxHeartbeats 0
namespace Go.Proofs.YtefgamefajmdkaaGreat.Abs
open Go.Proofs
theorem KA {p:Proj} {b:Dom} (h1:aF p=true) (h2:b.lo.length=p.acts.length) (h3:b.hi.length=p.acts.length) (h4:b.modes.length=p.acts.length) (h5:∀k,k < p.acts.length→nO p b k=true):aC p b=true:=by
 simp only [aC,Bool.and_eq_true,bg,Bool.not_eq_true',decide_eq_false_iff_not]
 exact⟨⟨⟨⟨h1,by omega⟩,by omega⟩,by omega⟩,h5⟩
theorem Bc {m:List Int} {r:List Int} (f:Int→Bool) (h:subset m r=true):subset (m.filter f) r=true:=by
 simp only [subset,List.all_eq_true] at h ⊢
 intro x hx
 exact h x (List.mem_filter.1 hx).1
theorem gu {p:Proj} {b:Dom} (h:aC p b=true) (l:Lit):aC p (restrict b l)=true:=by
 obtain⟨h1,h2,h3,h4,h5⟩:=bD h
 unfold restrict
 split
 ·rename_i hd
  obtain⟨n,e1,e2,e3,e4,e5⟩:=MU hd
  have hc:=Ti l.val
  have hn:n < p.acts.length:=by omega
  have hdn:=h5 n hn
  have g1:b.lo[n]? =some (b.lo[n]'e3):=by simp
  have g2:b.hi[n]? =some (b.hi[n]'e4):=by simp
  have g3:b.modes[n]? =some (b.modes[n]'e5):=by simp
  have g4:p.acts[n]? =some (p.acts[n]'hn):=by simp
  simp only [nO,g1,g2,g3,g4,Bool.and_eq_true,lH,within_iff] at hdn
  dsimp only
  rw [e2]
  simp only [List.getD_eq_getElem?_getD,g1,g2,g3,Option.getD_some]
  have key:∀b':Dom,b'.lo.length=b.lo.length→b'.hi.length=b.hi.length→b'.modes.length=b.modes.length→(∀k,k≠n→b'.lo[k]? =b.lo[k]? ∧b'.hi[k]? =b.hi[k]? ∧b'.modes[k]? =b.modes[k]?)→nO p b' n=true→aC p b'=true:=by
   intro b' k1 k2 k3 k4 k5
   refine KA h1 (by omega) (by omega) (by omega) fun k hk=>?_
   by_cases e:k=n
   ·rw [e];exact k5
   ·obtain⟨j1,j2,j3⟩:=k4 k e
    have:=h5 k hk
    simp only [nO,j1,j2,j3] at this ⊢
    exact this
  split
  ·refine key _ (by simp) rfl rfl (fun k hk=>⟨by simp [List.getElem?_set,Ne.symm hk],rfl,rfl⟩) ?_
   simp only [nO,List.getElem?_set_self e3,g2,g3,g4,Bool.and_eq_true,lH,within_iff]
   exact⟨⟨⟨by omega,hdn.1.1.2⟩,hdn.1.2⟩,hdn.2⟩
  split
  ·refine key _ rfl (by simp) rfl (fun k hk=>⟨rfl,by simp [List.getElem?_set,Ne.symm hk],rfl⟩) ?_
   simp only [nO,List.getElem?_set_self e4,g1,g3,g4,Bool.and_eq_true,lH,within_iff]
   exact⟨⟨⟨hdn.1.1.1,by omega⟩,hdn.1.2⟩,hdn.2⟩
  split
  ·refine key _ rfl rfl (by simp) (fun k hk=>⟨rfl,rfl,by simp [List.getElem?_set,Ne.symm hk]⟩) ?_
   simp only [nO,List.getElem?_set_self e5,g1,g2,g4,Bool.and_eq_true,lH,within_iff]
   exact⟨⟨hdn.1.1,wu hdn.1.2⟩,Bc _ hdn.2⟩
  split
  ·refine key _ rfl rfl (by simp) (fun k hk=>⟨rfl,rfl,by simp [List.getElem?_set,Ne.symm hk]⟩) ?_
   simp only [nO,List.getElem?_set_self e5,g1,g2,g4,Bool.and_eq_true,lH,within_iff]
   exact⟨⟨hdn.1.1,wu hdn.1.2⟩,Bc _ hdn.2⟩
  ·exact h
 ·exact h
open Go.Proofs
theorem qG {a b:Bool}:valueOf a b=0↔a=false∧b=false:=by cases a<;>cases b<;>simp [valueOf]
theorem Ht {m:List Int} {f:Int→Bool} {v:Int} (hv:v∈m) (h:f v=false):(m.filter f).length < m.length:=by
 rw [List.length_filter_lt_length_iff_exists]
 exact⟨v,hv,by simp [h]⟩
theorem other {m:List Int} {v:Int} (hs:jk m=true) (hv:v∈m) (hne:m≠[v]):∃w∈m,w≠v:=by
 have hp:=Es hs
 match m,hv,hne,hp with
 |[x],hv,hne,_=>simp at hv;subst hv;exact absurd rfl hne
 |x::y::r,_,_,hp=>
  have:x < y:=(List.pairwise_cons.1 hp).1 y (by simp)
  by_cases e:x=v
  ·exact⟨y,by simp,by omega⟩
  ·exact⟨x,by simp,e⟩
theorem KC {p:Proj} {b:Dom} {k:Nat} {a:aH} {x y:Int} {m:List Int} (hg:dW p b k a x y m) {v:Int} (hv:v∈m):clamped v=v:=by
 obtain⟨j,e,hj⟩:=hg.ZE v hv
 have:=hg.aok
 simp only [bG,Bool.and_eq_true,within_iff] at this
 unfold clamped;omega
theorem LJ {p:Proj} {b:Dom} (h:aC p b=true) {l:Lit} (hl:litValue b l=0):gM (restrict b l) < gM b:=by
 obtain⟨hd,hk1,hk2⟩:=Av hl
 obtain⟨n,e1,e2,e3,e4,e5⟩:=MU hd
 obtain⟨h1,h2,h3,h4,h5⟩:=bD h
 obtain⟨a,x,y,m,hg⟩:=dR h (k:=n) (by omega)
 rw [litValue,if_pos hd] at hl
 rw [restrict,if_pos hd]
 dsimp only at hl ⊢
 rw [e2] at hl ⊢
 simp only [List.getD_eq_getElem?_getD,hg.lo,hg.hi,hg.modes,Option.getD_some] at hl ⊢
 have b1:=hg.lob
 have b2:=hg.hib
 unfold gM
 split
 ·rename_i hk
  rw [if_pos hk,qG] at hl
  simp only [decide_eq_false_iff_not] at hl
  have:=Eh (fun n:Int=>(62 - n).toNat) (v:=max x (clamped l.val)) hg.lo
  have hc:clamped l.val=l.val:=by unfold clamped;omega
  dsimp only at this ⊢
  rw [hc] at this ⊢
  omega
 split
 ·rename_i hk' hk
  rw [if_neg hk',if_pos hk,qG] at hl
  simp only [decide_eq_false_iff_not] at hl
  have:=Eh (fun n:Int=>(n+2).toNat) (v:=min y (clamped l.val)) hg.hi
  have hc:clamped l.val=l.val:=by unfold clamped;omega
  dsimp only at this ⊢
  rw [hc] at this ⊢
  omega
 split
 ·rename_i k1 k2 hk
  rw [if_neg k1,if_neg k2,if_pos hk,qG] at hl
  simp only [decide_eq_false_iff_not,Bool.not_eq_false',List.contains_iff_mem] at hl
  rw [KC hg hl.2]
  obtain⟨w,hw,hwv⟩:=other hg.mok hl.2 hl.1
  have hless:=Ht (f:=fun n=>decide (n=l.val)) hw (by simpa using hwv)
  have:=Eh List.length (v:=m.filter fun n=>decide (n=l.val)) hg.modes
  dsimp only at this ⊢
  omega
 split
 ·rename_i k1 k2 k3 hk
  rw [if_neg k1,if_neg k2,if_neg k3,if_pos hk,qG] at hl
  simp only [decide_eq_false_iff_not,Bool.not_eq_false',List.contains_iff_mem] at hl
  rw [KC hg hl.1]
  have hless:=Ht (f:=fun n=>decide (n≠l.val)) hl.1 (by simp)
  have:=Eh List.length (v:=m.filter fun n=>decide (n≠l.val)) hg.modes
  dsimp only at this ⊢
  omega
 ·exfalso;omega
theorem mD (l:List Lit) (d:Dom):Con 46 [.d (lits l),.ref d.av] (.d (.bool (bites d l))):=by
 refine con Tryz.func46 rfl rfl Tryz.call46 rfl fun hwf=>?_
 (repeat' ((conv=>whnf);first|refine gA ?_|(refine gB ?_ ?_<;>intro h)|refine gC (nS d l) ?_|intro _))<;>try (conv=>whnf)
 all_goals (refine⟨?_,rfl,trivial⟩;simp [bites,dD,bq, *];try rfl)
theorem kK (l:List (List Lit)) (fc:Nat) (caps:List AV) (p:List Lit→Bool) (hc:∀x:List Lit,Con fc ([.d (lits x)]++caps.map .ref) (.d (.bool (p x)))):
  Con 45 [.d (.sl (l.map lits)),.fn fc caps] (.d (i64 (aQ p l 0))):=by
 refine con Tryz.func45 rfl rfl Tryz.call45 rfl fun hwf=>?_
 simp only [ARs.wf,AR.wf,AV.wf,AV.wfs,lm,lim] at hwf
 (conv=>whnf)
 refine aB [0,1,7] [] [] ?_
 (conv=>whnf)
 refine aA.go ((Nat)) (fun k=>(k≤l.length)∧(aQ p (l.drop k) k=aQ p l 0)) (fun k=>[(8,.data (i64 k))]) (fun _=>[]) (fun _=>[]) (fun k=>l.length - k) (0) ?_ ?_
 ·exact⟨by omega,rfl⟩
 rintro k ⟨hk,hi⟩
 (repeat' ((conv=>whnf);first|refine gA ?_|(refine gB ?_ ?_<;>intro h)|(refine gI ?_;intro x hx)|(refine gJ ?_;intro j x hj hx)|refine gV ?_|refine gC (hc x) ?_|intro _))<;>try (conv=>whnf)
 all_goals first
  |exact trivial
  |(refine⟨?_,rfl,trivial⟩;rw [aG (l:=l) (by assumption)] at hi;first|(simp_all [aQ];done)|(simp only [aQ, ← hi];clear hi;simp_all [aQ];done))
  |(refine⟨?_,rfl,trivial⟩;rw [au (l:=l) (by assumption)] at hi;first|(simp_all [aQ];done)|(simp only [aQ, ← hi];clear hi;simp_all [aQ];done))
  |(refine nx (k+1) ?_
    rw [au (l:=l) (by assumption)] at hi;refine⟨by omega,?_⟩;simp_all [aQ];done)
def RUp (r:Dom×Bool):RV:=.tup [.d r.1.av,.d (.bool r.2)]
theorem CF {α:Type} (p:α→Bool):∀(l:List α) (k:Nat),(l.find? p=none∧aQ p l k= -1)∨∃(n:Nat) (x:α),aQ p l k=(k+n:Nat)∧l[n]? =some x∧l.find? p=some x∧p x=true
 |[],k=>.inl ⟨rfl,rfl⟩
 |y::r,k=>by
  rw [aQ,List.find?_cons]
  cases h:p y with
  |true=>exact .inr ⟨0,y,by simp,rfl,rfl,h⟩
  |false=>
   simp only [Bool.false_eq_true,if_false]
   rcases CF p r (k+1) with⟨h1,h2⟩|⟨n,x,h1,h2,h3,h4⟩
   ·exact .inl ⟨h1,h2⟩
   ·exact .inr ⟨n+1,x,by rw [h1];congr 1;omega,by simpa using h2,h3,h4⟩
theorem LK {p:Proj} {b:Dom} (h:aC p b=true) {m:List Int} (hm:m∈b.modes):jk m=true:=by
 obtain⟨k,hk,rfl⟩:=List.getElem_of_mem hm
 obtain⟨a,x,y,m',hg⟩:=dR h (k:=k) (by have:=(bD h).2.2.2.1;omega)
 have:=hg.modes
 rw [List.getElem?_eq_getElem hk] at this
 cases this
 exact hg.mok
theorem yS {p:Proj} {b:Dom} {l:List Lit} (hf:aC p b=true) (hb:bites b l=true) (hs:¬(status b l).1 < 0):
  aC p (restrict b (status b l).2)=true∧gM (restrict b (status b l).2) < gM b:=by
 refine⟨gu hf _,LJ hf ?_⟩
 simp only [bites,Bool.or_eq_true,Bool.and_eq_true,decide_eq_true_eq,Bool.not_eq_true'] at hb
 rcases hb with hb|⟨h0,h1⟩
 ·exact absurd hb hs
 ·refine He (l:=l) (by rw [← h0]) fun e=>?_
  rw [e] at h1
  rw [jm.2 rfl] at h1
  cases h1
theorem mV (p:Proj) (list:List (List Lit)) (b:Dom) (hp:p.fine):Con 11 [.d p.av,.d (.sl (list.map lits)),.d b.av] (RUp (bX p list b)):=by
 refine con Tryz.func11 rfl rfl Tryz.call11 rfl fun hwf=>?_
 simp only [ARs.wf,AR.wf,AV.wf,AV.wfs,lm,lim] at hwf
 cases hf:aC p b with
 |false=>
  (repeat' ((conv=>whnf);first|refine gA ?_|(refine gB ?_ ?_<;>intro h)|(refine gI ?_;intro x hx)|(refine gJ ?_;intro j x hj hx)|refine gC (tq b) ?_|refine gC (bN p b hp) ?_|intro _))<;>try (conv=>whnf)
  rw [bX,if_neg (by simp [hf])]
  exact fv
 |true=>
  rw [bX,if_pos hf]
  (repeat' ((conv=>whnf);first|refine gA ?_|(refine gB ?_ ?_<;>intro h)|(refine gI ?_;intro x hx)|(refine gJ ?_;intro j x hj hx)|refine gC (tq b) ?_|refine gC (bN p b hp) ?_|intro _))<;>try (conv=>whnf)
  refine aB [1,6,8] [6] [] ?_
  (conv=>whnf)
  refine aA.go ((Dom)×(Nat)) (fun⟨d,n⟩=>(aC p d=true)∧(gM d < n)∧(nP list n d=nP list (gM b+1) b)) (fun _=>[]) (fun⟨d,n⟩=>[(8,(AV.cells d.av).map SV.data)]) (fun _=>[]) (fun⟨d,n⟩=>n) ⟨b,gM b+1⟩ ?_ ?_
  ·exact⟨hf,by omega,rfl⟩
  rintro⟨d,n⟩ ⟨hd,hn,hi⟩
  obtain⟨n,rfl⟩:∃m,n=m+1:=⟨n - 1,by omega⟩
  rw [nP,yD] at hi
  rcases CF (bites d) list 0 with⟨f1,f2⟩|⟨k,l,f1,f2,f3,f4⟩
  ·rw [f1] at hi
   (repeat' ((conv=>whnf);first|with_reducible refine Br.yes (decide_eq_true (by omega)) ?_|refine gA ?_|(refine gB ?_ ?_<;>intro h)|(refine gI ?_;intro x hx)|(refine gJ ?_;intro j x hj hx)|refine gC (bO d) ?_|refine gC (kK list 46 [d.av] _ fun x=>mD x d) ?_|intro _))<;>try (conv=>whnf)
   ·rw [if_pos h] at hi
    rw [← hi]
    exact fv
   ·rw [if_neg (Bool.eq_false_iff.1 h)] at hi
    rw [← hi]
    exact fv
  ·rw [f3] at hi
   by_cases hs:(status d l).1 < 0
   ·(repeat' ((conv=>whnf);first|with_reducible refine Br.no (decide_eq_false (by omega)) ?_|with_reducible refine Idx.got f2 (by rw [f1,Nat.zero_add]) ?_|refine gA ?_|(refine gB ?_ ?_<;>intro h)|(refine gI ?_;intro x hx)|(refine gJ ?_;intro j x hj hx)|refine gC (bO d) ?_|refine gC (kK list 46 [d.av] _ fun x=>mD x d) ?_|refine gC (nS d l) ?_|refine gC (uw d _) ?_|intro _))<;>try (conv=>whnf)
    ·rw [if_pos h] at hi
     rw [← hi]
     exact fv
    ·rw [if_neg (Bool.eq_false_iff.1 (by assumption))] at hi
     dsimp only at hi
     rw [if_pos hs] at hi
     rw [← hi]
     exact fv
    ·exact absurd hs (by assumption)
   ·(repeat' ((conv=>whnf);first|with_reducible refine Br.no (decide_eq_false (by omega)) ?_|with_reducible refine Idx.got f2 (by rw [f1,Nat.zero_add]) ?_|refine gA ?_|(refine gB ?_ ?_<;>intro h)|(refine gI ?_;intro x hx)|(refine gJ ?_;intro j x hj hx)|refine gC (bO d) ?_|refine gC (kK list 46 [d.av] _ fun x=>mD x d) ?_|refine gC (nS d l) ?_|refine gC (uw d _) ?_|intro _))<;>try (conv=>whnf)
    ·rw [if_pos h] at hi
     rw [← hi]
     exact fv
    ·have hnx:=yS hd f4 hs
     rw [if_neg (Bool.eq_false_iff.1 (by assumption))] at hi
     dsimp only at hi
     rw [if_neg hs] at hi
     refine nx ⟨restrict d (status d l).2,n⟩ ?_
     exact⟨hnx.1,by omega,hi⟩
def stepOf (list:List (List Lit)) (b:Dom):Int×Lit:=
 match list.find? (bites b) with
 |none=>(0,bq)
 |some l=>if (status b l).1 < 0 then (1,bq) else (2,(status b l).2)
theorem wG (list:List (List Lit)) (b:Dom):Con 180 [.d (.sl (list.map lits)),.d b.av] (Xg (stepOf list b)):=by
 refine con Tryz.func180 rfl rfl Tryz.call180 rfl fun hwf=>?_
 simp only [ARs.wf,AR.wf,AV.wf,AV.wfs,lm,lim] at hwf
 (repeat' ((conv=>whnf);first|refine gA ?_|(refine gB ?_ ?_<;>intro h)|(refine gI ?_;intro x hx)|(refine gJ ?_;intro j x hj hx)|refine gV ?_|intro _))<;>try (conv=>whnf)
 refine aB [3,5,10,11] [3,5] [] ?_
 (conv=>whnf)
 refine aA.go ((Nat)) (fun k=>(k≤list.length)∧(stepOf (list.drop k) b=stepOf list b)) (fun k=>[(12,.data (i64 k))]) (fun _=>[]) (fun _=>[]) (fun k=>list.length - k) (0) ?_ ?_
 ·exact⟨by omega,rfl⟩
 rintro k ⟨hk,hi⟩
 by_cases hlt:k < list.length
 ·obtain⟨x,hx⟩:∃x,list[k]? =some x:=⟨list[k]'hlt,by simp⟩
  rw [au hx,stepOf,List.find?_cons,Xd] at hi
  (repeat' ((conv=>whnf);first|with_reducible refine Idx.got hx rfl ?_|refine gA ?_|(refine gB ?_ ?_<;>intro h)|(refine gI ?_;intro x hx)|(refine gJ ?_;intro j x hj hx)|refine gV ?_|refine gC (Ew b x) ?_|intro _))<;>try (conv=>whnf)
  ·rw [decide_eq_true h] at hi
   simp only [Bool.true_or] at hi
   rw [if_pos (by omega)] at hi
   rw [← hi]
   exact fv
  ·rw [show (decide ((status b x).1= -1)||(decide ((status b x).1=0)&& !decide ((status b x).2.kind=0)))=false by simp [*]] at hi
   refine nx (k+1) ?_
   exact⟨by omega,hi⟩
  ·rw [show (decide ((status b x).1= -1)||(decide ((status b x).1=0)&& !decide ((status b x).2.kind=0)))=true by simp [*]] at hi
   dsimp only at hi
   rw [if_neg (by omega)] at hi
   rw [← hi]
   exact fv
  ·rw [show (decide ((status b x).1= -1)||(decide ((status b x).1=0)&& !decide ((status b x).2.kind=0)))=false by simp [*]] at hi
   refine nx (k+1) ?_
   exact⟨by omega,hi⟩
  ·exfalso;omega
 ·(repeat' ((conv=>whnf);first|(exfalso;omega)|refine gA ?_|(refine gB ?_ ?_<;>intro h)|(refine gI ?_;intro x hx)|(refine gJ ?_;intro j x hj hx)|refine gV ?_|intro _))<;>try (conv=>whnf)
  rw [← hi,nL hlt]
  exact fv
theorem CG (p:Proj) (list:List (List Lit)) (b:Dom) (hp:p.fine):Con 113 [.d p.av,.d (.sl (list.map lits)),.d b.av] (RUp (bX p list b)):=by
 refine con Tryz.func113 rfl rfl Tryz.call113 rfl fun hwf=>?_
 simp only [ARs.wf,AR.wf,AV.wf,AV.wfs,lm,lim] at hwf
 cases hf:aC p b with
 |false=>
  (repeat' ((conv=>whnf);first|refine gA ?_|(refine gB ?_ ?_<;>intro h)|refine gC (nR b) ?_|refine gC (dw p b hp) ?_|intro _))<;>try (conv=>whnf)
  rw [bX,if_neg (by simp [hf])]
  exact fv
 |true=>
  rw [bX,if_pos hf]
  (repeat' ((conv=>whnf);first|refine gA ?_|(refine gB ?_ ?_<;>intro h)|refine gC (nR b) ?_|refine gC (dw p b hp) ?_|intro _))<;>try (conv=>whnf)
  refine aB [1,6,8] [6] [] ?_
  (conv=>whnf)
  refine aA.go ((Dom)×(Nat)) (fun⟨d,n⟩=>(aC p d=true)∧(gM d < n)∧(nP list n d=nP list (gM b+1) b)) (fun _=>[]) (fun⟨d,n⟩=>[(8,(AV.cells d.av).map SV.data)]) (fun _=>[]) (fun⟨d,n⟩=>n) ⟨b,gM b+1⟩ ?_ ?_
  ·exact⟨hf,by omega,rfl⟩
  rintro⟨d,n⟩ ⟨hd,hn,hi⟩
  obtain⟨n,rfl⟩:∃m,n=m+1:=⟨n - 1,by omega⟩
  rw [nP,yD] at hi
  have hst:stepOf list d=(match list.find? (bites d) with|none=>(0,bq)|some l=>if (status d l).1 < 0 then (1,bq) else (2,(status d l).2)):=rfl
  rcases CF (bites d) list 0 with⟨f1,f2⟩|⟨k,l,f1,f2,f3,f4⟩
  ·rw [f1] at hi hst
   replace hst:stepOf list d=(0,bq):=hst
   have hS:=wG list d
   rw [hst] at hS
   (repeat' ((conv=>whnf);first|with_reducible refine Br.no (decide_eq_false (by omega)) ?_|with_reducible refine Br.yes (decide_eq_true (by omega)) ?_|refine gA ?_|(refine gB ?_ ?_<;>intro h)|refine gC (bZ d) ?_|refine gC (hS) ?_|intro _))<;>try (conv=>whnf)
   ·rw [if_pos h] at hi
    rw [← hi]
    exact fv
   ·rw [if_neg (Bool.eq_false_iff.1 h)] at hi
    rw [← hi]
    exact fv
  ·rw [f3] at hi hst
   by_cases hs:(status d l).1 < 0
   ·replace hst:stepOf list d=(1,bq):=by rw [hst];dsimp only;rw [if_pos hs]
    have hS:=wG list d
    rw [hst] at hS
    (repeat' ((conv=>whnf);first|with_reducible refine Br.no (decide_eq_false (by omega)) ?_|with_reducible refine Br.yes (decide_eq_true (by omega)) ?_|refine gA ?_|(refine gB ?_ ?_<;>intro h)|refine gC (bZ d) ?_|refine gC (hS) ?_|intro _))<;>try (conv=>whnf)
    ·rw [if_pos h] at hi
     rw [← hi]
     exact fv
    ·rw [if_neg (Bool.eq_false_iff.1 (by assumption))] at hi
     dsimp only at hi
     rw [if_pos hs] at hi
     rw [← hi]
     exact fv
   ·replace hst:stepOf list d=(2,(status d l).2):=by rw [hst];dsimp only;rw [if_neg hs]
    have hS:=wG list d
    rw [hst] at hS
    (repeat' ((conv=>whnf);first|with_reducible refine Br.no (decide_eq_false (by omega)) ?_|with_reducible refine Br.yes (decide_eq_true (by omega)) ?_|refine gA ?_|(refine gB ?_ ?_<;>intro h)|refine gC (bZ d) ?_|refine gC (hS) ?_|refine gC (iH d (status d l).2 (fun m hm=>LK hd (List.mem_of_getElem? hm))) ?_|intro _))<;>try (conv=>whnf)
    ·rw [if_pos h] at hi
     rw [← hi]
     exact fv
    ·have hnx:=yS hd f4 hs
     rw [if_neg (Bool.eq_false_iff.1 (by assumption))] at hi
     dsimp only at hi
     rw [if_neg hs] at hi
     refine nx ⟨restrict d (status d l).2,n⟩ ?_
     exact⟨hnx.1,by omega,hi⟩
end Go.Proofs.YtefgamefajmdkaaGreat.Abs
namespace Go.Proofs.YtefgamefajmdkaaGreat.Abs
open Go.Proofs
theorem Gm (l:List Lit):Con 42 [.d (lits l)] (.own 82 (l.map Lit.av)):=by
 refine con Tryz.func42 rfl rfl Tryz.call42 rfl fun hwf=>?_
 simp only [ARs.wf,AR.wf,AV.wf,AV.wfs,lm,lim] at hwf
 (repeat' ((conv=>whnf);first|refine gA ?_|refine YT.mk (fun h=>?_) ?_|(refine gB ?_ ?_<;>intro h)|refine gP ?_|intro _))<;>try (conv=>whnf)
 ·exact⟨h,rfl,trivial⟩
 ·exact⟨by simp,rfl,trivial⟩
theorem EJ (l:List Lin):Con 9 [.d (.sl (l.map Lin.av))] (.d (.sl ((l.map Lin.clause).map lits))):=by
 refine con Tryz.func9 rfl rfl Tryz.call9 rfl fun hwf=>?_
 simp only [ARs.wf,AR.wf,AV.wf,AV.wfs,lm,lim] at hwf
 (repeat' ((conv=>whnf);first|refine gA ?_|(refine gB ?_ ?_<;>intro h)|(refine gI ?_;intro x hx)|(refine gJ ?_;intro j x hj hx)|refine gP ?_|refine gV ?_|intro _))<;>try (conv=>whnf)
 refine aB [7,8] [] [6] ?_
 (conv=>whnf)
 refine aA.go ((Nat)) (fun k=>(k≤l.length)) (fun k=>[(9,.data (i64 k)),(3,.own 6 0)]) (fun _=>[]) (fun k=>[(6,48,(l.take k).map (fun x=>lits x.clause),0)]) (fun k=>l.length - k) (0) ?_ ?_
 ·exact Nat.zero_le _
 rintro k hk
 (repeat' ((conv=>whnf);first|refine gA ?_|(refine gB ?_ ?_<;>intro h)|(refine gI ?_;intro x hx)|(refine gJ ?_;intro j x hj hx)|refine gP ?_|refine gV ?_|refine gC (Gm x.clause) ?_|intro _))<;>try (conv=>whnf)
 ·refine nw (k+1) ?_ ?_
  ·(repeat' ((conv=>whnf)<;>(first|exact trivial|exact rfl|with_reducible refine And.intro ?_ ?_)))<;>((conv=>whnf)<;>(exact iF (fun x=>lits x.clause) hx))
  exact (by omega:k+1≤l.length)
 ·refine⟨?_,rfl,trivial⟩
  dsimp only
  rw [List.take_of_length_le (by omega)];simp [Function.comp_def]
theorem Pf (l:List Lin):Con 114 [.d (.sl (l.map Lin.av))] (.d (.sl ((l.map Lin.clause).map lits))):=by
 refine con Tryz.func114 rfl rfl Tryz.call114 rfl fun hwf=>?_
 simp only [ARs.wf,AR.wf,AV.wf,AV.wfs,lm,lim] at hwf
 (repeat' ((conv=>whnf);first|refine gA ?_|(refine gB ?_ ?_<;>intro h)|(refine gI ?_;intro x hx)|(refine gJ ?_;intro j x hj hx)|refine gP ?_|refine gV ?_|intro _))<;>try (conv=>whnf)
 refine aB [7,8] [] [6] ?_
 (conv=>whnf)
 refine aA.go ((Nat)) (fun k=>(k≤l.length)) (fun k=>[(9,.data (i64 k)),(3,.own 6 0)]) (fun _=>[]) (fun k=>[(6,48,(l.take k).map (fun x=>lits x.clause),0)]) (fun k=>l.length - k) (0) ?_ ?_
 ·exact Nat.zero_le _
 rintro k hk
 by_cases hlt:k < l.length
 ·obtain⟨x,hx⟩:∃x,l[k]? =some x:=⟨l[k]'hlt,by simp⟩
  have hm:=qE hwf.1.2 hx
  simp only [AV.wf,AV.wfs,List.length_map] at hm
  (repeat' ((conv=>whnf);first|with_reducible refine Idx.got hx rfl ?_|refine gA ?_|(refine gB ?_ ?_<;>intro h)|(refine gI ?_;intro x hx)|(refine gJ ?_;intro j x hj hx)|refine gP ?_|refine gV ?_|intro _))<;>try (conv=>whnf)
  ·refine nw (k+1) ?_ ?_
   ·(repeat' ((conv=>whnf)<;>(first|exact trivial|exact rfl|with_reducible refine And.intro ?_ ?_)))<;>((conv=>whnf)<;>(exact iF (fun x=>lits x.clause) hx))
   exact (by omega:k+1≤l.length)
  ·exfalso;omega
 ·(repeat' ((conv=>whnf);first|(exfalso;omega)|refine gA ?_|(refine gB ?_ ?_<;>intro h)|(refine gI ?_;intro x hx)|(refine gJ ?_;intro j x hj hx)|refine gP ?_|refine gV ?_|intro _))<;>try (conv=>whnf)
  refine⟨?_,rfl,trivial⟩
  dsimp only
  rw [List.take_of_length_le (by omega)];simp [Function.comp_def]
theorem Hu (p:Proj) (l:Lin) (hp:p.fine):Con 23 [.d p.av,.d l.av] (.d (.bool (rF p l))):=by
 refine con Tryz.func23 rfl rfl Tryz.call23 rfl fun hwf=>?_
 (repeat' ((conv=>whnf);first|refine gA ?_|(refine gB ?_ ?_<;>intro h)|refine gC (AL p l.clause hp) ?_|intro _))<;>try (conv=>whnf)
 all_goals refine⟨?_,rfl,trivial⟩
 all_goals (simp [rF,Jd, *];try rfl)
theorem Rz (p:Proj) (l:Lin) (hp:p.fine):Con 111 [.d p.av,.d l.av] (.d (.bool (rF p l))):=by
 refine con Tryz.func111 rfl rfl Tryz.call111 rfl fun hwf=>?_
 (repeat' ((conv=>whnf);first|refine gA ?_|(refine gB ?_ ?_<;>intro h)|refine gC (AO p l.clause hp) ?_|intro _))<;>try (conv=>whnf)
 all_goals refine⟨?_,rfl,trivial⟩
 all_goals (simp [rF,Jd, *];try rfl)
theorem rV (p:Proj) (ahead:List Lin) (l:Lin) (hp:p.fine):Con 19 [.d p.av,.d (.sl (ahead.map Lin.av)),.d l.av] (.d (i64 (aM p ahead l))):=by
 refine con Tryz.func19 rfl rfl Tryz.call19 rfl fun hwf=>?_
 simp only [ARs.wf,AR.wf,AV.wf,AV.wfs,lm,lim] at hwf
 (repeat' ((conv=>whnf);first|refine gA ?_|(refine gB ?_ ?_<;>intro h)|refine gC (dH p hp) ?_|refine gC (Hu p l hp) ?_|refine gC (Cz p l.rule l.clause hp) ?_|refine gC (EJ ahead) ?_|refine gC (rJ p l.clause hp) ?_|refine gC (mV p (ahead.map Lin.clause) (fT p l.clause) hp) ?_|intro _))<;>try (conv=>whnf)
 all_goals refine⟨?_,rfl,trivial⟩
 all_goals (simp [aM, *];try omega)
theorem yT (p:Proj) (ahead:List Lin) (l:Lin) (hp:p.fine):Con 41 [.d p.av,.d (.sl (ahead.map Lin.av)),.d l.av] (.d (i64 (aM p ahead l))):=by
 refine con Tryz.func41 rfl rfl Tryz.call41 rfl fun hwf=>?_
 simp only [ARs.wf,AR.wf,AV.wf,AV.wfs,lm,lim] at hwf
 (repeat' ((conv=>whnf);first|refine gA ?_|(refine gB ?_ ?_<;>intro h)|refine gC (dI p hp) ?_|refine gC (Rz p l hp) ?_|refine gC (CB p l.rule l.clause hp) ?_|refine gC (Pf ahead) ?_|refine gC (rU p l.clause hp) ?_|refine gC (CG p (ahead.map Lin.clause) (fT p l.clause) hp) ?_|intro _))<;>try (conv=>whnf)
 all_goals refine⟨?_,rfl,trivial⟩
 all_goals (simp [aM, *];try omega)
open Go.Proofs
theorem Pg {p:Proj} {all:List Lin} {k:Nat} {x:Lin} (h:all[k]? =some x):jd p all (all.drop k) k=if aM p (all.take k) x=0 then jd p all (all.drop (k+1)) (k+1) else (aM p (all.take k) x,(k:Int)):=by
 rw [au h,jd]
def YP (r:Int×Int):RV:=.tup [.d (i64 r.1),.d (i64 r.2)]
theorem Bd (p:Proj) (l:List Lin) (hp:p.fine):Con 21 [.d p.av,.d (.sl (l.map Lin.av))] (YP (mH p l)):=by
 refine con Tryz.func21 rfl rfl Tryz.call21 rfl fun hwf=>?_
 simp only [ARs.wf,AR.wf,AV.wf,AV.wfs,lm,lim] at hwf
 (repeat' ((conv=>whnf);first|refine gA ?_|(refine gB ?_ ?_<;>intro h)|(refine gI ?_;intro x hx)|(refine gJ ?_;intro j x hj hx)|refine gV ?_|refine gK ?_|intro _))<;>try (conv=>whnf)
 refine aB [1,2,9,10] [2] [] ?_
 (conv=>whnf)
 refine aA.go ((Nat)) (fun k=>(k≤l.length)∧(jd p l (l.drop k) k=mH p l)) (fun k=>[(11,.data (i64 k))]) (fun _=>[]) (fun _=>[]) (fun k=>l.length - k) (0) ?_ ?_
 ·exact⟨by omega,rfl⟩
 rintro k ⟨hk,hi⟩
 by_cases hlt:k < l.length
 ·obtain⟨x,hx⟩:∃x,l[k]? =some x:=⟨l[k]'hlt,by simp⟩
  rw [Pg hx] at hi
  have hc:=rV p (l.take k) x hp
  rw [← nM] at hc
  (repeat' ((conv=>whnf);first|with_reducible refine Idx.got hx rfl ?_|refine gA ?_|(refine gB ?_ ?_<;>intro h)|(refine gI ?_;intro x hx)|(refine gJ ?_;intro j x hj hx)|refine gV ?_|refine gK ?_|refine gC (hc) ?_|intro _))<;>try (conv=>whnf)
  ·refine nx (k+1) ?_
   rw [if_pos (by assumption)] at hi
   exact⟨by omega,hi⟩
  ·rw [if_neg (by assumption)] at hi
   rw [← hi]
   exact fv
  ·exfalso;omega
 ·(repeat' ((conv=>whnf);first|(exfalso;omega)|refine gA ?_|(refine gB ?_ ?_<;>intro h)|(refine gI ?_;intro x hx)|(refine gJ ?_;intro j x hj hx)|refine gV ?_|refine gK ?_|intro _))<;>try (conv=>whnf)
  rw [nL hlt,jd] at hi
  rw [← hi,show k=l.length by omega]
  (repeat' ((conv=>whnf)<;>(first|exact trivial|exact VC.nod (by kernel_rfl)|refine VC.mk rfl ?_|refine VC.mk (by simp) ?_)))
theorem KD (p:Proj) (l:List Lin) (hp:p.fine):Con 68 [.d p.av,.d (.sl (l.map Lin.av))] (.d (.bool (kG p l))):=by
 refine con Tryz.func68 rfl rfl Tryz.call68 rfl fun hwf=>?_
 (repeat' ((conv=>whnf);first|refine gA ?_|(refine gB ?_ ?_<;>intro h)|refine gC (Bd p l hp) ?_|intro _))<;>try (conv=>whnf)
 exact⟨rfl,rfl,trivial⟩
theorem wH (l:Lin):Con 70 [.d l.av] (.d (.bool (decide ((l.clause.length:Int)=0)))):=by
 refine con Tryz.func70 rfl rfl Tryz.call70 rfl fun hwf=>?_
 (repeat' ((conv=>whnf);first|refine gA ?_|(refine gB ?_ ?_<;>intro h)|intro _))<;>try (conv=>whnf)
 all_goals refine⟨?_,rfl,trivial⟩
 all_goals simp
theorem yU (l:List Lin) (fc:Nat) (caps:List AV) (p:Lin→Bool) (hc:∀x:Lin,Con fc ([.d x.av]++caps.map .ref) (.d (.bool (p x)))):
  Con 132 [.d (.sl (l.map Lin.av)),.fn fc caps] (.d (i64 (aQ p l 0))):=by
 refine con Tryz.func132 rfl rfl Tryz.call132 rfl fun hwf=>?_
 simp only [ARs.wf,AR.wf,AV.wf,AV.wfs,lm,lim] at hwf
 (conv=>whnf)
 refine aB [0,1,7] [] [] ?_
 (conv=>whnf)
 refine aA.go ((Nat)) (fun k=>(k≤l.length)∧(aQ p (l.drop k) k=aQ p l 0)) (fun k=>[(8,.data (i64 k))]) (fun _=>[]) (fun _=>[]) (fun k=>l.length - k) (0) ?_ ?_
 ·exact⟨by omega,rfl⟩
 rintro k ⟨hk,hi⟩
 (repeat' ((conv=>whnf);first|refine gA ?_|(refine gB ?_ ?_<;>intro h)|(refine gI ?_;intro x hx)|(refine gJ ?_;intro j x hj hx)|refine gV ?_|refine gC (hc x) ?_|intro _))<;>try (conv=>whnf)
 all_goals first
  |exact trivial
  |(refine⟨?_,rfl,trivial⟩;rw [aG (l:=l) (by assumption)] at hi;first|(simp_all [aQ];done)|(simp only [aQ, ← hi];clear hi;simp_all [aQ];done))
  |(refine⟨?_,rfl,trivial⟩;rw [au (l:=l) (by assumption)] at hi;first|(simp_all [aQ];done)|(simp only [aQ, ← hi];clear hi;simp_all [aQ];done))
  |(refine nx (k+1) ?_
    rw [au (l:=l) (by assumption)] at hi;refine⟨by omega,?_⟩;simp_all [aQ];done)
theorem uY (l:List Lin) (fc:Nat) (caps:List AV) (p:Lin→Bool) (hc:∀x:Lin,Con fc ([.d x.av]++caps.map .ref) (.d (.bool (p x)))):
  Con 69 [.d (.sl (l.map Lin.av)),.fn fc caps] (.d (.bool (l.any p))):=by
 refine con Tryz.func69 rfl rfl Tryz.call69 rfl fun hwf=>?_
 (repeat' ((conv=>whnf);first|refine gA ?_|(refine gB ?_ ?_<;>intro h)|refine gC (yU l fc caps p hc) ?_|intro _))<;>try (conv=>whnf)
 refine⟨?_,rfl,trivial⟩
 rw [← uR l 0]
theorem xK (p:Proj) (l:List Lin) (hp:p.fine):Con 22 [.d p.av,.d (.sl (l.map Lin.av))] (.d (.bool (jU p l))):=by
 refine con Tryz.func22 rfl rfl Tryz.call22 rfl fun hwf=>?_
 (repeat' ((conv=>whnf);first|refine gA ?_|(refine gB ?_ ?_<;>intro h)|refine gC (KD p l hp) ?_|refine gC (uY l 70 [] _ fun x=>wH x) ?_|intro _))<;>try (conv=>whnf)
 all_goals refine⟨?_,rfl,trivial⟩
 all_goals simp [jU, *]
end Go.Proofs.YtefgamefajmdkaaGreat.Abs
namespace Go.Proofs.YtefgamefajmdkaaGreat.Abs
open Go.Proofs
open Go.Proofs
end Go.Proofs.YtefgamefajmdkaaGreat.Abs
