/- Contracts: restricted domains. -/
import Derived.Test.YtgkfifiobmklcaaGreatC11
import Derived.Test.YtgkfifiobmklcaaGreatPlain
set_option linter.all false
set_option maxRecDepth 20000
set_option maxHeartbeats 0
namespace Go.Proofs.YtgkfifiobmklcaaGreat.Abs
open Go.Proofs
theorem Mi {p:Proj} {b:Dom} (h1:aG p=true) (h2:b.lo.length=p.acts.length) (h3:b.hi.length=p.acts.length) (h4:b.modes.length=p.acts.length) (h5:∀k,k < p.acts.length→rE p b k=true):ak p b=true:=by
 simp only [ak,Bool.and_eq_true,bL,Bool.not_eq_true',decide_eq_false_iff_not]
 exact⟨⟨⟨⟨h1,by omega⟩,by omega⟩,by omega⟩,h5⟩
theorem Cv {m:List Int} {r:List Int} (f:Int→Bool) (h:subset m r=true):subset (m.filter f) r=true:=by
 simp only [subset,List.all_eq_true] at h ⊢
 intro x hx
 exact h x (List.mem_filter.1 hx).1
theorem nE {p:Proj} {b:Dom} (h:ak p b=true) (l:Lit):ak p (restrict b l)=true:=by
 obtain⟨h1,h2,h3,h4,h5⟩:=dA h
 unfold restrict
 split
 ·rename_i hd
  obtain⟨n,e1,e2,e3,e4,e5⟩:=Pk hd
  have hc:=VL l.val
  have hn:n < p.acts.length:=by omega
  have hdn:=h5 n hn
  have g1:b.lo[n]? =some (b.lo[n]'e3):=by simp
  have g2:b.hi[n]? =some (b.hi[n]'e4):=by simp
  have g3:b.modes[n]? =some (b.modes[n]'e5):=by simp
  have g4:p.acts[n]? =some (p.acts[n]'hn):=by simp
  simp only [rE,g1,g2,g3,g4,Bool.and_eq_true,oG,within_iff] at hdn
  dsimp only
  rw [e2]
  simp only [List.getD_eq_getElem?_getD,g1,g2,g3,Option.getD_some]
  have key:∀b':Dom,b'.lo.length=b.lo.length→b'.hi.length=b.hi.length→b'.modes.length=b.modes.length→(∀k,k≠n→b'.lo[k]? =b.lo[k]? ∧b'.hi[k]? =b.hi[k]? ∧b'.modes[k]? =b.modes[k]?)→rE p b' n=true→ak p b'=true:=by
   intro b' k1 k2 k3 k4 k5
   refine Mi h1 (by omega) (by omega) (by omega) fun k hk=>?_
   by_cases e:k=n
   ·rw [e];exact k5
   ·obtain⟨j1,j2,j3⟩:=k4 k e
    have:=h5 k hk
    simp only [rE,j1,j2,j3] at this ⊢
    exact this
  split
  ·refine key _ (by simp) rfl rfl (fun k hk=>⟨by simp [List.getElem?_set,Ne.symm hk],rfl,rfl⟩) ?_
   simp only [rE,List.getElem?_set_self e3,g2,g3,g4,Bool.and_eq_true,oG,within_iff]
   exact⟨⟨⟨by omega,hdn.1.1.2⟩,hdn.1.2⟩,hdn.2⟩
  split
  ·refine key _ rfl (by simp) rfl (fun k hk=>⟨rfl,by simp [List.getElem?_set,Ne.symm hk],rfl⟩) ?_
   simp only [rE,List.getElem?_set_self e4,g1,g3,g4,Bool.and_eq_true,oG,within_iff]
   exact⟨⟨⟨hdn.1.1.1,by omega⟩,hdn.1.2⟩,hdn.2⟩
  split
  ·refine key _ rfl rfl (by simp) (fun k hk=>⟨rfl,rfl,by simp [List.getElem?_set,Ne.symm hk]⟩) ?_
   simp only [rE,List.getElem?_set_self e5,g1,g2,g4,Bool.and_eq_true,oG,within_iff]
   exact⟨⟨hdn.1.1,Fe hdn.1.2⟩,Cv _ hdn.2⟩
  split
  ·refine key _ rfl rfl (by simp) (fun k hk=>⟨rfl,rfl,by simp [List.getElem?_set,Ne.symm hk]⟩) ?_
   simp only [rE,List.getElem?_set_self e5,g1,g2,g4,Bool.and_eq_true,oG,within_iff]
   exact⟨⟨hdn.1.1,Fe hdn.1.2⟩,Cv _ hdn.2⟩
  ·exact h
 ·exact h
open Go.Proofs
theorem rQ {a b:Bool}:valueOf a b=0↔a=false∧b=false:=by cases a<;>cases b<;>simp [valueOf]
theorem Jk {m:List Int} {f:Int→Bool} {v:Int} (hv:v∈m) (h:f v=false):(m.filter f).length < m.length:=by
 rw [List.length_filter_lt_length_iff_exists]
 exact⟨v,hv,by simp [h]⟩
theorem other {m:List Int} {v:Int} (hs:nT m=true) (hv:v∈m) (hne:m≠[v]):∃w∈m,w≠v:=by
 have hp:=tu hs
 match m,hv,hne,hp with
 |[x],hv,hne,_=>simp at hv;subst hv;exact absurd rfl hne
 |x::y::r,_,_,hp=>
  have:x < y:=(List.pairwise_cons.1 hp).1 y (by simp)
  by_cases e:x=v
  ·exact⟨y,by simp,by omega⟩
  ·exact⟨x,by simp,e⟩
theorem Mj {p:Proj} {b:Dom} {k:Nat} {a:aF} {x y:Int} {m:List Int} (hg:gL p b k a x y m) {v:Int} (hv:v∈m):clamped v=v:=by
 obtain⟨j,e,hj⟩:=hg.acI v hv
 have:=hg.aok
 simp only [bT,Bool.and_eq_true,within_iff] at this
 unfold clamped;omega
theorem NY {p:Proj} {b:Dom} (h:ak p b=true) {l:Lit} (hl:litValue b l=0):gD (restrict b l) < gD b:=by
 obtain⟨hd,hk1,hk2⟩:=NS hl
 obtain⟨n,e1,e2,e3,e4,e5⟩:=Pk hd
 obtain⟨h1,h2,h3,h4,h5⟩:=dA h
 obtain⟨a,x,y,m,hg⟩:=dL h (k:=n) (by omega)
 rw [litValue,if_pos hd] at hl
 rw [restrict,if_pos hd]
 dsimp only at hl ⊢
 rw [e2] at hl ⊢
 simp only [List.getD_eq_getElem?_getD,hg.lo,hg.hi,hg.modes,Option.getD_some] at hl ⊢
 have b1:=hg.lob
 have b2:=hg.hib
 unfold gD
 split
 ·rename_i hk
  rw [if_pos hk,rQ] at hl
  simp only [decide_eq_false_iff_not] at hl
  have:=EP (fun n:Int=>(62 - n).toNat) (v:=max x (clamped l.val)) hg.lo
  have hc:clamped l.val=l.val:=by unfold clamped;omega
  dsimp only at this ⊢
  rw [hc] at this ⊢
  omega
 split
 ·rename_i hk' hk
  rw [if_neg hk',if_pos hk,rQ] at hl
  simp only [decide_eq_false_iff_not] at hl
  have:=EP (fun n:Int=>(n+2).toNat) (v:=min y (clamped l.val)) hg.hi
  have hc:clamped l.val=l.val:=by unfold clamped;omega
  dsimp only at this ⊢
  rw [hc] at this ⊢
  omega
 split
 ·rename_i k1 k2 hk
  rw [if_neg k1,if_neg k2,if_pos hk,rQ] at hl
  simp only [decide_eq_false_iff_not,Bool.not_eq_false',List.contains_iff_mem] at hl
  rw [Mj hg hl.2]
  obtain⟨w,hw,hwv⟩:=other hg.mok hl.2 hl.1
  have hless:=Jk (f:=fun n=>decide (n=l.val)) hw (by simpa using hwv)
  have:=EP List.length (v:=m.filter fun n=>decide (n=l.val)) hg.modes
  dsimp only at this ⊢
  omega
 split
 ·rename_i k1 k2 k3 hk
  rw [if_neg k1,if_neg k2,if_neg k3,if_pos hk,rQ] at hl
  simp only [decide_eq_false_iff_not,Bool.not_eq_false',List.contains_iff_mem] at hl
  rw [Mj hg hl.1]
  have hless:=Jk (f:=fun n=>decide (n≠l.val)) hl.1 (by simp)
  have:=EP List.length (v:=m.filter fun n=>decide (n≠l.val)) hg.modes
  dsimp only at this ⊢
  omega
 ·exfalso;omega
theorem mR (l:List Lit) (d:Dom):Con 130 [.d (lits l),.ref d.av] (.d (.bool (bites d l))):=by
 refine con Tryz.func130 rfl rfl Tryz.call130 rfl fun hwf=>?_
 (repeat' ((conv=>whnf);first|refine gA ?_|(refine gB ?_ ?_<;>intro h)|refine gC (lC d l) ?_|intro _))<;>try (conv=>whnf)
 all_goals (refine⟨?_,rfl,trivial⟩;simp [bites,bM,bV, *];try rfl)
theorem kW (l:List (List Lit)) (fc:Nat) (caps:List AV) (p:List Lit→Bool) (hc:∀x:List Lit,Con fc ([.d (lits x)]++caps.map .ref) (.d (.bool (p x)))):
  Con 129 [.d (.sl (l.map lits)),.fn fc caps] (.d (i64 (aQ p l 0))):=by
 refine con Tryz.func129 rfl rfl Tryz.call129 rfl fun hwf=>?_
 simp only [ARs.wf,AR.wf,AV.wf,AV.wfs,lm,lim] at hwf
 (conv=>whnf)
 refine aB [0,1,7] [] [] ?_
 (conv=>whnf)
 refine aA.go ((Nat)) (fun k=>(k≤l.length)∧(aQ p (l.drop k) k=aQ p l 0)) (fun k=>[(8,.data (i64 k))]) (fun _=>[]) (fun _=>[]) (fun k=>l.length - k) (0) ?_ ?_
 ·exact⟨by omega,rfl⟩
 rintro k ⟨hk,hi⟩
 (repeat' ((conv=>whnf);first|refine gA ?_|(refine gB ?_ ?_<;>intro h)|(refine gI ?_;intro x hx)|(refine gJ ?_;intro j x hj hx)|refine gV ?_|refine gC (hc x) ?_|intro _))<;>try (conv=>whnf)
 all_goals first
  |exact trivial
  |(refine⟨?_,rfl,trivial⟩;rw [aP (l:=l) (by assumption)] at hi;first|(simp_all [aQ];done)|(simp only [aQ, ← hi];clear hi;simp_all [aQ];done))
  |(refine⟨?_,rfl,trivial⟩;rw [ay (l:=l) (by assumption)] at hi;first|(simp_all [aQ];done)|(simp only [aQ, ← hi];clear hi;simp_all [aQ];done))
  |(refine nx (k+1) ?_
    rw [ay (l:=l) (by assumption)] at hi;refine⟨by omega,?_⟩;simp_all [aQ];done)
def RUp (r:Dom×Bool):RV:=.tup [.d r.1.av,.d (.bool r.2)]
theorem Mk {α:Type} (p:α→Bool):∀(l:List α) (k:Nat),(l.find? p=none∧aQ p l k= -1)∨∃(n:Nat) (x:α),aQ p l k=(k+n:Nat)∧l[n]? =some x∧l.find? p=some x∧p x=true
 |[],k=>.inl ⟨rfl,rfl⟩
 |y::r,k=>by
  rw [aQ,List.find?_cons]
  cases h:p y with
  |true=>exact .inr ⟨0,y,by simp,rfl,rfl,h⟩
  |false=>
   simp only [Bool.false_eq_true,if_false]
   rcases Mk p r (k+1) with⟨h1,h2⟩|⟨n,x,h1,h2,h3,h4⟩
   ·exact .inl ⟨h1,h2⟩
   ·exact .inr ⟨n+1,x,by rw [h1];congr 1;omega,by simpa using h2,h3,h4⟩
theorem NZ {p:Proj} {b:Dom} (h:ak p b=true) {m:List Int} (hm:m∈b.modes):nT m=true:=by
 obtain⟨k,hk,rfl⟩:=List.getElem_of_mem hm
 obtain⟨a,x,y,m',hg⟩:=dL h (k:=k) (by have:=(dA h).2.2.2.1;omega)
 have:=hg.modes
 rw [List.getElem?_eq_getElem hk] at this
 cases this
 exact hg.mok
theorem Jl {p:Proj} {b:Dom} {l:List Lit} (hf:ak p b=true) (hb:bites b l=true) (hs:¬(status b l).1 < 0):
  ak p (restrict b (status b l).2)=true∧gD (restrict b (status b l).2) < gD b:=by
 refine⟨nE hf _,NY hf ?_⟩
 simp only [bites,Bool.or_eq_true,Bool.and_eq_true,decide_eq_true_eq,Bool.not_eq_true'] at hb
 rcases hb with hb|⟨h0,h1⟩
 ·exact absurd hb hs
 ·refine TI (l:=l) (by rw [← h0]) fun e=>?_
  rw [e] at h1
  rw [iI.2 rfl] at h1
  cases h1
theorem tK (p:Proj) (list:List (List Lit)) (b:Dom) (hp:p.fine):Con 52 [.d p.av,.d (.sl (list.map lits)),.d b.av] (RUp (ji p list b)):=by
 refine con Tryz.func52 rfl rfl Tryz.call52 rfl fun hwf=>?_
 simp only [ARs.wf,AR.wf,AV.wf,AV.wfs,lm,lim] at hwf
 cases hf:ak p b with
 |false=>
  (repeat' ((conv=>whnf);first|refine gA ?_|(refine gB ?_ ?_<;>intro h)|(refine gI ?_;intro x hx)|(refine gJ ?_;intro j x hj hx)|refine gC (qH b) ?_|refine gC (aY p b hp) ?_|intro _))<;>try (conv=>whnf)
  rw [ji,if_neg (by simp [hf])]
  exact fv
 |true=>
  rw [ji,if_pos hf]
  (repeat' ((conv=>whnf);first|refine gA ?_|(refine gB ?_ ?_<;>intro h)|(refine gI ?_;intro x hx)|(refine gJ ?_;intro j x hj hx)|refine gC (qH b) ?_|refine gC (aY p b hp) ?_|intro _))<;>try (conv=>whnf)
  refine aB [1,6,8] [6] [] ?_
  (conv=>whnf)
  refine aA.go ((Dom)×(Nat)) (fun⟨d,n⟩=>(ak p d=true)∧(gD d < n)∧(sW list n d=sW list (gD b+1) b)) (fun _=>[]) (fun⟨d,n⟩=>[(8,(AV.cells d.av).map SV.data)]) (fun _=>[]) (fun⟨d,n⟩=>n) ⟨b,gD b+1⟩ ?_ ?_
  ·exact⟨hf,by omega,rfl⟩
  rintro⟨d,n⟩ ⟨hd,hn,hi⟩
  obtain⟨n,rfl⟩:∃m,n=m+1:=⟨n - 1,by omega⟩
  rw [sW,iP] at hi
  rcases Mk (bites d) list 0 with⟨f1,f2⟩|⟨k,l,f1,f2,f3,f4⟩
  ·rw [f1] at hi
   (repeat' ((conv=>whnf);first|with_reducible refine Br.yes (decide_eq_true (by omega)) ?_|refine gA ?_|(refine gB ?_ ?_<;>intro h)|(refine gI ?_;intro x hx)|(refine gJ ?_;intro j x hj hx)|refine gC (bD d) ?_|refine gC (kW list 130 [d.av] _ fun x=>mR x d) ?_|intro _))<;>try (conv=>whnf)
   ·rw [if_pos h] at hi
    rw [← hi]
    exact fv
   ·rw [if_neg (Bool.eq_false_iff.1 h)] at hi
    rw [← hi]
    exact fv
  ·rw [f3] at hi
   by_cases hs:(status d l).1 < 0
   ·(repeat' ((conv=>whnf);first|with_reducible refine Br.no (decide_eq_false (by omega)) ?_|with_reducible refine Idx.got f2 (by rw [f1,Nat.zero_add]) ?_|refine gA ?_|(refine gB ?_ ?_<;>intro h)|(refine gI ?_;intro x hx)|(refine gJ ?_;intro j x hj hx)|refine gC (bD d) ?_|refine gC (kW list 130 [d.av] _ fun x=>mR x d) ?_|refine gC (lC d l) ?_|refine gC (fB d _) ?_|intro _))<;>try (conv=>whnf)
    ·rw [if_pos h] at hi
     rw [← hi]
     exact fv
    ·rw [if_neg (Bool.eq_false_iff.1 (by assumption))] at hi
     dsimp only at hi
     rw [if_pos hs] at hi
     rw [← hi]
     exact fv
    ·exact absurd hs (by assumption)
   ·(repeat' ((conv=>whnf);first|with_reducible refine Br.no (decide_eq_false (by omega)) ?_|with_reducible refine Idx.got f2 (by rw [f1,Nat.zero_add]) ?_|refine gA ?_|(refine gB ?_ ?_<;>intro h)|(refine gI ?_;intro x hx)|(refine gJ ?_;intro j x hj hx)|refine gC (bD d) ?_|refine gC (kW list 130 [d.av] _ fun x=>mR x d) ?_|refine gC (lC d l) ?_|refine gC (fB d _) ?_|intro _))<;>try (conv=>whnf)
    ·rw [if_pos h] at hi
     rw [← hi]
     exact fv
    ·have hnx:=Jl hd f4 hs
     rw [if_neg (Bool.eq_false_iff.1 (by assumption))] at hi
     dsimp only at hi
     rw [if_neg hs] at hi
     refine nx ⟨restrict d (status d l).2,n⟩ ?_
     exact⟨hnx.1,by omega,hi⟩
end Go.Proofs.YtgkfifiobmklcaaGreat.Abs
namespace Go.Proofs.YtgkfifiobmklcaaGreat.Abs
open Go.Proofs
theorem wG (l:List Lit):Con 75 [.d (lits l)] (.own 39 (l.map Lit.av)):=by
 refine con Tryz.func75 rfl rfl Tryz.call75 rfl fun hwf=>?_
 simp only [ARs.wf,AR.wf,AV.wf,AV.wfs,lm,lim] at hwf
 (repeat' ((conv=>whnf);first|refine gA ?_|refine XI.mk (fun h=>?_) ?_|(refine gB ?_ ?_<;>intro h)|refine gP ?_|intro _))<;>try (conv=>whnf)
 ·exact⟨h,rfl,trivial⟩
 ·exact⟨by simp,rfl,trivial⟩
theorem FD (l:List Lin):Con 53 [.d (.sl (l.map Lin.av))] (.d (.sl ((l.map Lin.clause).map lits))):=by
 refine con Tryz.func53 rfl rfl Tryz.call53 rfl fun hwf=>?_
 simp only [ARs.wf,AR.wf,AV.wf,AV.wfs,lm,lim] at hwf
 (repeat' ((conv=>whnf);first|refine gA ?_|(refine gB ?_ ?_<;>intro h)|(refine gI ?_;intro x hx)|(refine gJ ?_;intro j x hj hx)|refine gP ?_|refine gV ?_|intro _))<;>try (conv=>whnf)
 refine aB [7,8] [] [6] ?_
 (conv=>whnf)
 refine aA.go ((Nat)) (fun k=>(k≤l.length)) (fun k=>[(9,.data (i64 k)),(3,.own 6 0)]) (fun _=>[]) (fun k=>[(6,33,(l.take k).map (fun x=>lits x.clause),0)]) (fun k=>l.length - k) (0) ?_ ?_
 ·exact Nat.zero_le _
 rintro k hk
 (repeat' ((conv=>whnf);first|refine gA ?_|(refine gB ?_ ?_<;>intro h)|(refine gI ?_;intro x hx)|(refine gJ ?_;intro j x hj hx)|refine gP ?_|refine gV ?_|refine gC (wG x.clause) ?_|intro _))<;>try (conv=>whnf)
 ·refine nw (k+1) ?_ ?_
  ·(repeat' ((conv=>whnf)<;>(first|exact trivial|exact rfl|with_reducible refine And.intro ?_ ?_)))<;>((conv=>whnf)<;>(exact gX (fun x=>lits x.clause) hx))
  exact (by omega:k+1≤l.length)
 ·refine⟨?_,rfl,trivial⟩
  dsimp only
  rw [List.take_of_length_le (by omega)];simp [Function.comp_def]
theorem Ug (p:Proj) (l:Lin) (hp:p.fine):Con 185 [.d p.av,.d l.av] (.d (.bool (Dl p l))):=by
 refine con Tryz.func185 rfl rfl Tryz.call185 rfl fun hwf=>?_
 (repeat' ((conv=>whnf);first|refine gA ?_|(refine gB ?_ ?_<;>intro h)|refine gC (Co p l.clause hp) ?_|intro _))<;>try (conv=>whnf)
 all_goals refine⟨?_,rfl,trivial⟩
 all_goals (simp [Dl,Kr, *];try rfl)
theorem oN (p:Proj) (ahead:List Lin) (l:Lin) (hp:p.fine):Con 132 [.d p.av,.d (.sl (ahead.map Lin.av)),.d l.av] (.d (i64 (aH p ahead l))):=by
 refine con Tryz.func132 rfl rfl Tryz.call132 rfl fun hwf=>?_
 simp only [ARs.wf,AR.wf,AV.wf,AV.wfs,lm,lim] at hwf
 (repeat' ((conv=>whnf);first|refine gA ?_|(refine gB ?_ ?_<;>intro h)|refine gC (bE p hp) ?_|refine gC (Ug p l hp) ?_|refine gC (tJ p l.rule l.clause hp) ?_|refine gC (FD ahead) ?_|refine gC (nL p l.clause hp) ?_|refine gC (tK p (ahead.map Lin.clause) (fq p l.clause) hp) ?_|intro _))<;>try (conv=>whnf)
 all_goals refine⟨?_,rfl,trivial⟩
 all_goals (simp [aH, *];try omega)
open Go.Proofs
theorem Rv {p:Proj} {all:List Lin} {k:Nat} {x:Lin} (h:all[k]? =some x):iZ p all (all.drop k) k=if aH p (all.take k) x=0 then iZ p all (all.drop (k+1)) (k+1) else (aH p (all.take k) x,(k:Int)):=by
 rw [ay h,iZ]
def adX (r:Int×Int):RV:=.tup [.d (i64 r.1),.d (i64 r.2)]
theorem Oa (p:Proj) (l:List Lin) (hp:p.fine):Con 128 [.d p.av,.d (.sl (l.map Lin.av))] (adX (wz p l)):=by
 refine con Tryz.func128 rfl rfl Tryz.call128 rfl fun hwf=>?_
 simp only [ARs.wf,AR.wf,AV.wf,AV.wfs,lm,lim] at hwf
 (repeat' ((conv=>whnf);first|refine gA ?_|(refine gB ?_ ?_<;>intro h)|(refine gI ?_;intro x hx)|(refine gJ ?_;intro j x hj hx)|refine gV ?_|refine gK ?_|intro _))<;>try (conv=>whnf)
 refine aB [1,2,9,10] [2] [] ?_
 (conv=>whnf)
 refine aA.go ((Nat)) (fun k=>(k≤l.length)∧(iZ p l (l.drop k) k=wz p l)) (fun k=>[(11,.data (i64 k))]) (fun _=>[]) (fun _=>[]) (fun k=>l.length - k) (0) ?_ ?_
 ·exact⟨by omega,rfl⟩
 rintro k ⟨hk,hi⟩
 by_cases hlt:k < l.length
 ·obtain⟨x,hx⟩:∃x,l[k]? =some x:=⟨l[k]'hlt,by simp⟩
  rw [Rv hx] at hi
  have hc:=oN p (l.take k) x hp
  rw [← xH] at hc
  (repeat' ((conv=>whnf);first|with_reducible refine Idx.got hx rfl ?_|refine gA ?_|(refine gB ?_ ?_<;>intro h)|(refine gI ?_;intro x hx)|(refine gJ ?_;intro j x hj hx)|refine gV ?_|refine gK ?_|refine gC (hc) ?_|intro _))<;>try (conv=>whnf)
  ·refine nx (k+1) ?_
   rw [if_pos (by assumption)] at hi
   exact⟨by omega,hi⟩
  ·rw [if_neg (by assumption)] at hi
   rw [← hi]
   exact fv
  ·exfalso;omega
 ·(repeat' ((conv=>whnf);first|(exfalso;omega)|refine gA ?_|(refine gB ?_ ?_<;>intro h)|(refine gI ?_;intro x hx)|(refine gJ ?_;intro j x hj hx)|refine gV ?_|refine gK ?_|intro _))<;>try (conv=>whnf)
  rw [sU hlt,iZ] at hi
  rw [← hi,show k=l.length by omega]
  (repeat' ((conv=>whnf)<;>(first|exact trivial|exact VC.nod (by kernel_rfl)|refine VC.mk rfl ?_|refine VC.mk (by simp) ?_)))
theorem Ml (p:Proj) (l:List Lin) (hp:p.fine):Con 51 [.d p.av,.d (.sl (l.map Lin.av))] (.d (.bool (mE p l))):=by
 refine con Tryz.func51 rfl rfl Tryz.call51 rfl fun hwf=>?_
 (repeat' ((conv=>whnf);first|refine gA ?_|(refine gB ?_ ?_<;>intro h)|refine gC (Oa p l hp) ?_|intro _))<;>try (conv=>whnf)
 exact⟨rfl,rfl,trivial⟩
end Go.Proofs.YtgkfifiobmklcaaGreat.Abs
namespace Go.Proofs.YtgkfifiobmklcaaGreat.Abs
open Go.Proofs
theorem uJ (l:List Step):Con 154 [.d (.sl (l.map Step.av))] (.own 146 (l.map Step.av)):=by
 refine con Tryz.func154 rfl rfl Tryz.call154 rfl fun hwf=>?_
 simp only [ARs.wf,AR.wf,AV.wf,AV.wfs,lm,lim] at hwf
 (repeat' ((conv=>whnf);first|refine gA ?_|refine XI.mk (fun h=>?_) ?_|(refine gB ?_ ?_<;>intro h)|refine gP ?_|intro _))<;>try (conv=>whnf)
 ·exact⟨h,rfl,trivial⟩
 ·exact⟨by simp,rfl,trivial⟩
theorem uK (l:List Link):Con 153 [.d (.sl (l.map Link.av))] (.own 136 (l.map Link.av)):=by
 refine con Tryz.func153 rfl rfl Tryz.call153 rfl fun hwf=>?_
 simp only [ARs.wf,AR.wf,AV.wf,AV.wfs,lm,lim] at hwf
 (repeat' ((conv=>whnf);first|refine gA ?_|refine XI.mk (fun h=>?_) ?_|(refine gB ?_ ?_<;>intro h)|refine gP ?_|intro _))<;>try (conv=>whnf)
 ·exact⟨h,rfl,trivial⟩
 ·exact⟨by simp,rfl,trivial⟩
theorem jd {α:Type} {l o:List α} {k:Nat} {x:α} (h:l[k]? =some x) (ho:o=l.take k):o++[x]=l.take (k+1):=by
 rw [ho,List.take_add_one,h];rfl
theorem kQ {α:Type} {l o:List α} {k:Nat} (h:¬ k < l.length) (ho:o=l.take k):o=l:=by
 rw [ho,List.take_of_length_le (by omega)]
theorem take_len {α:Type} {l o:List α} {k:Nat} (ho:o=l.take k):o.length≤k:=by rw [ho];simp;omega
theorem yP (p:Proj):Con 79 [.d p.av] (.d p.av):=by
 refine con Tryz.func79 rfl rfl Tryz.call79 rfl fun hwf=>?_
 simp only [ARs.wf,AR.wf,AV.wf,AV.wfs,lm,lim] at hwf
 (repeat' ((conv=>whnf);first|refine gA ?_|(refine gB ?_ ?_<;>intro h)|(refine gI ?_;intro x hx)|(refine gJ ?_;intro j x hj hx)|refine gP ?_|refine gV ?_|refine gC (uK p.links) ?_|refine gC (slices_Clone_int p.aX) ?_|intro _))<;>try (conv=>whnf)
 refine aB [1,2,3,24,25] [1,2] [61,19000,22000] ?_
 (conv=>whnf)
 refine aA.go ((Nat)×(List aF)) (fun⟨k,o⟩=>(k≤p.acts.length)∧(o=p.acts.take k)) (fun⟨k,o⟩=>[(26,.data (i64 k))]) (fun⟨k,o⟩=>[(3,[.data (i64 p.dead),.own 61 0,.own 19000 0,.ah,.own 22000 0])]) (fun⟨k,o⟩=>[(61,133,o.map aF.av,0),(19000,136,p.links.map Link.av,0),(22000,3,p.aX.map i64,0)]) (fun⟨k,o⟩=>p.acts.length - k) ⟨0,[]⟩ ?_ ?_
 ·exact⟨Nat.zero_le _,rfl⟩
 rintro⟨k,o⟩ ⟨hk,ho⟩
 by_cases hlt:k < p.acts.length
 ·obtain⟨a,ha⟩:∃a,p.acts[k]? =some a:=⟨p.acts[k]'hlt,by simp⟩
  have hol:=take_len ho
  have hwa:=mI hwf.1.2.1.2 ha
  simp only [AV.wf,AV.wfs,List.length_map] at hwa
  (repeat' ((conv=>whnf);first|with_reducible refine Idx.got ha rfl ?_|(exfalso;omega)|refine gA ?_|(refine gB ?_ ?_<;>intro h)|(refine gI ?_;intro x hx)|(refine gJ ?_;intro j x hj hx)|refine gP ?_|refine gV ?_|intro _))<;>try (conv=>whnf)
  refine aB [1,2,3,6,24,25,26,36,37] [1,2,3] [54] ?_
  (conv=>whnf)
  refine aA.go ((Nat)×(List Mode)) (fun⟨j,q⟩=>(j≤a.modes.length)∧(q=a.modes.take j)) (fun⟨j,q⟩=>[(38,.data (i64 j))]) (fun⟨j,q⟩=>[(6,[.data (.str a.name),.data (i64 a.fam),.own 54 0])]) (fun⟨j,q⟩=>[(54,191,q.map Mode.av,0)]) (fun⟨j,q⟩=>a.modes.length - j) ⟨0,[]⟩ ?_ ?_
  ·exact⟨Nat.zero_le _,rfl⟩
  rintro⟨j,q⟩ ⟨hj,hq⟩
  have hql:=take_len hq
  by_cases hjt:j < a.modes.length
  ·obtain⟨m,hm⟩:∃m,a.modes[j]? =some m:=⟨a.modes[j]'hjt,by simp⟩
   (repeat' ((conv=>whnf);first|with_reducible refine Idx.got hm rfl ?_|(exfalso;omega)|refine gA ?_|(refine gB ?_ ?_<;>intro h)|(refine gI ?_;intro x hx)|(refine gJ ?_;intro j x hj hx)|refine gP ?_|refine gV ?_|refine gC (slices_Clone_int m.use) ?_|refine gC (slices_Clone_int m.con) ?_|intro _))<;>try (conv=>whnf)
   refine nw ⟨j+1,q++[m]⟩ ?_ ?_
   ·(repeat' ((conv=>whnf)<;>(first|exact trivial|exact rfl|with_reducible refine And.intro ?_ ?_)))<;>((conv=>whnf)<;>(simp))
   exact⟨by omega,jd hm hq⟩
  ·obtain rfl:=kQ hjt hq
   (repeat' ((conv=>whnf);first|(exfalso;omega)|refine gA ?_|(refine gB ?_ ?_<;>intro h)|(refine gI ?_;intro x hx)|(refine gJ ?_;intro j x hj hx)|refine gP ?_|refine gV ?_|intro _))<;>try (conv=>whnf)
   refine nw ⟨k+1,o++[a]⟩ ?_ ?_
   ·(repeat' ((conv=>whnf)<;>(first|exact trivial|exact rfl|with_reducible refine And.intro ?_ ?_)))<;>((conv=>whnf)<;>(simp))
   exact⟨by omega,jd ha ho⟩
 obtain rfl:=kQ hlt ho
 (repeat' ((conv=>whnf);first|(exfalso;omega)|refine gA ?_|(refine gB ?_ ?_<;>intro h)|(refine gI ?_;intro x hx)|(refine gJ ?_;intro j x hj hx)|refine gP ?_|refine gV ?_|intro _))<;>try (conv=>whnf)
 refine aB [2,3,65,66] [2] [61,19000,94,22000] ?_
 (conv=>whnf)
 refine aA.go ((Nat)×(List dN)) (fun⟨r,o⟩=>(r≤p.bC.length)∧(o=p.bC.take r)) (fun⟨r,o⟩=>[(67,.data (i64 r))]) (fun⟨r,o⟩=>[(3,[.data (i64 p.dead),.own 61 0,.own 19000 0,.own 94 0,.own 22000 0])]) (fun⟨r,o⟩=>[(61,133,p.acts.map aF.av,0),(19000,136,p.links.map Link.av,0),(94,128,o.map dN.av,0),(22000,3,p.aX.map i64,0)]) (fun⟨r,o⟩=>p.bC.length - r) ⟨0,[]⟩ ?_ ?_
 ·exact⟨Nat.zero_le _,rfl⟩
 rintro⟨r,o⟩ ⟨hk,ho⟩
 by_cases hlt:r < p.bC.length
 ·obtain⟨a,ha⟩:∃a,p.bC[r]? =some a:=⟨p.bC[r]'hlt,by simp⟩
  have hol:=take_len ho
  have hwa:=mI hwf.1.2.2.2.1.2 ha
  simp only [AV.wf,AV.wfs,List.length_map] at hwa
  (repeat' ((conv=>whnf);first|with_reducible refine Idx.got ha rfl ?_|(exfalso;omega)|refine gA ?_|(refine gB ?_ ?_<;>intro h)|(refine gI ?_;intro x hx)|(refine gJ ?_;intro j x hj hx)|refine gP ?_|refine gV ?_|refine gC (uJ a.steps) ?_|intro _))<;>try (conv=>whnf)
  refine aB [2,3,11,65,66,67,76,77] [2,3] [74000,87] ?_
  (conv=>whnf)
  refine aA.go ((Nat)×(List (List Int))) (fun⟨j,q⟩=>(j≤a.setup.length)∧(q=a.setup.take j)) (fun⟨j,q⟩=>[(78,.data (i64 j))]) (fun⟨j,q⟩=>[(11,[.own 74000 0,.own 87 0])]) (fun⟨j,q⟩=>[(74000,146,a.steps.map Step.av,0),(87,26,q.map ints,0)]) (fun⟨j,q⟩=>a.setup.length - j) ⟨0,[]⟩ ?_ ?_
  ·exact⟨Nat.zero_le _,rfl⟩
  rintro⟨j,q⟩ ⟨hj,hq⟩
  have hql:=take_len hq
  by_cases hjt:j < a.setup.length
  ·obtain⟨m,hm⟩:∃m,a.setup[j]? =some m:=⟨a.setup[j]'hjt,by simp⟩
   (repeat' ((conv=>whnf);first|with_reducible refine Idx.got hm rfl ?_|(exfalso;omega)|refine gA ?_|(refine gB ?_ ?_<;>intro h)|(refine gI ?_;intro x hx)|(refine gJ ?_;intro j x hj hx)|refine gP ?_|refine gV ?_|refine gC (slices_Clone_int m) ?_|intro _))<;>try (conv=>whnf)
   refine nw ⟨j+1,q++[m]⟩ ?_ ?_
   ·(repeat' ((conv=>whnf)<;>(first|exact trivial|exact rfl|with_reducible refine And.intro ?_ ?_)))<;>((conv=>whnf)<;>(simp))
   exact⟨by omega,jd hm hq⟩
  ·obtain rfl:=kQ hjt hq
   (repeat' ((conv=>whnf);first|(exfalso;omega)|refine gA ?_|(refine gB ?_ ?_<;>intro h)|(refine gI ?_;intro x hx)|(refine gJ ?_;intro j x hj hx)|refine gP ?_|refine gV ?_|intro _))<;>try (conv=>whnf)
   refine nw ⟨r+1,o++[a]⟩ ?_ ?_
   ·(repeat' ((conv=>whnf)<;>(first|exact trivial|exact rfl|with_reducible refine And.intro ?_ ?_)))<;>((conv=>whnf)<;>(simp))
   exact⟨by omega,jd ha ho⟩
 obtain rfl:=kQ hlt ho
 (repeat' ((conv=>whnf);first|(exfalso;omega)|refine gA ?_|(refine gB ?_ ?_<;>intro h)|(refine gI ?_;intro x hx)|(refine gJ ?_;intro j x hj hx)|refine gP ?_|refine gV ?_|intro _))<;>try (conv=>whnf)
 exact⟨rfl,rfl,trivial⟩
theorem Rw (a:aF):Con 161 [.d a.av] (.d a.av):=by
 refine con Tryz.func161 rfl rfl Tryz.call161 rfl fun hwf=>?_
 simp only [ARs.wf,AR.wf,AV.wf,AV.wfs,lm,lim] at hwf
 (repeat' ((conv=>whnf);first|refine gA ?_|(refine gB ?_ ?_<;>intro h)|(refine gI ?_;intro x hx)|(refine gJ ?_;intro j x hj hx)|refine gP ?_|refine gV ?_|intro _))<;>try (conv=>whnf)
 refine aB [2,3,12,13] [2] [32] ?_
 (conv=>whnf)
 refine aA.go ((Nat)×(List Mode)) (fun⟨j,q⟩=>(j≤a.modes.length)∧(q=a.modes.take j)) (fun⟨j,q⟩=>[(14,.data (i64 j))]) (fun⟨j,q⟩=>[(3,[.data (.str a.name),.data (i64 a.fam),.own 32 0])]) (fun⟨j,q⟩=>[(32,191,q.map Mode.av,0)]) (fun⟨j,q⟩=>a.modes.length - j) ⟨0,[]⟩ ?_ ?_
 ·exact⟨Nat.zero_le _,rfl⟩
 rintro⟨j,q⟩ ⟨hj,hq⟩
 have hql:=take_len hq
 by_cases hjt:j < a.modes.length
 ·obtain⟨m,hm⟩:∃m,a.modes[j]? =some m:=⟨a.modes[j]'hjt,by simp⟩
  have hwm:=mI hwf.1.2.2.1.2 hm
  simp only [AV.wf,AV.wfs,List.length_map] at hwm
  (repeat' ((conv=>whnf);first|with_reducible refine Idx.got hm rfl ?_|(exfalso;omega)|refine gA ?_|(refine gB ?_ ?_<;>intro h)|(refine gI ?_;intro x hx)|(refine gJ ?_;intro j x hj hx)|refine gP ?_|refine gV ?_|intro _))<;>try (conv=>whnf)
  refine nw ⟨j+1,q++[m]⟩ ?_ ?_
  ·(repeat' ((conv=>whnf)<;>(first|exact trivial|exact rfl|with_reducible refine And.intro ?_ ?_)))<;>((conv=>whnf)<;>(simp))
  exact⟨by omega,jd hm hq⟩
 ·obtain rfl:=kQ hjt hq
  (repeat' ((conv=>whnf);first|(exfalso;omega)|refine gA ?_|(refine gB ?_ ?_<;>intro h)|(refine gI ?_;intro x hx)|(refine gJ ?_;intro j x hj hx)|refine gP ?_|refine gV ?_|intro _))<;>try (conv=>whnf)
  exact⟨rfl,rfl,trivial⟩
theorem FE (p:Proj):Con 88 [.d p.av] (.d p.av):=by
 refine con Tryz.func88 rfl rfl Tryz.call88 rfl fun hwf=>?_
 simp only [ARs.wf,AR.wf,AV.wf,AV.wfs,lm,lim] at hwf
 (repeat' ((conv=>whnf);first|refine gA ?_|(refine gB ?_ ?_<;>intro h)|(refine gI ?_;intro x hx)|(refine gJ ?_;intro j x hj hx)|refine gP ?_|refine gV ?_|intro _))<;>try (conv=>whnf)
 refine aB [1,2,3,23,24] [1,2] [34,13,17] ?_
 (conv=>whnf)
 refine aA.go ((Nat)×(List aF)) (fun⟨k,o⟩=>(k≤p.acts.length)∧(o=p.acts.take k)) (fun⟨k,o⟩=>[(25,.data (i64 k))]) (fun⟨k,o⟩=>[(3,[.data (i64 p.dead),.own 34 0,.own 13 0,.ah,.own 17 0])]) (fun⟨k,o⟩=>[(34,133,o.map aF.av,0),(13,136,p.links.map Link.av,0),(17,3,p.aX.map i64,0)]) (fun⟨k,o⟩=>p.acts.length - k) ⟨0,[]⟩ ?_ ?_
 ·exact⟨Nat.zero_le _,rfl⟩
 rintro⟨k,o⟩ ⟨hk,ho⟩
 have hol:=take_len ho
 by_cases hlt:k < p.acts.length
 ·obtain⟨a,ha⟩:∃a,p.acts[k]? =some a:=⟨p.acts[k]'hlt,by simp⟩
  (repeat' ((conv=>whnf);first|with_reducible refine Idx.got ha rfl ?_|(exfalso;omega)|refine gA ?_|(refine gB ?_ ?_<;>intro h)|(refine gI ?_;intro x hx)|(refine gJ ?_;intro j x hj hx)|refine gP ?_|refine gV ?_|refine gC (Rw a) ?_|intro _))<;>try (conv=>whnf)
  refine nw ⟨k+1,o++[a]⟩ ?_ ?_
  ·(repeat' ((conv=>whnf)<;>(first|exact trivial|exact rfl|with_reducible refine And.intro ?_ ?_)))<;>((conv=>whnf)<;>(simp))
  exact⟨by omega,jd ha ho⟩
 obtain rfl:=kQ hlt ho
 (repeat' ((conv=>whnf);first|(exfalso;omega)|refine gA ?_|(refine gB ?_ ?_<;>intro h)|(refine gI ?_;intro x hx)|(refine gJ ?_;intro j x hj hx)|refine gP ?_|refine gV ?_|intro _))<;>try (conv=>whnf)
 refine aB [2,3,38,39] [2] [34,13,69,17] ?_
 (conv=>whnf)
 refine aA.go ((Nat)×(List dN)) (fun⟨r,o⟩=>(r≤p.bC.length)∧(o=p.bC.take r)) (fun⟨r,o⟩=>[(40,.data (i64 r))]) (fun⟨r,o⟩=>[(3,[.data (i64 p.dead),.own 34 0,.own 13 0,.own 69 0,.own 17 0])]) (fun⟨r,o⟩=>[(34,133,p.acts.map aF.av,0),(13,136,p.links.map Link.av,0),(69,128,o.map dN.av,0),(17,3,p.aX.map i64,0)]) (fun⟨r,o⟩=>p.bC.length - r) ⟨0,[]⟩ ?_ ?_
 ·exact⟨Nat.zero_le _,rfl⟩
 rintro⟨r,o⟩ ⟨hk,ho⟩
 by_cases hlt:r < p.bC.length
 ·obtain⟨a,ha⟩:∃a,p.bC[r]? =some a:=⟨p.bC[r]'hlt,by simp⟩
  have hol:=take_len ho
  have hwa:=mI hwf.1.2.2.2.1.2 ha
  simp only [AV.wf,AV.wfs,List.length_map] at hwa
  (repeat' ((conv=>whnf);first|with_reducible refine Idx.got ha rfl ?_|(exfalso;omega)|refine gA ?_|(refine gB ?_ ?_<;>intro h)|(refine gI ?_;intro x hx)|(refine gJ ?_;intro j x hj hx)|refine gP ?_|refine gV ?_|intro _))<;>try (conv=>whnf)
  refine aB [2,3,8,38,39,40,50,51] [2,3] [44,62] ?_
  (conv=>whnf)
  refine aA.go ((Nat)×(List (List Int))) (fun⟨j,q⟩=>(j≤a.setup.length)∧(q=a.setup.take j)) (fun⟨j,q⟩=>[(52,.data (i64 j))]) (fun⟨j,q⟩=>[(8,[.own 44 0,.own 62 0])]) (fun⟨j,q⟩=>[(44,146,a.steps.map Step.av,0),(62,26,q.map ints,0)]) (fun⟨j,q⟩=>a.setup.length - j) ⟨0,[]⟩ ?_ ?_
  ·exact⟨Nat.zero_le _,rfl⟩
  rintro⟨j,q⟩ ⟨hj,hq⟩
  have hql:=take_len hq
  by_cases hjt:j < a.setup.length
  ·obtain⟨m,hm⟩:∃m,a.setup[j]? =some m:=⟨a.setup[j]'hjt,by simp⟩
   have hwm:=mI hwa.2.1.2 hm
   simp only [AV.wf,AV.wfs,List.length_map] at hwm
   (repeat' ((conv=>whnf);first|with_reducible refine Idx.got hm rfl ?_|(exfalso;omega)|refine gA ?_|(refine gB ?_ ?_<;>intro h)|(refine gI ?_;intro x hx)|(refine gJ ?_;intro j x hj hx)|refine gP ?_|refine gV ?_|intro _))<;>try (conv=>whnf)
   refine nw ⟨j+1,q++[m]⟩ ?_ ?_
   ·(repeat' ((conv=>whnf)<;>(first|exact trivial|exact rfl|with_reducible refine And.intro ?_ ?_)))<;>((conv=>whnf)<;>(simp))
   exact⟨by omega,jd hm hq⟩
  ·obtain rfl:=kQ hjt hq
   (repeat' ((conv=>whnf);first|(exfalso;omega)|refine gA ?_|(refine gB ?_ ?_<;>intro h)|(refine gI ?_;intro x hx)|(refine gJ ?_;intro j x hj hx)|refine gP ?_|refine gV ?_|intro _))<;>try (conv=>whnf)
   refine nw ⟨r+1,o++[a]⟩ ?_ ?_
   ·(repeat' ((conv=>whnf)<;>(first|exact trivial|exact rfl|with_reducible refine And.intro ?_ ?_)))<;>((conv=>whnf)<;>(simp))
   exact⟨by omega,jd ha ho⟩
 obtain rfl:=kQ hlt ho
 (repeat' ((conv=>whnf);first|(exfalso;omega)|refine gA ?_|(refine gB ?_ ?_<;>intro h)|(refine gI ?_;intro x hx)|(refine gJ ?_;intro j x hj hx)|refine gP ?_|refine gV ?_|intro _))<;>try (conv=>whnf)
 exact⟨rfl,rfl,trivial⟩
open Go.Proofs
def adY:Lin:=⟨0,⟨0,0,0,0⟩,[]⟩
def HV (ls:List Lin) (i:Int):Lin:=ls.getD i.toNat adY
def Xr (ls:List Lin) (idx:List Int):List Lin:=idx.map (HV ls)
def without (o:List Int) (n:Int):List Int:=o.filter fun k=>decide (k≠n)
theorem Uh {n:Nat} {x:Int} (h:x∈upTo n):0≤x∧x < n:=by
 simp only [upTo,List.mem_map,List.mem_range] at h
 obtain⟨k,h1,rfl⟩:=h
 exact⟨Int.natCast_nonneg k,Int.ofNat_lt.2 h1⟩
theorem Mq {α β:Type} (f:α→β) {l:List α} {k:Nat} {x:α} (h:l[k]? =some x):(l.take k).map f++[f x]=(l.take (k+1)).map f:=by
 obtain⟨hk,rfl⟩:=List.getElem?_eq_some_iff.1 h
 rw [List.take_succ_eq_append_getElem hk,List.map_append];rfl
theorem Wm {ls:List Lin} {i:Int} {x:Lin} (h:ls[i.toNat]? =some x):HV ls i=x:=by simp [HV,List.getD_eq_getElem?_getD,h]
theorem Rx (l:Lin):Con 216 [.d l.av] (.d l.av):=by
 refine con Tryz.func216 rfl rfl Tryz.call216 rfl fun hwf=>?_
 simp only [ARs.wf,AR.wf,AV.wf,AV.wfs,lm,lim] at hwf
 (repeat' ((conv=>whnf);first|refine gA ?_|(refine gB ?_ ?_<;>intro h)|refine gP ?_|intro _))<;>try (conv=>whnf)
 all_goals exact⟨by simp,rfl,trivial⟩
end Go.Proofs.YtgkfifiobmklcaaGreat.Abs
