/- Contracts: restricted domains. -/
import Derived.Test.YtefgamefajmdkaaGreatC11
import Derived.Test.YtefgamefajmdkaaGreatPlain
set_option linter.all false
set_option maxRecDepth 20000
set_option maxHeartbeats 0
namespace Go.Proofs.YtefgamefajmdkaaGreat.Abs
open Go.Proofs
theorem PZ {p:Proj} {b:Dom} (h1:bC p=true) (h2:b.lo.length=p.acts.length) (h3:b.hi.length=p.acts.length) (h4:b.modes.length=p.acts.length) (h5:∀k,k < p.acts.length→qy p b k=true):aS p b=true:=by
 simp only [aS,Bool.and_eq_true,dO,Bool.not_eq_true',decide_eq_false_iff_not]
 exact⟨⟨⟨⟨h1,by omega⟩,by omega⟩,by omega⟩,h5⟩
theorem xY {m:List Int} {r:List Int} (f:Int→Bool) (h:subset m r=true):subset (m.filter f) r=true:=by
 simp only [subset,List.all_eq_true] at h ⊢
 intro x hx
 exact h x (List.mem_filter.1 hx).1
theorem Iq {p:Proj} {b:Dom} (h:aS p b=true) (l:Lit):aS p (restrict b l)=true:=by
 obtain⟨h1,h2,h3,h4,h5⟩:=bF h
 unfold restrict
 split
 ·rename_i hd
  obtain⟨n,e1,e2,e3,e4,e5⟩:=JF hd
  have hc:=PD l.val
  have hn:n < p.acts.length:=by omega
  have hdn:=h5 n hn
  have g1:b.lo[n]? =some (b.lo[n]'e3):=by simp
  have g2:b.hi[n]? =some (b.hi[n]'e4):=by simp
  have g3:b.modes[n]? =some (b.modes[n]'e5):=by simp
  have g4:p.acts[n]? =some (p.acts[n]'hn):=by simp
  simp only [qy,g1,g2,g3,g4,Bool.and_eq_true,oo,within_iff] at hdn
  dsimp only
  rw [e2]
  simp only [List.getD_eq_getElem?_getD,g1,g2,g3,Option.getD_some]
  have key:∀b':Dom,b'.lo.length=b.lo.length→b'.hi.length=b.hi.length→b'.modes.length=b.modes.length→(∀k,k≠n→b'.lo[k]? =b.lo[k]? ∧b'.hi[k]? =b.hi[k]? ∧b'.modes[k]? =b.modes[k]?)→qy p b' n=true→aS p b'=true:=by
   intro b' k1 k2 k3 k4 k5
   refine PZ h1 (by omega) (by omega) (by omega) fun k hk=>?_
   by_cases e:k=n
   ·rw [e];exact k5
   ·obtain⟨j1,j2,j3⟩:=k4 k e
    have:=h5 k hk
    simp only [qy,j1,j2,j3] at this ⊢
    exact this
  split
  ·refine key _ (by simp) rfl rfl (fun k hk=>⟨by simp [List.getElem?_set,Ne.symm hk],rfl,rfl⟩) ?_
   simp only [qy,List.getElem?_set_self e3,g2,g3,g4,Bool.and_eq_true,oo,within_iff]
   exact⟨⟨⟨by omega,hdn.1.1.2⟩,hdn.1.2⟩,hdn.2⟩
  split
  ·refine key _ rfl (by simp) rfl (fun k hk=>⟨rfl,by simp [List.getElem?_set,Ne.symm hk],rfl⟩) ?_
   simp only [qy,List.getElem?_set_self e4,g1,g3,g4,Bool.and_eq_true,oo,within_iff]
   exact⟨⟨⟨hdn.1.1.1,by omega⟩,hdn.1.2⟩,hdn.2⟩
  split
  ·refine key _ rfl rfl (by simp) (fun k hk=>⟨rfl,rfl,by simp [List.getElem?_set,Ne.symm hk]⟩) ?_
   simp only [qy,List.getElem?_set_self e5,g1,g2,g4,Bool.and_eq_true,oo,within_iff]
   exact⟨⟨hdn.1.1,Am hdn.1.2⟩,xY _ hdn.2⟩
  split
  ·refine key _ rfl rfl (by simp) (fun k hk=>⟨rfl,rfl,by simp [List.getElem?_set,Ne.symm hk]⟩) ?_
   simp only [qy,List.getElem?_set_self e5,g1,g2,g4,Bool.and_eq_true,oo,within_iff]
   exact⟨⟨hdn.1.1,Am hdn.1.2⟩,xY _ hdn.2⟩
  ·exact h
 ·exact h
open Go.Proofs
theorem oC {a b:Bool}:valueOf a b=0↔a=false∧b=false:=by cases a<;>cases b<;>simp [valueOf]
theorem Dz {m:List Int} {f:Int→Bool} {v:Int} (hv:v∈m) (h:f v=false):(m.filter f).length < m.length:=by
 rw [List.length_filter_lt_length_iff_exists]
 exact⟨v,hv,by simp [h]⟩
theorem other {m:List Int} {v:Int} (hs:vo m=true) (hv:v∈m) (hne:m≠[v]):∃w∈m,w≠v:=by
 have hp:=FQ hs
 match m,hv,hne,hp with
 |[x],hv,hne,_=>simp at hv;subst hv;exact absurd rfl hne
 |x::y::r,_,_,hp=>
  have:x < y:=(List.pairwise_cons.1 hp).1 y (by simp)
  by_cases e:x=v
  ·exact⟨y,by simp,by omega⟩
  ·exact⟨x,by simp,e⟩
theorem Gb {p:Proj} {b:Dom} {k:Nat} {a:aB} {x y:Int} {m:List Int} (hg:dX p b k a x y m) {v:Int} (hv:v∈m):clamped v=v:=by
 obtain⟨j,e,hj⟩:=hg.UO v hv
 have:=hg.aok
 simp only [cB,Bool.and_eq_true,within_iff] at this
 unfold clamped;omega
theorem Ir {p:Proj} {b:Dom} (h:aS p b=true) {l:Lit} (hl:litValue b l=0):lI (restrict b l) < lI b:=by
 obtain⟨hd,hk1,hk2⟩:=Im hl
 obtain⟨n,e1,e2,e3,e4,e5⟩:=JF hd
 obtain⟨h1,h2,h3,h4,h5⟩:=bF h
 obtain⟨a,x,y,m,hg⟩:=gY h (k:=n) (by omega)
 rw [litValue,if_pos hd] at hl
 rw [restrict,if_pos hd]
 dsimp only at hl ⊢
 rw [e2] at hl ⊢
 simp only [List.getD_eq_getElem?_getD,hg.lo,hg.hi,hg.modes,Option.getD_some] at hl ⊢
 have b1:=hg.lob
 have b2:=hg.hib
 unfold lI
 split
 ·rename_i hk
  rw [if_pos hk,oC] at hl
  simp only [decide_eq_false_iff_not] at hl
  have:=Ae (fun n:Int=>(62 - n).toNat) (v:=max x (clamped l.val)) hg.lo
  have hc:clamped l.val=l.val:=by unfold clamped;omega
  dsimp only at this ⊢
  rw [hc] at this ⊢
  omega
 split
 ·rename_i hk' hk
  rw [if_neg hk',if_pos hk,oC] at hl
  simp only [decide_eq_false_iff_not] at hl
  have:=Ae (fun n:Int=>(n+2).toNat) (v:=min y (clamped l.val)) hg.hi
  have hc:clamped l.val=l.val:=by unfold clamped;omega
  dsimp only at this ⊢
  rw [hc] at this ⊢
  omega
 split
 ·rename_i k1 k2 hk
  rw [if_neg k1,if_neg k2,if_pos hk,oC] at hl
  simp only [decide_eq_false_iff_not,Bool.not_eq_false',List.contains_iff_mem] at hl
  rw [Gb hg hl.2]
  obtain⟨w,hw,hwv⟩:=other hg.mok hl.2 hl.1
  have hless:=Dz (f:=fun n=>decide (n=l.val)) hw (by simpa using hwv)
  have:=Ae List.length (v:=m.filter fun n=>decide (n=l.val)) hg.modes
  dsimp only at this ⊢
  omega
 split
 ·rename_i k1 k2 k3 hk
  rw [if_neg k1,if_neg k2,if_neg k3,if_pos hk,oC] at hl
  simp only [decide_eq_false_iff_not,Bool.not_eq_false',List.contains_iff_mem] at hl
  rw [Gb hg hl.1]
  have hless:=Dz (f:=fun n=>decide (n≠l.val)) hl.1 (by simp)
  have:=Ae List.length (v:=m.filter fun n=>decide (n≠l.val)) hg.modes
  dsimp only at this ⊢
  omega
 ·exfalso;omega
theorem jZ (l:List Lit) (d:Dom):Con 46 [.d (lits l),.ref d.av] (.d (.bool (bites d l))):=by
 refine con Tryz.func46 rfl rfl Tryz.call46 rfl fun hwf=>?_
 (repeat' ((conv=>whnf);first|refine gA ?_|(refine gB ?_ ?_<;>intro h)|refine gC (jo d l) ?_|intro _))<;>try (conv=>whnf)
 all_goals (refine⟨?_,rfl,trivial⟩;simp [bites,bD,fB, *];try rfl)
theorem jk (l:List (List Lit)) (fc:Nat) (caps:List AV) (p:List Lit→Bool) (hc:∀x:List Lit,Con fc ([.d (lits x)]++caps.map .ref) (.d (.bool (p x)))):
  Con 45 [.d (.sl (l.map lits)),.fn fc caps] (.d (i64 (aJ p l 0))):=by
 refine con Tryz.func45 rfl rfl Tryz.call45 rfl fun hwf=>?_
 simp only [ARs.wf,AR.wf,AV.wf,AV.wfs,lm,lim] at hwf
 (conv=>whnf)
 refine aA [0,1,7] [] [] ?_
 (conv=>whnf)
 refine ay.go ((Nat)) (fun k=>(k≤l.length)∧(aJ p (l.drop k) k=aJ p l 0)) (fun k=>[(8,.data (i64 k))]) (fun _=>[]) (fun _=>[]) (fun k=>l.length - k) (0) ?_ ?_
 ·exact⟨by omega,rfl⟩
 rintro k ⟨hk,hi⟩
 (repeat' ((conv=>whnf);first|refine gA ?_|(refine gB ?_ ?_<;>intro h)|(refine gI ?_;intro x hx)|(refine gJ ?_;intro j x hj hx)|refine gV ?_|refine gC (hc x) ?_|intro _))<;>try (conv=>whnf)
 all_goals first
  |exact trivial
  |(refine⟨?_,rfl,trivial⟩;rw [aU (l:=l) (by assumption)] at hi;first|(simp_all [aJ];done)|(simp only [aJ, ← hi];clear hi;simp_all [aJ];done))
  |(refine⟨?_,rfl,trivial⟩;rw [aC (l:=l) (by assumption)] at hi;first|(simp_all [aJ];done)|(simp only [aJ, ← hi];clear hi;simp_all [aJ];done))
  |(refine nx (k+1) ?_
    rw [aC (l:=l) (by assumption)] at hi;refine⟨by omega,?_⟩;simp_all [aJ];done)
def RUp (r:Dom×Bool):RV:=.tup [.d r.1.av,.d (.bool r.2)]
theorem Gc {α:Type} (p:α→Bool):∀(l:List α) (k:Nat),(l.find? p=none∧aJ p l k= -1)∨∃(n:Nat) (x:α),aJ p l k=(k+n:Nat)∧l[n]? =some x∧l.find? p=some x∧p x=true
 |[],k=>.inl ⟨rfl,rfl⟩
 |y::r,k=>by
  rw [aJ,List.find?_cons]
  cases h:p y with
  |true=>exact .inr ⟨0,y,by simp,rfl,rfl,h⟩
  |false=>
   simp only [Bool.false_eq_true,if_false]
   rcases Gc p r (k+1) with⟨h1,h2⟩|⟨n,x,h1,h2,h3,h4⟩
   ·exact .inl ⟨h1,h2⟩
   ·exact .inr ⟨n+1,x,by rw [h1];congr 1;omega,by simpa using h2,h3,h4⟩
theorem Oe {p:Proj} {b:Dom} {l:List Lit} (hf:aS p b=true) (hb:bites b l=true) (hs:¬(status b l).1 < 0):
  aS p (restrict b (status b l).2)=true∧lI (restrict b (status b l).2) < lI b:=by
 refine⟨Iq hf _,Ir hf ?_⟩
 simp only [bites,Bool.or_eq_true,Bool.and_eq_true,decide_eq_true_eq,Bool.not_eq_true'] at hb
 rcases hb with hb|⟨h0,h1⟩
 ·exact absurd hb hs
 ·refine NP (l:=l) (by rw [← h0]) fun e=>?_
  rw [e] at h1
  rw [jA.2 rfl] at h1
  cases h1
theorem pR (p:Proj) (list:List (List Lit)) (b:Dom) (hp:p.fine):Con 11 [.d p.av,.d (.sl (list.map lits)),.d b.av] (RUp (mY p list b)):=by
 refine con Tryz.func11 rfl rfl Tryz.call11 rfl fun hwf=>?_
 simp only [ARs.wf,AR.wf,AV.wf,AV.wfs,lm,lim] at hwf
 cases hf:aS p b with
 |false=>
  (repeat' ((conv=>whnf);first|refine gA ?_|(refine gB ?_ ?_<;>intro h)|(refine gI ?_;intro x hx)|(refine gJ ?_;intro j x hj hx)|refine gC (kW b) ?_|refine gC (aL p b hp) ?_|intro _))<;>try (conv=>whnf)
  rw [mY,if_neg (by simp [hf])]
  exact fv
 |true=>
  rw [mY,if_pos hf]
  (repeat' ((conv=>whnf);first|refine gA ?_|(refine gB ?_ ?_<;>intro h)|(refine gI ?_;intro x hx)|(refine gJ ?_;intro j x hj hx)|refine gC (kW b) ?_|refine gC (aL p b hp) ?_|intro _))<;>try (conv=>whnf)
  refine aA [1,6,8] [6] [] ?_
  (conv=>whnf)
  refine ay.go ((Dom)×(Nat)) (fun⟨d,n⟩=>(aS p d=true)∧(lI d < n)∧(NM list n d=NM list (lI b+1) b)) (fun _=>[]) (fun⟨d,n⟩=>[(8,(AV.cells d.av).map SV.data)]) (fun _=>[]) (fun⟨d,n⟩=>n) ⟨b,lI b+1⟩ ?_ ?_
  ·exact⟨hf,by omega,rfl⟩
  rintro⟨d,n⟩ ⟨hd,hn,hi⟩
  obtain⟨n,rfl⟩:∃m,n=m+1:=⟨n - 1,by omega⟩
  rw [NM,TH] at hi
  rcases Gc (bites d) list 0 with⟨f1,f2⟩|⟨k,l,f1,f2,f3,f4⟩
  ·rw [f1] at hi
   (repeat' ((conv=>whnf);first|with_reducible refine Br.yes (decide_eq_true (by omega)) ?_|refine gA ?_|(refine gB ?_ ?_<;>intro h)|(refine gI ?_;intro x hx)|(refine gJ ?_;intro j x hj hx)|refine gC (aP d) ?_|refine gC (jk list 46 [d.av] _ fun x=>jZ x d) ?_|intro _))<;>try (conv=>whnf)
   ·rw [if_pos h] at hi
    rw [← hi]
    exact fv
   ·rw [if_neg (Bool.eq_false_iff.1 h)] at hi
    rw [← hi]
    exact fv
  ·rw [f3] at hi
   by_cases hs:(status d l).1 < 0
   ·(repeat' ((conv=>whnf);first|with_reducible refine Br.no (decide_eq_false (by omega)) ?_|with_reducible refine Idx.got f2 (by rw [f1,Nat.zero_add]) ?_|refine gA ?_|(refine gB ?_ ?_<;>intro h)|(refine gI ?_;intro x hx)|(refine gJ ?_;intro j x hj hx)|refine gC (aP d) ?_|refine gC (jk list 46 [d.av] _ fun x=>jZ x d) ?_|refine gC (jo d l) ?_|refine gC (dH d _) ?_|intro _))<;>try (conv=>whnf)
    ·rw [if_pos h] at hi
     rw [← hi]
     exact fv
    ·rw [if_neg (Bool.eq_false_iff.1 (by assumption))] at hi
     dsimp only at hi
     rw [if_pos hs] at hi
     rw [← hi]
     exact fv
    ·exact absurd hs (by assumption)
   ·(repeat' ((conv=>whnf);first|with_reducible refine Br.no (decide_eq_false (by omega)) ?_|with_reducible refine Idx.got f2 (by rw [f1,Nat.zero_add]) ?_|refine gA ?_|(refine gB ?_ ?_<;>intro h)|(refine gI ?_;intro x hx)|(refine gJ ?_;intro j x hj hx)|refine gC (aP d) ?_|refine gC (jk list 46 [d.av] _ fun x=>jZ x d) ?_|refine gC (jo d l) ?_|refine gC (dH d _) ?_|intro _))<;>try (conv=>whnf)
    ·rw [if_pos h] at hi
     rw [← hi]
     exact fv
    ·have hnx:=Oe hd f4 hs
     rw [if_neg (Bool.eq_false_iff.1 (by assumption))] at hi
     dsimp only at hi
     rw [if_neg hs] at hi
     refine nx ⟨restrict d (status d l).2,n⟩ ?_
     exact⟨hnx.1,by omega,hi⟩
end Go.Proofs.YtefgamefajmdkaaGreat.Abs
namespace Go.Proofs.YtefgamefajmdkaaGreat.Abs
open Go.Proofs
theorem rR (l:List Lit):Con 42 [.d (lits l)] (.own 82 (l.map Lit.av)):=by
 refine con Tryz.func42 rfl rfl Tryz.call42 rfl fun hwf=>?_
 simp only [ARs.wf,AR.wf,AV.wf,AV.wfs,lm,lim] at hwf
 (repeat' ((conv=>whnf);first|refine gA ?_|refine Rq.mk (fun h=>?_) ?_|(refine gB ?_ ?_<;>intro h)|refine gP ?_|intro _))<;>try (conv=>whnf)
 ·exact⟨h,rfl,trivial⟩
 ·exact⟨by simp,rfl,trivial⟩
theorem AL (l:List Lin):Con 9 [.d (.sl (l.map Lin.av))] (.d (.sl ((l.map Lin.clause).map lits))):=by
 refine con Tryz.func9 rfl rfl Tryz.call9 rfl fun hwf=>?_
 simp only [ARs.wf,AR.wf,AV.wf,AV.wfs,lm,lim] at hwf
 (repeat' ((conv=>whnf);first|refine gA ?_|(refine gB ?_ ?_<;>intro h)|(refine gI ?_;intro x hx)|(refine gJ ?_;intro j x hj hx)|refine gP ?_|refine gV ?_|intro _))<;>try (conv=>whnf)
 refine aA [7,8] [] [6] ?_
 (conv=>whnf)
 refine ay.go ((Nat)) (fun k=>(k≤l.length)) (fun k=>[(9,.data (i64 k)),(3,.own 6 0)]) (fun _=>[]) (fun k=>[(6,48,(l.take k).map (fun x=>lits x.clause),0)]) (fun k=>l.length - k) (0) ?_ ?_
 ·exact Nat.zero_le _
 rintro k hk
 (repeat' ((conv=>whnf);first|refine gA ?_|(refine gB ?_ ?_<;>intro h)|(refine gI ?_;intro x hx)|(refine gJ ?_;intro j x hj hx)|refine gP ?_|refine gV ?_|refine gC (rR x.clause) ?_|intro _))<;>try (conv=>whnf)
 ·refine nw (k+1) ?_ ?_
  ·(repeat' ((conv=>whnf)<;>(first|exact trivial|exact rfl|with_reducible refine And.intro ?_ ?_)))<;>((conv=>whnf)<;>(exact jf (fun x=>lits x.clause) hx))
  exact (by omega:k+1≤l.length)
 ·refine⟨?_,rfl,trivial⟩
  dsimp only
  rw [List.take_of_length_le (by omega)];simp [Function.comp_def]
theorem Og (p:Proj) (l:Lin) (hp:p.fine):Con 23 [.d p.av,.d l.av] (.d (.bool (Pz p l))):=by
 refine con Tryz.func23 rfl rfl Tryz.call23 rfl fun hwf=>?_
 (repeat' ((conv=>whnf);first|refine gA ?_|(refine gB ?_ ?_<;>intro h)|refine gC (xS p l.clause hp) ?_|intro _))<;>try (conv=>whnf)
 all_goals refine⟨?_,rfl,trivial⟩
 all_goals (simp [Pz,QW, *];try rfl)
theorem eX (p:Proj) (ahead:List Lin) (l:Lin) (hp:p.fine):Con 19 [.d p.av,.d (.sl (ahead.map Lin.av)),.d l.av] (.d (i64 (aI p ahead l))):=by
 refine con Tryz.func19 rfl rfl Tryz.call19 rfl fun hwf=>?_
 simp only [ARs.wf,AR.wf,AV.wf,AV.wfs,lm,lim] at hwf
 (repeat' ((conv=>whnf);first|refine gA ?_|(refine gB ?_ ?_<;>intro h)|refine gC (aX p hp) ?_|refine gC (Og p l hp) ?_|refine gC (yY p l.rule l.clause hp) ?_|refine gC (AL ahead) ?_|refine gC (kN p l.clause hp) ?_|refine gC (pR p (ahead.map Lin.clause) (vC p l.clause) hp) ?_|intro _))<;>try (conv=>whnf)
 all_goals refine⟨?_,rfl,trivial⟩
 all_goals (simp [aI, *];try omega)
open Go.Proofs
theorem LH {p:Proj} {all:List Lin} {k:Nat} {x:Lin} (h:all[k]? =some x):gM p all (all.drop k) k=if aI p (all.take k) x=0 then gM p all (all.drop (k+1)) (k+1) else (aI p (all.take k) x,(k:Int)):=by
 rw [aC h,gM]
def XK (r:Int×Int):RV:=.tup [.d (i64 r.1),.d (i64 r.2)]
theorem xZ (p:Proj) (l:List Lin) (hp:p.fine):Con 21 [.d p.av,.d (.sl (l.map Lin.av))] (XK (lJ p l)):=by
 refine con Tryz.func21 rfl rfl Tryz.call21 rfl fun hwf=>?_
 simp only [ARs.wf,AR.wf,AV.wf,AV.wfs,lm,lim] at hwf
 (repeat' ((conv=>whnf);first|refine gA ?_|(refine gB ?_ ?_<;>intro h)|(refine gI ?_;intro x hx)|(refine gJ ?_;intro j x hj hx)|refine gV ?_|refine gK ?_|intro _))<;>try (conv=>whnf)
 refine aA [1,2,9,10] [2] [] ?_
 (conv=>whnf)
 refine ay.go ((Nat)) (fun k=>(k≤l.length)∧(gM p l (l.drop k) k=lJ p l)) (fun k=>[(11,.data (i64 k))]) (fun _=>[]) (fun _=>[]) (fun k=>l.length - k) (0) ?_ ?_
 ·exact⟨by omega,rfl⟩
 rintro k ⟨hk,hi⟩
 by_cases hlt:k < l.length
 ·obtain⟨x,hx⟩:∃x,l[k]? =some x:=⟨l[k]'hlt,by simp⟩
  rw [LH hx] at hi
  have hc:=eX p (l.take k) x hp
  rw [← Lj] at hc
  (repeat' ((conv=>whnf);first|with_reducible refine Idx.got hx rfl ?_|refine gA ?_|(refine gB ?_ ?_<;>intro h)|(refine gI ?_;intro x hx)|(refine gJ ?_;intro j x hj hx)|refine gV ?_|refine gK ?_|refine gC (hc) ?_|intro _))<;>try (conv=>whnf)
  ·refine nx (k+1) ?_
   rw [if_pos (by assumption)] at hi
   exact⟨by omega,hi⟩
  ·rw [if_neg (by assumption)] at hi
   rw [← hi]
   exact fv
  ·exfalso;omega
 ·(repeat' ((conv=>whnf);first|(exfalso;omega)|refine gA ?_|(refine gB ?_ ?_<;>intro h)|(refine gI ?_;intro x hx)|(refine gJ ?_;intro j x hj hx)|refine gV ?_|refine gK ?_|intro _))<;>try (conv=>whnf)
  rw [pG hlt,gM] at hi
  rw [← hi,show k=l.length by omega]
  (repeat' ((conv=>whnf)<;>(first|exact trivial|exact VC.nod (by kernel_rfl)|refine VC.mk rfl ?_|refine VC.mk (by simp) ?_)))
theorem Gd (p:Proj) (l:List Lin) (hp:p.fine):Con 68 [.d p.av,.d (.sl (l.map Lin.av))] (.d (.bool (rP p l))):=by
 refine con Tryz.func68 rfl rfl Tryz.call68 rfl fun hwf=>?_
 (repeat' ((conv=>whnf);first|refine gA ?_|(refine gB ?_ ?_<;>intro h)|refine gC (xZ p l hp) ?_|intro _))<;>try (conv=>whnf)
 exact⟨rfl,rfl,trivial⟩
end Go.Proofs.YtefgamefajmdkaaGreat.Abs
namespace Go.Proofs.YtefgamefajmdkaaGreat.Abs
open Go.Proofs
theorem qG (l:List Step):Con 143 [.d (.sl (l.map Step.av))] (.own 187 (l.map Step.av)):=by
 refine con Tryz.func143 rfl rfl Tryz.call143 rfl fun hwf=>?_
 simp only [ARs.wf,AR.wf,AV.wf,AV.wfs,lm,lim] at hwf
 (repeat' ((conv=>whnf);first|refine gA ?_|refine Rq.mk (fun h=>?_) ?_|(refine gB ?_ ?_<;>intro h)|refine gP ?_|intro _))<;>try (conv=>whnf)
 ·exact⟨h,rfl,trivial⟩
 ·exact⟨by simp,rfl,trivial⟩
theorem qH (l:List Link):Con 142 [.d (.sl (l.map Link.av))] (.own 130 (l.map Link.av)):=by
 refine con Tryz.func142 rfl rfl Tryz.call142 rfl fun hwf=>?_
 simp only [ARs.wf,AR.wf,AV.wf,AV.wfs,lm,lim] at hwf
 (repeat' ((conv=>whnf);first|refine gA ?_|refine Rq.mk (fun h=>?_) ?_|(refine gB ?_ ?_<;>intro h)|refine gP ?_|intro _))<;>try (conv=>whnf)
 ·exact⟨h,rfl,trivial⟩
 ·exact⟨by simp,rfl,trivial⟩
theorem kX {α:Type} {l o:List α} {k:Nat} {x:α} (h:l[k]? =some x) (ho:o=l.take k):o++[x]=l.take (k+1):=by
 rw [ho,List.take_add_one,h];rfl
theorem nk {α:Type} {l o:List α} {k:Nat} (h:¬ k < l.length) (ho:o=l.take k):o=l:=by
 rw [ho,List.take_of_length_le (by omega)]
theorem take_len {α:Type} {l o:List α} {k:Nat} (ho:o=l.take k):o.length≤k:=by rw [ho];simp;omega
theorem uz (p:Proj):Con 78 [.d p.av] (.d p.av):=by
 refine con Tryz.func78 rfl rfl Tryz.call78 rfl fun hwf=>?_
 simp only [ARs.wf,AR.wf,AV.wf,AV.wfs,lm,lim] at hwf
 (repeat' ((conv=>whnf);first|refine gA ?_|(refine gB ?_ ?_<;>intro h)|(refine gI ?_;intro x hx)|(refine gJ ?_;intro j x hj hx)|refine gP ?_|refine gV ?_|refine gC (qH p.links) ?_|refine gC (slices_Clone_int p.aR) ?_|intro _))<;>try (conv=>whnf)
 refine aA [1,2,3,24,25] [1,2] [61,19000,22000] ?_
 (conv=>whnf)
 refine ay.go ((Nat)×(List aB)) (fun⟨k,o⟩=>(k≤p.acts.length)∧(o=p.acts.take k)) (fun⟨k,o⟩=>[(26,.data (i64 k))]) (fun⟨k,o⟩=>[(3,[.data (i64 p.dead),.own 61 0,.own 19000 0,.ah,.own 22000 0])]) (fun⟨k,o⟩=>[(61,103,o.map aB.av,0),(19000,130,p.links.map Link.av,0),(22000,3,p.aR.map i64,0)]) (fun⟨k,o⟩=>p.acts.length - k) ⟨0,[]⟩ ?_ ?_
 ·exact⟨Nat.zero_le _,rfl⟩
 rintro⟨k,o⟩ ⟨hk,ho⟩
 by_cases hlt:k < p.acts.length
 ·obtain⟨a,ha⟩:∃a,p.acts[k]? =some a:=⟨p.acts[k]'hlt,by simp⟩
  have hol:=take_len ho
  have hwa:=ou hwf.1.2.1.2 ha
  simp only [AV.wf,AV.wfs,List.length_map] at hwa
  (repeat' ((conv=>whnf);first|with_reducible refine Idx.got ha rfl ?_|(exfalso;omega)|refine gA ?_|(refine gB ?_ ?_<;>intro h)|(refine gI ?_;intro x hx)|(refine gJ ?_;intro j x hj hx)|refine gP ?_|refine gV ?_|intro _))<;>try (conv=>whnf)
  refine aA [1,2,3,6,24,25,26,36,37] [1,2,3] [54] ?_
  (conv=>whnf)
  refine ay.go ((Nat)×(List Mode)) (fun⟨j,q⟩=>(j≤a.modes.length)∧(q=a.modes.take j)) (fun⟨j,q⟩=>[(38,.data (i64 j))]) (fun⟨j,q⟩=>[(6,[.data (.str a.name),.data (i64 a.fam),.own 54 0])]) (fun⟨j,q⟩=>[(54,177,q.map Mode.av,0)]) (fun⟨j,q⟩=>a.modes.length - j) ⟨0,[]⟩ ?_ ?_
  ·exact⟨Nat.zero_le _,rfl⟩
  rintro⟨j,q⟩ ⟨hj,hq⟩
  have hql:=take_len hq
  by_cases hjt:j < a.modes.length
  ·obtain⟨m,hm⟩:∃m,a.modes[j]? =some m:=⟨a.modes[j]'hjt,by simp⟩
   (repeat' ((conv=>whnf);first|with_reducible refine Idx.got hm rfl ?_|(exfalso;omega)|refine gA ?_|(refine gB ?_ ?_<;>intro h)|(refine gI ?_;intro x hx)|(refine gJ ?_;intro j x hj hx)|refine gP ?_|refine gV ?_|refine gC (slices_Clone_int m.use) ?_|refine gC (slices_Clone_int m.con) ?_|intro _))<;>try (conv=>whnf)
   refine nw ⟨j+1,q++[m]⟩ ?_ ?_
   ·(repeat' ((conv=>whnf)<;>(first|exact trivial|exact rfl|with_reducible refine And.intro ?_ ?_)))<;>((conv=>whnf)<;>(simp))
   exact⟨by omega,kX hm hq⟩
  ·obtain rfl:=nk hjt hq
   (repeat' ((conv=>whnf);first|(exfalso;omega)|refine gA ?_|(refine gB ?_ ?_<;>intro h)|(refine gI ?_;intro x hx)|(refine gJ ?_;intro j x hj hx)|refine gP ?_|refine gV ?_|intro _))<;>try (conv=>whnf)
   refine nw ⟨k+1,o++[a]⟩ ?_ ?_
   ·(repeat' ((conv=>whnf)<;>(first|exact trivial|exact rfl|with_reducible refine And.intro ?_ ?_)))<;>((conv=>whnf)<;>(simp))
   exact⟨by omega,kX ha ho⟩
 obtain rfl:=nk hlt ho
 (repeat' ((conv=>whnf);first|(exfalso;omega)|refine gA ?_|(refine gB ?_ ?_<;>intro h)|(refine gI ?_;intro x hx)|(refine gJ ?_;intro j x hj hx)|refine gP ?_|refine gV ?_|intro _))<;>try (conv=>whnf)
 refine aA [2,3,65,66] [2] [61,19000,94,22000] ?_
 (conv=>whnf)
 refine ay.go ((Nat)×(List bI)) (fun⟨r,o⟩=>(r≤p.aW.length)∧(o=p.aW.take r)) (fun⟨r,o⟩=>[(67,.data (i64 r))]) (fun⟨r,o⟩=>[(3,[.data (i64 p.dead),.own 61 0,.own 19000 0,.own 94 0,.own 22000 0])]) (fun⟨r,o⟩=>[(61,103,p.acts.map aB.av,0),(19000,130,p.links.map Link.av,0),(94,126,o.map bI.av,0),(22000,3,p.aR.map i64,0)]) (fun⟨r,o⟩=>p.aW.length - r) ⟨0,[]⟩ ?_ ?_
 ·exact⟨Nat.zero_le _,rfl⟩
 rintro⟨r,o⟩ ⟨hk,ho⟩
 by_cases hlt:r < p.aW.length
 ·obtain⟨a,ha⟩:∃a,p.aW[r]? =some a:=⟨p.aW[r]'hlt,by simp⟩
  have hol:=take_len ho
  have hwa:=ou hwf.1.2.2.2.1.2 ha
  simp only [AV.wf,AV.wfs,List.length_map] at hwa
  (repeat' ((conv=>whnf);first|with_reducible refine Idx.got ha rfl ?_|(exfalso;omega)|refine gA ?_|(refine gB ?_ ?_<;>intro h)|(refine gI ?_;intro x hx)|(refine gJ ?_;intro j x hj hx)|refine gP ?_|refine gV ?_|refine gC (qG a.steps) ?_|intro _))<;>try (conv=>whnf)
  refine aA [2,3,11,65,66,67,76,77] [2,3] [74000,87] ?_
  (conv=>whnf)
  refine ay.go ((Nat)×(List (List Int))) (fun⟨j,q⟩=>(j≤a.setup.length)∧(q=a.setup.take j)) (fun⟨j,q⟩=>[(78,.data (i64 j))]) (fun⟨j,q⟩=>[(11,[.own 74000 0,.own 87 0])]) (fun⟨j,q⟩=>[(74000,187,a.steps.map Step.av,0),(87,26,q.map ints,0)]) (fun⟨j,q⟩=>a.setup.length - j) ⟨0,[]⟩ ?_ ?_
  ·exact⟨Nat.zero_le _,rfl⟩
  rintro⟨j,q⟩ ⟨hj,hq⟩
  have hql:=take_len hq
  by_cases hjt:j < a.setup.length
  ·obtain⟨m,hm⟩:∃m,a.setup[j]? =some m:=⟨a.setup[j]'hjt,by simp⟩
   (repeat' ((conv=>whnf);first|with_reducible refine Idx.got hm rfl ?_|(exfalso;omega)|refine gA ?_|(refine gB ?_ ?_<;>intro h)|(refine gI ?_;intro x hx)|(refine gJ ?_;intro j x hj hx)|refine gP ?_|refine gV ?_|refine gC (slices_Clone_int m) ?_|intro _))<;>try (conv=>whnf)
   refine nw ⟨j+1,q++[m]⟩ ?_ ?_
   ·(repeat' ((conv=>whnf)<;>(first|exact trivial|exact rfl|with_reducible refine And.intro ?_ ?_)))<;>((conv=>whnf)<;>(simp))
   exact⟨by omega,kX hm hq⟩
  ·obtain rfl:=nk hjt hq
   (repeat' ((conv=>whnf);first|(exfalso;omega)|refine gA ?_|(refine gB ?_ ?_<;>intro h)|(refine gI ?_;intro x hx)|(refine gJ ?_;intro j x hj hx)|refine gP ?_|refine gV ?_|intro _))<;>try (conv=>whnf)
   refine nw ⟨r+1,o++[a]⟩ ?_ ?_
   ·(repeat' ((conv=>whnf)<;>(first|exact trivial|exact rfl|with_reducible refine And.intro ?_ ?_)))<;>((conv=>whnf)<;>(simp))
   exact⟨by omega,kX ha ho⟩
 obtain rfl:=nk hlt ho
 (repeat' ((conv=>whnf);first|(exfalso;omega)|refine gA ?_|(refine gB ?_ ?_<;>intro h)|(refine gI ?_;intro x hx)|(refine gJ ?_;intro j x hj hx)|refine gP ?_|refine gV ?_|intro _))<;>try (conv=>whnf)
 exact⟨rfl,rfl,trivial⟩
open Go.Proofs
def XL:Lin:=⟨0,⟨0,0,0,0⟩,[]⟩
def CB (ls:List Lin) (i:Int):Lin:=ls.getD i.toNat XL
def Rb (ls:List Lin) (idx:List Int):List Lin:=idx.map (CB ls)
theorem nu {n:Nat} {x:Int} (h:x∈upTo n):0≤x∧x < n:=by
 simp only [upTo,List.mem_map,List.mem_range] at h
 obtain⟨k,h1,rfl⟩:=h
 exact⟨Int.natCast_nonneg k,Int.ofNat_lt.2 h1⟩
theorem Gf {α β:Type} (f:α→β) {l:List α} {k:Nat} {x:α} (h:l[k]? =some x):(l.take k).map f++[f x]=(l.take (k+1)).map f:=by
 obtain⟨hk,rfl⟩:=List.getElem?_eq_some_iff.1 h
 rw [List.take_succ_eq_append_getElem hk,List.map_append];rfl
theorem Qb {ls:List Lin} {i:Int} {x:Lin} (h:ls[i.toNat]? =some x):CB ls i=x:=by simp [CB,List.getD_eq_getElem?_getD,h]
end Go.Proofs.YtefgamefajmdkaaGreat.Abs
