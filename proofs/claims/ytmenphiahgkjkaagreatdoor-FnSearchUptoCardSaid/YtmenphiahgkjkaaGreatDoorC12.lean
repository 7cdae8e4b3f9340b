/- Contracts: restricted domains. -/
import Derived.Test.YtmenphiahgkjkaaGreatDoorC11
import Derived.Test.YtmenphiahgkjkaaGreatDoorPlain
set_option linter.all false
set_option maxRecDepth 20000
set_option maxHeartbeats 0
namespace Go.Proofs.YtmenphiahgkjkaaGreatDoor.Abs
open Go.Proofs
theorem KZ {p:Proj} {b:Dom} (h1:aL p=true) (h2:b.lo.length=p.acts.length) (h3:b.hi.length=p.acts.length) (h4:b.modes.length=p.acts.length) (h5:∀k,k < p.acts.length→rD p b k=true):ak p b=true:=by
 simp only [ak,Bool.and_eq_true,bX,Bool.not_eq_true',decide_eq_false_iff_not]
 exact⟨⟨⟨⟨h1,by omega⟩,by omega⟩,by omega⟩,h5⟩
theorem BZ {m:List Int} {r:List Int} (f:Int→Bool) (h:subset m r=true):subset (m.filter f) r=true:=by
 simp only [subset,List.all_eq_true] at h ⊢
 intro x hx
 exact h x (List.mem_filter.1 hx).1
theorem ni {p:Proj} {b:Dom} (h:ak p b=true) (l:Lit):ak p (restrict b l)=true:=by
 obtain⟨h1,h2,h3,h4,h5⟩:=bZ h
 unfold restrict
 split
 ·rename_i hd
  obtain⟨n,e1,e2,e3,e4,e5⟩:=Ol hd
  have hc:=Vf l.val
  have hn:n < p.acts.length:=by omega
  have hdn:=h5 n hn
  have g1:b.lo[n]? =some (b.lo[n]'e3):=by simp
  have g2:b.hi[n]? =some (b.hi[n]'e4):=by simp
  have g3:b.modes[n]? =some (b.modes[n]'e5):=by simp
  have g4:p.acts[n]? =some (p.acts[n]'hn):=by simp
  simp only [rD,g1,g2,g3,g4,Bool.and_eq_true,oG,within_iff] at hdn
  dsimp only
  rw [e2]
  simp only [List.getD_eq_getElem?_getD,g1,g2,g3,Option.getD_some]
  have key:∀b':Dom,b'.lo.length=b.lo.length→b'.hi.length=b.hi.length→b'.modes.length=b.modes.length→(∀k,k≠n→b'.lo[k]? =b.lo[k]? ∧b'.hi[k]? =b.hi[k]? ∧b'.modes[k]? =b.modes[k]?)→rD p b' n=true→ak p b'=true:=by
   intro b' k1 k2 k3 k4 k5
   refine KZ h1 (by omega) (by omega) (by omega) fun k hk=>?_
   by_cases e:k=n
   ·rw [e];exact k5
   ·obtain⟨j1,j2,j3⟩:=k4 k e
    have:=h5 k hk
    simp only [rD,j1,j2,j3] at this ⊢
    exact this
  split
  ·refine key _ (by simp) rfl rfl (fun k hk=>⟨by simp [List.getElem?_set,Ne.symm hk],rfl,rfl⟩) ?_
   simp only [rD,List.getElem?_set_self e3,g2,g3,g4,Bool.and_eq_true,oG,within_iff]
   exact⟨⟨⟨by omega,hdn.1.1.2⟩,hdn.1.2⟩,hdn.2⟩
  split
  ·refine key _ rfl (by simp) rfl (fun k hk=>⟨rfl,by simp [List.getElem?_set,Ne.symm hk],rfl⟩) ?_
   simp only [rD,List.getElem?_set_self e4,g1,g3,g4,Bool.and_eq_true,oG,within_iff]
   exact⟨⟨⟨hdn.1.1.1,by omega⟩,hdn.1.2⟩,hdn.2⟩
  split
  ·refine key _ rfl rfl (by simp) (fun k hk=>⟨rfl,rfl,by simp [List.getElem?_set,Ne.symm hk]⟩) ?_
   simp only [rD,List.getElem?_set_self e5,g1,g2,g4,Bool.and_eq_true,oG,within_iff]
   exact⟨⟨hdn.1.1,EF hdn.1.2⟩,BZ _ hdn.2⟩
  split
  ·refine key _ rfl rfl (by simp) (fun k hk=>⟨rfl,rfl,by simp [List.getElem?_set,Ne.symm hk]⟩) ?_
   simp only [rD,List.getElem?_set_self e5,g1,g2,g4,Bool.and_eq_true,oG,within_iff]
   exact⟨⟨hdn.1.1,EF hdn.1.2⟩,BZ _ hdn.2⟩
  ·exact h
 ·exact h
open Go.Proofs
theorem rR {a b:Bool}:valueOf a b=0↔a=false∧b=false:=by cases a<;>cases b<;>simp [valueOf]
theorem Ij {m:List Int} {f:Int→Bool} {v:Int} (hv:v∈m) (h:f v=false):(m.filter f).length < m.length:=by
 rw [List.length_filter_lt_length_iff_exists]
 exact⟨v,hv,by simp [h]⟩
theorem other {m:List Int} {v:Int} (hs:uE m=true) (hv:v∈m) (hne:m≠[v]):∃w∈m,w≠v:=by
 have hp:=EC hs
 match m,hv,hne,hp with
 |[x],hv,hne,_=>simp at hv;subst hv;exact absurd rfl hne
 |x::y::r,_,_,hp=>
  have:x < y:=(List.pairwise_cons.1 hp).1 y (by simp)
  by_cases e:x=v
  ·exact⟨y,by simp,by omega⟩
  ·exact⟨x,by simp,e⟩
theorem La {p:Proj} {b:Dom} {k:Nat} {a:aC} {x y:Int} {m:List Int} (hg:fV p b k a x y m) {v:Int} (hv:v∈m):clamped v=v:=by
 obtain⟨j,e,hj⟩:=hg.aah v hv
 have:=hg.aok
 simp only [dD,Bool.and_eq_true,within_iff] at this
 unfold clamped;omega
theorem MV {p:Proj} {b:Dom} (h:ak p b=true) {l:Lit} (hl:litValue b l=0):gL (restrict b l) < gL b:=by
 obtain⟨hd,hk1,hk2⟩:=MR hl
 obtain⟨n,e1,e2,e3,e4,e5⟩:=Ol hd
 obtain⟨h1,h2,h3,h4,h5⟩:=bZ h
 obtain⟨a,x,y,m,hg⟩:=dL h (k:=n) (by omega)
 rw [litValue,if_pos hd] at hl
 rw [restrict,if_pos hd]
 dsimp only at hl ⊢
 rw [e2] at hl ⊢
 simp only [List.getD_eq_getElem?_getD,hg.lo,hg.hi,hg.modes,Option.getD_some] at hl ⊢
 have b1:=hg.lob
 have b2:=hg.hib
 unfold gL
 split
 ·rename_i hk
  rw [if_pos hk,rR] at hl
  simp only [decide_eq_false_iff_not] at hl
  have:=Er (fun n:Int=>(62 - n).toNat) (v:=max x (clamped l.val)) hg.lo
  have hc:clamped l.val=l.val:=by unfold clamped;omega
  dsimp only at this ⊢
  rw [hc] at this ⊢
  omega
 split
 ·rename_i hk' hk
  rw [if_neg hk',if_pos hk,rR] at hl
  simp only [decide_eq_false_iff_not] at hl
  have:=Er (fun n:Int=>(n+2).toNat) (v:=min y (clamped l.val)) hg.hi
  have hc:clamped l.val=l.val:=by unfold clamped;omega
  dsimp only at this ⊢
  rw [hc] at this ⊢
  omega
 split
 ·rename_i k1 k2 hk
  rw [if_neg k1,if_neg k2,if_pos hk,rR] at hl
  simp only [decide_eq_false_iff_not,Bool.not_eq_false',List.contains_iff_mem] at hl
  rw [La hg hl.2]
  obtain⟨w,hw,hwv⟩:=other hg.mok hl.2 hl.1
  have hless:=Ij (f:=fun n=>decide (n=l.val)) hw (by simpa using hwv)
  have:=Er List.length (v:=m.filter fun n=>decide (n=l.val)) hg.modes
  dsimp only at this ⊢
  omega
 split
 ·rename_i k1 k2 k3 hk
  rw [if_neg k1,if_neg k2,if_neg k3,if_pos hk,rR] at hl
  simp only [decide_eq_false_iff_not,Bool.not_eq_false',List.contains_iff_mem] at hl
  rw [La hg hl.1]
  have hless:=Ij (f:=fun n=>decide (n≠l.val)) hl.1 (by simp)
  have:=Er List.length (v:=m.filter fun n=>decide (n≠l.val)) hg.modes
  dsimp only at this ⊢
  omega
 ·exfalso;omega
theorem mO (l:List Lit) (d:Dom):Con 80 [.d (lits l),.ref d.av] (.d (.bool (bites d l))):=by
 refine con Tryz.func80 rfl rfl Tryz.call80 rfl fun hwf=>?_
 (repeat' ((conv=>whnf);first|refine gA ?_|(refine gB ?_ ?_<;>intro h)|refine gC (kS d l) ?_|intro _))<;>try (conv=>whnf)
 all_goals (refine⟨?_,rfl,trivial⟩;simp [bites,bH,bU, *];try rfl)
theorem kQ (l:List (List Lit)) (fc:Nat) (caps:List AV) (p:List Lit→Bool) (hc:∀x:List Lit,Con fc ([.d (lits x)]++caps.map .ref) (.d (.bool (p x)))):
  Con 79 [.d (.sl (l.map lits)),.fn fc caps] (.d (i64 (aQ p l 0))):=by
 refine con Tryz.func79 rfl rfl Tryz.call79 rfl fun hwf=>?_
 simp only [ARs.wf,AR.wf,AV.wf,AV.wfs,lm,lim] at hwf
 (conv=>whnf)
 refine aB [0,1,7] [] [] ?_
 (conv=>whnf)
 refine aA.go ((Nat)) (fun k=>(k≤l.length)∧(aQ p (l.drop k) k=aQ p l 0)) (fun k=>[(8,.data (i64 k))]) (fun _=>[]) (fun _=>[]) (fun k=>l.length - k) (0) ?_ ?_
 ·exact⟨by omega,rfl⟩
 rintro k ⟨hk,hi⟩
 (repeat' ((conv=>whnf);first|refine gA ?_|(refine gB ?_ ?_<;>intro h)|(refine gI ?_;intro x hx)|(refine gJ ?_;intro j x hj hx)|refine gV ?_|refine gC (hc x) ?_|intro _))<;>try (conv=>whnf)
 all_goals first
  |exact trivial
  |(refine⟨?_,rfl,trivial⟩;rw [bC (l:=l) (by assumption)] at hi;first|(simp_all [aQ];done)|(simp only [aQ, ← hi];clear hi;simp_all [aQ];done))
  |(refine⟨?_,rfl,trivial⟩;rw [aF (l:=l) (by assumption)] at hi;first|(simp_all [aQ];done)|(simp only [aQ, ← hi];clear hi;simp_all [aQ];done))
  |(refine nx (k+1) ?_
    rw [aF (l:=l) (by assumption)] at hi;refine⟨by omega,?_⟩;simp_all [aQ];done)
def RUp (r:Dom×Bool):RV:=.tup [.d r.1.av,.d (.bool r.2)]
theorem Lc {α:Type} (p:α→Bool):∀(l:List α) (k:Nat),(l.find? p=none∧aQ p l k= -1)∨∃(n:Nat) (x:α),aQ p l k=(k+n:Nat)∧l[n]? =some x∧l.find? p=some x∧p x=true
 |[],k=>.inl ⟨rfl,rfl⟩
 |y::r,k=>by
  rw [aQ,List.find?_cons]
  cases h:p y with
  |true=>exact .inr ⟨0,y,by simp,rfl,rfl,h⟩
  |false=>
   simp only [Bool.false_eq_true,if_false]
   rcases Lc p r (k+1) with⟨h1,h2⟩|⟨n,x,h1,h2,h3,h4⟩
   ·exact .inl ⟨h1,h2⟩
   ·exact .inr ⟨n+1,x,by rw [h1];congr 1;omega,by simpa using h2,h3,h4⟩
theorem Ik {p:Proj} {b:Dom} {l:List Lit} (hf:ak p b=true) (hb:bites b l=true) (hs:¬(status b l).1 < 0):
  ak p (restrict b (status b l).2)=true∧gL (restrict b (status b l).2) < gL b:=by
 refine⟨ni hf _,MV hf ?_⟩
 simp only [bites,Bool.or_eq_true,Bool.and_eq_true,decide_eq_true_eq,Bool.not_eq_true'] at hb
 rcases hb with hb|⟨h0,h1⟩
 ·exact absurd hb hs
 ·refine SX (l:=l) (by rw [← h0]) fun e=>?_
  rw [e] at h1
  rw [iN.2 rfl] at h1
  cases h1
theorem tK (p:Proj) (list:List (List Lit)) (b:Dom) (hp:p.fine):Con 33 [.d p.av,.d (.sl (list.map lits)),.d b.av] (RUp (jy p list b)):=by
 refine con Tryz.func33 rfl rfl Tryz.call33 rfl fun hwf=>?_
 simp only [ARs.wf,AR.wf,AV.wf,AV.wfs,lm,lim] at hwf
 cases hf:ak p b with
 |false=>
  (repeat' ((conv=>whnf);first|refine gA ?_|(refine gB ?_ ?_<;>intro h)|(refine gI ?_;intro x hx)|(refine gJ ?_;intro j x hj hx)|refine gC (nS b) ?_|refine gC (aT p b hp) ?_|intro _))<;>try (conv=>whnf)
  rw [jy,if_neg (by simp [hf])]
  exact fv
 |true=>
  rw [jy,if_pos hf]
  (repeat' ((conv=>whnf);first|refine gA ?_|(refine gB ?_ ?_<;>intro h)|(refine gI ?_;intro x hx)|(refine gJ ?_;intro j x hj hx)|refine gC (nS b) ?_|refine gC (aT p b hp) ?_|intro _))<;>try (conv=>whnf)
  refine aB [1,6,8] [6] [] ?_
  (conv=>whnf)
  refine aA.go ((Dom)×(Nat)) (fun⟨d,n⟩=>(ak p d=true)∧(gL d < n)∧(tq list n d=tq list (gL b+1) b)) (fun _=>[]) (fun⟨d,n⟩=>[(8,(AV.cells d.av).map SV.data)]) (fun _=>[]) (fun⟨d,n⟩=>n) ⟨b,gL b+1⟩ ?_ ?_
  ·exact⟨hf,by omega,rfl⟩
  rintro⟨d,n⟩ ⟨hd,hn,hi⟩
  obtain⟨n,rfl⟩:∃m,n=m+1:=⟨n - 1,by omega⟩
  rw [tq,ku] at hi
  rcases Lc (bites d) list 0 with⟨f1,f2⟩|⟨k,l,f1,f2,f3,f4⟩
  ·rw [f1] at hi
   (repeat' ((conv=>whnf);first|with_reducible refine Br.yes (decide_eq_true (by omega)) ?_|refine gA ?_|(refine gB ?_ ?_<;>intro h)|(refine gI ?_;intro x hx)|(refine gJ ?_;intro j x hj hx)|refine gC (aY d) ?_|refine gC (kQ list 80 [d.av] _ fun x=>mO x d) ?_|intro _))<;>try (conv=>whnf)
   ·rw [if_pos h] at hi
    rw [← hi]
    exact fv
   ·rw [if_neg (Bool.eq_false_iff.1 h)] at hi
    rw [← hi]
    exact fv
  ·rw [f3] at hi
   by_cases hs:(status d l).1 < 0
   ·(repeat' ((conv=>whnf);first|with_reducible refine Br.no (decide_eq_false (by omega)) ?_|with_reducible refine Idx.got f2 (by rw [f1,Nat.zero_add]) ?_|refine gA ?_|(refine gB ?_ ?_<;>intro h)|(refine gI ?_;intro x hx)|(refine gJ ?_;intro j x hj hx)|refine gC (aY d) ?_|refine gC (kQ list 80 [d.av] _ fun x=>mO x d) ?_|refine gC (kS d l) ?_|refine gC (fu d _) ?_|intro _))<;>try (conv=>whnf)
    ·rw [if_pos h] at hi
     rw [← hi]
     exact fv
    ·rw [if_neg (Bool.eq_false_iff.1 (by assumption))] at hi
     dsimp only at hi
     rw [if_pos hs] at hi
     rw [← hi]
     exact fv
    ·exact absurd hs (by assumption)
   ·(repeat' ((conv=>whnf);first|with_reducible refine Br.no (decide_eq_false (by omega)) ?_|with_reducible refine Idx.got f2 (by rw [f1,Nat.zero_add]) ?_|refine gA ?_|(refine gB ?_ ?_<;>intro h)|(refine gI ?_;intro x hx)|(refine gJ ?_;intro j x hj hx)|refine gC (aY d) ?_|refine gC (kQ list 80 [d.av] _ fun x=>mO x d) ?_|refine gC (kS d l) ?_|refine gC (fu d _) ?_|intro _))<;>try (conv=>whnf)
    ·rw [if_pos h] at hi
     rw [← hi]
     exact fv
    ·have hnx:=Ik hd f4 hs
     rw [if_neg (Bool.eq_false_iff.1 (by assumption))] at hi
     dsimp only at hi
     rw [if_neg hs] at hi
     refine nx ⟨restrict d (status d l).2,n⟩ ?_
     exact⟨hnx.1,by omega,hi⟩
end Go.Proofs.YtmenphiahgkjkaaGreatDoor.Abs
namespace Go.Proofs.YtmenphiahgkjkaaGreatDoor.Abs
open Go.Proofs
theorem wC (l:List Lit):Con 64 [.d (lits l)] (.own 79 (l.map Lit.av)):=by
 refine con Tryz.func64 rfl rfl Tryz.call64 rfl fun hwf=>?_
 simp only [ARs.wf,AR.wf,AV.wf,AV.wfs,lm,lim] at hwf
 (repeat' ((conv=>whnf);first|refine gA ?_|refine Xa.mk (fun h=>?_) ?_|(refine gB ?_ ?_<;>intro h)|refine gP ?_|intro _))<;>try (conv=>whnf)
 ·exact⟨h,rfl,trivial⟩
 ·exact⟨by simp,rfl,trivial⟩
theorem ES (l:List Lin):Con 34 [.d (.sl (l.map Lin.av))] (.d (.sl ((l.map Lin.clause).map lits))):=by
 refine con Tryz.func34 rfl rfl Tryz.call34 rfl fun hwf=>?_
 simp only [ARs.wf,AR.wf,AV.wf,AV.wfs,lm,lim] at hwf
 (repeat' ((conv=>whnf);first|refine gA ?_|(refine gB ?_ ?_<;>intro h)|(refine gI ?_;intro x hx)|(refine gJ ?_;intro j x hj hx)|refine gP ?_|refine gV ?_|intro _))<;>try (conv=>whnf)
 refine aB [7,8] [] [6] ?_
 (conv=>whnf)
 refine aA.go ((Nat)) (fun k=>(k≤l.length)) (fun k=>[(9,.data (i64 k)),(3,.own 6 0)]) (fun _=>[]) (fun k=>[(6,33,(l.take k).map (fun x=>lits x.clause),0)]) (fun k=>l.length - k) (0) ?_ ?_
 ·exact Nat.zero_le _
 rintro k hk
 (repeat' ((conv=>whnf);first|refine gA ?_|(refine gB ?_ ?_<;>intro h)|(refine gI ?_;intro x hx)|(refine gJ ?_;intro j x hj hx)|refine gP ?_|refine gV ?_|refine gC (wC x.clause) ?_|intro _))<;>try (conv=>whnf)
 ·refine nw (k+1) ?_ ?_
  ·(repeat' ((conv=>whnf)<;>(first|exact trivial|exact rfl|with_reducible refine And.intro ?_ ?_)))<;>((conv=>whnf)<;>(exact kN (fun x=>lits x.clause) hx))
  exact (by omega:k+1≤l.length)
 ·refine⟨?_,rfl,trivial⟩
  dsimp only
  rw [List.take_of_length_le (by omega)];simp [Function.comp_def]
theorem Tq (p:Proj) (l:Lin) (hp:p.fine):Con 66 [.d p.av,.d l.av] (.d (.bool (KD p l))):=by
 refine con Tryz.func66 rfl rfl Tryz.call66 rfl fun hwf=>?_
 (repeat' ((conv=>whnf);first|refine gA ?_|(refine gB ?_ ?_<;>intro h)|refine gC (BK p l.clause hp) ?_|intro _))<;>try (conv=>whnf)
 all_goals refine⟨?_,rfl,trivial⟩
 all_goals (simp [KD,Qr, *];try rfl)
theorem gY (p:Proj) (ahead:List Lin) (l:Lin) (hp:p.fine):Con 28 [.d p.av,.d (.sl (ahead.map Lin.av)),.d l.av] (.d (i64 (aD p ahead l))):=by
 refine con Tryz.func28 rfl rfl Tryz.call28 rfl fun hwf=>?_
 simp only [ARs.wf,AR.wf,AV.wf,AV.wfs,lm,lim] at hwf
 (repeat' ((conv=>whnf);first|refine gA ?_|(refine gB ?_ ?_<;>intro h)|refine gC (bn p hp) ?_|refine gC (Tq p l hp) ?_|refine gC (Db p l.rule l.clause hp) ?_|refine gC (ES ahead) ?_|refine gC (nL p l.clause hp) ?_|refine gC (tK p (ahead.map Lin.clause) (fP p l.clause) hp) ?_|intro _))<;>try (conv=>whnf)
 all_goals refine⟨?_,rfl,trivial⟩
 all_goals (simp [aD, *];try omega)
open Go.Proofs
theorem QE {p:Proj} {all:List Lin} {k:Nat} {x:Lin} (h:all[k]? =some x):jh p all (all.drop k) k=if aD p (all.take k) x=0 then jh p all (all.drop (k+1)) (k+1) else (aD p (all.take k) x,(k:Int)):=by
 rw [aF h,jh]
def aaM (r:Int×Int):RV:=.tup [.d (i64 r.1),.d (i64 r.2)]
theorem Ca (p:Proj) (l:List Lin) (hp:p.fine):Con 9 [.d p.av,.d (.sl (l.map Lin.av))] (aaM (mW p l)):=by
 refine con Tryz.func9 rfl rfl Tryz.call9 rfl fun hwf=>?_
 simp only [ARs.wf,AR.wf,AV.wf,AV.wfs,lm,lim] at hwf
 (repeat' ((conv=>whnf);first|refine gA ?_|(refine gB ?_ ?_<;>intro h)|(refine gI ?_;intro x hx)|(refine gJ ?_;intro j x hj hx)|refine gV ?_|refine gK ?_|intro _))<;>try (conv=>whnf)
 refine aB [1,2,9,10] [2] [] ?_
 (conv=>whnf)
 refine aA.go ((Nat)) (fun k=>(k≤l.length)∧(jh p l (l.drop k) k=mW p l)) (fun k=>[(11,.data (i64 k))]) (fun _=>[]) (fun _=>[]) (fun k=>l.length - k) (0) ?_ ?_
 ·exact⟨by omega,rfl⟩
 rintro k ⟨hk,hi⟩
 by_cases hlt:k < l.length
 ·obtain⟨x,hx⟩:∃x,l[k]? =some x:=⟨l[k]'hlt,by simp⟩
  rw [QE hx] at hi
  have hc:=gY p (l.take k) x hp
  rw [← Qq] at hc
  (repeat' ((conv=>whnf);first|with_reducible refine Idx.got hx rfl ?_|refine gA ?_|(refine gB ?_ ?_<;>intro h)|(refine gI ?_;intro x hx)|(refine gJ ?_;intro j x hj hx)|refine gV ?_|refine gK ?_|refine gC (hc) ?_|intro _))<;>try (conv=>whnf)
  ·refine nx (k+1) ?_
   rw [if_pos (by assumption)] at hi
   exact⟨by omega,hi⟩
  ·rw [if_neg (by assumption)] at hi
   rw [← hi]
   exact fv
  ·exfalso;omega
 ·(repeat' ((conv=>whnf);first|(exfalso;omega)|refine gA ?_|(refine gB ?_ ?_<;>intro h)|(refine gI ?_;intro x hx)|(refine gJ ?_;intro j x hj hx)|refine gV ?_|refine gK ?_|intro _))<;>try (conv=>whnf)
  rw [sW hlt,jh] at hi
  rw [← hi,show k=l.length by omega]
  (repeat' ((conv=>whnf)<;>(first|exact trivial|exact VC.nod (by kernel_rfl)|refine VC.mk rfl ?_|refine VC.mk (by simp) ?_)))
theorem zM (p:Proj) (l:List Lin) (hp:p.fine):Con 32 [.d p.av,.d (.sl (l.map Lin.av))] (.d (.bool (jT p l))):=by
 refine con Tryz.func32 rfl rfl Tryz.call32 rfl fun hwf=>?_
 (repeat' ((conv=>whnf);first|refine gA ?_|(refine gB ?_ ?_<;>intro h)|refine gC (Ca p l hp) ?_|intro _))<;>try (conv=>whnf)
 exact⟨rfl,rfl,trivial⟩
theorem xM (l:Lin):Con 39 [.d l.av] (.d (.bool (decide ((l.clause.length:Int)=0)))):=by
 refine con Tryz.func39 rfl rfl Tryz.call39 rfl fun hwf=>?_
 (repeat' ((conv=>whnf);first|refine gA ?_|(refine gB ?_ ?_<;>intro h)|intro _))<;>try (conv=>whnf)
 all_goals refine⟨?_,rfl,trivial⟩
 all_goals simp
theorem zN (l:List Lin) (fc:Nat) (caps:List AV) (p:Lin→Bool) (hc:∀x:Lin,Con fc ([.d x.av]++caps.map .ref) (.d (.bool (p x)))):
  Con 85 [.d (.sl (l.map Lin.av)),.fn fc caps] (.d (i64 (aQ p l 0))):=by
 refine con Tryz.func85 rfl rfl Tryz.call85 rfl fun hwf=>?_
 simp only [ARs.wf,AR.wf,AV.wf,AV.wfs,lm,lim] at hwf
 (conv=>whnf)
 refine aB [0,1,7] [] [] ?_
 (conv=>whnf)
 refine aA.go ((Nat)) (fun k=>(k≤l.length)∧(aQ p (l.drop k) k=aQ p l 0)) (fun k=>[(8,.data (i64 k))]) (fun _=>[]) (fun _=>[]) (fun k=>l.length - k) (0) ?_ ?_
 ·exact⟨by omega,rfl⟩
 rintro k ⟨hk,hi⟩
 (repeat' ((conv=>whnf);first|refine gA ?_|(refine gB ?_ ?_<;>intro h)|(refine gI ?_;intro x hx)|(refine gJ ?_;intro j x hj hx)|refine gV ?_|refine gC (hc x) ?_|intro _))<;>try (conv=>whnf)
 all_goals first
  |exact trivial
  |(refine⟨?_,rfl,trivial⟩;rw [bC (l:=l) (by assumption)] at hi;first|(simp_all [aQ];done)|(simp only [aQ, ← hi];clear hi;simp_all [aQ];done))
  |(refine⟨?_,rfl,trivial⟩;rw [aF (l:=l) (by assumption)] at hi;first|(simp_all [aQ];done)|(simp only [aQ, ← hi];clear hi;simp_all [aQ];done))
  |(refine nx (k+1) ?_
    rw [aF (l:=l) (by assumption)] at hi;refine⟨by omega,?_⟩;simp_all [aQ];done)
theorem wD (l:List Lin) (fc:Nat) (caps:List AV) (p:Lin→Bool) (hc:∀x:Lin,Con fc ([.d x.av]++caps.map .ref) (.d (.bool (p x)))):
  Con 38 [.d (.sl (l.map Lin.av)),.fn fc caps] (.d (.bool (l.any p))):=by
 refine con Tryz.func38 rfl rfl Tryz.call38 rfl fun hwf=>?_
 (repeat' ((conv=>whnf);first|refine gA ?_|(refine gB ?_ ?_<;>intro h)|refine gC (zN l fc caps p hc) ?_|intro _))<;>try (conv=>whnf)
 refine⟨?_,rfl,trivial⟩
 rw [← vY l 0]
theorem yS (p:Proj) (l:List Lin) (hp:p.fine):Con 12 [.d p.av,.d (.sl (l.map Lin.av))] (.d (.bool (nI p l))):=by
 refine con Tryz.func12 rfl rfl Tryz.call12 rfl fun hwf=>?_
 (repeat' ((conv=>whnf);first|refine gA ?_|(refine gB ?_ ?_<;>intro h)|refine gC (zM p l hp) ?_|refine gC (wD l 39 [] _ fun x=>xM x) ?_|intro _))<;>try (conv=>whnf)
 all_goals refine⟨?_,rfl,trivial⟩
 all_goals simp [nI, *]
end Go.Proofs.YtmenphiahgkjkaaGreatDoor.Abs
namespace Go.Proofs.YtmenphiahgkjkaaGreatDoor.Abs
open Go.Proofs
theorem uL (l:List Step):Con 53 [.d (.sl (l.map Step.av))] (.own 117 (l.map Step.av)):=by
 refine con Tryz.func53 rfl rfl Tryz.call53 rfl fun hwf=>?_
 simp only [ARs.wf,AR.wf,AV.wf,AV.wfs,lm,lim] at hwf
 (repeat' ((conv=>whnf);first|refine gA ?_|refine Xa.mk (fun h=>?_) ?_|(refine gB ?_ ?_<;>intro h)|refine gP ?_|intro _))<;>try (conv=>whnf)
 ·exact⟨h,rfl,trivial⟩
 ·exact⟨by simp,rfl,trivial⟩
theorem uM (l:List Link):Con 51 [.d (.sl (l.map Link.av))] (.own 104 (l.map Link.av)):=by
 refine con Tryz.func51 rfl rfl Tryz.call51 rfl fun hwf=>?_
 simp only [ARs.wf,AR.wf,AV.wf,AV.wfs,lm,lim] at hwf
 (repeat' ((conv=>whnf);first|refine gA ?_|refine Xa.mk (fun h=>?_) ?_|(refine gB ?_ ?_<;>intro h)|refine gP ?_|intro _))<;>try (conv=>whnf)
 ·exact⟨h,rfl,trivial⟩
 ·exact⟨by simp,rfl,trivial⟩
theorem nT {α:Type} {l o:List α} {k:Nat} {x:α} (h:l[k]? =some x) (ho:o=l.take k):o++[x]=l.take (k+1):=by
 rw [ho,List.take_add_one,h];rfl
theorem qH {α:Type} {l o:List α} {k:Nat} (h:¬ k < l.length) (ho:o=l.take k):o=l:=by
 rw [ho,List.take_of_length_le (by omega)]
theorem take_len {α:Type} {l o:List α} {k:Nat} (ho:o=l.take k):o.length≤k:=by rw [ho];simp;omega
theorem yJ (p:Proj):Con 17 [.d p.av] (.d p.av):=by
 refine con Tryz.func17 rfl rfl Tryz.call17 rfl fun hwf=>?_
 simp only [ARs.wf,AR.wf,AV.wf,AV.wfs,lm,lim] at hwf
 (repeat' ((conv=>whnf);first|refine gA ?_|(refine gB ?_ ?_<;>intro h)|(refine gI ?_;intro x hx)|(refine gJ ?_;intro j x hj hx)|refine gP ?_|refine gV ?_|refine gC (uM p.links) ?_|refine gC (slices_Clone_int p.aW) ?_|intro _))<;>try (conv=>whnf)
 refine aB [1,2,3,24,25] [1,2] [61,19000,22000] ?_
 (conv=>whnf)
 refine aA.go ((Nat)×(List aC)) (fun⟨k,o⟩=>(k≤p.acts.length)∧(o=p.acts.take k)) (fun⟨k,o⟩=>[(26,.data (i64 k))]) (fun⟨k,o⟩=>[(3,[.data (i64 p.dead),.own 61 0,.own 19000 0,.ah,.own 22000 0])]) (fun⟨k,o⟩=>[(61,101,o.map aC.av,0),(19000,104,p.links.map Link.av,0),(22000,3,p.aW.map i64,0)]) (fun⟨k,o⟩=>p.acts.length - k) ⟨0,[]⟩ ?_ ?_
 ·exact⟨Nat.zero_le _,rfl⟩
 rintro⟨k,o⟩ ⟨hk,ho⟩
 by_cases hlt:k < p.acts.length
 ·obtain⟨a,ha⟩:∃a,p.acts[k]? =some a:=⟨p.acts[k]'hlt,by simp⟩
  have hol:=take_len ho
  have hwa:=rP hwf.1.2.1.2 ha
  simp only [AV.wf,AV.wfs,List.length_map] at hwa
  (repeat' ((conv=>whnf);first|with_reducible refine Idx.got ha rfl ?_|(exfalso;omega)|refine gA ?_|(refine gB ?_ ?_<;>intro h)|(refine gI ?_;intro x hx)|(refine gJ ?_;intro j x hj hx)|refine gP ?_|refine gV ?_|intro _))<;>try (conv=>whnf)
  refine aB [1,2,3,6,24,25,26,36,37] [1,2,3] [54] ?_
  (conv=>whnf)
  refine aA.go ((Nat)×(List Mode)) (fun⟨j,q⟩=>(j≤a.modes.length)∧(q=a.modes.take j)) (fun⟨j,q⟩=>[(38,.data (i64 j))]) (fun⟨j,q⟩=>[(6,[.data (.str a.name),.data (i64 a.fam),.own 54 0])]) (fun⟨j,q⟩=>[(54,114,q.map Mode.av,0)]) (fun⟨j,q⟩=>a.modes.length - j) ⟨0,[]⟩ ?_ ?_
  ·exact⟨Nat.zero_le _,rfl⟩
  rintro⟨j,q⟩ ⟨hj,hq⟩
  have hql:=take_len hq
  by_cases hjt:j < a.modes.length
  ·obtain⟨m,hm⟩:∃m,a.modes[j]? =some m:=⟨a.modes[j]'hjt,by simp⟩
   (repeat' ((conv=>whnf);first|with_reducible refine Idx.got hm rfl ?_|(exfalso;omega)|refine gA ?_|(refine gB ?_ ?_<;>intro h)|(refine gI ?_;intro x hx)|(refine gJ ?_;intro j x hj hx)|refine gP ?_|refine gV ?_|refine gC (slices_Clone_int m.use) ?_|refine gC (slices_Clone_int m.con) ?_|intro _))<;>try (conv=>whnf)
   refine nw ⟨j+1,q++[m]⟩ ?_ ?_
   ·(repeat' ((conv=>whnf)<;>(first|exact trivial|exact rfl|with_reducible refine And.intro ?_ ?_)))<;>((conv=>whnf)<;>(simp))
   exact⟨by omega,nT hm hq⟩
  ·obtain rfl:=qH hjt hq
   (repeat' ((conv=>whnf);first|(exfalso;omega)|refine gA ?_|(refine gB ?_ ?_<;>intro h)|(refine gI ?_;intro x hx)|(refine gJ ?_;intro j x hj hx)|refine gP ?_|refine gV ?_|intro _))<;>try (conv=>whnf)
   refine nw ⟨k+1,o++[a]⟩ ?_ ?_
   ·(repeat' ((conv=>whnf)<;>(first|exact trivial|exact rfl|with_reducible refine And.intro ?_ ?_)))<;>((conv=>whnf)<;>(simp))
   exact⟨by omega,nT ha ho⟩
 obtain rfl:=qH hlt ho
 (repeat' ((conv=>whnf);first|(exfalso;omega)|refine gA ?_|(refine gB ?_ ?_<;>intro h)|(refine gI ?_;intro x hx)|(refine gJ ?_;intro j x hj hx)|refine gP ?_|refine gV ?_|intro _))<;>try (conv=>whnf)
 refine aB [2,3,65,66] [2] [61,19000,94,22000] ?_
 (conv=>whnf)
 refine aA.go ((Nat)×(List dR)) (fun⟨r,o⟩=>(r≤p.bB.length)∧(o=p.bB.take r)) (fun⟨r,o⟩=>[(67,.data (i64 r))]) (fun⟨r,o⟩=>[(3,[.data (i64 p.dead),.own 61 0,.own 19000 0,.own 94 0,.own 22000 0])]) (fun⟨r,o⟩=>[(61,101,p.acts.map aC.av,0),(19000,104,p.links.map Link.av,0),(94,96,o.map dR.av,0),(22000,3,p.aW.map i64,0)]) (fun⟨r,o⟩=>p.bB.length - r) ⟨0,[]⟩ ?_ ?_
 ·exact⟨Nat.zero_le _,rfl⟩
 rintro⟨r,o⟩ ⟨hk,ho⟩
 by_cases hlt:r < p.bB.length
 ·obtain⟨a,ha⟩:∃a,p.bB[r]? =some a:=⟨p.bB[r]'hlt,by simp⟩
  have hol:=take_len ho
  have hwa:=rP hwf.1.2.2.2.1.2 ha
  simp only [AV.wf,AV.wfs,List.length_map] at hwa
  (repeat' ((conv=>whnf);first|with_reducible refine Idx.got ha rfl ?_|(exfalso;omega)|refine gA ?_|(refine gB ?_ ?_<;>intro h)|(refine gI ?_;intro x hx)|(refine gJ ?_;intro j x hj hx)|refine gP ?_|refine gV ?_|refine gC (uL a.steps) ?_|intro _))<;>try (conv=>whnf)
  refine aB [2,3,11,65,66,67,76,77] [2,3] [74000,87] ?_
  (conv=>whnf)
  refine aA.go ((Nat)×(List (List Int))) (fun⟨j,q⟩=>(j≤a.setup.length)∧(q=a.setup.take j)) (fun⟨j,q⟩=>[(78,.data (i64 j))]) (fun⟨j,q⟩=>[(11,[.own 74000 0,.own 87 0])]) (fun⟨j,q⟩=>[(74000,117,a.steps.map Step.av,0),(87,26,q.map ints,0)]) (fun⟨j,q⟩=>a.setup.length - j) ⟨0,[]⟩ ?_ ?_
  ·exact⟨Nat.zero_le _,rfl⟩
  rintro⟨j,q⟩ ⟨hj,hq⟩
  have hql:=take_len hq
  by_cases hjt:j < a.setup.length
  ·obtain⟨m,hm⟩:∃m,a.setup[j]? =some m:=⟨a.setup[j]'hjt,by simp⟩
   (repeat' ((conv=>whnf);first|with_reducible refine Idx.got hm rfl ?_|(exfalso;omega)|refine gA ?_|(refine gB ?_ ?_<;>intro h)|(refine gI ?_;intro x hx)|(refine gJ ?_;intro j x hj hx)|refine gP ?_|refine gV ?_|refine gC (slices_Clone_int m) ?_|intro _))<;>try (conv=>whnf)
   refine nw ⟨j+1,q++[m]⟩ ?_ ?_
   ·(repeat' ((conv=>whnf)<;>(first|exact trivial|exact rfl|with_reducible refine And.intro ?_ ?_)))<;>((conv=>whnf)<;>(simp))
   exact⟨by omega,nT hm hq⟩
  ·obtain rfl:=qH hjt hq
   (repeat' ((conv=>whnf);first|(exfalso;omega)|refine gA ?_|(refine gB ?_ ?_<;>intro h)|(refine gI ?_;intro x hx)|(refine gJ ?_;intro j x hj hx)|refine gP ?_|refine gV ?_|intro _))<;>try (conv=>whnf)
   refine nw ⟨r+1,o++[a]⟩ ?_ ?_
   ·(repeat' ((conv=>whnf)<;>(first|exact trivial|exact rfl|with_reducible refine And.intro ?_ ?_)))<;>((conv=>whnf)<;>(simp))
   exact⟨by omega,nT ha ho⟩
 obtain rfl:=qH hlt ho
 (repeat' ((conv=>whnf);first|(exfalso;omega)|refine gA ?_|(refine gB ?_ ?_<;>intro h)|(refine gI ?_;intro x hx)|(refine gJ ?_;intro j x hj hx)|refine gP ?_|refine gV ?_|intro _))<;>try (conv=>whnf)
 exact⟨rfl,rfl,trivial⟩
open Go.Proofs
def acT:Lin:=⟨0,⟨0,0,0,0⟩,[]⟩
def GH (ls:List Lin) (i:Int):Lin:=ls.getD i.toNat acT
def WK (ls:List Lin) (idx:List Int):List Lin:=idx.map (GH ls)
theorem qI {n:Nat} {x:Int} (h:x∈upTo n):0≤x∧x < n:=by
 simp only [upTo,List.mem_map,List.mem_range] at h
 obtain⟨k,h1,rfl⟩:=h
 exact⟨Int.natCast_nonneg k,Int.ofNat_lt.2 h1⟩
theorem Ld {α β:Type} (f:α→β) {l:List α} {k:Nat} {x:α} (h:l[k]? =some x):(l.take k).map f++[f x]=(l.take (k+1)).map f:=by
 obtain⟨hk,rfl⟩:=List.getElem?_eq_some_iff.1 h
 rw [List.take_succ_eq_append_getElem hk,List.map_append];rfl
theorem Vt {ls:List Lin} {i:Int} {x:Lin} (h:ls[i.toNat]? =some x):GH ls i=x:=by simp [GH,List.getD_eq_getElem?_getD,h]
end Go.Proofs.YtmenphiahgkjkaaGreatDoor.Abs
