/- Contracts: refutations by rules. -/
import Derived.Test.YtglikcnmgnlejaaGreatC9
set_option linter.all false
set_option maxRecDepth 20000
set_option maxHeartbeats 0
namespace Go.Proofs.YtglikcnmgnlejaaGreat.Abs
open Go.Proofs
def usable (p:Proj) (b:Dom):Bool:=aQ p b&& !jf b
theorem jZ (p:Proj) (b:Dom) (hp:p.fine):Con 362 [.d p.av,.d b.av] (.d (.bool (usable p b))):=by
 refine con Tryz.func362 rfl rfl Tryz.call362 rfl fun hwf=>?_
 (repeat' ((conv=>whnf);first|refine gA ?_|(refine gB ?_ ?_<;>intro h)|refine gC (bn p b hp) ?_|refine gC (bD b) ?_|intro _))<;>try (conv=>whnf)
 all_goals refine⟨?_,rfl,trivial⟩
 all_goals simp [usable, *]
theorem IC {p:Proj} {b:Dom} (h:usable p b=true):aQ p b=true:=by
 simp only [usable,Bool.and_eq_true] at h;exact h.1
theorem sN {p:Proj} {r:Int} (h:iB p r=true):∃(ρ:Nat) (x:aL),r=ρ∧p.aU[ρ]? =some x∧Iq p r=x:=by
 obtain⟨n,x,h1,h2⟩:=xP h
 exact⟨n,x,h1,h2,by subst h1;simp [Iq,List.getD_eq_getElem?_getD,h2]⟩
theorem EG (p:Proj) (b:Dom) (r x y:Int) (hp:p.fine) (hu:usable p b=true) (hr:iB p r=true) (hx:dw x=true) (hy:dw y=true) (hxy:x < y):
  Con 402 [.d p.av,.d b.av,.d (i64 r),.d (i64 x),.d (i64 y)] (.d (.bool (decide (AO p b r x y > pG (Iq p r).steps x y)))):=by
 refine con Tryz.func402 rfl rfl Tryz.call402 rfl fun hwf=>?_
 obtain⟨ρ,re,e1,e2,e3⟩:=sN hr
 rw [e3]
 (repeat' ((conv=>whnf);first|with_reducible refine Idx.got e2 e1 ?_|refine gA ?_|(refine gN ?_ ?_<;>intro h hw)|(refine gB ?_ ?_<;>intro h)|(refine gI ?_;intro x hx)|(refine gJ ?_;intro j x hj hx)|refine gC (jZ p b hp) ?_|refine gC (gY p _) ?_|refine gC (lV _) ?_|refine gC (KW p b r x y (IC hu) hr) ?_|refine gC (CY re.steps x y) ?_|intro _))<;>try (conv=>whnf)
 all_goals first
  |(exfalso;omega)
  |exact⟨rfl,rfl,trivial⟩
theorem QO (p:Proj) (b:Dom) (r x y:Int) (hf:aQ p b=true) (hr:iB p r=true):
  Con 392 [.d p.av,.d b.av,.d (i64 r),.d (i64 x),.d (i64 y)] (.d (.bool (decide (AO p b r x y > pG (Iq p r).steps x y)))):=by
 refine con Tryz.func392 rfl rfl Tryz.call392 rfl fun hwf=>?_
 simp only [ARs.wf,AR.wf,AV.wf,AV.wfs,lm,lim] at hwf
 obtain⟨ρ,re,e1,e2,e3⟩:=sN hr
 rw [e3]
 (repeat' ((conv=>whnf);first|refine gA ?_|(refine gB ?_ ?_<;>intro h)|(refine gI ?_;intro x hx)|(refine gJ ?_;intro j x hj hx)|refine gV ?_|intro _))<;>try (conv=>whnf)
 refine au [2,3,4,5,6,15] [5,6] [] ?_
 (conv=>whnf)
 refine ak.go ((Nat)×(Int)) (fun⟨k,s⟩=>(k≤p.acts.length)∧(s=sumTo (qj p b r x y) k)) (fun⟨k,s⟩=>[(16,.data (i64 k)),(11,.data (i64 s))]) (fun _=>[]) (fun _=>[]) (fun⟨k,s⟩=>p.acts.length - k) ⟨0,0⟩ ?_ ?_
 ·exact⟨by omega,rfl⟩
 rintro⟨k,s⟩ ⟨hk,hs⟩
 by_cases hlt:k < p.acts.length
 ·obtain⟨a,lo,hi,m,hg⟩:=fF hf hlt
  have hb:=oz (f:=qj p b r x y) (c:=4000000) (n:=k) fun i hi=>sD hf hr x y (by omega)
  have hw:=sD hf hr x y hlt
  (repeat' ((conv=>whnf);first|refine gA ?_|(refine gB ?_ ?_<;>intro h)|(refine gI ?_;intro x hx)|(refine gJ ?_;intro j x hj hx)|refine gV ?_|refine gC (QN p b _ r x y hg rfl hr) ?_|intro _))<;>try (conv=>whnf)
  ·refine nx ⟨k+1,s+qj p b r x y k⟩ ?_
   exact⟨by omega,by rw [sumTo,hs]⟩
  ·exfalso;omega
 ·(repeat' ((conv=>whnf);first|(exfalso;omega)|with_reducible refine Idx.got e2 e1 ?_|refine gA ?_|(refine gB ?_ ?_<;>intro h)|(refine gI ?_;intro x hx)|(refine gJ ?_;intro j x hj hx)|refine gV ?_|refine gC (CZ re.steps x y) ?_|intro _))<;>try (conv=>whnf)
  refine⟨?_,rfl,trivial⟩
  rw [hs,show k=p.acts.length by omega];rfl
structure JK (p:Proj) (r a o:Int) (ka ko:aC) (x:aL) (ρ i j:Nat) (row:List Int) (v:Int):Prop where
 rρ:r=ρ
 res:p.aU[ρ]? =some x
 fi:ka.fam=i
 fj:ko.fam=j
 aez:x.setup[i]? =some row
 aeA:row[j]? =some v
 vb:0≤v∧v≤12
 eq:QD p r a o=v
theorem KX {p:Proj} {r a o:Int} {k k':Nat} {ka ko:aC} (hok:bE p=true) (hm:iL p r=true) (ha:p.acts[k]? =some ka) (ho:p.acts[k']? =some ko) (e:a=k) (e':o=k'):
  ∃x ρ i j row v,JK p r a o ka ko x ρ i j row v:=by
 simp only [iL,Bool.and_eq_true,decide_eq_true_eq] at hm
 obtain⟨ρ,x,e1,e2⟩:=xP hm.1
 have pf:=eu hok
 have hres:=pf.res ρ x e2
 have hlen:(p.aU.getD r.toNat ⟨[],[]⟩)=x:=by subst e1;simp [List.getD_eq_getElem?_getD,e2]
 rw [hlen] at hm
 simp only [qc,Bool.and_eq_true,Bool.or_eq_true,decide_eq_true_eq,List.all_eq_true,rowOk,within_iff] at hres
 have h4:x.setup.length=4:=by omega
 have ff:∀{n:Nat} {q:aC},p.acts[n]? =some q→0≤q.fam∧q.fam≤3:=fun {n q} hq=>by
  have:=pf.act n q hq
  simp only [dJ,Bool.and_eq_true,within_iff] at this
  exact this.2.1.2
 have f1:=ff ha
 have f2:=ff ho
 have e3:x.setup[ka.fam.toNat]? =some (x.setup[ka.fam.toNat]'(by omega)):=by simp
 have hrow:=hres.1 _ (List.mem_of_getElem? e3)
 have e4:(x.setup[ka.fam.toNat]'(by omega))[ko.fam.toNat]? =some ((x.setup[ka.fam.toNat]'(by omega))[ko.fam.toNat]'(by omega)):=by simp
 refine⟨x,ρ,ka.fam.toNat,ko.fam.toNat,_,_,e1,e2,by omega,by omega,e3,e4,hrow.2 _ (List.mem_of_getElem? e4),?_⟩
 subst e e' e1
 simp [QD,Iq,nI,List.getD_eq_getElem?_getD,e2,ha,ho,e3,e4]
theorem KY (p:Proj) (b:Dom) (r:Int) (hp:p.fine) (hu:usable p b=true) (hm:iL p r=true):Con 474 [.d p.av,.d b.av,.d (i64 r)] (.d (.bool true)):=by
 refine con Tryz.func474 rfl rfl Tryz.call474 rfl fun hwf=>?_
 (repeat' ((conv=>whnf);first|refine gA ?_|(refine gB ?_ ?_<;>intro h)|refine gC (jZ p b hp) ?_|refine gC (lZ p r) ?_|intro _))<;>try (conv=>whnf)
 all_goals (refine⟨?_,rfl,trivial⟩;simp [*])
theorem EH (p:Proj) (b:Dom) (r a o:Int) (hp:p.fine) (hu:usable p b=true) (hm:iL p r=true) (ha:dz p a=true) (ho:dz p o=true) (hne:a≠o):
  Con 458 [.d p.av,.d b.av,.d (i64 r),.d (i64 a),.d (i64 o)] (.d (.bool true)):=by
 refine con Tryz.func458 rfl rfl Tryz.call458 rfl fun hwf=>?_
 (repeat' ((conv=>whnf);first|refine gA ?_|(refine gB ?_ ?_<;>intro h)|refine gC (KY p b r hp hu hm) ?_|refine gC (gX p _) ?_|intro _))<;>try (conv=>whnf)
 all_goals (refine⟨?_,rfl,trivial⟩;simp [*])
theorem ug (p:Proj) (b:Dom) (r n:Int) {k:Nat} {a:aC} {x y:Int} {m:List Int} (hg:eD p b k a x y m) (hn:n=k) (hp:p.fine) (hu:usable p b=true) (hr:iB p r=true) (ha:dz p n=true):
  Con 459 [.d p.av,.d b.av,.d (i64 r),.d (i64 n)] (.d (i64 (jX a m r))):=by
 refine con Tryz.func459 rfl rfl Tryz.call459 rfl fun hwf=>?_
 (repeat' ((conv=>whnf);first|with_reducible refine Idx.got hg.act hn ?_|with_reducible refine Idx.got hg.modes hn ?_|refine gA ?_|(refine gB ?_ ?_<;>intro h)|(refine gI ?_;intro x hx)|(refine gJ ?_;intro j x hj hx)|refine gC (jZ p b hp) ?_|refine gC (gY p _) ?_|refine gC (gX p _) ?_|refine gC (Ca a m r) ?_|intro _))<;>try (conv=>whnf)
 exact⟨rfl,rfl,trivial⟩
theorem KZ {p:Proj} {r:Int} (h:iL p r=true):iB p r=true:=by
 simp only [iL,Bool.and_eq_true] at h;exact h.1
theorem QS (p:Proj) (b:Dom) (r a o:Int) {k k':Nat} {ka ko:aC} {x y x' y':Int} {m m':List Int} (hg:eD p b k ka x y m) (hn:a=k) (hg':eD p b k' ko x' y' m') (hn':o=k') (hp:p.fine) (hu:usable p b=true)
  (hm:iL p r=true) (ha:dz p a=true) (ho:dz p o=true) (hne:a≠o):
  Con 437 [.d p.av,.d b.av,.d (i64 r),.d (i64 a),.d (i64 o)] (.d (.bool (decide (jX ka m r > 0)&&decide (jX ko m' r > 0)))):=by
 refine con Tryz.func437 rfl rfl Tryz.call437 rfl fun hwf=>?_
 (repeat' ((conv=>whnf);first|refine gA ?_|(refine gB ?_ ?_<;>intro h)|refine gC (EH p b r a o hp hu hm ha ho hne) ?_|refine gC (ug p b r a hg hn hp hu (KZ hm) ha) ?_|refine gC (ug p b r o hg' hn' hp hu (KZ hm) ho) ?_|intro _))<;>try (conv=>whnf)
 all_goals (refine⟨?_,rfl,trivial⟩;simp [*])
theorem La (p:Proj) (r a o:Int) {k k':Nat} {ka ko:aC} {x:aL} {ρ i j:Nat} {row:List Int} {v:Int} (ha:p.acts[k]? =some ka) (e:a=k) (ho:p.acts[k']? =some ko) (e':o=k') (hp:p.fine) (hok:bE p=true)
  (hm:iL p r=true) (ha':dz p a=true) (ho':dz p o=true) (hM:JK p r a o ka ko x ρ i j row v):Con 382 [.d p.av,.d (i64 r),.d (i64 a),.d (i64 o)] (.d (i64 v)):=by
 refine con Tryz.func382 rfl rfl Tryz.call382 rfl fun hwf=>?_
 (repeat' ((conv=>whnf);first|with_reducible refine Idx.got hM.res hM.rρ ?_|with_reducible refine Idx.got ha e ?_|with_reducible refine Idx.got ho e' ?_|with_reducible refine Idx.got hM.aez hM.fi ?_|with_reducible refine Idx.got hM.aeA hM.fj ?_|refine gA ?_|(refine gB ?_ ?_<;>intro h)|(refine gI ?_;intro x hx)|(refine gJ ?_;intro j x hj hx)|refine gC (lZ p r) ?_|refine gC (dA p hp) ?_|refine gC (gX p _) ?_|intro _))<;>try (conv=>whnf)
 exact⟨rfl,rfl,trivial⟩
theorem VG (p:Proj) (b:Dom) (r a o:Int) {k k':Nat} {ka ko:aC} {x y:Int} {m:List Int} {re:aL} {ρ i j:Nat} {row:List Int} {v:Int} (hg:eD p b k ka x y m) (e:a=k) (ho:p.acts[k']? =some ko) (e':o=k') (hp:p.fine) (hok:bE p=true)
  (hm:iL p r=true) (ha':dz p a=true) (ho':dz p o=true) (hM:JK p r a o ka ko re ρ i j row v):Con 460 [.d p.av,.d b.av,.d (i64 r),.d (i64 a),.d (i64 o)] (.d (i64 (pI p b r a o))):=by
 refine con Tryz.func460 rfl rfl Tryz.call460 rfl fun hwf=>?_
 have hd:=jL hg.aok m
 rw [← nK hg] at hd
 have h1:=hg.lob
 have h2:=hM.vb
 have eq:pI p b r a o=x+wE p b k+v:=by
  rw [pI,hM.eq];subst e;simp [List.getD_eq_getElem?_getD,hg.lo]
 rw [eq]
 (repeat' ((conv=>whnf);first|with_reducible refine Idx.got hg.lo e ?_|refine gA ?_|(refine gB ?_ ?_<;>intro h)|(refine gI ?_;intro x hx)|(refine gJ ?_;intro j x hj hx)|refine gV ?_|refine gC (qO p b a hg e) ?_|refine gC (La p r a o hg.act e ho e' hp hok hm ha' ho' hM) ?_|intro _))<;>try (conv=>whnf)
 exact⟨rfl,rfl,trivial⟩
theorem yR (p:Proj) (b:Dom) (r a o:Int) {k k':Nat} {ka ko:aC} {x y x' y':Int} {m m':List Int} (hg:eD p b k ka x y m) (hn:a=k) (hg':eD p b k' ko x' y' m') (hn':o=k') (hp:p.fine) (hu:usable p b=true)
  (hm:iL p r=true) (ha:dz p a=true) (ho:dz p o=true) (hne:a≠o):
  Con 438 [.d p.av,.d b.av,.d (i64 r),.d (i64 a),.d (i64 o)] (.d (.bool (decide (pI p b r a o≤y')))):=by
 refine con Tryz.func438 rfl rfl Tryz.call438 rfl fun hwf=>?_
 have hok:=(bB (IC hu)).1
 obtain⟨re,ρ,i,j,row,v,hM⟩:=KX hok hm hg.act hg'.act hn hn'
 (repeat' ((conv=>whnf);first|with_reducible refine Idx.got hg'.hi hn' ?_|refine gA ?_|(refine gB ?_ ?_<;>intro h)|(refine gI ?_;intro x hx)|(refine gJ ?_;intro j x hj hx)|refine gC (EH p b r a o hp hu hm ha ho hne) ?_|refine gC (VG p b r a o hg hn hg'.act hn' hp hok hm ha ho hM) ?_|intro _))<;>try (conv=>whnf)
 all_goals (refine⟨?_,rfl,trivial⟩;simp [*])
theorem ZG {p:Proj} {b:Dom} {r a o:Int} {k k':Nat} {ka ko:aC} {x y x' y':Int} {m m':List Int} (hg:eD p b k ka x y m) (hn:a=k) (hg':eD p b k' ko x' y' m') (hn':o=k'):
  jam p b r a o=(decide (jX ka m r > 0)&&decide (jX ko m' r > 0)&&decide (pI p b r a o > y')&&decide (pI p b r o a > y)):=by
 subst hn hn'
 simp [jam,nI,List.getD_eq_getElem?_getD,hg.act,hg.modes,hg'.act,hg'.modes,hg.hi,hg'.hi]
theorem EI (p:Proj) (b:Dom) (r a o:Int) {k k':Nat} {ka ko:aC} {x y x' y':Int} {m m':List Int} (hg:eD p b k ka x y m) (hn:a=k) (hg':eD p b k' ko x' y' m') (hn':o=k') (hp:p.fine) (hu:usable p b=true)
  (hm:iL p r=true) (ha:dz p a=true) (ho:dz p o=true) (hne:a≠o):
  Con 403 [.d p.av,.d b.av,.d (i64 r),.d (i64 a),.d (i64 o)] (.d (.bool (jam p b r a o))):=by
 refine con Tryz.func403 rfl rfl Tryz.call403 rfl fun hwf=>?_
 rw [ZG hg hn hg' hn']
 (repeat' ((conv=>whnf);first|refine gA ?_|(refine gB ?_ ?_<;>intro h)|refine gC (QS p b r a o hg hn hg' hn' hp hu hm ha ho hne) ?_|refine gC (yR p b r a o hg hn hg' hn' hp hu hm ha ho hne) ?_|refine gC (yR p b r o a hg' hn' hg hn hp hu hm ho ha (Ne.symm hne)) ?_|intro _))<;>try (conv=>whnf)
 ·refine⟨?_,rfl,trivial⟩
  rw [show (decide (jX ka m r > 0)&&decide (jX ko m' r > 0))=true by assumption]
  simp only [AV.bool.injEq];rw [Bool.eq_iff_iff];simp;omega
 ·refine⟨?_,rfl,trivial⟩
  rw [show (decide (jX ka m r > 0)&&decide (jX ko m' r > 0))=true by assumption]
  simp only [AV.bool.injEq];rw [Bool.eq_iff_iff];simp;omega
 ·refine⟨?_,rfl,trivial⟩
  rw [h];rfl
theorem Cg (p:Proj) (b:Dom) (r a o:Int) {k k':Nat} {ka ko:aC} {x y:Int} {m:List Int} {re:aL} {ρ i j:Nat} {row:List Int} {v:Int} (hg:eD p b k ka x y m) (e:a=k) (ho:p.acts[k']? =some ko) (e':o=k') (hM:JK p r a o ka ko re ρ i j row v):
  Con 430 [.d p.av,.d b.av,.d (i64 r),.d (i64 a),.d (i64 o)] (.d (i64 (pI p b r a o))):=by
 refine con Tryz.func430 rfl rfl Tryz.call430 rfl fun hwf=>?_
 have hd:=jL hg.aok m
 rw [← nK hg] at hd
 have h1:=hg.lob
 have h2:=hM.vb
 have eq:pI p b r a o=x+wE p b k+v:=by
  rw [pI,hM.eq];subst e;simp [List.getD_eq_getElem?_getD,hg.lo]
 rw [eq]
 (repeat' ((conv=>whnf);first|with_reducible refine Idx.got hg.lo e ?_|with_reducible refine Idx.got hM.res hM.rρ ?_|with_reducible refine Idx.got hg.act e ?_|with_reducible refine Idx.got ho e' ?_|with_reducible refine Idx.got hM.aez hM.fi ?_|with_reducible refine Idx.got hM.aeA hM.fj ?_|refine gA ?_|(refine gB ?_ ?_<;>intro h)|(refine gI ?_;intro x hx)|(refine gJ ?_;intro j x hj hx)|refine gV ?_|refine gC (qP p b a hg e) ?_|intro _))<;>try (conv=>whnf)
 exact⟨rfl,rfl,trivial⟩
theorem TH (p:Proj) (b:Dom) (r a o:Int) {k k':Nat} {ka ko:aC} {x y x' y':Int} {m m':List Int} (hg:eD p b k ka x y m) (hn:a=k) (hg':eD p b k' ko x' y' m') (hn':o=k') (hok:bE p=true) (hm:iL p r=true):
  Con 393 [.d p.av,.d b.av,.d (i64 r),.d (i64 a),.d (i64 o)] (.d (.bool (jam p b r a o))):=by
 refine con Tryz.func393 rfl rfl Tryz.call393 rfl fun hwf=>?_
 rw [ZG hg hn hg' hn']
 obtain⟨re,ρ,i,j,row,v,hM⟩:=KX hok hm hg.act hg'.act hn hn'
 obtain⟨re',ρ',i',j',row',v',hM'⟩:=KX hok hm hg'.act hg.act hn' hn
 (repeat' ((conv=>whnf);first|with_reducible refine Idx.got hg'.hi hn' ?_|with_reducible refine Idx.got hg.hi hn ?_|refine gA ?_|(refine gB ?_ ?_<;>intro h)|(refine gI ?_;intro x hx)|(refine gJ ?_;intro j x hj hx)|refine gC (xS p b r a hg hn) ?_|refine gC (xS p b r o hg' hn') ?_|refine gC (Cg p b r a o hg hn hg'.act hn' hM) ?_|refine gC (Cg p b r o a hg' hn' hg.act hn hM') ?_|intro _))<;>try (conv=>whnf)
 all_goals (refine⟨?_,rfl,trivial⟩;simp only [AV.bool.injEq];rw [Bool.eq_iff_iff];simp;omega)
theorem zT {p:Proj} {b:Dom} {k:Nat} {a:aC} {x y:Int} {m:List Int} (h:eD p b k a x y m) (r:Int):Es p b r k=zH a m r:=by
 simp [Es,nI,List.getD_eq_getElem?_getD,h.act,h.modes]
theorem uY {p:Proj} {b:Dom} (hf:aQ p b=true) (r:Int) {k:Nat} (hk:k < p.acts.length):0≤Es p b r k∧Es p b r k≤20:=by
 obtain⟨a,lo,hi,m,h⟩:=fF hf hk
 rw [zT h];exact QJ h.aok _ _
theorem OT {p:Proj} {r:Int} (h:oZ p r=true):∃(ρ:Nat) (x:Int),r=ρ∧p.aO[ρ]? =some x:=by
 have hn:=within_iff.1 h
 exact⟨r.toNat,p.aO[r.toNat]'(by omega),by omega,by simp⟩
theorem EJ (p:Proj) (b:Dom) (r:Int) (hf:aQ p b=true) (hs:oZ p r=true):Con 404 [.d p.av,.d b.av,.d (i64 r)] (.d (.bool (tO p b r))):=by
 refine con Tryz.func404 rfl rfl Tryz.call404 rfl fun hwf=>?_
 simp only [ARs.wf,AR.wf,AV.wf,AV.wfs,lm,lim] at hwf
 obtain⟨ρ,c,e1,e2⟩:=OT hs
 (repeat' ((conv=>whnf);first|refine gA ?_|(refine gB ?_ ?_<;>intro h)|(refine gI ?_;intro x hx)|(refine gJ ?_;intro j x hj hx)|refine gV ?_|intro _))<;>try (conv=>whnf)
 refine au [2,3,4,11,12] [3,4] [] ?_
 (conv=>whnf)
 refine ak.go ((Nat)×(Int)) (fun⟨k,s⟩=>(k≤p.acts.length)∧(s=sumTo (Es p b r) k)) (fun⟨k,s⟩=>[(13,.data (i64 k)),(7,.data (i64 s))]) (fun _=>[]) (fun _=>[]) (fun⟨k,s⟩=>p.acts.length - k) ⟨0,0⟩ ?_ ?_
 ·exact⟨by omega,rfl⟩
 rintro⟨k,s⟩ ⟨hk,hs⟩
 by_cases hlt:k < p.acts.length
 ·obtain⟨a,lo,hi,m,hg⟩:=fF hf hlt
  have hb:=oz (f:=Es p b r) (c:=20) (n:=k) fun i hi=>uY hf r (by omega)
  have hw:=uY hf r hlt
  rw [zT hg] at hw
  (repeat' ((conv=>whnf);first|with_reducible refine Idx.got hg.act rfl ?_|with_reducible refine Idx.got hg.modes rfl ?_|refine gA ?_|(refine gB ?_ ?_<;>intro h)|(refine gI ?_;intro x hx)|(refine gJ ?_;intro j x hj hx)|refine gV ?_|refine gC (Bh a m r) ?_|intro _))<;>try (conv=>whnf)
  ·refine nx ⟨k+1,s+zH a m r⟩ ?_
   exact⟨by omega,by rw [sumTo,hs,zT hg]⟩
  ·exfalso;omega
 ·(repeat' ((conv=>whnf);first|(exfalso;omega)|with_reducible refine Idx.got e2 e1 ?_|refine gA ?_|(refine gB ?_ ?_<;>intro h)|(refine gI ?_;intro x hx)|(refine gJ ?_;intro j x hj hx)|refine gV ?_|intro _))<;>try (conv=>whnf)
  refine⟨?_,rfl,trivial⟩
  rw [tO,hs,show k=p.acts.length by omega];subst e1;simp [List.getD_eq_getElem?_getD,e2]
theorem Nq (p:Proj) (b:Dom) (r:Int) (hf:aQ p b=true) (hs:oZ p r=true):Con 394 [.d p.av,.d b.av,.d (i64 r)] (.d (.bool (tO p b r))):=by
 refine con Tryz.func394 rfl rfl Tryz.call394 rfl fun hwf=>?_
 simp only [ARs.wf,AR.wf,AV.wf,AV.wfs,lm,lim] at hwf
 obtain⟨ρ,c,e1,e2⟩:=OT hs
 (repeat' ((conv=>whnf);first|refine gA ?_|(refine gB ?_ ?_<;>intro h)|(refine gI ?_;intro x hx)|(refine gJ ?_;intro j x hj hx)|refine gV ?_|intro _))<;>try (conv=>whnf)
 refine au [2,3,4,11] [3,4] [] ?_
 (conv=>whnf)
 refine ak.go ((Nat)×(Int)) (fun⟨k,s⟩=>(k≤p.acts.length)∧(s=sumTo (Es p b r) k)) (fun⟨k,s⟩=>[(12,.data (i64 k)),(7,.data (i64 s))]) (fun _=>[]) (fun _=>[]) (fun⟨k,s⟩=>p.acts.length - k) ⟨0,0⟩ ?_ ?_
 ·exact⟨by omega,rfl⟩
 rintro⟨k,s⟩ ⟨hk,hs⟩
 by_cases hlt:k < p.acts.length
 ·obtain⟨a,lo,hi,m,hg⟩:=fF hf hlt
  have hb:=oz (f:=Es p b r) (c:=20) (n:=k) fun i hi=>uY hf r (by omega)
  have hw:=uY hf r hlt
  rw [zT hg] at hw
  (repeat' ((conv=>whnf);first|with_reducible refine Idx.got hg.act rfl ?_|with_reducible refine Idx.got hg.modes rfl ?_|refine gA ?_|(refine gB ?_ ?_<;>intro h)|(refine gI ?_;intro x hx)|(refine gJ ?_;intro j x hj hx)|refine gV ?_|refine gC (Bj a m r) ?_|intro _))<;>try (conv=>whnf)
  ·refine nx ⟨k+1,s+zH a m r⟩ ?_
   exact⟨by omega,by rw [sumTo,hs,zT hg]⟩
  ·exfalso;omega
 ·(repeat' ((conv=>whnf);first|(exfalso;omega)|with_reducible refine Idx.got e2 e1 ?_|refine gA ?_|(refine gB ?_ ?_<;>intro h)|(refine gI ?_;intro x hx)|(refine gJ ?_;intro j x hj hx)|refine gV ?_|intro _))<;>try (conv=>whnf)
  refine⟨?_,rfl,trivial⟩
  rw [tO,hs,show k=p.acts.length by omega];subst e1;simp [List.getD_eq_getElem?_getD,e2]
theorem Gw (p:Proj) (b:Dom) (l:Link) (hf:aQ p b=true) (hl:nW p l=true):Con 399 [.d p.av,.d b.av,.d l.av] (.d (.bool (wF p b l))):=by
 refine con Tryz.func399 rfl rfl Tryz.call399 rfl fun hwf=>?_
 simp only [nW,Bool.and_eq_true] at hl
 obtain⟨k,_,e1,e2⟩:=lY hl.1.1.1
 obtain⟨k',_,e1',e2'⟩:=lY hl.1.1.2
 have afN:=within_iff.1 hl.2
 obtain⟨a,x,y,m,hg⟩:=fF hf (List.getElem?_eq_some_iff.1 e2).1
 obtain⟨a',x',y',m',hg'⟩:=fF hf (List.getElem?_eq_some_iff.1 e2').1
 have hd:=jL hg.aok m
 rw [← nK hg] at hd
 have h1:=hg.lob
 (repeat' ((conv=>whnf);first|with_reducible refine Idx.got hg.lo e1 ?_|with_reducible refine Idx.got hg'.hi e1' ?_|refine gA ?_|(refine gB ?_ ?_<;>intro h)|(refine gI ?_;intro x hx)|(refine gJ ?_;intro j x hj hx)|refine gV ?_|refine gC (qO p b _ hg e1) ?_|intro _))<;>try (conv=>whnf)
 all_goals (refine⟨?_,rfl,trivial⟩;simp [wF,e1,e1',List.getD_eq_getElem?_getD,hg.lo,hg'.hi, *];done)
end Go.Proofs.YtglikcnmgnlejaaGreat.Abs
