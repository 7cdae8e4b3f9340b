/- Contracts: refutations by rules. -/
import Derived.Test.YtefgamefajmdkaaGreatC9
set_option linter.all false
set_option maxRecDepth 20000
set_option maxHeartbeats 0
namespace Go.Proofs.YtefgamefajmdkaaGreat.Abs
open Go.Proofs
def usable (p:Proj) (b:Dom):Bool:=aC p b&& !aZ b
theorem uz (p:Proj) (b:Dom) (hp:p.fine):Con 206 [.d p.av,.d b.av] (.d (.bool (usable p b))):=by
 refine con Tryz.func206 rfl rfl Tryz.call206 rfl fun hwf=>?_
 (repeat' ((conv=>whnf);first|refine gA ?_|(refine gB ?_ ?_<;>intro h)|refine gC (bN p b hp) ?_|refine gC (bO b) ?_|intro _))<;>try (conv=>whnf)
 all_goals refine⟨?_,rfl,trivial⟩
 all_goals simp [usable, *]
theorem Hr {p:Proj} {b:Dom} (h:usable p b=true):aC p b=true:=by
 simp only [usable,Bool.and_eq_true] at h;exact h.1
theorem uX {p:Proj} {r:Int} (h:dV p r=true):∃(ρ:Nat) (x:fE),r=ρ∧p.bB[ρ]? =some x∧uS p r=x:=by
 obtain⟨n,x,h1,h2⟩:=wz h
 exact⟨n,x,h1,h2,by subst h1;simp [uS,List.getD_eq_getElem?_getD,h2]⟩
theorem ED (p:Proj) (b:Dom) (r x y:Int) (hp:p.fine) (hu:usable p b=true) (hr:dV p r=true) (hx:bC x=true) (hy:bC y=true) (hxy:x < y):
  Con 195 [.d p.av,.d b.av,.d (i64 r),.d (i64 x),.d (i64 y)] (.d (.bool (decide (oo p b r x y > mG (uS p r).steps x y)))):=by
 refine con Tryz.func195 rfl rfl Tryz.call195 rfl fun hwf=>?_
 obtain⟨ρ,re,e1,e2,e3⟩:=uX hr
 rw [e3]
 (repeat' ((conv=>whnf);first|with_reducible refine Idx.got e2 e1 ?_|refine gA ?_|(refine gN ?_ ?_<;>intro h hw)|(refine gB ?_ ?_<;>intro h)|(refine gI ?_;intro x hx)|(refine gJ ?_;intro j x hj hx)|refine gC (uz p b hp) ?_|refine gC (jO p _) ?_|refine gC (mY _) ?_|refine gC (Ky p b r x y (Hr hu) hr) ?_|refine gC (Cw re.steps x y) ?_|intro _))<;>try (conv=>whnf)
 all_goals first
  |(exfalso;omega)
  |exact⟨rfl,rfl,trivial⟩
theorem Pb (p:Proj) (b:Dom) (r x y:Int) (hf:aC p b=true) (hr:dV p r=true):
  Con 220 [.d p.av,.d b.av,.d (i64 r),.d (i64 x),.d (i64 y)] (.d (.bool (decide (oo p b r x y > mG (uS p r).steps x y)))):=by
 refine con Tryz.func220 rfl rfl Tryz.call220 rfl fun hwf=>?_
 simp only [ARs.wf,AR.wf,AV.wf,AV.wfs,lm,lim] at hwf
 obtain⟨ρ,re,e1,e2,e3⟩:=uX hr
 rw [e3]
 (repeat' ((conv=>whnf);first|refine gA ?_|(refine gB ?_ ?_<;>intro h)|(refine gI ?_;intro x hx)|(refine gJ ?_;intro j x hj hx)|refine gV ?_|intro _))<;>try (conv=>whnf)
 refine aB [2,3,4,5,6,15] [5,6] [] ?_
 (conv=>whnf)
 refine aA.go ((Nat)×(Int)) (fun⟨k,s⟩=>(k≤p.acts.length)∧(s=sumTo (mg p b r x y) k)) (fun⟨k,s⟩=>[(16,.data (i64 k)),(11,.data (i64 s))]) (fun _=>[]) (fun _=>[]) (fun⟨k,s⟩=>p.acts.length - k) ⟨0,0⟩ ?_ ?_
 ·exact⟨by omega,rfl⟩
 rintro⟨k,s⟩ ⟨hk,hs⟩
 by_cases hlt:k < p.acts.length
 ·obtain⟨a,lo,hi,m,hg⟩:=dR hf hlt
  have hb:=kY (f:=mg p b r x y) (c:=4000000) (n:=k) fun i hi=>qF hf hr x y (by omega)
  have hw:=qF hf hr x y hlt
  (repeat' ((conv=>whnf);first|refine gA ?_|(refine gB ?_ ?_<;>intro h)|(refine gI ?_;intro x hx)|(refine gJ ?_;intro j x hj hx)|refine gV ?_|refine gC (OZ p b _ r x y hg rfl hr) ?_|intro _))<;>try (conv=>whnf)
  ·refine nx ⟨k+1,s+mg p b r x y k⟩ ?_
   exact⟨by omega,by rw [sumTo,hs]⟩
  ·exfalso;omega
 ·(repeat' ((conv=>whnf);first|(exfalso;omega)|with_reducible refine Idx.got e2 e1 ?_|refine gA ?_|(refine gB ?_ ?_<;>intro h)|(refine gI ?_;intro x hx)|(refine gJ ?_;intro j x hj hx)|refine gV ?_|refine gC (Cy re.steps x y) ?_|intro _))<;>try (conv=>whnf)
  refine⟨?_,rfl,trivial⟩
  rw [hs,show k=p.acts.length by omega];rfl
structure Jg (p:Proj) (r a o:Int) (ka ko:aH) (x:fE) (ρ i j:Nat) (row:List Int) (v:Int):Prop where
 rρ:r=ρ
 res:p.bB[ρ]? =some x
 fi:ka.fam=i
 fj:ko.fam=j
 aaQ:x.setup[i]? =some row
 aaR:row[j]? =some v
 vb:0≤v∧v≤12
 eq:Jc p r a o=v
theorem yQ {p:Proj} {r a o:Int} {k k':Nat} {ka ko:aH} (hok:aF p=true) (hm:fA p r=true) (ha:p.acts[k]? =some ka) (ho:p.acts[k']? =some ko) (e:a=k) (e':o=k'):
  ∃x ρ i j row v,Jg p r a o ka ko x ρ i j row v:=by
 simp only [fA,Bool.and_eq_true,decide_eq_true_eq] at hm
 obtain⟨ρ,x,e1,e2⟩:=wz hm.1
 have pf:=eD hok
 have hres:=pf.res ρ x e2
 have hlen:(p.bB.getD r.toNat ⟨[],[]⟩)=x:=by subst e1;simp [List.getD_eq_getElem?_getD,e2]
 rw [hlen] at hm
 simp only [kN,Bool.and_eq_true,Bool.or_eq_true,decide_eq_true_eq,List.all_eq_true,rowOk,within_iff] at hres
 have h4:x.setup.length=4:=by omega
 have ff:∀{n:Nat} {q:aH},p.acts[n]? =some q→0≤q.fam∧q.fam≤3:=fun {n q} hq=>by
  have:=pf.act n q hq
  simp only [bG,Bool.and_eq_true,within_iff] at this
  exact this.2.1.2
 have f1:=ff ha
 have f2:=ff ho
 have e3:x.setup[ka.fam.toNat]? =some (x.setup[ka.fam.toNat]'(by omega)):=by simp
 have hrow:=hres.1 _ (List.mem_of_getElem? e3)
 have e4:(x.setup[ka.fam.toNat]'(by omega))[ko.fam.toNat]? =some ((x.setup[ka.fam.toNat]'(by omega))[ko.fam.toNat]'(by omega)):=by simp
 refine⟨x,ρ,ka.fam.toNat,ko.fam.toNat,_,_,e1,e2,by omega,by omega,e3,e4,hrow.2 _ (List.mem_of_getElem? e4),?_⟩
 subst e e' e1
 simp [Jc,uS,bf,List.getD_eq_getElem?_getD,e2,ha,ho,e3,e4]
theorem Kz (p:Proj) (b:Dom) (r:Int) (hp:p.fine) (hu:usable p b=true) (hm:fA p r=true):Con 300 [.d p.av,.d b.av,.d (i64 r)] (.d (.bool true)):=by
 refine con Tryz.func300 rfl rfl Tryz.call300 rfl fun hwf=>?_
 (repeat' ((conv=>whnf);first|refine gA ?_|(refine gB ?_ ?_<;>intro h)|refine gC (uz p b hp) ?_|refine gC (kW p r) ?_|intro _))<;>try (conv=>whnf)
 all_goals (refine⟨?_,rfl,trivial⟩;simp [*])
theorem EF (p:Proj) (b:Dom) (r a o:Int) (hp:p.fine) (hu:usable p b=true) (hm:fA p r=true) (ha:bn p a=true) (ho:bn p o=true) (hne:a≠o):
  Con 272 [.d p.av,.d b.av,.d (i64 r),.d (i64 a),.d (i64 o)] (.d (.bool true)):=by
 refine con Tryz.func272 rfl rfl Tryz.call272 rfl fun hwf=>?_
 (repeat' ((conv=>whnf);first|refine gA ?_|(refine gB ?_ ?_<;>intro h)|refine gC (Kz p b r hp hu hm) ?_|refine gC (fU p _) ?_|intro _))<;>try (conv=>whnf)
 all_goals (refine⟨?_,rfl,trivial⟩;simp [*])
theorem rR (p:Proj) (b:Dom) (r n:Int) {k:Nat} {a:aH} {x y:Int} {m:List Int} (hg:dW p b k a x y m) (hn:n=k) (hp:p.fine) (hu:usable p b=true) (hr:dV p r=true) (ha:bn p n=true):
  Con 273 [.d p.av,.d b.av,.d (i64 r),.d (i64 n)] (.d (i64 (gL a m r))):=by
 refine con Tryz.func273 rfl rfl Tryz.call273 rfl fun hwf=>?_
 (repeat' ((conv=>whnf);first|with_reducible refine Idx.got hg.act hn ?_|with_reducible refine Idx.got hg.modes hn ?_|refine gA ?_|(refine gB ?_ ?_<;>intro h)|(refine gI ?_;intro x hx)|(refine gJ ?_;intro j x hj hx)|refine gC (uz p b hp) ?_|refine gC (jO p _) ?_|refine gC (fU p _) ?_|refine gC (AU a m r) ?_|intro _))<;>try (conv=>whnf)
 exact⟨rfl,rfl,trivial⟩
theorem wF {p:Proj} {r:Int} (h:fA p r=true):dV p r=true:=by
 simp only [fA,Bool.and_eq_true] at h;exact h.1
theorem Pd (p:Proj) (b:Dom) (r a o:Int) {k k':Nat} {ka ko:aH} {x y x' y':Int} {m m':List Int} (hg:dW p b k ka x y m) (hn:a=k) (hg':dW p b k' ko x' y' m') (hn':o=k') (hp:p.fine) (hu:usable p b=true)
  (hm:fA p r=true) (ha:bn p a=true) (ho:bn p o=true) (hne:a≠o):
  Con 242 [.d p.av,.d b.av,.d (i64 r),.d (i64 a),.d (i64 o)] (.d (.bool (decide (gL ka m r > 0)&&decide (gL ko m' r > 0)))):=by
 refine con Tryz.func242 rfl rfl Tryz.call242 rfl fun hwf=>?_
 (repeat' ((conv=>whnf);first|refine gA ?_|(refine gB ?_ ?_<;>intro h)|refine gC (EF p b r a o hp hu hm ha ho hne) ?_|refine gC (rR p b r a hg hn hp hu (wF hm) ha) ?_|refine gC (rR p b r o hg' hn' hp hu (wF hm) ho) ?_|intro _))<;>try (conv=>whnf)
 all_goals (refine⟨?_,rfl,trivial⟩;simp [*])
theorem rT (p:Proj) (r a o:Int) {k k':Nat} {ka ko:aH} {x:fE} {ρ i j:Nat} {row:List Int} {v:Int} (ha:p.acts[k]? =some ka) (e:a=k) (ho:p.acts[k']? =some ko) (e':o=k') (hp:p.fine) (hok:aF p=true)
  (hm:fA p r=true) (ha':bn p a=true) (ho':bn p o=true) (hM:Jg p r a o ka ko x ρ i j row v):Con 266 [.d p.av,.d (i64 r),.d (i64 a),.d (i64 o)] (.d (i64 v)):=by
 refine con Tryz.func266 rfl rfl Tryz.call266 rfl fun hwf=>?_
 (repeat' ((conv=>whnf);first|with_reducible refine Idx.got hM.res hM.rρ ?_|with_reducible refine Idx.got ha e ?_|with_reducible refine Idx.got ho e' ?_|with_reducible refine Idx.got hM.aaQ hM.fi ?_|with_reducible refine Idx.got hM.aaR hM.fj ?_|refine gA ?_|(refine gB ?_ ?_<;>intro h)|(refine gI ?_;intro x hx)|(refine gJ ?_;intro j x hj hx)|refine gC (kW p r) ?_|refine gC (dH p hp) ?_|refine gC (fU p _) ?_|intro _))<;>try (conv=>whnf)
 exact⟨rfl,rfl,trivial⟩
theorem TA (p:Proj) (b:Dom) (r a o:Int) {k k':Nat} {ka ko:aH} {x y:Int} {m:List Int} {re:fE} {ρ i j:Nat} {row:List Int} {v:Int} (hg:dW p b k ka x y m) (e:a=k) (ho:p.acts[k']? =some ko) (e':o=k') (hp:p.fine) (hok:aF p=true)
  (hm:fA p r=true) (ha':bn p a=true) (ho':bn p o=true) (hM:Jg p r a o ka ko re ρ i j row v):Con 274 [.d p.av,.d b.av,.d (i64 r),.d (i64 a),.d (i64 o)] (.d (i64 (jT p b r a o))):=by
 refine con Tryz.func274 rfl rfl Tryz.call274 rfl fun hwf=>?_
 have hd:=jr hg.aok m
 rw [← mM hg] at hd
 have h1:=hg.lob
 have h2:=hM.vb
 have eq:jT p b r a o=x+kP p b k+v:=by
  rw [jT,hM.eq];subst e;simp [List.getD_eq_getElem?_getD,hg.lo]
 rw [eq]
 (repeat' ((conv=>whnf);first|with_reducible refine Idx.got hg.lo e ?_|refine gA ?_|(refine gB ?_ ?_<;>intro h)|(refine gI ?_;intro x hx)|(refine gJ ?_;intro j x hj hx)|refine gV ?_|refine gC (oM p b a hg e) ?_|refine gC (rT p r a o hg.act e ho e' hp hok hm ha' ho' hM) ?_|intro _))<;>try (conv=>whnf)
 exact⟨rfl,rfl,trivial⟩
theorem xu (p:Proj) (b:Dom) (r a o:Int) {k k':Nat} {ka ko:aH} {x y x' y':Int} {m m':List Int} (hg:dW p b k ka x y m) (hn:a=k) (hg':dW p b k' ko x' y' m') (hn':o=k') (hp:p.fine) (hu:usable p b=true)
  (hm:fA p r=true) (ha:bn p a=true) (ho:bn p o=true) (hne:a≠o):
  Con 243 [.d p.av,.d b.av,.d (i64 r),.d (i64 a),.d (i64 o)] (.d (.bool (decide (jT p b r a o≤y')))):=by
 refine con Tryz.func243 rfl rfl Tryz.call243 rfl fun hwf=>?_
 have hok:=(bD (Hr hu)).1
 obtain⟨re,ρ,i,j,row,v,hM⟩:=yQ hok hm hg.act hg'.act hn hn'
 (repeat' ((conv=>whnf);first|with_reducible refine Idx.got hg'.hi hn' ?_|refine gA ?_|(refine gB ?_ ?_<;>intro h)|(refine gI ?_;intro x hx)|(refine gJ ?_;intro j x hj hx)|refine gC (EF p b r a o hp hu hm ha ho hne) ?_|refine gC (TA p b r a o hg hn hg'.act hn' hp hok hm ha ho hM) ?_|intro _))<;>try (conv=>whnf)
 all_goals (refine⟨?_,rfl,trivial⟩;simp [*])
theorem Xi {p:Proj} {b:Dom} {r a o:Int} {k k':Nat} {ka ko:aH} {x y x' y':Int} {m m':List Int} (hg:dW p b k ka x y m) (hn:a=k) (hg':dW p b k' ko x' y' m') (hn':o=k'):
  jam p b r a o=(decide (gL ka m r > 0)&&decide (gL ko m' r > 0)&&decide (jT p b r a o > y')&&decide (jT p b r o a > y)):=by
 subst hn hn'
 simp [jam,bf,List.getD_eq_getElem?_getD,hg.act,hg.modes,hg'.act,hg'.modes,hg.hi,hg'.hi]
theorem EG (p:Proj) (b:Dom) (r a o:Int) {k k':Nat} {ka ko:aH} {x y x' y':Int} {m m':List Int} (hg:dW p b k ka x y m) (hn:a=k) (hg':dW p b k' ko x' y' m') (hn':o=k') (hp:p.fine) (hu:usable p b=true)
  (hm:fA p r=true) (ha:bn p a=true) (ho:bn p o=true) (hne:a≠o):
  Con 196 [.d p.av,.d b.av,.d (i64 r),.d (i64 a),.d (i64 o)] (.d (.bool (jam p b r a o))):=by
 refine con Tryz.func196 rfl rfl Tryz.call196 rfl fun hwf=>?_
 rw [Xi hg hn hg' hn']
 (repeat' ((conv=>whnf);first|refine gA ?_|(refine gB ?_ ?_<;>intro h)|refine gC (Pd p b r a o hg hn hg' hn' hp hu hm ha ho hne) ?_|refine gC (xu p b r a o hg hn hg' hn' hp hu hm ha ho hne) ?_|refine gC (xu p b r o a hg' hn' hg hn hp hu hm ho ha (Ne.symm hne)) ?_|intro _))<;>try (conv=>whnf)
 ·refine⟨?_,rfl,trivial⟩
  rw [show (decide (gL ka m r > 0)&&decide (gL ko m' r > 0))=true by assumption]
  simp only [AV.bool.injEq];rw [Bool.eq_iff_iff];simp;omega
 ·refine⟨?_,rfl,trivial⟩
  rw [show (decide (gL ka m r > 0)&&decide (gL ko m' r > 0))=true by assumption]
  simp only [AV.bool.injEq];rw [Bool.eq_iff_iff];simp;omega
 ·refine⟨?_,rfl,trivial⟩
  rw [h];rfl
theorem Bb (p:Proj) (b:Dom) (r a o:Int) {k k':Nat} {ka ko:aH} {x y:Int} {m:List Int} {re:fE} {ρ i j:Nat} {row:List Int} {v:Int} (hg:dW p b k ka x y m) (e:a=k) (ho:p.acts[k']? =some ko) (e':o=k') (hM:Jg p r a o ka ko re ρ i j row v):
  Con 260 [.d p.av,.d b.av,.d (i64 r),.d (i64 a),.d (i64 o)] (.d (i64 (jT p b r a o))):=by
 refine con Tryz.func260 rfl rfl Tryz.call260 rfl fun hwf=>?_
 have hd:=jr hg.aok m
 rw [← mM hg] at hd
 have h1:=hg.lob
 have h2:=hM.vb
 have eq:jT p b r a o=x+kP p b k+v:=by
  rw [jT,hM.eq];subst e;simp [List.getD_eq_getElem?_getD,hg.lo]
 rw [eq]
 (repeat' ((conv=>whnf);first|with_reducible refine Idx.got hg.lo e ?_|with_reducible refine Idx.got hM.res hM.rρ ?_|with_reducible refine Idx.got hg.act e ?_|with_reducible refine Idx.got ho e' ?_|with_reducible refine Idx.got hM.aaQ hM.fi ?_|with_reducible refine Idx.got hM.aaR hM.fj ?_|refine gA ?_|(refine gB ?_ ?_<;>intro h)|(refine gI ?_;intro x hx)|(refine gJ ?_;intro j x hj hx)|refine gV ?_|refine gC (oN p b a hg e) ?_|intro _))<;>try (conv=>whnf)
 exact⟨rfl,rfl,trivial⟩
theorem Ry (p:Proj) (b:Dom) (r a o:Int) {k k':Nat} {ka ko:aH} {x y x' y':Int} {m m':List Int} (hg:dW p b k ka x y m) (hn:a=k) (hg':dW p b k' ko x' y' m') (hn':o=k') (hok:aF p=true) (hm:fA p r=true):
  Con 221 [.d p.av,.d b.av,.d (i64 r),.d (i64 a),.d (i64 o)] (.d (.bool (jam p b r a o))):=by
 refine con Tryz.func221 rfl rfl Tryz.call221 rfl fun hwf=>?_
 rw [Xi hg hn hg' hn']
 obtain⟨re,ρ,i,j,row,v,hM⟩:=yQ hok hm hg.act hg'.act hn hn'
 obtain⟨re',ρ',i',j',row',v',hM'⟩:=yQ hok hm hg'.act hg.act hn' hn
 (repeat' ((conv=>whnf);first|with_reducible refine Idx.got hg'.hi hn' ?_|with_reducible refine Idx.got hg.hi hn ?_|refine gA ?_|(refine gB ?_ ?_<;>intro h)|(refine gI ?_;intro x hx)|(refine gJ ?_;intro j x hj hx)|refine gC (wD p b r a hg hn) ?_|refine gC (wD p b r o hg' hn') ?_|refine gC (Bb p b r a o hg hn hg'.act hn' hM) ?_|refine gC (Bb p b r o a hg' hn' hg.act hn hM') ?_|intro _))<;>try (conv=>whnf)
 all_goals (refine⟨?_,rfl,trivial⟩;simp only [AV.bool.injEq];rw [Bool.eq_iff_iff];simp;omega)
theorem yR {p:Proj} {b:Dom} {k:Nat} {a:aH} {x y:Int} {m:List Int} (h:dW p b k a x y m) (r:Int):Ee p b r k=rE a m r:=by
 simp [Ee,bf,List.getD_eq_getElem?_getD,h.act,h.modes]
theorem tH {p:Proj} {b:Dom} (hf:aC p b=true) (r:Int) {k:Nat} (hk:k < p.acts.length):0≤Ee p b r k∧Ee p b r k≤20:=by
 obtain⟨a,lo,hi,m,h⟩:=dR hf hk
 rw [yR h];exact OV h.aok _ _
theorem Na {p:Proj} {r:Int} (h:iO p r=true):∃(ρ:Nat) (x:Int),r=ρ∧p.aY[ρ]? =some x:=by
 have hn:=within_iff.1 h
 exact⟨r.toNat,p.aY[r.toNat]'(by omega),by omega,by simp⟩
theorem EH (p:Proj) (b:Dom) (r:Int) (hf:aC p b=true) (hs:iO p r=true):Con 197 [.d p.av,.d b.av,.d (i64 r)] (.d (.bool (mU p b r))):=by
 refine con Tryz.func197 rfl rfl Tryz.call197 rfl fun hwf=>?_
 simp only [ARs.wf,AR.wf,AV.wf,AV.wfs,lm,lim] at hwf
 obtain⟨ρ,c,e1,e2⟩:=Na hs
 (repeat' ((conv=>whnf);first|refine gA ?_|(refine gB ?_ ?_<;>intro h)|(refine gI ?_;intro x hx)|(refine gJ ?_;intro j x hj hx)|refine gV ?_|intro _))<;>try (conv=>whnf)
 refine aB [2,3,4,11,12] [3,4] [] ?_
 (conv=>whnf)
 refine aA.go ((Nat)×(Int)) (fun⟨k,s⟩=>(k≤p.acts.length)∧(s=sumTo (Ee p b r) k)) (fun⟨k,s⟩=>[(13,.data (i64 k)),(7,.data (i64 s))]) (fun _=>[]) (fun _=>[]) (fun⟨k,s⟩=>p.acts.length - k) ⟨0,0⟩ ?_ ?_
 ·exact⟨by omega,rfl⟩
 rintro⟨k,s⟩ ⟨hk,hs⟩
 by_cases hlt:k < p.acts.length
 ·obtain⟨a,lo,hi,m,hg⟩:=dR hf hlt
  have hb:=kY (f:=Ee p b r) (c:=20) (n:=k) fun i hi=>tH hf r (by omega)
  have hw:=tH hf r hlt
  rw [yR hg] at hw
  (repeat' ((conv=>whnf);first|with_reducible refine Idx.got hg.act rfl ?_|with_reducible refine Idx.got hg.modes rfl ?_|refine gA ?_|(refine gB ?_ ?_<;>intro h)|(refine gI ?_;intro x hx)|(refine gJ ?_;intro j x hj hx)|refine gV ?_|refine gC (Af a m r) ?_|intro _))<;>try (conv=>whnf)
  ·refine nx ⟨k+1,s+rE a m r⟩ ?_
   exact⟨by omega,by rw [sumTo,hs,yR hg]⟩
  ·exfalso;omega
 ·(repeat' ((conv=>whnf);first|(exfalso;omega)|with_reducible refine Idx.got e2 e1 ?_|refine gA ?_|(refine gB ?_ ?_<;>intro h)|(refine gI ?_;intro x hx)|(refine gJ ?_;intro j x hj hx)|refine gV ?_|intro _))<;>try (conv=>whnf)
  refine⟨?_,rfl,trivial⟩
  rw [mU,hs,show k=p.acts.length by omega];subst e1;simp [List.getD_eq_getElem?_getD,e2]
theorem LH (p:Proj) (b:Dom) (r:Int) (hf:aC p b=true) (hs:iO p r=true):Con 222 [.d p.av,.d b.av,.d (i64 r)] (.d (.bool (mU p b r))):=by
 refine con Tryz.func222 rfl rfl Tryz.call222 rfl fun hwf=>?_
 simp only [ARs.wf,AR.wf,AV.wf,AV.wfs,lm,lim] at hwf
 obtain⟨ρ,c,e1,e2⟩:=Na hs
 (repeat' ((conv=>whnf);first|refine gA ?_|(refine gB ?_ ?_<;>intro h)|(refine gI ?_;intro x hx)|(refine gJ ?_;intro j x hj hx)|refine gV ?_|intro _))<;>try (conv=>whnf)
 refine aB [2,3,4,11] [3,4] [] ?_
 (conv=>whnf)
 refine aA.go ((Nat)×(Int)) (fun⟨k,s⟩=>(k≤p.acts.length)∧(s=sumTo (Ee p b r) k)) (fun⟨k,s⟩=>[(12,.data (i64 k)),(7,.data (i64 s))]) (fun _=>[]) (fun _=>[]) (fun⟨k,s⟩=>p.acts.length - k) ⟨0,0⟩ ?_ ?_
 ·exact⟨by omega,rfl⟩
 rintro⟨k,s⟩ ⟨hk,hs⟩
 by_cases hlt:k < p.acts.length
 ·obtain⟨a,lo,hi,m,hg⟩:=dR hf hlt
  have hb:=kY (f:=Ee p b r) (c:=20) (n:=k) fun i hi=>tH hf r (by omega)
  have hw:=tH hf r hlt
  rw [yR hg] at hw
  (repeat' ((conv=>whnf);first|with_reducible refine Idx.got hg.act rfl ?_|with_reducible refine Idx.got hg.modes rfl ?_|refine gA ?_|(refine gB ?_ ?_<;>intro h)|(refine gI ?_;intro x hx)|(refine gJ ?_;intro j x hj hx)|refine gV ?_|refine gC (Ag a m r) ?_|intro _))<;>try (conv=>whnf)
  ·refine nx ⟨k+1,s+rE a m r⟩ ?_
   exact⟨by omega,by rw [sumTo,hs,yR hg]⟩
  ·exfalso;omega
 ·(repeat' ((conv=>whnf);first|(exfalso;omega)|with_reducible refine Idx.got e2 e1 ?_|refine gA ?_|(refine gB ?_ ?_<;>intro h)|(refine gI ?_;intro x hx)|(refine gJ ?_;intro j x hj hx)|refine gV ?_|intro _))<;>try (conv=>whnf)
  refine⟨?_,rfl,trivial⟩
  rw [mU,hs,show k=p.acts.length by omega];subst e1;simp [List.getD_eq_getElem?_getD,e2]
theorem Gl (p:Proj) (b:Dom) (l:Link) (hf:aC p b=true) (hl:jR p l=true):Con 191 [.d p.av,.d b.av,.d l.av] (.d (.bool (oq p b l))):=by
 refine con Tryz.func191 rfl rfl Tryz.call191 rfl fun hwf=>?_
 simp only [jR,Bool.and_eq_true] at hl
 obtain⟨k,_,e1,e2⟩:=jD hl.1.1.1
 obtain⟨k',_,e1',e2'⟩:=jD hl.1.1.2
 have aaS:=within_iff.1 hl.2
 obtain⟨a,x,y,m,hg⟩:=dR hf (List.getElem?_eq_some_iff.1 e2).1
 obtain⟨a',x',y',m',hg'⟩:=dR hf (List.getElem?_eq_some_iff.1 e2').1
 have hd:=jr hg.aok m
 rw [← mM hg] at hd
 have h1:=hg.lob
 (repeat' ((conv=>whnf);first|with_reducible refine Idx.got hg.lo e1 ?_|with_reducible refine Idx.got hg'.hi e1' ?_|refine gA ?_|(refine gB ?_ ?_<;>intro h)|(refine gI ?_;intro x hx)|(refine gJ ?_;intro j x hj hx)|refine gV ?_|refine gC (oM p b _ hg e1) ?_|intro _))<;>try (conv=>whnf)
 all_goals (refine⟨?_,rfl,trivial⟩;simp [oq,e1,e1',List.getD_eq_getElem?_getD,hg.lo,hg'.hi, *];done)
end Go.Proofs.YtefgamefajmdkaaGreat.Abs
