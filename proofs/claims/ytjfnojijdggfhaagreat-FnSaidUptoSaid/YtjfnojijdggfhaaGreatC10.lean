/- Contracts: refutations by rules. -/
import Derived.Test.YtjfnojijdggfhaaGreatC9
set_option linter.all false
set_option maxRecDepth 20000
set_option maxHeartbeats 0
namespace Go.Proofs.YtjfnojijdggfhaaGreat.Abs
open Go.Proofs
def usable (p:Proj) (b:Dom):Bool:=aA p b&& !aS b
theorem eZ (p:Proj) (b:Dom) (hp:p.fine):Con 63 [.d p.av,.d b.av] (.d (.bool (usable p b))):=by
 refine con Tryz.func63 rfl rfl Tryz.call63 rfl fun hwf=>?_
 (repeat' ((conv=>whnf);first|refine gA ?_|(refine gB ?_ ?_<;>intro h)|refine gC (bC p b hp) ?_|refine gC (dI b) ?_|intro _))<;>try (conv=>whnf)
 all_goals refine⟨?_,rfl,trivial⟩
 all_goals simp [usable, *]
theorem DL {p:Proj} {b:Dom} (h:usable p b=true):aA p b=true:=by
 simp only [usable,Bool.and_eq_true] at h;exact h.1
theorem CF {p:Proj} {r:Int} (h:eF p r=true):∃(ρ:Nat) (x:gH),r=ρ∧p.bM[ρ]? =some x∧uE p r=x:=by
 obtain⟨n,x,h1,h2⟩:=yM h
 exact⟨n,x,h1,h2,by subst h1;simp [uE,List.getD_eq_getElem?_getD,h2]⟩
theorem Az (p:Proj) (b:Dom) (r x y:Int) (hp:p.fine) (hu:usable p b=true) (hr:eF p r=true) (hx:bZ x=true) (hy:bZ y=true) (hxy:x < y):
  Con 107 [.d p.av,.d b.av,.d (i64 r),.d (i64 x),.d (i64 y)] (.d (.bool (decide (oH p b r x y > rW (uE p r).steps x y)))):=by
 refine con Tryz.func107 rfl rfl Tryz.call107 rfl fun hwf=>?_
 obtain⟨ρ,re,e1,e2,e3⟩:=CF hr
 rw [e3]
 (repeat' ((conv=>whnf);first|with_reducible refine Idx.got e2 e1 ?_|refine gA ?_|(refine gN ?_ ?_<;>intro h hw)|(refine gB ?_ ?_<;>intro h)|(refine gI ?_;intro x hx)|(refine gJ ?_;intro j x hj hx)|refine gC (eZ p b hp) ?_|refine gC (eX p _) ?_|refine gC (iW _) ?_|refine gC (Gy p b r x y (DL hu) hr) ?_|refine gC (yN re.steps x y) ?_|intro _))<;>try (conv=>whnf)
 all_goals first
  |(exfalso;omega)
  |exact⟨rfl,rfl,trivial⟩
structure LP (p:Proj) (r a o:Int) (ka ko:aJ) (x:gH) (ρ i j:Nat) (row:List Int) (v:Int):Prop where
 rρ:r=ρ
 res:p.bM[ρ]? =some x
 fi:ka.fam=i
 fj:ko.fam=j
 YN:x.setup[i]? =some row
 YO:row[j]? =some v
 vb:0≤v∧v≤12
 eq:ER p r a o=v
theorem Gz {p:Proj} {r a o:Int} {k k':Nat} {ka ko:aJ} (hok:aK p=true) (hm:fM p r=true) (ha:p.acts[k]? =some ka) (ho:p.acts[k']? =some ko) (e:a=k) (e':o=k'):
  ∃x ρ i j row v,LP p r a o ka ko x ρ i j row v:=by
 simp only [fM,Bool.and_eq_true,decide_eq_true_eq] at hm
 obtain⟨ρ,x,e1,e2⟩:=yM hm.1
 have pf:=eB hok
 have hres:=pf.res ρ x e2
 have hlen:(p.bM.getD r.toNat ⟨[],[]⟩)=x:=by subst e1;simp [List.getD_eq_getElem?_getD,e2]
 rw [hlen] at hm
 simp only [jF,Bool.and_eq_true,Bool.or_eq_true,decide_eq_true_eq,List.all_eq_true,rowOk,within_iff] at hres
 have h4:x.setup.length=4:=by omega
 have ff:∀{n:Nat} {q:aJ},p.acts[n]? =some q→0≤q.fam∧q.fam≤3:=fun {n q} hq=>by
  have:=pf.act n q hq
  simp only [bg,Bool.and_eq_true,within_iff] at this
  exact this.2.1.2
 have f1:=ff ha
 have f2:=ff ho
 have e3:x.setup[ka.fam.toNat]? =some (x.setup[ka.fam.toNat]'(by omega)):=by simp
 have hrow:=hres.1 _ (List.mem_of_getElem? e3)
 have e4:(x.setup[ka.fam.toNat]'(by omega))[ko.fam.toNat]? =some ((x.setup[ka.fam.toNat]'(by omega))[ko.fam.toNat]'(by omega)):=by simp
 refine⟨x,ρ,ka.fam.toNat,ko.fam.toNat,_,_,e1,e2,by omega,by omega,e3,e4,hrow.2 _ (List.mem_of_getElem? e4),?_⟩
 subst e e' e1
 simp [ER,uE,aT,List.getD_eq_getElem?_getD,e2,ha,ho,e3,e4]
theorem GA (p:Proj) (b:Dom) (r:Int) (hp:p.fine) (hu:usable p b=true) (hm:fM p r=true):Con 216 [.d p.av,.d b.av,.d (i64 r)] (.d (.bool true)):=by
 refine con Tryz.func216 rfl rfl Tryz.call216 rfl fun hwf=>?_
 (repeat' ((conv=>whnf);first|refine gA ?_|(refine gB ?_ ?_<;>intro h)|refine gC (eZ p b hp) ?_|refine gC (jO p r) ?_|intro _))<;>try (conv=>whnf)
 all_goals (refine⟨?_,rfl,trivial⟩;simp [*])
theorem AA (p:Proj) (b:Dom) (r a o:Int) (hp:p.fine) (hu:usable p b=true) (hm:fM p r=true) (ha:bA p a=true) (ho:bA p o=true) (hne:a≠o):
  Con 181 [.d p.av,.d b.av,.d (i64 r),.d (i64 a),.d (i64 o)] (.d (.bool true)):=by
 refine con Tryz.func181 rfl rfl Tryz.call181 rfl fun hwf=>?_
 (repeat' ((conv=>whnf);first|refine gA ?_|(refine gB ?_ ?_<;>intro h)|refine gC (GA p b r hp hu hm) ?_|refine gC (eT p _) ?_|intro _))<;>try (conv=>whnf)
 all_goals (refine⟨?_,rfl,trivial⟩;simp [*])
theorem pV (p:Proj) (b:Dom) (r n:Int) {k:Nat} {a:aJ} {x y:Int} {m:List Int} (hg:fB p b k a x y m) (hn:n=k) (hp:p.fine) (hu:usable p b=true) (hr:eF p r=true) (ha:bA p n=true):
  Con 182 [.d p.av,.d b.av,.d (i64 r),.d (i64 n)] (.d (i64 (gL a m r))):=by
 refine con Tryz.func182 rfl rfl Tryz.call182 rfl fun hwf=>?_
 (repeat' ((conv=>whnf);first|with_reducible refine Idx.got hg.act hn ?_|with_reducible refine Idx.got hg.modes hn ?_|refine gA ?_|(refine gB ?_ ?_<;>intro h)|(refine gI ?_;intro x hx)|(refine gJ ?_;intro j x hj hx)|refine gC (eZ p b hp) ?_|refine gC (eX p _) ?_|refine gC (eT p _) ?_|refine gC (xQ a m r) ?_|intro _))<;>try (conv=>whnf)
 exact⟨rfl,rfl,trivial⟩
theorem tQ {p:Proj} {r:Int} (h:fM p r=true):eF p r=true:=by
 simp only [fM,Bool.and_eq_true] at h;exact h.1
theorem LQ (p:Proj) (b:Dom) (r a o:Int) {k k':Nat} {ka ko:aJ} {x y x' y':Int} {m m':List Int} (hg:fB p b k ka x y m) (hn:a=k) (hg':fB p b k' ko x' y' m') (hn':o=k') (hp:p.fine) (hu:usable p b=true)
  (hm:fM p r=true) (ha:bA p a=true) (ho:bA p o=true) (hne:a≠o):
  Con 151 [.d p.av,.d b.av,.d (i64 r),.d (i64 a),.d (i64 o)] (.d (.bool (decide (gL ka m r > 0)&&decide (gL ko m' r > 0)))):=by
 refine con Tryz.func151 rfl rfl Tryz.call151 rfl fun hwf=>?_
 (repeat' ((conv=>whnf);first|refine gA ?_|(refine gB ?_ ?_<;>intro h)|refine gC (AA p b r a o hp hu hm ha ho hne) ?_|refine gC (pV p b r a hg hn hp hu (tQ hm) ha) ?_|refine gC (pV p b r o hg' hn' hp hu (tQ hm) ho) ?_|intro _))<;>try (conv=>whnf)
 all_goals (refine⟨?_,rfl,trivial⟩;simp [*])
theorem pW (p:Proj) (r a o:Int) {k k':Nat} {ka ko:aJ} {x:gH} {ρ i j:Nat} {row:List Int} {v:Int} (ha:p.acts[k]? =some ka) (e:a=k) (ho:p.acts[k']? =some ko) (e':o=k') (hp:p.fine) (hok:aK p=true)
  (hm:fM p r=true) (ha':bA p a=true) (ho':bA p o=true) (hM:LP p r a o ka ko x ρ i j row v):Con 217 [.d p.av,.d (i64 r),.d (i64 a),.d (i64 o)] (.d (i64 v)):=by
 refine con Tryz.func217 rfl rfl Tryz.call217 rfl fun hwf=>?_
 (repeat' ((conv=>whnf);first|with_reducible refine Idx.got hM.res hM.rρ ?_|with_reducible refine Idx.got ha e ?_|with_reducible refine Idx.got ho e' ?_|with_reducible refine Idx.got hM.YN hM.fi ?_|with_reducible refine Idx.got hM.YO hM.fj ?_|refine gA ?_|(refine gB ?_ ?_<;>intro h)|(refine gI ?_;intro x hx)|(refine gJ ?_;intro j x hj hx)|refine gC (jO p r) ?_|refine gC (bN p hp) ?_|refine gC (eT p _) ?_|intro _))<;>try (conv=>whnf)
 exact⟨rfl,rfl,trivial⟩
theorem Qc (p:Proj) (b:Dom) (r a o:Int) {k k':Nat} {ka ko:aJ} {x y:Int} {m:List Int} {re:gH} {ρ i j:Nat} {row:List Int} {v:Int} (hg:fB p b k ka x y m) (e:a=k) (ho:p.acts[k']? =some ko) (e':o=k') (hp:p.fine) (hok:aK p=true)
  (hm:fM p r=true) (ha':bA p a=true) (ho':bA p o=true) (hM:LP p r a o ka ko re ρ i j row v):Con 183 [.d p.av,.d b.av,.d (i64 r),.d (i64 a),.d (i64 o)] (.d (i64 (kU p b r a o))):=by
 refine con Tryz.func183 rfl rfl Tryz.call183 rfl fun hwf=>?_
 have hd:=oz hg.aok m
 rw [← vK hg] at hd
 have h1:=hg.lob
 have h2:=hM.vb
 have eq:kU p b r a o=x+kM p b k+v:=by
  rw [kU,hM.eq];subst e;simp [List.getD_eq_getElem?_getD,hg.lo]
 rw [eq]
 (repeat' ((conv=>whnf);first|with_reducible refine Idx.got hg.lo e ?_|refine gA ?_|(refine gB ?_ ?_<;>intro h)|(refine gI ?_;intro x hx)|(refine gJ ?_;intro j x hj hx)|refine gV ?_|refine gC (mV p b a hg e) ?_|refine gC (pW p r a o hg.act e ho e' hp hok hm ha' ho' hM) ?_|intro _))<;>try (conv=>whnf)
 exact⟨rfl,rfl,trivial⟩
theorem uH (p:Proj) (b:Dom) (r a o:Int) {k k':Nat} {ka ko:aJ} {x y x' y':Int} {m m':List Int} (hg:fB p b k ka x y m) (hn:a=k) (hg':fB p b k' ko x' y' m') (hn':o=k') (hp:p.fine) (hu:usable p b=true)
  (hm:fM p r=true) (ha:bA p a=true) (ho:bA p o=true) (hne:a≠o):
  Con 152 [.d p.av,.d b.av,.d (i64 r),.d (i64 a),.d (i64 o)] (.d (.bool (decide (kU p b r a o≤y')))):=by
 refine con Tryz.func152 rfl rfl Tryz.call152 rfl fun hwf=>?_
 have hok:=(dw (DL hu)).1
 obtain⟨re,ρ,i,j,row,v,hM⟩:=Gz hok hm hg.act hg'.act hn hn'
 (repeat' ((conv=>whnf);first|with_reducible refine Idx.got hg'.hi hn' ?_|refine gA ?_|(refine gB ?_ ?_<;>intro h)|(refine gI ?_;intro x hx)|(refine gJ ?_;intro j x hj hx)|refine gC (AA p b r a o hp hu hm ha ho hne) ?_|refine gC (Qc p b r a o hg hn hg'.act hn' hp hok hm ha ho hM) ?_|intro _))<;>try (conv=>whnf)
 all_goals (refine⟨?_,rfl,trivial⟩;simp [*])
theorem WK {p:Proj} {b:Dom} {r a o:Int} {k k':Nat} {ka ko:aJ} {x y x' y':Int} {m m':List Int} (hg:fB p b k ka x y m) (hn:a=k) (hg':fB p b k' ko x' y' m') (hn':o=k'):
  jam p b r a o=(decide (gL ka m r > 0)&&decide (gL ko m' r > 0)&&decide (kU p b r a o > y')&&decide (kU p b r o a > y)):=by
 subst hn hn'
 simp [jam,aT,List.getD_eq_getElem?_getD,hg.act,hg.modes,hg'.act,hg'.modes,hg.hi,hg'.hi]
theorem AB (p:Proj) (b:Dom) (r a o:Int) {k k':Nat} {ka ko:aJ} {x y x' y':Int} {m m':List Int} (hg:fB p b k ka x y m) (hn:a=k) (hg':fB p b k' ko x' y' m') (hn':o=k') (hp:p.fine) (hu:usable p b=true)
  (hm:fM p r=true) (ha:bA p a=true) (ho:bA p o=true) (hne:a≠o):
  Con 108 [.d p.av,.d b.av,.d (i64 r),.d (i64 a),.d (i64 o)] (.d (.bool (jam p b r a o))):=by
 refine con Tryz.func108 rfl rfl Tryz.call108 rfl fun hwf=>?_
 rw [WK hg hn hg' hn']
 (repeat' ((conv=>whnf);first|refine gA ?_|(refine gB ?_ ?_<;>intro h)|refine gC (LQ p b r a o hg hn hg' hn' hp hu hm ha ho hne) ?_|refine gC (uH p b r a o hg hn hg' hn' hp hu hm ha ho hne) ?_|refine gC (uH p b r o a hg' hn' hg hn hp hu hm ho ha (Ne.symm hne)) ?_|intro _))<;>try (conv=>whnf)
 ·refine⟨?_,rfl,trivial⟩
  rw [show (decide (gL ka m r > 0)&&decide (gL ko m' r > 0))=true by assumption]
  simp only [AV.bool.injEq];rw [Bool.eq_iff_iff];simp;omega
 ·refine⟨?_,rfl,trivial⟩
  rw [show (decide (gL ka m r > 0)&&decide (gL ko m' r > 0))=true by assumption]
  simp only [AV.bool.injEq];rw [Bool.eq_iff_iff];simp;omega
 ·refine⟨?_,rfl,trivial⟩
  rw [h];rfl
theorem GD {p:Proj} {b:Dom} {k:Nat} {a:aJ} {x y:Int} {m:List Int} (h:fB p b k a x y m) (r:Int):Gb p b r k=tJ a m r:=by
 simp [Gb,aT,List.getD_eq_getElem?_getD,h.act,h.modes]
theorem DN {p:Proj} {b:Dom} (hf:aA p b=true) (r:Int) {k:Nat} (hk:k < p.acts.length):0≤Gb p b r k∧Gb p b r k≤20:=by
 obtain⟨a,lo,hi,m,h⟩:=fF hf hk
 rw [GD h];exact LJ h.aok _ _
theorem RZ {p:Proj} {r:Int} (h:jh p r=true):∃(ρ:Nat) (x:Int),r=ρ∧p.bn[ρ]? =some x:=by
 have hn:=within_iff.1 h
 exact⟨r.toNat,p.bn[r.toNat]'(by omega),by omega,by simp⟩
theorem AJ (p:Proj) (b:Dom) (r:Int) (hf:aA p b=true) (hs:jh p r=true):Con 109 [.d p.av,.d b.av,.d (i64 r)] (.d (.bool (pK p b r))):=by
 refine con Tryz.func109 rfl rfl Tryz.call109 rfl fun hwf=>?_
 simp only [ARs.wf,AR.wf,AV.wf,AV.wfs,lm,lim] at hwf
 obtain⟨ρ,c,e1,e2⟩:=RZ hs
 (repeat' ((conv=>whnf);first|refine gA ?_|(refine gB ?_ ?_<;>intro h)|(refine gI ?_;intro x hx)|(refine gJ ?_;intro j x hj hx)|refine gV ?_|intro _))<;>try (conv=>whnf)
 refine aC [2,3,4,11,12] [3,4] [] ?_
 (conv=>whnf)
 refine aB.go ((Nat)×(Int)) (fun⟨k,s⟩=>(k≤p.acts.length)∧(s=sumTo (Gb p b r) k)) (fun⟨k,s⟩=>[(13,.data (i64 k)),(7,.data (i64 s))]) (fun _=>[]) (fun _=>[]) (fun⟨k,s⟩=>p.acts.length - k) ⟨0,0⟩ ?_ ?_
 ·exact⟨by omega,rfl⟩
 rintro⟨k,s⟩ ⟨hk,hs⟩
 by_cases hlt:k < p.acts.length
 ·obtain⟨a,lo,hi,m,hg⟩:=fF hf hlt
  have hb:=nH (f:=Gb p b r) (c:=20) (n:=k) fun i hi=>DN hf r (by omega)
  have hw:=DN hf r hlt
  rw [GD hg] at hw
  (repeat' ((conv=>whnf);first|with_reducible refine Idx.got hg.act rfl ?_|with_reducible refine Idx.got hg.modes rfl ?_|refine gA ?_|(refine gB ?_ ?_<;>intro h)|(refine gI ?_;intro x hx)|(refine gJ ?_;intro j x hj hx)|refine gV ?_|refine gC (wY a m r) ?_|intro _))<;>try (conv=>whnf)
  ·refine nx ⟨k+1,s+tJ a m r⟩ ?_
   exact⟨by omega,by rw [sumTo,hs,GD hg]⟩
  ·exfalso;omega
 ·(repeat' ((conv=>whnf);first|(exfalso;omega)|with_reducible refine Idx.got e2 e1 ?_|refine gA ?_|(refine gB ?_ ?_<;>intro h)|(refine gI ?_;intro x hx)|(refine gJ ?_;intro j x hj hx)|refine gV ?_|intro _))<;>try (conv=>whnf)
  refine⟨?_,rfl,trivial⟩
  rw [pK,hs,show k=p.acts.length by omega];subst e1;simp [List.getD_eq_getElem?_getD,e2]
theorem CG (p:Proj) (b:Dom) (l:Link) (hf:aA p b=true) (hl:jB p l=true):Con 103 [.d p.av,.d b.av,.d l.av] (.d (.bool (rX p b l))):=by
 refine con Tryz.func103 rfl rfl Tryz.call103 rfl fun hwf=>?_
 simp only [jB,Bool.and_eq_true] at hl
 obtain⟨k,_,e1,e2⟩:=kY hl.1.1.1
 obtain⟨k',_,e1',e2'⟩:=kY hl.1.1.2
 have YP:=within_iff.1 hl.2
 obtain⟨a,x,y,m,hg⟩:=fF hf (List.getElem?_eq_some_iff.1 e2).1
 obtain⟨a',x',y',m',hg'⟩:=fF hf (List.getElem?_eq_some_iff.1 e2').1
 have hd:=oz hg.aok m
 rw [← vK hg] at hd
 have h1:=hg.lob
 (repeat' ((conv=>whnf);first|with_reducible refine Idx.got hg.lo e1 ?_|with_reducible refine Idx.got hg'.hi e1' ?_|refine gA ?_|(refine gB ?_ ?_<;>intro h)|(refine gI ?_;intro x hx)|(refine gJ ?_;intro j x hj hx)|refine gV ?_|refine gC (mV p b _ hg e1) ?_|intro _))<;>try (conv=>whnf)
 all_goals (refine⟨?_,rfl,trivial⟩;simp [rX,e1,e1',List.getD_eq_getElem?_getD,hg.lo,hg'.hi, *];done)
end Go.Proofs.YtjfnojijdggfhaaGreat.Abs
