/- Part of a proof. -/
import Derived.Test.YthegbfgeochckaaGreatC9
set_option linter.all false
set_option maxRecDepth 20000
set_option maxHeartbeats 0
namespace Go.Proofs.YthegbfgeochckaaGreat.Abs
open Go.Proofs
def usable (p:Proj) (b:Dom):Bool:=aW p b&& !jB b
theorem jM (p:Proj) (b:Dom) (hp:p.fine):Con 168 [.d p.av,.d b.av] (.d (.bool (usable p b))):=by
 refine con Tryz.func168 rfl rfl Tryz.call168 rfl fun hwf=>?_
 (repeat' ((conv=>whnf);first|refine gA ?_|(refine gB ?_ ?_<;>intro h)|refine gC (bD p b hp) ?_|refine gC (bP b) ?_|intro _))
 all_goals refine⟨?_,rfl,trivial⟩
 all_goals simp [usable, *]
theorem uH {p:Proj} {b:Dom} (h:usable p b=true):aW p b=true:=by
 simp only [usable,Bool.and_eq_true] at h;exact h.1
theorem vT {p:Proj} {r:Int} (h:fM p r=true):∃(ρ:Nat) (x:aK),r=ρ/\p.aS[ρ]? =some x/\Cn p r=x:=by
 obtain⟨n,x,h1,h2⟩:=Ai h
 exact⟨n,x,h1,h2,by subst h1;simp [Cn,List.getD_eq_getElem?_getD,h2]⟩
theorem IV (p:Proj) (b:Dom) (r x y:Int) (hp:p.fine) (hu:usable p b=true) (hr:fM p r=true) (hx:cu x=true) (hy:cu y=true) (hxy:x < y):
  Con 297 [.d p.av,.d b.av,.d (i64 r),.d (i64 x),.d (i64 y)] (.d (.bool (decide (DZ p b r x y > rD (Cn p r).steps x y)))):=by
 refine con Tryz.func297 rfl rfl Tryz.call297 rfl fun hwf=>?_
 obtain⟨ρ,re,e1,e2,e3⟩:=vT hr
 rw [e3]
 (repeat' ((conv=>whnf);first|with_reducible refine Idx.got e2 e1 ?_|refine gA ?_|(refine gB ?_ ?_<;>intro h)|refine gC (jM p b hp) ?_|refine gC (iR p _) ?_|refine gC (mK _) ?_|refine gC (OB p b r x y (uH hu) hr) ?_|refine gC (Gm re.steps x y) ?_|intro _))
 all_goals first
  |(exfalso;omega)
  |exact⟨rfl,rfl,trivial⟩
theorem UW (p:Proj) (b:Dom) (r x y:Int) (hf:aW p b=true) (hr:fM p r=true):
  Con 269 [.d p.av,.d b.av,.d (i64 r),.d (i64 x),.d (i64 y)] (.d (.bool (decide (DZ p b r x y > rD (Cn p r).steps x y)))):=by
 refine con Tryz.func269 rfl rfl Tryz.call269 rfl fun hwf=>?_
 simp only [ARs.wf,AR.wf,AV.wf,AV.wfs,lm,lim] at hwf
 obtain⟨ρ,re,e1,e2,e3⟩:=vT hr
 rw [e3]
 try (conv=>whnf)
 refine ay [2,3,4,5,6,15] [5,6] [] ?_
 (conv=>whnf)
 refine au.go ((Nat)×(Int)) (fun⟨k,s⟩=>(k<=p.acts.length)/\(s=sumTo (sO p b r x y) k)) (fun⟨k,s⟩=>[(16,.data (i64 k)),(11,.data (i64 s))]) lE lE (fun⟨k,s⟩=>p.acts.length - k) ⟨0,0⟩ ?_ ?_
 ·exact⟨by omega,rfl⟩
 rintro⟨k,s⟩ ⟨hk,hs⟩
 by_cases hlt:k < p.acts.length
 ·obtain⟨a,lo,hi,m,hg⟩:=dN hf hlt
  have hb:=kY (f:=sO p b r x y) (c:=4000000) (n:=k) fun i hi=>vJ hf hr x y (by omega)
  have hw:=vJ hf hr x y hlt
  (repeat' ((conv=>whnf);first|refine gA ?_|(refine gB ?_ ?_<;>intro h)|(refine gJ ?_;intro j x hj hx)|refine gC (UU p b _ r x y hg rfl hr) ?_|intro _))<;>try (conv=>whnf)
  ·refine nx ⟨k+1,s+sO p b r x y k⟩ ?_
   exact⟨by omega,by rw [sumTo,hs]⟩
  ·exfalso;omega
 ·(repeat' ((conv=>whnf);first|(exfalso;omega)|with_reducible refine Idx.got e2 e1 ?_|refine gA ?_|(refine gB ?_ ?_<;>intro h)|refine gC (Gn re.steps x y) ?_|intro _))<;>try (conv=>whnf)
  refine⟨?_,rfl,trivial⟩
  rw [hs,show k=p.acts.length by omega];rfl
structure Nn (p:Proj) (r a o:Int) (ka ko:aB) (x:aK) (ρ i j:Nat) (row:List Int) (v:Int):Prop where
 rρ:r=ρ
 res:p.aS[ρ]? =some x
 fi:ka.fam=i
 fj:ko.fam=j
 agv:x.setup[i]? =some row
 agw:row[j]? =some v
 vb:0<=v/\v<=12
 eq:Nj p r a o=v
theorem zx {p:Proj} {r a o:Int} {k k':Nat} {ka ko:aB} (hok:bI p=true) (hm:gu p r=true) (ha:p.acts[k]? =some ka) (ho:p.acts[k']? =some ko) (e:a=k) (e':o=k'):
  ∃x ρ i j row v,Nn p r a o ka ko x ρ i j row v:=by
 simp only [gu,Bool.and_eq_true,decide_eq_true_eq] at hm
 obtain⟨ρ,x,e1,e2⟩:=Ai hm.1
 have pf:=bX hok
 have hres:=pf.res ρ x e2
 have hlen:(p.aS.getD r.toNat ⟨[],[]⟩)=x:=by subst e1;simp [List.getD_eq_getElem?_getD,e2]
 rw [hlen] at hm
 simp only [sF,Bool.and_eq_true,Bool.or_eq_true,decide_eq_true_eq,List.all_eq_true,rowOk,within_iff] at hres
 have h4:x.setup.length=4:=by omega
 have ff:∀{n:Nat} {q:aB},p.acts[n]? =some q->0<=q.fam/\q.fam<=3:=fun {n q} hq=>by
  have:=pf.act n q hq
  simp only [dV,Bool.and_eq_true,within_iff] at this
  exact this.2.1.2
 have f1:=ff ha
 have f2:=ff ho
 have e3:x.setup[ka.fam.toNat]? =some (x.setup[ka.fam.toNat]'(by omega)):=by simp
 have hrow:=hres.1 _ (List.mem_of_getElem? e3)
 have e4:(x.setup[ka.fam.toNat]'(by omega))[ko.fam.toNat]? =some ((x.setup[ka.fam.toNat]'(by omega))[ko.fam.toNat]'(by omega)):=by simp
 refine⟨x,ρ,ka.fam.toNat,ko.fam.toNat,_,_,e1,e2,by omega,by omega,e3,e4,hrow.2 _ (List.mem_of_getElem? e4),?_⟩
 subst e e' e1
 simp [Nj,Cn,nQ,List.getD_eq_getElem?_getD,e2,ha,ho,e3,e4]
theorem OC (p:Proj) (b:Dom) (r:Int) (hp:p.fine) (hu:usable p b=true) (hm:gu p r=true):Con 390 [.d p.av,.d b.av,.d (i64 r)] (.d (.bool true)):=by
 refine con Tryz.func390 rfl rfl Tryz.call390 rfl fun hwf=>?_
 (repeat' ((conv=>whnf);first|refine gA ?_|refine gC (jM p b hp) ?_|refine gC (ou p r) ?_|intro _))
 all_goals (refine⟨?_,rfl,trivial⟩;simp [*])
theorem IW (p:Proj) (b:Dom) (r a o:Int) (hp:p.fine) (hu:usable p b=true) (hm:gu p r=true) (ha:dI p a=true) (ho:dI p o=true) (hne:a≠o):
  Con 372 [.d p.av,.d b.av,.d (i64 r),.d (i64 a),.d (i64 o)] (.d (.bool true)):=by
 refine con Tryz.func372 rfl rfl Tryz.call372 rfl fun hwf=>?_
 (repeat' ((conv=>whnf);first|refine gA ?_|refine gC (OC p b r hp hu hm) ?_|refine gC (iQ p _) ?_|intro _))
 all_goals (refine⟨?_,rfl,trivial⟩;simp [*])
theorem wO (p:Proj) (b:Dom) (r n:Int) {k:Nat} {a:aB} {x y:Int} {m:List Int} (hg:eG p b k a x y m) (hn:n=k) (hp:p.fine) (hu:usable p b=true) (hr:fM p r=true) (ha:dI p n=true):
  Con 373 [.d p.av,.d b.av,.d (i64 r),.d (i64 n)] (.d (i64 (lK a m r))):=by
 refine con Tryz.func373 rfl rfl Tryz.call373 rfl fun hwf=>?_
 (repeat' ((conv=>whnf);first|(with_reducible first|refine Idx.got hg.act hn ?_|refine Idx.got hg.modes hn ?_)|refine gA ?_|refine gC (jM p b hp) ?_|refine gC (iR p _) ?_|refine gC (iQ p _) ?_|refine gC (Fj a m r) ?_|intro _))
 exact⟨rfl,rfl,trivial⟩
theorem sV {p:Proj} {r:Int} (h:gu p r=true):fM p r=true:=by
 simp only [gu,Bool.and_eq_true] at h;exact h.1
theorem UY (p:Proj) (b:Dom) (r a o:Int) {k k':Nat} {ka ko:aB} {x y x' y':Int} {m m':List Int} (hg:eG p b k ka x y m) (hn:a=k) (hg':eG p b k' ko x' y' m') (hn':o=k') (hp:p.fine) (hu:usable p b=true)
  (hm:gu p r=true) (ha:dI p a=true) (ho:dI p o=true) (hne:a≠o):
  Con 348 [.d p.av,.d b.av,.d (i64 r),.d (i64 a),.d (i64 o)] (.d (.bool (decide (lK ka m r > 0)&&decide (lK ko m' r > 0)))):=by
 refine con Tryz.func348 rfl rfl Tryz.call348 rfl fun hwf=>?_
 (repeat' ((conv=>whnf);first|refine gA ?_|(refine gB ?_ ?_<;>intro h)|refine gC (IW p b r a o hp hu hm ha ho hne) ?_|refine gC (wO p b r a hg hn hp hu (sV hm) ha) ?_|refine gC (wO p b r o hg' hn' hp hu (sV hm) ho) ?_|intro _))
 all_goals (refine⟨?_,rfl,trivial⟩;simp [*])
theorem wP (p:Proj) (r a o:Int) {k k':Nat} {ka ko:aB} {x:aK} {ρ i j:Nat} {row:List Int} {v:Int} (ha:p.acts[k]? =some ka) (e:a=k) (ho:p.acts[k']? =some ko) (e':o=k') (hp:p.fine) (hok:bI p=true)
  (hm:gu p r=true) (ha':dI p a=true) (ho':dI p o=true) (hM:Nn p r a o ka ko x ρ i j row v):Con 356 [.d p.av,.d (i64 r),.d (i64 a),.d (i64 o)] (.d (i64 v)):=by
 refine con Tryz.func356 rfl rfl Tryz.call356 rfl fun hwf=>?_
 (repeat' ((conv=>whnf);first|(with_reducible first|refine Idx.got hM.res hM.rρ ?_|refine Idx.got ha e ?_|refine Idx.got ho e' ?_|refine Idx.got hM.agv hM.fi ?_|refine Idx.got hM.agw hM.fj ?_)|refine gA ?_|refine gC (ou p r) ?_|refine gC (dJ p hp) ?_|refine gC (iQ p _) ?_|intro _))
 exact⟨rfl,rfl,trivial⟩
theorem Zw (p:Proj) (b:Dom) (r a o:Int) {k k':Nat} {ka ko:aB} {x y:Int} {m:List Int} {re:aK} {ρ i j:Nat} {row:List Int} {v:Int} (hg:eG p b k ka x y m) (e:a=k) (ho:p.acts[k']? =some ko) (e':o=k') (hp:p.fine) (hok:bI p=true)
  (hm:gu p r=true) (ha':dI p a=true) (ho':dI p o=true) (hM:Nn p r a o ka ko re ρ i j row v):Con 374 [.d p.av,.d b.av,.d (i64 r),.d (i64 a),.d (i64 o)] (.d (i64 (rE p b r a o))):=by
 refine con Tryz.func374 rfl rfl Tryz.call374 rfl fun hwf=>?_
 have hd:=kX hg.aok m
 rw [<- qg hg] at hd
 have h1:=hg.lob
 have h2:=hM.vb
 have eq:rE p b r a o=x+zm p b k+v:=by
  rw [rE,hM.eq];subst e;simp [List.getD_eq_getElem?_getD,hg.lo]
 rw [eq]
 (repeat' ((conv=>whnf);first|with_reducible refine Idx.got hg.lo e ?_|refine gA ?_|refine gC (tX p b a hg e) ?_|refine gC (wP p r a o hg.act e ho e' hp hok hm ha' ho' hM) ?_|intro _))
 exact⟨rfl,rfl,trivial⟩
theorem Bv (p:Proj) (b:Dom) (r a o:Int) {k k':Nat} {ka ko:aB} {x y x' y':Int} {m m':List Int} (hg:eG p b k ka x y m) (hn:a=k) (hg':eG p b k' ko x' y' m') (hn':o=k') (hp:p.fine) (hu:usable p b=true)
  (hm:gu p r=true) (ha:dI p a=true) (ho:dI p o=true) (hne:a≠o):
  Con 349 [.d p.av,.d b.av,.d (i64 r),.d (i64 a),.d (i64 o)] (.d (.bool (decide (rE p b r a o<=y')))):=by
 refine con Tryz.func349 rfl rfl Tryz.call349 rfl fun hwf=>?_
 have hok:=(bA (uH hu)).1
 obtain⟨re,ρ,i,j,row,v,hM⟩:=zx hok hm hg.act hg'.act hn hn'
 (repeat' ((conv=>whnf);first|with_reducible refine Idx.got hg'.hi hn' ?_|refine gA ?_|refine gC (IW p b r a o hp hu hm ha ho hne) ?_|refine gC (Zw p b r a o hg hn hg'.act hn' hp hok hm ha ho hM) ?_|intro _))
 all_goals (refine⟨?_,rfl,trivial⟩;simp [*])
theorem adz {p:Proj} {b:Dom} {r a o:Int} {k k':Nat} {ka ko:aB} {x y x' y':Int} {m m':List Int} (hg:eG p b k ka x y m) (hn:a=k) (hg':eG p b k' ko x' y' m') (hn':o=k'):
  jam p b r a o=(decide (lK ka m r > 0)&&decide (lK ko m' r > 0)&&decide (rE p b r a o > y')&&decide (rE p b r o a > y)):=by
 subst hn hn'
 simp [jam,nQ,List.getD_eq_getElem?_getD,hg.act,hg.modes,hg'.act,hg'.modes,hg.hi,hg'.hi]
theorem IX (p:Proj) (b:Dom) (r a o:Int) {k k':Nat} {ka ko:aB} {x y x' y':Int} {m m':List Int} (hg:eG p b k ka x y m) (hn:a=k) (hg':eG p b k' ko x' y' m') (hn':o=k') (hp:p.fine) (hu:usable p b=true)
  (hm:gu p r=true) (ha:dI p a=true) (ho:dI p o=true) (hne:a≠o):
  Con 298 [.d p.av,.d b.av,.d (i64 r),.d (i64 a),.d (i64 o)] (.d (.bool (jam p b r a o))):=by
 refine con Tryz.func298 rfl rfl Tryz.call298 rfl fun hwf=>?_
 rw [adz hg hn hg' hn']
 (repeat' ((conv=>whnf);first|refine gA ?_|(refine gB ?_ ?_<;>intro h)|refine gC (UY p b r a o hg hn hg' hn' hp hu hm ha ho hne) ?_|refine gC (Bv p b r a o hg hn hg' hn' hp hu hm ha ho hne) ?_|refine gC (Bv p b r o a hg' hn' hg hn hp hu hm ho ha (Ne.symm hne)) ?_|intro _))
 ·refine⟨?_,rfl,trivial⟩
  rw [show (decide (lK ka m r > 0)&&decide (lK ko m' r > 0))=true by assumption]
  simp only [AV.bool.injEq];rw [Bool.eq_iff_iff];simp;omega
 ·refine⟨?_,rfl,trivial⟩
  rw [show (decide (lK ka m r > 0)&&decide (lK ko m' r > 0))=true by assumption]
  simp only [AV.bool.injEq];rw [Bool.eq_iff_iff];simp;omega
 ·refine⟨?_,rfl,trivial⟩
  rw [h];rfl
theorem Fv (p:Proj) (b:Dom) (r a o:Int) {k k':Nat} {ka ko:aB} {x y:Int} {m:List Int} {re:aK} {ρ i j:Nat} {row:List Int} {v:Int} (hg:eG p b k ka x y m) (e:a=k) (ho:p.acts[k']? =some ko) (e':o=k') (hM:Nn p r a o ka ko re ρ i j row v):
  Con 328 [.d p.av,.d b.av,.d (i64 r),.d (i64 a),.d (i64 o)] (.d (i64 (rE p b r a o))):=by
 refine con Tryz.func328 rfl rfl Tryz.call328 rfl fun hwf=>?_
 have hd:=kX hg.aok m
 rw [<- qg hg] at hd
 have h1:=hg.lob
 have h2:=hM.vb
 have eq:rE p b r a o=x+zm p b k+v:=by
  rw [rE,hM.eq];subst e;simp [List.getD_eq_getElem?_getD,hg.lo]
 rw [eq]
 (repeat' ((conv=>whnf);first|(with_reducible first|refine Idx.got hg.lo e ?_|refine Idx.got hM.res hM.rρ ?_|refine Idx.got hg.act e ?_|refine Idx.got ho e' ?_|refine Idx.got hM.agv hM.fi ?_|refine Idx.got hM.agw hM.fj ?_)|refine gA ?_|refine gC (tY p b a hg e) ?_|intro _))
 exact⟨rfl,rfl,trivial⟩
theorem Xt (p:Proj) (b:Dom) (r a o:Int) {k k':Nat} {ka ko:aB} {x y x' y':Int} {m m':List Int} (hg:eG p b k ka x y m) (hn:a=k) (hg':eG p b k' ko x' y' m') (hn':o=k') (hok:bI p=true) (hm:gu p r=true):
  Con 270 [.d p.av,.d b.av,.d (i64 r),.d (i64 a),.d (i64 o)] (.d (.bool (jam p b r a o))):=by
 refine con Tryz.func270 rfl rfl Tryz.call270 rfl fun hwf=>?_
 rw [adz hg hn hg' hn']
 obtain⟨re,ρ,i,j,row,v,hM⟩:=zx hok hm hg.act hg'.act hn hn'
 obtain⟨re',ρ',i',j',row',v',hM'⟩:=zx hok hm hg'.act hg.act hn' hn
 (repeat' ((conv=>whnf);first|(with_reducible first|refine Idx.got hg'.hi hn' ?_|refine Idx.got hg.hi hn ?_)|refine gA ?_|(refine gB ?_ ?_<;>intro h)|refine gC (Am p b r a hg hn) ?_|refine gC (Am p b r o hg' hn') ?_|refine gC (Fv p b r a o hg hn hg'.act hn' hM) ?_|refine gC (Fv p b r o a hg' hn' hg.act hn hM') ?_|intro _))
 all_goals (refine⟨?_,rfl,trivial⟩;simp only [AV.bool.injEq];rw [Bool.eq_iff_iff];simp;omega)
theorem CJ {p:Proj} {b:Dom} {k:Nat} {a:aB} {x y:Int} {m:List Int} (h:eG p b k a x y m) (r:Int):Iy p b r k=Cj a m r:=by
 simp [Iy,nQ,List.getD_eq_getElem?_getD,h.act,h.modes]
theorem xV {p:Proj} {b:Dom} (hf:aW p b=true) (r:Int) {k:Nat} (hk:k < p.acts.length):0<=Iy p b r k/\Iy p b r k<=20:=by
 obtain⟨a,lo,hi,m,h⟩:=dN hf hk
 rw [CJ h];exact UN h.aok _ _
theorem SQ {p:Proj} {r:Int} (h:kV p r=true):∃(ρ:Nat) (x:Int),r=ρ/\p.aH[ρ]? =some x:=by
 have hn:=within_iff.1 h
 exact⟨r.toNat,p.aH[r.toNat]'(by omega),by omega,by simp⟩
theorem IY (p:Proj) (b:Dom) (r:Int) (hf:aW p b=true) (hs:kV p r=true):Con 299 [.d p.av,.d b.av,.d (i64 r)] (.d (.bool (wI p b r))):=by
 refine con Tryz.func299 rfl rfl Tryz.call299 rfl fun hwf=>?_
 simp only [ARs.wf,AR.wf,AV.wf,AV.wfs,lm,lim] at hwf
 obtain⟨ρ,c,e1,e2⟩:=SQ hs
 try (conv=>whnf)
 refine ay [2,3,4,11,12] [3,4] [] ?_
 (conv=>whnf)
 refine au.go ((Nat)×(Int)) (fun⟨k,s⟩=>(k<=p.acts.length)/\(s=sumTo (Iy p b r) k)) (fun⟨k,s⟩=>[(13,.data (i64 k)),(7,.data (i64 s))]) lE lE (fun⟨k,s⟩=>p.acts.length - k) ⟨0,0⟩ ?_ ?_
 ·exact⟨by omega,rfl⟩
 rintro⟨k,s⟩ ⟨hk,hs⟩
 by_cases hlt:k < p.acts.length
 ·obtain⟨a,lo,hi,m,hg⟩:=dN hf hlt
  have hb:=kY (f:=Iy p b r) (c:=20) (n:=k) fun i hi=>xV hf r (by omega)
  have hw:=xV hf r hlt
  rw [CJ hg] at hw
  (repeat' ((conv=>whnf);first|(with_reducible first|refine Idx.got hg.act rfl ?_|refine Idx.got hg.modes rfl ?_)|refine gAV ?_|(refine gB ?_ ?_<;>intro h)|(refine gJ ?_;intro j x hj hx)|refine gC (Eu a m r) ?_|intro _))<;>try (conv=>whnf)
  ·refine nx ⟨k+1,s+Cj a m r⟩ ?_
   exact⟨by omega,by rw [sumTo,hs,CJ hg]⟩
  ·exfalso;omega
 ·(repeat' ((conv=>whnf);first|(exfalso;omega)|with_reducible refine Idx.got e2 e1 ?_|(refine gB ?_ ?_<;>intro h)))<;>try (conv=>whnf)
  refine⟨?_,rfl,trivial⟩
  rw [wI,hs,show k=p.acts.length by omega];subst e1;simp [List.getD_eq_getElem?_getD,e2]
theorem QT (p:Proj) (b:Dom) (r:Int) (hf:aW p b=true) (hs:kV p r=true):Con 271 [.d p.av,.d b.av,.d (i64 r)] (.d (.bool (wI p b r))):=by
 refine con Tryz.func271 rfl rfl Tryz.call271 rfl fun hwf=>?_
 simp only [ARs.wf,AR.wf,AV.wf,AV.wfs,lm,lim] at hwf
 obtain⟨ρ,c,e1,e2⟩:=SQ hs
 try (conv=>whnf)
 refine ay [2,3,4,11] [3,4] [] ?_
 (conv=>whnf)
 refine au.go ((Nat)×(Int)) (fun⟨k,s⟩=>(k<=p.acts.length)/\(s=sumTo (Iy p b r) k)) (fun⟨k,s⟩=>[(12,.data (i64 k)),(7,.data (i64 s))]) lE lE (fun⟨k,s⟩=>p.acts.length - k) ⟨0,0⟩ ?_ ?_
 ·exact⟨by omega,rfl⟩
 rintro⟨k,s⟩ ⟨hk,hs⟩
 by_cases hlt:k < p.acts.length
 ·obtain⟨a,lo,hi,m,hg⟩:=dN hf hlt
  have hb:=kY (f:=Iy p b r) (c:=20) (n:=k) fun i hi=>xV hf r (by omega)
  have hw:=xV hf r hlt
  rw [CJ hg] at hw
  (repeat' ((conv=>whnf);first|(with_reducible first|refine Idx.got hg.act rfl ?_|refine Idx.got hg.modes rfl ?_)|refine gAV ?_|(refine gB ?_ ?_<;>intro h)|(refine gJ ?_;intro j x hj hx)|refine gC (Ev a m r) ?_|intro _))<;>try (conv=>whnf)
  ·refine nx ⟨k+1,s+Cj a m r⟩ ?_
   exact⟨by omega,by rw [sumTo,hs,CJ hg]⟩
  ·exfalso;omega
 ·(repeat' ((conv=>whnf);first|(exfalso;omega)|with_reducible refine Idx.got e2 e1 ?_|(refine gB ?_ ?_<;>intro h)))<;>try (conv=>whnf)
  refine⟨?_,rfl,trivial⟩
  rw [wI,hs,show k=p.acts.length by omega];subst e1;simp [List.getD_eq_getElem?_getD,e2]
theorem Kz (p:Proj) (b:Dom) (l:Link) (hf:aW p b=true) (hl:nM p l=true):Con 293 [.d p.av,.d b.av,.d l.av] (.d (.bool (zn p b l))):=by
 refine con Tryz.func293 rfl rfl Tryz.call293 rfl fun hwf=>?_
 simp only [nM,Bool.and_eq_true] at hl
 obtain⟨k,_,e1,e2⟩:=jr hl.1.1.1
 obtain⟨k',_,e1',e2'⟩:=jr hl.1.1.2
 have agx:=within_iff.1 hl.2
 obtain⟨a,x,y,m,hg⟩:=dN hf (List.getElem?_eq_some_iff.1 e2).1
 obtain⟨a',x',y',m',hg'⟩:=dN hf (List.getElem?_eq_some_iff.1 e2').1
 have hd:=kX hg.aok m
 rw [<- qg hg] at hd
 have h1:=hg.lob
 (repeat' ((conv=>whnf);first|(with_reducible first|refine Idx.got hg.lo e1 ?_|refine Idx.got hg'.hi e1' ?_)|refine gA ?_|(refine gB ?_ ?_<;>intro h)|refine gC (tX p b _ hg e1) ?_|intro _))
 all_goals (refine⟨?_,rfl,trivial⟩;simp [zn,e1,e1',List.getD_eq_getElem?_getD,hg.lo,hg'.hi, *];done)
end Go.Proofs.YthegbfgeochckaaGreat.Abs
