/- Contracts: refutations by rules. -/
import Derived.Test.YtefgamefajmdkaaGreatC9
set_option linter.all false
set_option maxRecDepth 20000
set_option maxHeartbeats 0
namespace Go.Proofs.YtefgamefajmdkaaGreat.Abs
open Go.Proofs
def usable (p:Proj) (b:Dom):Bool:=aS p b&& !jB b
theorem fP (p:Proj) (b:Dom) (hp:p.fine):Con 206 [.d p.av,.d b.av] (.d (.bool (usable p b))):=by
 refine con Tryz.func206 rfl rfl Tryz.call206 rfl fun hwf=>?_
 (repeat' ((conv=>whnf);first|refine gA ?_|(refine gB ?_ ?_<;>intro h)|refine gC (aL p b hp) ?_|refine gC (aP b) ?_|intro _))<;>try (conv=>whnf)
 all_goals refine⟨?_,rfl,trivial⟩
 all_goals simp [usable, *]
theorem vP {p:Proj} {b:Dom} (h:usable p b=true):aS p b=true:=by
 simp only [usable,Bool.and_eq_true] at h;exact h.1
theorem Cy {p:Proj} {r:Int} (h:fI p r=true):∃(ρ:Nat) (x:bI),r=ρ∧p.aW[ρ]? =some x∧Ad p r=x:=by
 obtain⟨n,x,h1,h2⟩:=yV h
 exact⟨n,x,h1,h2,by subst h1;simp [Ad,List.getD_eq_getElem?_getD,h2]⟩
theorem Az (p:Proj) (b:Dom) (r x y:Int) (hp:p.fine) (hu:usable p b=true) (hr:fI p r=true) (hx:fF x=true) (hy:fF y=true) (hxy:x < y):
  Con 195 [.d p.av,.d b.av,.d (i64 r),.d (i64 x),.d (i64 y)] (.d (.bool (decide (Cr p b r x y > vE (Ad p r).steps x y)))):=by
 refine con Tryz.func195 rfl rfl Tryz.call195 rfl fun hwf=>?_
 obtain⟨ρ,re,e1,e2,e3⟩:=Cy hr
 rw [e3]
 (repeat' ((conv=>whnf);first|with_reducible refine Idx.got e2 e1 ?_|refine gA ?_|(refine gN ?_ ?_<;>intro h hw)|(refine gB ?_ ?_<;>intro h)|(refine gI ?_;intro x hx)|(refine gJ ?_;intro j x hj hx)|refine gC (fP p b hp) ?_|refine gC (eO p _) ?_|refine gC (iQ _) ?_|refine gC (FW p b r x y (vP hu) hr) ?_|refine gC (yX re.steps x y) ?_|intro _))<;>try (conv=>whnf)
 all_goals first
  |(exfalso;omega)
  |exact⟨rfl,rfl,trivial⟩
structure LC (p:Proj) (r a o:Int) (ka ko:aB) (x:bI) (ρ i j:Nat) (row:List Int) (v:Int):Prop where
 rρ:r=ρ
 res:p.aW[ρ]? =some x
 fi:ka.fam=i
 fj:ko.fam=j
 YO:x.setup[i]? =some row
 YP:row[j]? =some v
 vb:0≤v∧v≤12
 eq:Es p r a o=v
theorem FX {p:Proj} {r a o:Int} {k k':Nat} {ka ko:aB} (hok:bC p=true) (hm:iC p r=true) (ha:p.acts[k]? =some ka) (ho:p.acts[k']? =some ko) (e:a=k) (e':o=k'):
  ∃x ρ i j row v,LC p r a o ka ko x ρ i j row v:=by
 simp only [iC,Bool.and_eq_true,decide_eq_true_eq] at hm
 obtain⟨ρ,x,e1,e2⟩:=yV hm.1
 have pf:=dP hok
 have hres:=pf.res ρ x e2
 have hlen:(p.aW.getD r.toNat ⟨[],[]⟩)=x:=by subst e1;simp [List.getD_eq_getElem?_getD,e2]
 rw [hlen] at hm
 simp only [nT,Bool.and_eq_true,Bool.or_eq_true,decide_eq_true_eq,List.all_eq_true,rowOk,within_iff] at hres
 have h4:x.setup.length=4:=by omega
 have ff:∀{n:Nat} {q:aB},p.acts[n]? =some q→0≤q.fam∧q.fam≤3:=fun {n q} hq=>by
  have:=pf.act n q hq
  simp only [cB,Bool.and_eq_true,within_iff] at this
  exact this.2.1.2
 have f1:=ff ha
 have f2:=ff ho
 have e3:x.setup[ka.fam.toNat]? =some (x.setup[ka.fam.toNat]'(by omega)):=by simp
 have hrow:=hres.1 _ (List.mem_of_getElem? e3)
 have e4:(x.setup[ka.fam.toNat]'(by omega))[ko.fam.toNat]? =some ((x.setup[ka.fam.toNat]'(by omega))[ko.fam.toNat]'(by omega)):=by simp
 refine⟨x,ρ,ka.fam.toNat,ko.fam.toNat,_,_,e1,e2,by omega,by omega,e3,e4,hrow.2 _ (List.mem_of_getElem? e4),?_⟩
 subst e e' e1
 simp [Es,Ad,iP,List.getD_eq_getElem?_getD,e2,ha,ho,e3,e4]
theorem FY (p:Proj) (b:Dom) (r:Int) (hp:p.fine) (hu:usable p b=true) (hm:iC p r=true):Con 300 [.d p.av,.d b.av,.d (i64 r)] (.d (.bool true)):=by
 refine con Tryz.func300 rfl rfl Tryz.call300 rfl fun hwf=>?_
 (repeat' ((conv=>whnf);first|refine gA ?_|(refine gB ?_ ?_<;>intro h)|refine gC (fP p b hp) ?_|refine gC (jF p r) ?_|intro _))<;>try (conv=>whnf)
 all_goals (refine⟨?_,rfl,trivial⟩;simp [*])
theorem AA (p:Proj) (b:Dom) (r a o:Int) (hp:p.fine) (hu:usable p b=true) (hm:iC p r=true) (ha:bM p a=true) (ho:bM p o=true) (hne:a≠o):
  Con 272 [.d p.av,.d b.av,.d (i64 r),.d (i64 a),.d (i64 o)] (.d (.bool true)):=by
 refine con Tryz.func272 rfl rfl Tryz.call272 rfl fun hwf=>?_
 (repeat' ((conv=>whnf);first|refine gA ?_|(refine gB ?_ ?_<;>intro h)|refine gC (FY p b r hp hu hm) ?_|refine gC (eH p _) ?_|intro _))<;>try (conv=>whnf)
 all_goals (refine⟨?_,rfl,trivial⟩;simp [*])
theorem pO (p:Proj) (b:Dom) (r n:Int) {k:Nat} {a:aB} {x y:Int} {m:List Int} (hg:dX p b k a x y m) (hn:n=k) (hp:p.fine) (hu:usable p b=true) (hr:fI p r=true) (ha:bM p n=true):
  Con 273 [.d p.av,.d b.av,.d (i64 r),.d (i64 n)] (.d (i64 (jC a m r))):=by
 refine con Tryz.func273 rfl rfl Tryz.call273 rfl fun hwf=>?_
 (repeat' ((conv=>whnf);first|with_reducible refine Idx.got hg.act hn ?_|with_reducible refine Idx.got hg.modes hn ?_|refine gA ?_|(refine gB ?_ ?_<;>intro h)|(refine gI ?_;intro x hx)|(refine gJ ?_;intro j x hj hx)|refine gC (fP p b hp) ?_|refine gC (eO p _) ?_|refine gC (eH p _) ?_|refine gC (xW a m r) ?_|intro _))<;>try (conv=>whnf)
 exact⟨rfl,rfl,trivial⟩
theorem tQ {p:Proj} {r:Int} (h:iC p r=true):fI p r=true:=by
 simp only [iC,Bool.and_eq_true] at h;exact h.1
theorem LD (p:Proj) (b:Dom) (r a o:Int) {k k':Nat} {ka ko:aB} {x y x' y':Int} {m m':List Int} (hg:dX p b k ka x y m) (hn:a=k) (hg':dX p b k' ko x' y' m') (hn':o=k') (hp:p.fine) (hu:usable p b=true)
  (hm:iC p r=true) (ha:bM p a=true) (ho:bM p o=true) (hne:a≠o):
  Con 242 [.d p.av,.d b.av,.d (i64 r),.d (i64 a),.d (i64 o)] (.d (.bool (decide (jC ka m r > 0)&&decide (jC ko m' r > 0)))):=by
 refine con Tryz.func242 rfl rfl Tryz.call242 rfl fun hwf=>?_
 (repeat' ((conv=>whnf);first|refine gA ?_|(refine gB ?_ ?_<;>intro h)|refine gC (AA p b r a o hp hu hm ha ho hne) ?_|refine gC (pO p b r a hg hn hp hu (tQ hm) ha) ?_|refine gC (pO p b r o hg' hn' hp hu (tQ hm) ho) ?_|intro _))<;>try (conv=>whnf)
 all_goals (refine⟨?_,rfl,trivial⟩;simp [*])
theorem pQ (p:Proj) (r a o:Int) {k k':Nat} {ka ko:aB} {x:bI} {ρ i j:Nat} {row:List Int} {v:Int} (ha:p.acts[k]? =some ka) (e:a=k) (ho:p.acts[k']? =some ko) (e':o=k') (hp:p.fine) (hok:bC p=true)
  (hm:iC p r=true) (ha':bM p a=true) (ho':bM p o=true) (hM:LC p r a o ka ko x ρ i j row v):Con 266 [.d p.av,.d (i64 r),.d (i64 a),.d (i64 o)] (.d (i64 v)):=by
 refine con Tryz.func266 rfl rfl Tryz.call266 rfl fun hwf=>?_
 (repeat' ((conv=>whnf);first|with_reducible refine Idx.got hM.res hM.rρ ?_|with_reducible refine Idx.got ha e ?_|with_reducible refine Idx.got ho e' ?_|with_reducible refine Idx.got hM.YO hM.fi ?_|with_reducible refine Idx.got hM.YP hM.fj ?_|refine gA ?_|(refine gB ?_ ?_<;>intro h)|(refine gI ?_;intro x hx)|(refine gJ ?_;intro j x hj hx)|refine gC (jF p r) ?_|refine gC (aX p hp) ?_|refine gC (eH p _) ?_|intro _))<;>try (conv=>whnf)
 exact⟨rfl,rfl,trivial⟩
theorem PY (p:Proj) (b:Dom) (r a o:Int) {k k':Nat} {ka ko:aB} {x y:Int} {m:List Int} {re:bI} {ρ i j:Nat} {row:List Int} {v:Int} (hg:dX p b k ka x y m) (e:a=k) (ho:p.acts[k']? =some ko) (e':o=k') (hp:p.fine) (hok:bC p=true)
  (hm:iC p r=true) (ha':bM p a=true) (ho':bM p o=true) (hM:LC p r a o ka ko re ρ i j row v):Con 274 [.d p.av,.d b.av,.d (i64 r),.d (i64 a),.d (i64 o)] (.d (i64 (qz p b r a o))):=by
 refine con Tryz.func274 rfl rfl Tryz.call274 rfl fun hwf=>?_
 have hd:=ow hg.aok m
 rw [← vM hg] at hd
 have h1:=hg.lob
 have h2:=hM.vb
 have eq:qz p b r a o=x+xK p b k+v:=by
  rw [qz,hM.eq];subst e;simp [List.getD_eq_getElem?_getD,hg.lo]
 rw [eq]
 (repeat' ((conv=>whnf);first|with_reducible refine Idx.got hg.lo e ?_|refine gA ?_|(refine gB ?_ ?_<;>intro h)|(refine gI ?_;intro x hx)|(refine gJ ?_;intro j x hj hx)|refine gV ?_|refine gC (mM p b a hg e) ?_|refine gC (pQ p r a o hg.act e ho e' hp hok hm ha' ho' hM) ?_|intro _))<;>try (conv=>whnf)
 exact⟨rfl,rfl,trivial⟩
theorem uy (p:Proj) (b:Dom) (r a o:Int) {k k':Nat} {ka ko:aB} {x y x' y':Int} {m m':List Int} (hg:dX p b k ka x y m) (hn:a=k) (hg':dX p b k' ko x' y' m') (hn':o=k') (hp:p.fine) (hu:usable p b=true)
  (hm:iC p r=true) (ha:bM p a=true) (ho:bM p o=true) (hne:a≠o):
  Con 243 [.d p.av,.d b.av,.d (i64 r),.d (i64 a),.d (i64 o)] (.d (.bool (decide (qz p b r a o≤y')))):=by
 refine con Tryz.func243 rfl rfl Tryz.call243 rfl fun hwf=>?_
 have hok:=(bF (vP hu)).1
 obtain⟨re,ρ,i,j,row,v,hM⟩:=FX hok hm hg.act hg'.act hn hn'
 (repeat' ((conv=>whnf);first|with_reducible refine Idx.got hg'.hi hn' ?_|refine gA ?_|(refine gB ?_ ?_<;>intro h)|(refine gI ?_;intro x hx)|(refine gJ ?_;intro j x hj hx)|refine gC (AA p b r a o hp hu hm ha ho hne) ?_|refine gC (PY p b r a o hg hn hg'.act hn' hp hok hm ha ho hM) ?_|intro _))<;>try (conv=>whnf)
 all_goals (refine⟨?_,rfl,trivial⟩;simp [*])
theorem Wv {p:Proj} {b:Dom} {r a o:Int} {k k':Nat} {ka ko:aB} {x y x' y':Int} {m m':List Int} (hg:dX p b k ka x y m) (hn:a=k) (hg':dX p b k' ko x' y' m') (hn':o=k'):
  jam p b r a o=(decide (jC ka m r > 0)&&decide (jC ko m' r > 0)&&decide (qz p b r a o > y')&&decide (qz p b r o a > y)):=by
 subst hn hn'
 simp [jam,iP,List.getD_eq_getElem?_getD,hg.act,hg.modes,hg'.act,hg'.modes,hg.hi,hg'.hi]
theorem AB (p:Proj) (b:Dom) (r a o:Int) {k k':Nat} {ka ko:aB} {x y x' y':Int} {m m':List Int} (hg:dX p b k ka x y m) (hn:a=k) (hg':dX p b k' ko x' y' m') (hn':o=k') (hp:p.fine) (hu:usable p b=true)
  (hm:iC p r=true) (ha:bM p a=true) (ho:bM p o=true) (hne:a≠o):
  Con 196 [.d p.av,.d b.av,.d (i64 r),.d (i64 a),.d (i64 o)] (.d (.bool (jam p b r a o))):=by
 refine con Tryz.func196 rfl rfl Tryz.call196 rfl fun hwf=>?_
 rw [Wv hg hn hg' hn']
 (repeat' ((conv=>whnf);first|refine gA ?_|(refine gB ?_ ?_<;>intro h)|refine gC (LD p b r a o hg hn hg' hn' hp hu hm ha ho hne) ?_|refine gC (uy p b r a o hg hn hg' hn' hp hu hm ha ho hne) ?_|refine gC (uy p b r o a hg' hn' hg hn hp hu hm ho ha (Ne.symm hne)) ?_|intro _))<;>try (conv=>whnf)
 ·refine⟨?_,rfl,trivial⟩
  rw [show (decide (jC ka m r > 0)&&decide (jC ko m' r > 0))=true by assumption]
  simp only [AV.bool.injEq];rw [Bool.eq_iff_iff];simp;omega
 ·refine⟨?_,rfl,trivial⟩
  rw [show (decide (jC ka m r > 0)&&decide (jC ko m' r > 0))=true by assumption]
  simp only [AV.bool.injEq];rw [Bool.eq_iff_iff];simp;omega
 ·refine⟨?_,rfl,trivial⟩
  rw [h];rfl
theorem FZ {p:Proj} {b:Dom} {k:Nat} {a:aB} {x y:Int} {m:List Int} (h:dX p b k a x y m) (r:Int):FD p b r k=Cq a m r:=by
 simp [FD,iP,List.getD_eq_getElem?_getD,h.act,h.modes]
theorem Dy {p:Proj} {b:Dom} (hf:aS p b=true) (r:Int) {k:Nat} (hk:k < p.acts.length):0≤FD p b r k∧FD p b r k≤20:=by
 obtain⟨a,lo,hi,m,h⟩:=gY hf hk
 rw [FZ h];exact Lx h.aok _ _
theorem RX {p:Proj} {r:Int} (h:jy p r=true):∃(ρ:Nat) (x:Int),r=ρ∧p.aR[ρ]? =some x:=by
 have hn:=within_iff.1 h
 exact⟨r.toNat,p.aR[r.toNat]'(by omega),by omega,by simp⟩
theorem AJ (p:Proj) (b:Dom) (r:Int) (hf:aS p b=true) (hs:jy p r=true):Con 197 [.d p.av,.d b.av,.d (i64 r)] (.d (.bool (yQ p b r))):=by
 refine con Tryz.func197 rfl rfl Tryz.call197 rfl fun hwf=>?_
 simp only [ARs.wf,AR.wf,AV.wf,AV.wfs,lm,lim] at hwf
 obtain⟨ρ,c,e1,e2⟩:=RX hs
 (repeat' ((conv=>whnf);first|refine gA ?_|(refine gB ?_ ?_<;>intro h)|(refine gI ?_;intro x hx)|(refine gJ ?_;intro j x hj hx)|refine gV ?_|intro _))<;>try (conv=>whnf)
 refine aA [2,3,4,11,12] [3,4] [] ?_
 (conv=>whnf)
 refine ay.go ((Nat)×(Int)) (fun⟨k,s⟩=>(k≤p.acts.length)∧(s=sumTo (FD p b r) k)) (fun⟨k,s⟩=>[(13,.data (i64 k)),(7,.data (i64 s))]) (fun _=>[]) (fun _=>[]) (fun⟨k,s⟩=>p.acts.length - k) ⟨0,0⟩ ?_ ?_
 ·exact⟨by omega,rfl⟩
 rintro⟨k,s⟩ ⟨hk,hs⟩
 by_cases hlt:k < p.acts.length
 ·obtain⟨a,lo,hi,m,hg⟩:=gY hf hlt
  have hb:=ni (f:=FD p b r) (c:=20) (n:=k) fun i hi=>Dy hf r (by omega)
  have hw:=Dy hf r hlt
  rw [FZ hg] at hw
  (repeat' ((conv=>whnf);first|with_reducible refine Idx.got hg.act rfl ?_|with_reducible refine Idx.got hg.modes rfl ?_|refine gA ?_|(refine gB ?_ ?_<;>intro h)|(refine gI ?_;intro x hx)|(refine gJ ?_;intro j x hj hx)|refine gV ?_|refine gC (wZ a m r) ?_|intro _))<;>try (conv=>whnf)
  ·refine nx ⟨k+1,s+Cq a m r⟩ ?_
   exact⟨by omega,by rw [sumTo,hs,FZ hg]⟩
  ·exfalso;omega
 ·(repeat' ((conv=>whnf);first|(exfalso;omega)|with_reducible refine Idx.got e2 e1 ?_|refine gA ?_|(refine gB ?_ ?_<;>intro h)|(refine gI ?_;intro x hx)|(refine gJ ?_;intro j x hj hx)|refine gV ?_|intro _))<;>try (conv=>whnf)
  refine⟨?_,rfl,trivial⟩
  rw [yQ,hs,show k=p.acts.length by omega];subst e1;simp [List.getD_eq_getElem?_getD,e2]
theorem Cz (p:Proj) (b:Dom) (l:Link) (hf:aS p b=true) (hl:pI p l=true):Con 191 [.d p.av,.d b.av,.d l.av] (.d (.bool (Ct p b l))):=by
 refine con Tryz.func191 rfl rfl Tryz.call191 rfl fun hwf=>?_
 simp only [pI,Bool.and_eq_true] at hl
 obtain⟨k,_,e1,e2⟩:=kL hl.1.1.1
 obtain⟨k',_,e1',e2'⟩:=kL hl.1.1.2
 have YQ:=within_iff.1 hl.2
 obtain⟨a,x,y,m,hg⟩:=gY hf (List.getElem?_eq_some_iff.1 e2).1
 obtain⟨a',x',y',m',hg'⟩:=gY hf (List.getElem?_eq_some_iff.1 e2').1
 have hd:=ow hg.aok m
 rw [← vM hg] at hd
 have h1:=hg.lob
 (repeat' ((conv=>whnf);first|with_reducible refine Idx.got hg.lo e1 ?_|with_reducible refine Idx.got hg'.hi e1' ?_|refine gA ?_|(refine gB ?_ ?_<;>intro h)|(refine gI ?_;intro x hx)|(refine gJ ?_;intro j x hj hx)|refine gV ?_|refine gC (mM p b _ hg e1) ?_|intro _))<;>try (conv=>whnf)
 all_goals (refine⟨?_,rfl,trivial⟩;simp [Ct,e1,e1',List.getD_eq_getElem?_getD,hg.lo,hg'.hi, *];done)
end Go.Proofs.YtefgamefajmdkaaGreat.Abs
