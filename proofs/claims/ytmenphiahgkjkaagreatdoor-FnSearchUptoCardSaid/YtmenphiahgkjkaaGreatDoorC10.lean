/- Contracts: refutations by rules. -/
import Derived.Test.YtmenphiahgkjkaaGreatDoorC9
set_option linter.all false
set_option maxRecDepth 20000
set_option maxHeartbeats 0
namespace Go.Proofs.YtmenphiahgkjkaaGreatDoor.Abs
open Go.Proofs
def usable (p:Proj) (b:Dom):Bool:=ak p b&& !aP b
theorem iO (p:Proj) (b:Dom) (hp:p.fine):Con 98 [.d p.av,.d b.av] (.d (.bool (usable p b))):=by
 refine con Tryz.func98 rfl rfl Tryz.call98 rfl fun hwf=>?_
 (repeat' ((conv=>whnf);first|refine gA ?_|(refine gB ?_ ?_<;>intro h)|refine gC (aT p b hp) ?_|refine gC (aY b) ?_|intro _))<;>try (conv=>whnf)
 all_goals refine⟨?_,rfl,trivial⟩
 all_goals simp [usable, *]
theorem zL {p:Proj} {b:Dom} (h:usable p b=true):ak p b=true:=by
 simp only [usable,Bool.and_eq_true] at h;exact h.1
theorem GA {p:Proj} {r:Int} (h:fT p r=true):∃(ρ:Nat) (x:dR),r=ρ∧p.bB[ρ]? =some x∧yE p r=x:=by
 obtain⟨n,x,h1,h2⟩:=CZ h
 exact⟨n,x,h1,h2,by subst h1;simp [yE,List.getD_eq_getElem?_getD,h2]⟩
theorem EN (p:Proj) (b:Dom) (r x y:Int) (hp:p.fine) (hu:usable p b=true) (hr:fT p r=true) (hx:eY x=true) (hy:eY y=true) (hxy:x < y):
  Con 137 [.d p.av,.d b.av,.d (i64 r),.d (i64 x),.d (i64 y)] (.d (.bool (decide (rY p b r x y > vZ (yE p r).steps x y)))):=by
 refine con Tryz.func137 rfl rfl Tryz.call137 rfl fun hwf=>?_
 obtain⟨ρ,re,e1,e2,e3⟩:=GA hr
 rw [e3]
 (repeat' ((conv=>whnf);first|with_reducible refine Idx.got e2 e1 ?_|refine gA ?_|(refine gN ?_ ?_<;>intro h hw)|(refine gB ?_ ?_<;>intro h)|(refine gI ?_;intro x hx)|(refine gJ ?_;intro j x hj hx)|refine gC (iO p b hp) ?_|refine gC (gT p _) ?_|refine gC (jZ _) ?_|refine gC (KU p b r x y (zL hu) hr) ?_|refine gC (Da re.steps x y) ?_|intro _))<;>try (conv=>whnf)
 all_goals first
  |(exfalso;omega)
  |exact⟨rfl,rfl,trivial⟩
structure QB (p:Proj) (r a o:Int) (ka ko:aC) (x:dR) (ρ i j:Nat) (row:List Int) (v:Int):Prop where
 rρ:r=ρ
 res:p.bB[ρ]? =some x
 fi:ka.fam=i
 fj:ko.fam=j
 aed:x.setup[i]? =some row
 aee:row[j]? =some v
 vb:0≤v∧v≤12
 eq:Jv p r a o=v
theorem KV {p:Proj} {r a o:Int} {k k':Nat} {ka ko:aC} (hok:aL p=true) (hm:iE p r=true) (ha:p.acts[k]? =some ka) (ho:p.acts[k']? =some ko) (e:a=k) (e':o=k'):
  ∃x ρ i j row v,QB p r a o ka ko x ρ i j row v:=by
 simp only [iE,Bool.and_eq_true,decide_eq_true_eq] at hm
 obtain⟨ρ,x,e1,e2⟩:=CZ hm.1
 have pf:=fG hok
 have hres:=pf.res ρ x e2
 have hlen:(p.bB.getD r.toNat ⟨[],[]⟩)=x:=by subst e1;simp [List.getD_eq_getElem?_getD,e2]
 rw [hlen] at hm
 simp only [qC,Bool.and_eq_true,Bool.or_eq_true,decide_eq_true_eq,List.all_eq_true,rowOk,within_iff] at hres
 have h4:x.setup.length=4:=by omega
 have ff:∀{n:Nat} {q:aC},p.acts[n]? =some q→0≤q.fam∧q.fam≤3:=fun {n q} hq=>by
  have:=pf.act n q hq
  simp only [dD,Bool.and_eq_true,within_iff] at this
  exact this.2.1.2
 have f1:=ff ha
 have f2:=ff ho
 have e3:x.setup[ka.fam.toNat]? =some (x.setup[ka.fam.toNat]'(by omega)):=by simp
 have hrow:=hres.1 _ (List.mem_of_getElem? e3)
 have e4:(x.setup[ka.fam.toNat]'(by omega))[ko.fam.toNat]? =some ((x.setup[ka.fam.toNat]'(by omega))[ko.fam.toNat]'(by omega)):=by simp
 refine⟨x,ρ,ka.fam.toNat,ko.fam.toNat,_,_,e1,e2,by omega,by omega,e3,e4,hrow.2 _ (List.mem_of_getElem? e4),?_⟩
 subst e e' e1
 simp [Jv,yE,aZ,List.getD_eq_getElem?_getD,e2,ha,ho,e3,e4]
theorem KW (p:Proj) (b:Dom) (r:Int) (hp:p.fine) (hu:usable p b=true) (hm:iE p r=true):Con 215 [.d p.av,.d b.av,.d (i64 r)] (.d (.bool true)):=by
 refine con Tryz.func215 rfl rfl Tryz.call215 rfl fun hwf=>?_
 (repeat' ((conv=>whnf);first|refine gA ?_|(refine gB ?_ ?_<;>intro h)|refine gC (iO p b hp) ?_|refine gC (lq p r) ?_|intro _))<;>try (conv=>whnf)
 all_goals (refine⟨?_,rfl,trivial⟩;simp [*])
theorem EO (p:Proj) (b:Dom) (r a o:Int) (hp:p.fine) (hu:usable p b=true) (hm:iE p r=true) (ha:bJ p a=true) (ho:bJ p o=true) (hne:a≠o):
  Con 203 [.d p.av,.d b.av,.d (i64 r),.d (i64 a),.d (i64 o)] (.d (.bool true)):=by
 refine con Tryz.func203 rfl rfl Tryz.call203 rfl fun hwf=>?_
 (repeat' ((conv=>whnf);first|refine gA ?_|(refine gB ?_ ?_<;>intro h)|refine gC (KW p b r hp hu hm) ?_|refine gC (gQ p _) ?_|intro _))<;>try (conv=>whnf)
 all_goals (refine⟨?_,rfl,trivial⟩;simp [*])
theorem tH (p:Proj) (b:Dom) (r n:Int) {k:Nat} {a:aC} {x y:Int} {m:List Int} (hg:fV p b k a x y m) (hn:n=k) (hp:p.fine) (hu:usable p b=true) (hr:fT p r=true) (ha:bJ p n=true):
  Con 204 [.d p.av,.d b.av,.d (i64 r),.d (i64 n)] (.d (i64 (je a m r))):=by
 refine con Tryz.func204 rfl rfl Tryz.call204 rfl fun hwf=>?_
 (repeat' ((conv=>whnf);first|with_reducible refine Idx.got hg.act hn ?_|with_reducible refine Idx.got hg.modes hn ?_|refine gA ?_|(refine gB ?_ ?_<;>intro h)|(refine gI ?_;intro x hx)|(refine gJ ?_;intro j x hj hx)|refine gC (iO p b hp) ?_|refine gC (gT p _) ?_|refine gC (gQ p _) ?_|refine gC (BR a m r) ?_|intro _))<;>try (conv=>whnf)
 exact⟨rfl,rfl,trivial⟩
theorem xL {p:Proj} {r:Int} (h:iE p r=true):fT p r=true:=by
 simp only [iE,Bool.and_eq_true] at h;exact h.1
theorem QC (p:Proj) (b:Dom) (r a o:Int) {k k':Nat} {ka ko:aC} {x y x' y':Int} {m m':List Int} (hg:fV p b k ka x y m) (hn:a=k) (hg':fV p b k' ko x' y' m') (hn':o=k') (hp:p.fine) (hu:usable p b=true)
  (hm:iE p r=true) (ha:bJ p a=true) (ho:bJ p o=true) (hne:a≠o):
  Con 175 [.d p.av,.d b.av,.d (i64 r),.d (i64 a),.d (i64 o)] (.d (.bool (decide (je ka m r > 0)&&decide (je ko m' r > 0)))):=by
 refine con Tryz.func175 rfl rfl Tryz.call175 rfl fun hwf=>?_
 (repeat' ((conv=>whnf);first|refine gA ?_|(refine gB ?_ ?_<;>intro h)|refine gC (EO p b r a o hp hu hm ha ho hne) ?_|refine gC (tH p b r a hg hn hp hu (xL hm) ha) ?_|refine gC (tH p b r o hg' hn' hp hu (xL hm) ho) ?_|intro _))<;>try (conv=>whnf)
 all_goals (refine⟨?_,rfl,trivial⟩;simp [*])
theorem tJ (p:Proj) (r a o:Int) {k k':Nat} {ka ko:aC} {x:dR} {ρ i j:Nat} {row:List Int} {v:Int} (ha:p.acts[k]? =some ka) (e:a=k) (ho:p.acts[k']? =some ko) (e':o=k') (hp:p.fine) (hok:aL p=true)
  (hm:iE p r=true) (ha':bJ p a=true) (ho':bJ p o=true) (hM:QB p r a o ka ko x ρ i j row v):Con 147 [.d p.av,.d (i64 r),.d (i64 a),.d (i64 o)] (.d (i64 v)):=by
 refine con Tryz.func147 rfl rfl Tryz.call147 rfl fun hwf=>?_
 (repeat' ((conv=>whnf);first|with_reducible refine Idx.got hM.res hM.rρ ?_|with_reducible refine Idx.got ha e ?_|with_reducible refine Idx.got ho e' ?_|with_reducible refine Idx.got hM.aed hM.fi ?_|with_reducible refine Idx.got hM.aee hM.fj ?_|refine gA ?_|(refine gB ?_ ?_<;>intro h)|(refine gI ?_;intro x hx)|(refine gJ ?_;intro j x hj hx)|refine gC (lq p r) ?_|refine gC (bn p hp) ?_|refine gC (gQ p _) ?_|intro _))<;>try (conv=>whnf)
 exact⟨rfl,rfl,trivial⟩
theorem Vs (p:Proj) (b:Dom) (r a o:Int) {k k':Nat} {ka ko:aC} {x y:Int} {m:List Int} {re:dR} {ρ i j:Nat} {row:List Int} {v:Int} (hg:fV p b k ka x y m) (e:a=k) (ho:p.acts[k']? =some ko) (e':o=k') (hp:p.fine) (hok:aL p=true)
  (hm:iE p r=true) (ha':bJ p a=true) (ho':bJ p o=true) (hM:QB p r a o ka ko re ρ i j row v):Con 205 [.d p.av,.d b.av,.d (i64 r),.d (i64 a),.d (i64 o)] (.d (i64 (nG p b r a o))):=by
 refine con Tryz.func205 rfl rfl Tryz.call205 rfl fun hwf=>?_
 have hd:=rQ hg.aok m
 rw [← zI hg] at hd
 have h1:=hg.lob
 have h2:=hM.vb
 have eq:nG p b r a o=x+mV p b k+v:=by
  rw [nG,hM.eq];subst e;simp [List.getD_eq_getElem?_getD,hg.lo]
 rw [eq]
 (repeat' ((conv=>whnf);first|with_reducible refine Idx.got hg.lo e ?_|refine gA ?_|(refine gB ?_ ?_<;>intro h)|(refine gI ?_;intro x hx)|(refine gJ ?_;intro j x hj hx)|refine gV ?_|refine gC (qd p b a hg e) ?_|refine gC (tJ p r a o hg.act e ho e' hp hok hm ha' ho' hM) ?_|intro _))<;>try (conv=>whnf)
 exact⟨rfl,rfl,trivial⟩
theorem yI (p:Proj) (b:Dom) (r a o:Int) {k k':Nat} {ka ko:aC} {x y x' y':Int} {m m':List Int} (hg:fV p b k ka x y m) (hn:a=k) (hg':fV p b k' ko x' y' m') (hn':o=k') (hp:p.fine) (hu:usable p b=true)
  (hm:iE p r=true) (ha:bJ p a=true) (ho:bJ p o=true) (hne:a≠o):
  Con 176 [.d p.av,.d b.av,.d (i64 r),.d (i64 a),.d (i64 o)] (.d (.bool (decide (nG p b r a o≤y')))):=by
 refine con Tryz.func176 rfl rfl Tryz.call176 rfl fun hwf=>?_
 have hok:=(bZ (zL hu)).1
 obtain⟨re,ρ,i,j,row,v,hM⟩:=KV hok hm hg.act hg'.act hn hn'
 (repeat' ((conv=>whnf);first|with_reducible refine Idx.got hg'.hi hn' ?_|refine gA ?_|(refine gB ?_ ?_<;>intro h)|(refine gI ?_;intro x hx)|(refine gJ ?_;intro j x hj hx)|refine gC (EO p b r a o hp hu hm ha ho hne) ?_|refine gC (Vs p b r a o hg hn hg'.act hn' hp hok hm ha ho hM) ?_|intro _))<;>try (conv=>whnf)
 all_goals (refine⟨?_,rfl,trivial⟩;simp [*])
theorem abB {p:Proj} {b:Dom} {r a o:Int} {k k':Nat} {ka ko:aC} {x y x' y':Int} {m m':List Int} (hg:fV p b k ka x y m) (hn:a=k) (hg':fV p b k' ko x' y' m') (hn':o=k'):
  jam p b r a o=(decide (je ka m r > 0)&&decide (je ko m' r > 0)&&decide (nG p b r a o > y')&&decide (nG p b r o a > y)):=by
 subst hn hn'
 simp [jam,aZ,List.getD_eq_getElem?_getD,hg.act,hg.modes,hg'.act,hg'.modes,hg.hi,hg'.hi]
theorem EP (p:Proj) (b:Dom) (r a o:Int) {k k':Nat} {ka ko:aC} {x y x' y':Int} {m m':List Int} (hg:fV p b k ka x y m) (hn:a=k) (hg':fV p b k' ko x' y' m') (hn':o=k') (hp:p.fine) (hu:usable p b=true)
  (hm:iE p r=true) (ha:bJ p a=true) (ho:bJ p o=true) (hne:a≠o):
  Con 138 [.d p.av,.d b.av,.d (i64 r),.d (i64 a),.d (i64 o)] (.d (.bool (jam p b r a o))):=by
 refine con Tryz.func138 rfl rfl Tryz.call138 rfl fun hwf=>?_
 rw [abB hg hn hg' hn']
 (repeat' ((conv=>whnf);first|refine gA ?_|(refine gB ?_ ?_<;>intro h)|refine gC (QC p b r a o hg hn hg' hn' hp hu hm ha ho hne) ?_|refine gC (yI p b r a o hg hn hg' hn' hp hu hm ha ho hne) ?_|refine gC (yI p b r o a hg' hn' hg hn hp hu hm ho ha (Ne.symm hne)) ?_|intro _))<;>try (conv=>whnf)
 ·refine⟨?_,rfl,trivial⟩
  rw [show (decide (je ka m r > 0)&&decide (je ko m' r > 0))=true by assumption]
  simp only [AV.bool.injEq];rw [Bool.eq_iff_iff];simp;omega
 ·refine⟨?_,rfl,trivial⟩
  rw [show (decide (je ka m r > 0)&&decide (je ko m' r > 0))=true by assumption]
  simp only [AV.bool.injEq];rw [Bool.eq_iff_iff];simp;omega
 ·refine⟨?_,rfl,trivial⟩
  rw [h];rfl
theorem KX {p:Proj} {b:Dom} {k:Nat} {a:aC} {x y:Int} {m:List Int} (h:fV p b k a x y m) (r:Int):KC p b r k=xC a m r:=by
 simp [KC,aZ,List.getD_eq_getElem?_getD,h.act,h.modes]
theorem Ii {p:Proj} {b:Dom} (hf:ak p b=true) (r:Int) {k:Nat} (hk:k < p.acts.length):0≤KC p b r k∧KC p b r k≤20:=by
 obtain⟨a,lo,hi,m,h⟩:=dL hf hk
 rw [KX h];exact Qy h.aok _ _
theorem XE {p:Proj} {r:Int} (h:jS p r=true):∃(ρ:Nat) (x:Int),r=ρ∧p.aW[ρ]? =some x:=by
 have hn:=within_iff.1 h
 exact⟨r.toNat,p.aW[r.toNat]'(by omega),by omega,by simp⟩
theorem ER (p:Proj) (b:Dom) (r:Int) (hf:ak p b=true) (hs:jS p r=true):Con 139 [.d p.av,.d b.av,.d (i64 r)] (.d (.bool (sZ p b r))):=by
 refine con Tryz.func139 rfl rfl Tryz.call139 rfl fun hwf=>?_
 simp only [ARs.wf,AR.wf,AV.wf,AV.wfs,lm,lim] at hwf
 obtain⟨ρ,c,e1,e2⟩:=XE hs
 (repeat' ((conv=>whnf);first|refine gA ?_|(refine gB ?_ ?_<;>intro h)|(refine gI ?_;intro x hx)|(refine gJ ?_;intro j x hj hx)|refine gV ?_|intro _))<;>try (conv=>whnf)
 refine aB [2,3,4,11,12] [3,4] [] ?_
 (conv=>whnf)
 refine aA.go ((Nat)×(Int)) (fun⟨k,s⟩=>(k≤p.acts.length)∧(s=sumTo (KC p b r) k)) (fun⟨k,s⟩=>[(13,.data (i64 k)),(7,.data (i64 s))]) (fun _=>[]) (fun _=>[]) (fun⟨k,s⟩=>p.acts.length - k) ⟨0,0⟩ ?_ ?_
 ·exact⟨by omega,rfl⟩
 rintro⟨k,s⟩ ⟨hk,hs⟩
 by_cases hlt:k < p.acts.length
 ·obtain⟨a,lo,hi,m,hg⟩:=dL hf hlt
  have hb:=qG (f:=KC p b r) (c:=20) (n:=k) fun i hi=>Ii hf r (by omega)
  have hw:=Ii hf r hlt
  rw [KX hg] at hw
  (repeat' ((conv=>whnf);first|with_reducible refine Idx.got hg.act rfl ?_|with_reducible refine Idx.got hg.modes rfl ?_|refine gA ?_|(refine gB ?_ ?_<;>intro h)|(refine gI ?_;intro x hx)|(refine gJ ?_;intro j x hj hx)|refine gV ?_|refine gC (AZ a m r) ?_|intro _))<;>try (conv=>whnf)
  ·refine nx ⟨k+1,s+xC a m r⟩ ?_
   exact⟨by omega,by rw [sumTo,hs,KX hg]⟩
  ·exfalso;omega
 ·(repeat' ((conv=>whnf);first|(exfalso;omega)|with_reducible refine Idx.got e2 e1 ?_|refine gA ?_|(refine gB ?_ ?_<;>intro h)|(refine gI ?_;intro x hx)|(refine gJ ?_;intro j x hj hx)|refine gV ?_|intro _))<;>try (conv=>whnf)
  refine⟨?_,rfl,trivial⟩
  rw [sZ,hs,show k=p.acts.length by omega];subst e1;simp [List.getD_eq_getElem?_getD,e2]
theorem GD (p:Proj) (b:Dom) (l:Link) (hf:ak p b=true) (hl:qX p l=true):Con 134 [.d p.av,.d b.av,.d l.av] (.d (.bool (wh p b l))):=by
 refine con Tryz.func134 rfl rfl Tryz.call134 rfl fun hwf=>?_
 simp only [qX,Bool.and_eq_true] at hl
 obtain⟨k,_,e1,e2⟩:=nJ hl.1.1.1
 obtain⟨k',_,e1',e2'⟩:=nJ hl.1.1.2
 have aef:=within_iff.1 hl.2
 obtain⟨a,x,y,m,hg⟩:=dL hf (List.getElem?_eq_some_iff.1 e2).1
 obtain⟨a',x',y',m',hg'⟩:=dL hf (List.getElem?_eq_some_iff.1 e2').1
 have hd:=rQ hg.aok m
 rw [← zI hg] at hd
 have h1:=hg.lob
 (repeat' ((conv=>whnf);first|with_reducible refine Idx.got hg.lo e1 ?_|with_reducible refine Idx.got hg'.hi e1' ?_|refine gA ?_|(refine gB ?_ ?_<;>intro h)|(refine gI ?_;intro x hx)|(refine gJ ?_;intro j x hj hx)|refine gV ?_|refine gC (qd p b _ hg e1) ?_|intro _))<;>try (conv=>whnf)
 all_goals (refine⟨?_,rfl,trivial⟩;simp [wh,e1,e1',List.getD_eq_getElem?_getD,hg.lo,hg'.hi, *];done)
end Go.Proofs.YtmenphiahgkjkaaGreatDoor.Abs
