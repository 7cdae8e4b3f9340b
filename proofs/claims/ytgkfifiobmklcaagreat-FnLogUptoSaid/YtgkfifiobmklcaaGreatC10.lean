/- Contracts: refutations by rules. -/
import Derived.Test.YtgkfifiobmklcaaGreatC9
set_option linter.all false
set_option maxRecDepth 20000
set_option maxHeartbeats 0
namespace Go.Proofs.YtgkfifiobmklcaaGreat.Abs
open Go.Proofs
def usable (p:Proj) (b:Dom):Bool:=ak p b&& !aL b
theorem jB (p:Proj) (b:Dom) (hp:p.fine):Con 99 [.d p.av,.d b.av] (.d (.bool (usable p b))):=by
 refine con Tryz.func99 rfl rfl Tryz.call99 rfl fun hwf=>?_
 (repeat' ((conv=>whnf);first|refine gA ?_|(refine gB ?_ ?_<;>intro h)|refine gC (aY p b hp) ?_|refine gC (bD b) ?_|intro _))<;>try (conv=>whnf)
 all_goals refine⟨?_,rfl,trivial⟩
 all_goals simp [usable, *]
theorem Ji {p:Proj} {b:Dom} (h:usable p b=true):ak p b=true:=by
 simp only [usable,Bool.and_eq_true] at h;exact h.1
theorem Hy {p:Proj} {r:Int} (h:fQ p r=true):∃(ρ:Nat) (x:dN),r=ρ∧p.bC[ρ]? =some x∧yK p r=x:=by
 obtain⟨n,x,h1,h2⟩:=Dq h
 exact⟨n,x,h1,h2,by subst h1;simp [yK,List.getD_eq_getElem?_getD,h2]⟩
theorem Fx (p:Proj) (b:Dom) (r x y:Int) (hp:p.fine) (hu:usable p b=true) (hr:fQ p r=true) (hx:dS x=true) (hy:dS y=true) (hxy:x < y):
  Con 138 [.d p.av,.d b.av,.d (i64 r),.d (i64 x),.d (i64 y)] (.d (.bool (decide (rV p b r x y > wo (yK p r).steps x y)))):=by
 refine con Tryz.func138 rfl rfl Tryz.call138 rfl fun hwf=>?_
 obtain⟨ρ,re,e1,e2,e3⟩:=Hy hr
 rw [e3]
 (repeat' ((conv=>whnf);first|with_reducible refine Idx.got e2 e1 ?_|refine gA ?_|(refine gN ?_ ?_<;>intro h hw)|(refine gB ?_ ?_<;>intro h)|(refine gI ?_;intro x hx)|(refine gJ ?_;intro j x hj hx)|refine gC (jB p b hp) ?_|refine gC (gH p _) ?_|refine gC (jY _) ?_|refine gC (Md p b r x y (Ji hu) hr) ?_|refine gC (Dr re.steps x y) ?_|intro _))<;>try (conv=>whnf)
 all_goals first
  |(exfalso;omega)
  |exact⟨rfl,rfl,trivial⟩
structure Rs (p:Proj) (r a o:Int) (ka ko:aF) (x:dN) (ρ i j:Nat) (row:List Int) (v:Int):Prop where
 rρ:r=ρ
 res:p.bC[ρ]? =some x
 fi:ka.fam=i
 fj:ko.fam=j
 aeY:x.setup[i]? =some row
 aeZ:row[j]? =some v
 vb:0≤v∧v≤12
 eq:Kq p r a o=v
theorem Me {p:Proj} {r a o:Int} {k k':Nat} {ka ko:aF} (hok:aG p=true) (hm:iD p r=true) (ha:p.acts[k]? =some ka) (ho:p.acts[k']? =some ko) (e:a=k) (e':o=k'):
  ∃x ρ i j row v,Rs p r a o ka ko x ρ i j row v:=by
 simp only [iD,Bool.and_eq_true,decide_eq_true_eq] at hm
 obtain⟨ρ,x,e1,e2⟩:=Dq hm.1
 have pf:=fU hok
 have hres:=pf.res ρ x e2
 have hlen:(p.bC.getD r.toNat ⟨[],[]⟩)=x:=by subst e1;simp [List.getD_eq_getElem?_getD,e2]
 rw [hlen] at hm
 simp only [kZ,Bool.and_eq_true,Bool.or_eq_true,decide_eq_true_eq,List.all_eq_true,rowOk,within_iff] at hres
 have h4:x.setup.length=4:=by omega
 have ff:∀{n:Nat} {q:aF},p.acts[n]? =some q→0≤q.fam∧q.fam≤3:=fun {n q} hq=>by
  have:=pf.act n q hq
  simp only [bT,Bool.and_eq_true,within_iff] at this
  exact this.2.1.2
 have f1:=ff ha
 have f2:=ff ho
 have e3:x.setup[ka.fam.toNat]? =some (x.setup[ka.fam.toNat]'(by omega)):=by simp
 have hrow:=hres.1 _ (List.mem_of_getElem? e3)
 have e4:(x.setup[ka.fam.toNat]'(by omega))[ko.fam.toNat]? =some ((x.setup[ka.fam.toNat]'(by omega))[ko.fam.toNat]'(by omega)):=by simp
 refine⟨x,ρ,ka.fam.toNat,ko.fam.toNat,_,_,e1,e2,by omega,by omega,e3,e4,hrow.2 _ (List.mem_of_getElem? e4),?_⟩
 subst e e' e1
 simp [Kq,yK,bg,List.getD_eq_getElem?_getD,e2,ha,ho,e3,e4]
theorem Mf (p:Proj) (b:Dom) (r:Int) (hp:p.fine) (hu:usable p b=true) (hm:iD p r=true):Con 257 [.d p.av,.d b.av,.d (i64 r)] (.d (.bool true)):=by
 refine con Tryz.func257 rfl rfl Tryz.call257 rfl fun hwf=>?_
 (repeat' ((conv=>whnf);first|refine gA ?_|(refine gB ?_ ?_<;>intro h)|refine gC (jB p b hp) ?_|refine gC (lQ p r) ?_|intro _))<;>try (conv=>whnf)
 all_goals (refine⟨?_,rfl,trivial⟩;simp [*])
theorem Fy (p:Proj) (b:Dom) (r a o:Int) (hp:p.fine) (hu:usable p b=true) (hm:iD p r=true) (ha:bG p a=true) (ho:bG p o=true) (hne:a≠o):
  Con 229 [.d p.av,.d b.av,.d (i64 r),.d (i64 a),.d (i64 o)] (.d (.bool true)):=by
 refine con Tryz.func229 rfl rfl Tryz.call229 rfl fun hwf=>?_
 (repeat' ((conv=>whnf);first|refine gA ?_|(refine gB ?_ ?_<;>intro h)|refine gC (Mf p b r hp hu hm) ?_|refine gC (gG p _) ?_|intro _))<;>try (conv=>whnf)
 all_goals (refine⟨?_,rfl,trivial⟩;simp [*])
theorem tF (p:Proj) (b:Dom) (r n:Int) {k:Nat} {a:aF} {x y:Int} {m:List Int} (hg:gL p b k a x y m) (hn:n=k) (hp:p.fine) (hu:usable p b=true) (hr:fQ p r=true) (ha:bG p n=true):
  Con 230 [.d p.av,.d b.av,.d (i64 r),.d (i64 n)] (.d (i64 (iW a m r))):=by
 refine con Tryz.func230 rfl rfl Tryz.call230 rfl fun hwf=>?_
 (repeat' ((conv=>whnf);first|with_reducible refine Idx.got hg.act hn ?_|with_reducible refine Idx.got hg.modes hn ?_|refine gA ?_|(refine gB ?_ ?_<;>intro h)|(refine gI ?_;intro x hx)|(refine gJ ?_;intro j x hj hx)|refine gC (jB p b hp) ?_|refine gC (gH p _) ?_|refine gC (gG p _) ?_|refine gC (Ct a m r) ?_|intro _))<;>try (conv=>whnf)
 exact⟨rfl,rfl,trivial⟩
theorem xS {p:Proj} {r:Int} (h:iD p r=true):fQ p r=true:=by
 simp only [iD,Bool.and_eq_true] at h;exact h.1
theorem Rt (p:Proj) (b:Dom) (r a o:Int) {k k':Nat} {ka ko:aF} {x y x' y':Int} {m m':List Int} (hg:gL p b k ka x y m) (hn:a=k) (hg':gL p b k' ko x' y' m') (hn':o=k') (hp:p.fine) (hu:usable p b=true)
  (hm:iD p r=true) (ha:bG p a=true) (ho:bG p o=true) (hne:a≠o):
  Con 193 [.d p.av,.d b.av,.d (i64 r),.d (i64 a),.d (i64 o)] (.d (.bool (decide (iW ka m r > 0)&&decide (iW ko m' r > 0)))):=by
 refine con Tryz.func193 rfl rfl Tryz.call193 rfl fun hwf=>?_
 (repeat' ((conv=>whnf);first|refine gA ?_|(refine gB ?_ ?_<;>intro h)|refine gC (Fy p b r a o hp hu hm ha ho hne) ?_|refine gC (tF p b r a hg hn hp hu (xS hm) ha) ?_|refine gC (tF p b r o hg' hn' hp hu (xS hm) ho) ?_|intro _))<;>try (conv=>whnf)
 all_goals (refine⟨?_,rfl,trivial⟩;simp [*])
theorem tH (p:Proj) (r a o:Int) {k k':Nat} {ka ko:aF} {x:dN} {ρ i j:Nat} {row:List Int} {v:Int} (ha:p.acts[k]? =some ka) (e:a=k) (ho:p.acts[k']? =some ko) (e':o=k') (hp:p.fine) (hok:aG p=true)
  (hm:iD p r=true) (ha':bG p a=true) (ho':bG p o=true) (hM:Rs p r a o ka ko x ρ i j row v):Con 258 [.d p.av,.d (i64 r),.d (i64 a),.d (i64 o)] (.d (i64 v)):=by
 refine con Tryz.func258 rfl rfl Tryz.call258 rfl fun hwf=>?_
 (repeat' ((conv=>whnf);first|with_reducible refine Idx.got hM.res hM.rρ ?_|with_reducible refine Idx.got ha e ?_|with_reducible refine Idx.got ho e' ?_|with_reducible refine Idx.got hM.aeY hM.fi ?_|with_reducible refine Idx.got hM.aeZ hM.fj ?_|refine gA ?_|(refine gB ?_ ?_<;>intro h)|(refine gI ?_;intro x hx)|(refine gJ ?_;intro j x hj hx)|refine gC (lQ p r) ?_|refine gC (bE p hp) ?_|refine gC (gG p _) ?_|intro _))<;>try (conv=>whnf)
 exact⟨rfl,rfl,trivial⟩
theorem Wj (p:Proj) (b:Dom) (r a o:Int) {k k':Nat} {ka ko:aF} {x y:Int} {m:List Int} {re:dN} {ρ i j:Nat} {row:List Int} {v:Int} (hg:gL p b k ka x y m) (e:a=k) (ho:p.acts[k']? =some ko) (e':o=k') (hp:p.fine) (hok:aG p=true)
  (hm:iD p r=true) (ha':bG p a=true) (ho':bG p o=true) (hM:Rs p r a o ka ko re ρ i j row v):Con 231 [.d p.av,.d b.av,.d (i64 r),.d (i64 a),.d (i64 o)] (.d (i64 (nI p b r a o))):=by
 refine con Tryz.func231 rfl rfl Tryz.call231 rfl fun hwf=>?_
 have hd:=rP hg.aok m
 rw [← zV hg] at hd
 have h1:=hg.lob
 have h2:=hM.vb
 have eq:nI p b r a o=x+ng p b k+v:=by
  rw [nI,hM.eq];subst e;simp [List.getD_eq_getElem?_getD,hg.lo]
 rw [eq]
 (repeat' ((conv=>whnf);first|with_reducible refine Idx.got hg.lo e ?_|refine gA ?_|(refine gB ?_ ?_<;>intro h)|(refine gI ?_;intro x hx)|(refine gJ ?_;intro j x hj hx)|refine gV ?_|refine gC (qp p b a hg e) ?_|refine gC (tH p r a o hg.act e ho e' hp hok hm ha' ho' hM) ?_|intro _))<;>try (conv=>whnf)
 exact⟨rfl,rfl,trivial⟩
theorem yO (p:Proj) (b:Dom) (r a o:Int) {k k':Nat} {ka ko:aF} {x y x' y':Int} {m m':List Int} (hg:gL p b k ka x y m) (hn:a=k) (hg':gL p b k' ko x' y' m') (hn':o=k') (hp:p.fine) (hu:usable p b=true)
  (hm:iD p r=true) (ha:bG p a=true) (ho:bG p o=true) (hne:a≠o):
  Con 194 [.d p.av,.d b.av,.d (i64 r),.d (i64 a),.d (i64 o)] (.d (.bool (decide (nI p b r a o≤y')))):=by
 refine con Tryz.func194 rfl rfl Tryz.call194 rfl fun hwf=>?_
 have hok:=(dA (Ji hu)).1
 obtain⟨re,ρ,i,j,row,v,hM⟩:=Me hok hm hg.act hg'.act hn hn'
 (repeat' ((conv=>whnf);first|with_reducible refine Idx.got hg'.hi hn' ?_|refine gA ?_|(refine gB ?_ ?_<;>intro h)|(refine gI ?_;intro x hx)|(refine gJ ?_;intro j x hj hx)|refine gC (Fy p b r a o hp hu hm ha ho hne) ?_|refine gC (Wj p b r a o hg hn hg'.act hn' hp hok hm ha ho hM) ?_|intro _))<;>try (conv=>whnf)
 all_goals (refine⟨?_,rfl,trivial⟩;simp [*])
theorem acJ {p:Proj} {b:Dom} {r a o:Int} {k k':Nat} {ka ko:aF} {x y x' y':Int} {m m':List Int} (hg:gL p b k ka x y m) (hn:a=k) (hg':gL p b k' ko x' y' m') (hn':o=k'):
  jam p b r a o=(decide (iW ka m r > 0)&&decide (iW ko m' r > 0)&&decide (nI p b r a o > y')&&decide (nI p b r o a > y)):=by
 subst hn hn'
 simp [jam,bg,List.getD_eq_getElem?_getD,hg.act,hg.modes,hg'.act,hg'.modes,hg.hi,hg'.hi]
theorem FB (p:Proj) (b:Dom) (r a o:Int) {k k':Nat} {ka ko:aF} {x y x' y':Int} {m m':List Int} (hg:gL p b k ka x y m) (hn:a=k) (hg':gL p b k' ko x' y' m') (hn':o=k') (hp:p.fine) (hu:usable p b=true)
  (hm:iD p r=true) (ha:bG p a=true) (ho:bG p o=true) (hne:a≠o):
  Con 139 [.d p.av,.d b.av,.d (i64 r),.d (i64 a),.d (i64 o)] (.d (.bool (jam p b r a o))):=by
 refine con Tryz.func139 rfl rfl Tryz.call139 rfl fun hwf=>?_
 rw [acJ hg hn hg' hn']
 (repeat' ((conv=>whnf);first|refine gA ?_|(refine gB ?_ ?_<;>intro h)|refine gC (Rt p b r a o hg hn hg' hn' hp hu hm ha ho hne) ?_|refine gC (yO p b r a o hg hn hg' hn' hp hu hm ha ho hne) ?_|refine gC (yO p b r o a hg' hn' hg hn hp hu hm ho ha (Ne.symm hne)) ?_|intro _))<;>try (conv=>whnf)
 ·refine⟨?_,rfl,trivial⟩
  rw [show (decide (iW ka m r > 0)&&decide (iW ko m' r > 0))=true by assumption]
  simp only [AV.bool.injEq];rw [Bool.eq_iff_iff];simp;omega
 ·refine⟨?_,rfl,trivial⟩
  rw [show (decide (iW ka m r > 0)&&decide (iW ko m' r > 0))=true by assumption]
  simp only [AV.bool.injEq];rw [Bool.eq_iff_iff];simp;omega
 ·refine⟨?_,rfl,trivial⟩
  rw [h];rfl
theorem Mg {p:Proj} {b:Dom} {k:Nat} {a:aF} {x y:Int} {m:List Int} (h:gL p b k a x y m) (r:Int):LC p b r k=xI a m r:=by
 simp [LC,bg,List.getD_eq_getElem?_getD,h.act,h.modes]
theorem Jj {p:Proj} {b:Dom} (hf:ak p b=true) (r:Int) {k:Nat} (hk:k < p.acts.length):0≤LC p b r k∧LC p b r k≤20:=by
 obtain⟨a,lo,hi,m,h⟩:=dL hf hk
 rw [Mg h];exact Ro h.aok _ _
theorem Yn {p:Proj} {r:Int} (h:jR p r=true):∃(ρ:Nat) (x:Int),r=ρ∧p.aX[ρ]? =some x:=by
 have hn:=within_iff.1 h
 exact⟨r.toNat,p.aX[r.toNat]'(by omega),by omega,by simp⟩
theorem FC (p:Proj) (b:Dom) (r:Int) (hf:ak p b=true) (hs:jR p r=true):Con 140 [.d p.av,.d b.av,.d (i64 r)] (.d (.bool (sV p b r))):=by
 refine con Tryz.func140 rfl rfl Tryz.call140 rfl fun hwf=>?_
 simp only [ARs.wf,AR.wf,AV.wf,AV.wfs,lm,lim] at hwf
 obtain⟨ρ,c,e1,e2⟩:=Yn hs
 (repeat' ((conv=>whnf);first|refine gA ?_|(refine gB ?_ ?_<;>intro h)|(refine gI ?_;intro x hx)|(refine gJ ?_;intro j x hj hx)|refine gV ?_|intro _))<;>try (conv=>whnf)
 refine aB [2,3,4,11,12] [3,4] [] ?_
 (conv=>whnf)
 refine aA.go ((Nat)×(Int)) (fun⟨k,s⟩=>(k≤p.acts.length)∧(s=sumTo (LC p b r) k)) (fun⟨k,s⟩=>[(13,.data (i64 k)),(7,.data (i64 s))]) (fun _=>[]) (fun _=>[]) (fun⟨k,s⟩=>p.acts.length - k) ⟨0,0⟩ ?_ ?_
 ·exact⟨by omega,rfl⟩
 rintro⟨k,s⟩ ⟨hk,hs⟩
 by_cases hlt:k < p.acts.length
 ·obtain⟨a,lo,hi,m,hg⟩:=dL hf hlt
  have hb:=qK (f:=LC p b r) (c:=20) (n:=k) fun i hi=>Jj hf r (by omega)
  have hw:=Jj hf r hlt
  rw [Mg hg] at hw
  (repeat' ((conv=>whnf);first|with_reducible refine Idx.got hg.act rfl ?_|with_reducible refine Idx.got hg.modes rfl ?_|refine gA ?_|(refine gB ?_ ?_<;>intro h)|(refine gI ?_;intro x hx)|(refine gJ ?_;intro j x hj hx)|refine gV ?_|refine gC (Bl a m r) ?_|intro _))<;>try (conv=>whnf)
  ·refine nx ⟨k+1,s+xI a m r⟩ ?_
   exact⟨by omega,by rw [sumTo,hs,Mg hg]⟩
  ·exfalso;omega
 ·(repeat' ((conv=>whnf);first|(exfalso;omega)|with_reducible refine Idx.got e2 e1 ?_|refine gA ?_|(refine gB ?_ ?_<;>intro h)|(refine gI ?_;intro x hx)|(refine gJ ?_;intro j x hj hx)|refine gV ?_|intro _))<;>try (conv=>whnf)
  refine⟨?_,rfl,trivial⟩
  rw [sV,hs,show k=p.acts.length by omega];subst e1;simp [List.getD_eq_getElem?_getD,e2]
theorem Hz (p:Proj) (b:Dom) (l:Link) (hf:ak p b=true) (hl:kV p l=true):Con 134 [.d p.av,.d b.av,.d l.av] (.d (.bool (wu p b l))):=by
 refine con Tryz.func134 rfl rfl Tryz.call134 rfl fun hwf=>?_
 simp only [kV,Bool.and_eq_true] at hl
 obtain⟨k,_,e1,e2⟩:=lN hl.1.1.1
 obtain⟨k',_,e1',e2'⟩:=lN hl.1.1.2
 have afa:=within_iff.1 hl.2
 obtain⟨a,x,y,m,hg⟩:=dL hf (List.getElem?_eq_some_iff.1 e2).1
 obtain⟨a',x',y',m',hg'⟩:=dL hf (List.getElem?_eq_some_iff.1 e2').1
 have hd:=rP hg.aok m
 rw [← zV hg] at hd
 have h1:=hg.lob
 (repeat' ((conv=>whnf);first|with_reducible refine Idx.got hg.lo e1 ?_|with_reducible refine Idx.got hg'.hi e1' ?_|refine gA ?_|(refine gB ?_ ?_<;>intro h)|(refine gI ?_;intro x hx)|(refine gJ ?_;intro j x hj hx)|refine gV ?_|refine gC (qp p b _ hg e1) ?_|intro _))<;>try (conv=>whnf)
 all_goals (refine⟨?_,rfl,trivial⟩;simp [wu,e1,e1',List.getD_eq_getElem?_getD,hg.lo,hg'.hi, *];done)
end Go.Proofs.YtgkfifiobmklcaaGreat.Abs
