/- Contracts: refutations by rules. -/
import Derived.Test.YtefgamefajmdkaaGreatC9
set_option linter.all false
set_option maxRecDepth 20000
set_option maxHeartbeats 0
namespace Go.Proofs.YtefgamefajmdkaaGreat.Abs
open Go.Proofs
def usable (p:Proj) (b:Dom):Bool:=aC p b&& !bF b
theorem tL (p:Proj) (b:Dom) (hp:p.fine):Con 206 [.d p.av,.d b.av] (.d (.bool (usable p b))):=by
 refine con Tryz.func206 rfl rfl Tryz.call206 rfl fun hwf=>?_
 (repeat' ((conv=>whnf);first|refine gA ?_|(refine gB ?_ ?_<;>intro h)|refine gC (bU p b hp) ?_|refine gC (bJ b) ?_|intro _))<;>try (conv=>whnf)
 all_goals refine⟨?_,rfl,trivial⟩
 all_goals simp [usable, *]
theorem FY {p:Proj} {b:Dom} (h:usable p b=true):aC p b=true:=by
 simp only [usable,Bool.and_eq_true] at h;exact h.1
theorem uF {p:Proj} {r:Int} (h:dP p r=true):∃(ρ:Nat) (x:eY),r=ρ∧p.bg[ρ]? =some x∧uw p r=x:=by
 obtain⟨n,x,h1,h2⟩:=vH h
 exact⟨n,x,h1,h2,by subst h1;simp [uw,List.getD_eq_getElem?_getD,h2]⟩
theorem DC (p:Proj) (b:Dom) (r x y:Int) (hp:p.fine) (hu:usable p b=true) (hr:dP p r=true) (hx:bn x=true) (hy:bn y=true) (hxy:x < y):
  Con 195 [.d p.av,.d b.av,.d (i64 r),.d (i64 x),.d (i64 y)] (.d (.bool (decide (nR p b r x y > lY (uw p r).steps x y)))):=by
 refine con Tryz.func195 rfl rfl Tryz.call195 rfl fun hwf=>?_
 obtain⟨ρ,re,e1,e2,e3⟩:=uF hr
 rw [e3]
 (repeat' ((conv=>whnf);first|with_reducible refine Idx.got e2 e1 ?_|refine gA ?_|(refine gN ?_ ?_<;>intro h hw)|(refine gB ?_ ?_<;>intro h)|(refine gI ?_;intro x hx)|(refine gJ ?_;intro j x hj hx)|refine gC (tL p b hp) ?_|refine gC (jH p _) ?_|refine gC (mM _) ?_|refine gC (JF p b r x y (FY hu) hr) ?_|refine gC (AY re.steps x y) ?_|intro _))<;>try (conv=>whnf)
 all_goals first
  |(exfalso;omega)
  |exact⟨rfl,rfl,trivial⟩
theorem Oe (p:Proj) (b:Dom) (r x y:Int) (hf:aC p b=true) (hr:dP p r=true):
  Con 220 [.d p.av,.d b.av,.d (i64 r),.d (i64 x),.d (i64 y)] (.d (.bool (decide (nR p b r x y > lY (uw p r).steps x y)))):=by
 refine con Tryz.func220 rfl rfl Tryz.call220 rfl fun hwf=>?_
 simp only [ARs.wf,AR.wf,AV.wf,AV.wfs,lm,lim] at hwf
 obtain⟨ρ,re,e1,e2,e3⟩:=uF hr
 rw [e3]
 (repeat' ((conv=>whnf);first|refine gA ?_|(refine gB ?_ ?_<;>intro h)|(refine gI ?_;intro x hx)|(refine gJ ?_;intro j x hj hx)|refine gV ?_|intro _))<;>try (conv=>whnf)
 refine aB [2,3,4,5,6,15] [5,6] [] ?_
 (conv=>whnf)
 refine aA.go ((Nat)×(Int)) (fun⟨k,s⟩=>(k≤p.acts.length)∧(s=sumTo (lS p b r x y) k)) (fun⟨k,s⟩=>[(16,.data (i64 k)),(11,.data (i64 s))]) (fun _=>[]) (fun _=>[]) (fun⟨k,s⟩=>p.acts.length - k) ⟨0,0⟩ ?_ ?_
 ·exact⟨by omega,rfl⟩
 rintro⟨k,s⟩ ⟨hk,hs⟩
 by_cases hlt:k < p.acts.length
 ·obtain⟨a,lo,hi,m,hg⟩:=eu hf hlt
  have hb:=kR (f:=lS p b r x y) (c:=4000000) (n:=k) fun i hi=>qh hf hr x y (by omega)
  have hw:=qh hf hr x y hlt
  (repeat' ((conv=>whnf);first|refine gA ?_|(refine gB ?_ ?_<;>intro h)|(refine gI ?_;intro x hx)|(refine gJ ?_;intro j x hj hx)|refine gV ?_|refine gC (Od p b _ r x y hg rfl hr) ?_|intro _))<;>try (conv=>whnf)
  ·refine nx ⟨k+1,s+lS p b r x y k⟩ ?_
   exact⟨by omega,by rw [sumTo,hs]⟩
  ·exfalso;omega
 ·(repeat' ((conv=>whnf);first|(exfalso;omega)|with_reducible refine Idx.got e2 e1 ?_|refine gA ?_|(refine gB ?_ ?_<;>intro h)|(refine gI ?_;intro x hx)|(refine gJ ?_;intro j x hj hx)|refine gV ?_|refine gC (AZ re.steps x y) ?_|intro _))<;>try (conv=>whnf)
  refine⟨?_,rfl,trivial⟩
  rw [hs,show k=p.acts.length by omega];rfl
structure Ic (p:Proj) (r a o:Int) (ka ko:aG) (x:eY) (ρ i j:Nat) (row:List Int) (v:Int):Prop where
 rρ:r=ρ
 res:p.bg[ρ]? =some x
 fi:ka.fam=i
 fj:ko.fam=j
 aaj:x.setup[i]? =some row
 aak:row[j]? =some v
 vb:0≤v∧v≤12
 eq:HY p r a o=v
theorem xU {p:Proj} {r a o:Int} {k k':Nat} {ka ko:aG} (hok:aF p=true) (hm:eT p r=true) (ha:p.acts[k]? =some ka) (ho:p.acts[k']? =some ko) (e:a=k) (e':o=k'):
  ∃x ρ i j row v,Ic p r a o ka ko x ρ i j row v:=by
 simp only [eT,Bool.and_eq_true,decide_eq_true_eq] at hm
 obtain⟨ρ,x,e1,e2⟩:=vH hm.1
 have pf:=dX hok
 have hres:=pf.res ρ x e2
 have hlen:(p.bg.getD r.toNat ⟨[],[]⟩)=x:=by subst e1;simp [List.getD_eq_getElem?_getD,e2]
 rw [hlen] at hm
 simp only [kF,Bool.and_eq_true,Bool.or_eq_true,decide_eq_true_eq,List.all_eq_true,rowOk,within_iff] at hres
 have h4:x.setup.length=4:=by omega
 have ff:∀{n:Nat} {q:aG},p.acts[n]? =some q→0≤q.fam∧q.fam≤3:=fun {n q} hq=>by
  have:=pf.act n q hq
  simp only [bC,Bool.and_eq_true,within_iff] at this
  exact this.2.1.2
 have f1:=ff ha
 have f2:=ff ho
 have e3:x.setup[ka.fam.toNat]? =some (x.setup[ka.fam.toNat]'(by omega)):=by simp
 have hrow:=hres.1 _ (List.mem_of_getElem? e3)
 have e4:(x.setup[ka.fam.toNat]'(by omega))[ko.fam.toNat]? =some ((x.setup[ka.fam.toNat]'(by omega))[ko.fam.toNat]'(by omega)):=by simp
 refine⟨x,ρ,ka.fam.toNat,ko.fam.toNat,_,_,e1,e2,by omega,by omega,e3,e4,hrow.2 _ (List.mem_of_getElem? e4),?_⟩
 subst e e' e1
 simp [HY,uw,aY,List.getD_eq_getElem?_getD,e2,ha,ho,e3,e4]
theorem JG (p:Proj) (b:Dom) (r:Int) (hp:p.fine) (hu:usable p b=true) (hm:eT p r=true):Con 300 [.d p.av,.d b.av,.d (i64 r)] (.d (.bool true)):=by
 refine con Tryz.func300 rfl rfl Tryz.call300 rfl fun hwf=>?_
 (repeat' ((conv=>whnf);first|refine gA ?_|(refine gB ?_ ?_<;>intro h)|refine gC (tL p b hp) ?_|refine gC (kP p r) ?_|intro _))<;>try (conv=>whnf)
 all_goals (refine⟨?_,rfl,trivial⟩;simp [*])
theorem DF (p:Proj) (b:Dom) (r a o:Int) (hp:p.fine) (hu:usable p b=true) (hm:eT p r=true) (ha:aZ p a=true) (ho:aZ p o=true) (hne:a≠o):
  Con 272 [.d p.av,.d b.av,.d (i64 r),.d (i64 a),.d (i64 o)] (.d (.bool true)):=by
 refine con Tryz.func272 rfl rfl Tryz.call272 rfl fun hwf=>?_
 (repeat' ((conv=>whnf);first|refine gA ?_|(refine gB ?_ ?_<;>intro h)|refine gC (JG p b r hp hu hm) ?_|refine gC (fI p _) ?_|intro _))<;>try (conv=>whnf)
 all_goals (refine⟨?_,rfl,trivial⟩;simp [*])
theorem rz (p:Proj) (b:Dom) (r n:Int) {k:Nat} {a:aG} {x y:Int} {m:List Int} (hg:dQ p b k a x y m) (hn:n=k) (hp:p.fine) (hu:usable p b=true) (hr:dP p r=true) (ha:aZ p n=true):
  Con 273 [.d p.av,.d b.av,.d (i64 r),.d (i64 n)] (.d (i64 (fU a m r))):=by
 refine con Tryz.func273 rfl rfl Tryz.call273 rfl fun hwf=>?_
 (repeat' ((conv=>whnf);first|with_reducible refine Idx.got hg.act hn ?_|with_reducible refine Idx.got hg.modes hn ?_|refine gA ?_|(refine gB ?_ ?_<;>intro h)|(refine gI ?_;intro x hx)|(refine gJ ?_;intro j x hj hx)|refine gC (tL p b hp) ?_|refine gC (jH p _) ?_|refine gC (fI p _) ?_|refine gC (zS a m r) ?_|intro _))<;>try (conv=>whnf)
 exact⟨rfl,rfl,trivial⟩
theorem vM {p:Proj} {r:Int} (h:eT p r=true):dP p r=true:=by
 simp only [eT,Bool.and_eq_true] at h;exact h.1
theorem Og (p:Proj) (b:Dom) (r a o:Int) {k k':Nat} {ka ko:aG} {x y x' y':Int} {m m':List Int} (hg:dQ p b k ka x y m) (hn:a=k) (hg':dQ p b k' ko x' y' m') (hn':o=k') (hp:p.fine) (hu:usable p b=true)
  (hm:eT p r=true) (ha:aZ p a=true) (ho:aZ p o=true) (hne:a≠o):
  Con 242 [.d p.av,.d b.av,.d (i64 r),.d (i64 a),.d (i64 o)] (.d (.bool (decide (fU ka m r > 0)&&decide (fU ko m' r > 0)))):=by
 refine con Tryz.func242 rfl rfl Tryz.call242 rfl fun hwf=>?_
 (repeat' ((conv=>whnf);first|refine gA ?_|(refine gB ?_ ?_<;>intro h)|refine gC (DF p b r a o hp hu hm ha ho hne) ?_|refine gC (rz p b r a hg hn hp hu (vM hm) ha) ?_|refine gC (rz p b r o hg' hn' hp hu (vM hm) ho) ?_|intro _))<;>try (conv=>whnf)
 all_goals (refine⟨?_,rfl,trivial⟩;simp [*])
theorem rA (p:Proj) (r a o:Int) {k k':Nat} {ka ko:aG} {x:eY} {ρ i j:Nat} {row:List Int} {v:Int} (ha:p.acts[k]? =some ka) (e:a=k) (ho:p.acts[k']? =some ko) (e':o=k') (hp:p.fine) (hok:aF p=true)
  (hm:eT p r=true) (ha':aZ p a=true) (ho':aZ p o=true) (hM:Ic p r a o ka ko x ρ i j row v):Con 266 [.d p.av,.d (i64 r),.d (i64 a),.d (i64 o)] (.d (i64 v)):=by
 refine con Tryz.func266 rfl rfl Tryz.call266 rfl fun hwf=>?_
 (repeat' ((conv=>whnf);first|with_reducible refine Idx.got hM.res hM.rρ ?_|with_reducible refine Idx.got ha e ?_|with_reducible refine Idx.got ho e' ?_|with_reducible refine Idx.got hM.aaj hM.fi ?_|with_reducible refine Idx.got hM.aak hM.fj ?_|refine gA ?_|(refine gB ?_ ?_<;>intro h)|(refine gI ?_;intro x hx)|(refine gJ ?_;intro j x hj hx)|refine gC (kP p r) ?_|refine gC (cO p hp) ?_|refine gC (fI p _) ?_|intro _))<;>try (conv=>whnf)
 exact⟨rfl,rfl,trivial⟩
theorem Sr (p:Proj) (b:Dom) (r a o:Int) {k k':Nat} {ka ko:aG} {x y:Int} {m:List Int} {re:eY} {ρ i j:Nat} {row:List Int} {v:Int} (hg:dQ p b k ka x y m) (e:a=k) (ho:p.acts[k']? =some ko) (e':o=k') (hp:p.fine) (hok:aF p=true)
  (hm:eT p r=true) (ha':aZ p a=true) (ho':aZ p o=true) (hM:Ic p r a o ka ko re ρ i j row v):Con 274 [.d p.av,.d b.av,.d (i64 r),.d (i64 a),.d (i64 o)] (.d (i64 (jL p b r a o))):=by
 refine con Tryz.func274 rfl rfl Tryz.call274 rfl fun hwf=>?_
 have hd:=jd hg.aok m
 rw [← mh hg] at hd
 have h1:=hg.lob
 have h2:=hM.vb
 have eq:jL p b r a o=x+kH p b k+v:=by
  rw [jL,hM.eq];subst e;simp [List.getD_eq_getElem?_getD,hg.lo]
 rw [eq]
 (repeat' ((conv=>whnf);first|with_reducible refine Idx.got hg.lo e ?_|refine gA ?_|(refine gB ?_ ?_<;>intro h)|(refine gI ?_;intro x hx)|(refine gJ ?_;intro j x hj hx)|refine gV ?_|refine gC (oz p b a hg e) ?_|refine gC (rA p r a o hg.act e ho e' hp hok hm ha' ho' hM) ?_|intro _))<;>try (conv=>whnf)
 exact⟨rfl,rfl,trivial⟩
theorem wG (p:Proj) (b:Dom) (r a o:Int) {k k':Nat} {ka ko:aG} {x y x' y':Int} {m m':List Int} (hg:dQ p b k ka x y m) (hn:a=k) (hg':dQ p b k' ko x' y' m') (hn':o=k') (hp:p.fine) (hu:usable p b=true)
  (hm:eT p r=true) (ha:aZ p a=true) (ho:aZ p o=true) (hne:a≠o):
  Con 243 [.d p.av,.d b.av,.d (i64 r),.d (i64 a),.d (i64 o)] (.d (.bool (decide (jL p b r a o≤y')))):=by
 refine con Tryz.func243 rfl rfl Tryz.call243 rfl fun hwf=>?_
 have hok:=(bq (FY hu)).1
 obtain⟨re,ρ,i,j,row,v,hM⟩:=xU hok hm hg.act hg'.act hn hn'
 (repeat' ((conv=>whnf);first|with_reducible refine Idx.got hg'.hi hn' ?_|refine gA ?_|(refine gB ?_ ?_<;>intro h)|(refine gI ?_;intro x hx)|(refine gJ ?_;intro j x hj hx)|refine gC (DF p b r a o hp hu hm ha ho hne) ?_|refine gC (Sr p b r a o hg hn hg'.act hn' hp hok hm ha ho hM) ?_|intro _))<;>try (conv=>whnf)
 all_goals (refine⟨?_,rfl,trivial⟩;simp [*])
theorem Wz {p:Proj} {b:Dom} {r a o:Int} {k k':Nat} {ka ko:aG} {x y x' y':Int} {m m':List Int} (hg:dQ p b k ka x y m) (hn:a=k) (hg':dQ p b k' ko x' y' m') (hn':o=k'):
  jam p b r a o=(decide (fU ka m r > 0)&&decide (fU ko m' r > 0)&&decide (jL p b r a o > y')&&decide (jL p b r o a > y)):=by
 subst hn hn'
 simp [jam,aY,List.getD_eq_getElem?_getD,hg.act,hg.modes,hg'.act,hg'.modes,hg.hi,hg'.hi]
theorem DI (p:Proj) (b:Dom) (r a o:Int) {k k':Nat} {ka ko:aG} {x y x' y':Int} {m m':List Int} (hg:dQ p b k ka x y m) (hn:a=k) (hg':dQ p b k' ko x' y' m') (hn':o=k') (hp:p.fine) (hu:usable p b=true)
  (hm:eT p r=true) (ha:aZ p a=true) (ho:aZ p o=true) (hne:a≠o):
  Con 196 [.d p.av,.d b.av,.d (i64 r),.d (i64 a),.d (i64 o)] (.d (.bool (jam p b r a o))):=by
 refine con Tryz.func196 rfl rfl Tryz.call196 rfl fun hwf=>?_
 rw [Wz hg hn hg' hn']
 (repeat' ((conv=>whnf);first|refine gA ?_|(refine gB ?_ ?_<;>intro h)|refine gC (Og p b r a o hg hn hg' hn' hp hu hm ha ho hne) ?_|refine gC (wG p b r a o hg hn hg' hn' hp hu hm ha ho hne) ?_|refine gC (wG p b r o a hg' hn' hg hn hp hu hm ho ha (Ne.symm hne)) ?_|intro _))<;>try (conv=>whnf)
 ·refine⟨?_,rfl,trivial⟩
  rw [show (decide (fU ka m r > 0)&&decide (fU ko m' r > 0))=true by assumption]
  simp only [AV.bool.injEq];rw [Bool.eq_iff_iff];simp;omega
 ·refine⟨?_,rfl,trivial⟩
  rw [show (decide (fU ka m r > 0)&&decide (fU ko m' r > 0))=true by assumption]
  simp only [AV.bool.injEq];rw [Bool.eq_iff_iff];simp;omega
 ·refine⟨?_,rfl,trivial⟩
  rw [h];rfl
theorem zW (p:Proj) (b:Dom) (r a o:Int) {k k':Nat} {ka ko:aG} {x y:Int} {m:List Int} {re:eY} {ρ i j:Nat} {row:List Int} {v:Int} (hg:dQ p b k ka x y m) (e:a=k) (ho:p.acts[k']? =some ko) (e':o=k') (hM:Ic p r a o ka ko re ρ i j row v):
  Con 260 [.d p.av,.d b.av,.d (i64 r),.d (i64 a),.d (i64 o)] (.d (i64 (jL p b r a o))):=by
 refine con Tryz.func260 rfl rfl Tryz.call260 rfl fun hwf=>?_
 have hd:=jd hg.aok m
 rw [← mh hg] at hd
 have h1:=hg.lob
 have h2:=hM.vb
 have eq:jL p b r a o=x+kH p b k+v:=by
  rw [jL,hM.eq];subst e;simp [List.getD_eq_getElem?_getD,hg.lo]
 rw [eq]
 (repeat' ((conv=>whnf);first|with_reducible refine Idx.got hg.lo e ?_|with_reducible refine Idx.got hM.res hM.rρ ?_|with_reducible refine Idx.got hg.act e ?_|with_reducible refine Idx.got ho e' ?_|with_reducible refine Idx.got hM.aaj hM.fi ?_|with_reducible refine Idx.got hM.aak hM.fj ?_|refine gA ?_|(refine gB ?_ ?_<;>intro h)|(refine gI ?_;intro x hx)|(refine gJ ?_;intro j x hj hx)|refine gV ?_|refine gC (oC p b a hg e) ?_|intro _))<;>try (conv=>whnf)
 exact⟨rfl,rfl,trivial⟩
theorem QE (p:Proj) (b:Dom) (r a o:Int) {k k':Nat} {ka ko:aG} {x y x' y':Int} {m m':List Int} (hg:dQ p b k ka x y m) (hn:a=k) (hg':dQ p b k' ko x' y' m') (hn':o=k') (hok:aF p=true) (hm:eT p r=true):
  Con 221 [.d p.av,.d b.av,.d (i64 r),.d (i64 a),.d (i64 o)] (.d (.bool (jam p b r a o))):=by
 refine con Tryz.func221 rfl rfl Tryz.call221 rfl fun hwf=>?_
 rw [Wz hg hn hg' hn']
 obtain⟨re,ρ,i,j,row,v,hM⟩:=xU hok hm hg.act hg'.act hn hn'
 obtain⟨re',ρ',i',j',row',v',hM'⟩:=xU hok hm hg'.act hg.act hn' hn
 (repeat' ((conv=>whnf);first|with_reducible refine Idx.got hg'.hi hn' ?_|with_reducible refine Idx.got hg.hi hn ?_|refine gA ?_|(refine gB ?_ ?_<;>intro h)|(refine gI ?_;intro x hx)|(refine gJ ?_;intro j x hj hx)|refine gC (vK p b r a hg hn) ?_|refine gC (vK p b r o hg' hn') ?_|refine gC (zW p b r a o hg hn hg'.act hn' hM) ?_|refine gC (zW p b r o a hg' hn' hg.act hn hM') ?_|intro _))<;>try (conv=>whnf)
 all_goals (refine⟨?_,rfl,trivial⟩;simp only [AV.bool.injEq];rw [Bool.eq_iff_iff];simp;omega)
theorem xV {p:Proj} {b:Dom} {k:Nat} {a:aG} {x y:Int} {m:List Int} (h:dQ p b k a x y m) (r:Int):CZ p b r k=qQ a m r:=by
 simp [CZ,aY,List.getD_eq_getElem?_getD,h.act,h.modes]
theorem sG {p:Proj} {b:Dom} (hf:aC p b=true) (r:Int) {k:Nat} (hk:k < p.acts.length):0≤CZ p b r k∧CZ p b r k≤20:=by
 obtain⟨a,lo,hi,m,h⟩:=eu hf hk
 rw [xV h];exact NZ h.aok _ _
theorem Mc {p:Proj} {r:Int} (h:iG p r=true):∃(ρ:Nat) (x:Int),r=ρ∧p.aX[ρ]? =some x:=by
 have hn:=within_iff.1 h
 exact⟨r.toNat,p.aX[r.toNat]'(by omega),by omega,by simp⟩
theorem DJ (p:Proj) (b:Dom) (r:Int) (hf:aC p b=true) (hs:iG p r=true):Con 197 [.d p.av,.d b.av,.d (i64 r)] (.d (.bool (mH p b r))):=by
 refine con Tryz.func197 rfl rfl Tryz.call197 rfl fun hwf=>?_
 simp only [ARs.wf,AR.wf,AV.wf,AV.wfs,lm,lim] at hwf
 obtain⟨ρ,c,e1,e2⟩:=Mc hs
 (repeat' ((conv=>whnf);first|refine gA ?_|(refine gB ?_ ?_<;>intro h)|(refine gI ?_;intro x hx)|(refine gJ ?_;intro j x hj hx)|refine gV ?_|intro _))<;>try (conv=>whnf)
 refine aB [2,3,4,11,12] [3,4] [] ?_
 (conv=>whnf)
 refine aA.go ((Nat)×(Int)) (fun⟨k,s⟩=>(k≤p.acts.length)∧(s=sumTo (CZ p b r) k)) (fun⟨k,s⟩=>[(13,.data (i64 k)),(7,.data (i64 s))]) (fun _=>[]) (fun _=>[]) (fun⟨k,s⟩=>p.acts.length - k) ⟨0,0⟩ ?_ ?_
 ·exact⟨by omega,rfl⟩
 rintro⟨k,s⟩ ⟨hk,hs⟩
 by_cases hlt:k < p.acts.length
 ·obtain⟨a,lo,hi,m,hg⟩:=eu hf hlt
  have hb:=kR (f:=CZ p b r) (c:=20) (n:=k) fun i hi=>sG hf r (by omega)
  have hw:=sG hf r hlt
  rw [xV hg] at hw
  (repeat' ((conv=>whnf);first|with_reducible refine Idx.got hg.act rfl ?_|with_reducible refine Idx.got hg.modes rfl ?_|refine gA ?_|(refine gB ?_ ?_<;>intro h)|(refine gI ?_;intro x hx)|(refine gJ ?_;intro j x hj hx)|refine gV ?_|refine gC (zn a m r) ?_|intro _))<;>try (conv=>whnf)
  ·refine nx ⟨k+1,s+qQ a m r⟩ ?_
   exact⟨by omega,by rw [sumTo,hs,xV hg]⟩
  ·exfalso;omega
 ·(repeat' ((conv=>whnf);first|(exfalso;omega)|with_reducible refine Idx.got e2 e1 ?_|refine gA ?_|(refine gB ?_ ?_<;>intro h)|(refine gI ?_;intro x hx)|(refine gJ ?_;intro j x hj hx)|refine gV ?_|intro _))<;>try (conv=>whnf)
  refine⟨?_,rfl,trivial⟩
  rw [mH,hs,show k=p.acts.length by omega];subst e1;simp [List.getD_eq_getElem?_getD,e2]
theorem KJ (p:Proj) (b:Dom) (r:Int) (hf:aC p b=true) (hs:iG p r=true):Con 222 [.d p.av,.d b.av,.d (i64 r)] (.d (.bool (mH p b r))):=by
 refine con Tryz.func222 rfl rfl Tryz.call222 rfl fun hwf=>?_
 simp only [ARs.wf,AR.wf,AV.wf,AV.wfs,lm,lim] at hwf
 obtain⟨ρ,c,e1,e2⟩:=Mc hs
 (repeat' ((conv=>whnf);first|refine gA ?_|(refine gB ?_ ?_<;>intro h)|(refine gI ?_;intro x hx)|(refine gJ ?_;intro j x hj hx)|refine gV ?_|intro _))<;>try (conv=>whnf)
 refine aB [2,3,4,11] [3,4] [] ?_
 (conv=>whnf)
 refine aA.go ((Nat)×(Int)) (fun⟨k,s⟩=>(k≤p.acts.length)∧(s=sumTo (CZ p b r) k)) (fun⟨k,s⟩=>[(12,.data (i64 k)),(7,.data (i64 s))]) (fun _=>[]) (fun _=>[]) (fun⟨k,s⟩=>p.acts.length - k) ⟨0,0⟩ ?_ ?_
 ·exact⟨by omega,rfl⟩
 rintro⟨k,s⟩ ⟨hk,hs⟩
 by_cases hlt:k < p.acts.length
 ·obtain⟨a,lo,hi,m,hg⟩:=eu hf hlt
  have hb:=kR (f:=CZ p b r) (c:=20) (n:=k) fun i hi=>sG hf r (by omega)
  have hw:=sG hf r hlt
  rw [xV hg] at hw
  (repeat' ((conv=>whnf);first|with_reducible refine Idx.got hg.act rfl ?_|with_reducible refine Idx.got hg.modes rfl ?_|refine gA ?_|(refine gB ?_ ?_<;>intro h)|(refine gI ?_;intro x hx)|(refine gJ ?_;intro j x hj hx)|refine gV ?_|refine gC (zo a m r) ?_|intro _))<;>try (conv=>whnf)
  ·refine nx ⟨k+1,s+qQ a m r⟩ ?_
   exact⟨by omega,by rw [sumTo,hs,xV hg]⟩
  ·exfalso;omega
 ·(repeat' ((conv=>whnf);first|(exfalso;omega)|with_reducible refine Idx.got e2 e1 ?_|refine gA ?_|(refine gB ?_ ?_<;>intro h)|(refine gI ?_;intro x hx)|(refine gJ ?_;intro j x hj hx)|refine gV ?_|intro _))<;>try (conv=>whnf)
  refine⟨?_,rfl,trivial⟩
  rw [mH,hs,show k=p.acts.length by omega];subst e1;simp [List.getD_eq_getElem?_getD,e2]
theorem Fa (p:Proj) (b:Dom) (l:Link) (hf:aC p b=true) (hl:jK p l=true):Con 191 [.d p.av,.d b.av,.d l.av] (.d (.bool (nS p b l))):=by
 refine con Tryz.func191 rfl rfl Tryz.call191 rfl fun hwf=>?_
 simp only [jK,Bool.and_eq_true] at hl
 obtain⟨k,_,e1,e2⟩:=jk hl.1.1.1
 obtain⟨k',_,e1',e2'⟩:=jk hl.1.1.2
 have aal:=within_iff.1 hl.2
 obtain⟨a,x,y,m,hg⟩:=eu hf (List.getElem?_eq_some_iff.1 e2).1
 obtain⟨a',x',y',m',hg'⟩:=eu hf (List.getElem?_eq_some_iff.1 e2').1
 have hd:=jd hg.aok m
 rw [← mh hg] at hd
 have h1:=hg.lob
 (repeat' ((conv=>whnf);first|with_reducible refine Idx.got hg.lo e1 ?_|with_reducible refine Idx.got hg'.hi e1' ?_|refine gA ?_|(refine gB ?_ ?_<;>intro h)|(refine gI ?_;intro x hx)|(refine gJ ?_;intro j x hj hx)|refine gV ?_|refine gC (oz p b _ hg e1) ?_|intro _))<;>try (conv=>whnf)
 all_goals (refine⟨?_,rfl,trivial⟩;simp [nS,e1,e1',List.getD_eq_getElem?_getD,hg.lo,hg'.hi, *];done)
end Go.Proofs.YtefgamefajmdkaaGreat.Abs
