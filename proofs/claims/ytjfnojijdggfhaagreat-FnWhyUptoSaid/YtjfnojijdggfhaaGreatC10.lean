/- Contracts: refutations by rules. -/
import Derived.Test.YtjfnojijdggfhaaGreatC9
set_option linter.all false
set_option maxRecDepth 20000
set_option maxHeartbeats 0
namespace Go.Proofs.YtjfnojijdggfhaaGreat.Abs
open Go.Proofs
def usable (p:Proj) (b:Dom):Bool:=ay p b&& !aR b
theorem gL (p:Proj) (b:Dom) (hp:p.fine):Con 63 [.d p.av,.d b.av] (.d (.bool (usable p b))):=by
 refine con Tryz.func63 rfl rfl Tryz.call63 rfl fun hwf=>?_
 (repeat' ((conv=>whnf);first|refine gA ?_|(refine gB ?_ ?_<;>intro h)|refine gC (aQ p b hp) ?_|refine gC (bG b) ?_|intro _))<;>try (conv=>whnf)
 all_goals refine⟨?_,rfl,trivial⟩
 all_goals simp [usable, *]
theorem Fq {p:Proj} {b:Dom} (h:usable p b=true):ay p b=true:=by
 simp only [usable,Bool.and_eq_true] at h;exact h.1
theorem En {p:Proj} {r:Int} (h:eZ p r=true):∃(ρ:Nat) (x:iy),r=ρ∧p.bS[ρ]? =some x∧vR p r=x:=by
 obtain⟨n,x,h1,h2⟩:=Ab h
 exact⟨n,x,h1,h2,by subst h1;simp [vR,List.getD_eq_getElem?_getD,h2]⟩
theorem CB (p:Proj) (b:Dom) (r x y:Int) (hp:p.fine) (hu:usable p b=true) (hr:eZ p r=true) (hx:dD x=true) (hy:dD y=true) (hxy:x < y):
  Con 107 [.d p.av,.d b.av,.d (i64 r),.d (i64 x),.d (i64 y)] (.d (.bool (decide (pQ p b r x y > tC (vR p r).steps x y)))):=by
 refine con Tryz.func107 rfl rfl Tryz.call107 rfl fun hwf=>?_
 obtain⟨ρ,re,e1,e2,e3⟩:=En hr
 rw [e3]
 (repeat' ((conv=>whnf);first|with_reducible refine Idx.got e2 e1 ?_|refine gA ?_|(refine gN ?_ ?_<;>intro h hw)|(refine gB ?_ ?_<;>intro h)|(refine gI ?_;intro x hx)|(refine gJ ?_;intro j x hj hx)|refine gC (gL p b hp) ?_|refine gC (fI p _) ?_|refine gC (jB _) ?_|refine gC (IU p b r x y (Fq hu) hr) ?_|refine gC (Ac re.steps x y) ?_|intro _))<;>try (conv=>whnf)
 all_goals first
  |(exfalso;omega)
  |exact⟨rfl,rfl,trivial⟩
structure NC (p:Proj) (r a o:Int) (ka ko:aK) (x:iy) (ρ i j:Nat) (row:List Int) (v:Int):Prop where
 rρ:r=ρ
 res:p.bS[ρ]? =some x
 fi:ka.fam=i
 fj:ko.fam=j
 aaB:x.setup[i]? =some row
 aaC:row[j]? =some v
 vb:0≤v∧v≤12
 eq:GA p r a o=v
theorem IV {p:Proj} {r a o:Int} {k k':Nat} {ka ko:aK} (hok:aL p=true) (hm:gq p r=true) (ha:p.acts[k]? =some ka) (ho:p.acts[k']? =some ko) (e:a=k) (e':o=k'):
  ∃x ρ i j row v,NC p r a o ka ko x ρ i j row v:=by
 simp only [gq,Bool.and_eq_true,decide_eq_true_eq] at hm
 obtain⟨ρ,x,e1,e2⟩:=Ab hm.1
 have pf:=fB hok
 have hres:=pf.res ρ x e2
 have hlen:(p.bS.getD r.toNat ⟨[],[]⟩)=x:=by subst e1;simp [List.getD_eq_getElem?_getD,e2]
 rw [hlen] at hm
 simp only [jV,Bool.and_eq_true,Bool.or_eq_true,decide_eq_true_eq,List.all_eq_true,rowOk,within_iff] at hres
 have h4:x.setup.length=4:=by omega
 have ff:∀{n:Nat} {q:aK},p.acts[n]? =some q→0≤q.fam∧q.fam≤3:=fun {n q} hq=>by
  have:=pf.act n q hq
  simp only [bC,Bool.and_eq_true,within_iff] at this
  exact this.2.1.2
 have f1:=ff ha
 have f2:=ff ho
 have e3:x.setup[ka.fam.toNat]? =some (x.setup[ka.fam.toNat]'(by omega)):=by simp
 have hrow:=hres.1 _ (List.mem_of_getElem? e3)
 have e4:(x.setup[ka.fam.toNat]'(by omega))[ko.fam.toNat]? =some ((x.setup[ka.fam.toNat]'(by omega))[ko.fam.toNat]'(by omega)):=by simp
 refine⟨x,ρ,ka.fam.toNat,ko.fam.toNat,_,_,e1,e2,by omega,by omega,e3,e4,hrow.2 _ (List.mem_of_getElem? e4),?_⟩
 subst e e' e1
 simp [GA,vR,aV,List.getD_eq_getElem?_getD,e2,ha,ho,e3,e4]
theorem IW (p:Proj) (b:Dom) (r:Int) (hp:p.fine) (hu:usable p b=true) (hm:gq p r=true):Con 216 [.d p.av,.d b.av,.d (i64 r)] (.d (.bool true)):=by
 refine con Tryz.func216 rfl rfl Tryz.call216 rfl fun hwf=>?_
 (repeat' ((conv=>whnf);first|refine gA ?_|(refine gB ?_ ?_<;>intro h)|refine gC (gL p b hp) ?_|refine gC (kG p r) ?_|intro _))<;>try (conv=>whnf)
 all_goals (refine⟨?_,rfl,trivial⟩;simp [*])
theorem CF (p:Proj) (b:Dom) (r a o:Int) (hp:p.fine) (hu:usable p b=true) (hm:gq p r=true) (ha:bg p a=true) (ho:bg p o=true) (hne:a≠o):
  Con 181 [.d p.av,.d b.av,.d (i64 r),.d (i64 a),.d (i64 o)] (.d (.bool true)):=by
 refine con Tryz.func181 rfl rfl Tryz.call181 rfl fun hwf=>?_
 (repeat' ((conv=>whnf);first|refine gA ?_|(refine gB ?_ ?_<;>intro h)|refine gC (IW p b r hp hu hm) ?_|refine gC (fH p _) ?_|intro _))<;>try (conv=>whnf)
 all_goals (refine⟨?_,rfl,trivial⟩;simp [*])
theorem qD (p:Proj) (b:Dom) (r n:Int) {k:Nat} {a:aK} {x y:Int} {m:List Int} (hg:fM p b k a x y m) (hn:n=k) (hp:p.fine) (hu:usable p b=true) (hr:eZ p r=true) (ha:bg p n=true):
  Con 182 [.d p.av,.d b.av,.d (i64 r),.d (i64 n)] (.d (i64 (iA a m r))):=by
 refine con Tryz.func182 rfl rfl Tryz.call182 rfl fun hwf=>?_
 (repeat' ((conv=>whnf);first|with_reducible refine Idx.got hg.act hn ?_|with_reducible refine Idx.got hg.modes hn ?_|refine gA ?_|(refine gB ?_ ?_<;>intro h)|(refine gI ?_;intro x hx)|(refine gJ ?_;intro j x hj hx)|refine gC (gL p b hp) ?_|refine gC (fI p _) ?_|refine gC (fH p _) ?_|refine gC (zo a m r) ?_|intro _))<;>try (conv=>whnf)
 exact⟨rfl,rfl,trivial⟩
theorem uY {p:Proj} {r:Int} (h:gq p r=true):eZ p r=true:=by
 simp only [gq,Bool.and_eq_true] at h;exact h.1
theorem ND (p:Proj) (b:Dom) (r a o:Int) {k k':Nat} {ka ko:aK} {x y x' y':Int} {m m':List Int} (hg:fM p b k ka x y m) (hn:a=k) (hg':fM p b k' ko x' y' m') (hn':o=k') (hp:p.fine) (hu:usable p b=true)
  (hm:gq p r=true) (ha:bg p a=true) (ho:bg p o=true) (hne:a≠o):
  Con 151 [.d p.av,.d b.av,.d (i64 r),.d (i64 a),.d (i64 o)] (.d (.bool (decide (iA ka m r > 0)&&decide (iA ko m' r > 0)))):=by
 refine con Tryz.func151 rfl rfl Tryz.call151 rfl fun hwf=>?_
 (repeat' ((conv=>whnf);first|refine gA ?_|(refine gB ?_ ?_<;>intro h)|refine gC (CF p b r a o hp hu hm ha ho hne) ?_|refine gC (qD p b r a hg hn hp hu (uY hm) ha) ?_|refine gC (qD p b r o hg' hn' hp hu (uY hm) ho) ?_|intro _))<;>try (conv=>whnf)
 all_goals (refine⟨?_,rfl,trivial⟩;simp [*])
theorem qE (p:Proj) (r a o:Int) {k k':Nat} {ka ko:aK} {x:iy} {ρ i j:Nat} {row:List Int} {v:Int} (ha:p.acts[k]? =some ka) (e:a=k) (ho:p.acts[k']? =some ko) (e':o=k') (hp:p.fine) (hok:aL p=true)
  (hm:gq p r=true) (ha':bg p a=true) (ho':bg p o=true) (hM:NC p r a o ka ko x ρ i j row v):Con 217 [.d p.av,.d (i64 r),.d (i64 a),.d (i64 o)] (.d (i64 v)):=by
 refine con Tryz.func217 rfl rfl Tryz.call217 rfl fun hwf=>?_
 (repeat' ((conv=>whnf);first|with_reducible refine Idx.got hM.res hM.rρ ?_|with_reducible refine Idx.got ha e ?_|with_reducible refine Idx.got ho e' ?_|with_reducible refine Idx.got hM.aaB hM.fi ?_|with_reducible refine Idx.got hM.aaC hM.fj ?_|refine gA ?_|(refine gB ?_ ?_<;>intro h)|(refine gI ?_;intro x hx)|(refine gJ ?_;intro j x hj hx)|refine gC (kG p r) ?_|refine gC (bU p hp) ?_|refine gC (fH p _) ?_|intro _))<;>try (conv=>whnf)
 exact⟨rfl,rfl,trivial⟩
theorem RL (p:Proj) (b:Dom) (r a o:Int) {k k':Nat} {ka ko:aK} {x y:Int} {m:List Int} {re:iy} {ρ i j:Nat} {row:List Int} {v:Int} (hg:fM p b k ka x y m) (e:a=k) (ho:p.acts[k']? =some ko) (e':o=k') (hp:p.fine) (hok:aL p=true)
  (hm:gq p r=true) (ha':bg p a=true) (ho':bg p o=true) (hM:NC p r a o ka ko re ρ i j row v):Con 183 [.d p.av,.d b.av,.d (i64 r),.d (i64 a),.d (i64 o)] (.d (i64 (lK p b r a o))):=by
 refine con Tryz.func183 rfl rfl Tryz.call183 rfl fun hwf=>?_
 have hd:=pF hg.aok m
 rw [← xB hg] at hd
 have h1:=hg.lob
 have h2:=hM.vb
 have eq:lK p b r a o=x+lD p b k+v:=by
  rw [lK,hM.eq];subst e;simp [List.getD_eq_getElem?_getD,hg.lo]
 rw [eq]
 (repeat' ((conv=>whnf);first|with_reducible refine Idx.got hg.lo e ?_|refine gA ?_|(refine gB ?_ ?_<;>intro h)|(refine gI ?_;intro x hx)|(refine gJ ?_;intro j x hj hx)|refine gV ?_|refine gC (nM p b a hg e) ?_|refine gC (qE p r a o hg.act e ho e' hp hok hm ha' ho' hM) ?_|intro _))<;>try (conv=>whnf)
 exact⟨rfl,rfl,trivial⟩
theorem vV (p:Proj) (b:Dom) (r a o:Int) {k k':Nat} {ka ko:aK} {x y x' y':Int} {m m':List Int} (hg:fM p b k ka x y m) (hn:a=k) (hg':fM p b k' ko x' y' m') (hn':o=k') (hp:p.fine) (hu:usable p b=true)
  (hm:gq p r=true) (ha:bg p a=true) (ho:bg p o=true) (hne:a≠o):
  Con 152 [.d p.av,.d b.av,.d (i64 r),.d (i64 a),.d (i64 o)] (.d (.bool (decide (lK p b r a o≤y')))):=by
 refine con Tryz.func152 rfl rfl Tryz.call152 rfl fun hwf=>?_
 have hok:=(cZ (Fq hu)).1
 obtain⟨re,ρ,i,j,row,v,hM⟩:=IV hok hm hg.act hg'.act hn hn'
 (repeat' ((conv=>whnf);first|with_reducible refine Idx.got hg'.hi hn' ?_|refine gA ?_|(refine gB ?_ ?_<;>intro h)|(refine gI ?_;intro x hx)|(refine gJ ?_;intro j x hj hx)|refine gC (CF p b r a o hp hu hm ha ho hne) ?_|refine gC (RL p b r a o hg hn hg'.act hn' hp hok hm ha ho hM) ?_|intro _))<;>try (conv=>whnf)
 all_goals (refine⟨?_,rfl,trivial⟩;simp [*])
theorem Yt {p:Proj} {b:Dom} {r a o:Int} {k k':Nat} {ka ko:aK} {x y x' y':Int} {m m':List Int} (hg:fM p b k ka x y m) (hn:a=k) (hg':fM p b k' ko x' y' m') (hn':o=k'):
  jam p b r a o=(decide (iA ka m r > 0)&&decide (iA ko m' r > 0)&&decide (lK p b r a o > y')&&decide (lK p b r o a > y)):=by
 subst hn hn'
 simp [jam,aV,List.getD_eq_getElem?_getD,hg.act,hg.modes,hg'.act,hg'.modes,hg.hi,hg'.hi]
theorem CG (p:Proj) (b:Dom) (r a o:Int) {k k':Nat} {ka ko:aK} {x y x' y':Int} {m m':List Int} (hg:fM p b k ka x y m) (hn:a=k) (hg':fM p b k' ko x' y' m') (hn':o=k') (hp:p.fine) (hu:usable p b=true)
  (hm:gq p r=true) (ha:bg p a=true) (ho:bg p o=true) (hne:a≠o):
  Con 108 [.d p.av,.d b.av,.d (i64 r),.d (i64 a),.d (i64 o)] (.d (.bool (jam p b r a o))):=by
 refine con Tryz.func108 rfl rfl Tryz.call108 rfl fun hwf=>?_
 rw [Yt hg hn hg' hn']
 (repeat' ((conv=>whnf);first|refine gA ?_|(refine gB ?_ ?_<;>intro h)|refine gC (ND p b r a o hg hn hg' hn' hp hu hm ha ho hne) ?_|refine gC (vV p b r a o hg hn hg' hn' hp hu hm ha ho hne) ?_|refine gC (vV p b r o a hg' hn' hg hn hp hu hm ho ha (Ne.symm hne)) ?_|intro _))<;>try (conv=>whnf)
 ·refine⟨?_,rfl,trivial⟩
  rw [show (decide (iA ka m r > 0)&&decide (iA ko m' r > 0))=true by assumption]
  simp only [AV.bool.injEq];rw [Bool.eq_iff_iff];simp;omega
 ·refine⟨?_,rfl,trivial⟩
  rw [show (decide (iA ka m r > 0)&&decide (iA ko m' r > 0))=true by assumption]
  simp only [AV.bool.injEq];rw [Bool.eq_iff_iff];simp;omega
 ·refine⟨?_,rfl,trivial⟩
  rw [h];rfl
theorem IX {p:Proj} {b:Dom} {k:Nat} {a:aK} {x y:Int} {m:List Int} (h:fM p b k a x y m) (r:Int):Iq p b r k=uR a m r:=by
 simp [Iq,aV,List.getD_eq_getElem?_getD,h.act,h.modes]
theorem Fu {p:Proj} {b:Dom} (hf:ay p b=true) (r:Int) {k:Nat} (hk:k < p.acts.length):0≤Iq p b r k∧Iq p b r k≤20:=by
 obtain⟨a,lo,hi,m,h⟩:=eP hf hk
 rw [IX h];exact Ny h.aok _ _
theorem Uo {p:Proj} {r:Int} (h:jk p r=true):∃(ρ:Nat) (x:Int),r=ρ∧p.bD[ρ]? =some x:=by
 have hn:=within_iff.1 h
 exact⟨r.toNat,p.bD[r.toNat]'(by omega),by omega,by simp⟩
theorem CJ (p:Proj) (b:Dom) (r:Int) (hf:ay p b=true) (hs:jk p r=true):Con 109 [.d p.av,.d b.av,.d (i64 r)] (.d (.bool (qy p b r))):=by
 refine con Tryz.func109 rfl rfl Tryz.call109 rfl fun hwf=>?_
 simp only [ARs.wf,AR.wf,AV.wf,AV.wfs,lm,lim] at hwf
 obtain⟨ρ,c,e1,e2⟩:=Uo hs
 (repeat' ((conv=>whnf);first|refine gA ?_|(refine gB ?_ ?_<;>intro h)|(refine gI ?_;intro x hx)|(refine gJ ?_;intro j x hj hx)|refine gV ?_|intro _))<;>try (conv=>whnf)
 refine aB [2,3,4,11,12] [3,4] [] ?_
 (conv=>whnf)
 refine aA.go ((Nat)×(Int)) (fun⟨k,s⟩=>(k≤p.acts.length)∧(s=sumTo (Iq p b r) k)) (fun⟨k,s⟩=>[(13,.data (i64 k)),(7,.data (i64 s))]) (fun _=>[]) (fun _=>[]) (fun⟨k,s⟩=>p.acts.length - k) ⟨0,0⟩ ?_ ?_
 ·exact⟨by omega,rfl⟩
 rintro⟨k,s⟩ ⟨hk,hs⟩
 by_cases hlt:k < p.acts.length
 ·obtain⟨a,lo,hi,m,hg⟩:=eP hf hlt
  have hb:=nZ (f:=Iq p b r) (c:=20) (n:=k) fun i hi=>Fu hf r (by omega)
  have hw:=Fu hf r hlt
  rw [IX hg] at hw
  (repeat' ((conv=>whnf);first|with_reducible refine Idx.got hg.act rfl ?_|with_reducible refine Idx.got hg.modes rfl ?_|refine gA ?_|(refine gB ?_ ?_<;>intro h)|(refine gI ?_;intro x hx)|(refine gJ ?_;intro j x hj hx)|refine gV ?_|refine gC (yL a m r) ?_|intro _))<;>try (conv=>whnf)
  ·refine nx ⟨k+1,s+uR a m r⟩ ?_
   exact⟨by omega,by rw [sumTo,hs,IX hg]⟩
  ·exfalso;omega
 ·(repeat' ((conv=>whnf);first|(exfalso;omega)|with_reducible refine Idx.got e2 e1 ?_|refine gA ?_|(refine gB ?_ ?_<;>intro h)|(refine gI ?_;intro x hx)|(refine gJ ?_;intro j x hj hx)|refine gV ?_|intro _))<;>try (conv=>whnf)
  refine⟨?_,rfl,trivial⟩
  rw [qy,hs,show k=p.acts.length by omega];subst e1;simp [List.getD_eq_getElem?_getD,e2]
theorem Eo (p:Proj) (b:Dom) (l:Link) (hf:ay p b=true) (hl:jS p l=true):Con 103 [.d p.av,.d b.av,.d l.av] (.d (.bool (tF p b l))):=by
 refine con Tryz.func103 rfl rfl Tryz.call103 rfl fun hwf=>?_
 simp only [jS,Bool.and_eq_true] at hl
 obtain⟨k,_,e1,e2⟩:=lT hl.1.1.1
 obtain⟨k',_,e1',e2'⟩:=lT hl.1.1.2
 have aaD:=within_iff.1 hl.2
 obtain⟨a,x,y,m,hg⟩:=eP hf (List.getElem?_eq_some_iff.1 e2).1
 obtain⟨a',x',y',m',hg'⟩:=eP hf (List.getElem?_eq_some_iff.1 e2').1
 have hd:=pF hg.aok m
 rw [← xB hg] at hd
 have h1:=hg.lob
 (repeat' ((conv=>whnf);first|with_reducible refine Idx.got hg.lo e1 ?_|with_reducible refine Idx.got hg'.hi e1' ?_|refine gA ?_|(refine gB ?_ ?_<;>intro h)|(refine gI ?_;intro x hx)|(refine gJ ?_;intro j x hj hx)|refine gV ?_|refine gC (nM p b _ hg e1) ?_|intro _))<;>try (conv=>whnf)
 all_goals (refine⟨?_,rfl,trivial⟩;simp [tF,e1,e1',List.getD_eq_getElem?_getD,hg.lo,hg'.hi, *];done)
end Go.Proofs.YtjfnojijdggfhaaGreat.Abs
