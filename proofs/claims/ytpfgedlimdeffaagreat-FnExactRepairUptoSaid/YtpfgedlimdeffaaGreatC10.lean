/- Contracts: refutations by rules. -/
import Derived.Test.YtpfgedlimdeffaaGreatC9
set_option linter.all false
set_option maxRecDepth 20000
set_option maxHeartbeats 0
namespace Go.Proofs.YtpfgedlimdeffaaGreat.Abs
open Go.Proofs
structure Qu (p:Proj) (r a o:Int) (ka ko:au) (x:aP) (ρ i j:Nat) (row:List Int) (v:Int):Prop where
 rρ:r=ρ
 res:p.aU[ρ]? =some x
 fi:ka.fam=i
 fj:ko.fam=j
 Yj:x.setup[i]? =some row
 Yk:row[j]? =some v
 vb:0≤v∧v≤12
 eq:DU p r a o=v
theorem Fh {p:Proj} {r a o:Int} {k k':Nat} {ka ko:au} (hok:aY p=true) (hm:fC p r=true) (ha:p.acts[k]? =some ka) (ho:p.acts[k']? =some ko) (e:a=k) (e':o=k'):
  ∃x ρ i j row v,Qu p r a o ka ko x ρ i j row v:=by
 simp only [fC,Bool.and_eq_true,decide_eq_true_eq] at hm
 obtain⟨ρ,x,e1,e2⟩:=qm hm.1
 have pf:=fE hok
 have hres:=pf.res ρ x e2
 have hlen:(p.aU.getD r.toNat ⟨[],[]⟩)=x:=by subst e1;simp [List.getD_eq_getElem?_getD,e2]
 rw [hlen] at hm
 simp only [lS,Bool.and_eq_true,Bool.or_eq_true,decide_eq_true_eq,List.all_eq_true,rowOk,within_iff] at hres
 have h4:x.setup.length=4:=by omega
 have ff:∀{n:Nat} {q:au},p.acts[n]? =some q→0≤q.fam∧q.fam≤3:=fun {n q} hq=>by
  have:=pf.act n q hq
  simp only [dH,Bool.and_eq_true,within_iff] at this
  exact this.2.1.2
 have f1:=ff ha
 have f2:=ff ho
 have e3:x.setup[ka.fam.toNat]? =some (x.setup[ka.fam.toNat]'(by omega)):=by simp
 have hrow:=hres.1 _ (List.mem_of_getElem? e3)
 have e4:(x.setup[ka.fam.toNat]'(by omega))[ko.fam.toNat]? =some ((x.setup[ka.fam.toNat]'(by omega))[ko.fam.toNat]'(by omega)):=by simp
 refine⟨x,ρ,ka.fam.toNat,ko.fam.toNat,_,_,e1,e2,by omega,by omega,e3,e4,hrow.2 _ (List.mem_of_getElem? e4),?_⟩
 subst e e' e1
 simp [DU,uL,jG,List.getD_eq_getElem?_getD,e2,ha,ho,e3,e4]
theorem mV {p:Proj} {r:Int} (h:fC p r=true):gD p r=true:=by
 simp only [fC,Bool.and_eq_true] at h;exact h.1
theorem vP (p:Proj) (r a o:Int) {k k':Nat} {ka ko:au} {x:aP} {ρ i j:Nat} {row:List Int} {v:Int} (ha:p.acts[k]? =some ka) (e:a=k) (ho:p.acts[k']? =some ko) (e':o=k') (hp:p.fine) (hok:aY p=true)
  (hm:fC p r=true) (ha':bH p a=true) (ho':bH p o=true) (hM:Qu p r a o ka ko x ρ i j row v):Con 182 [.d p.av,.d (i64 r),.d (i64 a),.d (i64 o)] (.d (i64 v)):=by
 refine con Tryz.func182 rfl rfl Tryz.call182 rfl fun hwf=>?_
 (repeat' ((conv=>whnf);first|with_reducible refine Idx.got hM.res hM.rρ ?_|with_reducible refine Idx.got ha e ?_|with_reducible refine Idx.got ho e' ?_|with_reducible refine Idx.got hM.Yj hM.fi ?_|with_reducible refine Idx.got hM.Yk hM.fj ?_|refine gA ?_|(refine gB ?_ ?_<;>intro h)|(refine gI ?_;intro x hx)|(refine gJ ?_;intro j x hj hx)|refine gC (fZ p r) ?_|refine gC (jJ p hp) ?_|refine gC (kg p _) ?_|intro _))<;>try (conv=>whnf)
 exact⟨rfl,rfl,trivial⟩
end Go.Proofs.YtpfgedlimdeffaaGreat.Abs
