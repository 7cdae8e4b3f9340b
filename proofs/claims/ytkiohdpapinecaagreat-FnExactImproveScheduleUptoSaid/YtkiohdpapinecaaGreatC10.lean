/- Contracts: refutations by rules. No statement of a claim. -/
import Derived.Test.YtkiohdpapinecaaGreatC9
set_option linter.all false
set_option linter.unusedVariables false
set_option linter.unusedSimpArgs false
set_option maxRecDepth 20000
set_option maxHeartbeats 4000000
namespace Go.Proofs.YtkiohdpapinecaaGreat.Abs
open Go.Proofs
def usable (p:Proj) (b:Dom):Bool:=domForm p b&& !domEmpty b
structure MachGet (p:Proj) (r a o:Int) (ka ko:Activ) (x:Resrc) (ρ i j:Nat) (row:List Int) (v:Int):Prop where
 rρ:r=ρ
 res:p.ress[ρ]? =some x
 fi:ka.fam=i
 fj:ko.fam=j
 rowE:x.setup[i]? =some row
 valE:row[j]? =some v
 vb:0≤v∧v≤12
 eq:setupOf p r a o=v
theorem mach_get {p:Proj} {r a o:Int} {k k':Nat} {ka ko:Activ} (hok:projOk p=true) (hm:isMach p r=true) (ha:p.acts[k]? =some ka) (ho:p.acts[k']? =some ko) (e:a=k) (e':o=k'):
  ∃x ρ i j row v,MachGet p r a o ka ko x ρ i j row v:=by
 simp only [isMach,Bool.and_eq_true,decide_eq_true_eq] at hm
 obtain⟨ρ,x,e1,e2⟩:=hasRes_get hm.1
 have pf:=projForm hok
 have hres:=pf.res ρ x e2
 have hlen:(p.ress.getD r.toNat ⟨[],[]⟩)=x:=by subst e1;simp [List.getD_eq_getElem?_getD,e2]
 rw [hlen] at hm
 simp only [resOk,Bool.and_eq_true,Bool.or_eq_true,decide_eq_true_eq,List.all_eq_true,rowOk,within_iff] at hres
 have h4:x.setup.length=4:=by omega
 have ff:∀{n:Nat} {q:Activ},p.acts[n]? =some q→0≤q.fam∧q.fam≤3:=fun {n q} hq=>by
  have:=pf.act n q hq
  simp only [activOk,Bool.and_eq_true,within_iff] at this
  exact this.2.1.2
 have f1:=ff ha
 have f2:=ff ho
 have e3:x.setup[ka.fam.toNat]? =some (x.setup[ka.fam.toNat]'(by omega)):=by simp
 have hrow:=hres.1 _ (List.mem_of_getElem? e3)
 have e4:(x.setup[ka.fam.toNat]'(by omega))[ko.fam.toNat]? =some ((x.setup[ka.fam.toNat]'(by omega))[ko.fam.toNat]'(by omega)):=by simp
 refine⟨x,ρ,ka.fam.toNat,ko.fam.toNat,_,_,e1,e2,by omega,by omega,e3,e4,hrow.2 _ (List.mem_of_getElem? e4),?_⟩
 subst e e' e1
 simp [setupOf,resOf,actOf,List.getD_eq_getElem?_getD,e2,ha,ho,e3,e4]
theorem isMach_res {p:Proj} {r:Int} (h:isMach p r=true):hasRes p r=true:=by
 simp only [isMach,Bool.and_eq_true] at h;exact h.1
theorem impl_SetupTime (p:Proj) (r a o:Int) {k k':Nat} {ka ko:Activ} {x:Resrc} {ρ i j:Nat} {row:List Int} {v:Int} (ha:p.acts[k]? =some ka) (e:a=k) (ho:p.acts[k']? =some ko) (e':o=k') (hp:p.fine) (hok:projOk p=true)
  (hm:isMach p r=true) (ha':hasAct p a=true) (ho':hasAct p o=true) (hM:MachGet p r a o ka ko x ρ i j row v):Con 299 [.d p.av,.d (i64 r),.d (i64 a),.d (i64 o)] (.d (i64 v)):=by
 refine con Tryz.func299 rfl rfl Tryz.call299 rfl fun hwf=>?_
 (repeat' ((conv=>whnf);first | with_reducible refine Idx.got hM.res hM.rρ ?_ | with_reducible refine Idx.got ha e ?_ | with_reducible refine Idx.got ho e' ?_ | with_reducible refine Idx.got hM.rowE hM.fi ?_ | with_reducible refine Idx.got hM.valE hM.fj ?_ | refine gA ?_ | ((with_reducible first | refine gD (fun h=>?_) (fun h=>?_) | refine gE (fun h=>?_) (fun h=>?_)) <;> (try simp only [lm] at h) <;> try have hw:=wn h) | with_reducible refine gI (fun x hx=>?_) | with_reducible refine gJ (fun j x hj hx=>?_) | refine gC (impl_IsMachine p r) ?_ | refine gC (impl_ProjectOk p hp) ?_ | refine gC (impl_hasActivity p _) ?_ | intro _)) <;> (try (conv=>whnf))
 exact⟨rfl,rfl,trivial⟩
end Go.Proofs.YtkiohdpapinecaaGreat.Abs
