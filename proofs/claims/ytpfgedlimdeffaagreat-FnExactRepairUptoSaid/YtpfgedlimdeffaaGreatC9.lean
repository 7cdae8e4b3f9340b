/- Contracts: work, capacity, refutations. -/
import Derived.Test.YtpfgedlimdeffaaGreatC8
set_option linter.all false
set_option maxRecDepth 20000
set_option maxHeartbeats 0
namespace Go.Proofs.YtpfgedlimdeffaaGreat.Abs
open Go.Proofs
structure YJ (p:Proj) (b:Dom) (k:Nat) (a:au) (x y:Int) (r i:Int) (mo:Mode) (q ρ:Nat) (u:Int):Prop where
 iq:i=q
 rρ:r=ρ
 mode:a.modes[q]? =some mo
 use:mo.use[ρ]? =some u
 ub:0≤u∧u≤20
theorem vO {t:Int}:∀{l:List Step} {n:Int},(∀s∈l,0≤s.cap∧s.cap≤20)→(0≤n∧n≤20)→0≤aT t l n∧aT t l n≤20
 |[],_,_,h=>h
 |s::l,n,h,h'=>by
  rw [aT]
  refine vO (fun q hq=>h q (by simp [hq])) ?_
  have:=h s (by simp)
  split<;>omega
theorem Cz {l:List Step} (h:je l=true):∀s∈l,0≤s.cap∧s.cap≤20:=by
 intro s hs
 obtain⟨i,hi,rfl⟩:=List.getElem_of_mem hs
 simp only [je,Bool.and_eq_true,eY] at h
 have:=h.1 i hi
 simp only [yc,List.getElem?_eq_getElem hi,Bool.and_eq_true,dY,within_iff] at this
 exact this.1.1.2
end Go.Proofs.YtpfgedlimdeffaaGreat.Abs
