/- Contracts: sets that grow. No statement of a claim. -/
import Derived.Test.YtkiohdpapinecaaGreatSet
import Derived.Test.YtkiohdpapinecaaGreatC9
set_option linter.all false
set_option linter.unusedVariables false
set_option linter.unusedSimpArgs false
set_option maxRecDepth 20000
set_option maxHeartbeats 4000000
namespace Go.Proofs.YtkiohdpapinecaaGreat.Abs
open Go.Proofs
theorem setOf_pw (l:List Int):(setOf l).Pairwise (· < ·):=(setOf_sorted (l:=l) (o:=[]) List.Pairwise.nil).1
theorem setOf_mem {l:List Int} {x:Int}:x∈setOf l↔x∈l:=by
 have:=(setOf_sorted (l:=l) (o:=[]) List.Pairwise.nil).2 x
 exact this.trans (by simp)
theorem setOf_put (l:List Int) (n:Int):putSet (setOf l) n=setOf (l++[n]):=by rw [setOf,setOf,List.foldl_append];rfl
theorem spec_SetAdd (l:List Int) (n:Int) (hl:l.length < lim):Con 113 [.d (ints l),.d (i64 n)] (.d (ints (setOf (l++[n])))):=by
 refine con Tryz.func113 rfl rfl Tryz.call113 rfl fun hwf=>?_
 have h1:=setOf_len l
 rw [← setOf_put]
 (repeat' ((conv=>whnf);first | refine gA ?_ | ((with_reducible first | refine gD (fun h=>?_) (fun h=>?_) | refine gE (fun h=>?_) (fun h=>?_)) <;> (try simp only [lm] at h) <;> try have hw:=wn h) | refine gC (spec_SetOf l) ?_ | refine gC (spec_l02Put (setOf l) n (by omega)) ?_ | intro _)) <;> (try (conv=>whnf))
 exact⟨rfl,rfl,trivial⟩
theorem actOf_get {p:Proj} {k:Nat} {a:Activ} (h:p.acts[k]? =some a):actOf p k=a:=by simp [actOf,List.getD_eq_getElem?_getD,h]
theorem modes_few {p:Proj} (ho:projOk p=true) {k:Nat} {a:Activ} (h:p.acts[k]? =some a):a.modes.length≤3:=by
 have:=(projForm ho).act k a h
 simp only [activOk,Bool.and_eq_true,within_iff] at this
 omega
end Go.Proofs.YtkiohdpapinecaaGreat.Abs
