/- The law of fixpoints. No statement of a claim. -/
import Derived.Test.YtgebcdkmchcifaaGreatC32
import Derived.Test.YtgebcdkmchcifaaGreatLsz
import Derived.Test.YtgebcdkmchcifaaGreatLto
import Derived.Test.YtgebcdkmchcifaaGreatLeq
set_option linter.all false
set_option linter.unusedVariables false
set_option linter.unusedSimpArgs false
set_option maxRecDepth 20000
set_option maxHeartbeats 4000000
namespace Go.Proofs.YtgebcdkmchcifaaGreat.Abs
open Go.Proofs


theorem law_IsFixpoint (p : Proj) (b : Dom) (hp : p.fine) : Con 5 [.d p.av, .d b.av] (.d (.bool true)) := by
  refine con Tryz.func5 rfl rfl Tryz.call5 rfl fun hwf => ?_
  have s0 : Sz 1048576 := by unfold Sz; omega
  have s1 := szProject_ok (x := p) s0
  (repeat' ((conv => whnf); first | (with_reducible refine Br.yes (decide_eq_true rfl) ?_) | (with_reducible refine Br.yes (beq_self_eq_true _) ?_) | (with_reducible first | refine Br.ff ?_ | refine Br.tt ?_ | refine Br.not ?_ | refine Br.yes (by assumption) ?_ | refine Br.no (by assumption) ?_ | (refine Br.dec (fun h => ?_) (fun h => ?_) <;> try simp only [lm] at h)) | ((with_reducible refine Br.mk (fun h => ?_) (fun h => ?_)) <;> (try simp only [lm] at h) <;> (first | have hw := within_iff.1 h | have hw := within_no.1 h | skip)) | refine CallK.go (laws_szProject p _ s0 hp) (fun _ => ?_) | refine CallD.go (laws_szProject p _ s0 hp) ?_ | refine CallK.go (laws_szDomain b _ s1) (fun _ => ?_) | refine CallD.go (laws_szDomain b _ s1) ?_ | refine CallK.go (laws_toProject p) (fun _ => ?_) | refine CallD.go (laws_toProject p) ?_ | refine CallK.go (laws_toDomain b) (fun _ => ?_) | refine CallD.go (laws_toDomain b) ?_ | refine CallK.go (spec_IsFixpoint p b hp) (fun _ => ?_) | refine CallD.go (spec_IsFixpoint p b hp) ?_ | refine CallK.go (impl_IsFixpoint p b hp) (fun _ => ?_) | refine CallD.go (impl_IsFixpoint p b hp) ?_ | refine CallK.go (laws_eqProject p) (fun _ => ?_) | refine CallD.go (laws_eqProject p) ?_ | refine CallK.go (laws_eqDomain b) (fun _ => ?_) | refine CallD.go (laws_eqDomain b) ?_ | intro _)) <;> (try (conv => whnf))
  all_goals exact ⟨rfl, rfl, trivial⟩
end Go.Proofs.YtgebcdkmchcifaaGreat.Abs
