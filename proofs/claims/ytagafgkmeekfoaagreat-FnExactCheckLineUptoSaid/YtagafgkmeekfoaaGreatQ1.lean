/- The laws' own functions: lines. No statement of a claim. -/
import Derived.Test.YtagafgkmeekfoaaGreatC13
import Derived.Test.YtagafgkmeekfoaaGreatLsz
import Derived.Test.YtagafgkmeekfoaaGreatLto
import Derived.Test.YtagafgkmeekfoaaGreatLeq
set_option linter.all false
set_option linter.unusedVariables false
set_option linter.unusedSimpArgs false
set_option maxRecDepth 20000
set_option maxHeartbeats 4000000
namespace Go.Proofs.YtagafgkmeekfoaaGreat.Abs
open Go.Proofs


theorem law_CheckLine (p : Proj) (ahead : List Lin) (l : Lin) (hp : p.fine) : Con 4 [.d p.av, .d (.sl (ahead.map Lin.av)), .d l.av] (.d (.bool true)) := by
  refine con Tryz.func4 rfl rfl Tryz.call4 rfl fun hwf => ?_
  have s0 : Sz 1048576 := by unfold Sz; omega
  have s1 := szProject_ok (x := p) s0
  have s2 : Sz (szS (fun x n => szLine x n) ahead (szProject p 1048576)) := szS_ok (fun h => szLine_ok h) s1
  (repeat' ((conv => whnf); first | (with_reducible refine Br.yes (decide_eq_true rfl) ?_) | (with_reducible first | refine Br.ff ?_ | refine Br.tt ?_ | refine Br.not ?_ | refine Br.yes (by assumption) ?_ | refine Br.no (by assumption) ?_ | (refine Br.dec (fun h => ?_) (fun h => ?_) <;> try simp only [lm] at h)) | ((with_reducible refine Br.mk (fun h => ?_) (fun h => ?_)) <;> (try simp only [lm] at h) <;> (first | have hw := within_iff.1 h | have hw := within_no.1 h | skip)) | refine CallK.mk _ (laws_szProject p _ s0 hp) (fun _ => ?_) | refine CallD.mk _ (fun _ hk => CallK.mk _ (laws_szProject p _ s0 hp) (fun _ => hk)) ?_ | refine CallK.mk _ (laws_szLineS ahead _ s1) (fun _ => ?_) | refine CallD.mk _ (fun _ hk => CallK.mk _ (laws_szLineS ahead _ s1) (fun _ => hk)) ?_ | refine CallK.mk _ (laws_szLine l _ s2) (fun _ => ?_) | refine CallD.mk _ (fun _ hk => CallK.mk _ (laws_szLine l _ s2) (fun _ => hk)) ?_ | refine CallK.mk _ (laws_toProject p) (fun _ => ?_) | refine CallD.mk _ (fun _ hk => CallK.mk _ (laws_toProject p) (fun _ => hk)) ?_ | refine CallK.mk _ (laws_toLineS ahead) (fun _ => ?_) | refine CallD.mk _ (fun _ hk => CallK.mk _ (laws_toLineS ahead) (fun _ => hk)) ?_ | refine CallK.mk _ (laws_toLine l) (fun _ => ?_) | refine CallD.mk _ (fun _ hk => CallK.mk _ (laws_toLine l) (fun _ => hk)) ?_ | refine CallK.mk _ (spec_CheckLine p ahead l hp) (fun _ => ?_) | refine CallD.mk _ (fun _ hk => CallK.mk _ (spec_CheckLine p ahead l hp) (fun _ => hk)) ?_ | refine CallK.mk _ (impl_CheckLine p ahead l hp) (fun _ => ?_) | refine CallD.mk _ (fun _ hk => CallK.mk _ (impl_CheckLine p ahead l hp) (fun _ => hk)) ?_ | refine CallK.mk _ (laws_eqProject p) (fun _ => ?_) | refine CallD.mk _ (fun _ hk => CallK.mk _ (laws_eqProject p) (fun _ => hk)) ?_ | refine CallK.mk _ (laws_eqLineS ahead) (fun _ => ?_) | refine CallD.mk _ (fun _ hk => CallK.mk _ (laws_eqLineS ahead) (fun _ => hk)) ?_ | refine CallK.mk _ (laws_eqLine l) (fun _ => ?_) | refine CallD.mk _ (fun _ hk => CallK.mk _ (laws_eqLine l) (fun _ => hk)) ?_ | intro _)) <;> (try (conv => whnf))
  all_goals exact ⟨rfl, rfl, trivial⟩
end Go.Proofs.YtagafgkmeekfoaaGreat.Abs
