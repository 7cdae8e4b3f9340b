/- How many marks an argument takes: no more than five for each unit of its size. No statement of a claim. -/
import Derived.Test.YtepogmnolnlpmaaGreatLmk
set_option linter.all false
set_option linter.unusedVariables false
set_option linter.unusedSimpArgs false
namespace Go.Proofs.YtepogmnolnlpmaaGreat.Abs
open Go.Proofs

theorem szLine_m (x : Lin) (n : Int) (h : 0 ≤ szLine x n) : x.cnt ≤ 5 + 5 * (n - szLine x n) ∧ szLine x n ≤ n := by
  unfold szLine at h ⊢
  obtain ⟨h1, e1⟩ := szB_nn h; rw [e1] at h ⊢; (try dsimp only at h ⊢)
  have := szN_nn h1
  have := cnt_lits x.clause
  unfold Lin.cnt; omega
/-! ### What is known of data -/
end Go.Proofs.YtepogmnolnlpmaaGreat.Abs
