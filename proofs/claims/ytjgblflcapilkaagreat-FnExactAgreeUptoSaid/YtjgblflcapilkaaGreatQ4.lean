/- The laws' own functions: results. No statement of a claim. -/
import Derived.Test.YtjgblflcapilkaaGreatC23
import Derived.Test.YtjgblflcapilkaaGreatLsz
import Derived.Test.YtjgblflcapilkaaGreatLto
import Derived.Test.YtjgblflcapilkaaGreatLeq
set_option linter.all false
set_option linter.unusedVariables false
set_option linter.unusedSimpArgs false
set_option maxRecDepth 20000
set_option maxHeartbeats 4000000
namespace Go.Proofs.YtjgblflcapilkaaGreat.Abs
open Go.Proofs


def szResult (x : Res) (n : Int) : Int := szB (szSchedule x.sched n) fun n => szB (szS (fun x n => szLine x n) x.proof n) fun n => n
theorem szResult_ok {x : Res} {n : Int} (h : Sz n) : Sz (szResult x n) := by
  unfold szResult
  refine szB_ok (szSchedule_ok h) fun h => ?_
  refine szB_ok (szS_ok (fun h => szLine_ok h) h) fun h => ?_
  exact h
theorem laws_szResult (x : Res) (n : Int) (hn : Sz n) : Con 6 [.d x.av, .d (i64 n)] (.d (i64 (szResult x n))) := by
  refine con Tryz.func6 rfl rfl Tryz.call6 rfl fun hwf => ?_
  have h0 : Sz (szSchedule x.sched n) := szSchedule_ok hn
  (repeat' ((conv => whnf); first | (with_reducible first | refine Br.ff ?_ | refine Br.tt ?_ | refine Br.not ?_ | refine Br.yes (by assumption) ?_ | refine Br.no (by assumption) ?_ | (refine Br.dec (fun h => ?_) (fun h => ?_) <;> try simp only [lm] at h)) | ((with_reducible refine Br.mk (fun h => ?_) (fun h => ?_)) <;> (try simp only [lm] at h) <;> (first | have hw := within_iff.1 h | have hw := within_no.1 h | skip)) | refine CallK.mk _ (laws_szSchedule x.sched n hn) (fun _ => ?_) | refine CallD.mk _ (fun _ hk => CallK.mk _ (laws_szSchedule x.sched n hn) (fun _ => hk)) ?_ | refine CallK.mk _ (laws_szLineS x.proof _ h0) (fun _ => ?_) | refine CallD.mk _ (fun _ hk => CallK.mk _ (laws_szLineS x.proof _ h0) (fun _ => hk)) ?_ | intro _)) <;> (try (conv => whnf))
  all_goals refine ⟨?_, rfl, trivial⟩
  all_goals (unfold szResult; simp only [szB, *, if_true, if_false, ite_true, ite_false])
theorem laws_toResult (x : Res) : Con 9 [.d x.av] (.d x.av) := by
  refine con Tryz.func9 rfl rfl Tryz.call9 rfl fun hwf => ?_
  (repeat' ((conv => whnf); first | (with_reducible first | refine Br.ff ?_ | refine Br.tt ?_ | refine Br.not ?_ | refine Br.yes (by assumption) ?_ | refine Br.no (by assumption) ?_ | (refine Br.dec (fun h => ?_) (fun h => ?_) <;> try simp only [lm] at h)) | ((with_reducible refine Br.mk (fun h => ?_) (fun h => ?_)) <;> (try simp only [lm] at h) <;> (first | have hw := within_iff.1 h | have hw := within_no.1 h | skip)) | refine CallK.mk _ (laws_toSchedule x.sched) (fun _ => ?_) | refine CallD.mk _ (fun _ hk => CallK.mk _ (laws_toSchedule x.sched) (fun _ => hk)) ?_ | refine CallK.mk _ (laws_toLineS x.proof) (fun _ => ?_) | refine CallD.mk _ (fun _ hk => CallK.mk _ (laws_toLineS x.proof) (fun _ => hk)) ?_ | intro _)) <;> (try (conv => whnf))
  exact ⟨rfl, rfl, trivial⟩
theorem laws_eqResult (x : Res) : Con 12 [.d x.av, .d x.av] (.d (.bool true)) := by
  refine con Tryz.func12 rfl rfl Tryz.call12 rfl fun hwf => ?_
  (repeat' ((conv => whnf); first | (with_reducible refine Br.yes (decide_eq_true rfl) ?_) | (with_reducible first | refine Br.ff ?_ | refine Br.tt ?_ | refine Br.not ?_ | refine Br.yes (by assumption) ?_ | refine Br.no (by assumption) ?_ | (refine Br.dec (fun h => ?_) (fun h => ?_) <;> try simp only [lm] at h)) | ((with_reducible refine Br.mk (fun h => ?_) (fun h => ?_)) <;> (try simp only [lm] at h) <;> (first | have hw := within_iff.1 h | have hw := within_no.1 h | skip)) | refine CallK.mk _ (laws_eqSchedule x.sched) (fun _ => ?_) | refine CallD.mk _ (fun _ hk => CallK.mk _ (laws_eqSchedule x.sched) (fun _ => hk)) ?_ | refine CallK.mk _ (laws_eqLineS x.proof) (fun _ => ?_) | refine CallD.mk _ (fun _ hk => CallK.mk _ (laws_eqLineS x.proof) (fun _ => hk)) ?_ | intro _)) <;> (try (conv => whnf))
  all_goals exact ⟨rfl, rfl, trivial⟩
theorem law_ResultOk (p : Proj) (a : Res) (hp : p.fine) : Con 3 [.d p.av, .d a.av] (.d (.bool true)) := by
  refine con Tryz.func3 rfl rfl Tryz.call3 rfl fun hwf => ?_
  have s0 : Sz 1048576 := by unfold Sz; omega
  have s1 := szProject_ok (x := p) s0
  (repeat' ((conv => whnf); first | (with_reducible refine Br.yes (decide_eq_true rfl) ?_) | (with_reducible refine Br.yes (beq_self_eq_true _) ?_) | (with_reducible first | refine Br.ff ?_ | refine Br.tt ?_ | refine Br.not ?_ | refine Br.yes (by assumption) ?_ | refine Br.no (by assumption) ?_ | (refine Br.dec (fun h => ?_) (fun h => ?_) <;> try simp only [lm] at h)) | ((with_reducible refine Br.mk (fun h => ?_) (fun h => ?_)) <;> (try simp only [lm] at h) <;> (first | have hw := within_iff.1 h | have hw := within_no.1 h | skip)) | refine CallK.mk _ (laws_szProject p _ s0 hp) (fun _ => ?_) | refine CallD.mk _ (fun _ hk => CallK.mk _ (laws_szProject p _ s0 hp) (fun _ => hk)) ?_ | refine CallK.mk _ (laws_szResult a _ s1) (fun _ => ?_) | refine CallD.mk _ (fun _ hk => CallK.mk _ (laws_szResult a _ s1) (fun _ => hk)) ?_ | refine CallK.mk _ (laws_toProject p) (fun _ => ?_) | refine CallD.mk _ (fun _ hk => CallK.mk _ (laws_toProject p) (fun _ => hk)) ?_ | refine CallK.mk _ (laws_toResult a) (fun _ => ?_) | refine CallD.mk _ (fun _ hk => CallK.mk _ (laws_toResult a) (fun _ => hk)) ?_ | refine CallK.mk _ (spec_ResultOk p a hp) (fun _ => ?_) | refine CallD.mk _ (fun _ hk => CallK.mk _ (spec_ResultOk p a hp) (fun _ => hk)) ?_ | refine CallK.mk _ (impl_ResultOk p a hp) (fun _ => ?_) | refine CallD.mk _ (fun _ hk => CallK.mk _ (impl_ResultOk p a hp) (fun _ => hk)) ?_ | refine CallK.mk _ (laws_eqProject p) (fun _ => ?_) | refine CallD.mk _ (fun _ hk => CallK.mk _ (laws_eqProject p) (fun _ => hk)) ?_ | refine CallK.mk _ (laws_eqResult a) (fun _ => ?_) | refine CallD.mk _ (fun _ hk => CallK.mk _ (laws_eqResult a) (fun _ => hk)) ?_ | intro _)) <;> (try (conv => whnf))
  all_goals exact ⟨rfl, rfl, trivial⟩
theorem law_Agree (p : Proj) (a b : Res) (hp : p.fine) : Con 4 [.d p.av, .d a.av, .d b.av] (.d (.bool true)) := by
  refine con Tryz.func4 rfl rfl Tryz.call4 rfl fun hwf => ?_
  have s0 : Sz 1048576 := by unfold Sz; omega
  have s1 := szProject_ok (x := p) s0
  have s2 := szResult_ok (x := a) s1
  (repeat' ((conv => whnf); first | (with_reducible refine Br.yes (decide_eq_true rfl) ?_) | (with_reducible refine Br.yes (beq_self_eq_true _) ?_) | (with_reducible first | refine Br.ff ?_ | refine Br.tt ?_ | refine Br.not ?_ | refine Br.yes (by assumption) ?_ | refine Br.no (by assumption) ?_ | (refine Br.dec (fun h => ?_) (fun h => ?_) <;> try simp only [lm] at h)) | ((with_reducible refine Br.mk (fun h => ?_) (fun h => ?_)) <;> (try simp only [lm] at h) <;> (first | have hw := within_iff.1 h | have hw := within_no.1 h | skip)) | refine CallK.mk _ (laws_szProject p _ s0 hp) (fun _ => ?_) | refine CallD.mk _ (fun _ hk => CallK.mk _ (laws_szProject p _ s0 hp) (fun _ => hk)) ?_ | refine CallK.mk _ (laws_szResult a _ s1) (fun _ => ?_) | refine CallD.mk _ (fun _ hk => CallK.mk _ (laws_szResult a _ s1) (fun _ => hk)) ?_ | refine CallK.mk _ (laws_szResult b _ s2) (fun _ => ?_) | refine CallD.mk _ (fun _ hk => CallK.mk _ (laws_szResult b _ s2) (fun _ => hk)) ?_ | refine CallK.mk _ (laws_toProject p) (fun _ => ?_) | refine CallD.mk _ (fun _ hk => CallK.mk _ (laws_toProject p) (fun _ => hk)) ?_ | refine CallK.mk _ (laws_toResult _) (fun _ => ?_) | refine CallD.mk _ (fun _ hk => CallK.mk _ (laws_toResult _) (fun _ => hk)) ?_ | refine CallK.mk _ (spec_Agree p a b hp) (fun _ => ?_) | refine CallD.mk _ (fun _ hk => CallK.mk _ (spec_Agree p a b hp) (fun _ => hk)) ?_ | refine CallK.mk _ (impl_Agree p a b hp) (fun _ => ?_) | refine CallD.mk _ (fun _ hk => CallK.mk _ (impl_Agree p a b hp) (fun _ => hk)) ?_ | refine CallK.mk _ (laws_eqProject p) (fun _ => ?_) | refine CallD.mk _ (fun _ hk => CallK.mk _ (laws_eqProject p) (fun _ => hk)) ?_ | refine CallK.mk _ (laws_eqResult _) (fun _ => ?_) | refine CallD.mk _ (fun _ hk => CallK.mk _ (laws_eqResult _) (fun _ => hk)) ?_ | intro _)) <;> (try (conv => whnf))
  all_goals exact ⟨rfl, rfl, trivial⟩
end Go.Proofs.YtjgblflcapilkaaGreat.Abs
