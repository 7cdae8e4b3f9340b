/- The laws' own functions: valid logs. No statement of a claim. -/
import Derived.Test.YtagafgkmeekfoaaGreatC16
import Derived.Test.YtagafgkmeekfoaaGreatLsz
import Derived.Test.YtagafgkmeekfoaaGreatLto
import Derived.Test.YtagafgkmeekfoaaGreatLeq
set_option linter.all false
set_option linter.unusedVariables false
set_option linter.unusedSimpArgs false
set_option maxRecDepth 20000
set_option maxHeartbeats 4000000
namespace Go.Proofs.YtagafgkmeekfoaaGreat.Abs
open Go.Proofs


def szLog (x : Lg) (n : Int) : Int := szB (szProject x.proj n) fun n => szB (szDomain x.dom n) fun n => szB (szN x.decs.length n) fun n => szB (szS (fun x n => szLine x n) x.lines n) fun n => n
theorem laws_szLog (x : Lg) (n : Int) (hn : Sz n) (hf : x.proj.fine) : Con 36 [.d x.av, .d (i64 n)] (.d (i64 (szLog x n))) := by
  refine con Tryz.func36 rfl rfl Tryz.call36 rfl fun hwf => ?_
  have h0 : Sz (szProject x.proj n) := szProject_ok hn
  have h1 : Sz (szDomain x.dom (szProject x.proj n)) := szDomain_ok h0
  have h2 : Sz (szN x.decs.length (szDomain x.dom (szProject x.proj n))) := szN_ok h1
  (repeat' ((conv => whnf); first | (with_reducible first | refine Br.ff ?_ | refine Br.tt ?_ | refine Br.not ?_ | refine Br.yes (by assumption) ?_ | refine Br.no (by assumption) ?_ | (refine Br.dec (fun h => ?_) (fun h => ?_) <;> try simp only [lm] at h)) | ((with_reducible refine Br.mk (fun h => ?_) (fun h => ?_)) <;> (try simp only [lm] at h) <;> (first | have hw := within_iff.1 h | have hw := within_no.1 h | skip)) | refine CallK.mk _ (laws_szProject x.proj n hn hf) (fun _ => ?_) | refine CallD.mk _ (fun _ hk => CallK.mk _ (laws_szProject x.proj n hn hf) (fun _ => hk)) ?_ | refine CallK.mk _ (laws_szDomain x.dom _ h0) (fun _ => ?_) | refine CallD.mk _ (fun _ hk => CallK.mk _ (laws_szDomain x.dom _ h0) (fun _ => hk)) ?_ | refine CallK.mk _ (laws_szLiteralS x.decs _ h1) (fun _ => ?_) | refine CallD.mk _ (fun _ hk => CallK.mk _ (laws_szLiteralS x.decs _ h1) (fun _ => hk)) ?_ | refine CallK.mk _ (laws_szLineS x.lines _ h2) (fun _ => ?_) | refine CallD.mk _ (fun _ hk => CallK.mk _ (laws_szLineS x.lines _ h2) (fun _ => hk)) ?_ | intro _)) <;> (try (conv => whnf))
  all_goals refine ⟨?_, rfl, trivial⟩
  all_goals (unfold szLog; simp only [szB, *, if_true, if_false, ite_true, ite_false])
theorem laws_toLog (x : Lg) : Con 38 [.d x.av] (.d x.av) := by
  refine con Tryz.func38 rfl rfl Tryz.call38 rfl fun hwf => ?_
  (repeat' ((conv => whnf); first | (with_reducible first | refine Br.ff ?_ | refine Br.tt ?_ | refine Br.not ?_ | refine Br.yes (by assumption) ?_ | refine Br.no (by assumption) ?_ | (refine Br.dec (fun h => ?_) (fun h => ?_) <;> try simp only [lm] at h)) | ((with_reducible refine Br.mk (fun h => ?_) (fun h => ?_)) <;> (try simp only [lm] at h) <;> (first | have hw := within_iff.1 h | have hw := within_no.1 h | skip)) | refine CallK.mk _ (laws_toProject x.proj) (fun _ => ?_) | refine CallD.mk _ (fun _ hk => CallK.mk _ (laws_toProject x.proj) (fun _ => hk)) ?_ | refine CallK.mk _ (laws_toDomain x.dom) (fun _ => ?_) | refine CallD.mk _ (fun _ hk => CallK.mk _ (laws_toDomain x.dom) (fun _ => hk)) ?_ | refine CallK.mk _ (laws_toLiteralS x.decs) (fun _ => ?_) | refine CallD.mk _ (fun _ hk => CallK.mk _ (laws_toLiteralS x.decs) (fun _ => hk)) ?_ | refine CallK.mk _ (laws_toLineS x.lines) (fun _ => ?_) | refine CallD.mk _ (fun _ hk => CallK.mk _ (laws_toLineS x.lines) (fun _ => hk)) ?_ | intro _)) <;> (try (conv => whnf))
  exact ⟨rfl, rfl, trivial⟩
theorem laws_eqLog (x : Lg) : Con 40 [.d x.av, .d x.av] (.d (.bool true)) := by
  refine con Tryz.func40 rfl rfl Tryz.call40 rfl fun hwf => ?_
  (repeat' ((conv => whnf); first | (with_reducible first | refine Br.ff ?_ | refine Br.tt ?_ | refine Br.not ?_ | refine Br.yes (by assumption) ?_ | refine Br.no (by assumption) ?_ | (refine Br.dec (fun h => ?_) (fun h => ?_) <;> try simp only [lm] at h)) | ((with_reducible refine Br.mk (fun h => ?_) (fun h => ?_)) <;> (try simp only [lm] at h) <;> (first | have hw := within_iff.1 h | have hw := within_no.1 h | skip)) | refine CallK.mk _ (laws_eqProject x.proj) (fun _ => ?_) | refine CallD.mk _ (fun _ hk => CallK.mk _ (laws_eqProject x.proj) (fun _ => hk)) ?_ | refine CallK.mk _ (laws_eqDomain x.dom) (fun _ => ?_) | refine CallD.mk _ (fun _ hk => CallK.mk _ (laws_eqDomain x.dom) (fun _ => hk)) ?_ | refine CallK.mk _ (laws_eqLiteralS x.decs) (fun _ => ?_) | refine CallD.mk _ (fun _ hk => CallK.mk _ (laws_eqLiteralS x.decs) (fun _ => hk)) ?_ | refine CallK.mk _ (laws_eqLineS x.lines) (fun _ => ?_) | refine CallD.mk _ (fun _ hk => CallK.mk _ (laws_eqLineS x.lines) (fun _ => hk)) ?_ | intro _)) <;> (try (conv => whnf))
  all_goals exact ⟨rfl, rfl, trivial⟩
theorem law_LogOk (g : Lg) (hp : g.proj.fine) : Con 8 [.d g.av] (.d (.bool true)) := by
  refine con Tryz.func8 rfl rfl Tryz.call8 rfl fun hwf => ?_
  have s0 : Sz 1048576 := by unfold Sz; omega
  (repeat' ((conv => whnf); first | (with_reducible refine Br.yes (decide_eq_true rfl) ?_) | (with_reducible refine Br.yes (beq_self_eq_true _) ?_) | (with_reducible first | refine Br.ff ?_ | refine Br.tt ?_ | refine Br.not ?_ | refine Br.yes (by assumption) ?_ | refine Br.no (by assumption) ?_ | (refine Br.dec (fun h => ?_) (fun h => ?_) <;> try simp only [lm] at h)) | ((with_reducible refine Br.mk (fun h => ?_) (fun h => ?_)) <;> (try simp only [lm] at h) <;> (first | have hw := within_iff.1 h | have hw := within_no.1 h | skip)) | refine CallK.mk _ (laws_szLog g _ s0 hp) (fun _ => ?_) | refine CallD.mk _ (fun _ hk => CallK.mk _ (laws_szLog g _ s0 hp) (fun _ => hk)) ?_ | refine CallK.mk _ (laws_toLog g) (fun _ => ?_) | refine CallD.mk _ (fun _ hk => CallK.mk _ (laws_toLog g) (fun _ => hk)) ?_ | refine CallK.mk _ (spec_LogOk g hp) (fun _ => ?_) | refine CallD.mk _ (fun _ hk => CallK.mk _ (spec_LogOk g hp) (fun _ => hk)) ?_ | refine CallK.mk _ (impl_LogOk g hp) (fun _ => ?_) | refine CallD.mk _ (fun _ hk => CallK.mk _ (impl_LogOk g hp) (fun _ => hk)) ?_ | refine CallK.mk _ (laws_eqLog g) (fun _ => ?_) | refine CallD.mk _ (fun _ hk => CallK.mk _ (laws_eqLog g) (fun _ => hk)) ?_ | intro _)) <;> (try (conv => whnf))
  all_goals exact ⟨rfl, rfl, trivial⟩
end Go.Proofs.YtagafgkmeekfoaaGreat.Abs
