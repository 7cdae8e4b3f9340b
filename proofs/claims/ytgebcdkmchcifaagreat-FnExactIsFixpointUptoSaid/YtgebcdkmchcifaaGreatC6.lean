/- Contracts: literals in domains, clauses in domains. No statement of a claim. -/
import Derived.Test.YtgebcdkmchcifaaGreatC5
set_option linter.all false
set_option linter.unusedVariables false
set_option linter.unusedSimpArgs false
set_option maxRecDepth 20000
set_option maxHeartbeats 4000000
namespace Go.Proofs.YtgebcdkmchcifaaGreat.Abs
open Go.Proofs


def sameAt (a b : List Int) (i : Nat) : Bool := decide (a.getD i 0 = b.getD i 0)
def RStat (r : Int × Lit) : RV := .tup [.d (i64 r.1), .d r.2.av]
/-! ### Resources, stocks, rules -/
theorem impl_hasResource (p : Proj) (n : Int) : Con 168 [.d p.av, .d (i64 n)] (.d (.bool (hasRes p n))) := by
  refine con Tryz.func168 rfl rfl Tryz.call168 rfl fun hwf => ?_
  simp only [ARs.wf, AR.wf, AV.wf, AV.wfs, List.length_map, lim] at hwf
  (repeat' ((conv => whnf); first | (with_reducible first | refine Br.ff ?_ | refine Br.tt ?_ | refine Br.not ?_ | refine Br.yes (by assumption) ?_ | refine Br.no (by assumption) ?_ | (refine Br.dec (fun h => ?_) (fun h => ?_) <;> try simp only [lm] at h)) | ((with_reducible refine Br.mk (fun h => ?_) (fun h => ?_)) <;> (try simp only [lm] at h) <;> (first | have hw := within_iff.1 h | have hw := within_no.1 h | skip)) | with_reducible refine Arith.ok (by first | omega | (simp only [lm]; omega)) ?_ | refine VC.mk (by first | omega | (simp only [lm]; omega)) ?_ | refine CallK.go (impl_within _ _ _) (fun _ => ?_) | refine CallD.go (impl_within _ _ _) ?_ | intro _)) <;> (try (conv => whnf))
  refine ⟨?_, rfl, trivial⟩
  simp [hasRes]
theorem impl_hasStock (p : Proj) (n : Int) : Con 170 [.d p.av, .d (i64 n)] (.d (.bool (hasStock p n))) := by
  refine con Tryz.func170 rfl rfl Tryz.call170 rfl fun hwf => ?_
  simp only [ARs.wf, AR.wf, AV.wf, AV.wfs, List.length_map, lim] at hwf
  (repeat' ((conv => whnf); first | (with_reducible first | refine Br.ff ?_ | refine Br.tt ?_ | refine Br.not ?_ | refine Br.yes (by assumption) ?_ | refine Br.no (by assumption) ?_ | (refine Br.dec (fun h => ?_) (fun h => ?_) <;> try simp only [lm] at h)) | ((with_reducible refine Br.mk (fun h => ?_) (fun h => ?_)) <;> (try simp only [lm] at h) <;> (first | have hw := within_iff.1 h | have hw := within_no.1 h | skip)) | with_reducible refine Arith.ok (by first | omega | (simp only [lm]; omega)) ?_ | refine VC.mk (by first | omega | (simp only [lm]; omega)) ?_ | refine CallK.go (impl_within _ _ _) (fun _ => ?_) | refine CallD.go (impl_within _ _ _) ?_ | intro _)) <;> (try (conv => whnf))
  refine ⟨?_, rfl, trivial⟩
  simp [hasStock]
theorem hasRes_get {p : Proj} {a : Int} (h : hasRes p a = true) : ∃ (n : Nat) (x : Resrc), a = n ∧ p.ress[n]? = some x := by
  have hn := within_iff.1 h
  exact ⟨a.toNat, p.ress[a.toNat]'(by omega), by omega, by simp⟩
theorem impl_IsMachine (p : Proj) (r : Int) : Con 169 [.d p.av, .d (i64 r)] (.d (.bool (isMach p r))) := by
  refine con Tryz.func169 rfl rfl Tryz.call169 rfl fun hwf => ?_
  simp only [ARs.wf, AR.wf, AV.wf, AV.wfs, List.length_map, lim] at hwf
  cases hr : hasRes p r with
  | false =>
    (repeat' ((conv => whnf); first | (with_reducible first | refine Br.ff ?_ | refine Br.tt ?_ | refine Br.not ?_ | refine Br.yes (by assumption) ?_ | refine Br.no (by assumption) ?_ | (refine Br.dec (fun h => ?_) (fun h => ?_) <;> try simp only [lm] at h)) | ((with_reducible refine Br.mk (fun h => ?_) (fun h => ?_)) <;> (try simp only [lm] at h) <;> (first | have hw := within_iff.1 h | have hw := within_no.1 h | skip)) | with_reducible refine Idx.at (by first | omega | (simp only [lm] at *; omega)) (fun x hx => ?_) | with_reducible refine Idx.of_map (by first | omega | (simp only [lm] at *; omega)) (fun j x hj hx => ?_) | refine CallK.go (impl_hasResource p _) (fun _ => ?_) | refine CallD.go (impl_hasResource p _) ?_ | intro _)) <;> (try (conv => whnf))
    refine ⟨?_, rfl, trivial⟩
    simp [isMach, hr]
  | true =>
    obtain ⟨n, x, ha, hx⟩ := hasRes_get hr
    have e : r.toNat = n := by omega
    (repeat' ((conv => whnf); first | with_reducible refine Idx.got hx ha ?_ | (with_reducible first | refine Br.ff ?_ | refine Br.tt ?_ | refine Br.not ?_ | refine Br.yes (by assumption) ?_ | refine Br.no (by assumption) ?_ | (refine Br.dec (fun h => ?_) (fun h => ?_) <;> try simp only [lm] at h)) | ((with_reducible refine Br.mk (fun h => ?_) (fun h => ?_)) <;> (try simp only [lm] at h) <;> (first | have hw := within_iff.1 h | have hw := within_no.1 h | skip)) | with_reducible refine Idx.at (by first | omega | (simp only [lm] at *; omega)) (fun x hx => ?_) | with_reducible refine Idx.of_map (by first | omega | (simp only [lm] at *; omega)) (fun j x hj hx => ?_) | refine CallK.go (impl_hasResource p _) (fun _ => ?_) | refine CallD.go (impl_hasResource p _) ?_ | intro _)) <;> (try (conv => whnf))
    refine ⟨?_, rfl, trivial⟩
    simp [isMach, hr, e, List.getD_eq_getElem?_getD, hx]
theorem spec_IsMachine (p : Proj) (r : Int) : Con 136 [.d p.av, .d (i64 r)] (.d (.bool (isMach p r))) := by
  refine con Tryz.func136 rfl rfl Tryz.call136 rfl fun hwf => ?_
  simp only [ARs.wf, AR.wf, AV.wf, AV.wfs, List.length_map, lim] at hwf
  cases hr : hasRes p r with
  | false =>
    have hr' : within r 0 (((p.ress.map Resrc.av).length : Int) - 1) = false := by rw [List.length_map]; exact hr
    (repeat' ((conv => whnf); first | (with_reducible first | refine Br.ff ?_ | refine Br.tt ?_ | refine Br.not ?_ | refine Br.yes (by assumption) ?_ | refine Br.no (by assumption) ?_ | (refine Br.dec (fun h => ?_) (fun h => ?_) <;> try simp only [lm] at h)) | ((with_reducible refine Br.mk (fun h => ?_) (fun h => ?_)) <;> (try simp only [lm] at h) <;> (first | have hw := within_iff.1 h | have hw := within_no.1 h | skip)) | with_reducible refine Arith.ok (by first | omega | (simp only [lm]; omega)) ?_ | with_reducible refine Idx.at (by first | omega | (simp only [lm] at *; omega)) (fun x hx => ?_) | with_reducible refine Idx.of_map (by first | omega | (simp only [lm] at *; omega)) (fun j x hj hx => ?_) | refine VC.mk (by first | omega | (simp only [lm]; omega)) ?_ | refine CallK.go (spec_in _ _ _) (fun _ => ?_) | refine CallD.go (spec_in _ _ _) ?_ | intro _)) <;> (try (conv => whnf))
    refine ⟨?_, rfl, trivial⟩
    simp [isMach, hr]
  | true =>
    have hr' : within r 0 (((p.ress.map Resrc.av).length : Int) - 1) = true := by rw [List.length_map]; exact hr
    obtain ⟨n, x, ha, hx⟩ := hasRes_get hr
    have e : r.toNat = n := by omega
    (repeat' ((conv => whnf); first | with_reducible refine Idx.got hx ha ?_ | (with_reducible first | refine Br.ff ?_ | refine Br.tt ?_ | refine Br.not ?_ | refine Br.yes (by assumption) ?_ | refine Br.no (by assumption) ?_ | (refine Br.dec (fun h => ?_) (fun h => ?_) <;> try simp only [lm] at h)) | ((with_reducible refine Br.mk (fun h => ?_) (fun h => ?_)) <;> (try simp only [lm] at h) <;> (first | have hw := within_iff.1 h | have hw := within_no.1 h | skip)) | with_reducible refine Arith.ok (by first | omega | (simp only [lm]; omega)) ?_ | with_reducible refine Idx.at (by first | omega | (simp only [lm] at *; omega)) (fun x hx => ?_) | with_reducible refine Idx.of_map (by first | omega | (simp only [lm] at *; omega)) (fun j x hj hx => ?_) | refine VC.mk (by first | omega | (simp only [lm]; omega)) ?_ | refine CallK.go (spec_in _ _ _) (fun _ => ?_) | refine CallD.go (spec_in _ _ _) ?_ | intro _)) <;> (try (conv => whnf))
    refine ⟨?_, rfl, trivial⟩
    simp [isMach, hr, e, List.getD_eq_getElem?_getD, hx]
theorem impl_RuleOk (p : Proj) (r : Rul) (hp : p.fine) : Con 95 [.d p.av, .d r.av] (.d (.bool (ruleOk p r))) := by
  refine con Tryz.func95 rfl rfl Tryz.call95 rfl fun hwf => ?_
  simp only [ARs.wf, AR.wf, AV.wf, AV.wfs, List.length_map, lim] at hwf
  (repeat' ((conv => whnf); first | (with_reducible first | refine Br.ff ?_ | refine Br.tt ?_ | refine Br.not ?_ | refine Br.yes (by assumption) ?_ | refine Br.no (by assumption) ?_ | (refine Br.dec (fun h => ?_) (fun h => ?_) <;> try simp only [lm] at h)) | ((with_reducible refine Br.mk (fun h => ?_) (fun h => ?_)) <;> (try simp only [lm] at h) <;> (first | have hw := within_iff.1 h | have hw := within_no.1 h | skip)) | with_reducible refine Arith.ok (by first | omega | (simp only [lm]; omega)) ?_ | refine VC.mk (by first | omega | (simp only [lm]; omega)) ?_ | refine CallK.go (impl_ProjectOk p hp) (fun _ => ?_) | refine CallD.go (impl_ProjectOk p hp) ?_ | refine CallK.go (impl_hasActivity p _) (fun _ => ?_) | refine CallD.go (impl_hasActivity p _) ?_ | refine CallK.go (impl_hasResource p _) (fun _ => ?_) | refine CallD.go (impl_hasResource p _) ?_ | refine CallK.go (impl_hasStock p _) (fun _ => ?_) | refine CallD.go (impl_hasStock p _) ?_ | refine CallK.go (impl_IsMachine p _) (fun _ => ?_) | refine CallD.go (impl_IsMachine p _) ?_ | refine CallK.go (impl_isTime _) (fun _ => ?_) | refine CallD.go (impl_isTime _) ?_ | refine CallK.go (impl_within _ _ _) (fun _ => ?_) | refine CallD.go (impl_within _ _ _) ?_ | intro _)) <;> (try (conv => whnf))
  all_goals refine ⟨?_, rfl, trivial⟩
  all_goals (simp [ruleOk, *]; done)
theorem spec_RuleOk (p : Proj) (r : Rul) (hp : p.fine) : Con 83 [.d p.av, .d r.av] (.d (.bool (ruleOk p r))) := by
  refine con Tryz.func83 rfl rfl Tryz.call83 rfl fun hwf => ?_
  simp only [ARs.wf, AR.wf, AV.wf, AV.wfs, List.length_map, lim] at hwf
  (repeat' ((conv => whnf); first | (with_reducible first | refine Br.ff ?_ | refine Br.tt ?_ | refine Br.not ?_ | refine Br.yes (by assumption) ?_ | refine Br.no (by assumption) ?_ | (refine Br.dec (fun h => ?_) (fun h => ?_) <;> try simp only [lm] at h)) | ((with_reducible refine Br.mk (fun h => ?_) (fun h => ?_)) <;> (try simp only [lm] at h) <;> (first | have hw := within_iff.1 h | have hw := within_no.1 h | skip)) | with_reducible refine Arith.ok (by first | omega | (simp only [lm]; omega)) ?_ | refine VC.mk (by first | omega | (simp only [lm]; omega)) ?_ | refine CallK.go (spec_ProjectOk p hp) (fun _ => ?_) | refine CallD.go (spec_ProjectOk p hp) ?_ | refine CallK.go (spec_IsMachine p _) (fun _ => ?_) | refine CallD.go (spec_IsMachine p _) ?_ | refine CallK.go (spec_in _ _ _) (fun _ => ?_) | refine CallD.go (spec_in _ _ _) ?_ | intro _)) <;> (try (conv => whnf))
  all_goals refine ⟨?_, rfl, trivial⟩
  all_goals (simp [ruleOk, hasAct, hasRes, hasStock, isTime, *]; done)
end Go.Proofs.YtgebcdkmchcifaaGreat.Abs
