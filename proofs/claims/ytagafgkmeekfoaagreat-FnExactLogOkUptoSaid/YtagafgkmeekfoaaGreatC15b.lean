/- Contracts: domains within others, by the reference. No statement of a claim. -/
import Derived.Test.YtagafgkmeekfoaaGreatC15
set_option linter.all false
set_option linter.unusedVariables false
set_option linter.unusedSimpArgs false
set_option maxRecDepth 20000
set_option maxHeartbeats 4000000
namespace Go.Proofs.YtagafgkmeekfoaaGreat.Abs
open Go.Proofs


theorem spec_DomainSubset (a b : Dom) : Con 83 [.d a.av, .d b.av] (.d (.bool (domSubset a b))) := by
  refine con Tryz.func83 rfl rfl Tryz.call83 rfl fun hwf => ?_
  simp only [ARs.wf, AR.wf, AV.wf, AV.wfs, List.length_map, lim] at hwf
  cases hs : sameLens a b with
  | false =>
    (repeat' ((conv => whnf); first | (with_reducible first | refine Br.ff ?_ | refine Br.tt ?_ | refine Br.not ?_ | refine Br.yes (by assumption) ?_ | refine Br.no (by assumption) ?_ | (refine Br.dec (fun h => ?_) (fun h => ?_) <;> try simp only [lm] at h)) | ((with_reducible refine Br.mk (fun h => ?_) (fun h => ?_)) <;> (try simp only [lm] at h) <;> (first | have hw := within_iff.1 h | have hw := within_no.1 h | skip)) | with_reducible refine Arith.ok (by first | omega | (simp only [lm]; omega)) ?_ | with_reducible refine Idx.at (by first | omega | (simp only [lm] at *; omega)) (fun x hx => ?_) | with_reducible refine Idx.of_map (by first | omega | (simp only [lm] at *; omega)) (fun j x hj hx => ?_) | refine VC.mk (by first | omega | (simp only [lm]; omega)) ?_ | intro _)) <;> (try (conv => whnf))
    all_goals first
      | (refine ⟨?_, rfl, trivial⟩; simp [domSubset, hs]; done)
      | (exfalso; rw [← Bool.not_eq_true, sameLens_iff] at hs; omega)
  | true =>
    have hl := sameLens_iff.1 hs
    (repeat' ((conv => whnf); first | (with_reducible first | refine Br.ff ?_ | refine Br.tt ?_ | refine Br.not ?_ | refine Br.yes (by assumption) ?_ | refine Br.no (by assumption) ?_ | (refine Br.dec (fun h => ?_) (fun h => ?_) <;> try simp only [lm] at h)) | ((with_reducible refine Br.mk (fun h => ?_) (fun h => ?_)) <;> (try simp only [lm] at h) <;> (first | have hw := within_iff.1 h | have hw := within_no.1 h | skip)) | with_reducible refine Arith.ok (by first | omega | (simp only [lm]; omega)) ?_ | with_reducible refine Idx.at (by first | omega | (simp only [lm] at *; omega)) (fun x hx => ?_) | with_reducible refine Idx.of_map (by first | omega | (simp only [lm] at *; omega)) (fun j x hj hx => ?_) | refine VC.mk (by first | omega | (simp only [lm]; omega)) ?_ | intro _)) <;> (try (conv => whnf))
    all_goals try (exfalso; omega)
    refine loopF [2, 3, 45] [2, 3] [] ?_
    (conv => whnf)
    refine LoopC.mk ((Nat)) (fun k => (k ≤ a.lo.length) ∧ (∀ i, i < k → subAt a b i = true)) (fun k => [(46, .data (i64 k))]) (fun _ => []) (fun _ => []) (fun k => a.lo.length - k) (0) ?_ ?_ ?_
    rotate_left
    · (repeat' ((conv => whnf) <;> (first | exact trivial | exact rfl | with_reducible refine And.intro ?_ ?_)))
    rotate_left
    · exact ⟨by omega, by omega⟩
    rintro k ⟨hk, hi⟩
    by_cases hlt : k < a.lo.length
    · obtain ⟨x, h1⟩ : ∃ x, a.lo[k]? = some x := ⟨a.lo[k]'(by omega), by simp⟩
      obtain ⟨x', h2⟩ : ∃ x, b.lo[k]? = some x := ⟨b.lo[k]'(by omega), by simp⟩
      obtain ⟨y, h3⟩ : ∃ x, a.hi[k]? = some x := ⟨a.hi[k]'(by omega), by simp⟩
      obtain ⟨y', h4⟩ : ∃ x, b.hi[k]? = some x := ⟨b.hi[k]'(by omega), by simp⟩
      obtain ⟨m, g5⟩ : ∃ x, a.modes[k]? = some x := ⟨a.modes[k]'(by omega), by simp⟩
      obtain ⟨m', g6⟩ : ∃ x, b.modes[k]? = some x := ⟨b.modes[k]'(by omega), by simp⟩
      have e : subAt a b k = (!decide (x < x') && (!decide (y > y') && subset m m')) := by simp only [subAt, h1, h2, h3, h4, g5, g6]
      (repeat' ((conv => whnf); first | with_reducible refine Idx.got h1 rfl ?_ | with_reducible refine Idx.got h2 rfl ?_ | with_reducible refine Idx.got h3 rfl ?_ | with_reducible refine Idx.got h4 rfl ?_ | with_reducible refine Idx.got g5 rfl ?_ | with_reducible refine Idx.got g6 rfl ?_ | (with_reducible first | refine Br.ff ?_ | refine Br.tt ?_ | refine Br.not ?_ | refine Br.yes (by assumption) ?_ | refine Br.no (by assumption) ?_ | (refine Br.dec (fun h => ?_) (fun h => ?_) <;> try simp only [lm] at h)) | ((with_reducible refine Br.mk (fun h => ?_) (fun h => ?_)) <;> (try simp only [lm] at h) <;> (first | have hw := within_iff.1 h | have hw := within_no.1 h | skip)) | with_reducible refine Arith.ok (by first | omega | (simp only [lm]; omega)) ?_ | with_reducible refine Idx.at (by first | omega | (simp only [lm] at *; omega)) (fun x hx => ?_) | with_reducible refine Idx.of_map (by first | omega | (simp only [lm] at *; omega)) (fun j x hj hx => ?_) | refine VC.mk (by first | omega | (simp only [lm]; omega)) ?_ | refine CallK.mk _ (spec_SetSubset m m') (fun _ => ?_) | refine CallD.mk _ (fun _ hk => CallK.mk _ (spec_SetSubset m m') (fun _ => hk)) ?_ | intro _)) <;> (try (conv => whnf))
      · refine ⟨?_, rfl, trivial⟩
        rw [domSubset, allN_no k hlt (by rw [e, decide_eq_true h]; rfl), Bool.and_false]
      · refine ⟨?_, rfl, trivial⟩
        rw [domSubset, allN_no k hlt (by rw [e, decide_eq_true h]; simp), Bool.and_false]
      · refine ⟨(k + 1), ?_, rfl, ?_, ?_⟩
        rotate_left
        · (repeat' ((conv => whnf) <;> (first | exact trivial | exact rfl | with_reducible refine And.intro ?_ ?_)))
        · (try dsimp only); (try simp only [List.length_map]); omega
        exact ⟨by omega, allN_step hi (by rw [e, h]; simp; omega)⟩
      · refine ⟨?_, rfl, trivial⟩
        rw [domSubset, allN_no k hlt (by rw [e, h]; simp), Bool.and_false]
      all_goals (exfalso; omega)
    · (repeat' ((conv => whnf); first | (exfalso; omega) | (with_reducible first | refine Br.ff ?_ | refine Br.tt ?_ | refine Br.not ?_ | refine Br.yes (by assumption) ?_ | refine Br.no (by assumption) ?_ | (refine Br.dec (fun h => ?_) (fun h => ?_) <;> try simp only [lm] at h)) | ((with_reducible refine Br.mk (fun h => ?_) (fun h => ?_)) <;> (try simp only [lm] at h) <;> (first | have hw := within_iff.1 h | have hw := within_no.1 h | skip)) | with_reducible refine Arith.ok (by first | omega | (simp only [lm]; omega)) ?_ | with_reducible refine Idx.at (by first | omega | (simp only [lm] at *; omega)) (fun x hx => ?_) | with_reducible refine Idx.of_map (by first | omega | (simp only [lm] at *; omega)) (fun j x hj hx => ?_) | refine VC.mk (by first | omega | (simp only [lm]; omega)) ?_ | intro _)) <;> (try (conv => whnf))
      refine ⟨?_, rfl, trivial⟩
      rw [domSubset, hs, allN_iff.2 fun i hh => hi i (by omega)]; rfl
end Go.Proofs.YtagafgkmeekfoaaGreat.Abs
