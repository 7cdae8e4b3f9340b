/- Contracts: domains within others, logs. No statement of a claim. -/
import Derived.Test.YtagafgkmeekfoaaGreatC14
import Derived.Test.YtagafgkmeekfoaaGreatPlain
set_option linter.all false
set_option linter.unusedVariables false
set_option linter.unusedSimpArgs false
set_option maxRecDepth 20000
set_option maxHeartbeats 4000000
namespace Go.Proofs.YtagafgkmeekfoaaGreat.Abs
open Go.Proofs


theorem sameLens_iff {a b : Dom} : sameLens a b = true ↔ a.hi.length = a.lo.length ∧ a.modes.length = a.lo.length ∧ b.lo.length = a.lo.length ∧ b.hi.length = a.lo.length ∧ b.modes.length = a.lo.length := by
  simp only [sameLens, lens5, List.all_cons, List.all_nil, Bool.and_true, Bool.and_eq_true, decide_eq_true_eq]
  omega
theorem impl_DomainSubset (a b : Dom) : Con 89 [.d a.av, .d b.av] (.d (.bool (domSubset a b))) := by
  refine con Tryz.func89 rfl rfl Tryz.call89 rfl fun hwf => ?_
  simp only [ARs.wf, AR.wf, AV.wf, AV.wfs, List.length_map, lim] at hwf
  (repeat' ((conv => whnf); first | (with_reducible first | refine Br.ff ?_ | refine Br.tt ?_ | refine Br.not ?_ | refine Br.yes (by assumption) ?_ | refine Br.no (by assumption) ?_ | (refine Br.dec (fun h => ?_) (fun h => ?_) <;> try simp only [lm] at h)) | ((with_reducible refine Br.mk (fun h => ?_) (fun h => ?_)) <;> (try simp only [lm] at h) <;> (first | have hw := within_iff.1 h | have hw := within_no.1 h | skip)) | with_reducible refine Arith.ok (by first | omega | (simp only [lm]; omega)) ?_ | with_reducible refine Idx.at (by first | omega | (simp only [lm] at *; omega)) (fun x hx => ?_) | with_reducible refine Idx.of_map (by first | omega | (simp only [lm] at *; omega)) (fun j x hj hx => ?_) | refine VC.mk (by first | omega | (simp only [lm]; omega)) ?_ | intro _)) <;> (try (conv => whnf))
  refine loopF [2, 3, 5, 27, 28] [2, 3] [] ?_
  (conv => whnf)
  refine LoopC.mk ((Nat)) (fun k => (k ≤ 5) ∧ (((lens5 a b).drop k).all (fun n => decide (n = a.lo.length)) = sameLens a b)) (fun k => [(29, .data (i64 k))]) (fun _ => []) (fun _ => []) (fun k => 5 - k) (0) ?_ ?_ ?_
  rotate_left
  · (repeat' ((conv => whnf) <;> (first | exact trivial | exact rfl | with_reducible refine And.intro ?_ ?_)))
  rotate_left
  · exact ⟨by omega, rfl⟩
  rintro k ⟨hk, hi⟩
  by_cases hlt : k < (lens5 a b).length
  · obtain ⟨n, hn⟩ : ∃ n, (lens5 a b)[k]? = some n := ⟨(lens5 a b)[k]'hlt, by simp⟩
    rw [drop_get hn, List.all_cons] at hi
    have e5 : lens5 a b = [((a.hi.map i64).length : Int), ((a.modes.map ints).length : Int), ((b.lo.map i64).length : Int), ((b.hi.map i64).length : Int), ((b.modes.map ints).length : Int)] := by simp [lens5]
    have hn' := hn
    rw [e5] at hn'
    have h5 : (lens5 a b).length = 5 := rfl
    (repeat' ((conv => whnf); first | (refine Idx.got (f := i64) hn' rfl ?_) | (with_reducible first | refine Br.ff ?_ | refine Br.tt ?_ | refine Br.not ?_ | refine Br.yes (by assumption) ?_ | refine Br.no (by assumption) ?_ | (refine Br.dec (fun h => ?_) (fun h => ?_) <;> try simp only [lm] at h)) | ((with_reducible refine Br.mk (fun h => ?_) (fun h => ?_)) <;> (try simp only [lm] at h) <;> (first | have hw := within_iff.1 h | have hw := within_no.1 h | skip)) | with_reducible refine Arith.ok (by first | omega | (simp only [lm]; omega)) ?_ | with_reducible refine Idx.at (by first | omega | (simp only [lm] at *; omega)) (fun x hx => ?_) | with_reducible refine Idx.of_map (by first | omega | (simp only [lm] at *; omega)) (fun j x hj hx => ?_) | refine VC.mk (by first | omega | (simp only [lm]; omega)) ?_ | intro _)) <;> (try (conv => whnf))
    · refine ⟨(k + 1), ?_, rfl, ?_, ?_⟩
      rotate_left
      · (repeat' ((conv => whnf) <;> (first | exact trivial | exact rfl | with_reducible refine And.intro ?_ ?_)))
      · (try dsimp only); (try simp only [List.length_map]); omega
      rw [decide_eq_true h, Bool.true_and] at hi
      exact ⟨by omega, hi⟩
    · refine ⟨?_, rfl, trivial⟩
      rw [decide_eq_false h, Bool.false_and] at hi
      rw [domSubset, ← hi]; rfl
    · exfalso
      simp only [List.length_cons, List.length_nil] at *
      omega
  · have h5 : (lens5 a b).length = 5 := rfl
    have hs : sameLens a b = true := by rw [← hi, List.drop_eq_nil_of_le (by omega)]; rfl
    have hl := sameLens_iff.1 hs
    obtain rfl : k = 5 := by omega
    clear hi
    (repeat' ((conv => whnf); first | (with_reducible first | refine Br.ff ?_ | refine Br.tt ?_ | refine Br.not ?_ | refine Br.yes (by assumption) ?_ | refine Br.no (by assumption) ?_ | (refine Br.dec (fun h => ?_) (fun h => ?_) <;> try simp only [lm] at h)) | ((with_reducible refine Br.mk (fun h => ?_) (fun h => ?_)) <;> (try simp only [lm] at h) <;> (first | have hw := within_iff.1 h | have hw := within_no.1 h | skip)) | with_reducible refine Arith.ok (by first | omega | (simp only [lm]; omega)) ?_ | with_reducible refine Idx.at (by first | omega | (simp only [lm] at *; omega)) (fun x hx => ?_) | with_reducible refine Idx.of_map (by first | omega | (simp only [lm] at *; omega)) (fun j x hj hx => ?_) | refine VC.mk (by first | omega | (simp only [lm]; omega)) ?_ | intro _)) <;> (try (conv => whnf))
    · exfalso
      simp only [List.length_cons, List.length_nil] at h
      omega
    refine loopF [2, 3, 37] [2, 3] [] ?_
    (conv => whnf)
    refine LoopC.mk ((Nat)) (fun k => (k ≤ a.lo.length) ∧ (∀ i, i < k → subAt a b i = true)) (fun k => [(38, .data (i64 k))]) (fun _ => []) (fun _ => []) (fun k => a.lo.length - k) (0) ?_ ?_ ?_
    rotate_left
    · (repeat' ((conv => whnf) <;> (first | exact trivial | exact rfl | with_reducible refine And.intro ?_ ?_)))
    rotate_left
    · exact ⟨by omega, by omega⟩
    rintro k ⟨hk, hi⟩
    by_cases hlt : k < a.lo.length
    · obtain ⟨x, h1⟩ : ∃ x, a.lo[k]? = some x := ⟨a.lo[k]'(by omega), by simp⟩
      obtain ⟨x', h2⟩ : ∃ x, b.lo[k]? = some x := ⟨b.lo[k]'(by omega), by simp⟩
      obtain ⟨y, h3⟩ : ∃ x, a.hi[k]? = some x := ⟨a.hi[k]'(by omega), by simp⟩
      obtain ⟨y', h4⟩ : ∃ x, b.hi[k]? = some x := ⟨b.hi[k]'(by omega), by simp⟩
      obtain ⟨m, g5⟩ : ∃ x, a.modes[k]? = some x := ⟨a.modes[k]'(by omega), by simp⟩
      obtain ⟨m', g6⟩ : ∃ x, b.modes[k]? = some x := ⟨b.modes[k]'(by omega), by simp⟩
      have e : subAt a b k = (!decide (x < x') && (!decide (y > y') && subset m m')) := by simp only [subAt, h1, h2, h3, h4, g5, g6]
      (repeat' ((conv => whnf); first | with_reducible refine Idx.got h1 rfl ?_ | with_reducible refine Idx.got h2 rfl ?_ | with_reducible refine Idx.got h3 rfl ?_ | with_reducible refine Idx.got h4 rfl ?_ | with_reducible refine Idx.got g5 rfl ?_ | with_reducible refine Idx.got g6 rfl ?_ | (with_reducible first | refine Br.ff ?_ | refine Br.tt ?_ | refine Br.not ?_ | refine Br.yes (by assumption) ?_ | refine Br.no (by assumption) ?_ | (refine Br.dec (fun h => ?_) (fun h => ?_) <;> try simp only [lm] at h)) | ((with_reducible refine Br.mk (fun h => ?_) (fun h => ?_)) <;> (try simp only [lm] at h) <;> (first | have hw := within_iff.1 h | have hw := within_no.1 h | skip)) | with_reducible refine Arith.ok (by first | omega | (simp only [lm]; omega)) ?_ | with_reducible refine Idx.at (by first | omega | (simp only [lm] at *; omega)) (fun x hx => ?_) | with_reducible refine Idx.of_map (by first | omega | (simp only [lm] at *; omega)) (fun j x hj hx => ?_) | refine VC.mk (by first | omega | (simp only [lm]; omega)) ?_ | refine CallK.mk _ (impl_SetSubset m m') (fun _ => ?_) | refine CallD.mk _ (fun _ hk => CallK.mk _ (impl_SetSubset m m') (fun _ => hk)) ?_ | intro _)) <;> (try (conv => whnf))
      · refine ⟨?_, rfl, trivial⟩
        rw [domSubset, allN_no k hlt (by rw [e, decide_eq_true h]; rfl), Bool.and_false]
      · refine ⟨?_, rfl, trivial⟩
        rw [domSubset, allN_no k hlt (by rw [e, decide_eq_true h]; simp), Bool.and_false]
      · refine ⟨(k + 1), ?_, rfl, ?_, ?_⟩
        rotate_left
        · (repeat' ((conv => whnf) <;> (first | exact trivial | exact rfl | with_reducible refine And.intro ?_ ?_)))
        · (try dsimp only); (try simp only [List.length_map]); omega
        exact ⟨by omega, allN_step hi (by rw [e, h]; simp; omega)⟩
      · refine ⟨?_, rfl, trivial⟩
        rw [domSubset, allN_no k hlt (by rw [e, h]; simp), Bool.and_false]
      all_goals (exfalso; omega)
    · (repeat' ((conv => whnf); first | (exfalso; omega) | (with_reducible first | refine Br.ff ?_ | refine Br.tt ?_ | refine Br.not ?_ | refine Br.yes (by assumption) ?_ | refine Br.no (by assumption) ?_ | (refine Br.dec (fun h => ?_) (fun h => ?_) <;> try simp only [lm] at h)) | ((with_reducible refine Br.mk (fun h => ?_) (fun h => ?_)) <;> (try simp only [lm] at h) <;> (first | have hw := within_iff.1 h | have hw := within_no.1 h | skip)) | with_reducible refine Arith.ok (by first | omega | (simp only [lm]; omega)) ?_ | with_reducible refine Idx.at (by first | omega | (simp only [lm] at *; omega)) (fun x hx => ?_) | with_reducible refine Idx.of_map (by first | omega | (simp only [lm] at *; omega)) (fun j x hj hx => ?_) | refine VC.mk (by first | omega | (simp only [lm]; omega)) ?_ | intro _)) <;> (try (conv => whnf))
      refine ⟨?_, rfl, trivial⟩
      rw [domSubset, hs, allN_iff.2 fun i hh => hi i (by omega)]; rfl
end Go.Proofs.YtagafgkmeekfoaaGreat.Abs
