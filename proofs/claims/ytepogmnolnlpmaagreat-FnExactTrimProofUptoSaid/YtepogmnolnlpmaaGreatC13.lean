/- Contracts: lines that are checked. No statement of a claim. -/
import Derived.Test.YtepogmnolnlpmaaGreatC12
set_option linter.all false
set_option linter.unusedVariables false
set_option linter.unusedSimpArgs false
set_option maxRecDepth 20000
set_option maxHeartbeats 4000000
namespace Go.Proofs.YtepogmnolnlpmaaGreat.Abs
open Go.Proofs


theorem slices_Clone_lit (l : List Lit) : Con 56 [.d (lits l)] (.own 88 (l.map Lit.av)) := by
  refine con Tryz.func56 rfl rfl Tryz.call56 rfl fun hwf => ?_
  simp only [ARs.wf, AR.wf, AV.wf, AV.wfs, List.length_map, lim] at hwf
  (repeat' ((conv => whnf); first | refine gA ?_ | refine NilQ.mk (fun h => ?_) ?_ | ((with_reducible first | refine gD (fun h => ?_) (fun h => ?_) | refine gE (fun h => ?_) (fun h => ?_)) <;> (try simp only [lm] at h) <;> try have hw := wn h) | refine gP ?_ | intro _)) <;> (try (conv => whnf))
  · exact ⟨h, rfl, trivial⟩
  · exact ⟨by simp, rfl, trivial⟩
theorem impl_Clauses (l : List Lin) : Con 282 [.d (.sl (l.map Lin.av))] (.d (.sl ((l.map Lin.clause).map lits))) := by
  refine con Tryz.func282 rfl rfl Tryz.call282 rfl fun hwf => ?_
  simp only [ARs.wf, AR.wf, AV.wf, AV.wfs, List.length_map, lim] at hwf
  (repeat' ((conv => whnf); first | refine gA ?_ | ((with_reducible first | refine gD (fun h => ?_) (fun h => ?_) | refine gE (fun h => ?_) (fun h => ?_)) <;> (try simp only [lm] at h) <;> try have hw := wn h) | with_reducible refine gI (fun x hx => ?_) | with_reducible refine gJ (fun j x hj hx => ?_) | refine gP ?_ | refine gV ?_ | intro _)) <;> (try (conv => whnf))
  refine loopF [7, 8] [] [6] ?_
  (conv => whnf)
  refine LoopC.go ((Nat)) (fun k => (k ≤ l.length)) (fun k => [(9, .data (i64 k)), (3, .own 6 0)]) (fun _ => []) (fun k => [(6, 33, (l.take k).map (fun x => lits x.clause), 0)]) (fun k => l.length - k) (0) ?_ ?_
  · exact Nat.zero_le _
  rintro k hk
  (repeat' ((conv => whnf); first | refine gA ?_ | ((with_reducible first | refine gD (fun h => ?_) (fun h => ?_) | refine gE (fun h => ?_) (fun h => ?_)) <;> (try simp only [lm] at h) <;> try have hw := wn h) | with_reducible refine gI (fun x hx => ?_) | with_reducible refine gJ (fun j x hj hx => ?_) | refine gP ?_ | refine gV ?_ | refine gC (slices_Clone_lit x.clause) ?_ | intro _)) <;> (try (conv => whnf))
  · refine nw (k + 1) ?_ ?_
    · (repeat' ((conv => whnf) <;> (first | exact trivial | exact rfl | with_reducible refine And.intro ?_ ?_))) <;> ((conv => whnf) <;> (exact map_take_succ (fun x => lits x.clause) hx))
    exact (by omega : k + 1 ≤ l.length)
  · refine ⟨?_, rfl, trivial⟩
    dsimp only
    rw [List.take_of_length_le (by omega)]; simp [Function.comp_def]
theorem spec_Clauses (l : List Lin) : Con 312 [.d (.sl (l.map Lin.av))] (.d (.sl ((l.map Lin.clause).map lits))) := by
  refine con Tryz.func312 rfl rfl Tryz.call312 rfl fun hwf => ?_
  simp only [ARs.wf, AR.wf, AV.wf, AV.wfs, List.length_map, lim] at hwf
  (repeat' ((conv => whnf); first | refine gA ?_ | ((with_reducible first | refine gD (fun h => ?_) (fun h => ?_) | refine gE (fun h => ?_) (fun h => ?_)) <;> (try simp only [lm] at h) <;> try have hw := wn h) | with_reducible refine gI (fun x hx => ?_) | with_reducible refine gJ (fun j x hj hx => ?_) | refine gP ?_ | refine gV ?_ | intro _)) <;> (try (conv => whnf))
  refine loopF [7, 8] [] [6] ?_
  (conv => whnf)
  refine LoopC.go ((Nat)) (fun k => (k ≤ l.length)) (fun k => [(9, .data (i64 k)), (3, .own 6 0)]) (fun _ => []) (fun k => [(6, 33, (l.take k).map (fun x => lits x.clause), 0)]) (fun k => l.length - k) (0) ?_ ?_
  · exact Nat.zero_le _
  rintro k hk
  by_cases hlt : k < l.length
  · obtain ⟨x, hx⟩ : ∃ x, l[k]? = some x := ⟨l[k]'hlt, by simp⟩
    have hm := wfs_get hwf.1.2 hx
    simp only [AV.wf, AV.wfs, List.length_map] at hm
    (repeat' ((conv => whnf); first | with_reducible refine Idx.got hx rfl ?_ | refine gA ?_ | ((with_reducible first | refine gD (fun h => ?_) (fun h => ?_) | refine gE (fun h => ?_) (fun h => ?_)) <;> (try simp only [lm] at h) <;> try have hw := wn h) | with_reducible refine gI (fun x hx => ?_) | with_reducible refine gJ (fun j x hj hx => ?_) | refine gP ?_ | refine gV ?_ | intro _)) <;> (try (conv => whnf))
    · refine nw (k + 1) ?_ ?_
      · (repeat' ((conv => whnf) <;> (first | exact trivial | exact rfl | with_reducible refine And.intro ?_ ?_))) <;> ((conv => whnf) <;> (exact map_take_succ (fun x => lits x.clause) hx))
      exact (by omega : k + 1 ≤ l.length)
    · exfalso; omega
  · (repeat' ((conv => whnf); first | (exfalso; omega) | refine gA ?_ | ((with_reducible first | refine gD (fun h => ?_) (fun h => ?_) | refine gE (fun h => ?_) (fun h => ?_)) <;> (try simp only [lm] at h) <;> try have hw := wn h) | with_reducible refine gI (fun x hx => ?_) | with_reducible refine gJ (fun j x hj hx => ?_) | refine gP ?_ | refine gV ?_ | intro _)) <;> (try (conv => whnf))
    refine ⟨?_, rfl, trivial⟩
    dsimp only
    rw [List.take_of_length_le (by omega)]; simp [Function.comp_def]
theorem impl_LineOk (p : Proj) (l : Lin) (hp : p.fine) : Con 280 [.d p.av, .d l.av] (.d (.bool (lineOk p l))) := by
  refine con Tryz.func280 rfl rfl Tryz.call280 rfl fun hwf => ?_
  (repeat' ((conv => whnf); first | refine gA ?_ | ((with_reducible first | refine gD (fun h => ?_) (fun h => ?_) | refine gE (fun h => ?_) (fun h => ?_)) <;> (try simp only [lm] at h) <;> try have hw := wn h) | refine gC (impl_ClauseOk p l.clause hp) ?_ | intro _)) <;> (try (conv => whnf))
  all_goals refine ⟨?_, rfl, trivial⟩
  all_goals (simp [lineOk, isLine2, *]; try rfl)
theorem spec_LineOk (p : Proj) (l : Lin) (hp : p.fine) : Con 310 [.d p.av, .d l.av] (.d (.bool (lineOk p l))) := by
  refine con Tryz.func310 rfl rfl Tryz.call310 rfl fun hwf => ?_
  (repeat' ((conv => whnf); first | refine gA ?_ | ((with_reducible first | refine gD (fun h => ?_) (fun h => ?_) | refine gE (fun h => ?_) (fun h => ?_)) <;> (try simp only [lm] at h) <;> try have hw := wn h) | refine gC (spec_ClauseOk p l.clause hp) ?_ | intro _)) <;> (try (conv => whnf))
  all_goals refine ⟨?_, rfl, trivial⟩
  all_goals (simp [lineOk, isLine2, *]; try rfl)
theorem impl_CheckLine (p : Proj) (ahead : List Lin) (l : Lin) (hp : p.fine) : Con 203 [.d p.av, .d (.sl (ahead.map Lin.av)), .d l.av] (.d (i64 (checkLine p ahead l))) := by
  refine con Tryz.func203 rfl rfl Tryz.call203 rfl fun hwf => ?_
  simp only [ARs.wf, AR.wf, AV.wf, AV.wfs, List.length_map, lim] at hwf
  (repeat' ((conv => whnf); first | refine gA ?_ | ((with_reducible first | refine gD (fun h => ?_) (fun h => ?_) | refine gE (fun h => ?_) (fun h => ?_)) <;> (try simp only [lm] at h) <;> try have hw := wn h) | refine gC (impl_ProjectOk p hp) ?_ | refine gC (impl_LineOk p l hp) ?_ | refine gC (impl_ClauseFollows p l.rule l.clause hp) ?_ | refine gC (impl_Clauses ahead) ?_ | refine gC (impl_NegatedDomain p l.clause hp) ?_ | refine gC (impl_UnitPropagate p (ahead.map Lin.clause) (negDom p l.clause) hp) ?_ | intro _)) <;> (try (conv => whnf))
  all_goals refine ⟨?_, rfl, trivial⟩
  all_goals (simp [checkLine, *]; try omega)
theorem spec_CheckLine (p : Proj) (ahead : List Lin) (l : Lin) (hp : p.fine) : Con 231 [.d p.av, .d (.sl (ahead.map Lin.av)), .d l.av] (.d (i64 (checkLine p ahead l))) := by
  refine con Tryz.func231 rfl rfl Tryz.call231 rfl fun hwf => ?_
  simp only [ARs.wf, AR.wf, AV.wf, AV.wfs, List.length_map, lim] at hwf
  (repeat' ((conv => whnf); first | refine gA ?_ | ((with_reducible first | refine gD (fun h => ?_) (fun h => ?_) | refine gE (fun h => ?_) (fun h => ?_)) <;> (try simp only [lm] at h) <;> try have hw := wn h) | refine gC (spec_ProjectOk p hp) ?_ | refine gC (spec_LineOk p l hp) ?_ | refine gC (spec_ClauseFollows p l.rule l.clause hp) ?_ | refine gC (spec_Clauses ahead) ?_ | refine gC (spec_NegatedDomain p l.clause hp) ?_ | refine gC (spec_UnitPropagate p (ahead.map Lin.clause) (negDom p l.clause) hp) ?_ | intro _)) <;> (try (conv => whnf))
  all_goals refine ⟨?_, rfl, trivial⟩
  all_goals (simp [checkLine, *]; try omega)
end Go.Proofs.YtepogmnolnlpmaaGreat.Abs
