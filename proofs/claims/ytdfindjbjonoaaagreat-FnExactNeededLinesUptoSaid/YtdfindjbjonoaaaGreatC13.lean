/- Contracts: lines that are checked. No statement of a claim. -/
import Derived.Test.YtdfindjbjonoaaaGreatC12
set_option linter.all false
set_option linter.unusedVariables false
set_option linter.unusedSimpArgs false
set_option maxRecDepth 20000
set_option maxHeartbeats 4000000
namespace Go.Proofs.YtdfindjbjonoaaaGreat.Abs
open Go.Proofs


theorem slices_Clone_lit (l : List Lit) : Con 81 [.d (lits l)] (.own 63 (l.map Lit.av)) := by
  refine con Tryz.func81 rfl rfl Tryz.call81 rfl fun hwf => ?_
  simp only [ARs.wf, AR.wf, AV.wf, AV.wfs, List.length_map, lim] at hwf
  (repeat' ((conv => whnf); first | (with_reducible first | refine Br.ff ?_ | refine Br.tt ?_ | refine NilQ.mk (fun h => ?_) ?_ | refine Br.not ?_ | refine Br.yes (by assumption) ?_ | refine Br.no (by assumption) ?_ | (refine Br.dec (fun h => ?_) (fun h => ?_) <;> try simp only [lm] at h)) | ((with_reducible refine Br.mk (fun h => ?_) (fun h => ?_)) <;> (try simp only [lm] at h) <;> (first | have hw := within_iff.1 h | have hw := within_no.1 h | skip)) | refine VC.one (by (try dsimp only); unfold lim; first | omega | (simp only [lens, subList, upTo_len] at *; omega)) rfl ?_ | refine VC.one0 (by decide) rfl ?_ | refine VC.all (by (try dsimp only); unfold lim; first | omega | (simp only [lens, subList, upTo_len] at *; omega)) (fun _ => rfl) ?_ | refine VC.all0 (by (try dsimp only); unfold lim; first | omega | (simp only [lens, subList, upTo_len] at *; omega)) (fun _ => rfl) ?_ | intro _)) <;> (try (conv => whnf))
  · exact ⟨h, rfl, trivial⟩
  · exact ⟨by simp, rfl, trivial⟩
theorem impl_Clauses (l : List Lin) : Con 412 [.d (.sl (l.map Lin.av))] (.d (.sl ((l.map Lin.clause).map lits))) := by
  refine con Tryz.func412 rfl rfl Tryz.call412 rfl fun hwf => ?_
  simp only [ARs.wf, AR.wf, AV.wf, AV.wfs, List.length_map, lim] at hwf
  (repeat' ((conv => whnf); first | (with_reducible first | refine Br.ff ?_ | refine Br.tt ?_ | refine Br.not ?_ | refine Br.yes (by assumption) ?_ | refine Br.no (by assumption) ?_ | (refine Br.dec (fun h => ?_) (fun h => ?_) <;> try simp only [lm] at h)) | ((with_reducible refine Br.mk (fun h => ?_) (fun h => ?_)) <;> (try simp only [lm] at h) <;> (first | have hw := within_iff.1 h | have hw := within_no.1 h | skip)) | with_reducible refine Arith.ok (by first | omega | (simp only [lm]; omega)) ?_ | with_reducible refine Idx.at (by first | omega | (simp only [lm] at *; omega)) (fun x hx => ?_) | with_reducible refine Idx.of_map (by first | omega | (simp only [lm] at *; omega)) (fun j x hj hx => ?_) | refine VC.one (by (try dsimp only); unfold lim; first | omega | (simp only [lens, subList, upTo_len] at *; omega)) rfl ?_ | refine VC.one0 (by decide) rfl ?_ | refine VC.all (by (try dsimp only); unfold lim; first | omega | (simp only [lens, subList, upTo_len] at *; omega)) (fun _ => rfl) ?_ | refine VC.all0 (by (try dsimp only); unfold lim; first | omega | (simp only [lens, subList, upTo_len] at *; omega)) (fun _ => rfl) ?_ | refine VC.mk (by first | omega | (simp only [lm]; omega)) ?_ | intro _)) <;> (try (conv => whnf))
  refine loopF [7, 8] [] [6] ?_
  (conv => whnf)
  refine LoopC.mk ((Nat)) (fun k => (k ≤ l.length)) (fun k => [(9, .data (i64 k)), (3, .own 6 0)]) (fun _ => []) (fun k => [(6, 33, (l.take k).map (fun x => lits x.clause))]) (fun k => l.length - k) (0) ?_ ?_ ?_
  rotate_left
  · (repeat' ((conv => whnf) <;> (first | exact trivial | exact rfl | with_reducible refine And.intro ?_ ?_)))
  rotate_left
  · exact Nat.zero_le _
  rintro k hk
  (repeat' ((conv => whnf); first | (with_reducible first | refine Br.ff ?_ | refine Br.tt ?_ | refine Br.not ?_ | refine Br.yes (by assumption) ?_ | refine Br.no (by assumption) ?_ | (refine Br.dec (fun h => ?_) (fun h => ?_) <;> try simp only [lm] at h)) | ((with_reducible refine Br.mk (fun h => ?_) (fun h => ?_)) <;> (try simp only [lm] at h) <;> (first | have hw := within_iff.1 h | have hw := within_no.1 h | skip)) | with_reducible refine Arith.ok (by first | omega | (simp only [lm]; omega)) ?_ | with_reducible refine Idx.at (by first | omega | (simp only [lm] at *; omega)) (fun x hx => ?_) | with_reducible refine Idx.of_map (by first | omega | (simp only [lm] at *; omega)) (fun j x hj hx => ?_) | refine VC.one (by (try dsimp only); unfold lim; first | omega | (simp only [lens, subList, upTo_len] at *; omega)) rfl ?_ | refine VC.one0 (by decide) rfl ?_ | refine VC.all (by (try dsimp only); unfold lim; first | omega | (simp only [lens, subList, upTo_len] at *; omega)) (fun _ => rfl) ?_ | refine VC.all0 (by (try dsimp only); unfold lim; first | omega | (simp only [lens, subList, upTo_len] at *; omega)) (fun _ => rfl) ?_ | refine VC.mk (by first | omega | (simp only [lm]; omega)) ?_ | refine CallK.mk _ (slices_Clone_lit x.clause) (fun _ => ?_) | refine CallD.mk _ (fun _ hk => CallK.mk _ (slices_Clone_lit x.clause) (fun _ => hk)) ?_ | intro _)) <;> (try (conv => whnf))
  · refine ⟨(k + 1), ?_, rfl, ?_, ?_⟩
    rotate_left
    · (repeat' ((conv => whnf) <;> (first | exact trivial | exact rfl | with_reducible refine And.intro ?_ ?_))) <;> ((conv => whnf) <;> (exact map_take_succ (fun x => lits x.clause) hx))
    · (try dsimp only); (try simp only [List.length_map]); omega
    exact (by omega : k + 1 ≤ l.length)
  · refine ⟨?_, rfl, trivial⟩
    dsimp only
    rw [List.take_of_length_le (by omega)]; simp [Function.comp_def]
theorem spec_Clauses (l : List Lin) : Con 336 [.d (.sl (l.map Lin.av))] (.d (.sl ((l.map Lin.clause).map lits))) := by
  refine con Tryz.func336 rfl rfl Tryz.call336 rfl fun hwf => ?_
  simp only [ARs.wf, AR.wf, AV.wf, AV.wfs, List.length_map, lim] at hwf
  (repeat' ((conv => whnf); first | (with_reducible first | refine Br.ff ?_ | refine Br.tt ?_ | refine Br.not ?_ | refine Br.yes (by assumption) ?_ | refine Br.no (by assumption) ?_ | (refine Br.dec (fun h => ?_) (fun h => ?_) <;> try simp only [lm] at h)) | ((with_reducible refine Br.mk (fun h => ?_) (fun h => ?_)) <;> (try simp only [lm] at h) <;> (first | have hw := within_iff.1 h | have hw := within_no.1 h | skip)) | with_reducible refine Arith.ok (by first | omega | (simp only [lm]; omega)) ?_ | with_reducible refine Idx.at (by first | omega | (simp only [lm] at *; omega)) (fun x hx => ?_) | with_reducible refine Idx.of_map (by first | omega | (simp only [lm] at *; omega)) (fun j x hj hx => ?_) | refine VC.one (by (try dsimp only); unfold lim; first | omega | (simp only [lens, subList, upTo_len] at *; omega)) rfl ?_ | refine VC.one0 (by decide) rfl ?_ | refine VC.all (by (try dsimp only); unfold lim; first | omega | (simp only [lens, subList, upTo_len] at *; omega)) (fun _ => rfl) ?_ | refine VC.all0 (by (try dsimp only); unfold lim; first | omega | (simp only [lens, subList, upTo_len] at *; omega)) (fun _ => rfl) ?_ | refine VC.mk (by first | omega | (simp only [lm]; omega)) ?_ | intro _)) <;> (try (conv => whnf))
  refine loopF [7, 8] [] [6] ?_
  (conv => whnf)
  refine LoopC.mk ((Nat)) (fun k => (k ≤ l.length)) (fun k => [(9, .data (i64 k)), (3, .own 6 0)]) (fun _ => []) (fun k => [(6, 33, (l.take k).map (fun x => lits x.clause))]) (fun k => l.length - k) (0) ?_ ?_ ?_
  rotate_left
  · (repeat' ((conv => whnf) <;> (first | exact trivial | exact rfl | with_reducible refine And.intro ?_ ?_)))
  rotate_left
  · exact Nat.zero_le _
  rintro k hk
  by_cases hlt : k < l.length
  · obtain ⟨x, hx⟩ : ∃ x, l[k]? = some x := ⟨l[k]'hlt, by simp⟩
    have hm := wfs_get hwf.1.2 hx
    simp only [AV.wf, AV.wfs, List.length_map] at hm
    (repeat' ((conv => whnf); first | with_reducible refine Idx.got hx rfl ?_ | (with_reducible first | refine Br.ff ?_ | refine Br.tt ?_ | refine Br.not ?_ | refine Br.yes (by assumption) ?_ | refine Br.no (by assumption) ?_ | (refine Br.dec (fun h => ?_) (fun h => ?_) <;> try simp only [lm] at h)) | ((with_reducible refine Br.mk (fun h => ?_) (fun h => ?_)) <;> (try simp only [lm] at h) <;> (first | have hw := within_iff.1 h | have hw := within_no.1 h | skip)) | with_reducible refine Arith.ok (by first | omega | (simp only [lm]; omega)) ?_ | with_reducible refine Idx.at (by first | omega | (simp only [lm] at *; omega)) (fun x hx => ?_) | with_reducible refine Idx.of_map (by first | omega | (simp only [lm] at *; omega)) (fun j x hj hx => ?_) | refine VC.one (by (try dsimp only); unfold lim; first | omega | (simp only [lens, subList, upTo_len] at *; omega)) rfl ?_ | refine VC.one0 (by decide) rfl ?_ | refine VC.all (by (try dsimp only); unfold lim; first | omega | (simp only [lens, subList, upTo_len] at *; omega)) (fun _ => rfl) ?_ | refine VC.all0 (by (try dsimp only); unfold lim; first | omega | (simp only [lens, subList, upTo_len] at *; omega)) (fun _ => rfl) ?_ | refine VC.mk (by first | omega | (simp only [lm]; omega)) ?_ | intro _)) <;> (try (conv => whnf))
    · refine ⟨(k + 1), ?_, rfl, ?_, ?_⟩
      rotate_left
      · (repeat' ((conv => whnf) <;> (first | exact trivial | exact rfl | with_reducible refine And.intro ?_ ?_))) <;> ((conv => whnf) <;> (exact map_take_succ (fun x => lits x.clause) hx))
      · (try dsimp only); (try simp only [List.length_map]); omega
      exact (by omega : k + 1 ≤ l.length)
    · exfalso; omega
  · (repeat' ((conv => whnf); first | (exfalso; omega) | (with_reducible first | refine Br.ff ?_ | refine Br.tt ?_ | refine Br.not ?_ | refine Br.yes (by assumption) ?_ | refine Br.no (by assumption) ?_ | (refine Br.dec (fun h => ?_) (fun h => ?_) <;> try simp only [lm] at h)) | ((with_reducible refine Br.mk (fun h => ?_) (fun h => ?_)) <;> (try simp only [lm] at h) <;> (first | have hw := within_iff.1 h | have hw := within_no.1 h | skip)) | with_reducible refine Arith.ok (by first | omega | (simp only [lm]; omega)) ?_ | with_reducible refine Idx.at (by first | omega | (simp only [lm] at *; omega)) (fun x hx => ?_) | with_reducible refine Idx.of_map (by first | omega | (simp only [lm] at *; omega)) (fun j x hj hx => ?_) | refine VC.one (by (try dsimp only); unfold lim; first | omega | (simp only [lens, subList, upTo_len] at *; omega)) rfl ?_ | refine VC.one0 (by decide) rfl ?_ | refine VC.all (by (try dsimp only); unfold lim; first | omega | (simp only [lens, subList, upTo_len] at *; omega)) (fun _ => rfl) ?_ | refine VC.all0 (by (try dsimp only); unfold lim; first | omega | (simp only [lens, subList, upTo_len] at *; omega)) (fun _ => rfl) ?_ | refine VC.mk (by first | omega | (simp only [lm]; omega)) ?_ | intro _)) <;> (try (conv => whnf))
    refine ⟨?_, rfl, trivial⟩
    dsimp only
    rw [List.take_of_length_le (by omega)]; simp [Function.comp_def]
theorem impl_LineOk (p : Proj) (l : Lin) (hp : p.fine) : Con 410 [.d p.av, .d l.av] (.d (.bool (lineOk p l))) := by
  refine con Tryz.func410 rfl rfl Tryz.call410 rfl fun hwf => ?_
  (repeat' ((conv => whnf); first | (with_reducible first | refine Br.ff ?_ | refine Br.tt ?_ | refine Br.not ?_ | refine Br.yes (by assumption) ?_ | refine Br.no (by assumption) ?_ | (refine Br.dec (fun h => ?_) (fun h => ?_) <;> try simp only [lm] at h)) | ((with_reducible refine Br.mk (fun h => ?_) (fun h => ?_)) <;> (try simp only [lm] at h) <;> (first | have hw := within_iff.1 h | have hw := within_no.1 h | skip)) | refine CallK.mk _ (impl_ClauseOk p l.clause hp) (fun _ => ?_) | refine CallD.mk _ (fun _ hk => CallK.mk _ (impl_ClauseOk p l.clause hp) (fun _ => hk)) ?_ | intro _)) <;> (try (conv => whnf))
  all_goals refine ⟨?_, rfl, trivial⟩
  all_goals (simp [lineOk, isLine2, *]; try rfl)
theorem spec_LineOk (p : Proj) (l : Lin) (hp : p.fine) : Con 334 [.d p.av, .d l.av] (.d (.bool (lineOk p l))) := by
  refine con Tryz.func334 rfl rfl Tryz.call334 rfl fun hwf => ?_
  (repeat' ((conv => whnf); first | (with_reducible first | refine Br.ff ?_ | refine Br.tt ?_ | refine Br.not ?_ | refine Br.yes (by assumption) ?_ | refine Br.no (by assumption) ?_ | (refine Br.dec (fun h => ?_) (fun h => ?_) <;> try simp only [lm] at h)) | ((with_reducible refine Br.mk (fun h => ?_) (fun h => ?_)) <;> (try simp only [lm] at h) <;> (first | have hw := within_iff.1 h | have hw := within_no.1 h | skip)) | refine CallK.mk _ (spec_ClauseOk p l.clause hp) (fun _ => ?_) | refine CallD.mk _ (fun _ hk => CallK.mk _ (spec_ClauseOk p l.clause hp) (fun _ => hk)) ?_ | intro _)) <;> (try (conv => whnf))
  all_goals refine ⟨?_, rfl, trivial⟩
  all_goals (simp [lineOk, isLine2, *]; try rfl)
theorem impl_CheckLine (p : Proj) (ahead : List Lin) (l : Lin) (hp : p.fine) : Con 337 [.d p.av, .d (.sl (ahead.map Lin.av)), .d l.av] (.d (i64 (checkLine p ahead l))) := by
  refine con Tryz.func337 rfl rfl Tryz.call337 rfl fun hwf => ?_
  simp only [ARs.wf, AR.wf, AV.wf, AV.wfs, List.length_map, lim] at hwf
  (repeat' ((conv => whnf); first | (with_reducible first | refine Br.ff ?_ | refine Br.tt ?_ | refine Br.not ?_ | refine Br.yes (by assumption) ?_ | refine Br.no (by assumption) ?_ | (refine Br.dec (fun h => ?_) (fun h => ?_) <;> try simp only [lm] at h)) | ((with_reducible refine Br.mk (fun h => ?_) (fun h => ?_)) <;> (try simp only [lm] at h) <;> (first | have hw := within_iff.1 h | have hw := within_no.1 h | skip)) | refine CallK.mk _ (impl_ProjectOk p hp) (fun _ => ?_) | refine CallD.mk _ (fun _ hk => CallK.mk _ (impl_ProjectOk p hp) (fun _ => hk)) ?_ | refine CallK.mk _ (impl_LineOk p l hp) (fun _ => ?_) | refine CallD.mk _ (fun _ hk => CallK.mk _ (impl_LineOk p l hp) (fun _ => hk)) ?_ | refine CallK.mk _ (impl_ClauseFollows p l.rule l.clause hp) (fun _ => ?_) | refine CallD.mk _ (fun _ hk => CallK.mk _ (impl_ClauseFollows p l.rule l.clause hp) (fun _ => hk)) ?_ | refine CallK.mk _ (impl_Clauses ahead) (fun _ => ?_) | refine CallD.mk _ (fun _ hk => CallK.mk _ (impl_Clauses ahead) (fun _ => hk)) ?_ | refine CallK.mk _ (impl_NegatedDomain p l.clause hp) (fun _ => ?_) | refine CallD.mk _ (fun _ hk => CallK.mk _ (impl_NegatedDomain p l.clause hp) (fun _ => hk)) ?_ | refine CallK.mk _ (impl_UnitPropagate p (ahead.map Lin.clause) (negDom p l.clause) hp) (fun _ => ?_) | refine CallD.mk _ (fun _ hk => CallK.mk _ (impl_UnitPropagate p (ahead.map Lin.clause) (negDom p l.clause) hp) (fun _ => hk)) ?_ | intro _)) <;> (try (conv => whnf))
  all_goals refine ⟨?_, rfl, trivial⟩
  all_goals (simp [checkLine, *]; try omega)
theorem spec_CheckLine (p : Proj) (ahead : List Lin) (l : Lin) (hp : p.fine) : Con 233 [.d p.av, .d (.sl (ahead.map Lin.av)), .d l.av] (.d (i64 (checkLine p ahead l))) := by
  refine con Tryz.func233 rfl rfl Tryz.call233 rfl fun hwf => ?_
  simp only [ARs.wf, AR.wf, AV.wf, AV.wfs, List.length_map, lim] at hwf
  (repeat' ((conv => whnf); first | (with_reducible first | refine Br.ff ?_ | refine Br.tt ?_ | refine Br.not ?_ | refine Br.yes (by assumption) ?_ | refine Br.no (by assumption) ?_ | (refine Br.dec (fun h => ?_) (fun h => ?_) <;> try simp only [lm] at h)) | ((with_reducible refine Br.mk (fun h => ?_) (fun h => ?_)) <;> (try simp only [lm] at h) <;> (first | have hw := within_iff.1 h | have hw := within_no.1 h | skip)) | refine CallK.mk _ (spec_ProjectOk p hp) (fun _ => ?_) | refine CallD.mk _ (fun _ hk => CallK.mk _ (spec_ProjectOk p hp) (fun _ => hk)) ?_ | refine CallK.mk _ (spec_LineOk p l hp) (fun _ => ?_) | refine CallD.mk _ (fun _ hk => CallK.mk _ (spec_LineOk p l hp) (fun _ => hk)) ?_ | refine CallK.mk _ (spec_ClauseFollows p l.rule l.clause hp) (fun _ => ?_) | refine CallD.mk _ (fun _ hk => CallK.mk _ (spec_ClauseFollows p l.rule l.clause hp) (fun _ => hk)) ?_ | refine CallK.mk _ (spec_Clauses ahead) (fun _ => ?_) | refine CallD.mk _ (fun _ hk => CallK.mk _ (spec_Clauses ahead) (fun _ => hk)) ?_ | refine CallK.mk _ (spec_NegatedDomain p l.clause hp) (fun _ => ?_) | refine CallD.mk _ (fun _ hk => CallK.mk _ (spec_NegatedDomain p l.clause hp) (fun _ => hk)) ?_ | refine CallK.mk _ (spec_UnitPropagate p (ahead.map Lin.clause) (negDom p l.clause) hp) (fun _ => ?_) | refine CallD.mk _ (fun _ hk => CallK.mk _ (spec_UnitPropagate p (ahead.map Lin.clause) (negDom p l.clause) hp) (fun _ => hk)) ?_ | intro _)) <;> (try (conv => whnf))
  all_goals refine ⟨?_, rfl, trivial⟩
  all_goals (simp [checkLine, *]; try omega)
end Go.Proofs.YtdfindjbjonoaaaGreat.Abs
