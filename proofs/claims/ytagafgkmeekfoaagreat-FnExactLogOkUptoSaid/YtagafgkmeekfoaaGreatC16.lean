/- Contracts: logs are valid. No statement of a claim. -/
import Derived.Test.YtagafgkmeekfoaaGreatC15b
set_option linter.all false
set_option linter.unusedVariables false
set_option linter.unusedSimpArgs false
set_option maxRecDepth 20000
set_option maxHeartbeats 4000000
namespace Go.Proofs.YtagafgkmeekfoaaGreat.Abs
open Go.Proofs


theorem impl_LogOk (g : Lg) (hp : g.proj.fine) : Con 39 [.d g.av] (.d (.bool (logOk g))) := by
  refine con Tryz.func39 rfl rfl Tryz.call39 rfl fun hwf => ?_
  simp only [ARs.wf, AR.wf, AV.wf, AV.wfs, List.length_map, lim] at hwf
  (repeat' ((conv => whnf); first | (with_reducible first | refine Br.ff ?_ | refine Br.tt ?_ | refine Br.not ?_ | refine Br.yes (by assumption) ?_ | refine Br.no (by assumption) ?_ | (refine Br.dec (fun h => ?_) (fun h => ?_) <;> try simp only [lm] at h)) | ((with_reducible refine Br.mk (fun h => ?_) (fun h => ?_)) <;> (try simp only [lm] at h) <;> (first | have hw := within_iff.1 h | have hw := within_no.1 h | skip)) | with_reducible refine Arith.ok (by first | omega | (simp only [lm]; omega)) ?_ | with_reducible refine Idx.at (by first | omega | (simp only [lm] at *; omega)) (fun x hx => ?_) | with_reducible refine Idx.of_map (by first | omega | (simp only [lm] at *; omega)) (fun j x hj hx => ?_) | refine VC.mk (by first | omega | (simp only [lm]; omega)) ?_ | refine CallK.mk _ (impl_ProjectOk g.proj hp) (fun _ => ?_) | refine CallD.mk _ (fun _ hk => CallK.mk _ (impl_ProjectOk g.proj hp) (fun _ => hk)) ?_ | refine CallK.mk _ (impl_DomainForm g.proj g.dom hp) (fun _ => ?_) | refine CallD.mk _ (fun _ hk => CallK.mk _ (impl_DomainForm g.proj g.dom hp) (fun _ => hk)) ?_ | refine CallK.mk _ (impl_InitialDomain g.proj hp) (fun _ => ?_) | refine CallD.mk _ (fun _ hk => CallK.mk _ (impl_InitialDomain g.proj hp) (fun _ => hk)) ?_ | intro _)) <;> (try (conv => whnf))
  all_goals try (refine ⟨?_, rfl, trivial⟩; simp [logOk, *]; done)
  have ho : projOk g.proj = true := by assumption
  have hf : domForm g.proj g.dom = true := by assumption
  refine loopF [1, 3, 30, 31] [1] [] ?_
  (conv => whnf)
  refine LoopC.mk ((Nat) × (Dom)) (fun ⟨k, d⟩ => (k ≤ g.decs.length) ∧ ((g.decs.drop k).all (litOk g.proj) = g.decs.all (litOk g.proj)) ∧ ((g.decs.drop k).foldl restrict d = logDom g)) (fun ⟨k, d⟩ => [(32, .data (i64 k))]) (fun ⟨k, d⟩ => [(3, (AV.cells d.av).map SV.data)]) (fun _ => []) (fun ⟨k, d⟩ => g.decs.length - k) ⟨0, initDom g.proj⟩ ?_ ?_ ?_
  rotate_left
  · (repeat' ((conv => whnf) <;> (first | exact trivial | exact rfl | with_reducible refine And.intro ?_ ?_)))
  rotate_left
  · exact ⟨by omega, rfl, by rw [initDom, if_pos ho]; rfl⟩
  rintro ⟨k, d⟩ ⟨hk, ha, hi⟩
  by_cases hlt : k < g.decs.length
  · obtain ⟨x, hx⟩ : ∃ x, g.decs[k]? = some x := ⟨g.decs[k]'hlt, by simp⟩
    rw [drop_get hx, List.all_cons] at ha
    rw [drop_get hx, List.foldl_cons] at hi
    (repeat' ((conv => whnf); first | with_reducible refine Idx.got hx rfl ?_ | (with_reducible first | refine Br.ff ?_ | refine Br.tt ?_ | refine Br.not ?_ | refine Br.yes (by assumption) ?_ | refine Br.no (by assumption) ?_ | (refine Br.dec (fun h => ?_) (fun h => ?_) <;> try simp only [lm] at h)) | ((with_reducible refine Br.mk (fun h => ?_) (fun h => ?_)) <;> (try simp only [lm] at h) <;> (first | have hw := within_iff.1 h | have hw := within_no.1 h | skip)) | with_reducible refine Arith.ok (by first | omega | (simp only [lm]; omega)) ?_ | with_reducible refine Idx.at (by first | omega | (simp only [lm] at *; omega)) (fun x hx => ?_) | with_reducible refine Idx.of_map (by first | omega | (simp only [lm] at *; omega)) (fun j x hj hx => ?_) | refine VC.mk (by first | omega | (simp only [lm]; omega)) ?_ | refine CallK.mk _ (impl_LiteralOk g.proj x hp) (fun _ => ?_) | refine CallD.mk _ (fun _ hk => CallK.mk _ (impl_LiteralOk g.proj x hp) (fun _ => hk)) ?_ | refine CallK.mk _ (impl_Restrict d x) (fun _ => ?_) | refine CallD.mk _ (fun _ hk => CallK.mk _ (impl_Restrict d x) (fun _ => hk)) ?_ | intro _)) <;> (try (conv => whnf))
    · refine ⟨⟨k + 1, restrict d x⟩, ?_, rfl, ?_, ?_⟩
      rotate_left
      · (repeat' ((conv => whnf) <;> (first | exact trivial | exact rfl | with_reducible refine And.intro ?_ ?_)))
      · (try dsimp only); (try simp only [List.length_map]); omega
      rw [h, Bool.true_and] at ha
      exact ⟨by omega, ha, hi⟩
    · refine ⟨?_, rfl, trivial⟩
      rw [h, Bool.false_and] at ha
      rw [logOk, ← ha]; simp
    · exfalso; omega
  · rw [drop_end hlt] at ha hi
    have hd : d = logDom g := hi
    subst hd
    have e : logOk g = (isChecked g.proj g.lines && ((unitProp g.proj (g.lines.map Lin.clause) (logDom g)).2 || domSubset (unitProp g.proj (g.lines.map Lin.clause) (logDom g)).1 g.dom)) := by
      have ha' : g.decs.all (litOk g.proj) = true := by rw [← ha]; rfl
      have hn : decide ((g.decs.length : Int) > 20) = false := decide_eq_false (by assumption)
      rw [logOk, ho, hf, ha', hn]; rfl
    rw [e]
    (repeat' ((conv => whnf); first | (exfalso; omega) | (with_reducible first | refine Br.ff ?_ | refine Br.tt ?_ | refine Br.not ?_ | refine Br.yes (by assumption) ?_ | refine Br.no (by assumption) ?_ | (refine Br.dec (fun h => ?_) (fun h => ?_) <;> try simp only [lm] at h)) | ((with_reducible refine Br.mk (fun h => ?_) (fun h => ?_)) <;> (try simp only [lm] at h) <;> (first | have hw := within_iff.1 h | have hw := within_no.1 h | skip)) | with_reducible refine Arith.ok (by first | omega | (simp only [lm]; omega)) ?_ | with_reducible refine Idx.at (by first | omega | (simp only [lm] at *; omega)) (fun x hx => ?_) | with_reducible refine Idx.of_map (by first | omega | (simp only [lm] at *; omega)) (fun j x hj hx => ?_) | refine VC.mk (by first | omega | (simp only [lm]; omega)) ?_ | refine CallK.mk _ (impl_isChecked g.proj g.lines hp) (fun _ => ?_) | refine CallD.mk _ (fun _ hk => CallK.mk _ (impl_isChecked g.proj g.lines hp) (fun _ => hk)) ?_ | refine CallK.mk _ (impl_Clauses g.lines) (fun _ => ?_) | refine CallD.mk _ (fun _ hk => CallK.mk _ (impl_Clauses g.lines) (fun _ => hk)) ?_ | refine CallK.mk _ (impl_UnitPropagate g.proj (g.lines.map Lin.clause) (logDom g) hp) (fun _ => ?_) | refine CallD.mk _ (fun _ hk => CallK.mk _ (impl_UnitPropagate g.proj (g.lines.map Lin.clause) (logDom g) hp) (fun _ => hk)) ?_ | refine CallK.mk _ (impl_DomainSubset _ g.dom) (fun _ => ?_) | refine CallD.mk _ (fun _ hk => CallK.mk _ (impl_DomainSubset _ g.dom) (fun _ => hk)) ?_ | intro _)) <;> (try (conv => whnf))
    all_goals (refine ⟨?_, rfl, trivial⟩; simp [*])
theorem spec_l22Box (p : Proj) (l : List Lit) (hd : 1 ≤ p.dead ∧ p.dead ≤ 60) : Con 82 [.d p.av, .d (lits l)] (.d (l.foldl restrict (initDom' p)).av) := by
  refine con Tryz.func82 rfl rfl Tryz.call82 rfl fun hwf => ?_
  simp only [ARs.wf, AR.wf, AV.wf, AV.wfs, List.length_map, lim] at hwf
  (repeat' ((conv => whnf); first | (with_reducible first | refine Br.ff ?_ | refine Br.tt ?_ | refine Br.not ?_ | refine Br.yes (by assumption) ?_ | refine Br.no (by assumption) ?_ | (refine Br.dec (fun h => ?_) (fun h => ?_) <;> try simp only [lm] at h)) | ((with_reducible refine Br.mk (fun h => ?_) (fun h => ?_)) <;> (try simp only [lm] at h) <;> (first | have hw := within_iff.1 h | have hw := within_no.1 h | skip)) | with_reducible refine Arith.ok (by first | omega | (simp only [lm]; omega)) ?_ | with_reducible refine Idx.at (by first | omega | (simp only [lm] at *; omega)) (fun x hx => ?_) | with_reducible refine Idx.of_map (by first | omega | (simp only [lm] at *; omega)) (fun j x hj hx => ?_) | refine VC.mk (by first | omega | (simp only [lm]; omega)) ?_ | refine CallK.mk _ (spec_l12Of p hd) (fun _ => ?_) | refine CallD.mk _ (fun _ hk => CallK.mk _ (spec_l12Of p hd) (fun _ => hk)) ?_ | intro _)) <;> (try (conv => whnf))
  refine loopF [4, 5, 10, 11] [4] [] ?_
  (conv => whnf)
  refine LoopC.mk ((Nat) × (Dom)) (fun ⟨k, d⟩ => (k ≤ l.length) ∧ (∀ m ∈ d.modes, setOk m = true) ∧ ((l.drop k).foldl restrict d = l.foldl restrict (initDom' p))) (fun ⟨k, d⟩ => [(12, .data (i64 k))]) (fun ⟨k, d⟩ => [(5, (AV.cells d.av).map SV.data)]) (fun _ => []) (fun ⟨k, d⟩ => l.length - k) ⟨0, initDom' p⟩ ?_ ?_ ?_
  rotate_left
  · (repeat' ((conv => whnf) <;> (first | exact trivial | exact rfl | with_reducible refine And.intro ?_ ?_)))
  rotate_left
  · exact ⟨by omega, initDom'_ok p, rfl⟩
  rintro ⟨k, d⟩ ⟨hk, hd, hi⟩
  (repeat' ((conv => whnf); first | (with_reducible first | refine Br.ff ?_ | refine Br.tt ?_ | refine Br.not ?_ | refine Br.yes (by assumption) ?_ | refine Br.no (by assumption) ?_ | (refine Br.dec (fun h => ?_) (fun h => ?_) <;> try simp only [lm] at h)) | ((with_reducible refine Br.mk (fun h => ?_) (fun h => ?_)) <;> (try simp only [lm] at h) <;> (first | have hw := within_iff.1 h | have hw := within_no.1 h | skip)) | with_reducible refine Arith.ok (by first | omega | (simp only [lm]; omega)) ?_ | with_reducible refine Idx.at (by first | omega | (simp only [lm] at *; omega)) (fun x hx => ?_) | with_reducible refine Idx.of_map (by first | omega | (simp only [lm] at *; omega)) (fun j x hj hx => ?_) | refine VC.mk (by first | omega | (simp only [lm]; omega)) ?_ | refine CallK.mk _ (spec_Restrict d x (fun m hm => hd m (List.mem_of_getElem? hm))) (fun _ => ?_) | refine CallD.mk _ (fun _ hk => CallK.mk _ (spec_Restrict d x (fun m hm => hd m (List.mem_of_getElem? hm))) (fun _ => hk)) ?_ | intro _)) <;> (try (conv => whnf))
  · refine ⟨⟨k + 1, restrict d x⟩, ?_, rfl, ?_, ?_⟩
    rotate_left
    · (repeat' ((conv => whnf) <;> (first | exact trivial | exact rfl | with_reducible refine And.intro ?_ ?_)))
    · (try dsimp only); (try simp only [List.length_map]); omega
    rw [drop_get hx] at hi
    exact ⟨by omega, restrict_ok hd _, hi⟩
  · refine ⟨?_, rfl, trivial⟩
    rw [drop_end' (by assumption)] at hi
    rw [← hi]; rfl
theorem spec_LogOk (g : Lg) (hp : g.proj.fine) : Con 37 [.d g.av] (.d (.bool (logOk g))) := by
  refine con Tryz.func37 rfl rfl Tryz.call37 rfl fun hwf => ?_
  simp only [ARs.wf, AR.wf, AV.wf, AV.wfs, List.length_map, lim] at hwf
  (repeat' ((conv => whnf); first | (with_reducible first | refine Br.ff ?_ | refine Br.tt ?_ | refine Br.not ?_ | refine Br.yes (by assumption) ?_ | refine Br.no (by assumption) ?_ | (refine Br.dec (fun h => ?_) (fun h => ?_) <;> try simp only [lm] at h)) | ((with_reducible refine Br.mk (fun h => ?_) (fun h => ?_)) <;> (try simp only [lm] at h) <;> (first | have hw := within_iff.1 h | have hw := within_no.1 h | skip)) | with_reducible refine Arith.ok (by first | omega | (simp only [lm]; omega)) ?_ | with_reducible refine Idx.at (by first | omega | (simp only [lm] at *; omega)) (fun x hx => ?_) | with_reducible refine Idx.of_map (by first | omega | (simp only [lm] at *; omega)) (fun j x hj hx => ?_) | refine VC.mk (by first | omega | (simp only [lm]; omega)) ?_ | refine CallK.mk _ (spec_ProjectOk g.proj hp) (fun _ => ?_) | refine CallD.mk _ (fun _ hk => CallK.mk _ (spec_ProjectOk g.proj hp) (fun _ => hk)) ?_ | refine CallK.mk _ (spec_DomainForm g.proj g.dom hp) (fun _ => ?_) | refine CallD.mk _ (fun _ hk => CallK.mk _ (spec_DomainForm g.proj g.dom hp) (fun _ => hk)) ?_ | intro _)) <;> (try (conv => whnf))
  all_goals try (refine ⟨?_, rfl, trivial⟩; simp [logOk, *]; done)
  have ho : projOk g.proj = true := by assumption
  have hf : domForm g.proj g.dom = true := by assumption
  refine loopF [1, 28, 29] [1] [] ?_
  (conv => whnf)
  refine LoopC.mk ((Nat)) (fun k => (k ≤ g.decs.length) ∧ ((g.decs.drop k).all (litOk g.proj) = g.decs.all (litOk g.proj))) (fun k => [(30, .data (i64 k))]) (fun _ => []) (fun _ => []) (fun k => g.decs.length - k) (0) ?_ ?_ ?_
  rotate_left
  · (repeat' ((conv => whnf) <;> (first | exact trivial | exact rfl | with_reducible refine And.intro ?_ ?_)))
  rotate_left
  · exact ⟨by omega, rfl⟩
  rintro k ⟨hk, ha⟩
  by_cases hlt : k < g.decs.length
  · obtain ⟨x, hx⟩ : ∃ x, g.decs[k]? = some x := ⟨g.decs[k]'hlt, by simp⟩
    rw [drop_get hx, List.all_cons] at ha
    (repeat' ((conv => whnf); first | with_reducible refine Idx.got hx rfl ?_ | (with_reducible first | refine Br.ff ?_ | refine Br.tt ?_ | refine Br.not ?_ | refine Br.yes (by assumption) ?_ | refine Br.no (by assumption) ?_ | (refine Br.dec (fun h => ?_) (fun h => ?_) <;> try simp only [lm] at h)) | ((with_reducible refine Br.mk (fun h => ?_) (fun h => ?_)) <;> (try simp only [lm] at h) <;> (first | have hw := within_iff.1 h | have hw := within_no.1 h | skip)) | with_reducible refine Arith.ok (by first | omega | (simp only [lm]; omega)) ?_ | with_reducible refine Idx.at (by first | omega | (simp only [lm] at *; omega)) (fun x hx => ?_) | with_reducible refine Idx.of_map (by first | omega | (simp only [lm] at *; omega)) (fun j x hj hx => ?_) | refine VC.mk (by first | omega | (simp only [lm]; omega)) ?_ | refine CallK.mk _ (spec_LiteralOk g.proj x hp) (fun _ => ?_) | refine CallD.mk _ (fun _ hk => CallK.mk _ (spec_LiteralOk g.proj x hp) (fun _ => hk)) ?_ | intro _)) <;> (try (conv => whnf))
    · refine ⟨(k + 1), ?_, rfl, ?_, ?_⟩
      rotate_left
      · (repeat' ((conv => whnf) <;> (first | exact trivial | exact rfl | with_reducible refine And.intro ?_ ?_)))
      · (try dsimp only); (try simp only [List.length_map]); omega
      rw [h, Bool.true_and] at ha
      exact ⟨by omega, ha⟩
    · refine ⟨?_, rfl, trivial⟩
      rw [h, Bool.false_and] at ha
      rw [logOk, ← ha]; simp
    · exfalso; omega
  · rw [drop_end hlt] at ha
    have e : logOk g = (isChecked g.proj g.lines && ((unitProp g.proj (g.lines.map Lin.clause) (logDom g)).2 || domSubset (unitProp g.proj (g.lines.map Lin.clause) (logDom g)).1 g.dom)) := by
      have ha' : g.decs.all (litOk g.proj) = true := by rw [← ha]; rfl
      have hn : decide ((g.decs.length : Int) > 20) = false := decide_eq_false (by assumption)
      rw [logOk, ho, hf, ha', hn]; rfl
    rw [e]
    (repeat' ((conv => whnf); first | (exfalso; omega) | (with_reducible first | refine Br.ff ?_ | refine Br.tt ?_ | refine Br.not ?_ | refine Br.yes (by assumption) ?_ | refine Br.no (by assumption) ?_ | (refine Br.dec (fun h => ?_) (fun h => ?_) <;> try simp only [lm] at h)) | ((with_reducible refine Br.mk (fun h => ?_) (fun h => ?_)) <;> (try simp only [lm] at h) <;> (first | have hw := within_iff.1 h | have hw := within_no.1 h | skip)) | with_reducible refine Arith.ok (by first | omega | (simp only [lm]; omega)) ?_ | with_reducible refine Idx.at (by first | omega | (simp only [lm] at *; omega)) (fun x hx => ?_) | with_reducible refine Idx.of_map (by first | omega | (simp only [lm] at *; omega)) (fun j x hj hx => ?_) | refine VC.mk (by first | omega | (simp only [lm]; omega)) ?_ | refine CallK.mk _ (spec_CheckAll g.proj g.lines hp) (fun _ => ?_) | refine CallD.mk _ (fun _ hk => CallK.mk _ (spec_CheckAll g.proj g.lines hp) (fun _ => hk)) ?_ | refine CallK.mk _ (spec_Clauses g.lines) (fun _ => ?_) | refine CallD.mk _ (fun _ hk => CallK.mk _ (spec_Clauses g.lines) (fun _ => hk)) ?_ | refine CallK.mk _ (spec_l22Box g.proj g.decs (projOk_dead ho)) (fun _ => ?_) | refine CallD.mk _ (fun _ hk => CallK.mk _ (spec_l22Box g.proj g.decs (projOk_dead ho)) (fun _ => hk)) ?_ | refine CallK.mk _ (spec_UnitPropagate g.proj (g.lines.map Lin.clause) (logDom g) hp) (fun _ => ?_) | refine CallD.mk _ (fun _ hk => CallK.mk _ (spec_UnitPropagate g.proj (g.lines.map Lin.clause) (logDom g) hp) (fun _ => hk)) ?_ | refine CallK.mk _ (spec_DomainSubset _ g.dom) (fun _ => ?_) | refine CallD.mk _ (fun _ hk => CallK.mk _ (spec_DomainSubset _ g.dom) (fun _ => hk)) ?_ | intro _)) <;> (try (conv => whnf))
    all_goals (refine ⟨?_, rfl, trivial⟩; simp [isChecked, *])
end Go.Proofs.YtagafgkmeekfoaaGreat.Abs
