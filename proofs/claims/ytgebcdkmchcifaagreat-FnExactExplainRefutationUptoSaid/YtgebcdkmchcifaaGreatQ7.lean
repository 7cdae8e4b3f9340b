/- The law of explained refutations, phase by phase. No statement of a claim. -/
import Derived.Test.YtgebcdkmchcifaaGreatC26
import Derived.Test.YtgebcdkmchcifaaGreatLto
import Derived.Test.YtgebcdkmchcifaaGreatLold
import Derived.Test.YtgebcdkmchcifaaGreatLeq
import Derived.Test.YtgebcdkmchcifaaGreatLey
import Derived.Test.YtgebcdkmchcifaaGreatLme
set_option linter.all false
set_option linter.unusedVariables false
set_option linter.unusedSimpArgs false
set_option maxRecDepth 20000
set_option maxHeartbeats 4000000
namespace Go.Proofs.YtgebcdkmchcifaaGreat.Abs
open Go.Proofs Go.RowKit


theorem Rul_md (x : Rul) : x.av.md false = true := rfl
theorem Dom.cnt_nn (x : Dom) : 0 ≤ x.cnt := by
  have h2 := cnt_nonneg (f := fun x : List Int => (x.length : Int)) (l := x.modes) (fun x _ => by omega)
  unfold Dom.cnt; omega
theorem law_ExplainRefutation (p : Proj) (b : Dom) (r : Rul) (hp : p.fine) (z0 : 0 ≤ szProject p 1048576) (z1 : 0 ≤ szDomain b (szProject p 1048576)) :
    LawFlat Tryz.prog tab lim Tryz.f3 (Tryz.f3.body.getD .skip) 7 2 4 4 [p.av, b.av, r.av] [(3, true, p.av), (4, true, b.av), (5, true, r.av)] [(8, false, lits (explain p b r))] [(9, true, p.av), (10, true, b.av)] [] 11 13
      ((explain p b r).map Lit.av) ((markL 1 (explain p b r)).map Lit.av) (1 + 3 * (explain p b r).length) 19 := by
  have s0 : Sz 1048576 := by unfold Sz; omega
  have s1 := szProject_ok (x := p) s0
  have m0 := szProject_m p _ z0
  have m1 := szDomain_m b _ z1
  have hnl := explain_length p b r
  have c0 := p.cnt_nn
  have c1 := b.cnt_nn
  refine ⟨⟨by simp, by simp⟩, flats_map (fun _ => rfl) _, ?_, by simp, by kernel_rfl, by kernel_rfl, by kernel_rfl, by kernel_rfl, ?_, ?_, ?_, ?_, marks_lit _ (by omega), ?_⟩
  · intro x hx
    simp only [List.mem_append, List.mem_cons, List.not_mem_nil, or_false] at hx
    rcases hx with (rfl | rfl | rfl) | rfl
    · exact Proj_md p
    · exact Dom_md b
    · exact Rul_md r
    · exact lits_md _
  · (repeat' ((conv => whnf); first | with_reducible refine Br.no (decide_eq_false (by omega)) ?_ | (with_reducible first | refine Br.ff ?_ | refine Br.tt ?_ | refine Br.not ?_ | refine Br.yes (by assumption) ?_ | refine Br.no (by assumption) ?_ | (refine Br.dec (fun h => ?_) (fun h => ?_) <;> try simp only [lm] at h)) | ((with_reducible refine Br.mk (fun h => ?_) (fun h => ?_)) <;> (try simp only [lm] at h) <;> (first | have hw := within_iff.1 h | have hw := within_no.1 h | skip)) | refine CallK.mk _ (laws_szProject p _ s0 hp) (fun _ => ?_) | refine CallD.mk _ (fun _ hk => CallK.mk _ (laws_szProject p _ s0 hp) (fun _ => hk)) ?_ | refine CallK.mk _ (laws_szDomain b _ s1) (fun _ => ?_) | refine CallD.mk _ (fun _ hk => CallK.mk _ (laws_szDomain b _ s1) (fun _ => hk)) ?_ | refine CallK.mk _ (laws_toProject p) (fun _ => ?_) | refine CallD.mk _ (fun _ hk => CallK.mk _ (laws_toProject p) (fun _ => hk)) ?_ | refine CallK.mk _ (laws_toRule r) (fun _ => ?_) | refine CallD.mk _ (fun _ hk => CallK.mk _ (laws_toRule r) (fun _ => hk)) ?_ | refine CallK.mk _ (laws_toDomain b) (fun _ => ?_) | refine CallD.mk _ (fun _ hk => CallK.mk _ (laws_toDomain b) (fun _ => hk)) ?_ | refine CallK.mk _ (spec_ExplainRefutation p b r hp) (fun _ => ?_) | refine CallD.mk _ (fun _ hk => CallK.mk _ (spec_ExplainRefutation p b r hp) (fun _ => hk)) ?_ | intro _)) <;> (try (conv => whnf))
    (refine And.intro rfl ?_ <;> (repeat' ((conv => whnf) <;> (first | exact trivial | exact rfl | with_reducible refine And.intro ?_ ?_))))
  · (repeat' ((conv => whnf); first | (with_reducible first | refine Br.ff ?_ | refine Br.tt ?_ | refine Br.not ?_ | refine Br.yes (by assumption) ?_ | refine Br.no (by assumption) ?_ | (refine Br.dec (fun h => ?_) (fun h => ?_) <;> try simp only [lm] at h)) | ((with_reducible refine Br.mk (fun h => ?_) (fun h => ?_)) <;> (try simp only [lm] at h) <;> (first | have hw := within_iff.1 h | have hw := within_no.1 h | skip)) | refine CallK.mk _ (laws_otoProject p) (fun _ => ?_) | refine CallD.mk _ (fun _ hk => CallK.mk _ (laws_otoProject p) (fun _ => hk)) ?_ | refine CallK.mk _ (laws_otoDomain b) (fun _ => ?_) | refine CallD.mk _ (fun _ hk => CallK.mk _ (laws_otoDomain b) (fun _ => hk)) ?_ | intro _)) <;> (try (conv => whnf))
    (refine And.intro rfl ?_ <;> (repeat' ((conv => whnf) <;> (first | exact trivial | exact rfl | with_reducible refine And.intro ?_ ?_))))
  · (repeat' ((conv => whnf); first | with_reducible refine Br.no rfl ?_ | (with_reducible first | refine Br.ff ?_ | refine Br.tt ?_ | refine Br.not ?_ | refine Br.yes (by assumption) ?_ | refine Br.no (by assumption) ?_ | (refine Br.dec (fun h => ?_) (fun h => ?_) <;> try simp only [lm] at h)) | ((with_reducible refine Br.mk (fun h => ?_) (fun h => ?_)) <;> (try simp only [lm] at h) <;> (first | have hw := within_iff.1 h | have hw := within_no.1 h | skip)) | refine CallK.mk _ (laws_toProject p) (fun _ => ?_) | refine CallD.mk _ (fun _ hk => CallK.mk _ (laws_toProject p) (fun _ => hk)) ?_ | refine CallK.mk _ (laws_toRule r) (fun _ => ?_) | refine CallD.mk _ (fun _ hk => CallK.mk _ (laws_toRule r) (fun _ => hk)) ?_ | refine CallK.mk _ (laws_toDomain b) (fun _ => ?_) | refine CallD.mk _ (fun _ hk => CallK.mk _ (laws_toDomain b) (fun _ => hk)) ?_ | refine CallK.mk _ (impl_ExplainRefutation p b r hp) (fun _ => ?_) | refine CallD.mk _ (fun _ hk => CallK.mk _ (impl_ExplainRefutation p b r hp) (fun _ => hk)) ?_ | refine CallK.mk _ (laws_eqLiteralS (explain p b r)) (fun _ => ?_) | refine CallD.mk _ (fun _ hk => CallK.mk _ (laws_eqLiteralS (explain p b r)) (fun _ => hk)) ?_ | refine CallK.mk _ (laws_eqProject p) (fun _ => ?_) | refine CallD.mk _ (fun _ hk => CallK.mk _ (laws_eqProject p) (fun _ => hk)) ?_ | refine CallK.mk _ (laws_eqDomain b) (fun _ => ?_) | refine CallD.mk _ (fun _ hk => CallK.mk _ (laws_eqDomain b) (fun _ => hk)) ?_ | intro _)) <;> (try (conv => whnf))
    (refine And.intro rfl ?_ <;> (repeat' ((conv => whnf) <;> (first | exact trivial | exact rfl | with_reducible refine And.intro ?_ ?_))))
  · rw [show ([(9, true, p.av), (10, true, b.av)] : List Fact).map toS = [(9, .oldref p.sh), (10, .oldref b.sh)] from by
      simp only [List.map_cons, List.map_nil, toS, cond_true]
      rw [Proj.sh_eq, Dom.sh_eq]]
    (repeat' ((conv => whnf); first | with_reducible refine Br.no (decide_eq_false (by omega)) ?_ | with_reducible refine Br.no rfl ?_ | (with_reducible first | refine Br.ff ?_ | refine Br.tt ?_ | refine Br.not ?_ | refine Br.yes (by assumption) ?_ | refine Br.no (by assumption) ?_ | (refine Br.dec (fun h => ?_) (fun h => ?_) <;> try simp only [lm] at h)) | ((with_reducible refine Br.mk (fun h => ?_) (fun h => ?_)) <;> (try simp only [lm] at h) <;> (first | have hw := within_iff.1 h | have hw := within_no.1 h | skip)) | refine CallK.mk _ (laws_markProject p 1 (by omega)) (fun _ => ?_) | refine CallD.mk _ (fun _ hk => CallK.mk _ (laws_markProject p 1 (by omega)) (fun _ => hk)) ?_ | refine CallK.mk _ (laws_markDomain b _ (by omega)) (fun _ => ?_) | refine CallD.mk _ (fun _ hk => CallK.mk _ (laws_markDomain b _ (by omega)) (fun _ => hk)) ?_ | refine CallK.mk _ (laws_eqLiteralS (explain p b r)) (fun _ => ?_) | refine CallD.mk _ (fun _ hk => CallK.mk _ (laws_eqLiteralS (explain p b r)) (fun _ => hk)) ?_ | intro _)) <;> (try (conv => whnf))
    (refine And.intro rfl ?_ <;> (repeat' ((conv => whnf) <;> (first | exact trivial | exact rfl | with_reducible refine And.intro ?_ ?_))))
  · refine ⟨_, _, _, _, 70, 71, 72, _, rfl, ⟨⟨_, rfl, rfl, rfl, rfl⟩, ⟨_, _, _, _, _, rfl, rfl, rfl, rfl, rfl, rfl, rfl, rfl, rfl, rfl, rfl, rfl, rfl, rfl, rfl⟩⟩, by decide, by simp, by decide, by kernel_rfl, ?_⟩
    (repeat' ((conv => whnf); first | with_reducible refine Br.yes (decide_eq_true rfl) ?_ | with_reducible refine Br.no (decide_eq_false (by omega)) ?_ | with_reducible refine Br.no rfl ?_ | (with_reducible first | refine Br.ff ?_ | refine Br.tt ?_ | refine Br.not ?_ | refine Br.yes (by assumption) ?_ | refine Br.no (by assumption) ?_ | (refine Br.dec (fun h => ?_) (fun h => ?_) <;> try simp only [lm] at h)) | ((with_reducible refine Br.mk (fun h => ?_) (fun h => ?_)) <;> (try simp only [lm] at h) <;> (first | have hw := within_iff.1 h | have hw := within_no.1 h | skip)) | refine CallK.mk _ (laws_heldLiteralS (explain p b r) 1 (by omega)) (fun _ => ?_) | refine CallD.mk _ (fun _ hk => CallK.mk _ (laws_heldLiteralS (explain p b r) 1 (by omega)) (fun _ => hk)) ?_ | refine CallK.mk _ (laws_toProject p) (fun _ => ?_) | refine CallD.mk _ (fun _ hk => CallK.mk _ (laws_toProject p) (fun _ => hk)) ?_ | refine CallK.mk _ (laws_toRule r) (fun _ => ?_) | refine CallD.mk _ (fun _ hk => CallK.mk _ (laws_toRule r) (fun _ => hk)) ?_ | refine CallK.mk _ (laws_toDomain b) (fun _ => ?_) | refine CallD.mk _ (fun _ hk => CallK.mk _ (laws_toDomain b) (fun _ => hk)) ?_ | refine CallK.mk _ (impl_ExplainRefutation p b r hp) (fun _ => ?_) | refine CallD.mk _ (fun _ hk => CallK.mk _ (impl_ExplainRefutation p b r hp) (fun _ => hk)) ?_ | refine CallK.mk _ (laws_eqLiteralS (explain p b r)) (fun _ => ?_) | refine CallD.mk _ (fun _ hk => CallK.mk _ (laws_eqLiteralS (explain p b r)) (fun _ => hk)) ?_ | intro _)) <;> (try (conv => whnf))
    all_goals exact ⟨rfl, rfl, trivial⟩
theorem law_ExplainRefutation_no (p : Proj) (b : Dom) (r : Rul) (hp : p.fine) (z : ¬ (0 ≤ szProject p 1048576 ∧ 0 ≤ szDomain b (szProject p 1048576))) :
    Con 3 [.d p.av, .d b.av, .d r.av] (.d (.bool true)) := by
  refine con Tryz.func3 rfl rfl Tryz.call3 rfl fun hwf => ?_
  have s0 : Sz 1048576 := by unfold Sz; omega
  have s1 := szProject_ok (x := p) s0
  by_cases z0 : 0 ≤ szProject p 1048576
  · have z1 : ¬ 0 ≤ szDomain b (szProject p 1048576) := fun h => z ⟨z0, h⟩
    (repeat' ((conv => whnf); first | with_reducible refine Br.yes (decide_eq_true (by omega)) ?_ | with_reducible refine Br.no (decide_eq_false (by omega)) ?_ | (with_reducible first | refine Br.ff ?_ | refine Br.tt ?_ | refine Br.not ?_ | refine Br.yes (by assumption) ?_ | refine Br.no (by assumption) ?_ | (refine Br.dec (fun h => ?_) (fun h => ?_) <;> try simp only [lm] at h)) | ((with_reducible refine Br.mk (fun h => ?_) (fun h => ?_)) <;> (try simp only [lm] at h) <;> (first | have hw := within_iff.1 h | have hw := within_no.1 h | skip)) | refine CallK.mk _ (laws_szProject p _ s0 hp) (fun _ => ?_) | refine CallD.mk _ (fun _ hk => CallK.mk _ (laws_szProject p _ s0 hp) (fun _ => hk)) ?_ | refine CallK.mk _ (laws_szDomain b _ s1) (fun _ => ?_) | refine CallD.mk _ (fun _ hk => CallK.mk _ (laws_szDomain b _ s1) (fun _ => hk)) ?_ | intro _)) <;> (try (conv => whnf))
    exact ⟨rfl, rfl, trivial⟩
  · (repeat' ((conv => whnf); first | with_reducible refine Br.yes (decide_eq_true (by omega)) ?_ | (with_reducible first | refine Br.ff ?_ | refine Br.tt ?_ | refine Br.not ?_ | refine Br.yes (by assumption) ?_ | refine Br.no (by assumption) ?_ | (refine Br.dec (fun h => ?_) (fun h => ?_) <;> try simp only [lm] at h)) | ((with_reducible refine Br.mk (fun h => ?_) (fun h => ?_)) <;> (try simp only [lm] at h) <;> (first | have hw := within_iff.1 h | have hw := within_no.1 h | skip)) | refine CallK.mk _ (laws_szProject p _ s0 hp) (fun _ => ?_) | refine CallD.mk _ (fun _ hk => CallK.mk _ (laws_szProject p _ s0 hp) (fun _ => hk)) ?_ | intro _)) <;> (try (conv => whnf))
    exact ⟨rfl, rfl, trivial⟩
theorem law_ExplainRefutation_calls (p : Proj) (b : Dom) (r : Rul) (hp : p.fine) {w : World} {vs : List Value} (hargs : All2 (RepV (fun b => b < w.heap.size) w lim) [p.av, b.av, r.av] vs) :
    Calls Tryz.prog 3 vs.toArray w fun e w' => e = .returned (.bool true) ∧ Below w.heap.size w w' := by
  by_cases z : 0 ≤ szProject p 1048576 ∧ 0 ≤ szDomain b (szProject p 1048576)
  · exact law_flat tabOk (by decide) (by decide) mixed Tryz.func3 rfl (law_ExplainRefutation p b r hp z.1 z.2) (by simp only [List.length_cons, List.length_nil]; decide) hargs
  · exact calls_of_con (args := [p.av, b.av, r.av]) (law_ExplainRefutation_no p b r hp z) hargs
end Go.Proofs.YtgebcdkmchcifaaGreat.Abs
