/- The law of first inferences, phase by phase. No statement of a claim. -/
import Derived.Test.YtgebcdkmchcifaaGreatC32
import Derived.Test.YtgebcdkmchcifaaGreatLh
import Derived.Test.YtgebcdkmchcifaaGreatLez
import Derived.Test.YtgebcdkmchcifaaGreatLmk
set_option linter.all false
set_option linter.unusedVariables false
set_option linter.unusedSimpArgs false
set_option maxRecDepth 20000
set_option maxHeartbeats 4000000
namespace Go.Proofs.YtgebcdkmchcifaaGreat.Abs
open Go.Proofs Go.RowKit


theorem Dom.cnt_nn (x : Dom) : 0 ≤ x.cnt := by
  have h2 := cnt_nonneg (f := fun x : List Int => (x.length : Int)) (l := x.modes) (fun x _ => by omega)
  unfold Dom.cnt; omega
theorem explainLit_len (p : Proj) (b : Dom) (r : Rul) (l : Lit) : (explainLit p b r l).1.length ≤ 1213 := by
  unfold explainLit
  split
  · have : ∀ (m : List Lit) (o : List Lit), (m.foldl (shortStep p r fun x => sameLit x l) o).length ≤ o.length := by
      intro m
      induction m with
      | nil => intro o; exact Nat.le_refl _
      | cons x m ih => intro o; rw [List.foldl_cons]; exact Nat.le_trans (ih _) shortStep_len
    refine Nat.le_trans (this _ _) (Nat.le_trans (newClause_len _) ?_)
    have := negs_len p b
    simp only [List.length_append, List.length_cons, List.length_nil]; omega
  · simp
theorem clause_len (p : Proj) (b : Dom) : ((firstInf p b).getD zeroInf).clause.length ≤ 1213 := by
  cases h : firstInf p b with
  | none => simp [zeroInf]
  | some y =>
    unfold firstInf at h
    split at h
    · cases h
    · obtain ⟨r, _, h1⟩ := List.exists_of_findSome?_eq_some h
      obtain ⟨a, _, h2⟩ := List.exists_of_findSome?_eq_some h1
      unfold inferOf at h2
      obtain ⟨l, _, rfl⟩ := Option.map_eq_some_iff.1 h2
      exact explainLit_len p b r l
theorem law_FirstInference (p : Proj) (b : Dom) (hp : p.fine) (z0 : 0 ≤ szProject p 1048576) (z1 : 0 ≤ szDomain b (szProject p 1048576)) (x : Infer) (ok : Bool) (hx : (firstInf p b).getD zeroInf = x) (hok : (firstInf p b).isSome = ok) :
    LawBox Tryz.prog tab lim Tryz.f6 (Tryz.f6.body.getD .skip) 7 2 4 4 [p.av, b.av] [(2, true, p.av), (3, true, b.av)] [(6, true, x.av), (7, false, .bool ok)] [(8, true, p.av), (9, true, b.av)] [(11, false, .bool ok)] 10 13
      [.data (i64 x.lit.kind), .data (i64 x.lit.act), .data (i64 x.lit.val), .data (i64 x.rule.kind), .data (i64 x.rule.a), .data (i64 x.rule.b), .data (i64 x.rule.c), .fr (x.clause.map Lit.av)] x.cellsOf x.marked.cellsOf (1 + 3 * x.clause.length) 29 64 := by
  have s0 : Sz 1048576 := by unfold Sz; omega
  have s1 := szProject_ok (x := p) s0
  have m0 := szProject_m p _ z0
  have m1 := szDomain_m b _ z1
  have hnl : x.clause.length ≤ 1213 := by rw [← hx]; exact clause_len p b
  have c0 := p.cnt_nn
  have c1 := b.cnt_nn
  have hI := impl_FirstInference p b hp
  have hS := spec_FirstInference p b hp
  rw [RInf, hx, hok] at hI
  rw [RInfD, hx, hok] at hS
  refine ⟨⟨by simp, by simp⟩, .data rfl (.data rfl (.data rfl (.data rfl (.data rfl (.data rfl (.data rfl (.fr (flats_map (fun _ => rfl) _) .nil))))))), ⟨by rfl, by rfl, by rfl⟩, ?_, by simp [AV.scalar], by kernel_rfl, by kernel_rfl, by kernel_rfl, by kernel_rfl, ?_, ?_, ?_, ?_, marks_infer x (by omega), ?_⟩
  · intro y hy
    simp only [List.mem_append, List.mem_cons, List.not_mem_nil, or_false] at hy
    rcases hy with (rfl | rfl) | (rfl | rfl)
    · exact Proj_md p
    · exact Dom_md b
    · exact Infer_md x
    · rfl
  · (repeat' ((conv => whnf); first | with_reducible refine Br.no (decide_eq_false (by omega)) ?_ | refine gA ?_ | ((with_reducible first | refine gD (fun h => ?_) (fun h => ?_) | refine gE (fun h => ?_) (fun h => ?_)) <;> (try simp only [lm] at h) <;> try have hw := wn h) | refine gC (laws_szProject p _ s0 hp) ?_ | refine gC (laws_szDomain b _ s1) ?_ | refine gC (laws_toProject p) ?_ | refine gC (laws_toDomain b) ?_ | refine gC (hS) ?_ | intro _)) <;> (try (conv => whnf))
    (refine And.intro rfl ?_ <;> (repeat' ((conv => whnf) <;> (first | exact trivial | exact rfl | with_reducible refine And.intro ?_ ?_))))
  · (repeat' ((conv => whnf); first | refine gA ?_ | ((with_reducible first | refine gD (fun h => ?_) (fun h => ?_) | refine gE (fun h => ?_) (fun h => ?_)) <;> (try simp only [lm] at h) <;> try have hw := wn h) | refine gC (laws_otoProject p) ?_ | refine gC (laws_otoDomain b) ?_ | intro _)) <;> (try (conv => whnf))
    (refine And.intro rfl ?_ <;> (repeat' ((conv => whnf) <;> (first | exact trivial | exact rfl | with_reducible refine And.intro ?_ ?_))))
  · (repeat' ((conv => whnf); first | with_reducible refine Br.yes (beq_self_eq_true _) ?_ | with_reducible refine Br.no rfl ?_ | refine gA ?_ | ((with_reducible first | refine gD (fun h => ?_) (fun h => ?_) | refine gE (fun h => ?_) (fun h => ?_)) <;> (try simp only [lm] at h) <;> try have hw := wn h) | refine gC (laws_toProject p) ?_ | refine gC (laws_toDomain b) ?_ | refine gC (hI) ?_ | refine gC (laws_eqInference x) ?_ | refine gC (laws_eqProject p) ?_ | refine gC (laws_eqDomain b) ?_ | intro _)) <;> (try (conv => whnf))
    (refine And.intro rfl ?_ <;> (repeat' ((conv => whnf) <;> (first | exact trivial | exact rfl | with_reducible refine And.intro ?_ ?_))))
  · rw [show ([(8, true, p.av), (9, true, b.av)] : List Fact).map toS = [(8, .oldref p.sh), (9, .oldref b.sh)] from by
      simp only [List.map_cons, List.map_nil, toS, cond_true]
      rw [Proj.sh_eq, Dom.sh_eq]]
    (repeat' ((conv => whnf); first | with_reducible refine Br.yes (beq_self_eq_true _) ?_ | with_reducible refine Br.no (decide_eq_false (by omega)) ?_ | with_reducible refine Br.no rfl ?_ | refine gA ?_ | ((with_reducible first | refine gD (fun h => ?_) (fun h => ?_) | refine gE (fun h => ?_) (fun h => ?_)) <;> (try simp only [lm] at h) <;> try have hw := wn h) | refine gC (laws_markProject p 1 (by omega)) ?_ | refine gC (laws_markDomain b _ (by omega)) ?_ | refine gC (laws_eqInference x) ?_ | intro _)) <;> (try (conv => whnf))
    (refine And.intro rfl ?_ <;> (repeat' ((conv => whnf) <;> (first | exact trivial | exact rfl | with_reducible refine And.intro ?_ ?_))))
  · refine ⟨_, _, _, _, 83, 84, 85, _, rfl, ⟨⟨_, rfl, rfl, rfl, rfl⟩, ⟨_, _, _, _, _, rfl, rfl, rfl, rfl, rfl, rfl, rfl, rfl, rfl, rfl, rfl, rfl, rfl, rfl, rfl⟩⟩, by decide, by simp, by decide, by kernel_rfl, ?_⟩
    (repeat' ((conv => whnf); first | with_reducible refine Br.yes (decide_eq_true rfl) ?_ | with_reducible refine Br.yes (beq_self_eq_true _) ?_ | with_reducible refine Br.no (decide_eq_false (by omega)) ?_ | with_reducible refine Br.no rfl ?_ | refine gA ?_ | ((with_reducible first | refine gD (fun h => ?_) (fun h => ?_) | refine gE (fun h => ?_) (fun h => ?_)) <;> (try simp only [lm] at h) <;> try have hw := wn h) | refine gC (laws_heldInference x 1 (by omega) rfl) ?_ | refine gC (laws_toProject p) ?_ | refine gC (laws_toDomain b) ?_ | refine gC (hI) ?_ | refine gC (laws_eqInference x) ?_ | intro _)) <;> (try (conv => whnf))
    all_goals exact ⟨rfl, rfl, trivial⟩
theorem law_FirstInference_no (p : Proj) (b : Dom) (hp : p.fine) (z : ¬ (0 ≤ szProject p 1048576 ∧ 0 ≤ szDomain b (szProject p 1048576))) :
    Con 6 [.d p.av, .d b.av] (.d (.bool true)) := by
  refine con Tryz.func6 rfl rfl Tryz.call6 rfl fun hwf => ?_
  have s0 : Sz 1048576 := by unfold Sz; omega
  have s1 := szProject_ok (x := p) s0
  by_cases z0 : 0 ≤ szProject p 1048576
  · have z1 : ¬ 0 ≤ szDomain b (szProject p 1048576) := fun h => z ⟨z0, h⟩
    (repeat' ((conv => whnf); first | with_reducible refine Br.yes (decide_eq_true (by omega)) ?_ | with_reducible refine Br.no (decide_eq_false (by omega)) ?_ | refine gA ?_ | ((with_reducible first | refine gD (fun h => ?_) (fun h => ?_) | refine gE (fun h => ?_) (fun h => ?_)) <;> (try simp only [lm] at h) <;> try have hw := wn h) | refine gC (laws_szProject p _ s0 hp) ?_ | refine gC (laws_szDomain b _ s1) ?_ | intro _)) <;> (try (conv => whnf))
    exact ⟨rfl, rfl, trivial⟩
  · (repeat' ((conv => whnf); first | with_reducible refine Br.yes (decide_eq_true (by omega)) ?_ | refine gA ?_ | ((with_reducible first | refine gD (fun h => ?_) (fun h => ?_) | refine gE (fun h => ?_) (fun h => ?_)) <;> (try simp only [lm] at h) <;> try have hw := wn h) | refine gC (laws_szProject p _ s0 hp) ?_ | intro _)) <;> (try (conv => whnf))
    exact ⟨rfl, rfl, trivial⟩
theorem law_FirstInference_calls (p : Proj) (b : Dom) (hp : p.fine) {w : World} {vs : List Value} (hargs : All2 (RepV (fun b => b < w.heap.size) w lim) [p.av, b.av] vs) :
    Calls Tryz.prog 6 vs.toArray w fun e w' => e = .returned (.bool true) ∧ Below w.heap.size w w' := by
  by_cases z : 0 ≤ szProject p 1048576 ∧ 0 ≤ szDomain b (szProject p 1048576)
  · exact law_box tabOk (by decide) (by decide) mixed Tryz.func6 rfl (law_FirstInference p b hp z.1 z.2 _ _ rfl rfl) (by simp only [List.length_cons, List.length_nil]; decide) hargs
  · exact calls_of_con (args := [p.av, b.av]) (law_FirstInference_no p b hp z) hargs
end Go.Proofs.YtgebcdkmchcifaaGreat.Abs
