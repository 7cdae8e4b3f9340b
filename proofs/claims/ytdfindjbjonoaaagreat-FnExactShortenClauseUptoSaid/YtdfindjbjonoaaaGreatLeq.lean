/- Contracts of the laws' own helpers. No statement of a claim. -/
import Derived.Test.YtdfindjbjonoaaaGreatC1
import Derived.Test.YtdfindjbjonoaaaGreatPlain
set_option linter.all false
set_option linter.unusedVariables false
set_option linter.unusedSimpArgs false
set_option maxRecDepth 20000
set_option maxHeartbeats 4000000
namespace Go.Proofs.YtdfindjbjonoaaaGreat.Abs
open Go.Proofs


theorem laws_eqIntS (l : List Int) : Con 47 [.d (.sl (l.map i64)), .d (.sl (l.map i64))] (.d (.bool true)) := by
  refine con Tryz.func47 rfl rfl Tryz.call47 rfl fun hwf => ?_
  simp only [ARs.wf, AR.wf, AV.wf, AV.wfs, List.length_map, lim] at hwf
  (repeat' ((conv => whnf); first | (with_reducible refine Br.yes (decide_eq_true rfl) ?_) | (with_reducible refine Br.yes (beq_self_eq_true _) ?_) | (with_reducible first | refine Br.ff ?_ | refine Br.tt ?_ | refine Br.not ?_ | refine Br.yes (by assumption) ?_ | refine Br.no (by assumption) ?_ | (refine Br.dec (fun h => ?_) (fun h => ?_) <;> try simp only [lm] at h)) | ((with_reducible refine Br.mk (fun h => ?_) (fun h => ?_)) <;> (try simp only [lm] at h) <;> (first | have hw := within_iff.1 h | have hw := within_no.1 h | skip)) | with_reducible refine Arith.ok (by first | omega | (simp only [lm]; omega)) ?_ | with_reducible refine Idx.at (by first | omega | (simp only [lm] at *; omega)) (fun x hx => ?_) | with_reducible refine Idx.of_map (by first | omega | (simp only [lm] at *; omega)) (fun j x hj hx => ?_) | refine VC.mk (by first | omega | (simp only [lm]; omega)) ?_ | intro _)) <;> (try (conv => whnf))
  refine loopF [0, 1] [] [] ?_
  (conv => whnf)
  refine LoopC.mk ((Nat)) (fun k => (k ≤ l.length)) (fun k => [(5, .data (i64 k))]) (fun _ => []) (fun _ => []) (fun k => l.length - k) (0) ?_ ?_ ?_
  rotate_left
  · (repeat' ((conv => whnf) <;> (first | exact trivial | exact rfl | with_reducible refine And.intro ?_ ?_)))
  rotate_left
  · exact Nat.zero_le _
  rintro k hk
  by_cases hlt : k < l.length
  · obtain ⟨x, hx⟩ : ∃ x, l[k]? = some x := ⟨l[k]'hlt, by simp⟩
    (repeat' ((conv => whnf); first | with_reducible refine Idx.got hx rfl ?_ | (with_reducible refine Br.yes (decide_eq_true rfl) ?_) | (with_reducible refine Br.yes (beq_self_eq_true _) ?_) | (with_reducible first | refine Br.ff ?_ | refine Br.tt ?_ | refine Br.not ?_ | refine Br.yes (by assumption) ?_ | refine Br.no (by assumption) ?_ | (refine Br.dec (fun h => ?_) (fun h => ?_) <;> try simp only [lm] at h)) | ((with_reducible refine Br.mk (fun h => ?_) (fun h => ?_)) <;> (try simp only [lm] at h) <;> (first | have hw := within_iff.1 h | have hw := within_no.1 h | skip)) | with_reducible refine Arith.ok (by first | omega | (simp only [lm]; omega)) ?_ | with_reducible refine Idx.at (by first | omega | (simp only [lm] at *; omega)) (fun x hx => ?_) | with_reducible refine Idx.of_map (by first | omega | (simp only [lm] at *; omega)) (fun j x hj hx => ?_) | refine VC.mk (by first | omega | (simp only [lm]; omega)) ?_ | intro _)) <;> (try (conv => whnf))
    all_goals first
      | (exfalso; omega)
      | (refine ⟨(k + 1), ?_, rfl, ?_, ?_⟩
         rotate_left
         · (repeat' ((conv => whnf) <;> (first | exact trivial | exact rfl | with_reducible refine And.intro ?_ ?_)))
         · (try dsimp only); (try simp only [List.length_map]); omega
         exact (by omega : k + 1 ≤ l.length))
  · (repeat' ((conv => whnf); first | (exfalso; omega) | (with_reducible first | refine Br.ff ?_ | refine Br.tt ?_ | refine Br.not ?_ | refine Br.yes (by assumption) ?_ | refine Br.no (by assumption) ?_ | (refine Br.dec (fun h => ?_) (fun h => ?_) <;> try simp only [lm] at h)) | ((with_reducible refine Br.mk (fun h => ?_) (fun h => ?_)) <;> (try simp only [lm] at h) <;> (first | have hw := within_iff.1 h | have hw := within_no.1 h | skip)) | with_reducible refine Arith.ok (by first | omega | (simp only [lm]; omega)) ?_ | with_reducible refine Idx.at (by first | omega | (simp only [lm] at *; omega)) (fun x hx => ?_) | with_reducible refine Idx.of_map (by first | omega | (simp only [lm] at *; omega)) (fun j x hj hx => ?_) | refine VC.mk (by first | omega | (simp only [lm]; omega)) ?_ | intro _)) <;> (try (conv => whnf))
    exact ⟨rfl, rfl, trivial⟩

theorem laws_eqIntSS (l : List (List Int)) : Con 101 [.d (.sl (l.map ints)), .d (.sl (l.map ints))] (.d (.bool true)) := by
  refine con Tryz.func101 rfl rfl Tryz.call101 rfl fun hwf => ?_
  simp only [ARs.wf, AR.wf, AV.wf, AV.wfs, List.length_map, lim] at hwf
  (repeat' ((conv => whnf); first | (with_reducible refine Br.yes (decide_eq_true rfl) ?_) | (with_reducible refine Br.yes (beq_self_eq_true _) ?_) | (with_reducible first | refine Br.ff ?_ | refine Br.tt ?_ | refine Br.not ?_ | refine Br.yes (by assumption) ?_ | refine Br.no (by assumption) ?_ | (refine Br.dec (fun h => ?_) (fun h => ?_) <;> try simp only [lm] at h)) | ((with_reducible refine Br.mk (fun h => ?_) (fun h => ?_)) <;> (try simp only [lm] at h) <;> (first | have hw := within_iff.1 h | have hw := within_no.1 h | skip)) | with_reducible refine Arith.ok (by first | omega | (simp only [lm]; omega)) ?_ | with_reducible refine Idx.at (by first | omega | (simp only [lm] at *; omega)) (fun x hx => ?_) | with_reducible refine Idx.of_map (by first | omega | (simp only [lm] at *; omega)) (fun j x hj hx => ?_) | refine VC.mk (by first | omega | (simp only [lm]; omega)) ?_ | intro _)) <;> (try (conv => whnf))
  refine loopF [0, 1] [] [] ?_
  (conv => whnf)
  refine LoopC.mk ((Nat)) (fun k => (k ≤ l.length)) (fun k => [(5, .data (i64 k))]) (fun _ => []) (fun _ => []) (fun k => l.length - k) (0) ?_ ?_ ?_
  rotate_left
  · (repeat' ((conv => whnf) <;> (first | exact trivial | exact rfl | with_reducible refine And.intro ?_ ?_)))
  rotate_left
  · exact Nat.zero_le _
  rintro k hk
  by_cases hlt : k < l.length
  · obtain ⟨x, hx⟩ : ∃ x, l[k]? = some x := ⟨l[k]'hlt, by simp⟩
    (repeat' ((conv => whnf); first | with_reducible refine Idx.got hx rfl ?_ | (with_reducible refine Br.yes (decide_eq_true rfl) ?_) | (with_reducible refine Br.yes (beq_self_eq_true _) ?_) | (with_reducible first | refine Br.ff ?_ | refine Br.tt ?_ | refine Br.not ?_ | refine Br.yes (by assumption) ?_ | refine Br.no (by assumption) ?_ | (refine Br.dec (fun h => ?_) (fun h => ?_) <;> try simp only [lm] at h)) | ((with_reducible refine Br.mk (fun h => ?_) (fun h => ?_)) <;> (try simp only [lm] at h) <;> (first | have hw := within_iff.1 h | have hw := within_no.1 h | skip)) | with_reducible refine Arith.ok (by first | omega | (simp only [lm]; omega)) ?_ | with_reducible refine Idx.at (by first | omega | (simp only [lm] at *; omega)) (fun x hx => ?_) | with_reducible refine Idx.of_map (by first | omega | (simp only [lm] at *; omega)) (fun j x hj hx => ?_) | refine VC.mk (by first | omega | (simp only [lm]; omega)) ?_ | refine CallK.mk _ (laws_eqIntS x) (fun _ => ?_) | refine CallD.mk _ (fun _ hk => CallK.mk _ (laws_eqIntS x) (fun _ => hk)) ?_ | intro _)) <;> (try (conv => whnf))
    all_goals first
      | (exfalso; omega)
      | (refine ⟨(k + 1), ?_, rfl, ?_, ?_⟩
         rotate_left
         · (repeat' ((conv => whnf) <;> (first | exact trivial | exact rfl | with_reducible refine And.intro ?_ ?_)))
         · (try dsimp only); (try simp only [List.length_map]); omega
         exact (by omega : k + 1 ≤ l.length))
  · (repeat' ((conv => whnf); first | (exfalso; omega) | (with_reducible first | refine Br.ff ?_ | refine Br.tt ?_ | refine Br.not ?_ | refine Br.yes (by assumption) ?_ | refine Br.no (by assumption) ?_ | (refine Br.dec (fun h => ?_) (fun h => ?_) <;> try simp only [lm] at h)) | ((with_reducible refine Br.mk (fun h => ?_) (fun h => ?_)) <;> (try simp only [lm] at h) <;> (first | have hw := within_iff.1 h | have hw := within_no.1 h | skip)) | with_reducible refine Arith.ok (by first | omega | (simp only [lm]; omega)) ?_ | with_reducible refine Idx.at (by first | omega | (simp only [lm] at *; omega)) (fun x hx => ?_) | with_reducible refine Idx.of_map (by first | omega | (simp only [lm] at *; omega)) (fun j x hj hx => ?_) | refine VC.mk (by first | omega | (simp only [lm]; omega)) ?_ | intro _)) <;> (try (conv => whnf))
    exact ⟨rfl, rfl, trivial⟩

theorem laws_eqStep (x : Step) : Con 379 [.d x.av, .d x.av] (.d (.bool true)) := by
  refine con Tryz.func379 rfl rfl Tryz.call379 rfl fun hwf => ?_
  (repeat' ((conv => whnf); first | (with_reducible refine Br.yes (decide_eq_true rfl) ?_) | (with_reducible refine Br.yes (beq_self_eq_true _) ?_) | (with_reducible first | refine Br.ff ?_ | refine Br.tt ?_ | refine Br.not ?_ | refine Br.yes (by assumption) ?_ | refine Br.no (by assumption) ?_ | (refine Br.dec (fun h => ?_) (fun h => ?_) <;> try simp only [lm] at h)) | ((with_reducible refine Br.mk (fun h => ?_) (fun h => ?_)) <;> (try simp only [lm] at h) <;> (first | have hw := within_iff.1 h | have hw := within_no.1 h | skip)) | intro _)) <;> (try (conv => whnf))
  all_goals exact ⟨rfl, rfl, trivial⟩

theorem laws_eqStepS (l : List Step) : Con 295 [.d (.sl (l.map Step.av)), .d (.sl (l.map Step.av))] (.d (.bool true)) := by
  refine con Tryz.func295 rfl rfl Tryz.call295 rfl fun hwf => ?_
  simp only [ARs.wf, AR.wf, AV.wf, AV.wfs, List.length_map, lim] at hwf
  (repeat' ((conv => whnf); first | (with_reducible refine Br.yes (decide_eq_true rfl) ?_) | (with_reducible refine Br.yes (beq_self_eq_true _) ?_) | (with_reducible first | refine Br.ff ?_ | refine Br.tt ?_ | refine Br.not ?_ | refine Br.yes (by assumption) ?_ | refine Br.no (by assumption) ?_ | (refine Br.dec (fun h => ?_) (fun h => ?_) <;> try simp only [lm] at h)) | ((with_reducible refine Br.mk (fun h => ?_) (fun h => ?_)) <;> (try simp only [lm] at h) <;> (first | have hw := within_iff.1 h | have hw := within_no.1 h | skip)) | with_reducible refine Arith.ok (by first | omega | (simp only [lm]; omega)) ?_ | with_reducible refine Idx.at (by first | omega | (simp only [lm] at *; omega)) (fun x hx => ?_) | with_reducible refine Idx.of_map (by first | omega | (simp only [lm] at *; omega)) (fun j x hj hx => ?_) | refine VC.mk (by first | omega | (simp only [lm]; omega)) ?_ | intro _)) <;> (try (conv => whnf))
  refine loopF [0, 1] [] [] ?_
  (conv => whnf)
  refine LoopC.mk ((Nat)) (fun k => (k ≤ l.length)) (fun k => [(5, .data (i64 k))]) (fun _ => []) (fun _ => []) (fun k => l.length - k) (0) ?_ ?_ ?_
  rotate_left
  · (repeat' ((conv => whnf) <;> (first | exact trivial | exact rfl | with_reducible refine And.intro ?_ ?_)))
  rotate_left
  · exact Nat.zero_le _
  rintro k hk
  by_cases hlt : k < l.length
  · obtain ⟨x, hx⟩ : ∃ x, l[k]? = some x := ⟨l[k]'hlt, by simp⟩
    (repeat' ((conv => whnf); first | with_reducible refine Idx.got hx rfl ?_ | (with_reducible refine Br.yes (decide_eq_true rfl) ?_) | (with_reducible refine Br.yes (beq_self_eq_true _) ?_) | (with_reducible first | refine Br.ff ?_ | refine Br.tt ?_ | refine Br.not ?_ | refine Br.yes (by assumption) ?_ | refine Br.no (by assumption) ?_ | (refine Br.dec (fun h => ?_) (fun h => ?_) <;> try simp only [lm] at h)) | ((with_reducible refine Br.mk (fun h => ?_) (fun h => ?_)) <;> (try simp only [lm] at h) <;> (first | have hw := within_iff.1 h | have hw := within_no.1 h | skip)) | with_reducible refine Arith.ok (by first | omega | (simp only [lm]; omega)) ?_ | with_reducible refine Idx.at (by first | omega | (simp only [lm] at *; omega)) (fun x hx => ?_) | with_reducible refine Idx.of_map (by first | omega | (simp only [lm] at *; omega)) (fun j x hj hx => ?_) | refine VC.mk (by first | omega | (simp only [lm]; omega)) ?_ | refine CallK.mk _ (laws_eqStep x) (fun _ => ?_) | refine CallD.mk _ (fun _ hk => CallK.mk _ (laws_eqStep x) (fun _ => hk)) ?_ | intro _)) <;> (try (conv => whnf))
    all_goals first
      | (exfalso; omega)
      | (refine ⟨(k + 1), ?_, rfl, ?_, ?_⟩
         rotate_left
         · (repeat' ((conv => whnf) <;> (first | exact trivial | exact rfl | with_reducible refine And.intro ?_ ?_)))
         · (try dsimp only); (try simp only [List.length_map]); omega
         exact (by omega : k + 1 ≤ l.length))
  · (repeat' ((conv => whnf); first | (exfalso; omega) | (with_reducible first | refine Br.ff ?_ | refine Br.tt ?_ | refine Br.not ?_ | refine Br.yes (by assumption) ?_ | refine Br.no (by assumption) ?_ | (refine Br.dec (fun h => ?_) (fun h => ?_) <;> try simp only [lm] at h)) | ((with_reducible refine Br.mk (fun h => ?_) (fun h => ?_)) <;> (try simp only [lm] at h) <;> (first | have hw := within_iff.1 h | have hw := within_no.1 h | skip)) | with_reducible refine Arith.ok (by first | omega | (simp only [lm]; omega)) ?_ | with_reducible refine Idx.at (by first | omega | (simp only [lm] at *; omega)) (fun x hx => ?_) | with_reducible refine Idx.of_map (by first | omega | (simp only [lm] at *; omega)) (fun j x hj hx => ?_) | refine VC.mk (by first | omega | (simp only [lm]; omega)) ?_ | intro _)) <;> (try (conv => whnf))
    exact ⟨rfl, rfl, trivial⟩

theorem laws_eqMode (x : Mode) : Con 378 [.d x.av, .d x.av] (.d (.bool true)) := by
  refine con Tryz.func378 rfl rfl Tryz.call378 rfl fun hwf => ?_
  (repeat' ((conv => whnf); first | (with_reducible refine Br.yes (decide_eq_true rfl) ?_) | (with_reducible refine Br.yes (beq_self_eq_true _) ?_) | (with_reducible first | refine Br.ff ?_ | refine Br.tt ?_ | refine Br.not ?_ | refine Br.yes (by assumption) ?_ | refine Br.no (by assumption) ?_ | (refine Br.dec (fun h => ?_) (fun h => ?_) <;> try simp only [lm] at h)) | ((with_reducible refine Br.mk (fun h => ?_) (fun h => ?_)) <;> (try simp only [lm] at h) <;> (first | have hw := within_iff.1 h | have hw := within_no.1 h | skip)) | refine CallK.mk _ (laws_eqIntS x.use) (fun _ => ?_) | refine CallD.mk _ (fun _ hk => CallK.mk _ (laws_eqIntS x.use) (fun _ => hk)) ?_ | refine CallK.mk _ (laws_eqIntS x.con) (fun _ => ?_) | refine CallD.mk _ (fun _ hk => CallK.mk _ (laws_eqIntS x.con) (fun _ => hk)) ?_ | intro _)) <;> (try (conv => whnf))
  all_goals exact ⟨rfl, rfl, trivial⟩

theorem laws_eqModeS (l : List Mode) : Con 294 [.d (.sl (l.map Mode.av)), .d (.sl (l.map Mode.av))] (.d (.bool true)) := by
  refine con Tryz.func294 rfl rfl Tryz.call294 rfl fun hwf => ?_
  simp only [ARs.wf, AR.wf, AV.wf, AV.wfs, List.length_map, lim] at hwf
  (repeat' ((conv => whnf); first | (with_reducible refine Br.yes (decide_eq_true rfl) ?_) | (with_reducible refine Br.yes (beq_self_eq_true _) ?_) | (with_reducible first | refine Br.ff ?_ | refine Br.tt ?_ | refine Br.not ?_ | refine Br.yes (by assumption) ?_ | refine Br.no (by assumption) ?_ | (refine Br.dec (fun h => ?_) (fun h => ?_) <;> try simp only [lm] at h)) | ((with_reducible refine Br.mk (fun h => ?_) (fun h => ?_)) <;> (try simp only [lm] at h) <;> (first | have hw := within_iff.1 h | have hw := within_no.1 h | skip)) | with_reducible refine Arith.ok (by first | omega | (simp only [lm]; omega)) ?_ | with_reducible refine Idx.at (by first | omega | (simp only [lm] at *; omega)) (fun x hx => ?_) | with_reducible refine Idx.of_map (by first | omega | (simp only [lm] at *; omega)) (fun j x hj hx => ?_) | refine VC.mk (by first | omega | (simp only [lm]; omega)) ?_ | intro _)) <;> (try (conv => whnf))
  refine loopF [0, 1] [] [] ?_
  (conv => whnf)
  refine LoopC.mk ((Nat)) (fun k => (k ≤ l.length)) (fun k => [(5, .data (i64 k))]) (fun _ => []) (fun _ => []) (fun k => l.length - k) (0) ?_ ?_ ?_
  rotate_left
  · (repeat' ((conv => whnf) <;> (first | exact trivial | exact rfl | with_reducible refine And.intro ?_ ?_)))
  rotate_left
  · exact Nat.zero_le _
  rintro k hk
  by_cases hlt : k < l.length
  · obtain ⟨x, hx⟩ : ∃ x, l[k]? = some x := ⟨l[k]'hlt, by simp⟩
    (repeat' ((conv => whnf); first | with_reducible refine Idx.got hx rfl ?_ | (with_reducible refine Br.yes (decide_eq_true rfl) ?_) | (with_reducible refine Br.yes (beq_self_eq_true _) ?_) | (with_reducible first | refine Br.ff ?_ | refine Br.tt ?_ | refine Br.not ?_ | refine Br.yes (by assumption) ?_ | refine Br.no (by assumption) ?_ | (refine Br.dec (fun h => ?_) (fun h => ?_) <;> try simp only [lm] at h)) | ((with_reducible refine Br.mk (fun h => ?_) (fun h => ?_)) <;> (try simp only [lm] at h) <;> (first | have hw := within_iff.1 h | have hw := within_no.1 h | skip)) | with_reducible refine Arith.ok (by first | omega | (simp only [lm]; omega)) ?_ | with_reducible refine Idx.at (by first | omega | (simp only [lm] at *; omega)) (fun x hx => ?_) | with_reducible refine Idx.of_map (by first | omega | (simp only [lm] at *; omega)) (fun j x hj hx => ?_) | refine VC.mk (by first | omega | (simp only [lm]; omega)) ?_ | refine CallK.mk _ (laws_eqMode x) (fun _ => ?_) | refine CallD.mk _ (fun _ hk => CallK.mk _ (laws_eqMode x) (fun _ => hk)) ?_ | intro _)) <;> (try (conv => whnf))
    all_goals first
      | (exfalso; omega)
      | (refine ⟨(k + 1), ?_, rfl, ?_, ?_⟩
         rotate_left
         · (repeat' ((conv => whnf) <;> (first | exact trivial | exact rfl | with_reducible refine And.intro ?_ ?_)))
         · (try dsimp only); (try simp only [List.length_map]); omega
         exact (by omega : k + 1 ≤ l.length))
  · (repeat' ((conv => whnf); first | (exfalso; omega) | (with_reducible first | refine Br.ff ?_ | refine Br.tt ?_ | refine Br.not ?_ | refine Br.yes (by assumption) ?_ | refine Br.no (by assumption) ?_ | (refine Br.dec (fun h => ?_) (fun h => ?_) <;> try simp only [lm] at h)) | ((with_reducible refine Br.mk (fun h => ?_) (fun h => ?_)) <;> (try simp only [lm] at h) <;> (first | have hw := within_iff.1 h | have hw := within_no.1 h | skip)) | with_reducible refine Arith.ok (by first | omega | (simp only [lm]; omega)) ?_ | with_reducible refine Idx.at (by first | omega | (simp only [lm] at *; omega)) (fun x hx => ?_) | with_reducible refine Idx.of_map (by first | omega | (simp only [lm] at *; omega)) (fun j x hj hx => ?_) | refine VC.mk (by first | omega | (simp only [lm]; omega)) ?_ | intro _)) <;> (try (conv => whnf))
    exact ⟨rfl, rfl, trivial⟩

theorem laws_eqActivity (x : Activ) : Con 183 [.d x.av, .d x.av] (.d (.bool true)) := by
  refine con Tryz.func183 rfl rfl Tryz.call183 rfl fun hwf => ?_
  (repeat' ((conv => whnf); first | (with_reducible refine Br.yes (decide_eq_true rfl) ?_) | (with_reducible refine Br.yes (beq_self_eq_true _) ?_) | (with_reducible first | refine Br.ff ?_ | refine Br.tt ?_ | refine Br.not ?_ | refine Br.yes (by assumption) ?_ | refine Br.no (by assumption) ?_ | (refine Br.dec (fun h => ?_) (fun h => ?_) <;> try simp only [lm] at h)) | ((with_reducible refine Br.mk (fun h => ?_) (fun h => ?_)) <;> (try simp only [lm] at h) <;> (first | have hw := within_iff.1 h | have hw := within_no.1 h | skip)) | refine CallK.mk _ (laws_eqModeS x.modes) (fun _ => ?_) | refine CallD.mk _ (fun _ hk => CallK.mk _ (laws_eqModeS x.modes) (fun _ => hk)) ?_ | intro _)) <;> (try (conv => whnf))
  all_goals exact ⟨rfl, rfl, trivial⟩

theorem laws_eqActivityS (l : List Activ) : Con 86 [.d (.sl (l.map Activ.av)), .d (.sl (l.map Activ.av))] (.d (.bool true)) := by
  refine con Tryz.func86 rfl rfl Tryz.call86 rfl fun hwf => ?_
  simp only [ARs.wf, AR.wf, AV.wf, AV.wfs, List.length_map, lim] at hwf
  (repeat' ((conv => whnf); first | (with_reducible refine Br.yes (decide_eq_true rfl) ?_) | (with_reducible refine Br.yes (beq_self_eq_true _) ?_) | (with_reducible first | refine Br.ff ?_ | refine Br.tt ?_ | refine Br.not ?_ | refine Br.yes (by assumption) ?_ | refine Br.no (by assumption) ?_ | (refine Br.dec (fun h => ?_) (fun h => ?_) <;> try simp only [lm] at h)) | ((with_reducible refine Br.mk (fun h => ?_) (fun h => ?_)) <;> (try simp only [lm] at h) <;> (first | have hw := within_iff.1 h | have hw := within_no.1 h | skip)) | with_reducible refine Arith.ok (by first | omega | (simp only [lm]; omega)) ?_ | with_reducible refine Idx.at (by first | omega | (simp only [lm] at *; omega)) (fun x hx => ?_) | with_reducible refine Idx.of_map (by first | omega | (simp only [lm] at *; omega)) (fun j x hj hx => ?_) | refine VC.mk (by first | omega | (simp only [lm]; omega)) ?_ | intro _)) <;> (try (conv => whnf))
  refine loopF [0, 1] [] [] ?_
  (conv => whnf)
  refine LoopC.mk ((Nat)) (fun k => (k ≤ l.length)) (fun k => [(5, .data (i64 k))]) (fun _ => []) (fun _ => []) (fun k => l.length - k) (0) ?_ ?_ ?_
  rotate_left
  · (repeat' ((conv => whnf) <;> (first | exact trivial | exact rfl | with_reducible refine And.intro ?_ ?_)))
  rotate_left
  · exact Nat.zero_le _
  rintro k hk
  by_cases hlt : k < l.length
  · obtain ⟨x, hx⟩ : ∃ x, l[k]? = some x := ⟨l[k]'hlt, by simp⟩
    (repeat' ((conv => whnf); first | with_reducible refine Idx.got hx rfl ?_ | (with_reducible refine Br.yes (decide_eq_true rfl) ?_) | (with_reducible refine Br.yes (beq_self_eq_true _) ?_) | (with_reducible first | refine Br.ff ?_ | refine Br.tt ?_ | refine Br.not ?_ | refine Br.yes (by assumption) ?_ | refine Br.no (by assumption) ?_ | (refine Br.dec (fun h => ?_) (fun h => ?_) <;> try simp only [lm] at h)) | ((with_reducible refine Br.mk (fun h => ?_) (fun h => ?_)) <;> (try simp only [lm] at h) <;> (first | have hw := within_iff.1 h | have hw := within_no.1 h | skip)) | with_reducible refine Arith.ok (by first | omega | (simp only [lm]; omega)) ?_ | with_reducible refine Idx.at (by first | omega | (simp only [lm] at *; omega)) (fun x hx => ?_) | with_reducible refine Idx.of_map (by first | omega | (simp only [lm] at *; omega)) (fun j x hj hx => ?_) | refine VC.mk (by first | omega | (simp only [lm]; omega)) ?_ | refine CallK.mk _ (laws_eqActivity x) (fun _ => ?_) | refine CallD.mk _ (fun _ hk => CallK.mk _ (laws_eqActivity x) (fun _ => hk)) ?_ | intro _)) <;> (try (conv => whnf))
    all_goals first
      | (exfalso; omega)
      | (refine ⟨(k + 1), ?_, rfl, ?_, ?_⟩
         rotate_left
         · (repeat' ((conv => whnf) <;> (first | exact trivial | exact rfl | with_reducible refine And.intro ?_ ?_)))
         · (try dsimp only); (try simp only [List.length_map]); omega
         exact (by omega : k + 1 ≤ l.length))
  · (repeat' ((conv => whnf); first | (exfalso; omega) | (with_reducible first | refine Br.ff ?_ | refine Br.tt ?_ | refine Br.not ?_ | refine Br.yes (by assumption) ?_ | refine Br.no (by assumption) ?_ | (refine Br.dec (fun h => ?_) (fun h => ?_) <;> try simp only [lm] at h)) | ((with_reducible refine Br.mk (fun h => ?_) (fun h => ?_)) <;> (try simp only [lm] at h) <;> (first | have hw := within_iff.1 h | have hw := within_no.1 h | skip)) | with_reducible refine Arith.ok (by first | omega | (simp only [lm]; omega)) ?_ | with_reducible refine Idx.at (by first | omega | (simp only [lm] at *; omega)) (fun x hx => ?_) | with_reducible refine Idx.of_map (by first | omega | (simp only [lm] at *; omega)) (fun j x hj hx => ?_) | refine VC.mk (by first | omega | (simp only [lm]; omega)) ?_ | intro _)) <;> (try (conv => whnf))
    exact ⟨rfl, rfl, trivial⟩

theorem laws_eqLink (x : Link) : Con 184 [.d x.av, .d x.av] (.d (.bool true)) := by
  refine con Tryz.func184 rfl rfl Tryz.call184 rfl fun hwf => ?_
  (repeat' ((conv => whnf); first | (with_reducible refine Br.yes (decide_eq_true rfl) ?_) | (with_reducible refine Br.yes (beq_self_eq_true _) ?_) | (with_reducible first | refine Br.ff ?_ | refine Br.tt ?_ | refine Br.not ?_ | refine Br.yes (by assumption) ?_ | refine Br.no (by assumption) ?_ | (refine Br.dec (fun h => ?_) (fun h => ?_) <;> try simp only [lm] at h)) | ((with_reducible refine Br.mk (fun h => ?_) (fun h => ?_)) <;> (try simp only [lm] at h) <;> (first | have hw := within_iff.1 h | have hw := within_no.1 h | skip)) | intro _)) <;> (try (conv => whnf))
  all_goals exact ⟨rfl, rfl, trivial⟩

theorem laws_eqLinkS (l : List Link) : Con 87 [.d (.sl (l.map Link.av)), .d (.sl (l.map Link.av))] (.d (.bool true)) := by
  refine con Tryz.func87 rfl rfl Tryz.call87 rfl fun hwf => ?_
  simp only [ARs.wf, AR.wf, AV.wf, AV.wfs, List.length_map, lim] at hwf
  (repeat' ((conv => whnf); first | (with_reducible refine Br.yes (decide_eq_true rfl) ?_) | (with_reducible refine Br.yes (beq_self_eq_true _) ?_) | (with_reducible first | refine Br.ff ?_ | refine Br.tt ?_ | refine Br.not ?_ | refine Br.yes (by assumption) ?_ | refine Br.no (by assumption) ?_ | (refine Br.dec (fun h => ?_) (fun h => ?_) <;> try simp only [lm] at h)) | ((with_reducible refine Br.mk (fun h => ?_) (fun h => ?_)) <;> (try simp only [lm] at h) <;> (first | have hw := within_iff.1 h | have hw := within_no.1 h | skip)) | with_reducible refine Arith.ok (by first | omega | (simp only [lm]; omega)) ?_ | with_reducible refine Idx.at (by first | omega | (simp only [lm] at *; omega)) (fun x hx => ?_) | with_reducible refine Idx.of_map (by first | omega | (simp only [lm] at *; omega)) (fun j x hj hx => ?_) | refine VC.mk (by first | omega | (simp only [lm]; omega)) ?_ | intro _)) <;> (try (conv => whnf))
  refine loopF [0, 1] [] [] ?_
  (conv => whnf)
  refine LoopC.mk ((Nat)) (fun k => (k ≤ l.length)) (fun k => [(5, .data (i64 k))]) (fun _ => []) (fun _ => []) (fun k => l.length - k) (0) ?_ ?_ ?_
  rotate_left
  · (repeat' ((conv => whnf) <;> (first | exact trivial | exact rfl | with_reducible refine And.intro ?_ ?_)))
  rotate_left
  · exact Nat.zero_le _
  rintro k hk
  by_cases hlt : k < l.length
  · obtain ⟨x, hx⟩ : ∃ x, l[k]? = some x := ⟨l[k]'hlt, by simp⟩
    (repeat' ((conv => whnf); first | with_reducible refine Idx.got hx rfl ?_ | (with_reducible refine Br.yes (decide_eq_true rfl) ?_) | (with_reducible refine Br.yes (beq_self_eq_true _) ?_) | (with_reducible first | refine Br.ff ?_ | refine Br.tt ?_ | refine Br.not ?_ | refine Br.yes (by assumption) ?_ | refine Br.no (by assumption) ?_ | (refine Br.dec (fun h => ?_) (fun h => ?_) <;> try simp only [lm] at h)) | ((with_reducible refine Br.mk (fun h => ?_) (fun h => ?_)) <;> (try simp only [lm] at h) <;> (first | have hw := within_iff.1 h | have hw := within_no.1 h | skip)) | with_reducible refine Arith.ok (by first | omega | (simp only [lm]; omega)) ?_ | with_reducible refine Idx.at (by first | omega | (simp only [lm] at *; omega)) (fun x hx => ?_) | with_reducible refine Idx.of_map (by first | omega | (simp only [lm] at *; omega)) (fun j x hj hx => ?_) | refine VC.mk (by first | omega | (simp only [lm]; omega)) ?_ | refine CallK.mk _ (laws_eqLink x) (fun _ => ?_) | refine CallD.mk _ (fun _ hk => CallK.mk _ (laws_eqLink x) (fun _ => hk)) ?_ | intro _)) <;> (try (conv => whnf))
    all_goals first
      | (exfalso; omega)
      | (refine ⟨(k + 1), ?_, rfl, ?_, ?_⟩
         rotate_left
         · (repeat' ((conv => whnf) <;> (first | exact trivial | exact rfl | with_reducible refine And.intro ?_ ?_)))
         · (try dsimp only); (try simp only [List.length_map]); omega
         exact (by omega : k + 1 ≤ l.length))
  · (repeat' ((conv => whnf); first | (exfalso; omega) | (with_reducible first | refine Br.ff ?_ | refine Br.tt ?_ | refine Br.not ?_ | refine Br.yes (by assumption) ?_ | refine Br.no (by assumption) ?_ | (refine Br.dec (fun h => ?_) (fun h => ?_) <;> try simp only [lm] at h)) | ((with_reducible refine Br.mk (fun h => ?_) (fun h => ?_)) <;> (try simp only [lm] at h) <;> (first | have hw := within_iff.1 h | have hw := within_no.1 h | skip)) | with_reducible refine Arith.ok (by first | omega | (simp only [lm]; omega)) ?_ | with_reducible refine Idx.at (by first | omega | (simp only [lm] at *; omega)) (fun x hx => ?_) | with_reducible refine Idx.of_map (by first | omega | (simp only [lm] at *; omega)) (fun j x hj hx => ?_) | refine VC.mk (by first | omega | (simp only [lm]; omega)) ?_ | intro _)) <;> (try (conv => whnf))
    exact ⟨rfl, rfl, trivial⟩

theorem laws_eqResource (x : Resrc) : Con 185 [.d x.av, .d x.av] (.d (.bool true)) := by
  refine con Tryz.func185 rfl rfl Tryz.call185 rfl fun hwf => ?_
  (repeat' ((conv => whnf); first | (with_reducible refine Br.yes (decide_eq_true rfl) ?_) | (with_reducible refine Br.yes (beq_self_eq_true _) ?_) | (with_reducible first | refine Br.ff ?_ | refine Br.tt ?_ | refine Br.not ?_ | refine Br.yes (by assumption) ?_ | refine Br.no (by assumption) ?_ | (refine Br.dec (fun h => ?_) (fun h => ?_) <;> try simp only [lm] at h)) | ((with_reducible refine Br.mk (fun h => ?_) (fun h => ?_)) <;> (try simp only [lm] at h) <;> (first | have hw := within_iff.1 h | have hw := within_no.1 h | skip)) | refine CallK.mk _ (laws_eqStepS x.steps) (fun _ => ?_) | refine CallD.mk _ (fun _ hk => CallK.mk _ (laws_eqStepS x.steps) (fun _ => hk)) ?_ | refine CallK.mk _ (laws_eqIntSS x.setup) (fun _ => ?_) | refine CallD.mk _ (fun _ hk => CallK.mk _ (laws_eqIntSS x.setup) (fun _ => hk)) ?_ | intro _)) <;> (try (conv => whnf))
  all_goals exact ⟨rfl, rfl, trivial⟩

theorem laws_eqResourceS (l : List Resrc) : Con 88 [.d (.sl (l.map Resrc.av)), .d (.sl (l.map Resrc.av))] (.d (.bool true)) := by
  refine con Tryz.func88 rfl rfl Tryz.call88 rfl fun hwf => ?_
  simp only [ARs.wf, AR.wf, AV.wf, AV.wfs, List.length_map, lim] at hwf
  (repeat' ((conv => whnf); first | (with_reducible refine Br.yes (decide_eq_true rfl) ?_) | (with_reducible refine Br.yes (beq_self_eq_true _) ?_) | (with_reducible first | refine Br.ff ?_ | refine Br.tt ?_ | refine Br.not ?_ | refine Br.yes (by assumption) ?_ | refine Br.no (by assumption) ?_ | (refine Br.dec (fun h => ?_) (fun h => ?_) <;> try simp only [lm] at h)) | ((with_reducible refine Br.mk (fun h => ?_) (fun h => ?_)) <;> (try simp only [lm] at h) <;> (first | have hw := within_iff.1 h | have hw := within_no.1 h | skip)) | with_reducible refine Arith.ok (by first | omega | (simp only [lm]; omega)) ?_ | with_reducible refine Idx.at (by first | omega | (simp only [lm] at *; omega)) (fun x hx => ?_) | with_reducible refine Idx.of_map (by first | omega | (simp only [lm] at *; omega)) (fun j x hj hx => ?_) | refine VC.mk (by first | omega | (simp only [lm]; omega)) ?_ | intro _)) <;> (try (conv => whnf))
  refine loopF [0, 1] [] [] ?_
  (conv => whnf)
  refine LoopC.mk ((Nat)) (fun k => (k ≤ l.length)) (fun k => [(5, .data (i64 k))]) (fun _ => []) (fun _ => []) (fun k => l.length - k) (0) ?_ ?_ ?_
  rotate_left
  · (repeat' ((conv => whnf) <;> (first | exact trivial | exact rfl | with_reducible refine And.intro ?_ ?_)))
  rotate_left
  · exact Nat.zero_le _
  rintro k hk
  by_cases hlt : k < l.length
  · obtain ⟨x, hx⟩ : ∃ x, l[k]? = some x := ⟨l[k]'hlt, by simp⟩
    (repeat' ((conv => whnf); first | with_reducible refine Idx.got hx rfl ?_ | (with_reducible refine Br.yes (decide_eq_true rfl) ?_) | (with_reducible refine Br.yes (beq_self_eq_true _) ?_) | (with_reducible first | refine Br.ff ?_ | refine Br.tt ?_ | refine Br.not ?_ | refine Br.yes (by assumption) ?_ | refine Br.no (by assumption) ?_ | (refine Br.dec (fun h => ?_) (fun h => ?_) <;> try simp only [lm] at h)) | ((with_reducible refine Br.mk (fun h => ?_) (fun h => ?_)) <;> (try simp only [lm] at h) <;> (first | have hw := within_iff.1 h | have hw := within_no.1 h | skip)) | with_reducible refine Arith.ok (by first | omega | (simp only [lm]; omega)) ?_ | with_reducible refine Idx.at (by first | omega | (simp only [lm] at *; omega)) (fun x hx => ?_) | with_reducible refine Idx.of_map (by first | omega | (simp only [lm] at *; omega)) (fun j x hj hx => ?_) | refine VC.mk (by first | omega | (simp only [lm]; omega)) ?_ | refine CallK.mk _ (laws_eqResource x) (fun _ => ?_) | refine CallD.mk _ (fun _ hk => CallK.mk _ (laws_eqResource x) (fun _ => hk)) ?_ | intro _)) <;> (try (conv => whnf))
    all_goals first
      | (exfalso; omega)
      | (refine ⟨(k + 1), ?_, rfl, ?_, ?_⟩
         rotate_left
         · (repeat' ((conv => whnf) <;> (first | exact trivial | exact rfl | with_reducible refine And.intro ?_ ?_)))
         · (try dsimp only); (try simp only [List.length_map]); omega
         exact (by omega : k + 1 ≤ l.length))
  · (repeat' ((conv => whnf); first | (exfalso; omega) | (with_reducible first | refine Br.ff ?_ | refine Br.tt ?_ | refine Br.not ?_ | refine Br.yes (by assumption) ?_ | refine Br.no (by assumption) ?_ | (refine Br.dec (fun h => ?_) (fun h => ?_) <;> try simp only [lm] at h)) | ((with_reducible refine Br.mk (fun h => ?_) (fun h => ?_)) <;> (try simp only [lm] at h) <;> (first | have hw := within_iff.1 h | have hw := within_no.1 h | skip)) | with_reducible refine Arith.ok (by first | omega | (simp only [lm]; omega)) ?_ | with_reducible refine Idx.at (by first | omega | (simp only [lm] at *; omega)) (fun x hx => ?_) | with_reducible refine Idx.of_map (by first | omega | (simp only [lm] at *; omega)) (fun j x hj hx => ?_) | refine VC.mk (by first | omega | (simp only [lm]; omega)) ?_ | intro _)) <;> (try (conv => whnf))
    exact ⟨rfl, rfl, trivial⟩

theorem laws_eqProject (x : Proj) : Con 23 [.d x.av, .d x.av] (.d (.bool true)) := by
  refine con Tryz.func23 rfl rfl Tryz.call23 rfl fun hwf => ?_
  (repeat' ((conv => whnf); first | (with_reducible refine Br.yes (decide_eq_true rfl) ?_) | (with_reducible refine Br.yes (beq_self_eq_true _) ?_) | (with_reducible first | refine Br.ff ?_ | refine Br.tt ?_ | refine Br.not ?_ | refine Br.yes (by assumption) ?_ | refine Br.no (by assumption) ?_ | (refine Br.dec (fun h => ?_) (fun h => ?_) <;> try simp only [lm] at h)) | ((with_reducible refine Br.mk (fun h => ?_) (fun h => ?_)) <;> (try simp only [lm] at h) <;> (first | have hw := within_iff.1 h | have hw := within_no.1 h | skip)) | refine CallK.mk _ (laws_eqActivityS x.acts) (fun _ => ?_) | refine CallD.mk _ (fun _ hk => CallK.mk _ (laws_eqActivityS x.acts) (fun _ => hk)) ?_ | refine CallK.mk _ (laws_eqLinkS x.links) (fun _ => ?_) | refine CallD.mk _ (fun _ hk => CallK.mk _ (laws_eqLinkS x.links) (fun _ => hk)) ?_ | refine CallK.mk _ (laws_eqResourceS x.ress) (fun _ => ?_) | refine CallD.mk _ (fun _ hk => CallK.mk _ (laws_eqResourceS x.ress) (fun _ => hk)) ?_ | refine CallK.mk _ (laws_eqIntS x.stocks) (fun _ => ?_) | refine CallD.mk _ (fun _ hk => CallK.mk _ (laws_eqIntS x.stocks) (fun _ => hk)) ?_ | intro _)) <;> (try (conv => whnf))
  all_goals exact ⟨rfl, rfl, trivial⟩

theorem laws_eqSchedule (x : Sched) : Con 55 [.d x.av, .d x.av] (.d (.bool true)) := by
  refine con Tryz.func55 rfl rfl Tryz.call55 rfl fun hwf => ?_
  (repeat' ((conv => whnf); first | (with_reducible refine Br.yes (decide_eq_true rfl) ?_) | (with_reducible refine Br.yes (beq_self_eq_true _) ?_) | (with_reducible first | refine Br.ff ?_ | refine Br.tt ?_ | refine Br.not ?_ | refine Br.yes (by assumption) ?_ | refine Br.no (by assumption) ?_ | (refine Br.dec (fun h => ?_) (fun h => ?_) <;> try simp only [lm] at h)) | ((with_reducible refine Br.mk (fun h => ?_) (fun h => ?_)) <;> (try simp only [lm] at h) <;> (first | have hw := within_iff.1 h | have hw := within_no.1 h | skip)) | refine CallK.mk _ (laws_eqIntS x.starts) (fun _ => ?_) | refine CallD.mk _ (fun _ hk => CallK.mk _ (laws_eqIntS x.starts) (fun _ => hk)) ?_ | refine CallK.mk _ (laws_eqIntS x.modes) (fun _ => ?_) | refine CallD.mk _ (fun _ hk => CallK.mk _ (laws_eqIntS x.modes) (fun _ => hk)) ?_ | intro _)) <;> (try (conv => whnf))
  all_goals exact ⟨rfl, rfl, trivial⟩

theorem laws_eqRule (x : Rul) : Con 119 [.d x.av, .d x.av] (.d (.bool true)) := by
  refine con Tryz.func119 rfl rfl Tryz.call119 rfl fun hwf => ?_
  (repeat' ((conv => whnf); first | (with_reducible refine Br.yes (decide_eq_true rfl) ?_) | (with_reducible refine Br.yes (beq_self_eq_true _) ?_) | (with_reducible first | refine Br.ff ?_ | refine Br.tt ?_ | refine Br.not ?_ | refine Br.yes (by assumption) ?_ | refine Br.no (by assumption) ?_ | (refine Br.dec (fun h => ?_) (fun h => ?_) <;> try simp only [lm] at h)) | ((with_reducible refine Br.mk (fun h => ?_) (fun h => ?_)) <;> (try simp only [lm] at h) <;> (first | have hw := within_iff.1 h | have hw := within_no.1 h | skip)) | intro _)) <;> (try (conv => whnf))
  all_goals exact ⟨rfl, rfl, trivial⟩

theorem laws_eqLiteral (x : Lit) : Con 85 [.d x.av, .d x.av] (.d (.bool true)) := by
  refine con Tryz.func85 rfl rfl Tryz.call85 rfl fun hwf => ?_
  (repeat' ((conv => whnf); first | (with_reducible refine Br.yes (decide_eq_true rfl) ?_) | (with_reducible refine Br.yes (beq_self_eq_true _) ?_) | (with_reducible first | refine Br.ff ?_ | refine Br.tt ?_ | refine Br.not ?_ | refine Br.yes (by assumption) ?_ | refine Br.no (by assumption) ?_ | (refine Br.dec (fun h => ?_) (fun h => ?_) <;> try simp only [lm] at h)) | ((with_reducible refine Br.mk (fun h => ?_) (fun h => ?_)) <;> (try simp only [lm] at h) <;> (first | have hw := within_iff.1 h | have hw := within_no.1 h | skip)) | intro _)) <;> (try (conv => whnf))
  all_goals exact ⟨rfl, rfl, trivial⟩

theorem laws_eqLiteralS (l : List Lit) : Con 22 [.d (.sl (l.map Lit.av)), .d (.sl (l.map Lit.av))] (.d (.bool true)) := by
  refine con Tryz.func22 rfl rfl Tryz.call22 rfl fun hwf => ?_
  simp only [ARs.wf, AR.wf, AV.wf, AV.wfs, List.length_map, lim] at hwf
  (repeat' ((conv => whnf); first | (with_reducible refine Br.yes (decide_eq_true rfl) ?_) | (with_reducible refine Br.yes (beq_self_eq_true _) ?_) | (with_reducible first | refine Br.ff ?_ | refine Br.tt ?_ | refine Br.not ?_ | refine Br.yes (by assumption) ?_ | refine Br.no (by assumption) ?_ | (refine Br.dec (fun h => ?_) (fun h => ?_) <;> try simp only [lm] at h)) | ((with_reducible refine Br.mk (fun h => ?_) (fun h => ?_)) <;> (try simp only [lm] at h) <;> (first | have hw := within_iff.1 h | have hw := within_no.1 h | skip)) | with_reducible refine Arith.ok (by first | omega | (simp only [lm]; omega)) ?_ | with_reducible refine Idx.at (by first | omega | (simp only [lm] at *; omega)) (fun x hx => ?_) | with_reducible refine Idx.of_map (by first | omega | (simp only [lm] at *; omega)) (fun j x hj hx => ?_) | refine VC.mk (by first | omega | (simp only [lm]; omega)) ?_ | intro _)) <;> (try (conv => whnf))
  refine loopF [0, 1] [] [] ?_
  (conv => whnf)
  refine LoopC.mk ((Nat)) (fun k => (k ≤ l.length)) (fun k => [(5, .data (i64 k))]) (fun _ => []) (fun _ => []) (fun k => l.length - k) (0) ?_ ?_ ?_
  rotate_left
  · (repeat' ((conv => whnf) <;> (first | exact trivial | exact rfl | with_reducible refine And.intro ?_ ?_)))
  rotate_left
  · exact Nat.zero_le _
  rintro k hk
  by_cases hlt : k < l.length
  · obtain ⟨x, hx⟩ : ∃ x, l[k]? = some x := ⟨l[k]'hlt, by simp⟩
    (repeat' ((conv => whnf); first | with_reducible refine Idx.got hx rfl ?_ | (with_reducible refine Br.yes (decide_eq_true rfl) ?_) | (with_reducible refine Br.yes (beq_self_eq_true _) ?_) | (with_reducible first | refine Br.ff ?_ | refine Br.tt ?_ | refine Br.not ?_ | refine Br.yes (by assumption) ?_ | refine Br.no (by assumption) ?_ | (refine Br.dec (fun h => ?_) (fun h => ?_) <;> try simp only [lm] at h)) | ((with_reducible refine Br.mk (fun h => ?_) (fun h => ?_)) <;> (try simp only [lm] at h) <;> (first | have hw := within_iff.1 h | have hw := within_no.1 h | skip)) | with_reducible refine Arith.ok (by first | omega | (simp only [lm]; omega)) ?_ | with_reducible refine Idx.at (by first | omega | (simp only [lm] at *; omega)) (fun x hx => ?_) | with_reducible refine Idx.of_map (by first | omega | (simp only [lm] at *; omega)) (fun j x hj hx => ?_) | refine VC.mk (by first | omega | (simp only [lm]; omega)) ?_ | refine CallK.mk _ (laws_eqLiteral x) (fun _ => ?_) | refine CallD.mk _ (fun _ hk => CallK.mk _ (laws_eqLiteral x) (fun _ => hk)) ?_ | intro _)) <;> (try (conv => whnf))
    all_goals first
      | (exfalso; omega)
      | (refine ⟨(k + 1), ?_, rfl, ?_, ?_⟩
         rotate_left
         · (repeat' ((conv => whnf) <;> (first | exact trivial | exact rfl | with_reducible refine And.intro ?_ ?_)))
         · (try dsimp only); (try simp only [List.length_map]); omega
         exact (by omega : k + 1 ≤ l.length))
  · (repeat' ((conv => whnf); first | (exfalso; omega) | (with_reducible first | refine Br.ff ?_ | refine Br.tt ?_ | refine Br.not ?_ | refine Br.yes (by assumption) ?_ | refine Br.no (by assumption) ?_ | (refine Br.dec (fun h => ?_) (fun h => ?_) <;> try simp only [lm] at h)) | ((with_reducible refine Br.mk (fun h => ?_) (fun h => ?_)) <;> (try simp only [lm] at h) <;> (first | have hw := within_iff.1 h | have hw := within_no.1 h | skip)) | with_reducible refine Arith.ok (by first | omega | (simp only [lm]; omega)) ?_ | with_reducible refine Idx.at (by first | omega | (simp only [lm] at *; omega)) (fun x hx => ?_) | with_reducible refine Idx.of_map (by first | omega | (simp only [lm] at *; omega)) (fun j x hj hx => ?_) | refine VC.mk (by first | omega | (simp only [lm]; omega)) ?_ | intro _)) <;> (try (conv => whnf))
    exact ⟨rfl, rfl, trivial⟩

theorem laws_eqDomain (x : Dom) : Con 31 [.d x.av, .d x.av] (.d (.bool true)) := by
  refine con Tryz.func31 rfl rfl Tryz.call31 rfl fun hwf => ?_
  (repeat' ((conv => whnf); first | (with_reducible refine Br.yes (decide_eq_true rfl) ?_) | (with_reducible refine Br.yes (beq_self_eq_true _) ?_) | (with_reducible first | refine Br.ff ?_ | refine Br.tt ?_ | refine Br.not ?_ | refine Br.yes (by assumption) ?_ | refine Br.no (by assumption) ?_ | (refine Br.dec (fun h => ?_) (fun h => ?_) <;> try simp only [lm] at h)) | ((with_reducible refine Br.mk (fun h => ?_) (fun h => ?_)) <;> (try simp only [lm] at h) <;> (first | have hw := within_iff.1 h | have hw := within_no.1 h | skip)) | refine CallK.mk _ (laws_eqIntS x.lo) (fun _ => ?_) | refine CallD.mk _ (fun _ hk => CallK.mk _ (laws_eqIntS x.lo) (fun _ => hk)) ?_ | refine CallK.mk _ (laws_eqIntS x.hi) (fun _ => ?_) | refine CallD.mk _ (fun _ hk => CallK.mk _ (laws_eqIntS x.hi) (fun _ => hk)) ?_ | refine CallK.mk _ (laws_eqIntSS x.modes) (fun _ => ?_) | refine CallD.mk _ (fun _ hk => CallK.mk _ (laws_eqIntSS x.modes) (fun _ => hk)) ?_ | intro _)) <;> (try (conv => whnf))
  all_goals exact ⟨rfl, rfl, trivial⟩

theorem laws_eqLine (x : Lin) : Con 129 [.d x.av, .d x.av] (.d (.bool true)) := by
  refine con Tryz.func129 rfl rfl Tryz.call129 rfl fun hwf => ?_
  (repeat' ((conv => whnf); first | (with_reducible refine Br.yes (decide_eq_true rfl) ?_) | (with_reducible refine Br.yes (beq_self_eq_true _) ?_) | (with_reducible first | refine Br.ff ?_ | refine Br.tt ?_ | refine Br.not ?_ | refine Br.yes (by assumption) ?_ | refine Br.no (by assumption) ?_ | (refine Br.dec (fun h => ?_) (fun h => ?_) <;> try simp only [lm] at h)) | ((with_reducible refine Br.mk (fun h => ?_) (fun h => ?_)) <;> (try simp only [lm] at h) <;> (first | have hw := within_iff.1 h | have hw := within_no.1 h | skip)) | refine CallK.mk _ (laws_eqRule x.rule) (fun _ => ?_) | refine CallD.mk _ (fun _ hk => CallK.mk _ (laws_eqRule x.rule) (fun _ => hk)) ?_ | refine CallK.mk _ (laws_eqLiteralS x.clause) (fun _ => ?_) | refine CallD.mk _ (fun _ hk => CallK.mk _ (laws_eqLiteralS x.clause) (fun _ => hk)) ?_ | intro _)) <;> (try (conv => whnf))
  all_goals exact ⟨rfl, rfl, trivial⟩

theorem laws_eqLineS (l : List Lin) : Con 48 [.d (.sl (l.map Lin.av)), .d (.sl (l.map Lin.av))] (.d (.bool true)) := by
  refine con Tryz.func48 rfl rfl Tryz.call48 rfl fun hwf => ?_
  simp only [ARs.wf, AR.wf, AV.wf, AV.wfs, List.length_map, lim] at hwf
  (repeat' ((conv => whnf); first | (with_reducible refine Br.yes (decide_eq_true rfl) ?_) | (with_reducible refine Br.yes (beq_self_eq_true _) ?_) | (with_reducible first | refine Br.ff ?_ | refine Br.tt ?_ | refine Br.not ?_ | refine Br.yes (by assumption) ?_ | refine Br.no (by assumption) ?_ | (refine Br.dec (fun h => ?_) (fun h => ?_) <;> try simp only [lm] at h)) | ((with_reducible refine Br.mk (fun h => ?_) (fun h => ?_)) <;> (try simp only [lm] at h) <;> (first | have hw := within_iff.1 h | have hw := within_no.1 h | skip)) | with_reducible refine Arith.ok (by first | omega | (simp only [lm]; omega)) ?_ | with_reducible refine Idx.at (by first | omega | (simp only [lm] at *; omega)) (fun x hx => ?_) | with_reducible refine Idx.of_map (by first | omega | (simp only [lm] at *; omega)) (fun j x hj hx => ?_) | refine VC.mk (by first | omega | (simp only [lm]; omega)) ?_ | intro _)) <;> (try (conv => whnf))
  refine loopF [0, 1] [] [] ?_
  (conv => whnf)
  refine LoopC.mk ((Nat)) (fun k => (k ≤ l.length)) (fun k => [(5, .data (i64 k))]) (fun _ => []) (fun _ => []) (fun k => l.length - k) (0) ?_ ?_ ?_
  rotate_left
  · (repeat' ((conv => whnf) <;> (first | exact trivial | exact rfl | with_reducible refine And.intro ?_ ?_)))
  rotate_left
  · exact Nat.zero_le _
  rintro k hk
  by_cases hlt : k < l.length
  · obtain ⟨x, hx⟩ : ∃ x, l[k]? = some x := ⟨l[k]'hlt, by simp⟩
    (repeat' ((conv => whnf); first | with_reducible refine Idx.got hx rfl ?_ | (with_reducible refine Br.yes (decide_eq_true rfl) ?_) | (with_reducible refine Br.yes (beq_self_eq_true _) ?_) | (with_reducible first | refine Br.ff ?_ | refine Br.tt ?_ | refine Br.not ?_ | refine Br.yes (by assumption) ?_ | refine Br.no (by assumption) ?_ | (refine Br.dec (fun h => ?_) (fun h => ?_) <;> try simp only [lm] at h)) | ((with_reducible refine Br.mk (fun h => ?_) (fun h => ?_)) <;> (try simp only [lm] at h) <;> (first | have hw := within_iff.1 h | have hw := within_no.1 h | skip)) | with_reducible refine Arith.ok (by first | omega | (simp only [lm]; omega)) ?_ | with_reducible refine Idx.at (by first | omega | (simp only [lm] at *; omega)) (fun x hx => ?_) | with_reducible refine Idx.of_map (by first | omega | (simp only [lm] at *; omega)) (fun j x hj hx => ?_) | refine VC.mk (by first | omega | (simp only [lm]; omega)) ?_ | refine CallK.mk _ (laws_eqLine x) (fun _ => ?_) | refine CallD.mk _ (fun _ hk => CallK.mk _ (laws_eqLine x) (fun _ => hk)) ?_ | intro _)) <;> (try (conv => whnf))
    all_goals first
      | (exfalso; omega)
      | (refine ⟨(k + 1), ?_, rfl, ?_, ?_⟩
         rotate_left
         · (repeat' ((conv => whnf) <;> (first | exact trivial | exact rfl | with_reducible refine And.intro ?_ ?_)))
         · (try dsimp only); (try simp only [List.length_map]); omega
         exact (by omega : k + 1 ≤ l.length))
  · (repeat' ((conv => whnf); first | (exfalso; omega) | (with_reducible first | refine Br.ff ?_ | refine Br.tt ?_ | refine Br.not ?_ | refine Br.yes (by assumption) ?_ | refine Br.no (by assumption) ?_ | (refine Br.dec (fun h => ?_) (fun h => ?_) <;> try simp only [lm] at h)) | ((with_reducible refine Br.mk (fun h => ?_) (fun h => ?_)) <;> (try simp only [lm] at h) <;> (first | have hw := within_iff.1 h | have hw := within_no.1 h | skip)) | with_reducible refine Arith.ok (by first | omega | (simp only [lm]; omega)) ?_ | with_reducible refine Idx.at (by first | omega | (simp only [lm] at *; omega)) (fun x hx => ?_) | with_reducible refine Idx.of_map (by first | omega | (simp only [lm] at *; omega)) (fun j x hj hx => ?_) | refine VC.mk (by first | omega | (simp only [lm]; omega)) ?_ | intro _)) <;> (try (conv => whnf))
    exact ⟨rfl, rfl, trivial⟩

theorem laws_eqInference (x : Infer) : Con 38 [.d x.av, .d x.av] (.d (.bool true)) := by
  refine con Tryz.func38 rfl rfl Tryz.call38 rfl fun hwf => ?_
  (repeat' ((conv => whnf); first | (with_reducible refine Br.yes (decide_eq_true rfl) ?_) | (with_reducible refine Br.yes (beq_self_eq_true _) ?_) | (with_reducible first | refine Br.ff ?_ | refine Br.tt ?_ | refine Br.not ?_ | refine Br.yes (by assumption) ?_ | refine Br.no (by assumption) ?_ | (refine Br.dec (fun h => ?_) (fun h => ?_) <;> try simp only [lm] at h)) | ((with_reducible refine Br.mk (fun h => ?_) (fun h => ?_)) <;> (try simp only [lm] at h) <;> (first | have hw := within_iff.1 h | have hw := within_no.1 h | skip)) | refine CallK.mk _ (laws_eqLiteral x.lit) (fun _ => ?_) | refine CallD.mk _ (fun _ hk => CallK.mk _ (laws_eqLiteral x.lit) (fun _ => hk)) ?_ | refine CallK.mk _ (laws_eqRule x.rule) (fun _ => ?_) | refine CallD.mk _ (fun _ hk => CallK.mk _ (laws_eqRule x.rule) (fun _ => hk)) ?_ | refine CallK.mk _ (laws_eqLiteralS x.clause) (fun _ => ?_) | refine CallD.mk _ (fun _ hk => CallK.mk _ (laws_eqLiteralS x.clause) (fun _ => hk)) ?_ | intro _)) <;> (try (conv => whnf))
  all_goals exact ⟨rfl, rfl, trivial⟩

end Go.Proofs.YtdfindjbjonoaaaGreat.Abs
