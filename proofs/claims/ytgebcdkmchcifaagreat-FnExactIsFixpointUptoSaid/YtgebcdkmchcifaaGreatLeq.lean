/- Contracts of the laws' own helpers. No statement of a claim. -/
import Derived.Test.YtgebcdkmchcifaaGreatC1
import Derived.Test.YtgebcdkmchcifaaGreatPlain
set_option linter.all false
set_option linter.unusedVariables false
set_option linter.unusedSimpArgs false
set_option maxRecDepth 20000
set_option maxHeartbeats 4000000
namespace Go.Proofs.YtgebcdkmchcifaaGreat.Abs
open Go.Proofs


theorem laws_eqIntS (l : List Int) : Con 54 [.d (.sl (l.map i64)), .d (.sl (l.map i64))] (.d (.bool true)) := by
  refine con Tryz.func54 rfl rfl Tryz.call54 rfl fun hwf => ?_
  simp only [ARs.wf, AR.wf, AV.wf, AV.wfs, List.length_map, lim] at hwf
  (repeat' ((conv => whnf); first | (with_reducible refine Br.yes (decide_eq_true rfl) ?_) | (with_reducible refine Br.yes (beq_self_eq_true _) ?_) | (with_reducible first | refine Br.ff ?_ | refine Br.tt ?_ | refine Br.not ?_ | refine Br.yes (by assumption) ?_ | refine Br.no (by assumption) ?_ | (refine Br.dec (fun h => ?_) (fun h => ?_) <;> try simp only [lm] at h)) | ((with_reducible refine Br.mk (fun h => ?_) (fun h => ?_)) <;> (try simp only [lm] at h) <;> (first | have hw := within_iff.1 h | have hw := within_no.1 h | skip)) | with_reducible refine Arith.ok (by first | omega | (simp only [lm]; omega)) ?_ | with_reducible refine Idx.at (by first | omega | (simp only [lm] at *; omega)) (fun x hx => ?_) | with_reducible refine Idx.of_map (by first | omega | (simp only [lm] at *; omega)) (fun j x hj hx => ?_) | refine VC.mk (by first | omega | (simp only [lm]; omega)) ?_ | intro _)) <;> (try (conv => whnf))
  refine loopF [0, 1] [] [] ?_
  (conv => whnf)
  refine LoopC.mk ((Nat)) (fun k => (k ≤ l.length)) (fun k => [(5, .data (i64 k))]) (fun _ => []) (fun _ => []) (fun k => l.length - k) (0) ?_ ?_ ?_
  rotate_left
  · (repeat' ((conv => whnf) <;> (first | exact trivial | exact rfl | with_reducible refine And.intro ?_ ?_)))
  rotate_left
  · exact Nat.zero_le _
  rintro k hk
  by_cases hlt : k < l.length
  · obtain ⟨x, hx⟩ : ∃ x, l[k]? = some x := ⟨l[k]'hlt, by simp⟩
    (repeat' ((conv => whnf); first | with_reducible refine Idx.got hx rfl ?_ | (with_reducible refine Br.yes (decide_eq_true rfl) ?_) | (with_reducible refine Br.yes (beq_self_eq_true _) ?_) | (with_reducible first | refine Br.ff ?_ | refine Br.tt ?_ | refine Br.not ?_ | refine Br.yes (by assumption) ?_ | refine Br.no (by assumption) ?_ | (refine Br.dec (fun h => ?_) (fun h => ?_) <;> try simp only [lm] at h)) | ((with_reducible refine Br.mk (fun h => ?_) (fun h => ?_)) <;> (try simp only [lm] at h) <;> (first | have hw := within_iff.1 h | have hw := within_no.1 h | skip)) | with_reducible refine Arith.ok (by first | omega | (simp only [lm]; omega)) ?_ | with_reducible refine Idx.at (by first | omega | (simp only [lm] at *; omega)) (fun x hx => ?_) | with_reducible refine Idx.of_map (by first | omega | (simp only [lm] at *; omega)) (fun j x hj hx => ?_) | refine VC.mk (by first | omega | (simp only [lm]; omega)) ?_ | intro _)) <;> (try (conv => whnf))
    all_goals first
      | (exfalso; omega)
      | (refine ⟨(k + 1), ?_, rfl, ?_, ?_⟩
         rotate_left
         · (repeat' ((conv => whnf) <;> (first | exact trivial | exact rfl | with_reducible refine And.intro ?_ ?_)))
         · (try dsimp only); (try simp only [List.length_map]); omega
         exact (by omega : k + 1 ≤ l.length))
  · (repeat' ((conv => whnf); first | (exfalso; omega) | (with_reducible first | refine Br.ff ?_ | refine Br.tt ?_ | refine Br.not ?_ | refine Br.yes (by assumption) ?_ | refine Br.no (by assumption) ?_ | (refine Br.dec (fun h => ?_) (fun h => ?_) <;> try simp only [lm] at h)) | ((with_reducible refine Br.mk (fun h => ?_) (fun h => ?_)) <;> (try simp only [lm] at h) <;> (first | have hw := within_iff.1 h | have hw := within_no.1 h | skip)) | with_reducible refine Arith.ok (by first | omega | (simp only [lm]; omega)) ?_ | with_reducible refine Idx.at (by first | omega | (simp only [lm] at *; omega)) (fun x hx => ?_) | with_reducible refine Idx.of_map (by first | omega | (simp only [lm] at *; omega)) (fun j x hj hx => ?_) | refine VC.mk (by first | omega | (simp only [lm]; omega)) ?_ | intro _)) <;> (try (conv => whnf))
    exact ⟨rfl, rfl, trivial⟩

theorem laws_eqIntSS (l : List (List Int)) : Con 55 [.d (.sl (l.map ints)), .d (.sl (l.map ints))] (.d (.bool true)) := by
  refine con Tryz.func55 rfl rfl Tryz.call55 rfl fun hwf => ?_
  simp only [ARs.wf, AR.wf, AV.wf, AV.wfs, List.length_map, lim] at hwf
  (repeat' ((conv => whnf); first | (with_reducible refine Br.yes (decide_eq_true rfl) ?_) | (with_reducible refine Br.yes (beq_self_eq_true _) ?_) | (with_reducible first | refine Br.ff ?_ | refine Br.tt ?_ | refine Br.not ?_ | refine Br.yes (by assumption) ?_ | refine Br.no (by assumption) ?_ | (refine Br.dec (fun h => ?_) (fun h => ?_) <;> try simp only [lm] at h)) | ((with_reducible refine Br.mk (fun h => ?_) (fun h => ?_)) <;> (try simp only [lm] at h) <;> (first | have hw := within_iff.1 h | have hw := within_no.1 h | skip)) | with_reducible refine Arith.ok (by first | omega | (simp only [lm]; omega)) ?_ | with_reducible refine Idx.at (by first | omega | (simp only [lm] at *; omega)) (fun x hx => ?_) | with_reducible refine Idx.of_map (by first | omega | (simp only [lm] at *; omega)) (fun j x hj hx => ?_) | refine VC.mk (by first | omega | (simp only [lm]; omega)) ?_ | intro _)) <;> (try (conv => whnf))
  refine loopF [0, 1] [] [] ?_
  (conv => whnf)
  refine LoopC.mk ((Nat)) (fun k => (k ≤ l.length)) (fun k => [(5, .data (i64 k))]) (fun _ => []) (fun _ => []) (fun k => l.length - k) (0) ?_ ?_ ?_
  rotate_left
  · (repeat' ((conv => whnf) <;> (first | exact trivial | exact rfl | with_reducible refine And.intro ?_ ?_)))
  rotate_left
  · exact Nat.zero_le _
  rintro k hk
  by_cases hlt : k < l.length
  · obtain ⟨x, hx⟩ : ∃ x, l[k]? = some x := ⟨l[k]'hlt, by simp⟩
    (repeat' ((conv => whnf); first | with_reducible refine Idx.got hx rfl ?_ | (with_reducible refine Br.yes (decide_eq_true rfl) ?_) | (with_reducible refine Br.yes (beq_self_eq_true _) ?_) | (with_reducible first | refine Br.ff ?_ | refine Br.tt ?_ | refine Br.not ?_ | refine Br.yes (by assumption) ?_ | refine Br.no (by assumption) ?_ | (refine Br.dec (fun h => ?_) (fun h => ?_) <;> try simp only [lm] at h)) | ((with_reducible refine Br.mk (fun h => ?_) (fun h => ?_)) <;> (try simp only [lm] at h) <;> (first | have hw := within_iff.1 h | have hw := within_no.1 h | skip)) | with_reducible refine Arith.ok (by first | omega | (simp only [lm]; omega)) ?_ | with_reducible refine Idx.at (by first | omega | (simp only [lm] at *; omega)) (fun x hx => ?_) | with_reducible refine Idx.of_map (by first | omega | (simp only [lm] at *; omega)) (fun j x hj hx => ?_) | refine VC.mk (by first | omega | (simp only [lm]; omega)) ?_ | refine CallK.go (laws_eqIntS x) (fun _ => ?_) | refine CallD.go (laws_eqIntS x) ?_ | intro _)) <;> (try (conv => whnf))
    all_goals first
      | (exfalso; omega)
      | (refine ⟨(k + 1), ?_, rfl, ?_, ?_⟩
         rotate_left
         · (repeat' ((conv => whnf) <;> (first | exact trivial | exact rfl | with_reducible refine And.intro ?_ ?_)))
         · (try dsimp only); (try simp only [List.length_map]); omega
         exact (by omega : k + 1 ≤ l.length))
  · (repeat' ((conv => whnf); first | (exfalso; omega) | (with_reducible first | refine Br.ff ?_ | refine Br.tt ?_ | refine Br.not ?_ | refine Br.yes (by assumption) ?_ | refine Br.no (by assumption) ?_ | (refine Br.dec (fun h => ?_) (fun h => ?_) <;> try simp only [lm] at h)) | ((with_reducible refine Br.mk (fun h => ?_) (fun h => ?_)) <;> (try simp only [lm] at h) <;> (first | have hw := within_iff.1 h | have hw := within_no.1 h | skip)) | with_reducible refine Arith.ok (by first | omega | (simp only [lm]; omega)) ?_ | with_reducible refine Idx.at (by first | omega | (simp only [lm] at *; omega)) (fun x hx => ?_) | with_reducible refine Idx.of_map (by first | omega | (simp only [lm] at *; omega)) (fun j x hj hx => ?_) | refine VC.mk (by first | omega | (simp only [lm]; omega)) ?_ | intro _)) <;> (try (conv => whnf))
    exact ⟨rfl, rfl, trivial⟩

theorem laws_eqStep (x : Step) : Con 243 [.d x.av, .d x.av] (.d (.bool true)) := by
  refine con Tryz.func243 rfl rfl Tryz.call243 rfl fun hwf => ?_
  (repeat' ((conv => whnf); first | (with_reducible refine Br.yes (decide_eq_true rfl) ?_) | (with_reducible refine Br.yes (beq_self_eq_true _) ?_) | (with_reducible first | refine Br.ff ?_ | refine Br.tt ?_ | refine Br.not ?_ | refine Br.yes (by assumption) ?_ | refine Br.no (by assumption) ?_ | (refine Br.dec (fun h => ?_) (fun h => ?_) <;> try simp only [lm] at h)) | ((with_reducible refine Br.mk (fun h => ?_) (fun h => ?_)) <;> (try simp only [lm] at h) <;> (first | have hw := within_iff.1 h | have hw := within_no.1 h | skip)) | intro _)) <;> (try (conv => whnf))
  all_goals exact ⟨rfl, rfl, trivial⟩

theorem laws_eqStepS (l : List Step) : Con 188 [.d (.sl (l.map Step.av)), .d (.sl (l.map Step.av))] (.d (.bool true)) := by
  refine con Tryz.func188 rfl rfl Tryz.call188 rfl fun hwf => ?_
  simp only [ARs.wf, AR.wf, AV.wf, AV.wfs, List.length_map, lim] at hwf
  (repeat' ((conv => whnf); first | (with_reducible refine Br.yes (decide_eq_true rfl) ?_) | (with_reducible refine Br.yes (beq_self_eq_true _) ?_) | (with_reducible first | refine Br.ff ?_ | refine Br.tt ?_ | refine Br.not ?_ | refine Br.yes (by assumption) ?_ | refine Br.no (by assumption) ?_ | (refine Br.dec (fun h => ?_) (fun h => ?_) <;> try simp only [lm] at h)) | ((with_reducible refine Br.mk (fun h => ?_) (fun h => ?_)) <;> (try simp only [lm] at h) <;> (first | have hw := within_iff.1 h | have hw := within_no.1 h | skip)) | with_reducible refine Arith.ok (by first | omega | (simp only [lm]; omega)) ?_ | with_reducible refine Idx.at (by first | omega | (simp only [lm] at *; omega)) (fun x hx => ?_) | with_reducible refine Idx.of_map (by first | omega | (simp only [lm] at *; omega)) (fun j x hj hx => ?_) | refine VC.mk (by first | omega | (simp only [lm]; omega)) ?_ | intro _)) <;> (try (conv => whnf))
  refine loopF [0, 1] [] [] ?_
  (conv => whnf)
  refine LoopC.mk ((Nat)) (fun k => (k ≤ l.length)) (fun k => [(5, .data (i64 k))]) (fun _ => []) (fun _ => []) (fun k => l.length - k) (0) ?_ ?_ ?_
  rotate_left
  · (repeat' ((conv => whnf) <;> (first | exact trivial | exact rfl | with_reducible refine And.intro ?_ ?_)))
  rotate_left
  · exact Nat.zero_le _
  rintro k hk
  by_cases hlt : k < l.length
  · obtain ⟨x, hx⟩ : ∃ x, l[k]? = some x := ⟨l[k]'hlt, by simp⟩
    (repeat' ((conv => whnf); first | with_reducible refine Idx.got hx rfl ?_ | (with_reducible refine Br.yes (decide_eq_true rfl) ?_) | (with_reducible refine Br.yes (beq_self_eq_true _) ?_) | (with_reducible first | refine Br.ff ?_ | refine Br.tt ?_ | refine Br.not ?_ | refine Br.yes (by assumption) ?_ | refine Br.no (by assumption) ?_ | (refine Br.dec (fun h => ?_) (fun h => ?_) <;> try simp only [lm] at h)) | ((with_reducible refine Br.mk (fun h => ?_) (fun h => ?_)) <;> (try simp only [lm] at h) <;> (first | have hw := within_iff.1 h | have hw := within_no.1 h | skip)) | with_reducible refine Arith.ok (by first | omega | (simp only [lm]; omega)) ?_ | with_reducible refine Idx.at (by first | omega | (simp only [lm] at *; omega)) (fun x hx => ?_) | with_reducible refine Idx.of_map (by first | omega | (simp only [lm] at *; omega)) (fun j x hj hx => ?_) | refine VC.mk (by first | omega | (simp only [lm]; omega)) ?_ | refine CallK.go (laws_eqStep x) (fun _ => ?_) | refine CallD.go (laws_eqStep x) ?_ | intro _)) <;> (try (conv => whnf))
    all_goals first
      | (exfalso; omega)
      | (refine ⟨(k + 1), ?_, rfl, ?_, ?_⟩
         rotate_left
         · (repeat' ((conv => whnf) <;> (first | exact trivial | exact rfl | with_reducible refine And.intro ?_ ?_)))
         · (try dsimp only); (try simp only [List.length_map]); omega
         exact (by omega : k + 1 ≤ l.length))
  · (repeat' ((conv => whnf); first | (exfalso; omega) | (with_reducible first | refine Br.ff ?_ | refine Br.tt ?_ | refine Br.not ?_ | refine Br.yes (by assumption) ?_ | refine Br.no (by assumption) ?_ | (refine Br.dec (fun h => ?_) (fun h => ?_) <;> try simp only [lm] at h)) | ((with_reducible refine Br.mk (fun h => ?_) (fun h => ?_)) <;> (try simp only [lm] at h) <;> (first | have hw := within_iff.1 h | have hw := within_no.1 h | skip)) | with_reducible refine Arith.ok (by first | omega | (simp only [lm]; omega)) ?_ | with_reducible refine Idx.at (by first | omega | (simp only [lm] at *; omega)) (fun x hx => ?_) | with_reducible refine Idx.of_map (by first | omega | (simp only [lm] at *; omega)) (fun j x hj hx => ?_) | refine VC.mk (by first | omega | (simp only [lm]; omega)) ?_ | intro _)) <;> (try (conv => whnf))
    exact ⟨rfl, rfl, trivial⟩

theorem laws_eqMode (x : Mode) : Con 242 [.d x.av, .d x.av] (.d (.bool true)) := by
  refine con Tryz.func242 rfl rfl Tryz.call242 rfl fun hwf => ?_
  (repeat' ((conv => whnf); first | (with_reducible refine Br.yes (decide_eq_true rfl) ?_) | (with_reducible refine Br.yes (beq_self_eq_true _) ?_) | (with_reducible first | refine Br.ff ?_ | refine Br.tt ?_ | refine Br.not ?_ | refine Br.yes (by assumption) ?_ | refine Br.no (by assumption) ?_ | (refine Br.dec (fun h => ?_) (fun h => ?_) <;> try simp only [lm] at h)) | ((with_reducible refine Br.mk (fun h => ?_) (fun h => ?_)) <;> (try simp only [lm] at h) <;> (first | have hw := within_iff.1 h | have hw := within_no.1 h | skip)) | refine CallK.go (laws_eqIntS x.use) (fun _ => ?_) | refine CallD.go (laws_eqIntS x.use) ?_ | refine CallK.go (laws_eqIntS x.con) (fun _ => ?_) | refine CallD.go (laws_eqIntS x.con) ?_ | intro _)) <;> (try (conv => whnf))
  all_goals exact ⟨rfl, rfl, trivial⟩

theorem laws_eqModeS (l : List Mode) : Con 187 [.d (.sl (l.map Mode.av)), .d (.sl (l.map Mode.av))] (.d (.bool true)) := by
  refine con Tryz.func187 rfl rfl Tryz.call187 rfl fun hwf => ?_
  simp only [ARs.wf, AR.wf, AV.wf, AV.wfs, List.length_map, lim] at hwf
  (repeat' ((conv => whnf); first | (with_reducible refine Br.yes (decide_eq_true rfl) ?_) | (with_reducible refine Br.yes (beq_self_eq_true _) ?_) | (with_reducible first | refine Br.ff ?_ | refine Br.tt ?_ | refine Br.not ?_ | refine Br.yes (by assumption) ?_ | refine Br.no (by assumption) ?_ | (refine Br.dec (fun h => ?_) (fun h => ?_) <;> try simp only [lm] at h)) | ((with_reducible refine Br.mk (fun h => ?_) (fun h => ?_)) <;> (try simp only [lm] at h) <;> (first | have hw := within_iff.1 h | have hw := within_no.1 h | skip)) | with_reducible refine Arith.ok (by first | omega | (simp only [lm]; omega)) ?_ | with_reducible refine Idx.at (by first | omega | (simp only [lm] at *; omega)) (fun x hx => ?_) | with_reducible refine Idx.of_map (by first | omega | (simp only [lm] at *; omega)) (fun j x hj hx => ?_) | refine VC.mk (by first | omega | (simp only [lm]; omega)) ?_ | intro _)) <;> (try (conv => whnf))
  refine loopF [0, 1] [] [] ?_
  (conv => whnf)
  refine LoopC.mk ((Nat)) (fun k => (k ≤ l.length)) (fun k => [(5, .data (i64 k))]) (fun _ => []) (fun _ => []) (fun k => l.length - k) (0) ?_ ?_ ?_
  rotate_left
  · (repeat' ((conv => whnf) <;> (first | exact trivial | exact rfl | with_reducible refine And.intro ?_ ?_)))
  rotate_left
  · exact Nat.zero_le _
  rintro k hk
  by_cases hlt : k < l.length
  · obtain ⟨x, hx⟩ : ∃ x, l[k]? = some x := ⟨l[k]'hlt, by simp⟩
    (repeat' ((conv => whnf); first | with_reducible refine Idx.got hx rfl ?_ | (with_reducible refine Br.yes (decide_eq_true rfl) ?_) | (with_reducible refine Br.yes (beq_self_eq_true _) ?_) | (with_reducible first | refine Br.ff ?_ | refine Br.tt ?_ | refine Br.not ?_ | refine Br.yes (by assumption) ?_ | refine Br.no (by assumption) ?_ | (refine Br.dec (fun h => ?_) (fun h => ?_) <;> try simp only [lm] at h)) | ((with_reducible refine Br.mk (fun h => ?_) (fun h => ?_)) <;> (try simp only [lm] at h) <;> (first | have hw := within_iff.1 h | have hw := within_no.1 h | skip)) | with_reducible refine Arith.ok (by first | omega | (simp only [lm]; omega)) ?_ | with_reducible refine Idx.at (by first | omega | (simp only [lm] at *; omega)) (fun x hx => ?_) | with_reducible refine Idx.of_map (by first | omega | (simp only [lm] at *; omega)) (fun j x hj hx => ?_) | refine VC.mk (by first | omega | (simp only [lm]; omega)) ?_ | refine CallK.go (laws_eqMode x) (fun _ => ?_) | refine CallD.go (laws_eqMode x) ?_ | intro _)) <;> (try (conv => whnf))
    all_goals first
      | (exfalso; omega)
      | (refine ⟨(k + 1), ?_, rfl, ?_, ?_⟩
         rotate_left
         · (repeat' ((conv => whnf) <;> (first | exact trivial | exact rfl | with_reducible refine And.intro ?_ ?_)))
         · (try dsimp only); (try simp only [List.length_map]); omega
         exact (by omega : k + 1 ≤ l.length))
  · (repeat' ((conv => whnf); first | (exfalso; omega) | (with_reducible first | refine Br.ff ?_ | refine Br.tt ?_ | refine Br.not ?_ | refine Br.yes (by assumption) ?_ | refine Br.no (by assumption) ?_ | (refine Br.dec (fun h => ?_) (fun h => ?_) <;> try simp only [lm] at h)) | ((with_reducible refine Br.mk (fun h => ?_) (fun h => ?_)) <;> (try simp only [lm] at h) <;> (first | have hw := within_iff.1 h | have hw := within_no.1 h | skip)) | with_reducible refine Arith.ok (by first | omega | (simp only [lm]; omega)) ?_ | with_reducible refine Idx.at (by first | omega | (simp only [lm] at *; omega)) (fun x hx => ?_) | with_reducible refine Idx.of_map (by first | omega | (simp only [lm] at *; omega)) (fun j x hj hx => ?_) | refine VC.mk (by first | omega | (simp only [lm]; omega)) ?_ | intro _)) <;> (try (conv => whnf))
    exact ⟨rfl, rfl, trivial⟩

theorem laws_eqActivity (x : Activ) : Con 110 [.d x.av, .d x.av] (.d (.bool true)) := by
  refine con Tryz.func110 rfl rfl Tryz.call110 rfl fun hwf => ?_
  (repeat' ((conv => whnf); first | (with_reducible refine Br.yes (decide_eq_true rfl) ?_) | (with_reducible refine Br.yes (beq_self_eq_true _) ?_) | (with_reducible first | refine Br.ff ?_ | refine Br.tt ?_ | refine Br.not ?_ | refine Br.yes (by assumption) ?_ | refine Br.no (by assumption) ?_ | (refine Br.dec (fun h => ?_) (fun h => ?_) <;> try simp only [lm] at h)) | ((with_reducible refine Br.mk (fun h => ?_) (fun h => ?_)) <;> (try simp only [lm] at h) <;> (first | have hw := within_iff.1 h | have hw := within_no.1 h | skip)) | refine CallK.go (laws_eqModeS x.modes) (fun _ => ?_) | refine CallD.go (laws_eqModeS x.modes) ?_ | intro _)) <;> (try (conv => whnf))
  all_goals exact ⟨rfl, rfl, trivial⟩

theorem laws_eqActivityS (l : List Activ) : Con 51 [.d (.sl (l.map Activ.av)), .d (.sl (l.map Activ.av))] (.d (.bool true)) := by
  refine con Tryz.func51 rfl rfl Tryz.call51 rfl fun hwf => ?_
  simp only [ARs.wf, AR.wf, AV.wf, AV.wfs, List.length_map, lim] at hwf
  (repeat' ((conv => whnf); first | (with_reducible refine Br.yes (decide_eq_true rfl) ?_) | (with_reducible refine Br.yes (beq_self_eq_true _) ?_) | (with_reducible first | refine Br.ff ?_ | refine Br.tt ?_ | refine Br.not ?_ | refine Br.yes (by assumption) ?_ | refine Br.no (by assumption) ?_ | (refine Br.dec (fun h => ?_) (fun h => ?_) <;> try simp only [lm] at h)) | ((with_reducible refine Br.mk (fun h => ?_) (fun h => ?_)) <;> (try simp only [lm] at h) <;> (first | have hw := within_iff.1 h | have hw := within_no.1 h | skip)) | with_reducible refine Arith.ok (by first | omega | (simp only [lm]; omega)) ?_ | with_reducible refine Idx.at (by first | omega | (simp only [lm] at *; omega)) (fun x hx => ?_) | with_reducible refine Idx.of_map (by first | omega | (simp only [lm] at *; omega)) (fun j x hj hx => ?_) | refine VC.mk (by first | omega | (simp only [lm]; omega)) ?_ | intro _)) <;> (try (conv => whnf))
  refine loopF [0, 1] [] [] ?_
  (conv => whnf)
  refine LoopC.mk ((Nat)) (fun k => (k ≤ l.length)) (fun k => [(5, .data (i64 k))]) (fun _ => []) (fun _ => []) (fun k => l.length - k) (0) ?_ ?_ ?_
  rotate_left
  · (repeat' ((conv => whnf) <;> (first | exact trivial | exact rfl | with_reducible refine And.intro ?_ ?_)))
  rotate_left
  · exact Nat.zero_le _
  rintro k hk
  by_cases hlt : k < l.length
  · obtain ⟨x, hx⟩ : ∃ x, l[k]? = some x := ⟨l[k]'hlt, by simp⟩
    (repeat' ((conv => whnf); first | with_reducible refine Idx.got hx rfl ?_ | (with_reducible refine Br.yes (decide_eq_true rfl) ?_) | (with_reducible refine Br.yes (beq_self_eq_true _) ?_) | (with_reducible first | refine Br.ff ?_ | refine Br.tt ?_ | refine Br.not ?_ | refine Br.yes (by assumption) ?_ | refine Br.no (by assumption) ?_ | (refine Br.dec (fun h => ?_) (fun h => ?_) <;> try simp only [lm] at h)) | ((with_reducible refine Br.mk (fun h => ?_) (fun h => ?_)) <;> (try simp only [lm] at h) <;> (first | have hw := within_iff.1 h | have hw := within_no.1 h | skip)) | with_reducible refine Arith.ok (by first | omega | (simp only [lm]; omega)) ?_ | with_reducible refine Idx.at (by first | omega | (simp only [lm] at *; omega)) (fun x hx => ?_) | with_reducible refine Idx.of_map (by first | omega | (simp only [lm] at *; omega)) (fun j x hj hx => ?_) | refine VC.mk (by first | omega | (simp only [lm]; omega)) ?_ | refine CallK.go (laws_eqActivity x) (fun _ => ?_) | refine CallD.go (laws_eqActivity x) ?_ | intro _)) <;> (try (conv => whnf))
    all_goals first
      | (exfalso; omega)
      | (refine ⟨(k + 1), ?_, rfl, ?_, ?_⟩
         rotate_left
         · (repeat' ((conv => whnf) <;> (first | exact trivial | exact rfl | with_reducible refine And.intro ?_ ?_)))
         · (try dsimp only); (try simp only [List.length_map]); omega
         exact (by omega : k + 1 ≤ l.length))
  · (repeat' ((conv => whnf); first | (exfalso; omega) | (with_reducible first | refine Br.ff ?_ | refine Br.tt ?_ | refine Br.not ?_ | refine Br.yes (by assumption) ?_ | refine Br.no (by assumption) ?_ | (refine Br.dec (fun h => ?_) (fun h => ?_) <;> try simp only [lm] at h)) | ((with_reducible refine Br.mk (fun h => ?_) (fun h => ?_)) <;> (try simp only [lm] at h) <;> (first | have hw := within_iff.1 h | have hw := within_no.1 h | skip)) | with_reducible refine Arith.ok (by first | omega | (simp only [lm]; omega)) ?_ | with_reducible refine Idx.at (by first | omega | (simp only [lm] at *; omega)) (fun x hx => ?_) | with_reducible refine Idx.of_map (by first | omega | (simp only [lm] at *; omega)) (fun j x hj hx => ?_) | refine VC.mk (by first | omega | (simp only [lm]; omega)) ?_ | intro _)) <;> (try (conv => whnf))
    exact ⟨rfl, rfl, trivial⟩

theorem laws_eqLink (x : Link) : Con 111 [.d x.av, .d x.av] (.d (.bool true)) := by
  refine con Tryz.func111 rfl rfl Tryz.call111 rfl fun hwf => ?_
  (repeat' ((conv => whnf); first | (with_reducible refine Br.yes (decide_eq_true rfl) ?_) | (with_reducible refine Br.yes (beq_self_eq_true _) ?_) | (with_reducible first | refine Br.ff ?_ | refine Br.tt ?_ | refine Br.not ?_ | refine Br.yes (by assumption) ?_ | refine Br.no (by assumption) ?_ | (refine Br.dec (fun h => ?_) (fun h => ?_) <;> try simp only [lm] at h)) | ((with_reducible refine Br.mk (fun h => ?_) (fun h => ?_)) <;> (try simp only [lm] at h) <;> (first | have hw := within_iff.1 h | have hw := within_no.1 h | skip)) | intro _)) <;> (try (conv => whnf))
  all_goals exact ⟨rfl, rfl, trivial⟩

theorem laws_eqLinkS (l : List Link) : Con 52 [.d (.sl (l.map Link.av)), .d (.sl (l.map Link.av))] (.d (.bool true)) := by
  refine con Tryz.func52 rfl rfl Tryz.call52 rfl fun hwf => ?_
  simp only [ARs.wf, AR.wf, AV.wf, AV.wfs, List.length_map, lim] at hwf
  (repeat' ((conv => whnf); first | (with_reducible refine Br.yes (decide_eq_true rfl) ?_) | (with_reducible refine Br.yes (beq_self_eq_true _) ?_) | (with_reducible first | refine Br.ff ?_ | refine Br.tt ?_ | refine Br.not ?_ | refine Br.yes (by assumption) ?_ | refine Br.no (by assumption) ?_ | (refine Br.dec (fun h => ?_) (fun h => ?_) <;> try simp only [lm] at h)) | ((with_reducible refine Br.mk (fun h => ?_) (fun h => ?_)) <;> (try simp only [lm] at h) <;> (first | have hw := within_iff.1 h | have hw := within_no.1 h | skip)) | with_reducible refine Arith.ok (by first | omega | (simp only [lm]; omega)) ?_ | with_reducible refine Idx.at (by first | omega | (simp only [lm] at *; omega)) (fun x hx => ?_) | with_reducible refine Idx.of_map (by first | omega | (simp only [lm] at *; omega)) (fun j x hj hx => ?_) | refine VC.mk (by first | omega | (simp only [lm]; omega)) ?_ | intro _)) <;> (try (conv => whnf))
  refine loopF [0, 1] [] [] ?_
  (conv => whnf)
  refine LoopC.mk ((Nat)) (fun k => (k ≤ l.length)) (fun k => [(5, .data (i64 k))]) (fun _ => []) (fun _ => []) (fun k => l.length - k) (0) ?_ ?_ ?_
  rotate_left
  · (repeat' ((conv => whnf) <;> (first | exact trivial | exact rfl | with_reducible refine And.intro ?_ ?_)))
  rotate_left
  · exact Nat.zero_le _
  rintro k hk
  by_cases hlt : k < l.length
  · obtain ⟨x, hx⟩ : ∃ x, l[k]? = some x := ⟨l[k]'hlt, by simp⟩
    (repeat' ((conv => whnf); first | with_reducible refine Idx.got hx rfl ?_ | (with_reducible refine Br.yes (decide_eq_true rfl) ?_) | (with_reducible refine Br.yes (beq_self_eq_true _) ?_) | (with_reducible first | refine Br.ff ?_ | refine Br.tt ?_ | refine Br.not ?_ | refine Br.yes (by assumption) ?_ | refine Br.no (by assumption) ?_ | (refine Br.dec (fun h => ?_) (fun h => ?_) <;> try simp only [lm] at h)) | ((with_reducible refine Br.mk (fun h => ?_) (fun h => ?_)) <;> (try simp only [lm] at h) <;> (first | have hw := within_iff.1 h | have hw := within_no.1 h | skip)) | with_reducible refine Arith.ok (by first | omega | (simp only [lm]; omega)) ?_ | with_reducible refine Idx.at (by first | omega | (simp only [lm] at *; omega)) (fun x hx => ?_) | with_reducible refine Idx.of_map (by first | omega | (simp only [lm] at *; omega)) (fun j x hj hx => ?_) | refine VC.mk (by first | omega | (simp only [lm]; omega)) ?_ | refine CallK.go (laws_eqLink x) (fun _ => ?_) | refine CallD.go (laws_eqLink x) ?_ | intro _)) <;> (try (conv => whnf))
    all_goals first
      | (exfalso; omega)
      | (refine ⟨(k + 1), ?_, rfl, ?_, ?_⟩
         rotate_left
         · (repeat' ((conv => whnf) <;> (first | exact trivial | exact rfl | with_reducible refine And.intro ?_ ?_)))
         · (try dsimp only); (try simp only [List.length_map]); omega
         exact (by omega : k + 1 ≤ l.length))
  · (repeat' ((conv => whnf); first | (exfalso; omega) | (with_reducible first | refine Br.ff ?_ | refine Br.tt ?_ | refine Br.not ?_ | refine Br.yes (by assumption) ?_ | refine Br.no (by assumption) ?_ | (refine Br.dec (fun h => ?_) (fun h => ?_) <;> try simp only [lm] at h)) | ((with_reducible refine Br.mk (fun h => ?_) (fun h => ?_)) <;> (try simp only [lm] at h) <;> (first | have hw := within_iff.1 h | have hw := within_no.1 h | skip)) | with_reducible refine Arith.ok (by first | omega | (simp only [lm]; omega)) ?_ | with_reducible refine Idx.at (by first | omega | (simp only [lm] at *; omega)) (fun x hx => ?_) | with_reducible refine Idx.of_map (by first | omega | (simp only [lm] at *; omega)) (fun j x hj hx => ?_) | refine VC.mk (by first | omega | (simp only [lm]; omega)) ?_ | intro _)) <;> (try (conv => whnf))
    exact ⟨rfl, rfl, trivial⟩

theorem laws_eqResource (x : Resrc) : Con 112 [.d x.av, .d x.av] (.d (.bool true)) := by
  refine con Tryz.func112 rfl rfl Tryz.call112 rfl fun hwf => ?_
  (repeat' ((conv => whnf); first | (with_reducible refine Br.yes (decide_eq_true rfl) ?_) | (with_reducible refine Br.yes (beq_self_eq_true _) ?_) | (with_reducible first | refine Br.ff ?_ | refine Br.tt ?_ | refine Br.not ?_ | refine Br.yes (by assumption) ?_ | refine Br.no (by assumption) ?_ | (refine Br.dec (fun h => ?_) (fun h => ?_) <;> try simp only [lm] at h)) | ((with_reducible refine Br.mk (fun h => ?_) (fun h => ?_)) <;> (try simp only [lm] at h) <;> (first | have hw := within_iff.1 h | have hw := within_no.1 h | skip)) | refine CallK.go (laws_eqStepS x.steps) (fun _ => ?_) | refine CallD.go (laws_eqStepS x.steps) ?_ | refine CallK.go (laws_eqIntSS x.setup) (fun _ => ?_) | refine CallD.go (laws_eqIntSS x.setup) ?_ | intro _)) <;> (try (conv => whnf))
  all_goals exact ⟨rfl, rfl, trivial⟩

theorem laws_eqResourceS (l : List Resrc) : Con 53 [.d (.sl (l.map Resrc.av)), .d (.sl (l.map Resrc.av))] (.d (.bool true)) := by
  refine con Tryz.func53 rfl rfl Tryz.call53 rfl fun hwf => ?_
  simp only [ARs.wf, AR.wf, AV.wf, AV.wfs, List.length_map, lim] at hwf
  (repeat' ((conv => whnf); first | (with_reducible refine Br.yes (decide_eq_true rfl) ?_) | (with_reducible refine Br.yes (beq_self_eq_true _) ?_) | (with_reducible first | refine Br.ff ?_ | refine Br.tt ?_ | refine Br.not ?_ | refine Br.yes (by assumption) ?_ | refine Br.no (by assumption) ?_ | (refine Br.dec (fun h => ?_) (fun h => ?_) <;> try simp only [lm] at h)) | ((with_reducible refine Br.mk (fun h => ?_) (fun h => ?_)) <;> (try simp only [lm] at h) <;> (first | have hw := within_iff.1 h | have hw := within_no.1 h | skip)) | with_reducible refine Arith.ok (by first | omega | (simp only [lm]; omega)) ?_ | with_reducible refine Idx.at (by first | omega | (simp only [lm] at *; omega)) (fun x hx => ?_) | with_reducible refine Idx.of_map (by first | omega | (simp only [lm] at *; omega)) (fun j x hj hx => ?_) | refine VC.mk (by first | omega | (simp only [lm]; omega)) ?_ | intro _)) <;> (try (conv => whnf))
  refine loopF [0, 1] [] [] ?_
  (conv => whnf)
  refine LoopC.mk ((Nat)) (fun k => (k ≤ l.length)) (fun k => [(5, .data (i64 k))]) (fun _ => []) (fun _ => []) (fun k => l.length - k) (0) ?_ ?_ ?_
  rotate_left
  · (repeat' ((conv => whnf) <;> (first | exact trivial | exact rfl | with_reducible refine And.intro ?_ ?_)))
  rotate_left
  · exact Nat.zero_le _
  rintro k hk
  by_cases hlt : k < l.length
  · obtain ⟨x, hx⟩ : ∃ x, l[k]? = some x := ⟨l[k]'hlt, by simp⟩
    (repeat' ((conv => whnf); first | with_reducible refine Idx.got hx rfl ?_ | (with_reducible refine Br.yes (decide_eq_true rfl) ?_) | (with_reducible refine Br.yes (beq_self_eq_true _) ?_) | (with_reducible first | refine Br.ff ?_ | refine Br.tt ?_ | refine Br.not ?_ | refine Br.yes (by assumption) ?_ | refine Br.no (by assumption) ?_ | (refine Br.dec (fun h => ?_) (fun h => ?_) <;> try simp only [lm] at h)) | ((with_reducible refine Br.mk (fun h => ?_) (fun h => ?_)) <;> (try simp only [lm] at h) <;> (first | have hw := within_iff.1 h | have hw := within_no.1 h | skip)) | with_reducible refine Arith.ok (by first | omega | (simp only [lm]; omega)) ?_ | with_reducible refine Idx.at (by first | omega | (simp only [lm] at *; omega)) (fun x hx => ?_) | with_reducible refine Idx.of_map (by first | omega | (simp only [lm] at *; omega)) (fun j x hj hx => ?_) | refine VC.mk (by first | omega | (simp only [lm]; omega)) ?_ | refine CallK.go (laws_eqResource x) (fun _ => ?_) | refine CallD.go (laws_eqResource x) ?_ | intro _)) <;> (try (conv => whnf))
    all_goals first
      | (exfalso; omega)
      | (refine ⟨(k + 1), ?_, rfl, ?_, ?_⟩
         rotate_left
         · (repeat' ((conv => whnf) <;> (first | exact trivial | exact rfl | with_reducible refine And.intro ?_ ?_)))
         · (try dsimp only); (try simp only [List.length_map]); omega
         exact (by omega : k + 1 ≤ l.length))
  · (repeat' ((conv => whnf); first | (exfalso; omega) | (with_reducible first | refine Br.ff ?_ | refine Br.tt ?_ | refine Br.not ?_ | refine Br.yes (by assumption) ?_ | refine Br.no (by assumption) ?_ | (refine Br.dec (fun h => ?_) (fun h => ?_) <;> try simp only [lm] at h)) | ((with_reducible refine Br.mk (fun h => ?_) (fun h => ?_)) <;> (try simp only [lm] at h) <;> (first | have hw := within_iff.1 h | have hw := within_no.1 h | skip)) | with_reducible refine Arith.ok (by first | omega | (simp only [lm]; omega)) ?_ | with_reducible refine Idx.at (by first | omega | (simp only [lm] at *; omega)) (fun x hx => ?_) | with_reducible refine Idx.of_map (by first | omega | (simp only [lm] at *; omega)) (fun j x hj hx => ?_) | refine VC.mk (by first | omega | (simp only [lm]; omega)) ?_ | intro _)) <;> (try (conv => whnf))
    exact ⟨rfl, rfl, trivial⟩

theorem laws_eqProject (x : Proj) : Con 15 [.d x.av, .d x.av] (.d (.bool true)) := by
  refine con Tryz.func15 rfl rfl Tryz.call15 rfl fun hwf => ?_
  (repeat' ((conv => whnf); first | (with_reducible refine Br.yes (decide_eq_true rfl) ?_) | (with_reducible refine Br.yes (beq_self_eq_true _) ?_) | (with_reducible first | refine Br.ff ?_ | refine Br.tt ?_ | refine Br.not ?_ | refine Br.yes (by assumption) ?_ | refine Br.no (by assumption) ?_ | (refine Br.dec (fun h => ?_) (fun h => ?_) <;> try simp only [lm] at h)) | ((with_reducible refine Br.mk (fun h => ?_) (fun h => ?_)) <;> (try simp only [lm] at h) <;> (first | have hw := within_iff.1 h | have hw := within_no.1 h | skip)) | refine CallK.go (laws_eqActivityS x.acts) (fun _ => ?_) | refine CallD.go (laws_eqActivityS x.acts) ?_ | refine CallK.go (laws_eqLinkS x.links) (fun _ => ?_) | refine CallD.go (laws_eqLinkS x.links) ?_ | refine CallK.go (laws_eqResourceS x.ress) (fun _ => ?_) | refine CallD.go (laws_eqResourceS x.ress) ?_ | refine CallK.go (laws_eqIntS x.stocks) (fun _ => ?_) | refine CallD.go (laws_eqIntS x.stocks) ?_ | intro _)) <;> (try (conv => whnf))
  all_goals exact ⟨rfl, rfl, trivial⟩

theorem laws_eqDomain (x : Dom) : Con 16 [.d x.av, .d x.av] (.d (.bool true)) := by
  refine con Tryz.func16 rfl rfl Tryz.call16 rfl fun hwf => ?_
  (repeat' ((conv => whnf); first | (with_reducible refine Br.yes (decide_eq_true rfl) ?_) | (with_reducible refine Br.yes (beq_self_eq_true _) ?_) | (with_reducible first | refine Br.ff ?_ | refine Br.tt ?_ | refine Br.not ?_ | refine Br.yes (by assumption) ?_ | refine Br.no (by assumption) ?_ | (refine Br.dec (fun h => ?_) (fun h => ?_) <;> try simp only [lm] at h)) | ((with_reducible refine Br.mk (fun h => ?_) (fun h => ?_)) <;> (try simp only [lm] at h) <;> (first | have hw := within_iff.1 h | have hw := within_no.1 h | skip)) | refine CallK.go (laws_eqIntS x.lo) (fun _ => ?_) | refine CallD.go (laws_eqIntS x.lo) ?_ | refine CallK.go (laws_eqIntS x.hi) (fun _ => ?_) | refine CallD.go (laws_eqIntS x.hi) ?_ | refine CallK.go (laws_eqIntSS x.modes) (fun _ => ?_) | refine CallD.go (laws_eqIntSS x.modes) ?_ | intro _)) <;> (try (conv => whnf))
  all_goals exact ⟨rfl, rfl, trivial⟩

end Go.Proofs.YtgebcdkmchcifaaGreat.Abs
