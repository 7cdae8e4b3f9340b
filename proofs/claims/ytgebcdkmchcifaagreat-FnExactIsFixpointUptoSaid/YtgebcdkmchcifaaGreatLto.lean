/- Contracts of the laws' own helpers. No statement of a claim. -/
import Derived.Test.YtgebcdkmchcifaaGreatC1
import Derived.Test.YtgebcdkmchcifaaGreatPlain
set_option linter.all false
set_option linter.unusedVariables false
set_option linter.unusedSimpArgs false
set_option maxRecDepth 20000
set_option maxHeartbeats 4000000
namespace Go.Proofs.YtgebcdkmchcifaaGreat.Abs
open Go.Proofs


theorem laws_toIntS (l : List Int) : Con 43 [.d (.sl (l.map i64))] (.d (.sl (l.map i64))) := by
  refine con Tryz.func43 rfl rfl Tryz.call43 rfl fun hwf => ?_
  simp only [ARs.wf, AR.wf, AV.wf, AV.wfs, List.length_map, lim] at hwf
  (repeat' ((conv => whnf); first | (with_reducible first | refine Br.ff ?_ | refine Br.tt ?_ | refine Br.not ?_ | refine Br.yes (by assumption) ?_ | refine Br.no (by assumption) ?_ | (refine Br.dec (fun h => ?_) (fun h => ?_) <;> try simp only [lm] at h)) | ((with_reducible refine Br.mk (fun h => ?_) (fun h => ?_)) <;> (try simp only [lm] at h) <;> (first | have hw := within_iff.1 h | have hw := within_no.1 h | skip)) | with_reducible refine Arith.ok (by first | omega | (simp only [lm]; omega)) ?_ | with_reducible refine Idx.at (by first | omega | (simp only [lm] at *; omega)) (fun x hx => ?_) | with_reducible refine Idx.of_map (by first | omega | (simp only [lm] at *; omega)) (fun j x hj hx => ?_) | refine VC.mk (by first | omega | (simp only [lm]; omega)) ?_ | refine VC.mk ⟨rfl, by omega, by (simp only [lm]; unfold lim; omega)⟩ ?_ | intro _)) <;> (try (conv => whnf))
  refine loopF [0, 3] [] [7] ?_
  (conv => whnf)
  refine LoopC.mk ((Nat)) (fun k => (k ≤ l.length)) (fun k => [(4, .data (i64 k))]) (fun _ => []) (fun k => [(7, 3, filled i64 (i64 0) l k)]) (fun k => l.length - k) (0) ?_ ?_ ?_
  rotate_left
  · (repeat' ((conv => whnf) <;> (first | exact trivial | exact rfl | with_reducible refine And.intro ?_ ?_)))
  rotate_left
  · exact Nat.zero_le _
  rintro k hk
  (repeat' ((conv => whnf); first | with_reducible refine Idx.mk k (i64 0) rfl (filled_get (by omega)) ?_ | (with_reducible first | refine Br.ff ?_ | refine Br.tt ?_ | refine Br.not ?_ | refine Br.yes (by assumption) ?_ | refine Br.no (by assumption) ?_ | (refine Br.dec (fun h => ?_) (fun h => ?_) <;> try simp only [lm] at h)) | ((with_reducible refine Br.mk (fun h => ?_) (fun h => ?_)) <;> (try simp only [lm] at h) <;> (first | have hw := within_iff.1 h | have hw := within_no.1 h | skip)) | with_reducible refine Arith.ok (by first | omega | (simp only [lm]; omega)) ?_ | with_reducible refine Idx.at (by first | omega | (simp only [lm] at *; omega)) (fun x hx => ?_) | with_reducible refine Idx.of_map (by first | omega | (simp only [lm] at *; omega)) (fun j x hj hx => ?_) | refine VC.mk (by first | omega | (simp only [lm]; omega)) ?_ | refine VC.mk ⟨rfl, by omega, by (simp only [lm]; unfold lim; omega)⟩ ?_ | intro _)) <;> (try (conv => whnf))
  · refine ⟨(k + 1), ?_, rfl, ?_, ?_⟩
    rotate_left
    · (repeat' ((conv => whnf) <;> (first | exact trivial | exact rfl | with_reducible refine And.intro ?_ ?_))) <;> ((conv => whnf) <;> (exact filled_set hx rfl))
    · (try dsimp only); (try simp only [List.length_map]); omega
    exact (by omega : k + 1 ≤ l.length)
  · refine ⟨?_, rfl, trivial⟩
    dsimp only
    rw [filled_end (by omega)]

theorem laws_toIntSS (l : List (List Int)) : Con 44 [.d (.sl (l.map ints))] (.d (.sl (l.map ints))) := by
  refine con Tryz.func44 rfl rfl Tryz.call44 rfl fun hwf => ?_
  simp only [ARs.wf, AR.wf, AV.wf, AV.wfs, List.length_map, lim] at hwf
  (repeat' ((conv => whnf); first | (with_reducible first | refine Br.ff ?_ | refine Br.tt ?_ | refine Br.not ?_ | refine Br.yes (by assumption) ?_ | refine Br.no (by assumption) ?_ | (refine Br.dec (fun h => ?_) (fun h => ?_) <;> try simp only [lm] at h)) | ((with_reducible refine Br.mk (fun h => ?_) (fun h => ?_)) <;> (try simp only [lm] at h) <;> (first | have hw := within_iff.1 h | have hw := within_no.1 h | skip)) | with_reducible refine Arith.ok (by first | omega | (simp only [lm]; omega)) ?_ | with_reducible refine Idx.at (by first | omega | (simp only [lm] at *; omega)) (fun x hx => ?_) | with_reducible refine Idx.of_map (by first | omega | (simp only [lm] at *; omega)) (fun j x hj hx => ?_) | refine VC.mk (by first | omega | (simp only [lm]; omega)) ?_ | refine VC.mk ⟨rfl, by omega, by (simp only [lm]; unfold lim; omega)⟩ ?_ | intro _)) <;> (try (conv => whnf))
  refine loopF [0, 3] [] [7] ?_
  (conv => whnf)
  refine LoopC.mk ((Nat)) (fun k => (k ≤ l.length)) (fun k => [(4, .data (i64 k))]) (fun _ => []) (fun k => [(7, 25, filled ints (.sl []) l k)]) (fun k => l.length - k) (0) ?_ ?_ ?_
  rotate_left
  · (repeat' ((conv => whnf) <;> (first | exact trivial | exact rfl | with_reducible refine And.intro ?_ ?_)))
  rotate_left
  · exact Nat.zero_le _
  rintro k hk
  (repeat' ((conv => whnf); first | with_reducible refine Idx.mk k (.sl []) rfl (filled_get (by omega)) ?_ | (with_reducible first | refine Br.ff ?_ | refine Br.tt ?_ | refine Br.not ?_ | refine Br.yes (by assumption) ?_ | refine Br.no (by assumption) ?_ | (refine Br.dec (fun h => ?_) (fun h => ?_) <;> try simp only [lm] at h)) | ((with_reducible refine Br.mk (fun h => ?_) (fun h => ?_)) <;> (try simp only [lm] at h) <;> (first | have hw := within_iff.1 h | have hw := within_no.1 h | skip)) | with_reducible refine Arith.ok (by first | omega | (simp only [lm]; omega)) ?_ | with_reducible refine Idx.at (by first | omega | (simp only [lm] at *; omega)) (fun x hx => ?_) | with_reducible refine Idx.of_map (by first | omega | (simp only [lm] at *; omega)) (fun j x hj hx => ?_) | refine VC.mk (by first | omega | (simp only [lm]; omega)) ?_ | refine VC.mk ⟨rfl, by omega, by (simp only [lm]; unfold lim; omega)⟩ ?_ | refine CallK.go (laws_toIntS x) (fun _ => ?_) | refine CallD.go (laws_toIntS x) ?_ | intro _)) <;> (try (conv => whnf))
  · refine ⟨(k + 1), ?_, rfl, ?_, ?_⟩
    rotate_left
    · (repeat' ((conv => whnf) <;> (first | exact trivial | exact rfl | with_reducible refine And.intro ?_ ?_))) <;> ((conv => whnf) <;> (exact filled_set hx rfl))
    · (try dsimp only); (try simp only [List.length_map]); omega
    exact (by omega : k + 1 ≤ l.length)
  · refine ⟨?_, rfl, trivial⟩
    dsimp only
    rw [filled_end (by omega)]

theorem laws_toStep (x : Step) : Con 216 [.d x.av] (.d x.av) := by
  refine con Tryz.func216 rfl rfl Tryz.call216 rfl fun hwf => ?_
  (repeat' ((conv => whnf); first | (with_reducible first | refine Br.ff ?_ | refine Br.tt ?_ | refine Br.not ?_ | refine Br.yes (by assumption) ?_ | refine Br.no (by assumption) ?_ | (refine Br.dec (fun h => ?_) (fun h => ?_) <;> try simp only [lm] at h)) | ((with_reducible refine Br.mk (fun h => ?_) (fun h => ?_)) <;> (try simp only [lm] at h) <;> (first | have hw := within_iff.1 h | have hw := within_no.1 h | skip)) | intro _)) <;> (try (conv => whnf))
  exact ⟨rfl, rfl, trivial⟩

theorem laws_toStepS (l : List Step) : Con 161 [.d (.sl (l.map Step.av))] (.d (.sl (l.map Step.av))) := by
  refine con Tryz.func161 rfl rfl Tryz.call161 rfl fun hwf => ?_
  simp only [ARs.wf, AR.wf, AV.wf, AV.wfs, List.length_map, lim] at hwf
  (repeat' ((conv => whnf); first | (with_reducible first | refine Br.ff ?_ | refine Br.tt ?_ | refine Br.not ?_ | refine Br.yes (by assumption) ?_ | refine Br.no (by assumption) ?_ | (refine Br.dec (fun h => ?_) (fun h => ?_) <;> try simp only [lm] at h)) | ((with_reducible refine Br.mk (fun h => ?_) (fun h => ?_)) <;> (try simp only [lm] at h) <;> (first | have hw := within_iff.1 h | have hw := within_no.1 h | skip)) | with_reducible refine Arith.ok (by first | omega | (simp only [lm]; omega)) ?_ | with_reducible refine Idx.at (by first | omega | (simp only [lm] at *; omega)) (fun x hx => ?_) | with_reducible refine Idx.of_map (by first | omega | (simp only [lm] at *; omega)) (fun j x hj hx => ?_) | refine VC.mk (by first | omega | (simp only [lm]; omega)) ?_ | refine VC.mk ⟨rfl, by omega, by (simp only [lm]; unfold lim; omega)⟩ ?_ | intro _)) <;> (try (conv => whnf))
  refine loopF [0, 3] [] [7] ?_
  (conv => whnf)
  refine LoopC.mk ((Nat)) (fun k => (k ≤ l.length)) (fun k => [(4, .data (i64 k))]) (fun _ => []) (fun k => [(7, 154, filled Step.av (.agg [i64 0, i64 0]) l k)]) (fun k => l.length - k) (0) ?_ ?_ ?_
  rotate_left
  · (repeat' ((conv => whnf) <;> (first | exact trivial | exact rfl | with_reducible refine And.intro ?_ ?_)))
  rotate_left
  · exact Nat.zero_le _
  rintro k hk
  (repeat' ((conv => whnf); first | with_reducible refine Idx.mk k (.agg [i64 0, i64 0]) rfl (filled_get (by omega)) ?_ | (with_reducible first | refine Br.ff ?_ | refine Br.tt ?_ | refine Br.not ?_ | refine Br.yes (by assumption) ?_ | refine Br.no (by assumption) ?_ | (refine Br.dec (fun h => ?_) (fun h => ?_) <;> try simp only [lm] at h)) | ((with_reducible refine Br.mk (fun h => ?_) (fun h => ?_)) <;> (try simp only [lm] at h) <;> (first | have hw := within_iff.1 h | have hw := within_no.1 h | skip)) | with_reducible refine Arith.ok (by first | omega | (simp only [lm]; omega)) ?_ | with_reducible refine Idx.at (by first | omega | (simp only [lm] at *; omega)) (fun x hx => ?_) | with_reducible refine Idx.of_map (by first | omega | (simp only [lm] at *; omega)) (fun j x hj hx => ?_) | refine VC.mk (by first | omega | (simp only [lm]; omega)) ?_ | refine VC.mk ⟨rfl, by omega, by (simp only [lm]; unfold lim; omega)⟩ ?_ | refine CallK.go (laws_toStep x) (fun _ => ?_) | refine CallD.go (laws_toStep x) ?_ | intro _)) <;> (try (conv => whnf))
  · refine ⟨(k + 1), ?_, rfl, ?_, ?_⟩
    rotate_left
    · (repeat' ((conv => whnf) <;> (first | exact trivial | exact rfl | with_reducible refine And.intro ?_ ?_))) <;> ((conv => whnf) <;> (exact filled_set hx rfl))
    · (try dsimp only); (try simp only [List.length_map]); omega
    exact (by omega : k + 1 ≤ l.length)
  · refine ⟨?_, rfl, trivial⟩
    dsimp only
    rw [filled_end (by omega)]

theorem laws_toMode (x : Mode) : Con 215 [.d x.av] (.d x.av) := by
  refine con Tryz.func215 rfl rfl Tryz.call215 rfl fun hwf => ?_
  (repeat' ((conv => whnf); first | (with_reducible first | refine Br.ff ?_ | refine Br.tt ?_ | refine Br.not ?_ | refine Br.yes (by assumption) ?_ | refine Br.no (by assumption) ?_ | (refine Br.dec (fun h => ?_) (fun h => ?_) <;> try simp only [lm] at h)) | ((with_reducible refine Br.mk (fun h => ?_) (fun h => ?_)) <;> (try simp only [lm] at h) <;> (first | have hw := within_iff.1 h | have hw := within_no.1 h | skip)) | refine CallK.go (laws_toIntS x.use) (fun _ => ?_) | refine CallD.go (laws_toIntS x.use) ?_ | refine CallK.go (laws_toIntS x.con) (fun _ => ?_) | refine CallD.go (laws_toIntS x.con) ?_ | intro _)) <;> (try (conv => whnf))
  exact ⟨rfl, rfl, trivial⟩

theorem laws_toModeS (l : List Mode) : Con 160 [.d (.sl (l.map Mode.av))] (.d (.sl (l.map Mode.av))) := by
  refine con Tryz.func160 rfl rfl Tryz.call160 rfl fun hwf => ?_
  simp only [ARs.wf, AR.wf, AV.wf, AV.wfs, List.length_map, lim] at hwf
  (repeat' ((conv => whnf); first | (with_reducible first | refine Br.ff ?_ | refine Br.tt ?_ | refine Br.not ?_ | refine Br.yes (by assumption) ?_ | refine Br.no (by assumption) ?_ | (refine Br.dec (fun h => ?_) (fun h => ?_) <;> try simp only [lm] at h)) | ((with_reducible refine Br.mk (fun h => ?_) (fun h => ?_)) <;> (try simp only [lm] at h) <;> (first | have hw := within_iff.1 h | have hw := within_no.1 h | skip)) | with_reducible refine Arith.ok (by first | omega | (simp only [lm]; omega)) ?_ | with_reducible refine Idx.at (by first | omega | (simp only [lm] at *; omega)) (fun x hx => ?_) | with_reducible refine Idx.of_map (by first | omega | (simp only [lm] at *; omega)) (fun j x hj hx => ?_) | refine VC.mk (by first | omega | (simp only [lm]; omega)) ?_ | refine VC.mk ⟨rfl, by omega, by (simp only [lm]; unfold lim; omega)⟩ ?_ | intro _)) <;> (try (conv => whnf))
  refine loopF [0, 3] [] [7] ?_
  (conv => whnf)
  refine LoopC.mk ((Nat)) (fun k => (k ≤ l.length)) (fun k => [(4, .data (i64 k))]) (fun _ => []) (fun k => [(7, 185, filled Mode.av (.agg [i64 0, .sl [], .sl []]) l k)]) (fun k => l.length - k) (0) ?_ ?_ ?_
  rotate_left
  · (repeat' ((conv => whnf) <;> (first | exact trivial | exact rfl | with_reducible refine And.intro ?_ ?_)))
  rotate_left
  · exact Nat.zero_le _
  rintro k hk
  (repeat' ((conv => whnf); first | with_reducible refine Idx.mk k (.agg [i64 0, .sl [], .sl []]) rfl (filled_get (by omega)) ?_ | (with_reducible first | refine Br.ff ?_ | refine Br.tt ?_ | refine Br.not ?_ | refine Br.yes (by assumption) ?_ | refine Br.no (by assumption) ?_ | (refine Br.dec (fun h => ?_) (fun h => ?_) <;> try simp only [lm] at h)) | ((with_reducible refine Br.mk (fun h => ?_) (fun h => ?_)) <;> (try simp only [lm] at h) <;> (first | have hw := within_iff.1 h | have hw := within_no.1 h | skip)) | with_reducible refine Arith.ok (by first | omega | (simp only [lm]; omega)) ?_ | with_reducible refine Idx.at (by first | omega | (simp only [lm] at *; omega)) (fun x hx => ?_) | with_reducible refine Idx.of_map (by first | omega | (simp only [lm] at *; omega)) (fun j x hj hx => ?_) | refine VC.mk (by first | omega | (simp only [lm]; omega)) ?_ | refine VC.mk ⟨rfl, by omega, by (simp only [lm]; unfold lim; omega)⟩ ?_ | refine CallK.go (laws_toMode x) (fun _ => ?_) | refine CallD.go (laws_toMode x) ?_ | intro _)) <;> (try (conv => whnf))
  · refine ⟨(k + 1), ?_, rfl, ?_, ?_⟩
    rotate_left
    · (repeat' ((conv => whnf) <;> (first | exact trivial | exact rfl | with_reducible refine And.intro ?_ ?_))) <;> ((conv => whnf) <;> (exact filled_set hx rfl))
    · (try dsimp only); (try simp only [List.length_map]); omega
    exact (by omega : k + 1 ≤ l.length)
  · refine ⟨?_, rfl, trivial⟩
    dsimp only
    rw [filled_end (by omega)]

theorem laws_toActivity (x : Activ) : Con 90 [.d x.av] (.d x.av) := by
  refine con Tryz.func90 rfl rfl Tryz.call90 rfl fun hwf => ?_
  (repeat' ((conv => whnf); first | (with_reducible first | refine Br.ff ?_ | refine Br.tt ?_ | refine Br.not ?_ | refine Br.yes (by assumption) ?_ | refine Br.no (by assumption) ?_ | (refine Br.dec (fun h => ?_) (fun h => ?_) <;> try simp only [lm] at h)) | ((with_reducible refine Br.mk (fun h => ?_) (fun h => ?_)) <;> (try simp only [lm] at h) <;> (first | have hw := within_iff.1 h | have hw := within_no.1 h | skip)) | refine CallK.go (laws_toModeS x.modes) (fun _ => ?_) | refine CallD.go (laws_toModeS x.modes) ?_ | intro _)) <;> (try (conv => whnf))
  exact ⟨rfl, rfl, trivial⟩

theorem laws_toActivityS (l : List Activ) : Con 40 [.d (.sl (l.map Activ.av))] (.d (.sl (l.map Activ.av))) := by
  refine con Tryz.func40 rfl rfl Tryz.call40 rfl fun hwf => ?_
  simp only [ARs.wf, AR.wf, AV.wf, AV.wfs, List.length_map, lim] at hwf
  (repeat' ((conv => whnf); first | (with_reducible first | refine Br.ff ?_ | refine Br.tt ?_ | refine Br.not ?_ | refine Br.yes (by assumption) ?_ | refine Br.no (by assumption) ?_ | (refine Br.dec (fun h => ?_) (fun h => ?_) <;> try simp only [lm] at h)) | ((with_reducible refine Br.mk (fun h => ?_) (fun h => ?_)) <;> (try simp only [lm] at h) <;> (first | have hw := within_iff.1 h | have hw := within_no.1 h | skip)) | with_reducible refine Arith.ok (by first | omega | (simp only [lm]; omega)) ?_ | with_reducible refine Idx.at (by first | omega | (simp only [lm] at *; omega)) (fun x hx => ?_) | with_reducible refine Idx.of_map (by first | omega | (simp only [lm] at *; omega)) (fun j x hj hx => ?_) | refine VC.mk (by first | omega | (simp only [lm]; omega)) ?_ | refine VC.mk ⟨rfl, by omega, by (simp only [lm]; unfold lim; omega)⟩ ?_ | intro _)) <;> (try (conv => whnf))
  refine loopF [0, 3] [] [7] ?_
  (conv => whnf)
  refine LoopC.mk ((Nat)) (fun k => (k ≤ l.length)) (fun k => [(4, .data (i64 k))]) (fun _ => []) (fun k => [(7, 120, filled Activ.av (.agg [.str ⟨#[]⟩, i64 0, .sl []]) l k)]) (fun k => l.length - k) (0) ?_ ?_ ?_
  rotate_left
  · (repeat' ((conv => whnf) <;> (first | exact trivial | exact rfl | with_reducible refine And.intro ?_ ?_)))
  rotate_left
  · exact Nat.zero_le _
  rintro k hk
  (repeat' ((conv => whnf); first | with_reducible refine Idx.mk k (.agg [.str ⟨#[]⟩, i64 0, .sl []]) rfl (filled_get (by omega)) ?_ | (with_reducible first | refine Br.ff ?_ | refine Br.tt ?_ | refine Br.not ?_ | refine Br.yes (by assumption) ?_ | refine Br.no (by assumption) ?_ | (refine Br.dec (fun h => ?_) (fun h => ?_) <;> try simp only [lm] at h)) | ((with_reducible refine Br.mk (fun h => ?_) (fun h => ?_)) <;> (try simp only [lm] at h) <;> (first | have hw := within_iff.1 h | have hw := within_no.1 h | skip)) | with_reducible refine Arith.ok (by first | omega | (simp only [lm]; omega)) ?_ | with_reducible refine Idx.at (by first | omega | (simp only [lm] at *; omega)) (fun x hx => ?_) | with_reducible refine Idx.of_map (by first | omega | (simp only [lm] at *; omega)) (fun j x hj hx => ?_) | refine VC.mk (by first | omega | (simp only [lm]; omega)) ?_ | refine VC.mk ⟨rfl, by omega, by (simp only [lm]; unfold lim; omega)⟩ ?_ | refine CallK.go (laws_toActivity x) (fun _ => ?_) | refine CallD.go (laws_toActivity x) ?_ | intro _)) <;> (try (conv => whnf))
  · refine ⟨(k + 1), ?_, rfl, ?_, ?_⟩
    rotate_left
    · (repeat' ((conv => whnf) <;> (first | exact trivial | exact rfl | with_reducible refine And.intro ?_ ?_))) <;> ((conv => whnf) <;> (exact filled_set hx rfl))
    · (try dsimp only); (try simp only [List.length_map]); omega
    exact (by omega : k + 1 ≤ l.length)
  · refine ⟨?_, rfl, trivial⟩
    dsimp only
    rw [filled_end (by omega)]

theorem laws_toLink (x : Link) : Con 91 [.d x.av] (.d x.av) := by
  refine con Tryz.func91 rfl rfl Tryz.call91 rfl fun hwf => ?_
  (repeat' ((conv => whnf); first | (with_reducible first | refine Br.ff ?_ | refine Br.tt ?_ | refine Br.not ?_ | refine Br.yes (by assumption) ?_ | refine Br.no (by assumption) ?_ | (refine Br.dec (fun h => ?_) (fun h => ?_) <;> try simp only [lm] at h)) | ((with_reducible refine Br.mk (fun h => ?_) (fun h => ?_)) <;> (try simp only [lm] at h) <;> (first | have hw := within_iff.1 h | have hw := within_no.1 h | skip)) | intro _)) <;> (try (conv => whnf))
  exact ⟨rfl, rfl, trivial⟩

theorem laws_toLinkS (l : List Link) : Con 41 [.d (.sl (l.map Link.av))] (.d (.sl (l.map Link.av))) := by
  refine con Tryz.func41 rfl rfl Tryz.call41 rfl fun hwf => ?_
  simp only [ARs.wf, AR.wf, AV.wf, AV.wfs, List.length_map, lim] at hwf
  (repeat' ((conv => whnf); first | (with_reducible first | refine Br.ff ?_ | refine Br.tt ?_ | refine Br.not ?_ | refine Br.yes (by assumption) ?_ | refine Br.no (by assumption) ?_ | (refine Br.dec (fun h => ?_) (fun h => ?_) <;> try simp only [lm] at h)) | ((with_reducible refine Br.mk (fun h => ?_) (fun h => ?_)) <;> (try simp only [lm] at h) <;> (first | have hw := within_iff.1 h | have hw := within_no.1 h | skip)) | with_reducible refine Arith.ok (by first | omega | (simp only [lm]; omega)) ?_ | with_reducible refine Idx.at (by first | omega | (simp only [lm] at *; omega)) (fun x hx => ?_) | with_reducible refine Idx.of_map (by first | omega | (simp only [lm] at *; omega)) (fun j x hj hx => ?_) | refine VC.mk (by first | omega | (simp only [lm]; omega)) ?_ | refine VC.mk ⟨rfl, by omega, by (simp only [lm]; unfold lim; omega)⟩ ?_ | intro _)) <;> (try (conv => whnf))
  refine loopF [0, 3] [] [7] ?_
  (conv => whnf)
  refine LoopC.mk ((Nat)) (fun k => (k ≤ l.length)) (fun k => [(4, .data (i64 k))]) (fun _ => []) (fun k => [(7, 123, filled Link.av (.agg [i64 0, i64 0, .bool false, i64 0]) l k)]) (fun k => l.length - k) (0) ?_ ?_ ?_
  rotate_left
  · (repeat' ((conv => whnf) <;> (first | exact trivial | exact rfl | with_reducible refine And.intro ?_ ?_)))
  rotate_left
  · exact Nat.zero_le _
  rintro k hk
  (repeat' ((conv => whnf); first | with_reducible refine Idx.mk k (.agg [i64 0, i64 0, .bool false, i64 0]) rfl (filled_get (by omega)) ?_ | (with_reducible first | refine Br.ff ?_ | refine Br.tt ?_ | refine Br.not ?_ | refine Br.yes (by assumption) ?_ | refine Br.no (by assumption) ?_ | (refine Br.dec (fun h => ?_) (fun h => ?_) <;> try simp only [lm] at h)) | ((with_reducible refine Br.mk (fun h => ?_) (fun h => ?_)) <;> (try simp only [lm] at h) <;> (first | have hw := within_iff.1 h | have hw := within_no.1 h | skip)) | with_reducible refine Arith.ok (by first | omega | (simp only [lm]; omega)) ?_ | with_reducible refine Idx.at (by first | omega | (simp only [lm] at *; omega)) (fun x hx => ?_) | with_reducible refine Idx.of_map (by first | omega | (simp only [lm] at *; omega)) (fun j x hj hx => ?_) | refine VC.mk (by first | omega | (simp only [lm]; omega)) ?_ | refine VC.mk ⟨rfl, by omega, by (simp only [lm]; unfold lim; omega)⟩ ?_ | refine CallK.go (laws_toLink x) (fun _ => ?_) | refine CallD.go (laws_toLink x) ?_ | intro _)) <;> (try (conv => whnf))
  · refine ⟨(k + 1), ?_, rfl, ?_, ?_⟩
    rotate_left
    · (repeat' ((conv => whnf) <;> (first | exact trivial | exact rfl | with_reducible refine And.intro ?_ ?_))) <;> ((conv => whnf) <;> (exact filled_set hx rfl))
    · (try dsimp only); (try simp only [List.length_map]); omega
    exact (by omega : k + 1 ≤ l.length)
  · refine ⟨?_, rfl, trivial⟩
    dsimp only
    rw [filled_end (by omega)]

theorem laws_toResource (x : Resrc) : Con 92 [.d x.av] (.d x.av) := by
  refine con Tryz.func92 rfl rfl Tryz.call92 rfl fun hwf => ?_
  (repeat' ((conv => whnf); first | (with_reducible first | refine Br.ff ?_ | refine Br.tt ?_ | refine Br.not ?_ | refine Br.yes (by assumption) ?_ | refine Br.no (by assumption) ?_ | (refine Br.dec (fun h => ?_) (fun h => ?_) <;> try simp only [lm] at h)) | ((with_reducible refine Br.mk (fun h => ?_) (fun h => ?_)) <;> (try simp only [lm] at h) <;> (first | have hw := within_iff.1 h | have hw := within_no.1 h | skip)) | refine CallK.go (laws_toStepS x.steps) (fun _ => ?_) | refine CallD.go (laws_toStepS x.steps) ?_ | refine CallK.go (laws_toIntSS x.setup) (fun _ => ?_) | refine CallD.go (laws_toIntSS x.setup) ?_ | intro _)) <;> (try (conv => whnf))
  exact ⟨rfl, rfl, trivial⟩

theorem laws_toResourceS (l : List Resrc) : Con 42 [.d (.sl (l.map Resrc.av))] (.d (.sl (l.map Resrc.av))) := by
  refine con Tryz.func42 rfl rfl Tryz.call42 rfl fun hwf => ?_
  simp only [ARs.wf, AR.wf, AV.wf, AV.wfs, List.length_map, lim] at hwf
  (repeat' ((conv => whnf); first | (with_reducible first | refine Br.ff ?_ | refine Br.tt ?_ | refine Br.not ?_ | refine Br.yes (by assumption) ?_ | refine Br.no (by assumption) ?_ | (refine Br.dec (fun h => ?_) (fun h => ?_) <;> try simp only [lm] at h)) | ((with_reducible refine Br.mk (fun h => ?_) (fun h => ?_)) <;> (try simp only [lm] at h) <;> (first | have hw := within_iff.1 h | have hw := within_no.1 h | skip)) | with_reducible refine Arith.ok (by first | omega | (simp only [lm]; omega)) ?_ | with_reducible refine Idx.at (by first | omega | (simp only [lm] at *; omega)) (fun x hx => ?_) | with_reducible refine Idx.of_map (by first | omega | (simp only [lm] at *; omega)) (fun j x hj hx => ?_) | refine VC.mk (by first | omega | (simp only [lm]; omega)) ?_ | refine VC.mk ⟨rfl, by omega, by (simp only [lm]; unfold lim; omega)⟩ ?_ | intro _)) <;> (try (conv => whnf))
  refine loopF [0, 3] [] [7] ?_
  (conv => whnf)
  refine LoopC.mk ((Nat)) (fun k => (k ≤ l.length)) (fun k => [(4, .data (i64 k))]) (fun _ => []) (fun k => [(7, 128, filled Resrc.av (.agg [.sl [], .sl []]) l k)]) (fun k => l.length - k) (0) ?_ ?_ ?_
  rotate_left
  · (repeat' ((conv => whnf) <;> (first | exact trivial | exact rfl | with_reducible refine And.intro ?_ ?_)))
  rotate_left
  · exact Nat.zero_le _
  rintro k hk
  (repeat' ((conv => whnf); first | with_reducible refine Idx.mk k (.agg [.sl [], .sl []]) rfl (filled_get (by omega)) ?_ | (with_reducible first | refine Br.ff ?_ | refine Br.tt ?_ | refine Br.not ?_ | refine Br.yes (by assumption) ?_ | refine Br.no (by assumption) ?_ | (refine Br.dec (fun h => ?_) (fun h => ?_) <;> try simp only [lm] at h)) | ((with_reducible refine Br.mk (fun h => ?_) (fun h => ?_)) <;> (try simp only [lm] at h) <;> (first | have hw := within_iff.1 h | have hw := within_no.1 h | skip)) | with_reducible refine Arith.ok (by first | omega | (simp only [lm]; omega)) ?_ | with_reducible refine Idx.at (by first | omega | (simp only [lm] at *; omega)) (fun x hx => ?_) | with_reducible refine Idx.of_map (by first | omega | (simp only [lm] at *; omega)) (fun j x hj hx => ?_) | refine VC.mk (by first | omega | (simp only [lm]; omega)) ?_ | refine VC.mk ⟨rfl, by omega, by (simp only [lm]; unfold lim; omega)⟩ ?_ | refine CallK.go (laws_toResource x) (fun _ => ?_) | refine CallD.go (laws_toResource x) ?_ | intro _)) <;> (try (conv => whnf))
  · refine ⟨(k + 1), ?_, rfl, ?_, ?_⟩
    rotate_left
    · (repeat' ((conv => whnf) <;> (first | exact trivial | exact rfl | with_reducible refine And.intro ?_ ?_))) <;> ((conv => whnf) <;> (exact filled_set hx rfl))
    · (try dsimp only); (try simp only [List.length_map]); omega
    exact (by omega : k + 1 ≤ l.length)
  · refine ⟨?_, rfl, trivial⟩
    dsimp only
    rw [filled_end (by omega)]

theorem laws_toProject (x : Proj) : Con 10 [.d x.av] (.d x.av) := by
  refine con Tryz.func10 rfl rfl Tryz.call10 rfl fun hwf => ?_
  (repeat' ((conv => whnf); first | (with_reducible first | refine Br.ff ?_ | refine Br.tt ?_ | refine Br.not ?_ | refine Br.yes (by assumption) ?_ | refine Br.no (by assumption) ?_ | (refine Br.dec (fun h => ?_) (fun h => ?_) <;> try simp only [lm] at h)) | ((with_reducible refine Br.mk (fun h => ?_) (fun h => ?_)) <;> (try simp only [lm] at h) <;> (first | have hw := within_iff.1 h | have hw := within_no.1 h | skip)) | refine CallK.go (laws_toActivityS x.acts) (fun _ => ?_) | refine CallD.go (laws_toActivityS x.acts) ?_ | refine CallK.go (laws_toLinkS x.links) (fun _ => ?_) | refine CallD.go (laws_toLinkS x.links) ?_ | refine CallK.go (laws_toResourceS x.ress) (fun _ => ?_) | refine CallD.go (laws_toResourceS x.ress) ?_ | refine CallK.go (laws_toIntS x.stocks) (fun _ => ?_) | refine CallD.go (laws_toIntS x.stocks) ?_ | intro _)) <;> (try (conv => whnf))
  exact ⟨rfl, rfl, trivial⟩

theorem laws_toDomain (x : Dom) : Con 11 [.d x.av] (.d x.av) := by
  refine con Tryz.func11 rfl rfl Tryz.call11 rfl fun hwf => ?_
  (repeat' ((conv => whnf); first | (with_reducible first | refine Br.ff ?_ | refine Br.tt ?_ | refine Br.not ?_ | refine Br.yes (by assumption) ?_ | refine Br.no (by assumption) ?_ | (refine Br.dec (fun h => ?_) (fun h => ?_) <;> try simp only [lm] at h)) | ((with_reducible refine Br.mk (fun h => ?_) (fun h => ?_)) <;> (try simp only [lm] at h) <;> (first | have hw := within_iff.1 h | have hw := within_no.1 h | skip)) | refine CallK.go (laws_toIntS x.lo) (fun _ => ?_) | refine CallD.go (laws_toIntS x.lo) ?_ | refine CallK.go (laws_toIntS x.hi) (fun _ => ?_) | refine CallD.go (laws_toIntS x.hi) ?_ | refine CallK.go (laws_toIntSS x.modes) (fun _ => ?_) | refine CallD.go (laws_toIntSS x.modes) ?_ | intro _)) <;> (try (conv => whnf))
  exact ⟨rfl, rfl, trivial⟩

end Go.Proofs.YtgebcdkmchcifaaGreat.Abs
