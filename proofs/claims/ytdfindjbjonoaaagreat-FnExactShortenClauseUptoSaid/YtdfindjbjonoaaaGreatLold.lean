/- Contracts of the laws' own helpers. No statement of a claim. -/
import Derived.Test.YtdfindjbjonoaaaGreatC1
import Derived.Test.YtdfindjbjonoaaaGreatPlain
set_option linter.all false
set_option linter.unusedVariables false
set_option linter.unusedSimpArgs false
set_option maxRecDepth 20000
set_option maxHeartbeats 4000000
namespace Go.Proofs.YtdfindjbjonoaaaGreat.Abs
open Go.Proofs


theorem laws_otoIntS (l : List Int) : Con 53 [.old (.sl (l.map i64))] (.d (.sl (l.map i64))) := by
  refine con Tryz.func53 rfl rfl Tryz.call53 rfl fun hwf => ?_
  simp only [ARs.wf, AR.wf, AV.wf, AV.wfs, List.length_map, lim] at hwf
  (repeat' ((conv => whnf); first | (with_reducible first | refine Br.ff ?_ | refine Br.tt ?_ | refine Br.not ?_ | refine Br.yes (by assumption) ?_ | refine Br.no (by assumption) ?_ | (refine Br.dec (fun h => ?_) (fun h => ?_) <;> try simp only [lm] at h)) | ((with_reducible refine Br.mk (fun h => ?_) (fun h => ?_)) <;> (try simp only [lm] at h) <;> (first | have hw := within_iff.1 h | have hw := within_no.1 h | skip)) | with_reducible refine Arith.ok (by first | omega | (simp only [lm]; omega)) ?_ | with_reducible refine Idx.at (by first | omega | (simp only [lm] at *; omega)) (fun x hx => ?_) | with_reducible refine Idx.of_map (by first | omega | (simp only [lm] at *; omega)) (fun j x hj hx => ?_) | refine VC.mk (by first | omega | (simp only [lm]; omega)) ?_ | refine VC.mk ⟨rfl, by omega, by (simp only [lm]; unfold lim; omega)⟩ ?_ | intro _)) <;> (try (conv => whnf))
  refine loopF [0, 3] [] [7] ?_
  (conv => whnf)
  refine LoopC.mk ((Nat)) (fun k => (k ≤ l.length)) (fun k => [(4, .data (i64 k))]) (fun _ => []) (fun k => [(7, 3, filled i64 (i64 0) l k)]) (fun k => l.length - k) (0) ?_ ?_ ?_
  rotate_left
  · (repeat' ((conv => whnf) <;> (first | exact trivial | exact rfl | with_reducible refine And.intro ?_ ?_)))
  rotate_left
  · exact Nat.zero_le _
  rintro k hk
  (repeat' ((conv => whnf); first | with_reducible refine Idx.mk k (i64 0) rfl (filled_get (by omega)) ?_ | (with_reducible first | refine Br.ff ?_ | refine Br.tt ?_ | refine Br.not ?_ | refine Br.yes (by assumption) ?_ | refine Br.no (by assumption) ?_ | (refine Br.dec (fun h => ?_) (fun h => ?_) <;> try simp only [lm] at h)) | ((with_reducible refine Br.mk (fun h => ?_) (fun h => ?_)) <;> (try simp only [lm] at h) <;> (first | have hw := within_iff.1 h | have hw := within_no.1 h | skip)) | with_reducible refine Arith.ok (by first | omega | (simp only [lm]; omega)) ?_ | with_reducible refine Idx.at (by first | omega | (simp only [lm] at *; omega)) (fun x hx => ?_) | with_reducible refine Idx.of_map (by first | omega | (simp only [lm] at *; omega)) (fun j x hj hx => ?_) | refine VC.mk (by first | omega | (simp only [lm]; omega)) ?_ | refine VC.mk ⟨rfl, by omega, by (simp only [lm]; unfold lim; omega)⟩ ?_ | intro _)) <;> (try (conv => whnf))
  · refine ⟨(k + 1), ?_, rfl, ?_, ?_⟩
    rotate_left
    · (repeat' ((conv => whnf) <;> (first | exact trivial | exact rfl | with_reducible refine And.intro ?_ ?_))) <;> ((conv => whnf) <;> (exact filled_set hx rfl))
    · (try dsimp only); (try simp only [List.length_map]); omega
    exact (by omega : k + 1 ≤ l.length)
  · refine ⟨?_, rfl, trivial⟩
    dsimp only
    rw [filled_end (by omega)]

theorem laws_otoIntSS (l : List (List Int)) : Con 96 [.old (.sl (l.map ints))] (.d (.sl (l.map ints))) := by
  refine con Tryz.func96 rfl rfl Tryz.call96 rfl fun hwf => ?_
  simp only [ARs.wf, AR.wf, AV.wf, AV.wfs, List.length_map, lim] at hwf
  (repeat' ((conv => whnf); first | (with_reducible first | refine Br.ff ?_ | refine Br.tt ?_ | refine Br.not ?_ | refine Br.yes (by assumption) ?_ | refine Br.no (by assumption) ?_ | (refine Br.dec (fun h => ?_) (fun h => ?_) <;> try simp only [lm] at h)) | ((with_reducible refine Br.mk (fun h => ?_) (fun h => ?_)) <;> (try simp only [lm] at h) <;> (first | have hw := within_iff.1 h | have hw := within_no.1 h | skip)) | with_reducible refine Arith.ok (by first | omega | (simp only [lm]; omega)) ?_ | with_reducible refine Idx.at (by first | omega | (simp only [lm] at *; omega)) (fun x hx => ?_) | with_reducible refine Idx.of_map (by first | omega | (simp only [lm] at *; omega)) (fun j x hj hx => ?_) | refine VC.mk (by first | omega | (simp only [lm]; omega)) ?_ | refine VC.mk ⟨rfl, by omega, by (simp only [lm]; unfold lim; omega)⟩ ?_ | intro _)) <;> (try (conv => whnf))
  refine loopF [0, 3] [] [7] ?_
  (conv => whnf)
  refine LoopC.mk ((Nat)) (fun k => (k ≤ l.length)) (fun k => [(4, .data (i64 k))]) (fun _ => []) (fun k => [(7, 25, filled ints (.sl []) l k)]) (fun k => l.length - k) (0) ?_ ?_ ?_
  rotate_left
  · (repeat' ((conv => whnf) <;> (first | exact trivial | exact rfl | with_reducible refine And.intro ?_ ?_)))
  rotate_left
  · exact Nat.zero_le _
  rintro k hk
  (repeat' ((conv => whnf); first | with_reducible refine Idx.mk k (.sl []) rfl (filled_get (by omega)) ?_ | (with_reducible first | refine Br.ff ?_ | refine Br.tt ?_ | refine Br.not ?_ | refine Br.yes (by assumption) ?_ | refine Br.no (by assumption) ?_ | (refine Br.dec (fun h => ?_) (fun h => ?_) <;> try simp only [lm] at h)) | ((with_reducible refine Br.mk (fun h => ?_) (fun h => ?_)) <;> (try simp only [lm] at h) <;> (first | have hw := within_iff.1 h | have hw := within_no.1 h | skip)) | with_reducible refine Arith.ok (by first | omega | (simp only [lm]; omega)) ?_ | with_reducible refine Idx.at (by first | omega | (simp only [lm] at *; omega)) (fun x hx => ?_) | with_reducible refine Idx.of_map (by first | omega | (simp only [lm] at *; omega)) (fun j x hj hx => ?_) | refine VC.mk (by first | omega | (simp only [lm]; omega)) ?_ | refine VC.mk ⟨rfl, by omega, by (simp only [lm]; unfold lim; omega)⟩ ?_ | refine CallK.mk _ (laws_otoIntS x) (fun _ => ?_) | refine CallD.mk _ (fun _ hk => CallK.mk _ (laws_otoIntS x) (fun _ => hk)) ?_ | intro _)) <;> (try (conv => whnf))
  · refine ⟨(k + 1), ?_, rfl, ?_, ?_⟩
    rotate_left
    · (repeat' ((conv => whnf) <;> (first | exact trivial | exact rfl | with_reducible refine And.intro ?_ ?_))) <;> ((conv => whnf) <;> (exact filled_set hx rfl))
    · (try dsimp only); (try simp only [List.length_map]); omega
    exact (by omega : k + 1 ≤ l.length)
  · refine ⟨?_, rfl, trivial⟩
    dsimp only
    rw [filled_end (by omega)]

theorem laws_otoStep (x : Step) : Con 376 [.old x.av] (.d x.av) := by
  refine con Tryz.func376 rfl rfl Tryz.call376 rfl fun hwf => ?_
  (repeat' ((conv => whnf); first | (with_reducible first | refine Br.ff ?_ | refine Br.tt ?_ | refine Br.not ?_ | refine Br.yes (by assumption) ?_ | refine Br.no (by assumption) ?_ | (refine Br.dec (fun h => ?_) (fun h => ?_) <;> try simp only [lm] at h)) | ((with_reducible refine Br.mk (fun h => ?_) (fun h => ?_)) <;> (try simp only [lm] at h) <;> (first | have hw := within_iff.1 h | have hw := within_no.1 h | skip)) | intro _)) <;> (try (conv => whnf))
  exact ⟨rfl, rfl, trivial⟩

theorem laws_dtoStep (x : Step) : Con 376 [.d x.av] (.d x.av) := by
  refine con Tryz.func376 rfl rfl Tryz.call376 rfl fun hwf => ?_
  (repeat' ((conv => whnf); first | (with_reducible first | refine Br.ff ?_ | refine Br.tt ?_ | refine Br.not ?_ | refine Br.yes (by assumption) ?_ | refine Br.no (by assumption) ?_ | (refine Br.dec (fun h => ?_) (fun h => ?_) <;> try simp only [lm] at h)) | ((with_reducible refine Br.mk (fun h => ?_) (fun h => ?_)) <;> (try simp only [lm] at h) <;> (first | have hw := within_iff.1 h | have hw := within_no.1 h | skip)) | intro _)) <;> (try (conv => whnf))
  exact ⟨rfl, rfl, trivial⟩

theorem laws_otoStepS (l : List Step) : Con 290 [.old (.sl (l.map Step.av))] (.d (.sl (l.map Step.av))) := by
  refine con Tryz.func290 rfl rfl Tryz.call290 rfl fun hwf => ?_
  simp only [ARs.wf, AR.wf, AV.wf, AV.wfs, List.length_map, lim] at hwf
  (repeat' ((conv => whnf); first | (with_reducible first | refine Br.ff ?_ | refine Br.tt ?_ | refine Br.not ?_ | refine Br.yes (by assumption) ?_ | refine Br.no (by assumption) ?_ | (refine Br.dec (fun h => ?_) (fun h => ?_) <;> try simp only [lm] at h)) | ((with_reducible refine Br.mk (fun h => ?_) (fun h => ?_)) <;> (try simp only [lm] at h) <;> (first | have hw := within_iff.1 h | have hw := within_no.1 h | skip)) | with_reducible refine Arith.ok (by first | omega | (simp only [lm]; omega)) ?_ | with_reducible refine Idx.at (by first | omega | (simp only [lm] at *; omega)) (fun x hx => ?_) | with_reducible refine Idx.of_map (by first | omega | (simp only [lm] at *; omega)) (fun j x hj hx => ?_) | refine VC.mk (by first | omega | (simp only [lm]; omega)) ?_ | refine VC.mk ⟨rfl, by omega, by (simp only [lm]; unfold lim; omega)⟩ ?_ | intro _)) <;> (try (conv => whnf))
  refine loopF [0, 3] [] [7] ?_
  (conv => whnf)
  refine LoopC.mk ((Nat)) (fun k => (k ≤ l.length)) (fun k => [(4, .data (i64 k))]) (fun _ => []) (fun k => [(7, 231, filled Step.av (.agg [i64 0, i64 0]) l k)]) (fun k => l.length - k) (0) ?_ ?_ ?_
  rotate_left
  · (repeat' ((conv => whnf) <;> (first | exact trivial | exact rfl | with_reducible refine And.intro ?_ ?_)))
  rotate_left
  · exact Nat.zero_le _
  rintro k hk
  (repeat' ((conv => whnf); first | with_reducible refine Idx.mk k (.agg [i64 0, i64 0]) rfl (filled_get (by omega)) ?_ | (with_reducible first | refine Br.ff ?_ | refine Br.tt ?_ | refine Br.not ?_ | refine Br.yes (by assumption) ?_ | refine Br.no (by assumption) ?_ | (refine Br.dec (fun h => ?_) (fun h => ?_) <;> try simp only [lm] at h)) | ((with_reducible refine Br.mk (fun h => ?_) (fun h => ?_)) <;> (try simp only [lm] at h) <;> (first | have hw := within_iff.1 h | have hw := within_no.1 h | skip)) | with_reducible refine Arith.ok (by first | omega | (simp only [lm]; omega)) ?_ | with_reducible refine Idx.at (by first | omega | (simp only [lm] at *; omega)) (fun x hx => ?_) | with_reducible refine Idx.of_map (by first | omega | (simp only [lm] at *; omega)) (fun j x hj hx => ?_) | refine VC.mk (by first | omega | (simp only [lm]; omega)) ?_ | refine VC.mk ⟨rfl, by omega, by (simp only [lm]; unfold lim; omega)⟩ ?_ | refine CallK.mk _ (laws_otoStep x) (fun _ => ?_) | refine CallD.mk _ (fun _ hk => CallK.mk _ (laws_otoStep x) (fun _ => hk)) ?_ | intro _)) <;> (try (conv => whnf))
  · refine ⟨(k + 1), ?_, rfl, ?_, ?_⟩
    rotate_left
    · (repeat' ((conv => whnf) <;> (first | exact trivial | exact rfl | with_reducible refine And.intro ?_ ?_))) <;> ((conv => whnf) <;> (exact filled_set hx rfl))
    · (try dsimp only); (try simp only [List.length_map]); omega
    exact (by omega : k + 1 ≤ l.length)
  · refine ⟨?_, rfl, trivial⟩
    dsimp only
    rw [filled_end (by omega)]

theorem laws_otoMode (x : Mode) : Con 375 [.old x.av] (.d x.av) := by
  refine con Tryz.func375 rfl rfl Tryz.call375 rfl fun hwf => ?_
  (repeat' ((conv => whnf); first | (with_reducible first | refine Br.ff ?_ | refine Br.tt ?_ | refine Br.not ?_ | refine Br.yes (by assumption) ?_ | refine Br.no (by assumption) ?_ | (refine Br.dec (fun h => ?_) (fun h => ?_) <;> try simp only [lm] at h)) | ((with_reducible refine Br.mk (fun h => ?_) (fun h => ?_)) <;> (try simp only [lm] at h) <;> (first | have hw := within_iff.1 h | have hw := within_no.1 h | skip)) | refine CallK.mk _ (laws_otoIntS x.use) (fun _ => ?_) | refine CallD.mk _ (fun _ hk => CallK.mk _ (laws_otoIntS x.use) (fun _ => hk)) ?_ | refine CallK.mk _ (laws_otoIntS x.con) (fun _ => ?_) | refine CallD.mk _ (fun _ hk => CallK.mk _ (laws_otoIntS x.con) (fun _ => hk)) ?_ | intro _)) <;> (try (conv => whnf))
  exact ⟨rfl, rfl, trivial⟩

theorem laws_otoModeS (l : List Mode) : Con 289 [.old (.sl (l.map Mode.av))] (.d (.sl (l.map Mode.av))) := by
  refine con Tryz.func289 rfl rfl Tryz.call289 rfl fun hwf => ?_
  simp only [ARs.wf, AR.wf, AV.wf, AV.wfs, List.length_map, lim] at hwf
  (repeat' ((conv => whnf); first | (with_reducible first | refine Br.ff ?_ | refine Br.tt ?_ | refine Br.not ?_ | refine Br.yes (by assumption) ?_ | refine Br.no (by assumption) ?_ | (refine Br.dec (fun h => ?_) (fun h => ?_) <;> try simp only [lm] at h)) | ((with_reducible refine Br.mk (fun h => ?_) (fun h => ?_)) <;> (try simp only [lm] at h) <;> (first | have hw := within_iff.1 h | have hw := within_no.1 h | skip)) | with_reducible refine Arith.ok (by first | omega | (simp only [lm]; omega)) ?_ | with_reducible refine Idx.at (by first | omega | (simp only [lm] at *; omega)) (fun x hx => ?_) | with_reducible refine Idx.of_map (by first | omega | (simp only [lm] at *; omega)) (fun j x hj hx => ?_) | refine VC.mk (by first | omega | (simp only [lm]; omega)) ?_ | refine VC.mk ⟨rfl, by omega, by (simp only [lm]; unfold lim; omega)⟩ ?_ | intro _)) <;> (try (conv => whnf))
  refine loopF [0, 3] [] [7] ?_
  (conv => whnf)
  refine LoopC.mk ((Nat)) (fun k => (k ≤ l.length)) (fun k => [(4, .data (i64 k))]) (fun _ => []) (fun k => [(7, 243, filled Mode.av (.agg [i64 0, .sl [], .sl []]) l k)]) (fun k => l.length - k) (0) ?_ ?_ ?_
  rotate_left
  · (repeat' ((conv => whnf) <;> (first | exact trivial | exact rfl | with_reducible refine And.intro ?_ ?_)))
  rotate_left
  · exact Nat.zero_le _
  rintro k hk
  (repeat' ((conv => whnf); first | with_reducible refine Idx.mk k (.agg [i64 0, .sl [], .sl []]) rfl (filled_get (by omega)) ?_ | (with_reducible first | refine Br.ff ?_ | refine Br.tt ?_ | refine Br.not ?_ | refine Br.yes (by assumption) ?_ | refine Br.no (by assumption) ?_ | (refine Br.dec (fun h => ?_) (fun h => ?_) <;> try simp only [lm] at h)) | ((with_reducible refine Br.mk (fun h => ?_) (fun h => ?_)) <;> (try simp only [lm] at h) <;> (first | have hw := within_iff.1 h | have hw := within_no.1 h | skip)) | with_reducible refine Arith.ok (by first | omega | (simp only [lm]; omega)) ?_ | with_reducible refine Idx.at (by first | omega | (simp only [lm] at *; omega)) (fun x hx => ?_) | with_reducible refine Idx.of_map (by first | omega | (simp only [lm] at *; omega)) (fun j x hj hx => ?_) | refine VC.mk (by first | omega | (simp only [lm]; omega)) ?_ | refine VC.mk ⟨rfl, by omega, by (simp only [lm]; unfold lim; omega)⟩ ?_ | refine CallK.mk _ (laws_otoMode x) (fun _ => ?_) | refine CallD.mk _ (fun _ hk => CallK.mk _ (laws_otoMode x) (fun _ => hk)) ?_ | intro _)) <;> (try (conv => whnf))
  · refine ⟨(k + 1), ?_, rfl, ?_, ?_⟩
    rotate_left
    · (repeat' ((conv => whnf) <;> (first | exact trivial | exact rfl | with_reducible refine And.intro ?_ ?_))) <;> ((conv => whnf) <;> (exact filled_set hx rfl))
    · (try dsimp only); (try simp only [List.length_map]); omega
    exact (by omega : k + 1 ≤ l.length)
  · refine ⟨?_, rfl, trivial⟩
    dsimp only
    rw [filled_end (by omega)]

theorem laws_otoActivity (x : Activ) : Con 177 [.old x.av] (.d x.av) := by
  refine con Tryz.func177 rfl rfl Tryz.call177 rfl fun hwf => ?_
  (repeat' ((conv => whnf); first | (with_reducible first | refine Br.ff ?_ | refine Br.tt ?_ | refine Br.not ?_ | refine Br.yes (by assumption) ?_ | refine Br.no (by assumption) ?_ | (refine Br.dec (fun h => ?_) (fun h => ?_) <;> try simp only [lm] at h)) | ((with_reducible refine Br.mk (fun h => ?_) (fun h => ?_)) <;> (try simp only [lm] at h) <;> (first | have hw := within_iff.1 h | have hw := within_no.1 h | skip)) | refine CallK.mk _ (laws_otoModeS x.modes) (fun _ => ?_) | refine CallD.mk _ (fun _ hk => CallK.mk _ (laws_otoModeS x.modes) (fun _ => hk)) ?_ | intro _)) <;> (try (conv => whnf))
  exact ⟨rfl, rfl, trivial⟩

theorem laws_otoActivityS (l : List Activ) : Con 77 [.old (.sl (l.map Activ.av))] (.d (.sl (l.map Activ.av))) := by
  refine con Tryz.func77 rfl rfl Tryz.call77 rfl fun hwf => ?_
  simp only [ARs.wf, AR.wf, AV.wf, AV.wfs, List.length_map, lim] at hwf
  (repeat' ((conv => whnf); first | (with_reducible first | refine Br.ff ?_ | refine Br.tt ?_ | refine Br.not ?_ | refine Br.yes (by assumption) ?_ | refine Br.no (by assumption) ?_ | (refine Br.dec (fun h => ?_) (fun h => ?_) <;> try simp only [lm] at h)) | ((with_reducible refine Br.mk (fun h => ?_) (fun h => ?_)) <;> (try simp only [lm] at h) <;> (first | have hw := within_iff.1 h | have hw := within_no.1 h | skip)) | with_reducible refine Arith.ok (by first | omega | (simp only [lm]; omega)) ?_ | with_reducible refine Idx.at (by first | omega | (simp only [lm] at *; omega)) (fun x hx => ?_) | with_reducible refine Idx.of_map (by first | omega | (simp only [lm] at *; omega)) (fun j x hj hx => ?_) | refine VC.mk (by first | omega | (simp only [lm]; omega)) ?_ | refine VC.mk ⟨rfl, by omega, by (simp only [lm]; unfold lim; omega)⟩ ?_ | intro _)) <;> (try (conv => whnf))
  refine loopF [0, 3] [] [7] ?_
  (conv => whnf)
  refine LoopC.mk ((Nat)) (fun k => (k ≤ l.length)) (fun k => [(4, .data (i64 k))]) (fun _ => []) (fun k => [(7, 199, filled Activ.av (.agg [.str ⟨#[]⟩, i64 0, .sl []]) l k)]) (fun k => l.length - k) (0) ?_ ?_ ?_
  rotate_left
  · (repeat' ((conv => whnf) <;> (first | exact trivial | exact rfl | with_reducible refine And.intro ?_ ?_)))
  rotate_left
  · exact Nat.zero_le _
  rintro k hk
  (repeat' ((conv => whnf); first | with_reducible refine Idx.mk k (.agg [.str ⟨#[]⟩, i64 0, .sl []]) rfl (filled_get (by omega)) ?_ | (with_reducible first | refine Br.ff ?_ | refine Br.tt ?_ | refine Br.not ?_ | refine Br.yes (by assumption) ?_ | refine Br.no (by assumption) ?_ | (refine Br.dec (fun h => ?_) (fun h => ?_) <;> try simp only [lm] at h)) | ((with_reducible refine Br.mk (fun h => ?_) (fun h => ?_)) <;> (try simp only [lm] at h) <;> (first | have hw := within_iff.1 h | have hw := within_no.1 h | skip)) | with_reducible refine Arith.ok (by first | omega | (simp only [lm]; omega)) ?_ | with_reducible refine Idx.at (by first | omega | (simp only [lm] at *; omega)) (fun x hx => ?_) | with_reducible refine Idx.of_map (by first | omega | (simp only [lm] at *; omega)) (fun j x hj hx => ?_) | refine VC.mk (by first | omega | (simp only [lm]; omega)) ?_ | refine VC.mk ⟨rfl, by omega, by (simp only [lm]; unfold lim; omega)⟩ ?_ | refine CallK.mk _ (laws_otoActivity x) (fun _ => ?_) | refine CallD.mk _ (fun _ hk => CallK.mk _ (laws_otoActivity x) (fun _ => hk)) ?_ | intro _)) <;> (try (conv => whnf))
  · refine ⟨(k + 1), ?_, rfl, ?_, ?_⟩
    rotate_left
    · (repeat' ((conv => whnf) <;> (first | exact trivial | exact rfl | with_reducible refine And.intro ?_ ?_))) <;> ((conv => whnf) <;> (exact filled_set hx rfl))
    · (try dsimp only); (try simp only [List.length_map]); omega
    exact (by omega : k + 1 ≤ l.length)
  · refine ⟨?_, rfl, trivial⟩
    dsimp only
    rw [filled_end (by omega)]

theorem laws_otoLink (x : Link) : Con 178 [.old x.av] (.d x.av) := by
  refine con Tryz.func178 rfl rfl Tryz.call178 rfl fun hwf => ?_
  (repeat' ((conv => whnf); first | (with_reducible first | refine Br.ff ?_ | refine Br.tt ?_ | refine Br.not ?_ | refine Br.yes (by assumption) ?_ | refine Br.no (by assumption) ?_ | (refine Br.dec (fun h => ?_) (fun h => ?_) <;> try simp only [lm] at h)) | ((with_reducible refine Br.mk (fun h => ?_) (fun h => ?_)) <;> (try simp only [lm] at h) <;> (first | have hw := within_iff.1 h | have hw := within_no.1 h | skip)) | intro _)) <;> (try (conv => whnf))
  exact ⟨rfl, rfl, trivial⟩

theorem laws_dtoLink (x : Link) : Con 178 [.d x.av] (.d x.av) := by
  refine con Tryz.func178 rfl rfl Tryz.call178 rfl fun hwf => ?_
  (repeat' ((conv => whnf); first | (with_reducible first | refine Br.ff ?_ | refine Br.tt ?_ | refine Br.not ?_ | refine Br.yes (by assumption) ?_ | refine Br.no (by assumption) ?_ | (refine Br.dec (fun h => ?_) (fun h => ?_) <;> try simp only [lm] at h)) | ((with_reducible refine Br.mk (fun h => ?_) (fun h => ?_)) <;> (try simp only [lm] at h) <;> (first | have hw := within_iff.1 h | have hw := within_no.1 h | skip)) | intro _)) <;> (try (conv => whnf))
  exact ⟨rfl, rfl, trivial⟩

theorem laws_otoLinkS (l : List Link) : Con 78 [.old (.sl (l.map Link.av))] (.d (.sl (l.map Link.av))) := by
  refine con Tryz.func78 rfl rfl Tryz.call78 rfl fun hwf => ?_
  simp only [ARs.wf, AR.wf, AV.wf, AV.wfs, List.length_map, lim] at hwf
  (repeat' ((conv => whnf); first | (with_reducible first | refine Br.ff ?_ | refine Br.tt ?_ | refine Br.not ?_ | refine Br.yes (by assumption) ?_ | refine Br.no (by assumption) ?_ | (refine Br.dec (fun h => ?_) (fun h => ?_) <;> try simp only [lm] at h)) | ((with_reducible refine Br.mk (fun h => ?_) (fun h => ?_)) <;> (try simp only [lm] at h) <;> (first | have hw := within_iff.1 h | have hw := within_no.1 h | skip)) | with_reducible refine Arith.ok (by first | omega | (simp only [lm]; omega)) ?_ | with_reducible refine Idx.at (by first | omega | (simp only [lm] at *; omega)) (fun x hx => ?_) | with_reducible refine Idx.of_map (by first | omega | (simp only [lm] at *; omega)) (fun j x hj hx => ?_) | refine VC.mk (by first | omega | (simp only [lm]; omega)) ?_ | refine VC.mk ⟨rfl, by omega, by (simp only [lm]; unfold lim; omega)⟩ ?_ | intro _)) <;> (try (conv => whnf))
  refine loopF [0, 3] [] [7] ?_
  (conv => whnf)
  refine LoopC.mk ((Nat)) (fun k => (k ≤ l.length)) (fun k => [(4, .data (i64 k))]) (fun _ => []) (fun k => [(7, 202, filled Link.av (.agg [i64 0, i64 0, .bool false, i64 0]) l k)]) (fun k => l.length - k) (0) ?_ ?_ ?_
  rotate_left
  · (repeat' ((conv => whnf) <;> (first | exact trivial | exact rfl | with_reducible refine And.intro ?_ ?_)))
  rotate_left
  · exact Nat.zero_le _
  rintro k hk
  (repeat' ((conv => whnf); first | with_reducible refine Idx.mk k (.agg [i64 0, i64 0, .bool false, i64 0]) rfl (filled_get (by omega)) ?_ | (with_reducible first | refine Br.ff ?_ | refine Br.tt ?_ | refine Br.not ?_ | refine Br.yes (by assumption) ?_ | refine Br.no (by assumption) ?_ | (refine Br.dec (fun h => ?_) (fun h => ?_) <;> try simp only [lm] at h)) | ((with_reducible refine Br.mk (fun h => ?_) (fun h => ?_)) <;> (try simp only [lm] at h) <;> (first | have hw := within_iff.1 h | have hw := within_no.1 h | skip)) | with_reducible refine Arith.ok (by first | omega | (simp only [lm]; omega)) ?_ | with_reducible refine Idx.at (by first | omega | (simp only [lm] at *; omega)) (fun x hx => ?_) | with_reducible refine Idx.of_map (by first | omega | (simp only [lm] at *; omega)) (fun j x hj hx => ?_) | refine VC.mk (by first | omega | (simp only [lm]; omega)) ?_ | refine VC.mk ⟨rfl, by omega, by (simp only [lm]; unfold lim; omega)⟩ ?_ | refine CallK.mk _ (laws_otoLink x) (fun _ => ?_) | refine CallD.mk _ (fun _ hk => CallK.mk _ (laws_otoLink x) (fun _ => hk)) ?_ | intro _)) <;> (try (conv => whnf))
  · refine ⟨(k + 1), ?_, rfl, ?_, ?_⟩
    rotate_left
    · (repeat' ((conv => whnf) <;> (first | exact trivial | exact rfl | with_reducible refine And.intro ?_ ?_))) <;> ((conv => whnf) <;> (exact filled_set hx rfl))
    · (try dsimp only); (try simp only [List.length_map]); omega
    exact (by omega : k + 1 ≤ l.length)
  · refine ⟨?_, rfl, trivial⟩
    dsimp only
    rw [filled_end (by omega)]

theorem laws_otoResource (x : Resrc) : Con 179 [.old x.av] (.d x.av) := by
  refine con Tryz.func179 rfl rfl Tryz.call179 rfl fun hwf => ?_
  (repeat' ((conv => whnf); first | (with_reducible first | refine Br.ff ?_ | refine Br.tt ?_ | refine Br.not ?_ | refine Br.yes (by assumption) ?_ | refine Br.no (by assumption) ?_ | (refine Br.dec (fun h => ?_) (fun h => ?_) <;> try simp only [lm] at h)) | ((with_reducible refine Br.mk (fun h => ?_) (fun h => ?_)) <;> (try simp only [lm] at h) <;> (first | have hw := within_iff.1 h | have hw := within_no.1 h | skip)) | refine CallK.mk _ (laws_otoStepS x.steps) (fun _ => ?_) | refine CallD.mk _ (fun _ hk => CallK.mk _ (laws_otoStepS x.steps) (fun _ => hk)) ?_ | refine CallK.mk _ (laws_otoIntSS x.setup) (fun _ => ?_) | refine CallD.mk _ (fun _ hk => CallK.mk _ (laws_otoIntSS x.setup) (fun _ => hk)) ?_ | intro _)) <;> (try (conv => whnf))
  exact ⟨rfl, rfl, trivial⟩

theorem laws_otoResourceS (l : List Resrc) : Con 79 [.old (.sl (l.map Resrc.av))] (.d (.sl (l.map Resrc.av))) := by
  refine con Tryz.func79 rfl rfl Tryz.call79 rfl fun hwf => ?_
  simp only [ARs.wf, AR.wf, AV.wf, AV.wfs, List.length_map, lim] at hwf
  (repeat' ((conv => whnf); first | (with_reducible first | refine Br.ff ?_ | refine Br.tt ?_ | refine Br.not ?_ | refine Br.yes (by assumption) ?_ | refine Br.no (by assumption) ?_ | (refine Br.dec (fun h => ?_) (fun h => ?_) <;> try simp only [lm] at h)) | ((with_reducible refine Br.mk (fun h => ?_) (fun h => ?_)) <;> (try simp only [lm] at h) <;> (first | have hw := within_iff.1 h | have hw := within_no.1 h | skip)) | with_reducible refine Arith.ok (by first | omega | (simp only [lm]; omega)) ?_ | with_reducible refine Idx.at (by first | omega | (simp only [lm] at *; omega)) (fun x hx => ?_) | with_reducible refine Idx.of_map (by first | omega | (simp only [lm] at *; omega)) (fun j x hj hx => ?_) | refine VC.mk (by first | omega | (simp only [lm]; omega)) ?_ | refine VC.mk ⟨rfl, by omega, by (simp only [lm]; unfold lim; omega)⟩ ?_ | intro _)) <;> (try (conv => whnf))
  refine loopF [0, 3] [] [7] ?_
  (conv => whnf)
  refine LoopC.mk ((Nat)) (fun k => (k ≤ l.length)) (fun k => [(4, .data (i64 k))]) (fun _ => []) (fun k => [(7, 207, filled Resrc.av (.agg [.sl [], .sl []]) l k)]) (fun k => l.length - k) (0) ?_ ?_ ?_
  rotate_left
  · (repeat' ((conv => whnf) <;> (first | exact trivial | exact rfl | with_reducible refine And.intro ?_ ?_)))
  rotate_left
  · exact Nat.zero_le _
  rintro k hk
  (repeat' ((conv => whnf); first | with_reducible refine Idx.mk k (.agg [.sl [], .sl []]) rfl (filled_get (by omega)) ?_ | (with_reducible first | refine Br.ff ?_ | refine Br.tt ?_ | refine Br.not ?_ | refine Br.yes (by assumption) ?_ | refine Br.no (by assumption) ?_ | (refine Br.dec (fun h => ?_) (fun h => ?_) <;> try simp only [lm] at h)) | ((with_reducible refine Br.mk (fun h => ?_) (fun h => ?_)) <;> (try simp only [lm] at h) <;> (first | have hw := within_iff.1 h | have hw := within_no.1 h | skip)) | with_reducible refine Arith.ok (by first | omega | (simp only [lm]; omega)) ?_ | with_reducible refine Idx.at (by first | omega | (simp only [lm] at *; omega)) (fun x hx => ?_) | with_reducible refine Idx.of_map (by first | omega | (simp only [lm] at *; omega)) (fun j x hj hx => ?_) | refine VC.mk (by first | omega | (simp only [lm]; omega)) ?_ | refine VC.mk ⟨rfl, by omega, by (simp only [lm]; unfold lim; omega)⟩ ?_ | refine CallK.mk _ (laws_otoResource x) (fun _ => ?_) | refine CallD.mk _ (fun _ hk => CallK.mk _ (laws_otoResource x) (fun _ => hk)) ?_ | intro _)) <;> (try (conv => whnf))
  · refine ⟨(k + 1), ?_, rfl, ?_, ?_⟩
    rotate_left
    · (repeat' ((conv => whnf) <;> (first | exact trivial | exact rfl | with_reducible refine And.intro ?_ ?_))) <;> ((conv => whnf) <;> (exact filled_set hx rfl))
    · (try dsimp only); (try simp only [List.length_map]); omega
    exact (by omega : k + 1 ≤ l.length)
  · refine ⟨?_, rfl, trivial⟩
    dsimp only
    rw [filled_end (by omega)]

theorem laws_otoProject (x : Proj) : Con 18 [.old x.av] (.d x.av) := by
  refine con Tryz.func18 rfl rfl Tryz.call18 rfl fun hwf => ?_
  (repeat' ((conv => whnf); first | (with_reducible first | refine Br.ff ?_ | refine Br.tt ?_ | refine Br.not ?_ | refine Br.yes (by assumption) ?_ | refine Br.no (by assumption) ?_ | (refine Br.dec (fun h => ?_) (fun h => ?_) <;> try simp only [lm] at h)) | ((with_reducible refine Br.mk (fun h => ?_) (fun h => ?_)) <;> (try simp only [lm] at h) <;> (first | have hw := within_iff.1 h | have hw := within_no.1 h | skip)) | refine CallK.mk _ (laws_otoActivityS x.acts) (fun _ => ?_) | refine CallD.mk _ (fun _ hk => CallK.mk _ (laws_otoActivityS x.acts) (fun _ => hk)) ?_ | refine CallK.mk _ (laws_otoLinkS x.links) (fun _ => ?_) | refine CallD.mk _ (fun _ hk => CallK.mk _ (laws_otoLinkS x.links) (fun _ => hk)) ?_ | refine CallK.mk _ (laws_otoResourceS x.ress) (fun _ => ?_) | refine CallD.mk _ (fun _ hk => CallK.mk _ (laws_otoResourceS x.ress) (fun _ => hk)) ?_ | refine CallK.mk _ (laws_otoIntS x.stocks) (fun _ => ?_) | refine CallD.mk _ (fun _ hk => CallK.mk _ (laws_otoIntS x.stocks) (fun _ => hk)) ?_ | intro _)) <;> (try (conv => whnf))
  exact ⟨rfl, rfl, trivial⟩

theorem laws_otoSchedule (x : Sched) : Con 62 [.old x.av] (.d x.av) := by
  refine con Tryz.func62 rfl rfl Tryz.call62 rfl fun hwf => ?_
  (repeat' ((conv => whnf); first | (with_reducible first | refine Br.ff ?_ | refine Br.tt ?_ | refine Br.not ?_ | refine Br.yes (by assumption) ?_ | refine Br.no (by assumption) ?_ | (refine Br.dec (fun h => ?_) (fun h => ?_) <;> try simp only [lm] at h)) | ((with_reducible refine Br.mk (fun h => ?_) (fun h => ?_)) <;> (try simp only [lm] at h) <;> (first | have hw := within_iff.1 h | have hw := within_no.1 h | skip)) | refine CallK.mk _ (laws_otoIntS x.starts) (fun _ => ?_) | refine CallD.mk _ (fun _ hk => CallK.mk _ (laws_otoIntS x.starts) (fun _ => hk)) ?_ | refine CallK.mk _ (laws_otoIntS x.modes) (fun _ => ?_) | refine CallD.mk _ (fun _ hk => CallK.mk _ (laws_otoIntS x.modes) (fun _ => hk)) ?_ | intro _)) <;> (try (conv => whnf))
  exact ⟨rfl, rfl, trivial⟩

theorem laws_otoRule (x : Rul) : Con 19 [.old x.av] (.d x.av) := by
  refine con Tryz.func19 rfl rfl Tryz.call19 rfl fun hwf => ?_
  (repeat' ((conv => whnf); first | (with_reducible first | refine Br.ff ?_ | refine Br.tt ?_ | refine Br.not ?_ | refine Br.yes (by assumption) ?_ | refine Br.no (by assumption) ?_ | (refine Br.dec (fun h => ?_) (fun h => ?_) <;> try simp only [lm] at h)) | ((with_reducible refine Br.mk (fun h => ?_) (fun h => ?_)) <;> (try simp only [lm] at h) <;> (first | have hw := within_iff.1 h | have hw := within_no.1 h | skip)) | intro _)) <;> (try (conv => whnf))
  exact ⟨rfl, rfl, trivial⟩

theorem laws_dtoRule (x : Rul) : Con 19 [.d x.av] (.d x.av) := by
  refine con Tryz.func19 rfl rfl Tryz.call19 rfl fun hwf => ?_
  (repeat' ((conv => whnf); first | (with_reducible first | refine Br.ff ?_ | refine Br.tt ?_ | refine Br.not ?_ | refine Br.yes (by assumption) ?_ | refine Br.no (by assumption) ?_ | (refine Br.dec (fun h => ?_) (fun h => ?_) <;> try simp only [lm] at h)) | ((with_reducible refine Br.mk (fun h => ?_) (fun h => ?_)) <;> (try simp only [lm] at h) <;> (first | have hw := within_iff.1 h | have hw := within_no.1 h | skip)) | intro _)) <;> (try (conv => whnf))
  exact ⟨rfl, rfl, trivial⟩

theorem laws_otoLiteral (x : Lit) : Con 34 [.old x.av] (.d x.av) := by
  refine con Tryz.func34 rfl rfl Tryz.call34 rfl fun hwf => ?_
  (repeat' ((conv => whnf); first | (with_reducible first | refine Br.ff ?_ | refine Br.tt ?_ | refine Br.not ?_ | refine Br.yes (by assumption) ?_ | refine Br.no (by assumption) ?_ | (refine Br.dec (fun h => ?_) (fun h => ?_) <;> try simp only [lm] at h)) | ((with_reducible refine Br.mk (fun h => ?_) (fun h => ?_)) <;> (try simp only [lm] at h) <;> (first | have hw := within_iff.1 h | have hw := within_no.1 h | skip)) | intro _)) <;> (try (conv => whnf))
  exact ⟨rfl, rfl, trivial⟩

theorem laws_dtoLiteral (x : Lit) : Con 34 [.d x.av] (.d x.av) := by
  refine con Tryz.func34 rfl rfl Tryz.call34 rfl fun hwf => ?_
  (repeat' ((conv => whnf); first | (with_reducible first | refine Br.ff ?_ | refine Br.tt ?_ | refine Br.not ?_ | refine Br.yes (by assumption) ?_ | refine Br.no (by assumption) ?_ | (refine Br.dec (fun h => ?_) (fun h => ?_) <;> try simp only [lm] at h)) | ((with_reducible refine Br.mk (fun h => ?_) (fun h => ?_)) <;> (try simp only [lm] at h) <;> (first | have hw := within_iff.1 h | have hw := within_no.1 h | skip)) | intro _)) <;> (try (conv => whnf))
  exact ⟨rfl, rfl, trivial⟩

theorem laws_otoLiteralS (l : List Lit) : Con 20 [.old (.sl (l.map Lit.av))] (.d (.sl (l.map Lit.av))) := by
  refine con Tryz.func20 rfl rfl Tryz.call20 rfl fun hwf => ?_
  simp only [ARs.wf, AR.wf, AV.wf, AV.wfs, List.length_map, lim] at hwf
  (repeat' ((conv => whnf); first | (with_reducible first | refine Br.ff ?_ | refine Br.tt ?_ | refine Br.not ?_ | refine Br.yes (by assumption) ?_ | refine Br.no (by assumption) ?_ | (refine Br.dec (fun h => ?_) (fun h => ?_) <;> try simp only [lm] at h)) | ((with_reducible refine Br.mk (fun h => ?_) (fun h => ?_)) <;> (try simp only [lm] at h) <;> (first | have hw := within_iff.1 h | have hw := within_no.1 h | skip)) | with_reducible refine Arith.ok (by first | omega | (simp only [lm]; omega)) ?_ | with_reducible refine Idx.at (by first | omega | (simp only [lm] at *; omega)) (fun x hx => ?_) | with_reducible refine Idx.of_map (by first | omega | (simp only [lm] at *; omega)) (fun j x hj hx => ?_) | refine VC.mk (by first | omega | (simp only [lm]; omega)) ?_ | refine VC.mk ⟨rfl, by omega, by (simp only [lm]; unfold lim; omega)⟩ ?_ | intro _)) <;> (try (conv => whnf))
  refine loopF [0, 3] [] [7] ?_
  (conv => whnf)
  refine LoopC.mk ((Nat)) (fun k => (k ≤ l.length)) (fun k => [(4, .data (i64 k))]) (fun _ => []) (fun k => [(7, 63, filled Lit.av (.agg [i64 0, i64 0, i64 0]) l k)]) (fun k => l.length - k) (0) ?_ ?_ ?_
  rotate_left
  · (repeat' ((conv => whnf) <;> (first | exact trivial | exact rfl | with_reducible refine And.intro ?_ ?_)))
  rotate_left
  · exact Nat.zero_le _
  rintro k hk
  (repeat' ((conv => whnf); first | with_reducible refine Idx.mk k (.agg [i64 0, i64 0, i64 0]) rfl (filled_get (by omega)) ?_ | (with_reducible first | refine Br.ff ?_ | refine Br.tt ?_ | refine Br.not ?_ | refine Br.yes (by assumption) ?_ | refine Br.no (by assumption) ?_ | (refine Br.dec (fun h => ?_) (fun h => ?_) <;> try simp only [lm] at h)) | ((with_reducible refine Br.mk (fun h => ?_) (fun h => ?_)) <;> (try simp only [lm] at h) <;> (first | have hw := within_iff.1 h | have hw := within_no.1 h | skip)) | with_reducible refine Arith.ok (by first | omega | (simp only [lm]; omega)) ?_ | with_reducible refine Idx.at (by first | omega | (simp only [lm] at *; omega)) (fun x hx => ?_) | with_reducible refine Idx.of_map (by first | omega | (simp only [lm] at *; omega)) (fun j x hj hx => ?_) | refine VC.mk (by first | omega | (simp only [lm]; omega)) ?_ | refine VC.mk ⟨rfl, by omega, by (simp only [lm]; unfold lim; omega)⟩ ?_ | refine CallK.mk _ (laws_otoLiteral x) (fun _ => ?_) | refine CallD.mk _ (fun _ hk => CallK.mk _ (laws_otoLiteral x) (fun _ => hk)) ?_ | intro _)) <;> (try (conv => whnf))
  · refine ⟨(k + 1), ?_, rfl, ?_, ?_⟩
    rotate_left
    · (repeat' ((conv => whnf) <;> (first | exact trivial | exact rfl | with_reducible refine And.intro ?_ ?_))) <;> ((conv => whnf) <;> (exact filled_set hx rfl))
    · (try dsimp only); (try simp only [List.length_map]); omega
    exact (by omega : k + 1 ≤ l.length)
  · refine ⟨?_, rfl, trivial⟩
    dsimp only
    rw [filled_end (by omega)]

theorem laws_otoDomain (x : Dom) : Con 29 [.old x.av] (.d x.av) := by
  refine con Tryz.func29 rfl rfl Tryz.call29 rfl fun hwf => ?_
  (repeat' ((conv => whnf); first | (with_reducible first | refine Br.ff ?_ | refine Br.tt ?_ | refine Br.not ?_ | refine Br.yes (by assumption) ?_ | refine Br.no (by assumption) ?_ | (refine Br.dec (fun h => ?_) (fun h => ?_) <;> try simp only [lm] at h)) | ((with_reducible refine Br.mk (fun h => ?_) (fun h => ?_)) <;> (try simp only [lm] at h) <;> (first | have hw := within_iff.1 h | have hw := within_no.1 h | skip)) | refine CallK.mk _ (laws_otoIntS x.lo) (fun _ => ?_) | refine CallD.mk _ (fun _ hk => CallK.mk _ (laws_otoIntS x.lo) (fun _ => hk)) ?_ | refine CallK.mk _ (laws_otoIntS x.hi) (fun _ => ?_) | refine CallD.mk _ (fun _ hk => CallK.mk _ (laws_otoIntS x.hi) (fun _ => hk)) ?_ | refine CallK.mk _ (laws_otoIntSS x.modes) (fun _ => ?_) | refine CallD.mk _ (fun _ hk => CallK.mk _ (laws_otoIntSS x.modes) (fun _ => hk)) ?_ | intro _)) <;> (try (conv => whnf))
  exact ⟨rfl, rfl, trivial⟩

theorem laws_otoLine (x : Lin) : Con 125 [.old x.av] (.d x.av) := by
  refine con Tryz.func125 rfl rfl Tryz.call125 rfl fun hwf => ?_
  (repeat' ((conv => whnf); first | (with_reducible first | refine Br.ff ?_ | refine Br.tt ?_ | refine Br.not ?_ | refine Br.yes (by assumption) ?_ | refine Br.no (by assumption) ?_ | (refine Br.dec (fun h => ?_) (fun h => ?_) <;> try simp only [lm] at h)) | ((with_reducible refine Br.mk (fun h => ?_) (fun h => ?_)) <;> (try simp only [lm] at h) <;> (first | have hw := within_iff.1 h | have hw := within_no.1 h | skip)) | refine CallK.mk _ (laws_otoRule x.rule) (fun _ => ?_) | refine CallD.mk _ (fun _ hk => CallK.mk _ (laws_otoRule x.rule) (fun _ => hk)) ?_ | refine CallK.mk _ (laws_dtoRule x.rule) (fun _ => ?_) | refine CallD.mk _ (fun _ hk => CallK.mk _ (laws_dtoRule x.rule) (fun _ => hk)) ?_ | refine CallK.mk _ (laws_otoLiteralS x.clause) (fun _ => ?_) | refine CallD.mk _ (fun _ hk => CallK.mk _ (laws_otoLiteralS x.clause) (fun _ => hk)) ?_ | intro _)) <;> (try (conv => whnf))
  exact ⟨rfl, rfl, trivial⟩

theorem laws_otoLineS (l : List Lin) : Con 45 [.old (.sl (l.map Lin.av))] (.d (.sl (l.map Lin.av))) := by
  refine con Tryz.func45 rfl rfl Tryz.call45 rfl fun hwf => ?_
  simp only [ARs.wf, AR.wf, AV.wf, AV.wfs, List.length_map, lim] at hwf
  (repeat' ((conv => whnf); first | (with_reducible first | refine Br.ff ?_ | refine Br.tt ?_ | refine Br.not ?_ | refine Br.yes (by assumption) ?_ | refine Br.no (by assumption) ?_ | (refine Br.dec (fun h => ?_) (fun h => ?_) <;> try simp only [lm] at h)) | ((with_reducible refine Br.mk (fun h => ?_) (fun h => ?_)) <;> (try simp only [lm] at h) <;> (first | have hw := within_iff.1 h | have hw := within_no.1 h | skip)) | with_reducible refine Arith.ok (by first | omega | (simp only [lm]; omega)) ?_ | with_reducible refine Idx.at (by first | omega | (simp only [lm] at *; omega)) (fun x hx => ?_) | with_reducible refine Idx.of_map (by first | omega | (simp only [lm] at *; omega)) (fun j x hj hx => ?_) | refine VC.mk (by first | omega | (simp only [lm]; omega)) ?_ | refine VC.mk ⟨rfl, by omega, by (simp only [lm]; unfold lim; omega)⟩ ?_ | intro _)) <;> (try (conv => whnf))
  refine loopF [0, 3] [] [7] ?_
  (conv => whnf)
  refine LoopC.mk ((Nat)) (fun k => (k ≤ l.length)) (fun k => [(4, .data (i64 k))]) (fun _ => []) (fun k => [(7, 149, filled Lin.av (.agg [i64 0, i64 0, i64 0, i64 0, i64 0, .sl []]) l k)]) (fun k => l.length - k) (0) ?_ ?_ ?_
  rotate_left
  · (repeat' ((conv => whnf) <;> (first | exact trivial | exact rfl | with_reducible refine And.intro ?_ ?_)))
  rotate_left
  · exact Nat.zero_le _
  rintro k hk
  (repeat' ((conv => whnf); first | with_reducible refine Idx.mk k (.agg [i64 0, i64 0, i64 0, i64 0, i64 0, .sl []]) rfl (filled_get (by omega)) ?_ | (with_reducible first | refine Br.ff ?_ | refine Br.tt ?_ | refine Br.not ?_ | refine Br.yes (by assumption) ?_ | refine Br.no (by assumption) ?_ | (refine Br.dec (fun h => ?_) (fun h => ?_) <;> try simp only [lm] at h)) | ((with_reducible refine Br.mk (fun h => ?_) (fun h => ?_)) <;> (try simp only [lm] at h) <;> (first | have hw := within_iff.1 h | have hw := within_no.1 h | skip)) | with_reducible refine Arith.ok (by first | omega | (simp only [lm]; omega)) ?_ | with_reducible refine Idx.at (by first | omega | (simp only [lm] at *; omega)) (fun x hx => ?_) | with_reducible refine Idx.of_map (by first | omega | (simp only [lm] at *; omega)) (fun j x hj hx => ?_) | refine VC.mk (by first | omega | (simp only [lm]; omega)) ?_ | refine VC.mk ⟨rfl, by omega, by (simp only [lm]; unfold lim; omega)⟩ ?_ | refine CallK.mk _ (laws_otoLine x) (fun _ => ?_) | refine CallD.mk _ (fun _ hk => CallK.mk _ (laws_otoLine x) (fun _ => hk)) ?_ | intro _)) <;> (try (conv => whnf))
  · refine ⟨(k + 1), ?_, rfl, ?_, ?_⟩
    rotate_left
    · (repeat' ((conv => whnf) <;> (first | exact trivial | exact rfl | with_reducible refine And.intro ?_ ?_))) <;> ((conv => whnf) <;> (exact filled_set hx rfl))
    · (try dsimp only); (try simp only [List.length_map]); omega
    exact (by omega : k + 1 ≤ l.length)
  · refine ⟨?_, rfl, trivial⟩
    dsimp only
    rw [filled_end (by omega)]

end Go.Proofs.YtdfindjbjonoaaaGreat.Abs
