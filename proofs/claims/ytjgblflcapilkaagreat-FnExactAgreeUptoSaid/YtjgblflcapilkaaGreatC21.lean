/- Contracts: projects that are copied, deadlines. No statement of a claim. -/
import Derived.Test.YtjgblflcapilkaaGreatC14
import Derived.Test.YtjgblflcapilkaaGreatPlain
set_option linter.all false
set_option linter.unusedVariables false
set_option linter.unusedSimpArgs false
set_option maxRecDepth 20000
set_option maxHeartbeats 4000000
namespace Go.Proofs.YtjgblflcapilkaaGreat.Abs
open Go.Proofs


theorem slices_Clone_step (l : List Step) : Con 107 [.d (.sl (l.map Step.av))] (.own 155 (l.map Step.av)) := by
  refine con Tryz.func107 rfl rfl Tryz.call107 rfl fun hwf => ?_
  simp only [ARs.wf, AR.wf, AV.wf, AV.wfs, List.length_map, lim] at hwf
  (repeat' ((conv => whnf); first | (with_reducible first | refine Br.ff ?_ | refine Br.tt ?_ | refine NilQ.mk (fun h => ?_) ?_ | refine Br.not ?_ | refine Br.yes (by assumption) ?_ | refine Br.no (by assumption) ?_ | (refine Br.dec (fun h => ?_) (fun h => ?_) <;> try simp only [lm] at h)) | ((with_reducible refine Br.mk (fun h => ?_) (fun h => ?_)) <;> (try simp only [lm] at h) <;> (first | have hw := within_iff.1 h | have hw := within_no.1 h | skip)) | refine VC.one (by (try dsimp only); unfold lim; first | omega | (simp only [lens, subList] at *; omega)) rfl ?_ | refine VC.one0 (by decide) rfl ?_ | refine VC.all (by (try dsimp only); unfold lim; first | omega | (simp only [lens, subList] at *; omega)) (fun _ => rfl) ?_ | refine VC.all0 (by (try dsimp only); unfold lim; first | omega | (simp only [lens, subList] at *; omega)) (fun _ => rfl) ?_ | intro _)) <;> (try (conv => whnf))
  · exact ⟨h, rfl, trivial⟩
  · exact ⟨by simp, rfl, trivial⟩
theorem slices_Clone_link (l : List Link) : Con 105 [.d (.sl (l.map Link.av))] (.own 102 (l.map Link.av)) := by
  refine con Tryz.func105 rfl rfl Tryz.call105 rfl fun hwf => ?_
  simp only [ARs.wf, AR.wf, AV.wf, AV.wfs, List.length_map, lim] at hwf
  (repeat' ((conv => whnf); first | (with_reducible first | refine Br.ff ?_ | refine Br.tt ?_ | refine NilQ.mk (fun h => ?_) ?_ | refine Br.not ?_ | refine Br.yes (by assumption) ?_ | refine Br.no (by assumption) ?_ | (refine Br.dec (fun h => ?_) (fun h => ?_) <;> try simp only [lm] at h)) | ((with_reducible refine Br.mk (fun h => ?_) (fun h => ?_)) <;> (try simp only [lm] at h) <;> (first | have hw := within_iff.1 h | have hw := within_no.1 h | skip)) | refine VC.one (by (try dsimp only); unfold lim; first | omega | (simp only [lens, subList] at *; omega)) rfl ?_ | refine VC.one0 (by decide) rfl ?_ | refine VC.all (by (try dsimp only); unfold lim; first | omega | (simp only [lens, subList] at *; omega)) (fun _ => rfl) ?_ | refine VC.all0 (by (try dsimp only); unfold lim; first | omega | (simp only [lens, subList] at *; omega)) (fun _ => rfl) ?_ | intro _)) <;> (try (conv => whnf))
  · exact ⟨h, rfl, trivial⟩
  · exact ⟨by simp, rfl, trivial⟩
theorem take_snoc {α : Type} {l o : List α} {k : Nat} {x : α} (h : l[k]? = some x) (ho : o = l.take k) : o ++ [x] = l.take (k + 1) := by
  rw [ho, List.take_add_one, h]; rfl
theorem take_all {α : Type} {l o : List α} {k : Nat} (h : ¬ k < l.length) (ho : o = l.take k) : o = l := by
  rw [ho, List.take_of_length_le (by omega)]
theorem take_len {α : Type} {l o : List α} {k : Nat} (ho : o = l.take k) : o.length ≤ k := by rw [ho]; simp; omega
theorem impl_copiedProj (p : Proj) : Con 68 [.d p.av] (.d p.av) := by
  refine con Tryz.func68 rfl rfl Tryz.call68 rfl fun hwf => ?_
  simp only [ARs.wf, AR.wf, AV.wf, AV.wfs, List.length_map, lim] at hwf
  (repeat' ((conv => whnf); first | (with_reducible first | refine Br.ff ?_ | refine Br.tt ?_ | refine Br.not ?_ | refine Br.yes (by assumption) ?_ | refine Br.no (by assumption) ?_ | (refine Br.dec (fun h => ?_) (fun h => ?_) <;> try simp only [lm] at h)) | ((with_reducible refine Br.mk (fun h => ?_) (fun h => ?_)) <;> (try simp only [lm] at h) <;> (first | have hw := within_iff.1 h | have hw := within_no.1 h | skip)) | with_reducible refine Arith.ok (by first | omega | (simp only [lm]; omega)) ?_ | with_reducible refine Idx.at (by first | omega | (simp only [lm] at *; omega)) (fun x hx => ?_) | with_reducible refine Idx.of_map (by first | omega | (simp only [lm] at *; omega)) (fun j x hj hx => ?_) | refine VC.one (by (try dsimp only); unfold lim; first | omega | (simp only [lens, subList] at *; omega)) rfl ?_ | refine VC.one0 (by decide) rfl ?_ | refine VC.all (by (try dsimp only); unfold lim; first | omega | (simp only [lens, subList] at *; omega)) (fun _ => rfl) ?_ | refine VC.all0 (by (try dsimp only); unfold lim; first | omega | (simp only [lens, subList] at *; omega)) (fun _ => rfl) ?_ | refine VC.mk (by first | omega | (simp only [lm]; omega)) ?_ | refine CallK.mk _ (slices_Clone_link p.links) (fun _ => ?_) | refine CallD.mk _ (fun _ hk => CallK.mk _ (slices_Clone_link p.links) (fun _ => hk)) ?_ | refine CallK.mk _ (slices_Clone_int p.stocks) (fun _ => ?_) | refine CallD.mk _ (fun _ hk => CallK.mk _ (slices_Clone_int p.stocks) (fun _ => hk)) ?_ | intro _)) <;> (try (conv => whnf))
  refine loopF [1, 2, 3, 24, 25] [1, 2] [61, 19000, 22000] ?_
  (conv => whnf)
  refine LoopC.mk ((Nat) × (List Activ)) (fun ⟨k, o⟩ => (k ≤ p.acts.length) ∧ (o = p.acts.take k)) (fun ⟨k, o⟩ => [(26, .data (i64 k))]) (fun ⟨k, o⟩ => [(3, [.data (i64 p.dead), .own 61 0, .own 19000 0, .nilsl, .own 22000 0])]) (fun ⟨k, o⟩ => [(61, 94, o.map Activ.av), (19000, 102, p.links.map Link.av), (22000, 3, p.stocks.map i64)]) (fun ⟨k, o⟩ => p.acts.length - k) ⟨0, []⟩ ?_ ?_ ?_
  rotate_left
  · (repeat' ((conv => whnf) <;> (first | exact trivial | exact rfl | with_reducible refine And.intro ?_ ?_)))
  rotate_left
  · exact ⟨Nat.zero_le _, rfl⟩
  rintro ⟨k, o⟩ ⟨hk, ho⟩
  by_cases hlt : k < p.acts.length
  · obtain ⟨a, ha⟩ : ∃ a, p.acts[k]? = some a := ⟨p.acts[k]'hlt, by simp⟩
    have hol := take_len ho
    have hwa := wfs_get hwf.1.2.1.2 ha
    simp only [AV.wf, AV.wfs, List.length_map] at hwa
    (repeat' ((conv => whnf); first | with_reducible refine Idx.got ha rfl ?_ | (exfalso; omega) | (with_reducible first | refine Br.ff ?_ | refine Br.tt ?_ | refine Br.not ?_ | refine Br.yes (by assumption) ?_ | refine Br.no (by assumption) ?_ | (refine Br.dec (fun h => ?_) (fun h => ?_) <;> try simp only [lm] at h)) | ((with_reducible refine Br.mk (fun h => ?_) (fun h => ?_)) <;> (try simp only [lm] at h) <;> (first | have hw := within_iff.1 h | have hw := within_no.1 h | skip)) | with_reducible refine Arith.ok (by first | omega | (simp only [lm]; omega)) ?_ | with_reducible refine Idx.at (by first | omega | (simp only [lm] at *; omega)) (fun x hx => ?_) | with_reducible refine Idx.of_map (by first | omega | (simp only [lm] at *; omega)) (fun j x hj hx => ?_) | refine VC.one (by (try dsimp only); unfold lim; first | omega | (simp only [lens, subList] at *; omega)) rfl ?_ | refine VC.one0 (by decide) rfl ?_ | refine VC.all (by (try dsimp only); unfold lim; first | omega | (simp only [lens, subList] at *; omega)) (fun _ => rfl) ?_ | refine VC.all0 (by (try dsimp only); unfold lim; first | omega | (simp only [lens, subList] at *; omega)) (fun _ => rfl) ?_ | refine VC.mk (by first | omega | (simp only [lm]; omega)) ?_ | intro _)) <;> (try (conv => whnf))
    refine loopF [1, 2, 3, 6, 24, 25, 26, 36, 37] [1, 2, 3] [54] ?_
    (conv => whnf)
    refine LoopC.mk ((Nat) × (List Mode)) (fun ⟨j, q⟩ => (j ≤ a.modes.length) ∧ (q = a.modes.take j)) (fun ⟨j, q⟩ => [(38, .data (i64 j))]) (fun ⟨j, q⟩ => [(6, [.data (.str a.name), .data (i64 a.fam), .own 54 0])]) (fun ⟨j, q⟩ => [(54, 132, q.map Mode.av)]) (fun ⟨j, q⟩ => a.modes.length - j) ⟨0, []⟩ ?_ ?_ ?_
    rotate_left
    · (repeat' ((conv => whnf) <;> (first | exact trivial | exact rfl | with_reducible refine And.intro ?_ ?_)))
    rotate_left
    · exact ⟨Nat.zero_le _, rfl⟩
    rintro ⟨j, q⟩ ⟨hj, hq⟩
    have hql := take_len hq
    by_cases hjt : j < a.modes.length
    · obtain ⟨m, hm⟩ : ∃ m, a.modes[j]? = some m := ⟨a.modes[j]'hjt, by simp⟩
      (repeat' ((conv => whnf); first | with_reducible refine Idx.got hm rfl ?_ | (exfalso; omega) | (with_reducible first | refine Br.ff ?_ | refine Br.tt ?_ | refine Br.not ?_ | refine Br.yes (by assumption) ?_ | refine Br.no (by assumption) ?_ | (refine Br.dec (fun h => ?_) (fun h => ?_) <;> try simp only [lm] at h)) | ((with_reducible refine Br.mk (fun h => ?_) (fun h => ?_)) <;> (try simp only [lm] at h) <;> (first | have hw := within_iff.1 h | have hw := within_no.1 h | skip)) | with_reducible refine Arith.ok (by first | omega | (simp only [lm]; omega)) ?_ | with_reducible refine Idx.at (by first | omega | (simp only [lm] at *; omega)) (fun x hx => ?_) | with_reducible refine Idx.of_map (by first | omega | (simp only [lm] at *; omega)) (fun j x hj hx => ?_) | refine VC.one (by (try dsimp only); unfold lim; first | omega | (simp only [lens, subList] at *; omega)) rfl ?_ | refine VC.one0 (by decide) rfl ?_ | refine VC.all (by (try dsimp only); unfold lim; first | omega | (simp only [lens, subList] at *; omega)) (fun _ => rfl) ?_ | refine VC.all0 (by (try dsimp only); unfold lim; first | omega | (simp only [lens, subList] at *; omega)) (fun _ => rfl) ?_ | refine VC.mk (by first | omega | (simp only [lm]; omega)) ?_ | refine CallK.mk _ (slices_Clone_int m.use) (fun _ => ?_) | refine CallD.mk _ (fun _ hk => CallK.mk _ (slices_Clone_int m.use) (fun _ => hk)) ?_ | refine CallK.mk _ (slices_Clone_int m.con) (fun _ => ?_) | refine CallD.mk _ (fun _ hk => CallK.mk _ (slices_Clone_int m.con) (fun _ => hk)) ?_ | intro _)) <;> (try (conv => whnf))
      refine ⟨⟨j + 1, q ++ [m]⟩, ?_, rfl, ?_, ?_⟩
      rotate_left
      · (repeat' ((conv => whnf) <;> (first | exact trivial | exact rfl | with_reducible refine And.intro ?_ ?_))) <;> ((conv => whnf) <;> (simp))
      · (try dsimp only); (try simp only [List.length_map]); omega
      exact ⟨by omega, take_snoc hm hq⟩
    · obtain rfl := take_all hjt hq
      (repeat' ((conv => whnf); first | (exfalso; omega) | (with_reducible first | refine Br.ff ?_ | refine Br.tt ?_ | refine Br.not ?_ | refine Br.yes (by assumption) ?_ | refine Br.no (by assumption) ?_ | (refine Br.dec (fun h => ?_) (fun h => ?_) <;> try simp only [lm] at h)) | ((with_reducible refine Br.mk (fun h => ?_) (fun h => ?_)) <;> (try simp only [lm] at h) <;> (first | have hw := within_iff.1 h | have hw := within_no.1 h | skip)) | with_reducible refine Arith.ok (by first | omega | (simp only [lm]; omega)) ?_ | with_reducible refine Idx.at (by first | omega | (simp only [lm] at *; omega)) (fun x hx => ?_) | with_reducible refine Idx.of_map (by first | omega | (simp only [lm] at *; omega)) (fun j x hj hx => ?_) | refine VC.one (by (try dsimp only); unfold lim; first | omega | (simp only [lens, subList] at *; omega)) rfl ?_ | refine VC.one0 (by decide) rfl ?_ | refine VC.all (by (try dsimp only); unfold lim; first | omega | (simp only [lens, subList] at *; omega)) (fun _ => rfl) ?_ | refine VC.all0 (by (try dsimp only); unfold lim; first | omega | (simp only [lens, subList] at *; omega)) (fun _ => rfl) ?_ | refine VC.mk (by first | omega | (simp only [lm]; omega)) ?_ | intro _)) <;> (try (conv => whnf))
      refine ⟨⟨k + 1, o ++ [a]⟩, ?_, rfl, ?_, ?_⟩
      rotate_left
      · (repeat' ((conv => whnf) <;> (first | exact trivial | exact rfl | with_reducible refine And.intro ?_ ?_))) <;> ((conv => whnf) <;> (simp))
      · (try dsimp only); (try simp only [List.length_map]); omega
      exact ⟨by omega, take_snoc ha ho⟩
  obtain rfl := take_all hlt ho
  (repeat' ((conv => whnf); first | (exfalso; omega) | (with_reducible first | refine Br.ff ?_ | refine Br.tt ?_ | refine Br.not ?_ | refine Br.yes (by assumption) ?_ | refine Br.no (by assumption) ?_ | (refine Br.dec (fun h => ?_) (fun h => ?_) <;> try simp only [lm] at h)) | ((with_reducible refine Br.mk (fun h => ?_) (fun h => ?_)) <;> (try simp only [lm] at h) <;> (first | have hw := within_iff.1 h | have hw := within_no.1 h | skip)) | with_reducible refine Arith.ok (by first | omega | (simp only [lm]; omega)) ?_ | with_reducible refine Idx.at (by first | omega | (simp only [lm] at *; omega)) (fun x hx => ?_) | with_reducible refine Idx.of_map (by first | omega | (simp only [lm] at *; omega)) (fun j x hj hx => ?_) | refine VC.one (by (try dsimp only); unfold lim; first | omega | (simp only [lens, subList] at *; omega)) rfl ?_ | refine VC.one0 (by decide) rfl ?_ | refine VC.all (by (try dsimp only); unfold lim; first | omega | (simp only [lens, subList] at *; omega)) (fun _ => rfl) ?_ | refine VC.all0 (by (try dsimp only); unfold lim; first | omega | (simp only [lens, subList] at *; omega)) (fun _ => rfl) ?_ | refine VC.mk (by first | omega | (simp only [lm]; omega)) ?_ | intro _)) <;> (try (conv => whnf))
  refine loopF [2, 3, 65, 66] [2] [61, 19000, 94, 22000] ?_
  (conv => whnf)
  refine LoopC.mk ((Nat) × (List Resrc)) (fun ⟨r, o⟩ => (r ≤ p.ress.length) ∧ (o = p.ress.take r)) (fun ⟨r, o⟩ => [(67, .data (i64 r))]) (fun ⟨r, o⟩ => [(3, [.data (i64 p.dead), .own 61 0, .own 19000 0, .own 94 0, .own 22000 0])]) (fun ⟨r, o⟩ => [(61, 94, p.acts.map Activ.av), (19000, 102, p.links.map Link.av), (94, 99, o.map Resrc.av), (22000, 3, p.stocks.map i64)]) (fun ⟨r, o⟩ => p.ress.length - r) ⟨0, []⟩ ?_ ?_ ?_
  rotate_left
  · (repeat' ((conv => whnf) <;> (first | exact trivial | exact rfl | with_reducible refine And.intro ?_ ?_)))
  rotate_left
  · exact ⟨Nat.zero_le _, rfl⟩
  rintro ⟨r, o⟩ ⟨hk, ho⟩
  by_cases hlt : r < p.ress.length
  · obtain ⟨a, ha⟩ : ∃ a, p.ress[r]? = some a := ⟨p.ress[r]'hlt, by simp⟩
    have hol := take_len ho
    have hwa := wfs_get hwf.1.2.2.2.1.2 ha
    simp only [AV.wf, AV.wfs, List.length_map] at hwa
    (repeat' ((conv => whnf); first | with_reducible refine Idx.got ha rfl ?_ | (exfalso; omega) | (with_reducible first | refine Br.ff ?_ | refine Br.tt ?_ | refine Br.not ?_ | refine Br.yes (by assumption) ?_ | refine Br.no (by assumption) ?_ | (refine Br.dec (fun h => ?_) (fun h => ?_) <;> try simp only [lm] at h)) | ((with_reducible refine Br.mk (fun h => ?_) (fun h => ?_)) <;> (try simp only [lm] at h) <;> (first | have hw := within_iff.1 h | have hw := within_no.1 h | skip)) | with_reducible refine Arith.ok (by first | omega | (simp only [lm]; omega)) ?_ | with_reducible refine Idx.at (by first | omega | (simp only [lm] at *; omega)) (fun x hx => ?_) | with_reducible refine Idx.of_map (by first | omega | (simp only [lm] at *; omega)) (fun j x hj hx => ?_) | refine VC.one (by (try dsimp only); unfold lim; first | omega | (simp only [lens, subList] at *; omega)) rfl ?_ | refine VC.one0 (by decide) rfl ?_ | refine VC.all (by (try dsimp only); unfold lim; first | omega | (simp only [lens, subList] at *; omega)) (fun _ => rfl) ?_ | refine VC.all0 (by (try dsimp only); unfold lim; first | omega | (simp only [lens, subList] at *; omega)) (fun _ => rfl) ?_ | refine VC.mk (by first | omega | (simp only [lm]; omega)) ?_ | refine CallK.mk _ (slices_Clone_step a.steps) (fun _ => ?_) | refine CallD.mk _ (fun _ hk => CallK.mk _ (slices_Clone_step a.steps) (fun _ => hk)) ?_ | intro _)) <;> (try (conv => whnf))
    refine loopF [2, 3, 11, 65, 66, 67, 76, 77] [2, 3] [74000, 87] ?_
    (conv => whnf)
    refine LoopC.mk ((Nat) × (List (List Int))) (fun ⟨j, q⟩ => (j ≤ a.setup.length) ∧ (q = a.setup.take j)) (fun ⟨j, q⟩ => [(78, .data (i64 j))]) (fun ⟨j, q⟩ => [(11, [.own 74000 0, .own 87 0])]) (fun ⟨j, q⟩ => [(74000, 155, a.steps.map Step.av), (87, 25, q.map ints)]) (fun ⟨j, q⟩ => a.setup.length - j) ⟨0, []⟩ ?_ ?_ ?_
    rotate_left
    · (repeat' ((conv => whnf) <;> (first | exact trivial | exact rfl | with_reducible refine And.intro ?_ ?_)))
    rotate_left
    · exact ⟨Nat.zero_le _, rfl⟩
    rintro ⟨j, q⟩ ⟨hj, hq⟩
    have hql := take_len hq
    by_cases hjt : j < a.setup.length
    · obtain ⟨m, hm⟩ : ∃ m, a.setup[j]? = some m := ⟨a.setup[j]'hjt, by simp⟩
      (repeat' ((conv => whnf); first | with_reducible refine Idx.got hm rfl ?_ | (exfalso; omega) | (with_reducible first | refine Br.ff ?_ | refine Br.tt ?_ | refine Br.not ?_ | refine Br.yes (by assumption) ?_ | refine Br.no (by assumption) ?_ | (refine Br.dec (fun h => ?_) (fun h => ?_) <;> try simp only [lm] at h)) | ((with_reducible refine Br.mk (fun h => ?_) (fun h => ?_)) <;> (try simp only [lm] at h) <;> (first | have hw := within_iff.1 h | have hw := within_no.1 h | skip)) | with_reducible refine Arith.ok (by first | omega | (simp only [lm]; omega)) ?_ | with_reducible refine Idx.at (by first | omega | (simp only [lm] at *; omega)) (fun x hx => ?_) | with_reducible refine Idx.of_map (by first | omega | (simp only [lm] at *; omega)) (fun j x hj hx => ?_) | refine VC.one (by (try dsimp only); unfold lim; first | omega | (simp only [lens, subList] at *; omega)) rfl ?_ | refine VC.one0 (by decide) rfl ?_ | refine VC.all (by (try dsimp only); unfold lim; first | omega | (simp only [lens, subList] at *; omega)) (fun _ => rfl) ?_ | refine VC.all0 (by (try dsimp only); unfold lim; first | omega | (simp only [lens, subList] at *; omega)) (fun _ => rfl) ?_ | refine VC.mk (by first | omega | (simp only [lm]; omega)) ?_ | refine CallK.mk _ (slices_Clone_int m) (fun _ => ?_) | refine CallD.mk _ (fun _ hk => CallK.mk _ (slices_Clone_int m) (fun _ => hk)) ?_ | intro _)) <;> (try (conv => whnf))
      refine ⟨⟨j + 1, q ++ [m]⟩, ?_, rfl, ?_, ?_⟩
      rotate_left
      · (repeat' ((conv => whnf) <;> (first | exact trivial | exact rfl | with_reducible refine And.intro ?_ ?_))) <;> ((conv => whnf) <;> (simp))
      · (try dsimp only); (try simp only [List.length_map]); omega
      exact ⟨by omega, take_snoc hm hq⟩
    · obtain rfl := take_all hjt hq
      (repeat' ((conv => whnf); first | (exfalso; omega) | (with_reducible first | refine Br.ff ?_ | refine Br.tt ?_ | refine Br.not ?_ | refine Br.yes (by assumption) ?_ | refine Br.no (by assumption) ?_ | (refine Br.dec (fun h => ?_) (fun h => ?_) <;> try simp only [lm] at h)) | ((with_reducible refine Br.mk (fun h => ?_) (fun h => ?_)) <;> (try simp only [lm] at h) <;> (first | have hw := within_iff.1 h | have hw := within_no.1 h | skip)) | with_reducible refine Arith.ok (by first | omega | (simp only [lm]; omega)) ?_ | with_reducible refine Idx.at (by first | omega | (simp only [lm] at *; omega)) (fun x hx => ?_) | with_reducible refine Idx.of_map (by first | omega | (simp only [lm] at *; omega)) (fun j x hj hx => ?_) | refine VC.one (by (try dsimp only); unfold lim; first | omega | (simp only [lens, subList] at *; omega)) rfl ?_ | refine VC.one0 (by decide) rfl ?_ | refine VC.all (by (try dsimp only); unfold lim; first | omega | (simp only [lens, subList] at *; omega)) (fun _ => rfl) ?_ | refine VC.all0 (by (try dsimp only); unfold lim; first | omega | (simp only [lens, subList] at *; omega)) (fun _ => rfl) ?_ | refine VC.mk (by first | omega | (simp only [lm]; omega)) ?_ | intro _)) <;> (try (conv => whnf))
      refine ⟨⟨r + 1, o ++ [a]⟩, ?_, rfl, ?_, ?_⟩
      rotate_left
      · (repeat' ((conv => whnf) <;> (first | exact trivial | exact rfl | with_reducible refine And.intro ?_ ?_))) <;> ((conv => whnf) <;> (simp))
      · (try dsimp only); (try simp only [List.length_map]); omega
      exact ⟨by omega, take_snoc ha ho⟩
  obtain rfl := take_all hlt ho
  (repeat' ((conv => whnf); first | (exfalso; omega) | (with_reducible first | refine Br.ff ?_ | refine Br.tt ?_ | refine Br.not ?_ | refine Br.yes (by assumption) ?_ | refine Br.no (by assumption) ?_ | (refine Br.dec (fun h => ?_) (fun h => ?_) <;> try simp only [lm] at h)) | ((with_reducible refine Br.mk (fun h => ?_) (fun h => ?_)) <;> (try simp only [lm] at h) <;> (first | have hw := within_iff.1 h | have hw := within_no.1 h | skip)) | with_reducible refine Arith.ok (by first | omega | (simp only [lm]; omega)) ?_ | with_reducible refine Idx.at (by first | omega | (simp only [lm] at *; omega)) (fun x hx => ?_) | with_reducible refine Idx.of_map (by first | omega | (simp only [lm] at *; omega)) (fun j x hj hx => ?_) | refine VC.one (by (try dsimp only); unfold lim; first | omega | (simp only [lens, subList] at *; omega)) rfl ?_ | refine VC.one0 (by decide) rfl ?_ | refine VC.all (by (try dsimp only); unfold lim; first | omega | (simp only [lens, subList] at *; omega)) (fun _ => rfl) ?_ | refine VC.all0 (by (try dsimp only); unfold lim; first | omega | (simp only [lens, subList] at *; omega)) (fun _ => rfl) ?_ | refine VC.mk (by first | omega | (simp only [lm]; omega)) ?_ | intro _)) <;> (try (conv => whnf))
  exact ⟨rfl, rfl, trivial⟩
theorem spec_l04Copy (a : Activ) : Con 87 [.d a.av] (.d a.av) := by
  refine con Tryz.func87 rfl rfl Tryz.call87 rfl fun hwf => ?_
  simp only [ARs.wf, AR.wf, AV.wf, AV.wfs, List.length_map, lim] at hwf
  (repeat' ((conv => whnf); first | (with_reducible first | refine Br.ff ?_ | refine Br.tt ?_ | refine Br.not ?_ | refine Br.yes (by assumption) ?_ | refine Br.no (by assumption) ?_ | (refine Br.dec (fun h => ?_) (fun h => ?_) <;> try simp only [lm] at h)) | ((with_reducible refine Br.mk (fun h => ?_) (fun h => ?_)) <;> (try simp only [lm] at h) <;> (first | have hw := within_iff.1 h | have hw := within_no.1 h | skip)) | with_reducible refine Arith.ok (by first | omega | (simp only [lm]; omega)) ?_ | with_reducible refine Idx.at (by first | omega | (simp only [lm] at *; omega)) (fun x hx => ?_) | with_reducible refine Idx.of_map (by first | omega | (simp only [lm] at *; omega)) (fun j x hj hx => ?_) | refine VC.one (by (try dsimp only); unfold lim; first | omega | (simp only [lens, subList] at *; omega)) rfl ?_ | refine VC.one0 (by decide) rfl ?_ | refine VC.all (by (try dsimp only); unfold lim; first | omega | (simp only [lens, subList] at *; omega)) (fun _ => rfl) ?_ | refine VC.all0 (by (try dsimp only); unfold lim; first | omega | (simp only [lens, subList] at *; omega)) (fun _ => rfl) ?_ | refine VC.mk (by first | omega | (simp only [lm]; omega)) ?_ | intro _)) <;> (try (conv => whnf))
  refine loopF [2, 3, 12, 13] [2] [32] ?_
  (conv => whnf)
  refine LoopC.mk ((Nat) × (List Mode)) (fun ⟨j, q⟩ => (j ≤ a.modes.length) ∧ (q = a.modes.take j)) (fun ⟨j, q⟩ => [(14, .data (i64 j))]) (fun ⟨j, q⟩ => [(3, [.data (.str a.name), .data (i64 a.fam), .own 32 0])]) (fun ⟨j, q⟩ => [(32, 132, q.map Mode.av)]) (fun ⟨j, q⟩ => a.modes.length - j) ⟨0, []⟩ ?_ ?_ ?_
  rotate_left
  · (repeat' ((conv => whnf) <;> (first | exact trivial | exact rfl | with_reducible refine And.intro ?_ ?_)))
  rotate_left
  · exact ⟨Nat.zero_le _, rfl⟩
  rintro ⟨j, q⟩ ⟨hj, hq⟩
  have hql := take_len hq
  by_cases hjt : j < a.modes.length
  · obtain ⟨m, hm⟩ : ∃ m, a.modes[j]? = some m := ⟨a.modes[j]'hjt, by simp⟩
    have hwm := wfs_get hwf.1.2.2.1.2 hm
    simp only [AV.wf, AV.wfs, List.length_map] at hwm
    (repeat' ((conv => whnf); first | with_reducible refine Idx.got hm rfl ?_ | (exfalso; omega) | (with_reducible first | refine Br.ff ?_ | refine Br.tt ?_ | refine Br.not ?_ | refine Br.yes (by assumption) ?_ | refine Br.no (by assumption) ?_ | (refine Br.dec (fun h => ?_) (fun h => ?_) <;> try simp only [lm] at h)) | ((with_reducible refine Br.mk (fun h => ?_) (fun h => ?_)) <;> (try simp only [lm] at h) <;> (first | have hw := within_iff.1 h | have hw := within_no.1 h | skip)) | with_reducible refine Arith.ok (by first | omega | (simp only [lm]; omega)) ?_ | with_reducible refine Idx.at (by first | omega | (simp only [lm] at *; omega)) (fun x hx => ?_) | with_reducible refine Idx.of_map (by first | omega | (simp only [lm] at *; omega)) (fun j x hj hx => ?_) | refine VC.one (by (try dsimp only); unfold lim; first | omega | (simp only [lens, subList] at *; omega)) rfl ?_ | refine VC.one0 (by decide) rfl ?_ | refine VC.all (by (try dsimp only); unfold lim; first | omega | (simp only [lens, subList] at *; omega)) (fun _ => rfl) ?_ | refine VC.all0 (by (try dsimp only); unfold lim; first | omega | (simp only [lens, subList] at *; omega)) (fun _ => rfl) ?_ | refine VC.mk (by first | omega | (simp only [lm]; omega)) ?_ | intro _)) <;> (try (conv => whnf))
    refine ⟨⟨j + 1, q ++ [m]⟩, ?_, rfl, ?_, ?_⟩
    rotate_left
    · (repeat' ((conv => whnf) <;> (first | exact trivial | exact rfl | with_reducible refine And.intro ?_ ?_))) <;> ((conv => whnf) <;> (simp))
    · (try dsimp only); (try simp only [List.length_map]); omega
    exact ⟨by omega, take_snoc hm hq⟩
  · obtain rfl := take_all hjt hq
    (repeat' ((conv => whnf); first | (exfalso; omega) | (with_reducible first | refine Br.ff ?_ | refine Br.tt ?_ | refine Br.not ?_ | refine Br.yes (by assumption) ?_ | refine Br.no (by assumption) ?_ | (refine Br.dec (fun h => ?_) (fun h => ?_) <;> try simp only [lm] at h)) | ((with_reducible refine Br.mk (fun h => ?_) (fun h => ?_)) <;> (try simp only [lm] at h) <;> (first | have hw := within_iff.1 h | have hw := within_no.1 h | skip)) | with_reducible refine Arith.ok (by first | omega | (simp only [lm]; omega)) ?_ | with_reducible refine Idx.at (by first | omega | (simp only [lm] at *; omega)) (fun x hx => ?_) | with_reducible refine Idx.of_map (by first | omega | (simp only [lm] at *; omega)) (fun j x hj hx => ?_) | refine VC.one (by (try dsimp only); unfold lim; first | omega | (simp only [lens, subList] at *; omega)) rfl ?_ | refine VC.one0 (by decide) rfl ?_ | refine VC.all (by (try dsimp only); unfold lim; first | omega | (simp only [lens, subList] at *; omega)) (fun _ => rfl) ?_ | refine VC.all0 (by (try dsimp only); unfold lim; first | omega | (simp only [lens, subList] at *; omega)) (fun _ => rfl) ?_ | refine VC.mk (by first | omega | (simp only [lm]; omega)) ?_ | intro _)) <;> (try (conv => whnf))
    exact ⟨rfl, rfl, trivial⟩
theorem spec_l05Copy (p : Proj) : Con 52 [.d p.av] (.d p.av) := by
  refine con Tryz.func52 rfl rfl Tryz.call52 rfl fun hwf => ?_
  simp only [ARs.wf, AR.wf, AV.wf, AV.wfs, List.length_map, lim] at hwf
  (repeat' ((conv => whnf); first | (with_reducible first | refine Br.ff ?_ | refine Br.tt ?_ | refine Br.not ?_ | refine Br.yes (by assumption) ?_ | refine Br.no (by assumption) ?_ | (refine Br.dec (fun h => ?_) (fun h => ?_) <;> try simp only [lm] at h)) | ((with_reducible refine Br.mk (fun h => ?_) (fun h => ?_)) <;> (try simp only [lm] at h) <;> (first | have hw := within_iff.1 h | have hw := within_no.1 h | skip)) | with_reducible refine Arith.ok (by first | omega | (simp only [lm]; omega)) ?_ | with_reducible refine Idx.at (by first | omega | (simp only [lm] at *; omega)) (fun x hx => ?_) | with_reducible refine Idx.of_map (by first | omega | (simp only [lm] at *; omega)) (fun j x hj hx => ?_) | refine VC.one (by (try dsimp only); unfold lim; first | omega | (simp only [lens, subList] at *; omega)) rfl ?_ | refine VC.one0 (by decide) rfl ?_ | refine VC.all (by (try dsimp only); unfold lim; first | omega | (simp only [lens, subList] at *; omega)) (fun _ => rfl) ?_ | refine VC.all0 (by (try dsimp only); unfold lim; first | omega | (simp only [lens, subList] at *; omega)) (fun _ => rfl) ?_ | refine VC.mk (by first | omega | (simp only [lm]; omega)) ?_ | intro _)) <;> (try (conv => whnf))
  refine loopF [1, 2, 3, 23, 24] [1, 2] [34, 13, 17] ?_
  (conv => whnf)
  refine LoopC.mk ((Nat) × (List Activ)) (fun ⟨k, o⟩ => (k ≤ p.acts.length) ∧ (o = p.acts.take k)) (fun ⟨k, o⟩ => [(25, .data (i64 k))]) (fun ⟨k, o⟩ => [(3, [.data (i64 p.dead), .own 34 0, .own 13 0, .nilsl, .own 17 0])]) (fun ⟨k, o⟩ => [(34, 94, o.map Activ.av), (13, 102, p.links.map Link.av), (17, 3, p.stocks.map i64)]) (fun ⟨k, o⟩ => p.acts.length - k) ⟨0, []⟩ ?_ ?_ ?_
  rotate_left
  · (repeat' ((conv => whnf) <;> (first | exact trivial | exact rfl | with_reducible refine And.intro ?_ ?_)))
  rotate_left
  · exact ⟨Nat.zero_le _, rfl⟩
  rintro ⟨k, o⟩ ⟨hk, ho⟩
  have hol := take_len ho
  by_cases hlt : k < p.acts.length
  · obtain ⟨a, ha⟩ : ∃ a, p.acts[k]? = some a := ⟨p.acts[k]'hlt, by simp⟩
    (repeat' ((conv => whnf); first | with_reducible refine Idx.got ha rfl ?_ | (exfalso; omega) | (with_reducible first | refine Br.ff ?_ | refine Br.tt ?_ | refine Br.not ?_ | refine Br.yes (by assumption) ?_ | refine Br.no (by assumption) ?_ | (refine Br.dec (fun h => ?_) (fun h => ?_) <;> try simp only [lm] at h)) | ((with_reducible refine Br.mk (fun h => ?_) (fun h => ?_)) <;> (try simp only [lm] at h) <;> (first | have hw := within_iff.1 h | have hw := within_no.1 h | skip)) | with_reducible refine Arith.ok (by first | omega | (simp only [lm]; omega)) ?_ | with_reducible refine Idx.at (by first | omega | (simp only [lm] at *; omega)) (fun x hx => ?_) | with_reducible refine Idx.of_map (by first | omega | (simp only [lm] at *; omega)) (fun j x hj hx => ?_) | refine VC.one (by (try dsimp only); unfold lim; first | omega | (simp only [lens, subList] at *; omega)) rfl ?_ | refine VC.one0 (by decide) rfl ?_ | refine VC.all (by (try dsimp only); unfold lim; first | omega | (simp only [lens, subList] at *; omega)) (fun _ => rfl) ?_ | refine VC.all0 (by (try dsimp only); unfold lim; first | omega | (simp only [lens, subList] at *; omega)) (fun _ => rfl) ?_ | refine VC.mk (by first | omega | (simp only [lm]; omega)) ?_ | refine CallK.mk _ (spec_l04Copy a) (fun _ => ?_) | refine CallD.mk _ (fun _ hk => CallK.mk _ (spec_l04Copy a) (fun _ => hk)) ?_ | intro _)) <;> (try (conv => whnf))
    refine ⟨⟨k + 1, o ++ [a]⟩, ?_, rfl, ?_, ?_⟩
    rotate_left
    · (repeat' ((conv => whnf) <;> (first | exact trivial | exact rfl | with_reducible refine And.intro ?_ ?_))) <;> ((conv => whnf) <;> (simp))
    · (try dsimp only); (try simp only [List.length_map]); omega
    exact ⟨by omega, take_snoc ha ho⟩
  obtain rfl := take_all hlt ho
  (repeat' ((conv => whnf); first | (exfalso; omega) | (with_reducible first | refine Br.ff ?_ | refine Br.tt ?_ | refine Br.not ?_ | refine Br.yes (by assumption) ?_ | refine Br.no (by assumption) ?_ | (refine Br.dec (fun h => ?_) (fun h => ?_) <;> try simp only [lm] at h)) | ((with_reducible refine Br.mk (fun h => ?_) (fun h => ?_)) <;> (try simp only [lm] at h) <;> (first | have hw := within_iff.1 h | have hw := within_no.1 h | skip)) | with_reducible refine Arith.ok (by first | omega | (simp only [lm]; omega)) ?_ | with_reducible refine Idx.at (by first | omega | (simp only [lm] at *; omega)) (fun x hx => ?_) | with_reducible refine Idx.of_map (by first | omega | (simp only [lm] at *; omega)) (fun j x hj hx => ?_) | refine VC.one (by (try dsimp only); unfold lim; first | omega | (simp only [lens, subList] at *; omega)) rfl ?_ | refine VC.one0 (by decide) rfl ?_ | refine VC.all (by (try dsimp only); unfold lim; first | omega | (simp only [lens, subList] at *; omega)) (fun _ => rfl) ?_ | refine VC.all0 (by (try dsimp only); unfold lim; first | omega | (simp only [lens, subList] at *; omega)) (fun _ => rfl) ?_ | refine VC.mk (by first | omega | (simp only [lm]; omega)) ?_ | intro _)) <;> (try (conv => whnf))
  refine loopF [2, 3, 38, 39] [2] [34, 13, 69, 17] ?_
  (conv => whnf)
  refine LoopC.mk ((Nat) × (List Resrc)) (fun ⟨r, o⟩ => (r ≤ p.ress.length) ∧ (o = p.ress.take r)) (fun ⟨r, o⟩ => [(40, .data (i64 r))]) (fun ⟨r, o⟩ => [(3, [.data (i64 p.dead), .own 34 0, .own 13 0, .own 69 0, .own 17 0])]) (fun ⟨r, o⟩ => [(34, 94, p.acts.map Activ.av), (13, 102, p.links.map Link.av), (69, 99, o.map Resrc.av), (17, 3, p.stocks.map i64)]) (fun ⟨r, o⟩ => p.ress.length - r) ⟨0, []⟩ ?_ ?_ ?_
  rotate_left
  · (repeat' ((conv => whnf) <;> (first | exact trivial | exact rfl | with_reducible refine And.intro ?_ ?_)))
  rotate_left
  · exact ⟨Nat.zero_le _, rfl⟩
  rintro ⟨r, o⟩ ⟨hk, ho⟩
  by_cases hlt : r < p.ress.length
  · obtain ⟨a, ha⟩ : ∃ a, p.ress[r]? = some a := ⟨p.ress[r]'hlt, by simp⟩
    have hol := take_len ho
    have hwa := wfs_get hwf.1.2.2.2.1.2 ha
    simp only [AV.wf, AV.wfs, List.length_map] at hwa
    (repeat' ((conv => whnf); first | with_reducible refine Idx.got ha rfl ?_ | (exfalso; omega) | (with_reducible first | refine Br.ff ?_ | refine Br.tt ?_ | refine Br.not ?_ | refine Br.yes (by assumption) ?_ | refine Br.no (by assumption) ?_ | (refine Br.dec (fun h => ?_) (fun h => ?_) <;> try simp only [lm] at h)) | ((with_reducible refine Br.mk (fun h => ?_) (fun h => ?_)) <;> (try simp only [lm] at h) <;> (first | have hw := within_iff.1 h | have hw := within_no.1 h | skip)) | with_reducible refine Arith.ok (by first | omega | (simp only [lm]; omega)) ?_ | with_reducible refine Idx.at (by first | omega | (simp only [lm] at *; omega)) (fun x hx => ?_) | with_reducible refine Idx.of_map (by first | omega | (simp only [lm] at *; omega)) (fun j x hj hx => ?_) | refine VC.one (by (try dsimp only); unfold lim; first | omega | (simp only [lens, subList] at *; omega)) rfl ?_ | refine VC.one0 (by decide) rfl ?_ | refine VC.all (by (try dsimp only); unfold lim; first | omega | (simp only [lens, subList] at *; omega)) (fun _ => rfl) ?_ | refine VC.all0 (by (try dsimp only); unfold lim; first | omega | (simp only [lens, subList] at *; omega)) (fun _ => rfl) ?_ | refine VC.mk (by first | omega | (simp only [lm]; omega)) ?_ | intro _)) <;> (try (conv => whnf))
    refine loopF [2, 3, 8, 38, 39, 40, 50, 51] [2, 3] [44, 62] ?_
    (conv => whnf)
    refine LoopC.mk ((Nat) × (List (List Int))) (fun ⟨j, q⟩ => (j ≤ a.setup.length) ∧ (q = a.setup.take j)) (fun ⟨j, q⟩ => [(52, .data (i64 j))]) (fun ⟨j, q⟩ => [(8, [.own 44 0, .own 62 0])]) (fun ⟨j, q⟩ => [(44, 155, a.steps.map Step.av), (62, 25, q.map ints)]) (fun ⟨j, q⟩ => a.setup.length - j) ⟨0, []⟩ ?_ ?_ ?_
    rotate_left
    · (repeat' ((conv => whnf) <;> (first | exact trivial | exact rfl | with_reducible refine And.intro ?_ ?_)))
    rotate_left
    · exact ⟨Nat.zero_le _, rfl⟩
    rintro ⟨j, q⟩ ⟨hj, hq⟩
    have hql := take_len hq
    by_cases hjt : j < a.setup.length
    · obtain ⟨m, hm⟩ : ∃ m, a.setup[j]? = some m := ⟨a.setup[j]'hjt, by simp⟩
      have hwm := wfs_get hwa.2.1.2 hm
      simp only [AV.wf, AV.wfs, List.length_map] at hwm
      (repeat' ((conv => whnf); first | with_reducible refine Idx.got hm rfl ?_ | (exfalso; omega) | (with_reducible first | refine Br.ff ?_ | refine Br.tt ?_ | refine Br.not ?_ | refine Br.yes (by assumption) ?_ | refine Br.no (by assumption) ?_ | (refine Br.dec (fun h => ?_) (fun h => ?_) <;> try simp only [lm] at h)) | ((with_reducible refine Br.mk (fun h => ?_) (fun h => ?_)) <;> (try simp only [lm] at h) <;> (first | have hw := within_iff.1 h | have hw := within_no.1 h | skip)) | with_reducible refine Arith.ok (by first | omega | (simp only [lm]; omega)) ?_ | with_reducible refine Idx.at (by first | omega | (simp only [lm] at *; omega)) (fun x hx => ?_) | with_reducible refine Idx.of_map (by first | omega | (simp only [lm] at *; omega)) (fun j x hj hx => ?_) | refine VC.one (by (try dsimp only); unfold lim; first | omega | (simp only [lens, subList] at *; omega)) rfl ?_ | refine VC.one0 (by decide) rfl ?_ | refine VC.all (by (try dsimp only); unfold lim; first | omega | (simp only [lens, subList] at *; omega)) (fun _ => rfl) ?_ | refine VC.all0 (by (try dsimp only); unfold lim; first | omega | (simp only [lens, subList] at *; omega)) (fun _ => rfl) ?_ | refine VC.mk (by first | omega | (simp only [lm]; omega)) ?_ | intro _)) <;> (try (conv => whnf))
      refine ⟨⟨j + 1, q ++ [m]⟩, ?_, rfl, ?_, ?_⟩
      rotate_left
      · (repeat' ((conv => whnf) <;> (first | exact trivial | exact rfl | with_reducible refine And.intro ?_ ?_))) <;> ((conv => whnf) <;> (simp))
      · (try dsimp only); (try simp only [List.length_map]); omega
      exact ⟨by omega, take_snoc hm hq⟩
    · obtain rfl := take_all hjt hq
      (repeat' ((conv => whnf); first | (exfalso; omega) | (with_reducible first | refine Br.ff ?_ | refine Br.tt ?_ | refine Br.not ?_ | refine Br.yes (by assumption) ?_ | refine Br.no (by assumption) ?_ | (refine Br.dec (fun h => ?_) (fun h => ?_) <;> try simp only [lm] at h)) | ((with_reducible refine Br.mk (fun h => ?_) (fun h => ?_)) <;> (try simp only [lm] at h) <;> (first | have hw := within_iff.1 h | have hw := within_no.1 h | skip)) | with_reducible refine Arith.ok (by first | omega | (simp only [lm]; omega)) ?_ | with_reducible refine Idx.at (by first | omega | (simp only [lm] at *; omega)) (fun x hx => ?_) | with_reducible refine Idx.of_map (by first | omega | (simp only [lm] at *; omega)) (fun j x hj hx => ?_) | refine VC.one (by (try dsimp only); unfold lim; first | omega | (simp only [lens, subList] at *; omega)) rfl ?_ | refine VC.one0 (by decide) rfl ?_ | refine VC.all (by (try dsimp only); unfold lim; first | omega | (simp only [lens, subList] at *; omega)) (fun _ => rfl) ?_ | refine VC.all0 (by (try dsimp only); unfold lim; first | omega | (simp only [lens, subList] at *; omega)) (fun _ => rfl) ?_ | refine VC.mk (by first | omega | (simp only [lm]; omega)) ?_ | intro _)) <;> (try (conv => whnf))
      refine ⟨⟨r + 1, o ++ [a]⟩, ?_, rfl, ?_, ?_⟩
      rotate_left
      · (repeat' ((conv => whnf) <;> (first | exact trivial | exact rfl | with_reducible refine And.intro ?_ ?_))) <;> ((conv => whnf) <;> (simp))
      · (try dsimp only); (try simp only [List.length_map]); omega
      exact ⟨by omega, take_snoc ha ho⟩
  obtain rfl := take_all hlt ho
  (repeat' ((conv => whnf); first | (exfalso; omega) | (with_reducible first | refine Br.ff ?_ | refine Br.tt ?_ | refine Br.not ?_ | refine Br.yes (by assumption) ?_ | refine Br.no (by assumption) ?_ | (refine Br.dec (fun h => ?_) (fun h => ?_) <;> try simp only [lm] at h)) | ((with_reducible refine Br.mk (fun h => ?_) (fun h => ?_)) <;> (try simp only [lm] at h) <;> (first | have hw := within_iff.1 h | have hw := within_no.1 h | skip)) | with_reducible refine Arith.ok (by first | omega | (simp only [lm]; omega)) ?_ | with_reducible refine Idx.at (by first | omega | (simp only [lm] at *; omega)) (fun x hx => ?_) | with_reducible refine Idx.of_map (by first | omega | (simp only [lm] at *; omega)) (fun j x hj hx => ?_) | refine VC.one (by (try dsimp only); unfold lim; first | omega | (simp only [lens, subList] at *; omega)) rfl ?_ | refine VC.one0 (by decide) rfl ?_ | refine VC.all (by (try dsimp only); unfold lim; first | omega | (simp only [lens, subList] at *; omega)) (fun _ => rfl) ?_ | refine VC.all0 (by (try dsimp only); unfold lim; first | omega | (simp only [lens, subList] at *; omega)) (fun _ => rfl) ?_ | refine VC.mk (by first | omega | (simp only [lm]; omega)) ?_ | intro _)) <;> (try (conv => whnf))
  exact ⟨rfl, rfl, trivial⟩
def RProj (r : Proj × Bool) : RV := .tup [.d r.1.av, .d (.bool r.2)]
theorem impl_WithDeadline (p : Proj) (t : Int) (hp : p.fine) : Con 34 [.d p.av, .d (i64 t)] (RProj (withDeadline p t)) := by
  refine con Tryz.func34 rfl rfl Tryz.call34 rfl fun hwf => ?_
  have hq : (withDead p t).fine := hp
  (repeat' ((conv => whnf); first | (with_reducible first | refine Br.ff ?_ | refine Br.tt ?_ | refine Br.not ?_ | refine Br.yes (by assumption) ?_ | refine Br.no (by assumption) ?_ | (refine Br.dec (fun h => ?_) (fun h => ?_) <;> try simp only [lm] at h)) | ((with_reducible refine Br.mk (fun h => ?_) (fun h => ?_)) <;> (try simp only [lm] at h) <;> (first | have hw := within_iff.1 h | have hw := within_no.1 h | skip)) | refine CallK.mk _ (impl_copiedProj p) (fun _ => ?_) | refine CallD.mk _ (fun _ hk => CallK.mk _ (impl_copiedProj p) (fun _ => hk)) ?_ | refine CallK.mk _ (impl_ProjectOk p hp) (fun _ => ?_) | refine CallD.mk _ (fun _ hk => CallK.mk _ (impl_ProjectOk p hp) (fun _ => hk)) ?_ | refine CallK.mk _ (impl_ProjectOk (withDead p t) hq) (fun _ => ?_) | refine CallD.mk _ (fun _ hk => CallK.mk _ (impl_ProjectOk (withDead p t) hq) (fun _ => hk)) ?_ | intro _)) <;> (try (conv => whnf))
  all_goals first
    | (rw [withDeadline, if_pos ⟨by assumption, by assumption⟩]; (repeat' ((conv => whnf) <;> (first | exact trivial | refine VC.mk rfl ?_))); done)
    | (rw [withDeadline, if_neg (by simp [*])]; (repeat' ((conv => whnf) <;> (first | exact trivial | refine VC.mk rfl ?_))); done)
theorem spec_WithDeadline (p : Proj) (t : Int) (hp : p.fine) : Con 23 [.d p.av, .d (i64 t)] (RProj (withDeadline p t)) := by
  refine con Tryz.func23 rfl rfl Tryz.call23 rfl fun hwf => ?_
  have hq : (withDead p t).fine := hp
  (repeat' ((conv => whnf); first | (with_reducible first | refine Br.ff ?_ | refine Br.tt ?_ | refine Br.not ?_ | refine Br.yes (by assumption) ?_ | refine Br.no (by assumption) ?_ | (refine Br.dec (fun h => ?_) (fun h => ?_) <;> try simp only [lm] at h)) | ((with_reducible refine Br.mk (fun h => ?_) (fun h => ?_)) <;> (try simp only [lm] at h) <;> (first | have hw := within_iff.1 h | have hw := within_no.1 h | skip)) | refine CallK.mk _ (spec_l05Copy p) (fun _ => ?_) | refine CallD.mk _ (fun _ hk => CallK.mk _ (spec_l05Copy p) (fun _ => hk)) ?_ | refine CallK.mk _ (spec_ProjectOk p hp) (fun _ => ?_) | refine CallD.mk _ (fun _ hk => CallK.mk _ (spec_ProjectOk p hp) (fun _ => hk)) ?_ | refine CallK.mk _ (spec_ProjectOk (withDead p t) hq) (fun _ => ?_) | refine CallD.mk _ (fun _ hk => CallK.mk _ (spec_ProjectOk (withDead p t) hq) (fun _ => hk)) ?_ | intro _)) <;> (try (conv => whnf))
  all_goals first
    | (rw [withDeadline, if_pos ⟨by assumption, by assumption⟩]; (repeat' ((conv => whnf) <;> (first | exact trivial | refine VC.mk rfl ?_))); done)
    | (rw [withDeadline, if_neg (by simp [*])]; (repeat' ((conv => whnf) <;> (first | exact trivial | refine VC.mk rfl ?_))); done)
end Go.Proofs.YtjgblflcapilkaaGreat.Abs
