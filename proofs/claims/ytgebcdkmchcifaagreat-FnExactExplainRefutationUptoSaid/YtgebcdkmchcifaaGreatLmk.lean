/- Contracts of the laws' own marks on arguments: shapes of data that may be written. No statement of a claim. -/
import Derived.Test.YtgebcdkmchcifaaGreatC1
import Derived.Test.YtgebcdkmchcifaaGreatPlain
import Derived.Test.YtgebcdkmchcifaaGreatLtx
set_option linter.all false
set_option linter.unusedVariables false
set_option linter.unusedSimpArgs false
set_option maxRecDepth 20000
set_option maxHeartbeats 4000000
namespace Go.Proofs.YtgebcdkmchcifaaGreat.Abs
open Go.Proofs


/-- The shape of a row of numbers. -/
abbrev shI (l : List Int) : AV := .sl (l.map fun _ => .any)

/-- How many scalars a row of elements holds. -/
def cntS {α : Type} (f : α → Int) : List α → Int
  | [] => 0
  | x :: l => f x + cntS f l
theorem cnt_drop {α : Type} {f : α → Int} : ∀ {l : List α} {k : Nat} {x : α}, l[k]? = some x → cntS f (l.drop k) = f x + cntS f (l.drop (k + 1))
  | [], _, _, h => by simp at h
  | y :: l, 0, x, h => by simp at h; subst h; simp [cntS]
  | y :: l, k + 1, x, h => by simpa using cnt_drop (l := l) (by simpa using h)
theorem cnt_nonneg {α : Type} {f : α → Int} : ∀ {l : List α}, (∀ x ∈ l, 0 ≤ f x) → 0 ≤ cntS f l
  | [], _ => by simp [cntS]
  | x :: l, h => by
    have := h x (by simp)
    have := cnt_nonneg (l := l) (fun y hy => h y (by simp [hy]))
    simp only [cntS]; omega

theorem laws_markIntS (l : List Int) (n : Int) (hn : 0 ≤ n ∧ n + l.length ≤ 4611686018427387904) : Con 59 [.old (shI l), .d (i64 n)] (.d (i64 (n + l.length))) := by
  refine con Tryz.func59 rfl rfl Tryz.call59 rfl fun hwf => ?_
  simp only [ARs.wf, AR.wf, AV.wf, AV.wfs, List.length_map, lim] at hwf
  (repeat' ((conv => whnf); first | (with_reducible first | refine Br.ff ?_ | refine Br.tt ?_ | refine Br.not ?_ | refine Br.yes (by assumption) ?_ | refine Br.no (by assumption) ?_ | (refine Br.dec (fun h => ?_) (fun h => ?_) <;> try simp only [lm] at h)) | ((with_reducible refine Br.mk (fun h => ?_) (fun h => ?_)) <;> (try simp only [lm] at h) <;> (first | have hw := within_iff.1 h | have hw := within_no.1 h | skip)) | with_reducible refine Arith.ok (by first | omega | (simp only [lm]; omega)) ?_ | with_reducible refine Idx.at (by first | omega | (simp only [lm] at *; omega)) (fun x hx => ?_) | with_reducible refine Idx.of_map (by first | omega | (simp only [lm] at *; omega)) (fun j x hj hx => ?_) | refine VC.mk (by first | omega | (simp only [lm]; omega)) ?_ | intro _)) <;> (try (conv => whnf))
  refine loopF [0] [] [] ?_
  (conv => whnf)
  refine LoopC.mk ((Nat) × (Int)) (fun ⟨k, m⟩ => (k ≤ l.length) ∧ (m = n + k)) (fun ⟨k, m⟩ => [(5, .data (i64 k)), (1, .data (i64 m))]) (fun _ => []) (fun _ => []) (fun ⟨k, m⟩ => l.length - k) ⟨0, n⟩ ?_ ?_ ?_
  rotate_left
  · (repeat' ((conv => whnf) <;> (first | exact trivial | exact rfl | with_reducible refine And.intro ?_ ?_)))
  rotate_left
  · exact ⟨Nat.zero_le _, by simp⟩
  rintro ⟨k, m⟩ ⟨hk, hm⟩
  (repeat' ((conv => whnf); first | (with_reducible first | refine Br.ff ?_ | refine Br.tt ?_ | refine Br.not ?_ | refine Br.yes (by assumption) ?_ | refine Br.no (by assumption) ?_ | (refine Br.dec (fun h => ?_) (fun h => ?_) <;> try simp only [lm] at h)) | ((with_reducible refine Br.mk (fun h => ?_) (fun h => ?_)) <;> (try simp only [lm] at h) <;> (first | have hw := within_iff.1 h | have hw := within_no.1 h | skip)) | with_reducible refine Arith.ok (by first | omega | (simp only [lm]; omega)) ?_ | with_reducible refine Idx.at (by first | omega | (simp only [lm] at *; omega)) (fun x hx => ?_) | with_reducible refine Idx.of_map (by first | omega | (simp only [lm] at *; omega)) (fun j x hj hx => ?_) | refine VC.mk (by first | omega | (simp only [lm]; omega)) ?_ | intro _)) <;> (try (conv => whnf))
  · apply Exists.intro (⟨k + 1, _⟩)
    refine ⟨?_, rfl, ?_, ?_⟩
    rotate_left
    · (repeat' ((conv => whnf) <;> (first | exact trivial | exact rfl | with_reducible refine And.intro ?_ ?_)))
    · (try dsimp only); (try simp only [List.length_map]); omega
    exact ⟨(by omega : k + 1 ≤ l.length), by omega⟩
  · refine ⟨?_, rfl, trivial⟩
    have : k = l.length := by omega
    rw [hm, this]

theorem laws_markIntSS (l : List (List Int)) (n : Int) (hn : 0 ≤ n ∧ n + cntS (fun x => (x.length : Int)) l ≤ 4611686018427387904) : Con 60 [.old (.sl (l.map shI)), .d (i64 n)] (.d (i64 (n + cntS (fun x => (x.length : Int)) l))) := by
  refine con Tryz.func60 rfl rfl Tryz.call60 rfl fun hwf => ?_
  simp only [ARs.wf, AR.wf, AV.wf, AV.wfs, List.length_map, lim] at hwf
  have hc : ∀ x ∈ l, 0 ≤ (x.length : Int) := fun x _ => by omega
  (repeat' ((conv => whnf); first | (with_reducible first | refine Br.ff ?_ | refine Br.tt ?_ | refine Br.not ?_ | refine Br.yes (by assumption) ?_ | refine Br.no (by assumption) ?_ | (refine Br.dec (fun h => ?_) (fun h => ?_) <;> try simp only [lm] at h)) | ((with_reducible refine Br.mk (fun h => ?_) (fun h => ?_)) <;> (try simp only [lm] at h) <;> (first | have hw := within_iff.1 h | have hw := within_no.1 h | skip)) | with_reducible refine Arith.ok (by first | omega | (simp only [lm]; omega)) ?_ | with_reducible refine Idx.at (by first | omega | (simp only [lm] at *; omega)) (fun x hx => ?_) | with_reducible refine Idx.of_map (by first | omega | (simp only [lm] at *; omega)) (fun j x hj hx => ?_) | refine VC.mk (by first | omega | (simp only [lm]; omega)) ?_ | intro _)) <;> (try (conv => whnf))
  refine loopF [0] [] [] ?_
  (conv => whnf)
  refine LoopC.mk ((Nat) × (Int)) (fun ⟨k, m⟩ => (k ≤ l.length) ∧ (m + cntS (fun x => (x.length : Int)) (l.drop k) = n + cntS (fun x => (x.length : Int)) l) ∧ (0 ≤ m)) (fun ⟨k, m⟩ => [(5, .data (i64 k)), (1, .data (i64 m))]) (fun _ => []) (fun _ => []) (fun ⟨k, m⟩ => l.length - k) ⟨0, n⟩ ?_ ?_ ?_
  rotate_left
  · (repeat' ((conv => whnf) <;> (first | exact trivial | exact rfl | with_reducible refine And.intro ?_ ?_)))
  rotate_left
  · exact ⟨Nat.zero_le _, rfl, hn.1⟩
  rintro ⟨k, m⟩ ⟨hk, hm, h0⟩
  by_cases hlt : k < l.length
  · obtain ⟨x, hx⟩ : ∃ x, l[k]? = some x := ⟨l[k]'hlt, by simp⟩
    have hd := cnt_drop (f := fun x => (x.length : Int)) hx
    have hp := cnt_nonneg (f := fun x => (x.length : Int)) (l := l.drop (k + 1)) (fun x _ => by omega)
    (repeat' ((conv => whnf); first | with_reducible refine Idx.got hx rfl ?_ | (with_reducible first | refine Br.ff ?_ | refine Br.tt ?_ | refine Br.not ?_ | refine Br.yes (by assumption) ?_ | refine Br.no (by assumption) ?_ | (refine Br.dec (fun h => ?_) (fun h => ?_) <;> try simp only [lm] at h)) | ((with_reducible refine Br.mk (fun h => ?_) (fun h => ?_)) <;> (try simp only [lm] at h) <;> (first | have hw := within_iff.1 h | have hw := within_no.1 h | skip)) | with_reducible refine Arith.ok (by first | omega | (simp only [lm]; omega)) ?_ | with_reducible refine Idx.at (by first | omega | (simp only [lm] at *; omega)) (fun x hx => ?_) | with_reducible refine Idx.of_map (by first | omega | (simp only [lm] at *; omega)) (fun j x hj hx => ?_) | refine VC.mk (by first | omega | (simp only [lm]; omega)) ?_ | refine CallK.mk _ (laws_markIntS x m (by omega)) (fun _ => ?_) | refine CallD.mk _ (fun _ hk => CallK.mk _ (laws_markIntS x m (by omega)) (fun _ => hk)) ?_ | intro _)) <;> (try (conv => whnf))
    · apply Exists.intro (⟨k + 1, _⟩)
      refine ⟨?_, rfl, ?_, ?_⟩
      rotate_left
      · (repeat' ((conv => whnf) <;> (first | exact trivial | exact rfl | with_reducible refine And.intro ?_ ?_)))
      · (try dsimp only); (try simp only [List.length_map]); omega
      exact ⟨hlt, by omega, by omega⟩
    · exfalso; omega
  · (repeat' ((conv => whnf); first | (exfalso; omega) | (with_reducible first | refine Br.ff ?_ | refine Br.tt ?_ | refine Br.not ?_ | refine Br.yes (by assumption) ?_ | refine Br.no (by assumption) ?_ | (refine Br.dec (fun h => ?_) (fun h => ?_) <;> try simp only [lm] at h)) | ((with_reducible refine Br.mk (fun h => ?_) (fun h => ?_)) <;> (try simp only [lm] at h) <;> (first | have hw := within_iff.1 h | have hw := within_no.1 h | skip)) | with_reducible refine Arith.ok (by first | omega | (simp only [lm]; omega)) ?_ | with_reducible refine Idx.at (by first | omega | (simp only [lm] at *; omega)) (fun x hx => ?_) | with_reducible refine Idx.of_map (by first | omega | (simp only [lm] at *; omega)) (fun j x hj hx => ?_) | refine VC.mk (by first | omega | (simp only [lm]; omega)) ?_ | intro _)) <;> (try (conv => whnf))
    refine ⟨?_, rfl, trivial⟩
    rw [List.drop_eq_nil_of_le (by omega), cntS] at hm
    rw [← hm]; simp

abbrev Step.sh (x : Step) : AV := .agg [.any, .any]
abbrev Step.cnt (x : Step) : Int := 2
theorem Step.cnt_nn (x : Step) : 0 ≤ x.cnt := by unfold Step.cnt; omega
theorem laws_markStepS (l : List Step) (n : Int) (hn : 0 ≤ n ∧ n + cntS Step.cnt l ≤ 4611686018427387904) : Con 115 [.old (.sl (l.map Step.sh)), .d (i64 n)] (.d (i64 (n + cntS Step.cnt l))) := by
  refine con Tryz.func115 rfl rfl Tryz.call115 rfl fun hwf => ?_
  simp only [ARs.wf, AR.wf, AV.wf, AV.wfs, List.length_map, lim] at hwf
  (repeat' ((conv => whnf); first | (with_reducible first | refine Br.ff ?_ | refine Br.tt ?_ | refine Br.not ?_ | refine Br.yes (by assumption) ?_ | refine Br.no (by assumption) ?_ | (refine Br.dec (fun h => ?_) (fun h => ?_) <;> try simp only [lm] at h)) | ((with_reducible refine Br.mk (fun h => ?_) (fun h => ?_)) <;> (try simp only [lm] at h) <;> (first | have hw := within_iff.1 h | have hw := within_no.1 h | skip)) | with_reducible refine Arith.ok (by first | omega | (simp only [lm]; omega)) ?_ | with_reducible refine Idx.at (by first | omega | (simp only [lm] at *; omega)) (fun x hx => ?_) | with_reducible refine Idx.of_map (by first | omega | (simp only [lm] at *; omega)) (fun j x hj hx => ?_) | refine VC.mk (by first | omega | (simp only [lm]; omega)) ?_ | intro _)) <;> (try (conv => whnf))
  refine loopF [0] [] [] ?_
  (conv => whnf)
  refine LoopC.mk ((Nat) × (Int)) (fun ⟨k, m⟩ => (k ≤ l.length) ∧ (m + cntS Step.cnt (l.drop k) = n + cntS Step.cnt l) ∧ (0 ≤ m)) (fun ⟨k, m⟩ => [(5, .data (i64 k)), (1, .data (i64 m))]) (fun _ => []) (fun _ => []) (fun ⟨k, m⟩ => l.length - k) ⟨0, n⟩ ?_ ?_ ?_
  rotate_left
  · (repeat' ((conv => whnf) <;> (first | exact trivial | exact rfl | with_reducible refine And.intro ?_ ?_)))
  rotate_left
  · exact ⟨Nat.zero_le _, rfl, hn.1⟩
  rintro ⟨k, m⟩ ⟨hk, hm, h0⟩
  by_cases hlt : k < l.length
  · obtain ⟨x, hx⟩ : ∃ x, l[k]? = some x := ⟨l[k]'hlt, by simp⟩
    have hd := cnt_drop (f := Step.cnt) hx
    have hp := cnt_nonneg (f := Step.cnt) (l := l.drop (k + 1)) (fun x _ => x.cnt_nn)
    have hx0 := x.cnt_nn
    have he : x.cnt = 2 := rfl
    (repeat' ((conv => whnf); first | with_reducible refine Idx.got hx rfl ?_ | (with_reducible first | refine Br.ff ?_ | refine Br.tt ?_ | refine Br.not ?_ | refine Br.yes (by assumption) ?_ | refine Br.no (by assumption) ?_ | (refine Br.dec (fun h => ?_) (fun h => ?_) <;> try simp only [lm] at h)) | ((with_reducible refine Br.mk (fun h => ?_) (fun h => ?_)) <;> (try simp only [lm] at h) <;> (first | have hw := within_iff.1 h | have hw := within_no.1 h | skip)) | with_reducible refine Arith.ok (by first | omega | (simp only [lm]; omega)) ?_ | with_reducible refine Idx.at (by first | omega | (simp only [lm] at *; omega)) (fun x hx => ?_) | with_reducible refine Idx.of_map (by first | omega | (simp only [lm] at *; omega)) (fun j x hj hx => ?_) | refine VC.mk (by first | omega | (simp only [lm]; omega)) ?_ | intro _)) <;> (try (conv => whnf))
    · apply Exists.intro (⟨k + 1, _⟩)
      refine ⟨?_, rfl, ?_, ?_⟩
      rotate_left
      · (repeat' ((conv => whnf) <;> (first | exact trivial | exact rfl | with_reducible refine And.intro ?_ ?_)))
      · (try dsimp only); (try simp only [List.length_map]); omega
      exact ⟨hlt, by omega, by omega⟩
    · exfalso; omega
  · (repeat' ((conv => whnf); first | (exfalso; omega) | (with_reducible first | refine Br.ff ?_ | refine Br.tt ?_ | refine Br.not ?_ | refine Br.yes (by assumption) ?_ | refine Br.no (by assumption) ?_ | (refine Br.dec (fun h => ?_) (fun h => ?_) <;> try simp only [lm] at h)) | ((with_reducible refine Br.mk (fun h => ?_) (fun h => ?_)) <;> (try simp only [lm] at h) <;> (first | have hw := within_iff.1 h | have hw := within_no.1 h | skip)) | with_reducible refine Arith.ok (by first | omega | (simp only [lm]; omega)) ?_ | with_reducible refine Idx.at (by first | omega | (simp only [lm] at *; omega)) (fun x hx => ?_) | with_reducible refine Idx.of_map (by first | omega | (simp only [lm] at *; omega)) (fun j x hj hx => ?_) | refine VC.mk (by first | omega | (simp only [lm]; omega)) ?_ | intro _)) <;> (try (conv => whnf))
    refine ⟨?_, rfl, trivial⟩
    rw [List.drop_eq_nil_of_le (by omega), cntS] at hm
    rw [← hm]; simp

abbrev Link.sh (x : Link) : AV := .agg [.any, .any, .any, .any]
abbrev Link.cnt (x : Link) : Int := 4
theorem Link.cnt_nn (x : Link) : 0 ≤ x.cnt := by unfold Link.cnt; omega
theorem laws_markLinkS (l : List Link) (n : Int) (hn : 0 ≤ n ∧ n + cntS Link.cnt l ≤ 4611686018427387904) : Con 57 [.old (.sl (l.map Link.sh)), .d (i64 n)] (.d (i64 (n + cntS Link.cnt l))) := by
  refine con Tryz.func57 rfl rfl Tryz.call57 rfl fun hwf => ?_
  simp only [ARs.wf, AR.wf, AV.wf, AV.wfs, List.length_map, lim] at hwf
  (repeat' ((conv => whnf); first | (with_reducible first | refine Br.ff ?_ | refine Br.tt ?_ | refine Br.not ?_ | refine Br.yes (by assumption) ?_ | refine Br.no (by assumption) ?_ | (refine Br.dec (fun h => ?_) (fun h => ?_) <;> try simp only [lm] at h)) | ((with_reducible refine Br.mk (fun h => ?_) (fun h => ?_)) <;> (try simp only [lm] at h) <;> (first | have hw := within_iff.1 h | have hw := within_no.1 h | skip)) | with_reducible refine Arith.ok (by first | omega | (simp only [lm]; omega)) ?_ | with_reducible refine Idx.at (by first | omega | (simp only [lm] at *; omega)) (fun x hx => ?_) | with_reducible refine Idx.of_map (by first | omega | (simp only [lm] at *; omega)) (fun j x hj hx => ?_) | refine VC.mk (by first | omega | (simp only [lm]; omega)) ?_ | intro _)) <;> (try (conv => whnf))
  refine loopF [0] [] [] ?_
  (conv => whnf)
  refine LoopC.mk ((Nat) × (Int)) (fun ⟨k, m⟩ => (k ≤ l.length) ∧ (m + cntS Link.cnt (l.drop k) = n + cntS Link.cnt l) ∧ (0 ≤ m)) (fun ⟨k, m⟩ => [(5, .data (i64 k)), (1, .data (i64 m))]) (fun _ => []) (fun _ => []) (fun ⟨k, m⟩ => l.length - k) ⟨0, n⟩ ?_ ?_ ?_
  rotate_left
  · (repeat' ((conv => whnf) <;> (first | exact trivial | exact rfl | with_reducible refine And.intro ?_ ?_)))
  rotate_left
  · exact ⟨Nat.zero_le _, rfl, hn.1⟩
  rintro ⟨k, m⟩ ⟨hk, hm, h0⟩
  by_cases hlt : k < l.length
  · obtain ⟨x, hx⟩ : ∃ x, l[k]? = some x := ⟨l[k]'hlt, by simp⟩
    have hd := cnt_drop (f := Link.cnt) hx
    have hp := cnt_nonneg (f := Link.cnt) (l := l.drop (k + 1)) (fun x _ => x.cnt_nn)
    have hx0 := x.cnt_nn
    have he : x.cnt = 4 := rfl
    (repeat' ((conv => whnf); first | with_reducible refine Idx.got hx rfl ?_ | (with_reducible first | refine Br.ff ?_ | refine Br.tt ?_ | refine Br.not ?_ | refine Br.yes (by assumption) ?_ | refine Br.no (by assumption) ?_ | (refine Br.dec (fun h => ?_) (fun h => ?_) <;> try simp only [lm] at h)) | ((with_reducible refine Br.mk (fun h => ?_) (fun h => ?_)) <;> (try simp only [lm] at h) <;> (first | have hw := within_iff.1 h | have hw := within_no.1 h | skip)) | with_reducible refine Arith.ok (by first | omega | (simp only [lm]; omega)) ?_ | with_reducible refine Idx.at (by first | omega | (simp only [lm] at *; omega)) (fun x hx => ?_) | with_reducible refine Idx.of_map (by first | omega | (simp only [lm] at *; omega)) (fun j x hj hx => ?_) | refine VC.mk (by first | omega | (simp only [lm]; omega)) ?_ | intro _)) <;> (try (conv => whnf))
    · apply Exists.intro (⟨k + 1, _⟩)
      refine ⟨?_, rfl, ?_, ?_⟩
      rotate_left
      · (repeat' ((conv => whnf) <;> (first | exact trivial | exact rfl | with_reducible refine And.intro ?_ ?_)))
      · (try dsimp only); (try simp only [List.length_map]); omega
      exact ⟨hlt, by omega, by omega⟩
    · exfalso; omega
  · (repeat' ((conv => whnf); first | (exfalso; omega) | (with_reducible first | refine Br.ff ?_ | refine Br.tt ?_ | refine Br.not ?_ | refine Br.yes (by assumption) ?_ | refine Br.no (by assumption) ?_ | (refine Br.dec (fun h => ?_) (fun h => ?_) <;> try simp only [lm] at h)) | ((with_reducible refine Br.mk (fun h => ?_) (fun h => ?_)) <;> (try simp only [lm] at h) <;> (first | have hw := within_iff.1 h | have hw := within_no.1 h | skip)) | with_reducible refine Arith.ok (by first | omega | (simp only [lm]; omega)) ?_ | with_reducible refine Idx.at (by first | omega | (simp only [lm] at *; omega)) (fun x hx => ?_) | with_reducible refine Idx.of_map (by first | omega | (simp only [lm] at *; omega)) (fun j x hj hx => ?_) | refine VC.mk (by first | omega | (simp only [lm]; omega)) ?_ | intro _)) <;> (try (conv => whnf))
    refine ⟨?_, rfl, trivial⟩
    rw [List.drop_eq_nil_of_le (by omega), cntS] at hm
    rw [← hm]; simp

abbrev Lit.sh (x : Lit) : AV := .agg [.any, .any, .any]
abbrev Lit.cnt (x : Lit) : Int := 3
theorem Lit.cnt_nn (x : Lit) : 0 ≤ x.cnt := by unfold Lit.cnt; omega
theorem laws_markLiteralS (l : List Lit) (n : Int) (hn : 0 ≤ n ∧ n + cntS Lit.cnt l ≤ 4611686018427387904) : Con 19 [.old (.sl (l.map Lit.sh)), .d (i64 n)] (.d (i64 (n + cntS Lit.cnt l))) := by
  refine con Tryz.func19 rfl rfl Tryz.call19 rfl fun hwf => ?_
  simp only [ARs.wf, AR.wf, AV.wf, AV.wfs, List.length_map, lim] at hwf
  (repeat' ((conv => whnf); first | (with_reducible first | refine Br.ff ?_ | refine Br.tt ?_ | refine Br.not ?_ | refine Br.yes (by assumption) ?_ | refine Br.no (by assumption) ?_ | (refine Br.dec (fun h => ?_) (fun h => ?_) <;> try simp only [lm] at h)) | ((with_reducible refine Br.mk (fun h => ?_) (fun h => ?_)) <;> (try simp only [lm] at h) <;> (first | have hw := within_iff.1 h | have hw := within_no.1 h | skip)) | with_reducible refine Arith.ok (by first | omega | (simp only [lm]; omega)) ?_ | with_reducible refine Idx.at (by first | omega | (simp only [lm] at *; omega)) (fun x hx => ?_) | with_reducible refine Idx.of_map (by first | omega | (simp only [lm] at *; omega)) (fun j x hj hx => ?_) | refine VC.mk (by first | omega | (simp only [lm]; omega)) ?_ | intro _)) <;> (try (conv => whnf))
  refine loopF [0] [] [] ?_
  (conv => whnf)
  refine LoopC.mk ((Nat) × (Int)) (fun ⟨k, m⟩ => (k ≤ l.length) ∧ (m + cntS Lit.cnt (l.drop k) = n + cntS Lit.cnt l) ∧ (0 ≤ m)) (fun ⟨k, m⟩ => [(5, .data (i64 k)), (1, .data (i64 m))]) (fun _ => []) (fun _ => []) (fun ⟨k, m⟩ => l.length - k) ⟨0, n⟩ ?_ ?_ ?_
  rotate_left
  · (repeat' ((conv => whnf) <;> (first | exact trivial | exact rfl | with_reducible refine And.intro ?_ ?_)))
  rotate_left
  · exact ⟨Nat.zero_le _, rfl, hn.1⟩
  rintro ⟨k, m⟩ ⟨hk, hm, h0⟩
  by_cases hlt : k < l.length
  · obtain ⟨x, hx⟩ : ∃ x, l[k]? = some x := ⟨l[k]'hlt, by simp⟩
    have hd := cnt_drop (f := Lit.cnt) hx
    have hp := cnt_nonneg (f := Lit.cnt) (l := l.drop (k + 1)) (fun x _ => x.cnt_nn)
    have hx0 := x.cnt_nn
    have he : x.cnt = 3 := rfl
    (repeat' ((conv => whnf); first | with_reducible refine Idx.got hx rfl ?_ | (with_reducible first | refine Br.ff ?_ | refine Br.tt ?_ | refine Br.not ?_ | refine Br.yes (by assumption) ?_ | refine Br.no (by assumption) ?_ | (refine Br.dec (fun h => ?_) (fun h => ?_) <;> try simp only [lm] at h)) | ((with_reducible refine Br.mk (fun h => ?_) (fun h => ?_)) <;> (try simp only [lm] at h) <;> (first | have hw := within_iff.1 h | have hw := within_no.1 h | skip)) | with_reducible refine Arith.ok (by first | omega | (simp only [lm]; omega)) ?_ | with_reducible refine Idx.at (by first | omega | (simp only [lm] at *; omega)) (fun x hx => ?_) | with_reducible refine Idx.of_map (by first | omega | (simp only [lm] at *; omega)) (fun j x hj hx => ?_) | refine VC.mk (by first | omega | (simp only [lm]; omega)) ?_ | intro _)) <;> (try (conv => whnf))
    · apply Exists.intro (⟨k + 1, _⟩)
      refine ⟨?_, rfl, ?_, ?_⟩
      rotate_left
      · (repeat' ((conv => whnf) <;> (first | exact trivial | exact rfl | with_reducible refine And.intro ?_ ?_)))
      · (try dsimp only); (try simp only [List.length_map]); omega
      exact ⟨hlt, by omega, by omega⟩
    · exfalso; omega
  · (repeat' ((conv => whnf); first | (exfalso; omega) | (with_reducible first | refine Br.ff ?_ | refine Br.tt ?_ | refine Br.not ?_ | refine Br.yes (by assumption) ?_ | refine Br.no (by assumption) ?_ | (refine Br.dec (fun h => ?_) (fun h => ?_) <;> try simp only [lm] at h)) | ((with_reducible refine Br.mk (fun h => ?_) (fun h => ?_)) <;> (try simp only [lm] at h) <;> (first | have hw := within_iff.1 h | have hw := within_no.1 h | skip)) | with_reducible refine Arith.ok (by first | omega | (simp only [lm]; omega)) ?_ | with_reducible refine Idx.at (by first | omega | (simp only [lm] at *; omega)) (fun x hx => ?_) | with_reducible refine Idx.of_map (by first | omega | (simp only [lm] at *; omega)) (fun j x hj hx => ?_) | refine VC.mk (by first | omega | (simp only [lm]; omega)) ?_ | intro _)) <;> (try (conv => whnf))
    refine ⟨?_, rfl, trivial⟩
    rw [List.drop_eq_nil_of_le (by omega), cntS] at hm
    rw [← hm]; simp

abbrev Mode.sh (x : Mode) : AV := .agg [.any, shI x.use, shI x.con]
abbrev Mode.cnt (x : Mode) : Int := 1 + x.use.length + x.con.length
theorem Mode.cnt_nn (x : Mode) : 0 ≤ x.cnt := by unfold Mode.cnt; omega
theorem laws_markModeS (l : List Mode) (n : Int) (hn : 0 ≤ n ∧ n + cntS Mode.cnt l ≤ 4611686018427387904) : Con 114 [.old (.sl (l.map Mode.sh)), .d (i64 n)] (.d (i64 (n + cntS Mode.cnt l))) := by
  refine con Tryz.func114 rfl rfl Tryz.call114 rfl fun hwf => ?_
  simp only [ARs.wf, AR.wf, AV.wf, AV.wfs, List.length_map, lim] at hwf
  (repeat' ((conv => whnf); first | (with_reducible first | refine Br.ff ?_ | refine Br.tt ?_ | refine Br.not ?_ | refine Br.yes (by assumption) ?_ | refine Br.no (by assumption) ?_ | (refine Br.dec (fun h => ?_) (fun h => ?_) <;> try simp only [lm] at h)) | ((with_reducible refine Br.mk (fun h => ?_) (fun h => ?_)) <;> (try simp only [lm] at h) <;> (first | have hw := within_iff.1 h | have hw := within_no.1 h | skip)) | with_reducible refine Arith.ok (by first | omega | (simp only [lm]; omega)) ?_ | with_reducible refine Idx.at (by first | omega | (simp only [lm] at *; omega)) (fun x hx => ?_) | with_reducible refine Idx.of_map (by first | omega | (simp only [lm] at *; omega)) (fun j x hj hx => ?_) | refine VC.mk (by first | omega | (simp only [lm]; omega)) ?_ | intro _)) <;> (try (conv => whnf))
  refine loopF [0] [] [] ?_
  (conv => whnf)
  refine LoopC.mk ((Nat) × (Int)) (fun ⟨k, m⟩ => (k ≤ l.length) ∧ (m + cntS Mode.cnt (l.drop k) = n + cntS Mode.cnt l) ∧ (0 ≤ m)) (fun ⟨k, m⟩ => [(5, .data (i64 k)), (1, .data (i64 m))]) (fun _ => []) (fun _ => []) (fun ⟨k, m⟩ => l.length - k) ⟨0, n⟩ ?_ ?_ ?_
  rotate_left
  · (repeat' ((conv => whnf) <;> (first | exact trivial | exact rfl | with_reducible refine And.intro ?_ ?_)))
  rotate_left
  · exact ⟨Nat.zero_le _, rfl, hn.1⟩
  rintro ⟨k, m⟩ ⟨hk, hm, h0⟩
  by_cases hlt : k < l.length
  · obtain ⟨x, hx⟩ : ∃ x, l[k]? = some x := ⟨l[k]'hlt, by simp⟩
    have hd := cnt_drop (f := Mode.cnt) hx
    have hp := cnt_nonneg (f := Mode.cnt) (l := l.drop (k + 1)) (fun x _ => x.cnt_nn)
    have hx0 := x.cnt_nn
    have he : x.cnt = 1 + x.use.length + x.con.length := rfl
    (repeat' ((conv => whnf); first | with_reducible refine Idx.got hx rfl ?_ | (with_reducible first | refine Br.ff ?_ | refine Br.tt ?_ | refine Br.not ?_ | refine Br.yes (by assumption) ?_ | refine Br.no (by assumption) ?_ | (refine Br.dec (fun h => ?_) (fun h => ?_) <;> try simp only [lm] at h)) | ((with_reducible refine Br.mk (fun h => ?_) (fun h => ?_)) <;> (try simp only [lm] at h) <;> (first | have hw := within_iff.1 h | have hw := within_no.1 h | skip)) | with_reducible refine Arith.ok (by first | omega | (simp only [lm]; omega)) ?_ | with_reducible refine Idx.at (by first | omega | (simp only [lm] at *; omega)) (fun x hx => ?_) | with_reducible refine Idx.of_map (by first | omega | (simp only [lm] at *; omega)) (fun j x hj hx => ?_) | refine VC.mk (by first | omega | (simp only [lm]; omega)) ?_ | refine CallK.mk _ (laws_markIntS x.use (m + 1) (by omega)) (fun _ => ?_) | refine CallD.mk _ (fun _ hk => CallK.mk _ (laws_markIntS x.use (m + 1) (by omega)) (fun _ => hk)) ?_ | refine CallK.mk _ (laws_markIntS x.con (m + 1 + x.use.length) (by omega)) (fun _ => ?_) | refine CallD.mk _ (fun _ hk => CallK.mk _ (laws_markIntS x.con (m + 1 + x.use.length) (by omega)) (fun _ => hk)) ?_ | intro _)) <;> (try (conv => whnf))
    · apply Exists.intro (⟨k + 1, _⟩)
      refine ⟨?_, rfl, ?_, ?_⟩
      rotate_left
      · (repeat' ((conv => whnf) <;> (first | exact trivial | exact rfl | with_reducible refine And.intro ?_ ?_)))
      · (try dsimp only); (try simp only [List.length_map]); omega
      exact ⟨hlt, by omega, by omega⟩
    · exfalso; omega
  · (repeat' ((conv => whnf); first | (exfalso; omega) | (with_reducible first | refine Br.ff ?_ | refine Br.tt ?_ | refine Br.not ?_ | refine Br.yes (by assumption) ?_ | refine Br.no (by assumption) ?_ | (refine Br.dec (fun h => ?_) (fun h => ?_) <;> try simp only [lm] at h)) | ((with_reducible refine Br.mk (fun h => ?_) (fun h => ?_)) <;> (try simp only [lm] at h) <;> (first | have hw := within_iff.1 h | have hw := within_no.1 h | skip)) | with_reducible refine Arith.ok (by first | omega | (simp only [lm]; omega)) ?_ | with_reducible refine Idx.at (by first | omega | (simp only [lm] at *; omega)) (fun x hx => ?_) | with_reducible refine Idx.of_map (by first | omega | (simp only [lm] at *; omega)) (fun j x hj hx => ?_) | refine VC.mk (by first | omega | (simp only [lm]; omega)) ?_ | intro _)) <;> (try (conv => whnf))
    refine ⟨?_, rfl, trivial⟩
    rw [List.drop_eq_nil_of_le (by omega), cntS] at hm
    rw [← hm]; simp

abbrev Resrc.sh (x : Resrc) : AV := .agg [.sl (x.steps.map Step.sh), .sl (x.setup.map shI)]
abbrev Resrc.cnt (x : Resrc) : Int := cntS Step.cnt x.steps + cntS (fun x => (x.length : Int)) x.setup
theorem Resrc.cnt_nn (x : Resrc) : 0 ≤ x.cnt := by have h1 := cnt_nonneg (f := Step.cnt) (l := x.steps) (fun x _ => x.cnt_nn); have h2 := cnt_nonneg (f := fun x : List Int => (x.length : Int)) (l := x.setup) (fun x _ => by omega); unfold Resrc.cnt; omega
theorem laws_markResourceS (l : List Resrc) (n : Int) (hn : 0 ≤ n ∧ n + cntS Resrc.cnt l ≤ 4611686018427387904) : Con 58 [.old (.sl (l.map Resrc.sh)), .d (i64 n)] (.d (i64 (n + cntS Resrc.cnt l))) := by
  refine con Tryz.func58 rfl rfl Tryz.call58 rfl fun hwf => ?_
  simp only [ARs.wf, AR.wf, AV.wf, AV.wfs, List.length_map, lim] at hwf
  (repeat' ((conv => whnf); first | (with_reducible first | refine Br.ff ?_ | refine Br.tt ?_ | refine Br.not ?_ | refine Br.yes (by assumption) ?_ | refine Br.no (by assumption) ?_ | (refine Br.dec (fun h => ?_) (fun h => ?_) <;> try simp only [lm] at h)) | ((with_reducible refine Br.mk (fun h => ?_) (fun h => ?_)) <;> (try simp only [lm] at h) <;> (first | have hw := within_iff.1 h | have hw := within_no.1 h | skip)) | with_reducible refine Arith.ok (by first | omega | (simp only [lm]; omega)) ?_ | with_reducible refine Idx.at (by first | omega | (simp only [lm] at *; omega)) (fun x hx => ?_) | with_reducible refine Idx.of_map (by first | omega | (simp only [lm] at *; omega)) (fun j x hj hx => ?_) | refine VC.mk (by first | omega | (simp only [lm]; omega)) ?_ | intro _)) <;> (try (conv => whnf))
  refine loopF [0] [] [] ?_
  (conv => whnf)
  refine LoopC.mk ((Nat) × (Int)) (fun ⟨k, m⟩ => (k ≤ l.length) ∧ (m + cntS Resrc.cnt (l.drop k) = n + cntS Resrc.cnt l) ∧ (0 ≤ m)) (fun ⟨k, m⟩ => [(5, .data (i64 k)), (1, .data (i64 m))]) (fun _ => []) (fun _ => []) (fun ⟨k, m⟩ => l.length - k) ⟨0, n⟩ ?_ ?_ ?_
  rotate_left
  · (repeat' ((conv => whnf) <;> (first | exact trivial | exact rfl | with_reducible refine And.intro ?_ ?_)))
  rotate_left
  · exact ⟨Nat.zero_le _, rfl, hn.1⟩
  rintro ⟨k, m⟩ ⟨hk, hm, h0⟩
  by_cases hlt : k < l.length
  · obtain ⟨x, hx⟩ : ∃ x, l[k]? = some x := ⟨l[k]'hlt, by simp⟩
    have hd := cnt_drop (f := Resrc.cnt) hx
    have hp := cnt_nonneg (f := Resrc.cnt) (l := l.drop (k + 1)) (fun x _ => x.cnt_nn)
    have hx0 := x.cnt_nn
    have h1 := cnt_nonneg (f := Step.cnt) (l := x.steps) (fun x _ => x.cnt_nn)
    have h2 := cnt_nonneg (f := fun x : List Int => (x.length : Int)) (l := x.setup) (fun x _ => by omega)
    have he : x.cnt = cntS Step.cnt x.steps + cntS (fun x => (x.length : Int)) x.setup := rfl
    (repeat' ((conv => whnf); first | with_reducible refine Idx.got hx rfl ?_ | (with_reducible first | refine Br.ff ?_ | refine Br.tt ?_ | refine Br.not ?_ | refine Br.yes (by assumption) ?_ | refine Br.no (by assumption) ?_ | (refine Br.dec (fun h => ?_) (fun h => ?_) <;> try simp only [lm] at h)) | ((with_reducible refine Br.mk (fun h => ?_) (fun h => ?_)) <;> (try simp only [lm] at h) <;> (first | have hw := within_iff.1 h | have hw := within_no.1 h | skip)) | with_reducible refine Arith.ok (by first | omega | (simp only [lm]; omega)) ?_ | with_reducible refine Idx.at (by first | omega | (simp only [lm] at *; omega)) (fun x hx => ?_) | with_reducible refine Idx.of_map (by first | omega | (simp only [lm] at *; omega)) (fun j x hj hx => ?_) | refine VC.mk (by first | omega | (simp only [lm]; omega)) ?_ | refine CallK.mk _ (laws_markStepS x.steps m (by omega)) (fun _ => ?_) | refine CallD.mk _ (fun _ hk => CallK.mk _ (laws_markStepS x.steps m (by omega)) (fun _ => hk)) ?_ | refine CallK.mk _ (laws_markIntSS x.setup (m + cntS Step.cnt x.steps) (by omega)) (fun _ => ?_) | refine CallD.mk _ (fun _ hk => CallK.mk _ (laws_markIntSS x.setup (m + cntS Step.cnt x.steps) (by omega)) (fun _ => hk)) ?_ | intro _)) <;> (try (conv => whnf))
    · apply Exists.intro (⟨k + 1, _⟩)
      refine ⟨?_, rfl, ?_, ?_⟩
      rotate_left
      · (repeat' ((conv => whnf) <;> (first | exact trivial | exact rfl | with_reducible refine And.intro ?_ ?_)))
      · (try dsimp only); (try simp only [List.length_map]); omega
      exact ⟨hlt, by omega, by omega⟩
    · exfalso; omega
  · (repeat' ((conv => whnf); first | (exfalso; omega) | (with_reducible first | refine Br.ff ?_ | refine Br.tt ?_ | refine Br.not ?_ | refine Br.yes (by assumption) ?_ | refine Br.no (by assumption) ?_ | (refine Br.dec (fun h => ?_) (fun h => ?_) <;> try simp only [lm] at h)) | ((with_reducible refine Br.mk (fun h => ?_) (fun h => ?_)) <;> (try simp only [lm] at h) <;> (first | have hw := within_iff.1 h | have hw := within_no.1 h | skip)) | with_reducible refine Arith.ok (by first | omega | (simp only [lm]; omega)) ?_ | with_reducible refine Idx.at (by first | omega | (simp only [lm] at *; omega)) (fun x hx => ?_) | with_reducible refine Idx.of_map (by first | omega | (simp only [lm] at *; omega)) (fun j x hj hx => ?_) | refine VC.mk (by first | omega | (simp only [lm]; omega)) ?_ | intro _)) <;> (try (conv => whnf))
    refine ⟨?_, rfl, trivial⟩
    rw [List.drop_eq_nil_of_le (by omega), cntS] at hm
    rw [← hm]; simp


abbrev Activ.sh (x : Activ) : AV := .agg [.any, .any, .sl (x.modes.map Mode.sh)]
abbrev Activ.cnt (x : Activ) : Int := 2 + cntS Mode.cnt x.modes
theorem Activ.cnt_nn (x : Activ) : 0 ≤ x.cnt := by have h1 := cnt_nonneg (f := Mode.cnt) (l := x.modes) (fun x _ => x.cnt_nn); unfold Activ.cnt; omega
theorem laws_markActivityS (l : List Activ) (n : Int) (hn : 0 ≤ n ∧ n + cntS Activ.cnt l ≤ 4611686018427387904) : Con 56 [.old (.sl (l.map Activ.sh)), .d (i64 n)] (.d (i64 (n + cntS Activ.cnt l))) := by
  refine con Tryz.func56 rfl rfl Tryz.call56 rfl fun hwf => ?_
  simp only [ARs.wf, AR.wf, AV.wf, AV.wfs, List.length_map, lim] at hwf
  (repeat' ((conv => whnf); first | (with_reducible first | refine Br.ff ?_ | refine Br.tt ?_ | refine Br.not ?_ | refine Br.yes (by assumption) ?_ | refine Br.no (by assumption) ?_ | (refine Br.dec (fun h => ?_) (fun h => ?_) <;> try simp only [lm] at h)) | ((with_reducible refine Br.mk (fun h => ?_) (fun h => ?_)) <;> (try simp only [lm] at h) <;> (first | have hw := within_iff.1 h | have hw := within_no.1 h | skip)) | with_reducible refine Arith.ok (by first | omega | (simp only [lm]; omega)) ?_ | with_reducible refine Idx.at (by first | omega | (simp only [lm] at *; omega)) (fun x hx => ?_) | with_reducible refine Idx.of_map (by first | omega | (simp only [lm] at *; omega)) (fun j x hj hx => ?_) | refine VC.mk (by first | omega | (simp only [lm]; omega)) ?_ | intro _)) <;> (try (conv => whnf))
  refine loopF [0] [] [] ?_
  (conv => whnf)
  refine LoopC.mk ((Nat) × (Int)) (fun ⟨k, m⟩ => (k ≤ l.length) ∧ (m + cntS Activ.cnt (l.drop k) = n + cntS Activ.cnt l) ∧ (0 ≤ m)) (fun ⟨k, m⟩ => [(5, .data (i64 k)), (1, .data (i64 m))]) (fun _ => []) (fun _ => []) (fun ⟨k, m⟩ => l.length - k) ⟨0, n⟩ ?_ ?_ ?_
  rotate_left
  · (repeat' ((conv => whnf) <;> (first | exact trivial | exact rfl | with_reducible refine And.intro ?_ ?_)))
  rotate_left
  · exact ⟨Nat.zero_le _, rfl, hn.1⟩
  rintro ⟨k, m⟩ ⟨hk, hm, h0⟩
  by_cases hlt : k < l.length
  · obtain ⟨x, hx⟩ : ∃ x, l[k]? = some x := ⟨l[k]'hlt, by simp⟩
    have hd := cnt_drop (f := Activ.cnt) hx
    have hp := cnt_nonneg (f := Activ.cnt) (l := l.drop (k + 1)) (fun x _ => x.cnt_nn)
    have hx0 := x.cnt_nn
    have h1 := cnt_nonneg (f := Mode.cnt) (l := x.modes) (fun x _ => x.cnt_nn)
    have he : x.cnt = 2 + cntS Mode.cnt x.modes := rfl
    (repeat' ((conv => whnf); first | with_reducible refine Idx.got hx rfl ?_ | (with_reducible first | refine Br.ff ?_ | refine Br.tt ?_ | refine Br.not ?_ | refine Br.yes (by assumption) ?_ | refine Br.no (by assumption) ?_ | (refine Br.dec (fun h => ?_) (fun h => ?_) <;> try simp only [lm] at h)) | ((with_reducible refine Br.mk (fun h => ?_) (fun h => ?_)) <;> (try simp only [lm] at h) <;> (first | have hw := within_iff.1 h | have hw := within_no.1 h | skip)) | with_reducible refine Arith.ok (by first | omega | (simp only [lm]; omega)) ?_ | with_reducible refine Idx.at (by first | omega | (simp only [lm] at *; omega)) (fun x hx => ?_) | with_reducible refine Idx.of_map (by first | omega | (simp only [lm] at *; omega)) (fun j x hj hx => ?_) | refine VC.mk (by first | omega | (simp only [lm]; omega)) ?_ | refine CallK.mk _ (laws_markText m (by omega)) (fun _ => ?_) | refine CallD.mk _ (fun _ hk => CallK.mk _ (laws_markText m (by omega)) (fun _ => hk)) ?_ | refine CallK.mk _ (laws_markModeS x.modes (m + 2) (by omega)) (fun _ => ?_) | refine CallD.mk _ (fun _ hk => CallK.mk _ (laws_markModeS x.modes (m + 2) (by omega)) (fun _ => hk)) ?_ | refine CallK.mk _ (laws_markModeS x.modes (m + 1 + 1) (by omega)) (fun _ => ?_) | refine CallD.mk _ (fun _ hk => CallK.mk _ (laws_markModeS x.modes (m + 1 + 1) (by omega)) (fun _ => hk)) ?_ | intro _)) <;> (try (conv => whnf))
    · apply Exists.intro (⟨k + 1, _⟩)
      refine ⟨?_, rfl, ?_, ?_⟩
      rotate_left
      · (repeat' ((conv => whnf) <;> (first | exact trivial | exact rfl | with_reducible refine And.intro ?_ ?_)))
      · (try dsimp only); (try simp only [List.length_map]); omega
      exact ⟨hlt, by omega, by omega⟩
    · exfalso; omega
  · (repeat' ((conv => whnf); first | (exfalso; omega) | (with_reducible first | refine Br.ff ?_ | refine Br.tt ?_ | refine Br.not ?_ | refine Br.yes (by assumption) ?_ | refine Br.no (by assumption) ?_ | (refine Br.dec (fun h => ?_) (fun h => ?_) <;> try simp only [lm] at h)) | ((with_reducible refine Br.mk (fun h => ?_) (fun h => ?_)) <;> (try simp only [lm] at h) <;> (first | have hw := within_iff.1 h | have hw := within_no.1 h | skip)) | with_reducible refine Arith.ok (by first | omega | (simp only [lm]; omega)) ?_ | with_reducible refine Idx.at (by first | omega | (simp only [lm] at *; omega)) (fun x hx => ?_) | with_reducible refine Idx.of_map (by first | omega | (simp only [lm] at *; omega)) (fun j x hj hx => ?_) | refine VC.mk (by first | omega | (simp only [lm]; omega)) ?_ | intro _)) <;> (try (conv => whnf))
    refine ⟨?_, rfl, trivial⟩
    rw [List.drop_eq_nil_of_le (by omega), cntS] at hm
    rw [← hm]; simp

abbrev Lin.sh (x : Lin) : AV := .agg [.any, .any, .any, .any, .any, .sl (x.clause.map Lit.sh)]
abbrev Lin.cnt (x : Lin) : Int := 5 + cntS Lit.cnt x.clause
theorem Lin.cnt_nn (x : Lin) : 0 ≤ x.cnt := by have h1 := cnt_nonneg (f := Lit.cnt) (l := x.clause) (fun x _ => x.cnt_nn); unfold Lin.cnt; omega
abbrev Proj.sh (x : Proj) : AV := .agg [.any, .sl (x.acts.map Activ.sh), .sl (x.links.map Link.sh), .sl (x.ress.map Resrc.sh), shI x.stocks]
abbrev Proj.cnt (x : Proj) : Int := cntS Activ.cnt x.acts + cntS Link.cnt x.links + cntS Resrc.cnt x.ress + x.stocks.length
theorem Proj.cnt_nn (x : Proj) : 0 ≤ x.cnt := by
  have h1 := cnt_nonneg (f := Activ.cnt) (l := x.acts) (fun x _ => x.cnt_nn)
  have h2 := cnt_nonneg (f := Link.cnt) (l := x.links) (fun x _ => x.cnt_nn)
  have h3 := cnt_nonneg (f := Resrc.cnt) (l := x.ress) (fun x _ => x.cnt_nn)
  unfold Proj.cnt; omega
theorem laws_markProject (x : Proj) (n : Int) (hn : 0 ≤ n ∧ n + x.cnt ≤ 4611686018427387904) : Con 17 [.old x.sh, .d (i64 n)] (.d (i64 (n + x.cnt))) := by
  refine con Tryz.func17 rfl rfl Tryz.call17 rfl fun hwf => ?_
  have h1 := cnt_nonneg (f := Activ.cnt) (l := x.acts) (fun x _ => x.cnt_nn)
  have h2 := cnt_nonneg (f := Link.cnt) (l := x.links) (fun x _ => x.cnt_nn)
  have h3 := cnt_nonneg (f := Resrc.cnt) (l := x.ress) (fun x _ => x.cnt_nn)
  have he : x.cnt = cntS Activ.cnt x.acts + cntS Link.cnt x.links + cntS Resrc.cnt x.ress + x.stocks.length := rfl
  (repeat' ((conv => whnf); first | (with_reducible first | refine Br.ff ?_ | refine Br.tt ?_ | refine Br.not ?_ | refine Br.yes (by assumption) ?_ | refine Br.no (by assumption) ?_ | (refine Br.dec (fun h => ?_) (fun h => ?_) <;> try simp only [lm] at h)) | ((with_reducible refine Br.mk (fun h => ?_) (fun h => ?_)) <;> (try simp only [lm] at h) <;> (first | have hw := within_iff.1 h | have hw := within_no.1 h | skip)) | refine CallK.mk _ (laws_markActivityS x.acts n (by omega)) (fun _ => ?_) | refine CallD.mk _ (fun _ hk => CallK.mk _ (laws_markActivityS x.acts n (by omega)) (fun _ => hk)) ?_ | refine CallK.mk _ (laws_markLinkS x.links _ (by omega)) (fun _ => ?_) | refine CallD.mk _ (fun _ hk => CallK.mk _ (laws_markLinkS x.links _ (by omega)) (fun _ => hk)) ?_ | refine CallK.mk _ (laws_markResourceS x.ress _ (by omega)) (fun _ => ?_) | refine CallD.mk _ (fun _ hk => CallK.mk _ (laws_markResourceS x.ress _ (by omega)) (fun _ => hk)) ?_ | refine CallK.mk _ (laws_markIntS x.stocks _ (by omega)) (fun _ => ?_) | refine CallD.mk _ (fun _ hk => CallK.mk _ (laws_markIntS x.stocks _ (by omega)) (fun _ => hk)) ?_ | intro _)) <;> (try (conv => whnf))
  refine ⟨?_, rfl, trivial⟩
  exact congrArg (AV.int .i64) (by omega)
abbrev Dom.sh (x : Dom) : AV := .agg [shI x.lo, shI x.hi, .sl (x.modes.map shI)]
abbrev Dom.cnt (x : Dom) : Int := x.lo.length + x.hi.length + cntS (fun x => (x.length : Int)) x.modes
theorem laws_markDomain (x : Dom) (n : Int) (hn : 0 ≤ n ∧ n + x.cnt ≤ 4611686018427387904) : Con 18 [.old x.sh, .d (i64 n)] (.d (i64 (n + x.cnt))) := by
  refine con Tryz.func18 rfl rfl Tryz.call18 rfl fun hwf => ?_
  have h3 := cnt_nonneg (f := fun x : List Int => (x.length : Int)) (l := x.modes) (fun x _ => by omega)
  have he : x.cnt = x.lo.length + x.hi.length + cntS (fun x => (x.length : Int)) x.modes := rfl
  (repeat' ((conv => whnf); first | (with_reducible first | refine Br.ff ?_ | refine Br.tt ?_ | refine Br.not ?_ | refine Br.yes (by assumption) ?_ | refine Br.no (by assumption) ?_ | (refine Br.dec (fun h => ?_) (fun h => ?_) <;> try simp only [lm] at h)) | ((with_reducible refine Br.mk (fun h => ?_) (fun h => ?_)) <;> (try simp only [lm] at h) <;> (first | have hw := within_iff.1 h | have hw := within_no.1 h | skip)) | refine CallK.mk _ (laws_markIntS x.lo n (by omega)) (fun _ => ?_) | refine CallD.mk _ (fun _ hk => CallK.mk _ (laws_markIntS x.lo n (by omega)) (fun _ => hk)) ?_ | refine CallK.mk _ (laws_markIntS x.hi _ (by omega)) (fun _ => ?_) | refine CallD.mk _ (fun _ hk => CallK.mk _ (laws_markIntS x.hi _ (by omega)) (fun _ => hk)) ?_ | refine CallK.mk _ (laws_markIntSS x.modes _ (by omega)) (fun _ => ?_) | refine CallD.mk _ (fun _ hk => CallK.mk _ (laws_markIntSS x.modes _ (by omega)) (fun _ => hk)) ?_ | intro _)) <;> (try (conv => whnf))
  refine ⟨?_, rfl, trivial⟩
  exact congrArg (AV.int .i64) (by omega)
abbrev Sched.sh (x : Sched) : AV := .agg [shI x.starts, shI x.modes]
abbrev Sched.cnt (x : Sched) : Int := x.starts.length + x.modes.length
/-! ### Shapes, written out -/
theorem shI_eq (l : List Int) : (ints l).shape = shI l := by simp [AV.shape, shapes_map, shI]
theorem sh_eq {α : Type} {f g : α → AV} (h : ∀ x, (f x).shape = g x) (l : List α) : (AV.sl (l.map f)).shape = .sl (l.map g) := by
  simp only [AV.shape, shapes_map]; congr 1; exact List.map_congr_left fun x _ => h x
theorem Step.sh_eq (x : Step) : x.av.shape = x.sh := rfl
theorem Link.sh_eq (x : Link) : x.av.shape = x.sh := rfl
theorem Lit.sh_eq (x : Lit) : x.av.shape = x.sh := rfl
theorem Mode.sh_eq (x : Mode) : x.av.shape = x.sh := by simp [AV.shape, AV.shapes, shapes_map]
theorem Activ.sh_eq (x : Activ) : x.av.shape = x.sh := by
  simp only [AV.shape, AV.shapes]; rw [show AV.sl (AV.shapes (x.modes.map Mode.av)) = .sl (x.modes.map Mode.sh) from Abs.sh_eq Mode.sh_eq x.modes]
theorem Resrc.sh_eq (x : Resrc) : x.av.shape = x.sh := by
  simp only [AV.shape, AV.shapes]
  rw [show AV.sl (AV.shapes (x.steps.map Step.av)) = .sl (x.steps.map Step.sh) from Abs.sh_eq Step.sh_eq x.steps, show AV.sl (AV.shapes (x.setup.map ints)) = .sl (x.setup.map shI) from Abs.sh_eq shI_eq x.setup]
theorem Lin.sh_eq (x : Lin) : x.av.shape = x.sh := by
  simp only [AV.shape, AV.shapes]; rw [show AV.sl (AV.shapes (x.clause.map Lit.av)) = .sl (x.clause.map Lit.sh) from Abs.sh_eq Lit.sh_eq x.clause]
theorem Proj.sh_eq (x : Proj) : x.av.shape = x.sh := by
  simp only [AV.shape, AV.shapes]
  rw [show AV.sl (AV.shapes (x.acts.map Activ.av)) = .sl (x.acts.map Activ.sh) from Abs.sh_eq Activ.sh_eq x.acts, show AV.sl (AV.shapes (x.links.map Link.av)) = .sl (x.links.map Link.sh) from Abs.sh_eq Link.sh_eq x.links,
    show AV.sl (AV.shapes (x.ress.map Resrc.av)) = .sl (x.ress.map Resrc.sh) from Abs.sh_eq Resrc.sh_eq x.ress, show AV.sl (AV.shapes (x.stocks.map i64)) = shI x.stocks from shI_eq x.stocks]
theorem Dom.sh_eq (x : Dom) : x.av.shape = x.sh := by
  simp only [AV.shape, AV.shapes]
  rw [show AV.sl (AV.shapes (x.lo.map i64)) = shI x.lo from shI_eq x.lo, show AV.sl (AV.shapes (x.hi.map i64)) = shI x.hi from shI_eq x.hi, show AV.sl (AV.shapes (x.modes.map ints)) = .sl (x.modes.map shI) from Abs.sh_eq shI_eq x.modes]
theorem Sched.sh_eq (x : Sched) : x.av.shape = x.sh := by simp [AV.shape, AV.shapes, shapes_map]
end Go.Proofs.YtgebcdkmchcifaaGreat.Abs
