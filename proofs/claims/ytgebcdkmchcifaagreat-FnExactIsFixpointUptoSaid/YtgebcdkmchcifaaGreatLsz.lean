/- Contracts of the laws' own helpers. No statement of a claim. -/
import Derived.Test.YtgebcdkmchcifaaGreatC1
import Derived.Test.YtgebcdkmchcifaaGreatPlain
set_option linter.all false
set_option linter.unusedVariables false
set_option linter.unusedSimpArgs false
set_option maxRecDepth 20000
set_option maxHeartbeats 4000000
namespace Go.Proofs.YtgebcdkmchcifaaGreat.Abs
open Go.Proofs


theorem laws_szIntS (l : List Int) (n : Int) (hn : Sz n) : Con 34 [.d (.sl (l.map i64)), .d (i64 n)] (.d (i64 (szN l.length n))) := by
  refine con Tryz.func34 rfl rfl Tryz.call34 rfl fun hwf => ?_
  simp only [ARs.wf, AR.wf, AV.wf, AV.wfs, List.length_map, lim] at hwf
  unfold Sz at hn
  (repeat' ((conv => whnf); first | (with_reducible first | refine Br.ff ?_ | refine Br.tt ?_ | refine Br.not ?_ | refine Br.yes (by assumption) ?_ | refine Br.no (by assumption) ?_ | (refine Br.dec (fun h => ?_) (fun h => ?_) <;> try simp only [lm] at h)) | ((with_reducible refine Br.mk (fun h => ?_) (fun h => ?_)) <;> (try simp only [lm] at h) <;> (first | have hw := within_iff.1 h | have hw := within_no.1 h | skip)) | with_reducible refine Arith.ok (by first | omega | (simp only [lm]; omega)) ?_ | refine VC.mk (by first | omega | (simp only [lm]; omega)) ?_ | intro _)) <;> (try (conv => whnf))
  all_goals refine ⟨?_, rfl, trivial⟩
  all_goals (simp only [szN, List.length_map]; first | (rw [if_pos (by omega)]; done) | (rw [if_neg (by omega)]; done))

theorem laws_szIntSS (l : List (List Int)) (n : Int) (hn : Sz n) : Con 35 [.d (.sl (l.map ints)), .d (i64 n)] (.d (i64 (szS (fun x n => szN x.length n) l n))) := by
  refine con Tryz.func35 rfl rfl Tryz.call35 rfl fun hwf => ?_
  simp only [ARs.wf, AR.wf, AV.wf, AV.wfs, List.length_map, lim] at hwf
  have hn' := hn
  unfold Sz at hn'
  (repeat' ((conv => whnf); first | (with_reducible first | refine Br.ff ?_ | refine Br.tt ?_ | refine Br.not ?_ | refine Br.yes (by assumption) ?_ | refine Br.no (by assumption) ?_ | (refine Br.dec (fun h => ?_) (fun h => ?_) <;> try simp only [lm] at h)) | ((with_reducible refine Br.mk (fun h => ?_) (fun h => ?_)) <;> (try simp only [lm] at h) <;> (first | have hw := within_iff.1 h | have hw := within_no.1 h | skip)) | with_reducible refine Arith.ok (by first | omega | (simp only [lm]; omega)) ?_ | with_reducible refine Idx.at (by first | omega | (simp only [lm] at *; omega)) (fun x hx => ?_) | with_reducible refine Idx.of_map (by first | omega | (simp only [lm] at *; omega)) (fun j x hj hx => ?_) | refine VC.mk (by first | omega | (simp only [lm]; omega)) ?_ | intro _)) <;> (try (conv => whnf))
  rotate_left
  · refine loopF [0] [] [] ?_
    (conv => whnf)
    refine LoopC.mk ((Nat) × (Int)) (fun ⟨k, m⟩ => (k ≤ l.length) ∧ (Sz m ∧ 0 ≤ m) ∧ (szL (fun x n => szN x.length n) (l.drop k) m = szS (fun x n => szN x.length n) l n)) (fun ⟨k, m⟩ => [(5, .data (i64 k)), (1, .data (i64 m))]) (fun _ => []) (fun _ => []) (fun ⟨k, m⟩ => l.length - k) ⟨0, n - ((l.map ints).length : Int)⟩ ?_ ?_ ?_
    rotate_left
    · (repeat' ((conv => whnf) <;> (first | exact trivial | exact rfl | with_reducible refine And.intro ?_ ?_)))
    rotate_left
    · simp only [List.length_map]
      refine ⟨by omega, by unfold Sz; omega, ?_⟩
      rw [szS, szN, if_neg (by omega), szB, if_neg (by omega)]; rfl
    rintro ⟨k, m⟩ ⟨hk, hm, hi⟩
    have hm' := hm.1
    unfold Sz at hm'
    (repeat' ((conv => whnf); first | (with_reducible first | refine Br.ff ?_ | refine Br.tt ?_ | refine Br.not ?_ | refine Br.yes (by assumption) ?_ | refine Br.no (by assumption) ?_ | (refine Br.dec (fun h => ?_) (fun h => ?_) <;> try simp only [lm] at h)) | ((with_reducible refine Br.mk (fun h => ?_) (fun h => ?_)) <;> (try simp only [lm] at h) <;> (first | have hw := within_iff.1 h | have hw := within_no.1 h | skip)) | with_reducible refine Arith.ok (by first | omega | (simp only [lm]; omega)) ?_ | with_reducible refine Idx.at (by first | omega | (simp only [lm] at *; omega)) (fun x hx => ?_) | with_reducible refine Idx.of_map (by first | omega | (simp only [lm] at *; omega)) (fun j x hj hx => ?_) | refine VC.mk (by first | omega | (simp only [lm]; omega)) ?_ | refine CallK.go (laws_szIntS x m hm.1) (fun _ => ?_) | refine CallD.go (laws_szIntS x m hm.1) ?_ | intro _)) <;> (try (conv => whnf))
    · refine ⟨?_, rfl, trivial⟩
      rw [drop_get hx, szL, szB, if_pos (by assumption)] at hi
      rw [← hi]
    · apply Exists.intro (⟨k + 1, _⟩)
      refine ⟨?_, rfl, ?_, ?_⟩
      rotate_left
      · (repeat' ((conv => whnf) <;> (first | exact trivial | exact rfl | with_reducible refine And.intro ?_ ?_)))
      · (try dsimp only); (try simp only [List.length_map]); omega
      rw [drop_get hx, szL, szB, if_neg (by assumption)] at hi
      exact ⟨by omega, ⟨szN_ok hm.1, by omega⟩, hi⟩
    · refine ⟨?_, rfl, trivial⟩
      rw [← hi, drop_end' (by assumption)]; rfl
  · refine ⟨?_, rfl, trivial⟩
    rw [szS, szN, if_pos (by omega)]; rfl

theorem laws_szStepS (l : List Step) (n : Int) (hn : Sz n) : Con 148 [.d (.sl (l.map Step.av)), .d (i64 n)] (.d (i64 (szN l.length n))) := by
  refine con Tryz.func148 rfl rfl Tryz.call148 rfl fun hwf => ?_
  simp only [ARs.wf, AR.wf, AV.wf, AV.wfs, List.length_map, lim] at hwf
  unfold Sz at hn
  (repeat' ((conv => whnf); first | (with_reducible first | refine Br.ff ?_ | refine Br.tt ?_ | refine Br.not ?_ | refine Br.yes (by assumption) ?_ | refine Br.no (by assumption) ?_ | (refine Br.dec (fun h => ?_) (fun h => ?_) <;> try simp only [lm] at h)) | ((with_reducible refine Br.mk (fun h => ?_) (fun h => ?_)) <;> (try simp only [lm] at h) <;> (first | have hw := within_iff.1 h | have hw := within_no.1 h | skip)) | with_reducible refine Arith.ok (by first | omega | (simp only [lm]; omega)) ?_ | refine VC.mk (by first | omega | (simp only [lm]; omega)) ?_ | intro _)) <;> (try (conv => whnf))
  all_goals refine ⟨?_, rfl, trivial⟩
  all_goals (simp only [szN, List.length_map]; first | (rw [if_pos (by omega)]; done) | (rw [if_neg (by omega)]; done))

def szMode (x : Mode) (n : Int) : Int := szB (szN x.use.length n) fun n => szB (szN x.con.length n) fun n => n

theorem szMode_ok {x : Mode} {n : Int} (h : Sz n) : Sz (szMode x n) := by
  unfold szMode
  refine szB_ok (szN_ok h) fun h => ?_
  refine szB_ok (szN_ok h) fun h => ?_
  exact h

theorem laws_szMode (x : Mode) (n : Int) (hn : Sz n) : Con 208 [.d x.av, .d (i64 n)] (.d (i64 (szMode x n))) := by
  refine con Tryz.func208 rfl rfl Tryz.call208 rfl fun hwf => ?_
  simp only [ARs.wf, AR.wf, AV.wf, AV.wfs, List.length_map, lim] at hwf
  have h0 : Sz (szN x.use.length n) := szN_ok hn
  have h1 : Sz (szN x.con.length (szN x.use.length n)) := szN_ok h0
  (repeat' ((conv => whnf); first | (with_reducible first | refine Br.ff ?_ | refine Br.tt ?_ | refine Br.not ?_ | refine Br.yes (by assumption) ?_ | refine Br.no (by assumption) ?_ | (refine Br.dec (fun h => ?_) (fun h => ?_) <;> try simp only [lm] at h)) | ((with_reducible refine Br.mk (fun h => ?_) (fun h => ?_)) <;> (try simp only [lm] at h) <;> (first | have hw := within_iff.1 h | have hw := within_no.1 h | skip)) | refine CallK.go (laws_szIntS x.use n hn) (fun _ => ?_) | refine CallD.go (laws_szIntS x.use n hn) ?_ | refine CallK.go (laws_szIntS x.con (szN x.use.length n) h0) (fun _ => ?_) | refine CallD.go (laws_szIntS x.con (szN x.use.length n) h0) ?_ | intro _)) <;> (try (conv => whnf))
  all_goals refine ⟨?_, rfl, trivial⟩
  all_goals (unfold szMode; simp only [szB, *, if_true, if_false, ite_true, ite_false])

theorem laws_szModeS (l : List Mode) (n : Int) (hn : Sz n) : Con 147 [.d (.sl (l.map Mode.av)), .d (i64 n)] (.d (i64 (szS (fun x n => szMode x n) l n))) := by
  refine con Tryz.func147 rfl rfl Tryz.call147 rfl fun hwf => ?_
  simp only [ARs.wf, AR.wf, AV.wf, AV.wfs, List.length_map, lim] at hwf
  have hn' := hn
  unfold Sz at hn'
  (repeat' ((conv => whnf); first | (with_reducible first | refine Br.ff ?_ | refine Br.tt ?_ | refine Br.not ?_ | refine Br.yes (by assumption) ?_ | refine Br.no (by assumption) ?_ | (refine Br.dec (fun h => ?_) (fun h => ?_) <;> try simp only [lm] at h)) | ((with_reducible refine Br.mk (fun h => ?_) (fun h => ?_)) <;> (try simp only [lm] at h) <;> (first | have hw := within_iff.1 h | have hw := within_no.1 h | skip)) | with_reducible refine Arith.ok (by first | omega | (simp only [lm]; omega)) ?_ | with_reducible refine Idx.at (by first | omega | (simp only [lm] at *; omega)) (fun x hx => ?_) | with_reducible refine Idx.of_map (by first | omega | (simp only [lm] at *; omega)) (fun j x hj hx => ?_) | refine VC.mk (by first | omega | (simp only [lm]; omega)) ?_ | intro _)) <;> (try (conv => whnf))
  rotate_left
  · refine loopF [0] [] [] ?_
    (conv => whnf)
    refine LoopC.mk ((Nat) × (Int)) (fun ⟨k, m⟩ => (k ≤ l.length) ∧ (Sz m ∧ 0 ≤ m) ∧ (szL (fun x n => szMode x n) (l.drop k) m = szS (fun x n => szMode x n) l n)) (fun ⟨k, m⟩ => [(5, .data (i64 k)), (1, .data (i64 m))]) (fun _ => []) (fun _ => []) (fun ⟨k, m⟩ => l.length - k) ⟨0, n - ((l.map Mode.av).length : Int)⟩ ?_ ?_ ?_
    rotate_left
    · (repeat' ((conv => whnf) <;> (first | exact trivial | exact rfl | with_reducible refine And.intro ?_ ?_)))
    rotate_left
    · simp only [List.length_map]
      refine ⟨by omega, by unfold Sz; omega, ?_⟩
      rw [szS, szN, if_neg (by omega), szB, if_neg (by omega)]; rfl
    rintro ⟨k, m⟩ ⟨hk, hm, hi⟩
    have hm' := hm.1
    unfold Sz at hm'
    (repeat' ((conv => whnf); first | (with_reducible first | refine Br.ff ?_ | refine Br.tt ?_ | refine Br.not ?_ | refine Br.yes (by assumption) ?_ | refine Br.no (by assumption) ?_ | (refine Br.dec (fun h => ?_) (fun h => ?_) <;> try simp only [lm] at h)) | ((with_reducible refine Br.mk (fun h => ?_) (fun h => ?_)) <;> (try simp only [lm] at h) <;> (first | have hw := within_iff.1 h | have hw := within_no.1 h | skip)) | with_reducible refine Arith.ok (by first | omega | (simp only [lm]; omega)) ?_ | with_reducible refine Idx.at (by first | omega | (simp only [lm] at *; omega)) (fun x hx => ?_) | with_reducible refine Idx.of_map (by first | omega | (simp only [lm] at *; omega)) (fun j x hj hx => ?_) | refine VC.mk (by first | omega | (simp only [lm]; omega)) ?_ | refine CallK.go (laws_szMode x m hm.1) (fun _ => ?_) | refine CallD.go (laws_szMode x m hm.1) ?_ | intro _)) <;> (try (conv => whnf))
    · refine ⟨?_, rfl, trivial⟩
      rw [drop_get hx, szL, szB, if_pos (by assumption)] at hi
      rw [← hi]
    · apply Exists.intro (⟨k + 1, _⟩)
      refine ⟨?_, rfl, ?_, ?_⟩
      rotate_left
      · (repeat' ((conv => whnf) <;> (first | exact trivial | exact rfl | with_reducible refine And.intro ?_ ?_)))
      · (try dsimp only); (try simp only [List.length_map]); omega
      rw [drop_get hx, szL, szB, if_neg (by assumption)] at hi
      exact ⟨by omega, ⟨szMode_ok hm.1, by omega⟩, hi⟩
    · refine ⟨?_, rfl, trivial⟩
      rw [← hi, drop_end' (by assumption)]; rfl
  · refine ⟨?_, rfl, trivial⟩
    rw [szS, szN, if_pos (by omega)]; rfl

def szActivity (x : Activ) (n : Int) : Int := szB (szN x.name.size n) fun n => szB (szS (fun x n => szMode x n) x.modes n) fun n => n

theorem szActivity_ok {x : Activ} {n : Int} (h : Sz n) : Sz (szActivity x n) := by
  unfold szActivity
  refine szB_ok (szN_ok h) fun h => ?_
  refine szB_ok ((szS_ok fun h => szMode_ok h) h) fun h => ?_
  exact h

theorem laws_szActivity (x : Activ) (n : Int) (hn : Sz n) (hf : x.name.size ≤ lim) : Con 79 [.d x.av, .d (i64 n)] (.d (i64 (szActivity x n))) := by
  refine con Tryz.func79 rfl rfl Tryz.call79 rfl fun hwf => ?_
  simp only [ARs.wf, AR.wf, AV.wf, AV.wfs, List.length_map, lim] at hwf
  have hn' := hn
  unfold Sz at hn'
  unfold lim at hf
  by_cases hneg : n - (x.name.size : Int) < 0
  · (repeat' ((conv => whnf); first | (with_reducible first | refine Br.ff ?_ | refine Br.tt ?_ | refine Br.not ?_ | refine Br.yes (by assumption) ?_ | refine Br.no (by assumption) ?_ | (refine Br.dec (fun h => ?_) (fun h => ?_) <;> try simp only [lm] at h)) | ((with_reducible refine Br.mk (fun h => ?_) (fun h => ?_)) <;> (try simp only [lm] at h) <;> (first | have hw := within_iff.1 h | have hw := within_no.1 h | skip)) | with_reducible refine Arith.ok (by first | omega | (simp only [lm]; omega)) ?_ | refine VC.mk (by first | omega | (simp only [lm]; omega)) ?_ | intro _)) <;> (try (conv => whnf))
    · refine ⟨?_, rfl, trivial⟩
      rw [szActivity, szN, if_pos hneg]; rfl
    · exact absurd hneg (by assumption)
  · have h0 : Sz (n - (x.name.size : Int)) := by unfold Sz; omega
    (repeat' ((conv => whnf); first | (with_reducible first | refine Br.ff ?_ | refine Br.tt ?_ | refine Br.not ?_ | refine Br.yes (by assumption) ?_ | refine Br.no (by assumption) ?_ | (refine Br.dec (fun h => ?_) (fun h => ?_) <;> try simp only [lm] at h)) | ((with_reducible refine Br.mk (fun h => ?_) (fun h => ?_)) <;> (try simp only [lm] at h) <;> (first | have hw := within_iff.1 h | have hw := within_no.1 h | skip)) | with_reducible refine Arith.ok (by first | omega | (simp only [lm]; omega)) ?_ | refine VC.mk (by first | omega | (simp only [lm]; omega)) ?_ | refine CallK.go (laws_szModeS x.modes _ h0) (fun _ => ?_) | refine CallD.go (laws_szModeS x.modes _ h0) ?_ | intro _)) <;> (try (conv => whnf))
    all_goals first
      | (exfalso; exact hneg (by assumption))
      | (refine ⟨?_, rfl, trivial⟩; rw [szActivity, szN, if_neg hneg, szB, if_neg hneg, szB]; first | (rw [if_pos (by assumption)]; done) | (rw [if_neg (by assumption)]; done))

theorem laws_szActivityS (l : List Activ) (n : Int) (hn : Sz n) (hf : ∀ x ∈ l, x.name.size ≤ lim) : Con 31 [.d (.sl (l.map Activ.av)), .d (i64 n)] (.d (i64 (szS (fun x n => szActivity x n) l n))) := by
  refine con Tryz.func31 rfl rfl Tryz.call31 rfl fun hwf => ?_
  simp only [ARs.wf, AR.wf, AV.wf, AV.wfs, List.length_map, lim] at hwf
  have hn' := hn
  unfold Sz at hn'
  (repeat' ((conv => whnf); first | (with_reducible first | refine Br.ff ?_ | refine Br.tt ?_ | refine Br.not ?_ | refine Br.yes (by assumption) ?_ | refine Br.no (by assumption) ?_ | (refine Br.dec (fun h => ?_) (fun h => ?_) <;> try simp only [lm] at h)) | ((with_reducible refine Br.mk (fun h => ?_) (fun h => ?_)) <;> (try simp only [lm] at h) <;> (first | have hw := within_iff.1 h | have hw := within_no.1 h | skip)) | with_reducible refine Arith.ok (by first | omega | (simp only [lm]; omega)) ?_ | with_reducible refine Idx.at (by first | omega | (simp only [lm] at *; omega)) (fun x hx => ?_) | with_reducible refine Idx.of_map (by first | omega | (simp only [lm] at *; omega)) (fun j x hj hx => ?_) | refine VC.mk (by first | omega | (simp only [lm]; omega)) ?_ | intro _)) <;> (try (conv => whnf))
  rotate_left
  · refine loopF [0] [] [] ?_
    (conv => whnf)
    refine LoopC.mk ((Nat) × (Int)) (fun ⟨k, m⟩ => (k ≤ l.length) ∧ (Sz m ∧ 0 ≤ m) ∧ (szL (fun x n => szActivity x n) (l.drop k) m = szS (fun x n => szActivity x n) l n)) (fun ⟨k, m⟩ => [(5, .data (i64 k)), (1, .data (i64 m))]) (fun _ => []) (fun _ => []) (fun ⟨k, m⟩ => l.length - k) ⟨0, n - ((l.map Activ.av).length : Int)⟩ ?_ ?_ ?_
    rotate_left
    · (repeat' ((conv => whnf) <;> (first | exact trivial | exact rfl | with_reducible refine And.intro ?_ ?_)))
    rotate_left
    · simp only [List.length_map]
      refine ⟨by omega, by unfold Sz; omega, ?_⟩
      rw [szS, szN, if_neg (by omega), szB, if_neg (by omega)]; rfl
    rintro ⟨k, m⟩ ⟨hk, hm, hi⟩
    have hm' := hm.1
    unfold Sz at hm'
    (repeat' ((conv => whnf); first | (with_reducible first | refine Br.ff ?_ | refine Br.tt ?_ | refine Br.not ?_ | refine Br.yes (by assumption) ?_ | refine Br.no (by assumption) ?_ | (refine Br.dec (fun h => ?_) (fun h => ?_) <;> try simp only [lm] at h)) | ((with_reducible refine Br.mk (fun h => ?_) (fun h => ?_)) <;> (try simp only [lm] at h) <;> (first | have hw := within_iff.1 h | have hw := within_no.1 h | skip)) | with_reducible refine Arith.ok (by first | omega | (simp only [lm]; omega)) ?_ | with_reducible refine Idx.at (by first | omega | (simp only [lm] at *; omega)) (fun x hx => ?_) | with_reducible refine Idx.of_map (by first | omega | (simp only [lm] at *; omega)) (fun j x hj hx => ?_) | refine VC.mk (by first | omega | (simp only [lm]; omega)) ?_ | refine CallK.go (laws_szActivity x m hm.1 (hf x (List.mem_of_getElem? hx))) (fun _ => ?_) | refine CallD.go (laws_szActivity x m hm.1 (hf x (List.mem_of_getElem? hx))) ?_ | intro _)) <;> (try (conv => whnf))
    · refine ⟨?_, rfl, trivial⟩
      rw [drop_get hx, szL, szB, if_pos (by assumption)] at hi
      rw [← hi]
    · apply Exists.intro (⟨k + 1, _⟩)
      refine ⟨?_, rfl, ?_, ?_⟩
      rotate_left
      · (repeat' ((conv => whnf) <;> (first | exact trivial | exact rfl | with_reducible refine And.intro ?_ ?_)))
      · (try dsimp only); (try simp only [List.length_map]); omega
      rw [drop_get hx, szL, szB, if_neg (by assumption)] at hi
      exact ⟨by omega, ⟨szActivity_ok hm.1, by omega⟩, hi⟩
    · refine ⟨?_, rfl, trivial⟩
      rw [← hi, drop_end' (by assumption)]; rfl
  · refine ⟨?_, rfl, trivial⟩
    rw [szS, szN, if_pos (by omega)]; rfl

theorem laws_szLinkS (l : List Link) (n : Int) (hn : Sz n) : Con 32 [.d (.sl (l.map Link.av)), .d (i64 n)] (.d (i64 (szN l.length n))) := by
  refine con Tryz.func32 rfl rfl Tryz.call32 rfl fun hwf => ?_
  simp only [ARs.wf, AR.wf, AV.wf, AV.wfs, List.length_map, lim] at hwf
  unfold Sz at hn
  (repeat' ((conv => whnf); first | (with_reducible first | refine Br.ff ?_ | refine Br.tt ?_ | refine Br.not ?_ | refine Br.yes (by assumption) ?_ | refine Br.no (by assumption) ?_ | (refine Br.dec (fun h => ?_) (fun h => ?_) <;> try simp only [lm] at h)) | ((with_reducible refine Br.mk (fun h => ?_) (fun h => ?_)) <;> (try simp only [lm] at h) <;> (first | have hw := within_iff.1 h | have hw := within_no.1 h | skip)) | with_reducible refine Arith.ok (by first | omega | (simp only [lm]; omega)) ?_ | refine VC.mk (by first | omega | (simp only [lm]; omega)) ?_ | intro _)) <;> (try (conv => whnf))
  all_goals refine ⟨?_, rfl, trivial⟩
  all_goals (simp only [szN, List.length_map]; first | (rw [if_pos (by omega)]; done) | (rw [if_neg (by omega)]; done))

def szResource (x : Resrc) (n : Int) : Int := szB (szN x.steps.length n) fun n => szB (szS (fun x n => szN x.length n) x.setup n) fun n => n

theorem szResource_ok {x : Resrc} {n : Int} (h : Sz n) : Sz (szResource x n) := by
  unfold szResource
  refine szB_ok (szN_ok h) fun h => ?_
  refine szB_ok ((szS_ok fun h => szN_ok h) h) fun h => ?_
  exact h

theorem laws_szResource (x : Resrc) (n : Int) (hn : Sz n) : Con 80 [.d x.av, .d (i64 n)] (.d (i64 (szResource x n))) := by
  refine con Tryz.func80 rfl rfl Tryz.call80 rfl fun hwf => ?_
  simp only [ARs.wf, AR.wf, AV.wf, AV.wfs, List.length_map, lim] at hwf
  have h0 : Sz (szN x.steps.length n) := szN_ok hn
  have h1 : Sz (szS (fun x n => szN x.length n) x.setup (szN x.steps.length n)) := szS_ok (fun h => szN_ok h) h0
  (repeat' ((conv => whnf); first | (with_reducible first | refine Br.ff ?_ | refine Br.tt ?_ | refine Br.not ?_ | refine Br.yes (by assumption) ?_ | refine Br.no (by assumption) ?_ | (refine Br.dec (fun h => ?_) (fun h => ?_) <;> try simp only [lm] at h)) | ((with_reducible refine Br.mk (fun h => ?_) (fun h => ?_)) <;> (try simp only [lm] at h) <;> (first | have hw := within_iff.1 h | have hw := within_no.1 h | skip)) | refine CallK.go (laws_szStepS x.steps n hn) (fun _ => ?_) | refine CallD.go (laws_szStepS x.steps n hn) ?_ | refine CallK.go (laws_szIntSS x.setup (szN x.steps.length n) h0) (fun _ => ?_) | refine CallD.go (laws_szIntSS x.setup (szN x.steps.length n) h0) ?_ | intro _)) <;> (try (conv => whnf))
  all_goals refine ⟨?_, rfl, trivial⟩
  all_goals (unfold szResource; simp only [szB, *, if_true, if_false, ite_true, ite_false])

theorem laws_szResourceS (l : List Resrc) (n : Int) (hn : Sz n) : Con 33 [.d (.sl (l.map Resrc.av)), .d (i64 n)] (.d (i64 (szS (fun x n => szResource x n) l n))) := by
  refine con Tryz.func33 rfl rfl Tryz.call33 rfl fun hwf => ?_
  simp only [ARs.wf, AR.wf, AV.wf, AV.wfs, List.length_map, lim] at hwf
  have hn' := hn
  unfold Sz at hn'
  (repeat' ((conv => whnf); first | (with_reducible first | refine Br.ff ?_ | refine Br.tt ?_ | refine Br.not ?_ | refine Br.yes (by assumption) ?_ | refine Br.no (by assumption) ?_ | (refine Br.dec (fun h => ?_) (fun h => ?_) <;> try simp only [lm] at h)) | ((with_reducible refine Br.mk (fun h => ?_) (fun h => ?_)) <;> (try simp only [lm] at h) <;> (first | have hw := within_iff.1 h | have hw := within_no.1 h | skip)) | with_reducible refine Arith.ok (by first | omega | (simp only [lm]; omega)) ?_ | with_reducible refine Idx.at (by first | omega | (simp only [lm] at *; omega)) (fun x hx => ?_) | with_reducible refine Idx.of_map (by first | omega | (simp only [lm] at *; omega)) (fun j x hj hx => ?_) | refine VC.mk (by first | omega | (simp only [lm]; omega)) ?_ | intro _)) <;> (try (conv => whnf))
  rotate_left
  · refine loopF [0] [] [] ?_
    (conv => whnf)
    refine LoopC.mk ((Nat) × (Int)) (fun ⟨k, m⟩ => (k ≤ l.length) ∧ (Sz m ∧ 0 ≤ m) ∧ (szL (fun x n => szResource x n) (l.drop k) m = szS (fun x n => szResource x n) l n)) (fun ⟨k, m⟩ => [(5, .data (i64 k)), (1, .data (i64 m))]) (fun _ => []) (fun _ => []) (fun ⟨k, m⟩ => l.length - k) ⟨0, n - ((l.map Resrc.av).length : Int)⟩ ?_ ?_ ?_
    rotate_left
    · (repeat' ((conv => whnf) <;> (first | exact trivial | exact rfl | with_reducible refine And.intro ?_ ?_)))
    rotate_left
    · simp only [List.length_map]
      refine ⟨by omega, by unfold Sz; omega, ?_⟩
      rw [szS, szN, if_neg (by omega), szB, if_neg (by omega)]; rfl
    rintro ⟨k, m⟩ ⟨hk, hm, hi⟩
    have hm' := hm.1
    unfold Sz at hm'
    (repeat' ((conv => whnf); first | (with_reducible first | refine Br.ff ?_ | refine Br.tt ?_ | refine Br.not ?_ | refine Br.yes (by assumption) ?_ | refine Br.no (by assumption) ?_ | (refine Br.dec (fun h => ?_) (fun h => ?_) <;> try simp only [lm] at h)) | ((with_reducible refine Br.mk (fun h => ?_) (fun h => ?_)) <;> (try simp only [lm] at h) <;> (first | have hw := within_iff.1 h | have hw := within_no.1 h | skip)) | with_reducible refine Arith.ok (by first | omega | (simp only [lm]; omega)) ?_ | with_reducible refine Idx.at (by first | omega | (simp only [lm] at *; omega)) (fun x hx => ?_) | with_reducible refine Idx.of_map (by first | omega | (simp only [lm] at *; omega)) (fun j x hj hx => ?_) | refine VC.mk (by first | omega | (simp only [lm]; omega)) ?_ | refine CallK.go (laws_szResource x m hm.1) (fun _ => ?_) | refine CallD.go (laws_szResource x m hm.1) ?_ | intro _)) <;> (try (conv => whnf))
    · refine ⟨?_, rfl, trivial⟩
      rw [drop_get hx, szL, szB, if_pos (by assumption)] at hi
      rw [← hi]
    · apply Exists.intro (⟨k + 1, _⟩)
      refine ⟨?_, rfl, ?_, ?_⟩
      rotate_left
      · (repeat' ((conv => whnf) <;> (first | exact trivial | exact rfl | with_reducible refine And.intro ?_ ?_)))
      · (try dsimp only); (try simp only [List.length_map]); omega
      rw [drop_get hx, szL, szB, if_neg (by assumption)] at hi
      exact ⟨by omega, ⟨szResource_ok hm.1, by omega⟩, hi⟩
    · refine ⟨?_, rfl, trivial⟩
      rw [← hi, drop_end' (by assumption)]; rfl
  · refine ⟨?_, rfl, trivial⟩
    rw [szS, szN, if_pos (by omega)]; rfl

def szProject (x : Proj) (n : Int) : Int := szB (szS (fun x n => szActivity x n) x.acts n) fun n => szB (szN x.links.length n) fun n => szB (szS (fun x n => szResource x n) x.ress n) fun n => szB (szN x.stocks.length n) fun n => n

theorem szProject_ok {x : Proj} {n : Int} (h : Sz n) : Sz (szProject x n) := by
  unfold szProject
  refine szB_ok ((szS_ok fun h => szActivity_ok h) h) fun h => ?_
  refine szB_ok (szN_ok h) fun h => ?_
  refine szB_ok ((szS_ok fun h => szResource_ok h) h) fun h => ?_
  refine szB_ok (szN_ok h) fun h => ?_
  exact h

theorem laws_szProject (x : Proj) (n : Int) (hn : Sz n) (hf : ∀ y ∈ x.acts, y.name.size ≤ lim) : Con 7 [.d x.av, .d (i64 n)] (.d (i64 (szProject x n))) := by
  refine con Tryz.func7 rfl rfl Tryz.call7 rfl fun hwf => ?_
  simp only [ARs.wf, AR.wf, AV.wf, AV.wfs, List.length_map, lim] at hwf
  have h0 : Sz (szS (fun x n => szActivity x n) x.acts n) := szS_ok (fun h => szActivity_ok h) hn
  have h1 : Sz (szN x.links.length (szS (fun x n => szActivity x n) x.acts n)) := szN_ok h0
  have h2 : Sz (szS (fun x n => szResource x n) x.ress (szN x.links.length (szS (fun x n => szActivity x n) x.acts n))) := szS_ok (fun h => szResource_ok h) h1
  have h3 : Sz (szN x.stocks.length (szS (fun x n => szResource x n) x.ress (szN x.links.length (szS (fun x n => szActivity x n) x.acts n)))) := szN_ok h2
  (repeat' ((conv => whnf); first | (with_reducible first | refine Br.ff ?_ | refine Br.tt ?_ | refine Br.not ?_ | refine Br.yes (by assumption) ?_ | refine Br.no (by assumption) ?_ | (refine Br.dec (fun h => ?_) (fun h => ?_) <;> try simp only [lm] at h)) | ((with_reducible refine Br.mk (fun h => ?_) (fun h => ?_)) <;> (try simp only [lm] at h) <;> (first | have hw := within_iff.1 h | have hw := within_no.1 h | skip)) | refine CallK.go (laws_szActivityS x.acts n hn hf) (fun _ => ?_) | refine CallD.go (laws_szActivityS x.acts n hn hf) ?_ | refine CallK.go (laws_szLinkS x.links (szS (fun x n => szActivity x n) x.acts n) h0) (fun _ => ?_) | refine CallD.go (laws_szLinkS x.links (szS (fun x n => szActivity x n) x.acts n) h0) ?_ | refine CallK.go (laws_szResourceS x.ress (szN x.links.length (szS (fun x n => szActivity x n) x.acts n)) h1) (fun _ => ?_) | refine CallD.go (laws_szResourceS x.ress (szN x.links.length (szS (fun x n => szActivity x n) x.acts n)) h1) ?_ | refine CallK.go (laws_szIntS x.stocks (szS (fun x n => szResource x n) x.ress (szN x.links.length (szS (fun x n => szActivity x n) x.acts n))) h2) (fun _ => ?_) | refine CallD.go (laws_szIntS x.stocks (szS (fun x n => szResource x n) x.ress (szN x.links.length (szS (fun x n => szActivity x n) x.acts n))) h2) ?_ | intro _)) <;> (try (conv => whnf))
  all_goals refine ⟨?_, rfl, trivial⟩
  all_goals (unfold szProject; simp only [szB, *, if_true, if_false, ite_true, ite_false])

def szDomain (x : Dom) (n : Int) : Int := szB (szN x.lo.length n) fun n => szB (szN x.hi.length n) fun n => szB (szS (fun x n => szN x.length n) x.modes n) fun n => n

theorem laws_szDomain (x : Dom) (n : Int) (hn : Sz n) : Con 8 [.d x.av, .d (i64 n)] (.d (i64 (szDomain x n))) := by
  refine con Tryz.func8 rfl rfl Tryz.call8 rfl fun hwf => ?_
  simp only [ARs.wf, AR.wf, AV.wf, AV.wfs, List.length_map, lim] at hwf
  have h0 : Sz (szN x.lo.length n) := szN_ok hn
  have h1 : Sz (szN x.hi.length (szN x.lo.length n)) := szN_ok h0
  have h2 : Sz (szS (fun x n => szN x.length n) x.modes (szN x.hi.length (szN x.lo.length n))) := szS_ok (fun h => szN_ok h) h1
  (repeat' ((conv => whnf); first | (with_reducible first | refine Br.ff ?_ | refine Br.tt ?_ | refine Br.not ?_ | refine Br.yes (by assumption) ?_ | refine Br.no (by assumption) ?_ | (refine Br.dec (fun h => ?_) (fun h => ?_) <;> try simp only [lm] at h)) | ((with_reducible refine Br.mk (fun h => ?_) (fun h => ?_)) <;> (try simp only [lm] at h) <;> (first | have hw := within_iff.1 h | have hw := within_no.1 h | skip)) | refine CallK.go (laws_szIntS x.lo n hn) (fun _ => ?_) | refine CallD.go (laws_szIntS x.lo n hn) ?_ | refine CallK.go (laws_szIntS x.hi (szN x.lo.length n) h0) (fun _ => ?_) | refine CallD.go (laws_szIntS x.hi (szN x.lo.length n) h0) ?_ | refine CallK.go (laws_szIntSS x.modes (szN x.hi.length (szN x.lo.length n)) h1) (fun _ => ?_) | refine CallD.go (laws_szIntSS x.modes (szN x.hi.length (szN x.lo.length n)) h1) ?_ | intro _)) <;> (try (conv => whnf))
  all_goals refine ⟨?_, rfl, trivial⟩
  all_goals (unfold szDomain; simp only [szB, *, if_true, if_false, ite_true, ite_false])

end Go.Proofs.YtgebcdkmchcifaaGreat.Abs
