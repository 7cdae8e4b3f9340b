/- Contracts: unit propagation. No statement of a claim. -/
import Derived.Test.YtepogmnolnlpmaaGreatC30
import Derived.Test.YtepogmnolnlpmaaGreatPlain
set_option linter.all false
set_option linter.unusedVariables false
set_option linter.unusedSimpArgs false
set_option maxRecDepth 20000
set_option maxHeartbeats 4000000
namespace Go.Proofs.YtepogmnolnlpmaaGreat.Abs
open Go.Proofs


theorem valueOf_zero {a b : Bool} : valueOf a b = 0 ↔ a = false ∧ b = false := by cases a <;> cases b <;> simp [valueOf]
theorem filter_less {m : List Int} {f : Int → Bool} {v : Int} (hv : v ∈ m) (h : f v = false) : (m.filter f).length < m.length := by
  rw [List.length_filter_lt_length_iff_exists]
  exact ⟨v, hv, by simp [h]⟩
theorem other {m : List Int} {v : Int} (hs : setOk m = true) (hv : v ∈ m) (hne : m ≠ [v]) : ∃ w ∈ m, w ≠ v := by
  have hp := setOk_pw hs
  match m, hv, hne, hp with
  | [x], hv, hne, _ => simp at hv; subst hv; exact absurd rfl hne
  | x :: y :: r, _, _, hp =>
    have : x < y := (List.pairwise_cons.1 hp).1 y (by simp)
    by_cases e : x = v
    · exact ⟨y, by simp, by omega⟩
    · exact ⟨x, by simp, e⟩
theorem mode_small {p : Proj} {b : Dom} {k : Nat} {a : Activ} {x y : Int} {m : List Int} (hg : DomGet p b k a x y m) {v : Int} (hv : v ∈ m) : clamped v = v := by
  obtain ⟨j, e, hj⟩ := hg.msub v hv
  have := hg.aok
  simp only [activOk, Bool.and_eq_true, within_iff] at this
  unfold clamped; omega
theorem restrict_less {p : Proj} {b : Dom} (h : domForm p b = true) {l : Lit} (hl : litValue b l = 0) : openness (restrict b l) < openness b := by
  obtain ⟨hd, hk1, hk2⟩ := litValue_kind hl
  obtain ⟨n, e1, e2, e3, e4, e5⟩ := hasDom_lt hd
  obtain ⟨h1, h2, h3, h4, h5⟩ := domForm_parts h
  obtain ⟨a, x, y, m, hg⟩ := dom_get h (k := n) (by omega)
  rw [litValue, if_pos hd] at hl
  rw [restrict, if_pos hd]
  dsimp only at hl ⊢
  rw [e2] at hl ⊢
  simp only [List.getD_eq_getElem?_getD, hg.lo, hg.hi, hg.modes, Option.getD_some] at hl ⊢
  have b1 := hg.lob
  have b2 := hg.hib
  unfold openness
  split
  · rename_i hk
    rw [if_pos hk, valueOf_zero] at hl
    simp only [decide_eq_false_iff_not] at hl
    have := sum_set (fun n : Int => (62 - n).toNat) (v := max x (clamped l.val)) hg.lo
    have hc : clamped l.val = l.val := by unfold clamped; omega
    dsimp only at this ⊢
    rw [hc] at this ⊢
    omega
  split
  · rename_i hk' hk
    rw [if_neg hk', if_pos hk, valueOf_zero] at hl
    simp only [decide_eq_false_iff_not] at hl
    have := sum_set (fun n : Int => (n + 2).toNat) (v := min y (clamped l.val)) hg.hi
    have hc : clamped l.val = l.val := by unfold clamped; omega
    dsimp only at this ⊢
    rw [hc] at this ⊢
    omega
  split
  · rename_i k1 k2 hk
    rw [if_neg k1, if_neg k2, if_pos hk, valueOf_zero] at hl
    simp only [decide_eq_false_iff_not, Bool.not_eq_false', List.contains_iff_mem] at hl
    rw [mode_small hg hl.2]
    obtain ⟨w, hw, hwv⟩ := other hg.mok hl.2 hl.1
    have hless := filter_less (f := fun n => decide (n = l.val)) hw (by simpa using hwv)
    have := sum_set List.length (v := m.filter fun n => decide (n = l.val)) hg.modes
    dsimp only at this ⊢
    omega
  split
  · rename_i k1 k2 k3 hk
    rw [if_neg k1, if_neg k2, if_neg k3, if_pos hk, valueOf_zero] at hl
    simp only [decide_eq_false_iff_not, Bool.not_eq_false', List.contains_iff_mem] at hl
    rw [mode_small hg hl.1]
    have hless := filter_less (f := fun n => decide (n ≠ l.val)) hl.1 (by simp)
    have := sum_set List.length (v := m.filter fun n => decide (n ≠ l.val)) hg.modes
    dsimp only at this ⊢
    omega
  · exfalso; omega

/-! ### The walk -/
theorem impl_UnitPropagate1 (l : List Lit) (d : Dom) : Con 342 [.d (lits l), .ref d.av] (.d (.bool (bites d l))) := by
  refine con Tryz.func342 rfl rfl Tryz.call342 rfl fun hwf => ?_
  (repeat' ((conv => whnf); first | refine gA ?_ | ((with_reducible first | refine gD (fun h => ?_) (fun h => ?_) | refine gE (fun h => ?_) (fun h => ?_)) <;> (try simp only [lm] at h) <;> try have hw := wn h) | refine gC (impl_ClauseStatus d l) ?_ | intro _)) <;> (try (conv => whnf))
  all_goals (refine ⟨?_, rfl, trivial⟩; simp [bites, sameLit, zeroLit, *]; try rfl)
theorem slices_IndexFunc_lits (l : List (List Lit)) (fc : Nat) (caps : List AV) (p : List Lit → Bool) (hc : ∀ x : List Lit, Con fc ([.d (lits x)] ++ caps.map .ref) (.d (.bool (p x)))) :
    Con 341 [.d (.sl (l.map lits)), .fn fc caps] (.d (i64 (findI p l 0))) := by
  refine con Tryz.func341 rfl rfl Tryz.call341 rfl fun hwf => ?_
  simp only [ARs.wf, AR.wf, AV.wf, AV.wfs, List.length_map, lim] at hwf
  (conv => whnf)
  refine loopF [0, 1, 7] [] [] ?_
  (conv => whnf)
  refine LoopC.go ((Nat)) (fun k => (k ≤ l.length) ∧ (findI p (l.drop k) k = findI p l 0)) (fun k => [(8, .data (i64 k))]) (fun _ => []) (fun _ => []) (fun k => l.length - k) (0) ?_ ?_
  · exact ⟨by omega, rfl⟩
  rintro k ⟨hk, hi⟩
  (repeat' ((conv => whnf); first | refine gA ?_ | ((with_reducible first | refine gD (fun h => ?_) (fun h => ?_) | refine gE (fun h => ?_) (fun h => ?_)) <;> (try simp only [lm] at h) <;> try have hw := wn h) | with_reducible refine gI (fun x hx => ?_) | with_reducible refine gJ (fun j x hj hx => ?_) | refine gV ?_ | refine gC (hc x) ?_ | intro _)) <;> (try (conv => whnf))
  all_goals first
    | exact trivial
    | (refine ⟨?_, rfl, trivial⟩; rw [drop_end' (l := l) (by assumption)] at hi; first | (simp_all [findI]; done) | (simp only [findI, ← hi]; clear hi; simp_all [findI]; done))
    | (refine ⟨?_, rfl, trivial⟩; rw [drop_get (l := l) (by assumption)] at hi; first | (simp_all [findI]; done) | (simp only [findI, ← hi]; clear hi; simp_all [findI]; done))
    | (refine nx (k + 1) ?_
       rw [drop_get (l := l) (by assumption)] at hi; refine ⟨by omega, ?_⟩; simp_all [findI]; done)
def RUp (r : Dom × Bool) : RV := .tup [.d r.1.av, .d (.bool r.2)]
theorem findI_find {α : Type} (p : α → Bool) : ∀ (l : List α) (k : Nat), (l.find? p = none ∧ findI p l k = -1) ∨ ∃ (n : Nat) (x : α), findI p l k = (k + n : Nat) ∧ l[n]? = some x ∧ l.find? p = some x ∧ p x = true
  | [], k => .inl ⟨rfl, rfl⟩
  | y :: r, k => by
    rw [findI, List.find?_cons]
    cases h : p y with
    | true => exact .inr ⟨0, y, by simp, rfl, rfl, h⟩
    | false =>
      simp only [Bool.false_eq_true, if_false]
      rcases findI_find p r (k + 1) with ⟨h1, h2⟩ | ⟨n, x, h1, h2, h3, h4⟩
      · exact .inl ⟨h1, h2⟩
      · exact .inr ⟨n + 1, x, by rw [h1]; congr 1; omega, by simpa using h2, h3, h4⟩

theorem domForm_setOk {p : Proj} {b : Dom} (h : domForm p b = true) {m : List Int} (hm : m ∈ b.modes) : setOk m = true := by
  obtain ⟨k, hk, rfl⟩ := List.getElem_of_mem hm
  obtain ⟨a, x, y, m', hg⟩ := dom_get h (k := k) (by have := (domForm_parts h).2.2.2.1; omega)
  have := hg.modes
  rw [List.getElem?_eq_getElem hk] at this
  cases this
  exact hg.mok
theorem upStep_next {p : Proj} {b : Dom} {l : List Lit} (hf : domForm p b = true) (hb : bites b l = true) (hs : ¬ (status b l).1 < 0) :
    domForm p (restrict b (status b l).2) = true ∧ openness (restrict b (status b l).2) < openness b := by
  refine ⟨restrict_form hf _, restrict_less hf ?_⟩
  simp only [bites, Bool.or_eq_true, Bool.and_eq_true, decide_eq_true_eq, Bool.not_eq_true'] at hb
  rcases hb with hb | ⟨h0, h1⟩
  · exact absurd hb hs
  · refine status_open (l := l) (by rw [← h0]) fun e => ?_
    rw [e] at h1
    rw [sameLit_iff.2 rfl] at h1
    cases h1
theorem impl_UnitPropagate (p : Proj) (list : List (List Lit)) (b : Dom) (hp : p.fine) : Con 281 [.d p.av, .d (.sl (list.map lits)), .d b.av] (RUp (unitProp p list b)) := by
  refine con Tryz.func281 rfl rfl Tryz.call281 rfl fun hwf => ?_
  simp only [ARs.wf, AR.wf, AV.wf, AV.wfs, List.length_map, lim] at hwf
  cases hf : domForm p b with
  | false =>
    (repeat' ((conv => whnf); first | refine gA ?_ | ((with_reducible first | refine gD (fun h => ?_) (fun h => ?_) | refine gE (fun h => ?_) (fun h => ?_)) <;> (try simp only [lm] at h) <;> try have hw := wn h) | with_reducible refine gI (fun x hx => ?_) | with_reducible refine gJ (fun j x hj hx => ?_) | refine gC (impl_copied b) ?_ | refine gC (impl_DomainForm p b hp) ?_ | intro _)) <;> (try (conv => whnf))
    rw [unitProp, if_neg (by simp [hf])]
    (repeat' ((conv => whnf) <;> (first | exact trivial | refine VC.mk rfl ?_)))
  | true =>
    rw [unitProp, if_pos hf]
    (repeat' ((conv => whnf); first | refine gA ?_ | ((with_reducible first | refine gD (fun h => ?_) (fun h => ?_) | refine gE (fun h => ?_) (fun h => ?_)) <;> (try simp only [lm] at h) <;> try have hw := wn h) | with_reducible refine gI (fun x hx => ?_) | with_reducible refine gJ (fun j x hj hx => ?_) | refine gC (impl_copied b) ?_ | refine gC (impl_DomainForm p b hp) ?_ | intro _)) <;> (try (conv => whnf))
    refine loopF [1, 6, 8] [6] [] ?_
    (conv => whnf)
    refine LoopC.go ((Dom) × (Nat)) (fun ⟨d, n⟩ => (domForm p d = true) ∧ (openness d < n) ∧ (upRun list n d = upRun list (openness b + 1) b)) (fun _ => []) (fun ⟨d, n⟩ => [(8, (AV.cells d.av).map SV.data)]) (fun _ => []) (fun ⟨d, n⟩ => n) ⟨b, openness b + 1⟩ ?_ ?_
    · exact ⟨hf, by omega, rfl⟩
    rintro ⟨d, n⟩ ⟨hd, hn, hi⟩
    obtain ⟨n, rfl⟩ : ∃ m, n = m + 1 := ⟨n - 1, by omega⟩
    rw [upRun, upStep] at hi
    rcases findI_find (bites d) list 0 with ⟨f1, f2⟩ | ⟨k, l, f1, f2, f3, f4⟩
    · rw [f1] at hi
      (repeat' ((conv => whnf); first | with_reducible refine Br.yes (decide_eq_true (by omega)) ?_ | refine gA ?_ | ((with_reducible first | refine gD (fun h => ?_) (fun h => ?_) | refine gE (fun h => ?_) (fun h => ?_)) <;> (try simp only [lm] at h) <;> try have hw := wn h) | with_reducible refine gI (fun x hx => ?_) | with_reducible refine gJ (fun j x hj hx => ?_) | refine gC (impl_DomainEmpty d) ?_ | refine gC (slices_IndexFunc_lits list 342 [d.av] _ fun x => impl_UnitPropagate1 x d) ?_ | intro _)) <;> (try (conv => whnf))
      · rw [if_pos h] at hi
        rw [← hi]
        (repeat' ((conv => whnf) <;> (first | exact trivial | refine VC.mk rfl ?_)))
      · rw [if_neg (Bool.eq_false_iff.1 h)] at hi
        rw [← hi]
        (repeat' ((conv => whnf) <;> (first | exact trivial | refine VC.mk rfl ?_)))
    · rw [f3] at hi
      by_cases hs : (status d l).1 < 0
      · (repeat' ((conv => whnf); first | with_reducible refine Br.no (decide_eq_false (by omega)) ?_ | with_reducible refine Idx.got f2 (by rw [f1, Nat.zero_add]) ?_ | refine gA ?_ | ((with_reducible first | refine gD (fun h => ?_) (fun h => ?_) | refine gE (fun h => ?_) (fun h => ?_)) <;> (try simp only [lm] at h) <;> try have hw := wn h) | with_reducible refine gI (fun x hx => ?_) | with_reducible refine gJ (fun j x hj hx => ?_) | refine gC (impl_DomainEmpty d) ?_ | refine gC (slices_IndexFunc_lits list 342 [d.av] _ fun x => impl_UnitPropagate1 x d) ?_ | refine gC (impl_ClauseStatus d l) ?_ | refine gC (impl_Restrict d _) ?_ | intro _)) <;> (try (conv => whnf))
        · rw [if_pos h] at hi
          rw [← hi]
          (repeat' ((conv => whnf) <;> (first | exact trivial | refine VC.mk rfl ?_)))
        · rw [if_neg (Bool.eq_false_iff.1 (by assumption))] at hi
          dsimp only at hi
          rw [if_pos hs] at hi
          rw [← hi]
          (repeat' ((conv => whnf) <;> (first | exact trivial | refine VC.mk rfl ?_)))
        · exact absurd hs (by assumption)
      · (repeat' ((conv => whnf); first | with_reducible refine Br.no (decide_eq_false (by omega)) ?_ | with_reducible refine Idx.got f2 (by rw [f1, Nat.zero_add]) ?_ | refine gA ?_ | ((with_reducible first | refine gD (fun h => ?_) (fun h => ?_) | refine gE (fun h => ?_) (fun h => ?_)) <;> (try simp only [lm] at h) <;> try have hw := wn h) | with_reducible refine gI (fun x hx => ?_) | with_reducible refine gJ (fun j x hj hx => ?_) | refine gC (impl_DomainEmpty d) ?_ | refine gC (slices_IndexFunc_lits list 342 [d.av] _ fun x => impl_UnitPropagate1 x d) ?_ | refine gC (impl_ClauseStatus d l) ?_ | refine gC (impl_Restrict d _) ?_ | intro _)) <;> (try (conv => whnf))
        · rw [if_pos h] at hi
          rw [← hi]
          (repeat' ((conv => whnf) <;> (first | exact trivial | refine VC.mk rfl ?_)))
        · have hnx := upStep_next hd f4 hs
          rw [if_neg (Bool.eq_false_iff.1 (by assumption))] at hi
          dsimp only at hi
          rw [if_neg hs] at hi
          refine nx ⟨restrict d (status d l).2, n⟩ ?_
          exact ⟨hnx.1, by omega, hi⟩
def stepOf (list : List (List Lit)) (b : Dom) : Int × Lit :=
  match list.find? (bites b) with
  | none => (0, zeroLit)
  | some l => if (status b l).1 < 0 then (1, zeroLit) else (2, (status b l).2)
theorem spec_l20Step (list : List (List Lit)) (b : Dom) : Con 353 [.d (.sl (list.map lits)), .d b.av] (RStat (stepOf list b)) := by
  refine con Tryz.func353 rfl rfl Tryz.call353 rfl fun hwf => ?_
  simp only [ARs.wf, AR.wf, AV.wf, AV.wfs, List.length_map, lim] at hwf
  (repeat' ((conv => whnf); first | refine gA ?_ | ((with_reducible first | refine gD (fun h => ?_) (fun h => ?_) | refine gE (fun h => ?_) (fun h => ?_)) <;> (try simp only [lm] at h) <;> try have hw := wn h) | with_reducible refine gI (fun x hx => ?_) | with_reducible refine gJ (fun j x hj hx => ?_) | refine gV ?_ | intro _)) <;> (try (conv => whnf))
  refine loopF [3, 5, 10, 11] [3, 5] [] ?_
  (conv => whnf)
  refine LoopC.go ((Nat)) (fun k => (k ≤ list.length) ∧ (stepOf (list.drop k) b = stepOf list b)) (fun k => [(12, .data (i64 k))]) (fun _ => []) (fun _ => []) (fun k => list.length - k) (0) ?_ ?_
  · exact ⟨by omega, rfl⟩
  rintro k ⟨hk, hi⟩
  by_cases hlt : k < list.length
  · obtain ⟨x, hx⟩ : ∃ x, list[k]? = some x := ⟨list[k]'hlt, by simp⟩
    rw [drop_get hx, stepOf, List.find?_cons, bites_eq] at hi
    (repeat' ((conv => whnf); first | with_reducible refine Idx.got hx rfl ?_ | refine gA ?_ | ((with_reducible first | refine gD (fun h => ?_) (fun h => ?_) | refine gE (fun h => ?_) (fun h => ?_)) <;> (try simp only [lm] at h) <;> try have hw := wn h) | with_reducible refine gI (fun x hx => ?_) | with_reducible refine gJ (fun j x hj hx => ?_) | refine gV ?_ | refine gC (spec_ClauseStatus b x) ?_ | intro _)) <;> (try (conv => whnf))
    · rw [decide_eq_true h] at hi
      simp only [Bool.true_or] at hi
      rw [if_pos (by omega)] at hi
      rw [← hi]
      (repeat' ((conv => whnf) <;> (first | exact trivial | refine VC.mk rfl ?_)))
    · rw [show (decide ((status b x).1 = -1) || (decide ((status b x).1 = 0) && !decide ((status b x).2.kind = 0))) = false by simp [*]] at hi
      refine nx (k + 1) ?_
      exact ⟨by omega, hi⟩
    · rw [show (decide ((status b x).1 = -1) || (decide ((status b x).1 = 0) && !decide ((status b x).2.kind = 0))) = true by simp [*]] at hi
      dsimp only at hi
      rw [if_neg (by omega)] at hi
      rw [← hi]
      (repeat' ((conv => whnf) <;> (first | exact trivial | refine VC.mk rfl ?_)))
    · rw [show (decide ((status b x).1 = -1) || (decide ((status b x).1 = 0) && !decide ((status b x).2.kind = 0))) = false by simp [*]] at hi
      refine nx (k + 1) ?_
      exact ⟨by omega, hi⟩
    · exfalso; omega
  · (repeat' ((conv => whnf); first | (exfalso; omega) | refine gA ?_ | ((with_reducible first | refine gD (fun h => ?_) (fun h => ?_) | refine gE (fun h => ?_) (fun h => ?_)) <;> (try simp only [lm] at h) <;> try have hw := wn h) | with_reducible refine gI (fun x hx => ?_) | with_reducible refine gJ (fun j x hj hx => ?_) | refine gV ?_ | intro _)) <;> (try (conv => whnf))
    rw [← hi, drop_end hlt]
    (repeat' ((conv => whnf) <;> (first | exact trivial | refine VC.mk rfl ?_)))
theorem spec_UnitPropagate (p : Proj) (list : List (List Lit)) (b : Dom) (hp : p.fine) : Con 311 [.d p.av, .d (.sl (list.map lits)), .d b.av] (RUp (unitProp p list b)) := by
  refine con Tryz.func311 rfl rfl Tryz.call311 rfl fun hwf => ?_
  simp only [ARs.wf, AR.wf, AV.wf, AV.wfs, List.length_map, lim] at hwf
  cases hf : domForm p b with
  | false =>
    (repeat' ((conv => whnf); first | refine gA ?_ | ((with_reducible first | refine gD (fun h => ?_) (fun h => ?_) | refine gE (fun h => ?_) (fun h => ?_)) <;> (try simp only [lm] at h) <;> try have hw := wn h) | refine gC (spec_l12Copy b) ?_ | refine gC (spec_DomainForm p b hp) ?_ | intro _)) <;> (try (conv => whnf))
    rw [unitProp, if_neg (by simp [hf])]
    (repeat' ((conv => whnf) <;> (first | exact trivial | refine VC.mk rfl ?_)))
  | true =>
    rw [unitProp, if_pos hf]
    (repeat' ((conv => whnf); first | refine gA ?_ | ((with_reducible first | refine gD (fun h => ?_) (fun h => ?_) | refine gE (fun h => ?_) (fun h => ?_)) <;> (try simp only [lm] at h) <;> try have hw := wn h) | refine gC (spec_l12Copy b) ?_ | refine gC (spec_DomainForm p b hp) ?_ | intro _)) <;> (try (conv => whnf))
    refine loopF [1, 6, 8] [6] [] ?_
    (conv => whnf)
    refine LoopC.go ((Dom) × (Nat)) (fun ⟨d, n⟩ => (domForm p d = true) ∧ (openness d < n) ∧ (upRun list n d = upRun list (openness b + 1) b)) (fun _ => []) (fun ⟨d, n⟩ => [(8, (AV.cells d.av).map SV.data)]) (fun _ => []) (fun ⟨d, n⟩ => n) ⟨b, openness b + 1⟩ ?_ ?_
    · exact ⟨hf, by omega, rfl⟩
    rintro ⟨d, n⟩ ⟨hd, hn, hi⟩
    obtain ⟨n, rfl⟩ : ∃ m, n = m + 1 := ⟨n - 1, by omega⟩
    rw [upRun, upStep] at hi
    have hst : stepOf list d = (match list.find? (bites d) with | none => (0, zeroLit) | some l => if (status d l).1 < 0 then (1, zeroLit) else (2, (status d l).2)) := rfl
    rcases findI_find (bites d) list 0 with ⟨f1, f2⟩ | ⟨k, l, f1, f2, f3, f4⟩
    · rw [f1] at hi hst
      replace hst : stepOf list d = (0, zeroLit) := hst
      have hS := spec_l20Step list d
      rw [hst] at hS
      (repeat' ((conv => whnf); first | with_reducible refine Br.no (decide_eq_false (by omega)) ?_ | with_reducible refine Br.yes (decide_eq_true (by omega)) ?_ | refine gA ?_ | ((with_reducible first | refine gD (fun h => ?_) (fun h => ?_) | refine gE (fun h => ?_) (fun h => ?_)) <;> (try simp only [lm] at h) <;> try have hw := wn h) | refine gC (spec_DomainEmpty d) ?_ | refine gC (hS) ?_ | intro _)) <;> (try (conv => whnf))
      · rw [if_pos h] at hi
        rw [← hi]
        (repeat' ((conv => whnf) <;> (first | exact trivial | refine VC.mk rfl ?_)))
      · rw [if_neg (Bool.eq_false_iff.1 h)] at hi
        rw [← hi]
        (repeat' ((conv => whnf) <;> (first | exact trivial | refine VC.mk rfl ?_)))
    · rw [f3] at hi hst
      by_cases hs : (status d l).1 < 0
      · replace hst : stepOf list d = (1, zeroLit) := by rw [hst]; dsimp only; rw [if_pos hs]
        have hS := spec_l20Step list d
        rw [hst] at hS
        (repeat' ((conv => whnf); first | with_reducible refine Br.no (decide_eq_false (by omega)) ?_ | with_reducible refine Br.yes (decide_eq_true (by omega)) ?_ | refine gA ?_ | ((with_reducible first | refine gD (fun h => ?_) (fun h => ?_) | refine gE (fun h => ?_) (fun h => ?_)) <;> (try simp only [lm] at h) <;> try have hw := wn h) | refine gC (spec_DomainEmpty d) ?_ | refine gC (hS) ?_ | intro _)) <;> (try (conv => whnf))
        · rw [if_pos h] at hi
          rw [← hi]
          (repeat' ((conv => whnf) <;> (first | exact trivial | refine VC.mk rfl ?_)))
        · rw [if_neg (Bool.eq_false_iff.1 (by assumption))] at hi
          dsimp only at hi
          rw [if_pos hs] at hi
          rw [← hi]
          (repeat' ((conv => whnf) <;> (first | exact trivial | refine VC.mk rfl ?_)))
      · replace hst : stepOf list d = (2, (status d l).2) := by rw [hst]; dsimp only; rw [if_neg hs]
        have hS := spec_l20Step list d
        rw [hst] at hS
        (repeat' ((conv => whnf); first | with_reducible refine Br.no (decide_eq_false (by omega)) ?_ | with_reducible refine Br.yes (decide_eq_true (by omega)) ?_ | refine gA ?_ | ((with_reducible first | refine gD (fun h => ?_) (fun h => ?_) | refine gE (fun h => ?_) (fun h => ?_)) <;> (try simp only [lm] at h) <;> try have hw := wn h) | refine gC (spec_DomainEmpty d) ?_ | refine gC (hS) ?_ | refine gC (spec_Restrict d (status d l).2 (fun m hm => domForm_setOk hd (List.mem_of_getElem? hm))) ?_ | intro _)) <;> (try (conv => whnf))
        · rw [if_pos h] at hi
          rw [← hi]
          (repeat' ((conv => whnf) <;> (first | exact trivial | refine VC.mk rfl ?_)))
        · have hnx := upStep_next hd f4 hs
          rw [if_neg (Bool.eq_false_iff.1 (by assumption))] at hi
          dsimp only at hi
          rw [if_neg hs] at hi
          refine nx ⟨restrict d (status d l).2, n⟩ ?_
          exact ⟨hnx.1, by omega, hi⟩
end Go.Proofs.YtepogmnolnlpmaaGreat.Abs
