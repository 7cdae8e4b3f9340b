/- Contracts: usage in schedules, spans. No statement of a claim. -/
import Derived.Test.YtjgblflcapilkaaGreatC17
set_option linter.all false
set_option linter.unusedVariables false
set_option linter.unusedSimpArgs false
set_option maxRecDepth 20000
set_option maxHeartbeats 4000000
namespace Go.Proofs.YtjgblflcapilkaaGreat.Abs
open Go.Proofs


theorem maxTo_bound {f : Nat → Int} {c : Int} : ∀ {n : Nat}, (∀ k, k < n → 0 ≤ f k ∧ f k ≤ c) → 0 ≤ c → 0 ≤ maxTo f n ∧ maxTo f n ≤ c
  | 0, _, hc => ⟨Int.le_refl _, hc⟩
  | n + 1, h, hc => by
    have h1 := maxTo_bound (n := n) (fun k hk => h k (by omega)) hc
    have h2 := h n (by omega)
    rw [maxTo]; omega
theorem impl_Makespan (p : Proj) (s : Sched) (hp : p.fine) : Con 33 [.d p.av, .d s.av] (.d (i64 (makespan p s))) := by
  refine con Tryz.func33 rfl rfl Tryz.call33 rfl fun hwf => ?_
  simp only [ARs.wf, AR.wf, AV.wf, AV.wfs, List.length_map, lim] at hwf
  cases hf : schedForm p s with
  | false =>
    (repeat' ((conv => whnf); first | (with_reducible first | refine Br.ff ?_ | refine Br.tt ?_ | refine Br.not ?_ | refine Br.yes (by assumption) ?_ | refine Br.no (by assumption) ?_ | (refine Br.dec (fun h => ?_) (fun h => ?_) <;> try simp only [lm] at h)) | ((with_reducible refine Br.mk (fun h => ?_) (fun h => ?_)) <;> (try simp only [lm] at h) <;> (first | have hw := within_iff.1 h | have hw := within_no.1 h | skip)) | with_reducible refine Arith.ok (by first | omega | (simp only [lm]; omega)) ?_ | refine VC.mk (by first | omega | (simp only [lm]; omega)) ?_ | refine CallK.mk _ (impl_ScheduleForm p s hp) (fun _ => ?_) | refine CallD.mk _ (fun _ hk => CallK.mk _ (impl_ScheduleForm p s hp) (fun _ => hk)) ?_ | intro _)) <;> (try (conv => whnf))
    refine ⟨?_, rfl, trivial⟩
    rw [makespan, if_neg (by simp [hf])]
  | true =>
    rw [makespan, if_pos hf]
    (repeat' ((conv => whnf); first | (with_reducible first | refine Br.ff ?_ | refine Br.tt ?_ | refine Br.not ?_ | refine Br.yes (by assumption) ?_ | refine Br.no (by assumption) ?_ | (refine Br.dec (fun h => ?_) (fun h => ?_) <;> try simp only [lm] at h)) | ((with_reducible refine Br.mk (fun h => ?_) (fun h => ?_)) <;> (try simp only [lm] at h) <;> (first | have hw := within_iff.1 h | have hw := within_no.1 h | skip)) | with_reducible refine Arith.ok (by first | omega | (simp only [lm]; omega)) ?_ | refine VC.mk (by first | omega | (simp only [lm]; omega)) ?_ | refine CallK.mk _ (impl_ScheduleForm p s hp) (fun _ => ?_) | refine CallD.mk _ (fun _ hk => CallK.mk _ (impl_ScheduleForm p s hp) (fun _ => hk)) ?_ | intro _)) <;> (try (conv => whnf))
    refine loopF [2, 3, 13] [2, 3] [] ?_
    (conv => whnf)
    refine LoopC.mk ((Nat) × (Int)) (fun ⟨k, n⟩ => (k ≤ p.acts.length) ∧ (n = maxTo (endOf p s) k)) (fun ⟨k, n⟩ => [(14, .data (i64 k)), (5, .data (i64 n))]) (fun _ => []) (fun _ => []) (fun ⟨k, n⟩ => p.acts.length - k) ⟨0, 0⟩ ?_ ?_ ?_
    rotate_left
    · (repeat' ((conv => whnf) <;> (first | exact trivial | exact rfl | with_reducible refine And.intro ?_ ?_)))
    rotate_left
    · exact ⟨by omega, rfl⟩
    rintro ⟨k, n⟩ ⟨hk, hn⟩
    by_cases hlt : k < p.acts.length
    · obtain ⟨a, t, m, q, mo, g⟩ := s_get hf hlt
      (repeat' ((conv => whnf); first | (with_reducible first | refine Br.ff ?_ | refine Br.tt ?_ | refine Br.not ?_ | refine Br.yes (by assumption) ?_ | refine Br.no (by assumption) ?_ | (refine Br.dec (fun h => ?_) (fun h => ?_) <;> try simp only [lm] at h)) | ((with_reducible refine Br.mk (fun h => ?_) (fun h => ?_)) <;> (try simp only [lm] at h) <;> (first | have hw := within_iff.1 h | have hw := within_no.1 h | skip)) | with_reducible refine Arith.ok (by first | omega | (simp only [lm]; omega)) ?_ | refine VC.mk (by first | omega | (simp only [lm]; omega)) ?_ | refine CallK.mk _ (impl_end p s _ g rfl) (fun _ => ?_) | refine CallD.mk _ (fun _ hk => CallK.mk _ (impl_end p s _ g rfl) (fun _ => hk)) ?_ | intro _)) <;> (try (conv => whnf))
      · refine ⟨⟨k + 1, max n (endOf p s k)⟩, ?_, rfl, ?_, ?_⟩
        rotate_left
        · (repeat' ((conv => whnf) <;> (first | exact trivial | exact rfl | with_reducible refine And.intro ?_ ?_)))
        · (try dsimp only); (try simp only [List.length_map]); omega
        exact ⟨by omega, by rw [maxTo, hn]⟩
      · exfalso; omega
    · (repeat' ((conv => whnf); first | (exfalso; omega) | (with_reducible first | refine Br.ff ?_ | refine Br.tt ?_ | refine Br.not ?_ | refine Br.yes (by assumption) ?_ | refine Br.no (by assumption) ?_ | (refine Br.dec (fun h => ?_) (fun h => ?_) <;> try simp only [lm] at h)) | ((with_reducible refine Br.mk (fun h => ?_) (fun h => ?_)) <;> (try simp only [lm] at h) <;> (first | have hw := within_iff.1 h | have hw := within_no.1 h | skip)) | with_reducible refine Arith.ok (by first | omega | (simp only [lm]; omega)) ?_ | refine VC.mk (by first | omega | (simp only [lm]; omega)) ?_ | intro _)) <;> (try (conv => whnf))
      refine ⟨?_, rfl, trivial⟩
      rw [hn, show k = p.acts.length by omega]
theorem spec_Makespan (p : Proj) (s : Sched) (hp : p.fine) : Con 51 [.d p.av, .d s.av] (.d (i64 (makespan p s))) := by
  refine con Tryz.func51 rfl rfl Tryz.call51 rfl fun hwf => ?_
  simp only [ARs.wf, AR.wf, AV.wf, AV.wfs, List.length_map, lim] at hwf
  cases hf : schedForm p s with
  | false =>
    (repeat' ((conv => whnf); first | (with_reducible first | refine Br.ff ?_ | refine Br.tt ?_ | refine Br.not ?_ | refine Br.yes (by assumption) ?_ | refine Br.no (by assumption) ?_ | (refine Br.dec (fun h => ?_) (fun h => ?_) <;> try simp only [lm] at h)) | ((with_reducible refine Br.mk (fun h => ?_) (fun h => ?_)) <;> (try simp only [lm] at h) <;> (first | have hw := within_iff.1 h | have hw := within_no.1 h | skip)) | with_reducible refine Arith.ok (by first | omega | (simp only [lm]; omega)) ?_ | refine VC.mk (by first | omega | (simp only [lm]; omega)) ?_ | refine CallK.mk _ (spec_ScheduleForm p s hp) (fun _ => ?_) | refine CallD.mk _ (fun _ hk => CallK.mk _ (spec_ScheduleForm p s hp) (fun _ => hk)) ?_ | intro _)) <;> (try (conv => whnf))
    refine ⟨?_, rfl, trivial⟩
    rw [makespan, if_neg (by simp [hf])]
  | true =>
    rw [makespan, if_pos hf]
    have hna := (projForm (schedForm_parts hf).1).nact
    (repeat' ((conv => whnf); first | (with_reducible first | refine Br.ff ?_ | refine Br.tt ?_ | refine Br.not ?_ | refine Br.yes (by assumption) ?_ | refine Br.no (by assumption) ?_ | (refine Br.dec (fun h => ?_) (fun h => ?_) <;> try simp only [lm] at h)) | ((with_reducible refine Br.mk (fun h => ?_) (fun h => ?_)) <;> (try simp only [lm] at h) <;> (first | have hw := within_iff.1 h | have hw := within_no.1 h | skip)) | with_reducible refine Arith.ok (by first | omega | (simp only [lm]; omega)) ?_ | refine VC.mk (by first | omega | (simp only [lm]; omega)) ?_ | refine CallK.mk _ (spec_ScheduleForm p s hp) (fun _ => ?_) | refine CallD.mk _ (fun _ hk => CallK.mk _ (spec_ScheduleForm p s hp) (fun _ => hk)) ?_ | intro _)) <;> (try (conv => whnf))
    refine loopF [2, 3, 13] [2, 3] [] ?_
    (conv => whnf)
    refine LoopC.mk ((Nat) × (Int)) (fun ⟨k, n⟩ => (k ≤ p.acts.length) ∧ (k = 0 → n = -1) ∧ (0 < k → n = maxTo (endOf p s) k)) (fun ⟨k, n⟩ => [(14, .data (i64 k)), (5, .data (i64 n))]) (fun _ => []) (fun _ => []) (fun ⟨k, n⟩ => p.acts.length - k) ⟨0, -1⟩ ?_ ?_ ?_
    rotate_left
    · (repeat' ((conv => whnf) <;> (first | exact trivial | exact rfl | with_reducible refine And.intro ?_ ?_)))
    rotate_left
    · exact ⟨by omega, fun _ => rfl, by omega⟩
    rintro ⟨k, n⟩ ⟨hk, h0, hn⟩
    by_cases hlt : k < p.acts.length
    · obtain ⟨a, t, m, q, mo, g⟩ := s_get hf hlt
      have hd := s_dur g
      have ht := g.tb
      have he := endOf_eq g
      (repeat' ((conv => whnf); first | (with_reducible first | refine Br.ff ?_ | refine Br.tt ?_ | refine Br.not ?_ | refine Br.yes (by assumption) ?_ | refine Br.no (by assumption) ?_ | (refine Br.dec (fun h => ?_) (fun h => ?_) <;> try simp only [lm] at h)) | ((with_reducible refine Br.mk (fun h => ?_) (fun h => ?_)) <;> (try simp only [lm] at h) <;> (first | have hw := within_iff.1 h | have hw := within_no.1 h | skip)) | with_reducible refine Arith.ok (by first | omega | (simp only [lm]; omega)) ?_ | refine VC.mk (by first | omega | (simp only [lm]; omega)) ?_ | refine CallK.mk _ (spec_l09End p s _ g rfl) (fun _ => ?_) | refine CallD.mk _ (fun _ hk => CallK.mk _ (spec_l09End p s _ g rfl) (fun _ => hk)) ?_ | refine CallK.mk _ (spec_l02Max _ _) (fun _ => ?_) | refine CallD.mk _ (fun _ hk => CallK.mk _ (spec_l02Max _ _) (fun _ => hk)) ?_ | intro _)) <;> (try (conv => whnf))
      · refine ⟨⟨k + 1, max n (endOf p s k)⟩, ?_, rfl, ?_, ?_⟩
        rotate_left
        · (repeat' ((conv => whnf) <;> (first | exact trivial | exact rfl | with_reducible refine And.intro ?_ ?_)))
        · (try dsimp only); (try simp only [List.length_map]); omega
        refine ⟨by omega, by omega, fun _ => ?_⟩
        rw [maxTo]
        by_cases hz : k = 0
        · subst hz; rw [h0 rfl, maxTo]; omega
        · rw [hn (by omega)]
      · exfalso; omega
    · (repeat' ((conv => whnf); first | (exfalso; omega) | (with_reducible first | refine Br.ff ?_ | refine Br.tt ?_ | refine Br.not ?_ | refine Br.yes (by assumption) ?_ | refine Br.no (by assumption) ?_ | (refine Br.dec (fun h => ?_) (fun h => ?_) <;> try simp only [lm] at h)) | ((with_reducible refine Br.mk (fun h => ?_) (fun h => ?_)) <;> (try simp only [lm] at h) <;> (first | have hw := within_iff.1 h | have hw := within_no.1 h | skip)) | with_reducible refine Arith.ok (by first | omega | (simp only [lm]; omega)) ?_ | refine VC.mk (by first | omega | (simp only [lm]; omega)) ?_ | intro _)) <;> (try (conv => whnf))
      refine ⟨?_, rfl, trivial⟩
      rw [hn (by omega), show k = p.acts.length by omega]

/-! ### Usage -/
theorem impl_keptIn (l : List Int) (fc : Nat) (caps : List AV) (p : Int → Bool) (hc : ∀ n ∈ l, Con fc ([.d (i64 n)] ++ caps.map .ref) (.d (.bool (p n)))) : Con 182 [.d (ints l), .fn fc caps] (.d (ints (l.filter p))) := by
  refine con Tryz.func182 rfl rfl Tryz.call182 rfl fun hwf => ?_
  simp only [ARs.wf, AR.wf, AV.wf, AV.wfs, List.length_map, lim] at hwf
  (repeat' ((conv => whnf); first | (with_reducible first | refine Br.ff ?_ | refine Br.tt ?_ | refine Br.not ?_ | refine Br.yes (by assumption) ?_ | refine Br.no (by assumption) ?_ | (refine Br.dec (fun h => ?_) (fun h => ?_) <;> try simp only [lm] at h)) | ((with_reducible refine Br.mk (fun h => ?_) (fun h => ?_)) <;> (try simp only [lm] at h) <;> (first | have hw := within_iff.1 h | have hw := within_no.1 h | skip)) | with_reducible refine Arith.ok (by first | omega | (simp only [lm]; omega)) ?_ | with_reducible refine Idx.at (by first | omega | (simp only [lm] at *; omega)) (fun x hx => ?_) | with_reducible refine Idx.of_map (by first | omega | (simp only [lm] at *; omega)) (fun j x hj hx => ?_) | refine VC.one (by (try dsimp only); unfold lim; first | omega | (simp only [lens, subList, upTo_len] at *; omega)) rfl ?_ | refine VC.one0 (by decide) rfl ?_ | refine VC.all (by (try dsimp only); unfold lim; first | omega | (simp only [lens, subList, upTo_len] at *; omega)) (fun _ => rfl) ?_ | refine VC.all0 (by (try dsimp only); unfold lim; first | omega | (simp only [lens, subList, upTo_len] at *; omega)) (fun _ => rfl) ?_ | refine VC.mk (by first | omega | (simp only [lm]; omega)) ?_ | intro _)) <;> (try (conv => whnf))
  refine loopF [1, 9, 10] [] [8] ?_
  (conv => whnf)
  refine LoopC.mk ((Nat) × (List Int)) (fun ⟨k, o⟩ => (k ≤ l.length) ∧ (o.length ≤ k) ∧ (o ++ (l.drop k).filter p = l.filter p)) (fun ⟨k, o⟩ => [(11, .data (i64 k)), (5, .own 8 0)]) (fun _ => []) (fun ⟨k, o⟩ => [(8, 3, o.map i64)]) (fun ⟨k, o⟩ => l.length - k) ⟨0, []⟩ ?_ ?_ ?_
  rotate_left
  · (repeat' ((conv => whnf) <;> (first | exact trivial | exact rfl | with_reducible refine And.intro ?_ ?_)))
  rotate_left
  · exact ⟨by omega, by simp, rfl⟩
  rintro ⟨k, o⟩ ⟨hk, ho, hi⟩
  by_cases hlt : k < l.length
  · obtain ⟨x, hx⟩ : ∃ x, l[k]? = some x := ⟨l[k]'hlt, by simp⟩
    (repeat' ((conv => whnf); first | with_reducible refine Idx.got hx rfl ?_ | (with_reducible first | refine Br.ff ?_ | refine Br.tt ?_ | refine Br.not ?_ | refine Br.yes (by assumption) ?_ | refine Br.no (by assumption) ?_ | (refine Br.dec (fun h => ?_) (fun h => ?_) <;> try simp only [lm] at h)) | ((with_reducible refine Br.mk (fun h => ?_) (fun h => ?_)) <;> (try simp only [lm] at h) <;> (first | have hw := within_iff.1 h | have hw := within_no.1 h | skip)) | with_reducible refine Arith.ok (by first | omega | (simp only [lm]; omega)) ?_ | with_reducible refine Idx.at (by first | omega | (simp only [lm] at *; omega)) (fun x hx => ?_) | with_reducible refine Idx.of_map (by first | omega | (simp only [lm] at *; omega)) (fun j x hj hx => ?_) | refine VC.one (by (try dsimp only); unfold lim; first | omega | (simp only [lens, subList, upTo_len] at *; omega)) rfl ?_ | refine VC.one0 (by decide) rfl ?_ | refine VC.all (by (try dsimp only); unfold lim; first | omega | (simp only [lens, subList, upTo_len] at *; omega)) (fun _ => rfl) ?_ | refine VC.all0 (by (try dsimp only); unfold lim; first | omega | (simp only [lens, subList, upTo_len] at *; omega)) (fun _ => rfl) ?_ | refine VC.mk (by first | omega | (simp only [lm]; omega)) ?_ | refine CallK.mk _ (hc x (List.mem_of_getElem? hx)) (fun _ => ?_) | refine CallD.mk _ (fun _ hk => CallK.mk _ (hc x (List.mem_of_getElem? hx)) (fun _ => hk)) ?_ | intro _)) <;> (try (conv => whnf))
    · refine ⟨⟨k + 1, o ++ [x]⟩, ?_, rfl, ?_, ?_⟩
      rotate_left
      · (repeat' ((conv => whnf) <;> (first | exact trivial | exact rfl | with_reducible refine And.intro ?_ ?_))) <;> ((conv => whnf) <;> (simp))
      · (try dsimp only); (try simp only [List.length_map]); omega
      exact ⟨by omega, by simp; omega, (filter_step hi hx).1 h⟩
    · refine ⟨⟨k + 1, o⟩, ?_, rfl, ?_, ?_⟩
      rotate_left
      · (repeat' ((conv => whnf) <;> (first | exact trivial | exact rfl | with_reducible refine And.intro ?_ ?_)))
      · (try dsimp only); (try simp only [List.length_map]); omega
      exact ⟨by omega, by omega, (filter_step hi hx).2 h⟩
    · exfalso; omega
  · (repeat' ((conv => whnf); first | (exfalso; omega) | (with_reducible first | refine Br.ff ?_ | refine Br.tt ?_ | refine Br.not ?_ | refine Br.yes (by assumption) ?_ | refine Br.no (by assumption) ?_ | (refine Br.dec (fun h => ?_) (fun h => ?_) <;> try simp only [lm] at h)) | ((with_reducible refine Br.mk (fun h => ?_) (fun h => ?_)) <;> (try simp only [lm] at h) <;> (first | have hw := within_iff.1 h | have hw := within_no.1 h | skip)) | with_reducible refine Arith.ok (by first | omega | (simp only [lm]; omega)) ?_ | with_reducible refine Idx.at (by first | omega | (simp only [lm] at *; omega)) (fun x hx => ?_) | with_reducible refine Idx.of_map (by first | omega | (simp only [lm] at *; omega)) (fun j x hj hx => ?_) | refine VC.one (by (try dsimp only); unfold lim; first | omega | (simp only [lens, subList, upTo_len] at *; omega)) rfl ?_ | refine VC.one0 (by decide) rfl ?_ | refine VC.all (by (try dsimp only); unfold lim; first | omega | (simp only [lens, subList, upTo_len] at *; omega)) (fun _ => rfl) ?_ | refine VC.all0 (by (try dsimp only); unfold lim; first | omega | (simp only [lens, subList, upTo_len] at *; omega)) (fun _ => rfl) ?_ | refine VC.mk (by first | omega | (simp only [lm]; omega)) ?_ | intro _)) <;> (try (conv => whnf))
    refine ⟨?_, rfl, trivial⟩
    rw [← hi, drop_end hlt]; simp
def runP (p : Proj) (s : Sched) (t : Int) (n : Int) : Bool := runs p s t n.toNat
theorem runs_eq {p : Proj} {s : Sched} {k : Nat} {a : Activ} {t m : Int} {q : Nat} {mo : Mode} (g : SGet p s k a t m q mo) (x : Int) : runs p s x k = (decide (t ≤ x) && decide (endOf p s k > x)) := by
  simp [runs, List.getD_eq_getElem?_getD, g.start]
theorem impl_running1 (p : Proj) (s : Sched) (t : Int) (n : Int) {k : Nat} {a : Activ} {u m : Int} {q : Nat} {mo : Mode} (g : SGet p s k a u m q mo) (hn : n = k) : Con 184 [.d (i64 n), .ref s.av, .ref (i64 t), .ref p.av] (.d (.bool (runP p s t n))) := by
  refine con Tryz.func184 rfl rfl Tryz.call184 rfl fun hwf => ?_
  have e : runP p s t n = (decide (u ≤ t) && decide (endOf p s k > t)) := by subst hn; rw [runP]; exact runs_eq g t
  rw [e]
  (repeat' ((conv => whnf); first | with_reducible refine Idx.got g.start hn ?_ | (with_reducible first | refine Br.ff ?_ | refine Br.tt ?_ | refine Br.not ?_ | refine Br.yes (by assumption) ?_ | refine Br.no (by assumption) ?_ | (refine Br.dec (fun h => ?_) (fun h => ?_) <;> try simp only [lm] at h)) | ((with_reducible refine Br.mk (fun h => ?_) (fun h => ?_)) <;> (try simp only [lm] at h) <;> (first | have hw := within_iff.1 h | have hw := within_no.1 h | skip)) | with_reducible refine Idx.at (by first | omega | (simp only [lm] at *; omega)) (fun x hx => ?_) | with_reducible refine Idx.of_map (by first | omega | (simp only [lm] at *; omega)) (fun j x hj hx => ?_) | refine CallK.mk _ (impl_end p s n g hn) (fun _ => ?_) | refine CallD.mk _ (fun _ hk => CallK.mk _ (impl_end p s n g hn) (fun _ => hk)) ?_ | intro _)) <;> (try (conv => whnf))
  all_goals (refine ⟨?_, rfl, trivial⟩; simp [*])
theorem intRange_upTo {n : Nat} (h : n ≤ 200) : intRange n = upTo n := by
  rw [intRange, if_pos (within_iff.2 (by omega))]; simp [upTo]
theorem upTo_mem {n : Nat} {x : Int} (h : x ∈ upTo n) : ∃ k : Nat, x = k ∧ k < n := by
  simp only [upTo, List.mem_map, List.mem_range] at h
  obtain ⟨k, hk, rfl⟩ := h
  exact ⟨k, rfl, hk⟩
theorem impl_running (p : Proj) (s : Sched) (t : Int) (hf : schedForm p s = true) : Con 158 [.d p.av, .d s.av, .d (i64 t)] (.d (ints ((upTo p.acts.length).filter (runP p s t)))) := by
  refine con Tryz.func158 rfl rfl Tryz.call158 rfl fun hwf => ?_
  simp only [ARs.wf, AR.wf, AV.wf, AV.wfs, List.length_map, lim] at hwf
  have hna := (projForm (schedForm_parts hf).1).nact
  have hR := impl_IntRange (p.acts.map Activ.av).length
  rw [show intRange (((p.acts.map Activ.av).length : Nat) : Int) = upTo p.acts.length by rw [List.length_map]; exact intRange_upTo (by omega)] at hR
  have hc : ∀ n ∈ upTo p.acts.length, Con 184 ([.d (i64 n)] ++ [s.av, i64 t, p.av].map .ref) (.d (.bool (runP p s t n))) := fun n hn => by
    obtain ⟨k, e, hk⟩ := upTo_mem hn
    obtain ⟨a, u, m, q, mo, g⟩ := s_get hf hk
    exact impl_running1 p s t n g e
  (repeat' ((conv => whnf); first | (with_reducible first | refine Br.ff ?_ | refine Br.tt ?_ | refine Br.not ?_ | refine Br.yes (by assumption) ?_ | refine Br.no (by assumption) ?_ | (refine Br.dec (fun h => ?_) (fun h => ?_) <;> try simp only [lm] at h)) | ((with_reducible refine Br.mk (fun h => ?_) (fun h => ?_)) <;> (try simp only [lm] at h) <;> (first | have hw := within_iff.1 h | have hw := within_no.1 h | skip)) | refine CallK.mk _ (hR) (fun _ => ?_) | refine CallD.mk _ (fun _ hk => CallK.mk _ (hR) (fun _ => hk)) ?_ | refine CallK.mk _ (impl_keptIn (upTo p.acts.length) 184 [s.av, i64 t, p.av] _ hc) (fun _ => ?_) | refine CallD.mk _ (fun _ hk => CallK.mk _ (impl_keptIn (upTo p.acts.length) 184 [s.av, i64 t, p.av] _ hc) (fun _ => hk)) ?_ | intro _)) <;> (try (conv => whnf))
  exact ⟨rfl, rfl, trivial⟩
end Go.Proofs.YtjgblflcapilkaaGreat.Abs
