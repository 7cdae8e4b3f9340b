/- Contracts: broken rules, results. No statement of a claim. -/
import Derived.Test.YtjgblflcapilkaaGreatC22
import Derived.Test.YtjgblflcapilkaaGreatC21
set_option linter.all false
set_option linter.unusedVariables false
set_option linter.unusedSimpArgs false
set_option maxRecDepth 20000
set_option maxHeartbeats 4000000
namespace Go.Proofs.YtjgblflcapilkaaGreat.Abs
open Go.Proofs


theorem rulesOf_len {p : Proj} (h : projOk p = true) : (rulesOf p).length ≤ 1000 := by
  obtain ⟨ha, hr, hs, hl⟩ := proj_small h
  have key : ∀ {α : Type} (n c : Nat) (f : Nat → List α), (∀ k, (f k).length ≤ c) → ((List.range n).flatMap f).length ≤ n * c := by
    intro α n c f hf
    induction n with
    | zero => simp
    | succ n ih =>
      rw [List.range_succ, List.flatMap_append, List.length_append, Nat.succ_mul]
      have := hf n
      simp only [List.flatMap_cons, List.flatMap_nil, List.append_nil]
      omega
  have h1 := key p.ress.length 61 timesOf fun k => by simp [timesOf]
  have h2 := key p.ress.length 36 (fun r => (List.range p.acts.length).flatMap (pairsOf p r)) fun r => by
    have := key p.acts.length 6 (pairsOf p r) fun b => by unfold pairsOf; split <;> simp; omega
    have h6 : p.acts.length * 6 ≤ 36 := by omega
    omega
  simp only [rulesOf, List.length_append, List.length_map, List.length_range]
  omega
theorem filterR_step {P : Rul → Bool} {l o : List Rul} {k : Nat} {x : Rul} (hi : o ++ (l.drop k).filter P = l.filter P) (hx : l[k]? = some x) :
    (P x = true → (o ++ [x]) ++ (l.drop (k + 1)).filter P = l.filter P) ∧ (P x = false → o ++ (l.drop (k + 1)).filter P = l.filter P) := by
  rw [drop_get hx, List.filter_cons] at hi
  exact ⟨fun h => by rw [← hi, if_pos h]; simp, fun h => by rw [← hi, if_neg (by simp [h])]⟩
theorem impl_ViolatedRules (p : Proj) (s : Sched) (hp : p.fine) : Con 66 [.d p.av, .d s.av] (.d (.sl ((brokenRules p s).map Rul.av))) := by
  refine con Tryz.func66 rfl rfl Tryz.call66 rfl fun hwf => ?_
  simp only [ARs.wf, AR.wf, AV.wf, AV.wfs, List.length_map, lim] at hwf
  cases hf : schedForm p s with
  | false =>
    (repeat' ((conv => whnf); first | (with_reducible first | refine Br.ff ?_ | refine Br.tt ?_ | refine Br.not ?_ | refine Br.yes (by assumption) ?_ | refine Br.no (by assumption) ?_ | (refine Br.dec (fun h => ?_) (fun h => ?_) <;> try simp only [lm] at h)) | ((with_reducible refine Br.mk (fun h => ?_) (fun h => ?_)) <;> (try simp only [lm] at h) <;> (first | have hw := within_iff.1 h | have hw := within_no.1 h | skip)) | with_reducible refine Arith.ok (by first | omega | (simp only [lm]; omega)) ?_ | with_reducible refine Idx.at (by first | omega | (simp only [lm] at *; omega)) (fun x hx => ?_) | with_reducible refine Idx.of_map (by first | omega | (simp only [lm] at *; omega)) (fun j x hj hx => ?_) | refine VC.one (by (try dsimp only); unfold lim; first | omega | (simp only [lens, subList, upTo_len] at *; omega)) rfl ?_ | refine VC.one0 (by decide) rfl ?_ | refine VC.all (by (try dsimp only); unfold lim; first | omega | (simp only [lens, subList, upTo_len] at *; omega)) (fun _ => rfl) ?_ | refine VC.all0 (by (try dsimp only); unfold lim; first | omega | (simp only [lens, subList, upTo_len] at *; omega)) (fun _ => rfl) ?_ | refine VC.mk (by first | omega | (simp only [lm]; omega)) ?_ | refine CallK.mk _ (impl_ScheduleForm p s hp) (fun _ => ?_) | refine CallD.mk _ (fun _ hk => CallK.mk _ (impl_ScheduleForm p s hp) (fun _ => hk)) ?_ | intro _)) <;> (try (conv => whnf))
    refine ⟨?_, rfl, trivial⟩
    rw [brokenRules, if_neg (by simp [hf])]; rfl
  | true =>
    have hok := (schedForm_parts hf).1
    have hlen := rulesOf_len hok
    rw [brokenRules, if_pos hf]
    (repeat' ((conv => whnf); first | (with_reducible first | refine Br.ff ?_ | refine Br.tt ?_ | refine Br.not ?_ | refine Br.yes (by assumption) ?_ | refine Br.no (by assumption) ?_ | (refine Br.dec (fun h => ?_) (fun h => ?_) <;> try simp only [lm] at h)) | ((with_reducible refine Br.mk (fun h => ?_) (fun h => ?_)) <;> (try simp only [lm] at h) <;> (first | have hw := within_iff.1 h | have hw := within_no.1 h | skip)) | with_reducible refine Arith.ok (by first | omega | (simp only [lm]; omega)) ?_ | with_reducible refine Idx.at (by first | omega | (simp only [lm] at *; omega)) (fun x hx => ?_) | with_reducible refine Idx.of_map (by first | omega | (simp only [lm] at *; omega)) (fun j x hj hx => ?_) | refine VC.one (by (try dsimp only); unfold lim; first | omega | (simp only [lens, subList, upTo_len] at *; omega)) rfl ?_ | refine VC.one0 (by decide) rfl ?_ | refine VC.all (by (try dsimp only); unfold lim; first | omega | (simp only [lens, subList, upTo_len] at *; omega)) (fun _ => rfl) ?_ | refine VC.all0 (by (try dsimp only); unfold lim; first | omega | (simp only [lens, subList, upTo_len] at *; omega)) (fun _ => rfl) ?_ | refine VC.mk (by first | omega | (simp only [lm]; omega)) ?_ | refine CallK.mk _ (impl_ScheduleForm p s hp) (fun _ => ?_) | refine CallD.mk _ (fun _ hk => CallK.mk _ (impl_ScheduleForm p s hp) (fun _ => hk)) ?_ | refine CallK.mk _ (impl_rules p hok) (fun _ => ?_) | refine CallD.mk _ (fun _ hk => CallK.mk _ (impl_rules p hok) (fun _ => hk)) ?_ | intro _)) <;> (try (conv => whnf))
    refine loopF [2, 3, 14, 15] [2, 3] [12] ?_
    (conv => whnf)
    refine LoopC.mk ((Nat) × (List Rul)) (fun ⟨k, o⟩ => (k ≤ (rulesOf p).length) ∧ (o.length ≤ k) ∧ (o ++ ((rulesOf p).drop k).filter (breaks p s) = (rulesOf p).filter (breaks p s))) (fun ⟨k, o⟩ => [(16, .data (i64 k)), (5, .own 12 0)]) (fun _ => []) (fun ⟨k, o⟩ => [(12, 106, o.map Rul.av)]) (fun ⟨k, o⟩ => (rulesOf p).length - k) ⟨0, []⟩ ?_ ?_ ?_
    rotate_left
    · (repeat' ((conv => whnf) <;> (first | exact trivial | exact rfl | with_reducible refine And.intro ?_ ?_)))
    rotate_left
    · exact ⟨by omega, by simp, rfl⟩
    rintro ⟨k, o⟩ ⟨hk, ho, hi⟩
    by_cases hlt : k < (rulesOf p).length
    · obtain ⟨x, hx⟩ : ∃ x, (rulesOf p)[k]? = some x := ⟨(rulesOf p)[k]'hlt, by simp⟩
      (repeat' ((conv => whnf); first | with_reducible refine Idx.got hx rfl ?_ | (exfalso; omega) | (with_reducible first | refine Br.ff ?_ | refine Br.tt ?_ | refine Br.not ?_ | refine Br.yes (by assumption) ?_ | refine Br.no (by assumption) ?_ | (refine Br.dec (fun h => ?_) (fun h => ?_) <;> try simp only [lm] at h)) | ((with_reducible refine Br.mk (fun h => ?_) (fun h => ?_)) <;> (try simp only [lm] at h) <;> (first | have hw := within_iff.1 h | have hw := within_no.1 h | skip)) | with_reducible refine Arith.ok (by first | omega | (simp only [lm]; omega)) ?_ | with_reducible refine Idx.at (by first | omega | (simp only [lm] at *; omega)) (fun x hx => ?_) | with_reducible refine Idx.of_map (by first | omega | (simp only [lm] at *; omega)) (fun j x hj hx => ?_) | refine VC.one (by (try dsimp only); unfold lim; first | omega | (simp only [lens, subList, upTo_len] at *; omega)) rfl ?_ | refine VC.one0 (by decide) rfl ?_ | refine VC.all (by (try dsimp only); unfold lim; first | omega | (simp only [lens, subList, upTo_len] at *; omega)) (fun _ => rfl) ?_ | refine VC.all0 (by (try dsimp only); unfold lim; first | omega | (simp only [lens, subList, upTo_len] at *; omega)) (fun _ => rfl) ?_ | refine VC.mk (by first | omega | (simp only [lm]; omega)) ?_ | refine CallK.mk _ (impl_satisfies p s x hp hf (rulesOf_mem (List.mem_of_getElem? hx))) (fun _ => ?_) | refine CallD.mk _ (fun _ hk => CallK.mk _ (impl_satisfies p s x hp hf (rulesOf_mem (List.mem_of_getElem? hx))) (fun _ => hk)) ?_ | intro _)) <;> (try (conv => whnf))
      · refine ⟨⟨k + 1, o ++ [x]⟩, ?_, rfl, ?_, ?_⟩
        rotate_left
        · (repeat' ((conv => whnf) <;> (first | exact trivial | exact rfl | with_reducible refine And.intro ?_ ?_))) <;> ((conv => whnf) <;> (simp))
        · (try dsimp only); (try simp only [List.length_map]); omega
        exact ⟨by omega, by simp; omega, (filterR_step hi hx).1 h⟩
      · refine ⟨⟨k + 1, o⟩, ?_, rfl, ?_, ?_⟩
        rotate_left
        · (repeat' ((conv => whnf) <;> (first | exact trivial | exact rfl | with_reducible refine And.intro ?_ ?_)))
        · (try dsimp only); (try simp only [List.length_map]); omega
        exact ⟨by omega, by omega, (filterR_step hi hx).2 h⟩
    · (repeat' ((conv => whnf); first | (exfalso; omega) | (with_reducible first | refine Br.ff ?_ | refine Br.tt ?_ | refine Br.not ?_ | refine Br.yes (by assumption) ?_ | refine Br.no (by assumption) ?_ | (refine Br.dec (fun h => ?_) (fun h => ?_) <;> try simp only [lm] at h)) | ((with_reducible refine Br.mk (fun h => ?_) (fun h => ?_)) <;> (try simp only [lm] at h) <;> (first | have hw := within_iff.1 h | have hw := within_no.1 h | skip)) | with_reducible refine Arith.ok (by first | omega | (simp only [lm]; omega)) ?_ | with_reducible refine Idx.at (by first | omega | (simp only [lm] at *; omega)) (fun x hx => ?_) | with_reducible refine Idx.of_map (by first | omega | (simp only [lm] at *; omega)) (fun j x hj hx => ?_) | refine VC.one (by (try dsimp only); unfold lim; first | omega | (simp only [lens, subList, upTo_len] at *; omega)) rfl ?_ | refine VC.one0 (by decide) rfl ?_ | refine VC.all (by (try dsimp only); unfold lim; first | omega | (simp only [lens, subList, upTo_len] at *; omega)) (fun _ => rfl) ?_ | refine VC.all0 (by (try dsimp only); unfold lim; first | omega | (simp only [lens, subList, upTo_len] at *; omega)) (fun _ => rfl) ?_ | refine VC.mk (by first | omega | (simp only [lm]; omega)) ?_ | intro _)) <;> (try (conv => whnf))
      refine ⟨?_, rfl, trivial⟩
      rw [← hi, drop_end hlt]; simp
theorem impl_ScheduleOk (p : Proj) (s : Sched) (hp : p.fine) : Con 32 [.d p.av, .d s.av] (.d (.bool (schedOk p s))) := by
  refine con Tryz.func32 rfl rfl Tryz.call32 rfl fun hwf => ?_
  (repeat' ((conv => whnf); first | (with_reducible first | refine Br.ff ?_ | refine Br.tt ?_ | refine Br.not ?_ | refine Br.yes (by assumption) ?_ | refine Br.no (by assumption) ?_ | (refine Br.dec (fun h => ?_) (fun h => ?_) <;> try simp only [lm] at h)) | ((with_reducible refine Br.mk (fun h => ?_) (fun h => ?_)) <;> (try simp only [lm] at h) <;> (first | have hw := within_iff.1 h | have hw := within_no.1 h | skip)) | refine CallK.mk _ (impl_ScheduleForm p s hp) (fun _ => ?_) | refine CallD.mk _ (fun _ hk => CallK.mk _ (impl_ScheduleForm p s hp) (fun _ => hk)) ?_ | refine CallK.mk _ (impl_ViolatedRules p s hp) (fun _ => ?_) | refine CallD.mk _ (fun _ hk => CallK.mk _ (impl_ViolatedRules p s hp) (fun _ => hk)) ?_ | intro _)) <;> (try (conv => whnf))
  all_goals (refine ⟨?_, rfl, trivial⟩; simp [schedOk, *])
theorem spec_ViolatedRules (p : Proj) (s : Sched) (hp : p.fine) : Con 84 [.d p.av, .d s.av] (.d (.sl ((brokenRules p s).map Rul.av))) := by
  refine con Tryz.func84 rfl rfl Tryz.call84 rfl fun hwf => ?_
  simp only [ARs.wf, AR.wf, AV.wf, AV.wfs, List.length_map, lim] at hwf
  cases hf : schedForm p s with
  | false =>
    (repeat' ((conv => whnf); first | (with_reducible first | refine Br.ff ?_ | refine Br.tt ?_ | refine Br.not ?_ | refine Br.yes (by assumption) ?_ | refine Br.no (by assumption) ?_ | (refine Br.dec (fun h => ?_) (fun h => ?_) <;> try simp only [lm] at h)) | ((with_reducible refine Br.mk (fun h => ?_) (fun h => ?_)) <;> (try simp only [lm] at h) <;> (first | have hw := within_iff.1 h | have hw := within_no.1 h | skip)) | with_reducible refine Arith.ok (by first | omega | (simp only [lm]; omega)) ?_ | with_reducible refine Idx.at (by first | omega | (simp only [lm] at *; omega)) (fun x hx => ?_) | with_reducible refine Idx.of_map (by first | omega | (simp only [lm] at *; omega)) (fun j x hj hx => ?_) | refine VC.one (by (try dsimp only); unfold lim; first | omega | (simp only [lens, subList, upTo_len] at *; omega)) rfl ?_ | refine VC.one0 (by decide) rfl ?_ | refine VC.all (by (try dsimp only); unfold lim; first | omega | (simp only [lens, subList, upTo_len] at *; omega)) (fun _ => rfl) ?_ | refine VC.all0 (by (try dsimp only); unfold lim; first | omega | (simp only [lens, subList, upTo_len] at *; omega)) (fun _ => rfl) ?_ | refine VC.mk (by first | omega | (simp only [lm]; omega)) ?_ | refine CallK.mk _ (spec_ScheduleForm p s hp) (fun _ => ?_) | refine CallD.mk _ (fun _ hk => CallK.mk _ (spec_ScheduleForm p s hp) (fun _ => hk)) ?_ | intro _)) <;> (try (conv => whnf))
    refine ⟨?_, rfl, trivial⟩
    rw [brokenRules, if_neg (by simp [hf])]; rfl
  | true =>
    have hok := (schedForm_parts hf).1
    have hlen := rulesOf_len hok
    rw [brokenRules, if_pos hf]
    (repeat' ((conv => whnf); first | (with_reducible first | refine Br.ff ?_ | refine Br.tt ?_ | refine Br.not ?_ | refine Br.yes (by assumption) ?_ | refine Br.no (by assumption) ?_ | (refine Br.dec (fun h => ?_) (fun h => ?_) <;> try simp only [lm] at h)) | ((with_reducible refine Br.mk (fun h => ?_) (fun h => ?_)) <;> (try simp only [lm] at h) <;> (first | have hw := within_iff.1 h | have hw := within_no.1 h | skip)) | with_reducible refine Arith.ok (by first | omega | (simp only [lm]; omega)) ?_ | with_reducible refine Idx.at (by first | omega | (simp only [lm] at *; omega)) (fun x hx => ?_) | with_reducible refine Idx.of_map (by first | omega | (simp only [lm] at *; omega)) (fun j x hj hx => ?_) | refine VC.one (by (try dsimp only); unfold lim; first | omega | (simp only [lens, subList, upTo_len] at *; omega)) rfl ?_ | refine VC.one0 (by decide) rfl ?_ | refine VC.all (by (try dsimp only); unfold lim; first | omega | (simp only [lens, subList, upTo_len] at *; omega)) (fun _ => rfl) ?_ | refine VC.all0 (by (try dsimp only); unfold lim; first | omega | (simp only [lens, subList, upTo_len] at *; omega)) (fun _ => rfl) ?_ | refine VC.mk (by first | omega | (simp only [lm]; omega)) ?_ | refine CallK.mk _ (spec_ScheduleForm p s hp) (fun _ => ?_) | refine CallD.mk _ (fun _ hk => CallK.mk _ (spec_ScheduleForm p s hp) (fun _ => hk)) ?_ | refine CallK.mk _ (spec_rules p hok) (fun _ => ?_) | refine CallD.mk _ (fun _ hk => CallK.mk _ (spec_rules p hok) (fun _ => hk)) ?_ | intro _)) <;> (try (conv => whnf))
    refine loopF [2, 3, 14, 15] [2, 3] [8] ?_
    (conv => whnf)
    refine LoopC.mk ((Nat) × (List Rul)) (fun ⟨k, o⟩ => (k ≤ (rulesOf p).length) ∧ (o.length ≤ k) ∧ (o ++ ((rulesOf p).drop k).filter (breaks p s) = (rulesOf p).filter (breaks p s))) (fun ⟨k, o⟩ => [(16, .data (i64 k)), (5, .own 8 0)]) (fun _ => []) (fun ⟨k, o⟩ => [(8, 106, o.map Rul.av)]) (fun ⟨k, o⟩ => (rulesOf p).length - k) ⟨0, []⟩ ?_ ?_ ?_
    rotate_left
    · (repeat' ((conv => whnf) <;> (first | exact trivial | exact rfl | with_reducible refine And.intro ?_ ?_)))
    rotate_left
    · exact ⟨by omega, by simp, rfl⟩
    rintro ⟨k, o⟩ ⟨hk, ho, hi⟩
    by_cases hlt : k < (rulesOf p).length
    · obtain ⟨x, hx⟩ : ∃ x, (rulesOf p)[k]? = some x := ⟨(rulesOf p)[k]'hlt, by simp⟩
      (repeat' ((conv => whnf); first | with_reducible refine Idx.got hx rfl ?_ | (exfalso; omega) | (with_reducible first | refine Br.ff ?_ | refine Br.tt ?_ | refine Br.not ?_ | refine Br.yes (by assumption) ?_ | refine Br.no (by assumption) ?_ | (refine Br.dec (fun h => ?_) (fun h => ?_) <;> try simp only [lm] at h)) | ((with_reducible refine Br.mk (fun h => ?_) (fun h => ?_)) <;> (try simp only [lm] at h) <;> (first | have hw := within_iff.1 h | have hw := within_no.1 h | skip)) | with_reducible refine Arith.ok (by first | omega | (simp only [lm]; omega)) ?_ | with_reducible refine Idx.at (by first | omega | (simp only [lm] at *; omega)) (fun x hx => ?_) | with_reducible refine Idx.of_map (by first | omega | (simp only [lm] at *; omega)) (fun j x hj hx => ?_) | refine VC.one (by (try dsimp only); unfold lim; first | omega | (simp only [lens, subList, upTo_len] at *; omega)) rfl ?_ | refine VC.one0 (by decide) rfl ?_ | refine VC.all (by (try dsimp only); unfold lim; first | omega | (simp only [lens, subList, upTo_len] at *; omega)) (fun _ => rfl) ?_ | refine VC.all0 (by (try dsimp only); unfold lim; first | omega | (simp only [lens, subList, upTo_len] at *; omega)) (fun _ => rfl) ?_ | refine VC.mk (by first | omega | (simp only [lm]; omega)) ?_ | refine CallK.mk _ (spec_l10Fails p s x hp hf (rulesOf_mem (List.mem_of_getElem? hx))) (fun _ => ?_) | refine CallD.mk _ (fun _ hk => CallK.mk _ (spec_l10Fails p s x hp hf (rulesOf_mem (List.mem_of_getElem? hx))) (fun _ => hk)) ?_ | intro _)) <;> (try (conv => whnf))
      · refine ⟨⟨k + 1, o ++ [x]⟩, ?_, rfl, ?_, ?_⟩
        rotate_left
        · (repeat' ((conv => whnf) <;> (first | exact trivial | exact rfl | with_reducible refine And.intro ?_ ?_))) <;> ((conv => whnf) <;> (simp))
        · (try dsimp only); (try simp only [List.length_map]); omega
        exact ⟨by omega, by simp; omega, (filterR_step hi hx).1 h⟩
      · refine ⟨⟨k + 1, o⟩, ?_, rfl, ?_, ?_⟩
        rotate_left
        · (repeat' ((conv => whnf) <;> (first | exact trivial | exact rfl | with_reducible refine And.intro ?_ ?_)))
        · (try dsimp only); (try simp only [List.length_map]); omega
        exact ⟨by omega, by omega, (filterR_step hi hx).2 h⟩
    · (repeat' ((conv => whnf); first | (exfalso; omega) | (with_reducible first | refine Br.ff ?_ | refine Br.tt ?_ | refine Br.not ?_ | refine Br.yes (by assumption) ?_ | refine Br.no (by assumption) ?_ | (refine Br.dec (fun h => ?_) (fun h => ?_) <;> try simp only [lm] at h)) | ((with_reducible refine Br.mk (fun h => ?_) (fun h => ?_)) <;> (try simp only [lm] at h) <;> (first | have hw := within_iff.1 h | have hw := within_no.1 h | skip)) | with_reducible refine Arith.ok (by first | omega | (simp only [lm]; omega)) ?_ | with_reducible refine Idx.at (by first | omega | (simp only [lm] at *; omega)) (fun x hx => ?_) | with_reducible refine Idx.of_map (by first | omega | (simp only [lm] at *; omega)) (fun j x hj hx => ?_) | refine VC.one (by (try dsimp only); unfold lim; first | omega | (simp only [lens, subList, upTo_len] at *; omega)) rfl ?_ | refine VC.one0 (by decide) rfl ?_ | refine VC.all (by (try dsimp only); unfold lim; first | omega | (simp only [lens, subList, upTo_len] at *; omega)) (fun _ => rfl) ?_ | refine VC.all0 (by (try dsimp only); unfold lim; first | omega | (simp only [lens, subList, upTo_len] at *; omega)) (fun _ => rfl) ?_ | refine VC.mk (by first | omega | (simp only [lm]; omega)) ?_ | intro _)) <;> (try (conv => whnf))
      refine ⟨?_, rfl, trivial⟩
      rw [← hi, drop_end hlt]; simp
theorem spec_ScheduleOk (p : Proj) (s : Sched) (hp : p.fine) : Con 50 [.d p.av, .d s.av] (.d (.bool (schedOk p s))) := by
  refine con Tryz.func50 rfl rfl Tryz.call50 rfl fun hwf => ?_
  (repeat' ((conv => whnf); first | (with_reducible first | refine Br.ff ?_ | refine Br.tt ?_ | refine Br.not ?_ | refine Br.yes (by assumption) ?_ | refine Br.no (by assumption) ?_ | (refine Br.dec (fun h => ?_) (fun h => ?_) <;> try simp only [lm] at h)) | ((with_reducible refine Br.mk (fun h => ?_) (fun h => ?_)) <;> (try simp only [lm] at h) <;> (first | have hw := within_iff.1 h | have hw := within_no.1 h | skip)) | refine CallK.mk _ (spec_ScheduleForm p s hp) (fun _ => ?_) | refine CallD.mk _ (fun _ hk => CallK.mk _ (spec_ScheduleForm p s hp) (fun _ => hk)) ?_ | refine CallK.mk _ (spec_ViolatedRules p s hp) (fun _ => ?_) | refine CallD.mk _ (fun _ hk => CallK.mk _ (spec_ViolatedRules p s hp) (fun _ => hk)) ?_ | intro _)) <;> (try (conv => whnf))
  all_goals (refine ⟨?_, rfl, trivial⟩; simp [schedOk, *])
theorem withDeadline_fine {p : Proj} (hp : p.fine) (t : Int) : (withDeadline p t).1.fine := by
  unfold withDeadline; split
  · exact hp
  · intro a ha; simp [noProj] at ha
theorem makespan_bound (p : Proj) (s : Sched) : -1 ≤ makespan p s ∧ makespan p s ≤ 100 := by
  unfold makespan
  split
  · rename_i hf
    have := maxTo_bound (f := endOf p s) (c := 100) (n := p.acts.length) (fun k hk => by
      obtain ⟨a, t, m, q, mo, g⟩ := s_get hf hk
      have := endOf_eq g; have := s_dur g; have := g.tb; omega) (by omega)
    omega
  · omega
theorem impl_ResultOk (p : Proj) (a : Res) (hp : p.fine) : Con 10 [.d p.av, .d a.av] (.d (.bool (resultOk 1 2 3 4 p a))) := by
  refine con Tryz.func10 rfl rfl Tryz.call10 rfl fun hwf => ?_
  have hb := makespan_bound p a.sched
  (repeat' ((conv => whnf); first | (with_reducible first | refine Br.ff ?_ | refine Br.tt ?_ | refine Br.not ?_ | refine Br.yes (by assumption) ?_ | refine Br.no (by assumption) ?_ | (refine Br.dec (fun h => ?_) (fun h => ?_) <;> try simp only [lm] at h)) | ((with_reducible refine Br.mk (fun h => ?_) (fun h => ?_)) <;> (try simp only [lm] at h) <;> (first | have hw := within_iff.1 h | have hw := within_no.1 h | skip)) | with_reducible refine Arith.ok (by first | omega | (simp only [lm]; omega)) ?_ | refine VC.mk (by first | omega | (simp only [lm]; omega)) ?_ | refine CallK.mk _ (impl_ProjectOk p hp) (fun _ => ?_) | refine CallD.mk _ (fun _ hk => CallK.mk _ (impl_ProjectOk p hp) (fun _ => hk)) ?_ | refine CallK.mk _ (impl_ScheduleOk p a.sched hp) (fun _ => ?_) | refine CallD.mk _ (fun _ hk => CallK.mk _ (impl_ScheduleOk p a.sched hp) (fun _ => hk)) ?_ | refine CallK.mk _ (impl_Makespan p a.sched hp) (fun _ => ?_) | refine CallD.mk _ (fun _ hk => CallK.mk _ (impl_Makespan p a.sched hp) (fun _ => hk)) ?_ | refine CallK.mk _ (impl_WithDeadline p (a.span - 1) hp) (fun _ => ?_) | refine CallD.mk _ (fun _ hk => CallK.mk _ (impl_WithDeadline p (a.span - 1) hp) (fun _ => hk)) ?_ | refine CallK.mk _ (impl_ProvesInfeasible (withDeadline p (a.span - 1)).1 a.proof (withDeadline_fine hp _)) (fun _ => ?_) | refine CallD.mk _ (fun _ hk => CallK.mk _ (impl_ProvesInfeasible (withDeadline p (a.span - 1)).1 a.proof (withDeadline_fine hp _)) (fun _ => hk)) ?_ | refine CallK.mk _ (impl_ProvesInfeasible p a.proof hp) (fun _ => ?_) | refine CallD.mk _ (fun _ hk => CallK.mk _ (impl_ProvesInfeasible p a.proof hp) (fun _ => hk)) ?_ | intro _)) <;> (try (conv => whnf))
  all_goals (clear hb; refine ⟨?_, rfl, trivial⟩; simp [resultOk, fitsRes, *])
theorem spec_l29Fits (p : Proj) (a : Res) (hp : p.fine) : Con 22 [.d p.av, .d a.av] (.d (.bool (fitsRes p a))) := by
  refine con Tryz.func22 rfl rfl Tryz.call22 rfl fun hwf => ?_
  (repeat' ((conv => whnf); first | (with_reducible first | refine Br.ff ?_ | refine Br.tt ?_ | refine Br.not ?_ | refine Br.yes (by assumption) ?_ | refine Br.no (by assumption) ?_ | (refine Br.dec (fun h => ?_) (fun h => ?_) <;> try simp only [lm] at h)) | ((with_reducible refine Br.mk (fun h => ?_) (fun h => ?_)) <;> (try simp only [lm] at h) <;> (first | have hw := within_iff.1 h | have hw := within_no.1 h | skip)) | refine CallK.mk _ (spec_ScheduleOk p a.sched hp) (fun _ => ?_) | refine CallD.mk _ (fun _ hk => CallK.mk _ (spec_ScheduleOk p a.sched hp) (fun _ => hk)) ?_ | refine CallK.mk _ (spec_Makespan p a.sched hp) (fun _ => ?_) | refine CallD.mk _ (fun _ hk => CallK.mk _ (spec_Makespan p a.sched hp) (fun _ => hk)) ?_ | intro _)) <;> (try (conv => whnf))
  all_goals (refine ⟨?_, rfl, trivial⟩; simp [fitsRes, *])
theorem fitsRes_span {p : Proj} {a : Res} (h : fitsRes p a = true) : -1 ≤ a.span ∧ a.span ≤ 100 := by
  simp only [fitsRes, Bool.and_eq_true, decide_eq_true_eq] at h
  rw [← h.2]; exact makespan_bound _ _
theorem spec_ResultOk (p : Proj) (a : Res) (hp : p.fine) : Con 7 [.d p.av, .d a.av] (.d (.bool (resultOk 1 2 3 4 p a))) := by
  refine con Tryz.func7 rfl rfl Tryz.call7 rfl fun hwf => ?_
  cases hf : fitsRes p a with
  | false =>
    (repeat' ((conv => whnf); first | (with_reducible first | refine Br.ff ?_ | refine Br.tt ?_ | refine Br.not ?_ | refine Br.yes (by assumption) ?_ | refine Br.no (by assumption) ?_ | (refine Br.dec (fun h => ?_) (fun h => ?_) <;> try simp only [lm] at h)) | ((with_reducible refine Br.mk (fun h => ?_) (fun h => ?_)) <;> (try simp only [lm] at h) <;> (first | have hw := within_iff.1 h | have hw := within_no.1 h | skip)) | with_reducible refine Arith.ok (by first | omega | (simp only [lm]; omega)) ?_ | refine VC.mk (by first | omega | (simp only [lm]; omega)) ?_ | refine CallK.mk _ (spec_ProjectOk p hp) (fun _ => ?_) | refine CallD.mk _ (fun _ hk => CallK.mk _ (spec_ProjectOk p hp) (fun _ => hk)) ?_ | refine CallK.mk _ (spec_l29Fits p a hp) (fun _ => ?_) | refine CallD.mk _ (fun _ hk => CallK.mk _ (spec_l29Fits p a hp) (fun _ => hk)) ?_ | refine CallK.mk _ (spec_ProvesInfeasible p a.proof hp) (fun _ => ?_) | refine CallD.mk _ (fun _ hk => CallK.mk _ (spec_ProvesInfeasible p a.proof hp) (fun _ => hk)) ?_ | intro _)) <;> (try (conv => whnf))
    all_goals (refine ⟨?_, rfl, trivial⟩; simp [resultOk, *])
  | true =>
    have hb := fitsRes_span hf
    (repeat' ((conv => whnf); first | (with_reducible first | refine Br.ff ?_ | refine Br.tt ?_ | refine Br.not ?_ | refine Br.yes (by assumption) ?_ | refine Br.no (by assumption) ?_ | (refine Br.dec (fun h => ?_) (fun h => ?_) <;> try simp only [lm] at h)) | ((with_reducible refine Br.mk (fun h => ?_) (fun h => ?_)) <;> (try simp only [lm] at h) <;> (first | have hw := within_iff.1 h | have hw := within_no.1 h | skip)) | with_reducible refine Arith.ok (by first | omega | (simp only [lm]; omega)) ?_ | refine VC.mk (by first | omega | (simp only [lm]; omega)) ?_ | refine CallK.mk _ (spec_ProjectOk p hp) (fun _ => ?_) | refine CallD.mk _ (fun _ hk => CallK.mk _ (spec_ProjectOk p hp) (fun _ => hk)) ?_ | refine CallK.mk _ (spec_l29Fits p a hp) (fun _ => ?_) | refine CallD.mk _ (fun _ hk => CallK.mk _ (spec_l29Fits p a hp) (fun _ => hk)) ?_ | refine CallK.mk _ (spec_WithDeadline p (a.span - 1) hp) (fun _ => ?_) | refine CallD.mk _ (fun _ hk => CallK.mk _ (spec_WithDeadline p (a.span - 1) hp) (fun _ => hk)) ?_ | refine CallK.mk _ (spec_ProvesInfeasible (withDeadline p (a.span - 1)).1 a.proof (withDeadline_fine hp _)) (fun _ => ?_) | refine CallD.mk _ (fun _ hk => CallK.mk _ (spec_ProvesInfeasible (withDeadline p (a.span - 1)).1 a.proof (withDeadline_fine hp _)) (fun _ => hk)) ?_ | refine CallK.mk _ (spec_ProvesInfeasible p a.proof hp) (fun _ => ?_) | refine CallD.mk _ (fun _ hk => CallK.mk _ (spec_ProvesInfeasible p a.proof hp) (fun _ => hk)) ?_ | intro _)) <;> (try (conv => whnf))
    all_goals (clear hb; refine ⟨?_, rfl, trivial⟩; simp [resultOk, *])
def agrees (a b : Res) : Bool :=
  if a.status = 2 then decide (b.status = 2) || decide (b.status = 4)
  else if a.status = 1 ∧ b.status = 1 then decide (a.span = b.span)
  else if a.status = 1 ∧ b.status = 3 then decide (a.span ≤ b.span)
  else true
def agree (p : Proj) (a b : Res) : Bool := resultOk 1 2 3 4 p a && resultOk 1 2 3 4 p b && agrees a b && agrees b a
theorem impl_agrees (a b : Res) : Con 42 [.d a.av, .d b.av] (.d (.bool (agrees a b))) := by
  refine con Tryz.func42 rfl rfl Tryz.call42 rfl fun hwf => ?_
  (repeat' ((conv => whnf); first | (with_reducible first | refine Br.ff ?_ | refine Br.tt ?_ | refine Br.not ?_ | refine Br.yes (by assumption) ?_ | refine Br.no (by assumption) ?_ | (refine Br.dec (fun h => ?_) (fun h => ?_) <;> try simp only [lm] at h)) | ((with_reducible refine Br.mk (fun h => ?_) (fun h => ?_)) <;> (try simp only [lm] at h) <;> (first | have hw := within_iff.1 h | have hw := within_no.1 h | skip)) | intro _)) <;> (try (conv => whnf))
  all_goals first
    | (exfalso; omega)
    | (refine ⟨?_, rfl, trivial⟩; simp [agrees, *])
theorem impl_Agree (p : Proj) (a b : Res) (hp : p.fine) : Con 14 [.d p.av, .d a.av, .d b.av] (.d (.bool (agree p a b))) := by
  refine con Tryz.func14 rfl rfl Tryz.call14 rfl fun hwf => ?_
  (repeat' ((conv => whnf); first | (with_reducible first | refine Br.ff ?_ | refine Br.tt ?_ | refine Br.not ?_ | refine Br.yes (by assumption) ?_ | refine Br.no (by assumption) ?_ | (refine Br.dec (fun h => ?_) (fun h => ?_) <;> try simp only [lm] at h)) | ((with_reducible refine Br.mk (fun h => ?_) (fun h => ?_)) <;> (try simp only [lm] at h) <;> (first | have hw := within_iff.1 h | have hw := within_no.1 h | skip)) | refine CallK.mk _ (impl_ResultOk p _ hp) (fun _ => ?_) | refine CallD.mk _ (fun _ hk => CallK.mk _ (impl_ResultOk p _ hp) (fun _ => hk)) ?_ | refine CallK.mk _ (impl_agrees a b) (fun _ => ?_) | refine CallD.mk _ (fun _ hk => CallK.mk _ (impl_agrees a b) (fun _ => hk)) ?_ | refine CallK.mk _ (impl_agrees b a) (fun _ => ?_) | refine CallD.mk _ (fun _ hk => CallK.mk _ (impl_agrees b a) (fun _ => hk)) ?_ | intro _)) <;> (try (conv => whnf))
  all_goals (refine ⟨?_, rfl, trivial⟩; simp [agree, *])
theorem resultOk_status {p : Proj} {a : Res} (h : resultOk 1 2 3 4 p a = true) : a.status = 1 ∨ a.status = 2 ∨ a.status = 3 ∨ a.status = 4 := by
  simp only [resultOk, Bool.and_eq_true] at h
  have h := h.2
  split at h
  · omega
  split at h
  · omega
  split at h
  · omega
  · simp at h; omega
theorem spec_Agree (p : Proj) (a b : Res) (hp : p.fine) : Con 13 [.d p.av, .d a.av, .d b.av] (.d (.bool (agree p a b))) := by
  refine con Tryz.func13 rfl rfl Tryz.call13 rfl fun hwf => ?_
  cases ha : resultOk 1 2 3 4 p a with
  | false =>
    (repeat' ((conv => whnf); first | (with_reducible first | refine Br.ff ?_ | refine Br.tt ?_ | refine Br.not ?_ | refine Br.yes (by assumption) ?_ | refine Br.no (by assumption) ?_ | (refine Br.dec (fun h => ?_) (fun h => ?_) <;> try simp only [lm] at h)) | ((with_reducible refine Br.mk (fun h => ?_) (fun h => ?_)) <;> (try simp only [lm] at h) <;> (first | have hw := within_iff.1 h | have hw := within_no.1 h | skip)) | refine CallK.mk _ (spec_ResultOk p a hp) (fun _ => ?_) | refine CallD.mk _ (fun _ hk => CallK.mk _ (spec_ResultOk p a hp) (fun _ => hk)) ?_ | intro _)) <;> (try (conv => whnf))
    refine ⟨?_, rfl, trivial⟩; simp [agree, ha]
  | true =>
  cases hb : resultOk 1 2 3 4 p b with
  | false =>
    (repeat' ((conv => whnf); first | (with_reducible first | refine Br.ff ?_ | refine Br.tt ?_ | refine Br.not ?_ | refine Br.yes (by assumption) ?_ | refine Br.no (by assumption) ?_ | (refine Br.dec (fun h => ?_) (fun h => ?_) <;> try simp only [lm] at h)) | ((with_reducible refine Br.mk (fun h => ?_) (fun h => ?_)) <;> (try simp only [lm] at h) <;> (first | have hw := within_iff.1 h | have hw := within_no.1 h | skip)) | refine CallK.mk _ (spec_ResultOk p a hp) (fun _ => ?_) | refine CallD.mk _ (fun _ hk => CallK.mk _ (spec_ResultOk p a hp) (fun _ => hk)) ?_ | refine CallK.mk _ (spec_ResultOk p b hp) (fun _ => ?_) | refine CallD.mk _ (fun _ hk => CallK.mk _ (spec_ResultOk p b hp) (fun _ => hk)) ?_ | intro _)) <;> (try (conv => whnf))
    refine ⟨?_, rfl, trivial⟩; simp [agree, hb]
  | true =>
    have h1 := resultOk_status ha
    have h2 := resultOk_status hb
    have e : agree p a b = (agrees a b && agrees b a) := by simp [agree, ha, hb]
    rw [e]
    (repeat' ((conv => whnf); first | (with_reducible first | refine Br.ff ?_ | refine Br.tt ?_ | refine Br.not ?_ | refine Br.yes (by assumption) ?_ | refine Br.no (by assumption) ?_ | (refine Br.dec (fun h => ?_) (fun h => ?_) <;> try simp only [lm] at h)) | ((with_reducible refine Br.mk (fun h => ?_) (fun h => ?_)) <;> (try simp only [lm] at h) <;> (first | have hw := within_iff.1 h | have hw := within_no.1 h | skip)) | refine CallK.mk _ (spec_ResultOk p a hp) (fun _ => ?_) | refine CallD.mk _ (fun _ hk => CallK.mk _ (spec_ResultOk p a hp) (fun _ => hk)) ?_ | refine CallK.mk _ (spec_ResultOk p b hp) (fun _ => ?_) | refine CallD.mk _ (fun _ hk => CallK.mk _ (spec_ResultOk p b hp) (fun _ => hk)) ?_ | intro _)) <;> (try (conv => whnf))
    all_goals
      refine ⟨?_, rfl, trivial⟩
      simp only [AV.bool.injEq, agrees]
      rcases h1 with h1 | h1 | h1 | h1 <;> rcases h2 with h2 | h2 | h2 | h2 <;> simp [h1, h2] at * <;> omega
end Go.Proofs.YtjgblflcapilkaaGreat.Abs
