/- Contracts: schedules. No statement of a claim. -/
import Derived.Test.YtjgblflcapilkaaGreatC14
import Derived.Test.YtjgblflcapilkaaGreatPlain
set_option linter.all false
set_option linter.unusedVariables false
set_option linter.unusedSimpArgs false
set_option maxRecDepth 20000
set_option maxHeartbeats 4000000
namespace Go.Proofs.YtjgblflcapilkaaGreat.Abs
open Go.Proofs


structure SGet (p : Proj) (s : Sched) (k : Nat) (a : Activ) (t m : Int) (q : Nat) (mo : Mode) : Prop where
  act : p.acts[k]? = some a
  start : s.starts[k]? = some t
  mode : s.modes[k]? = some m
  mq : m = q
  moE : a.modes[q]? = some mo
  tb : 0 ≤ t ∧ t ≤ 60
  aok : activOk a p.ress.length p.stocks.length = true
theorem schedForm_parts {p : Proj} {s : Sched} (h : schedForm p s = true) : projOk p = true ∧ s.starts.length = p.acts.length ∧ s.modes.length = p.acts.length ∧ ∀ k, k < p.acts.length → schedAt p s k = true := by
  simp only [schedForm, Bool.and_eq_true, allN_iff, Bool.not_eq_true', decide_eq_false_iff_not] at h
  exact ⟨h.1.1.1, by omega, by omega, h.2⟩
theorem s_get {p : Proj} {s : Sched} (h : schedForm p s = true) {k : Nat} (hk : k < p.acts.length) : ∃ a t m q mo, SGet p s k a t m q mo := by
  obtain ⟨h1, h2, h3, h4⟩ := schedForm_parts h
  have e1 : p.acts[k]? = some (p.acts[k]'hk) := by simp
  have e2 : s.starts[k]? = some (s.starts[k]'(by omega)) := by simp
  have e3 : s.modes[k]? = some (s.modes[k]'(by omega)) := by simp
  have hd := h4 k hk
  simp only [schedAt, e1, e2, e3, Bool.and_eq_true, isTime, within_iff] at hd
  exact ⟨_, _, _, (s.modes[k]'(by omega)).toNat, (p.acts[k]'hk).modes[(s.modes[k]'(by omega)).toNat]'(by omega), e1, e2, e3, by omega, by simp, hd.1, (projForm h1).act k _ e1⟩
theorem impl_ScheduleForm (p : Proj) (s : Sched) (hp : p.fine) : Con 65 [.d p.av, .d s.av] (.d (.bool (schedForm p s))) := by
  refine con Tryz.func65 rfl rfl Tryz.call65 rfl fun hwf => ?_
  simp only [ARs.wf, AR.wf, AV.wf, AV.wfs, List.length_map, lim] at hwf
  (repeat' ((conv => whnf); first | (with_reducible first | refine Br.ff ?_ | refine Br.tt ?_ | refine Br.not ?_ | refine Br.yes (by assumption) ?_ | refine Br.no (by assumption) ?_ | (refine Br.dec (fun h => ?_) (fun h => ?_) <;> try simp only [lm] at h)) | ((with_reducible refine Br.mk (fun h => ?_) (fun h => ?_)) <;> (try simp only [lm] at h) <;> (first | have hw := within_iff.1 h | have hw := within_no.1 h | skip)) | with_reducible refine Arith.ok (by first | omega | (simp only [lm]; omega)) ?_ | with_reducible refine Idx.at (by first | omega | (simp only [lm] at *; omega)) (fun x hx => ?_) | with_reducible refine Idx.of_map (by first | omega | (simp only [lm] at *; omega)) (fun j x hj hx => ?_) | refine VC.mk (by first | omega | (simp only [lm]; omega)) ?_ | refine CallK.mk _ (impl_ProjectOk p hp) (fun _ => ?_) | refine CallD.mk _ (fun _ hk => CallK.mk _ (impl_ProjectOk p hp) (fun _ => hk)) ?_ | intro _)) <;> (try (conv => whnf))
  all_goals try (refine ⟨?_, rfl, trivial⟩; simp [schedForm, *]; done)
  refine loopF [2, 3, 29] [2, 3] [] ?_
  (conv => whnf)
  refine LoopC.mk ((Nat)) (fun k => (k ≤ p.acts.length) ∧ (∀ i, i < k → schedAt p s i = true)) (fun k => [(30, .data (i64 k))]) (fun _ => []) (fun _ => []) (fun k => p.acts.length - k) (0) ?_ ?_ ?_
  rotate_left
  · (repeat' ((conv => whnf) <;> (first | exact trivial | exact rfl | with_reducible refine And.intro ?_ ?_)))
  rotate_left
  · exact ⟨by omega, by omega⟩
  rintro k ⟨hk, hi⟩
  by_cases hlt : k < p.acts.length
  · obtain ⟨t, e2⟩ : ∃ x, s.starts[k]? = some x := ⟨s.starts[k]'(by omega), by simp⟩
    obtain ⟨m, e3⟩ : ∃ x, s.modes[k]? = some x := ⟨s.modes[k]'(by omega), by simp⟩
    obtain ⟨a, e4⟩ : ∃ x, p.acts[k]? = some x := ⟨p.acts[k]'(by omega), by simp⟩
    have hm := wfs_get hwf.1.2.1.2 e4
    simp only [AV.wf, AV.wfs, List.length_map] at hm
    have e : schedAt p s k = (isTime t && within m 0 (a.modes.length - 1)) := by simp only [schedAt, e2, e3, e4]
    (repeat' ((conv => whnf); first | with_reducible refine Idx.got e2 rfl ?_ | with_reducible refine Idx.got e3 rfl ?_ | with_reducible refine Idx.got e4 rfl ?_ | (with_reducible first | refine Br.ff ?_ | refine Br.tt ?_ | refine Br.not ?_ | refine Br.yes (by assumption) ?_ | refine Br.no (by assumption) ?_ | (refine Br.dec (fun h => ?_) (fun h => ?_) <;> try simp only [lm] at h)) | ((with_reducible refine Br.mk (fun h => ?_) (fun h => ?_)) <;> (try simp only [lm] at h) <;> (first | have hw := within_iff.1 h | have hw := within_no.1 h | skip)) | with_reducible refine Arith.ok (by first | omega | (simp only [lm]; omega)) ?_ | with_reducible refine Idx.at (by first | omega | (simp only [lm] at *; omega)) (fun x hx => ?_) | with_reducible refine Idx.of_map (by first | omega | (simp only [lm] at *; omega)) (fun j x hj hx => ?_) | refine VC.mk (by first | omega | (simp only [lm]; omega)) ?_ | refine CallK.mk _ (impl_isTime _) (fun _ => ?_) | refine CallD.mk _ (fun _ hk => CallK.mk _ (impl_isTime _) (fun _ => hk)) ?_ | refine CallK.mk _ (impl_within _ _ _) (fun _ => ?_) | refine CallD.mk _ (fun _ hk => CallK.mk _ (impl_within _ _ _) (fun _ => hk)) ?_ | intro _)) <;> (try (conv => whnf))
    all_goals first
      | (exfalso; omega)
      | (refine ⟨?_, rfl, trivial⟩; rw [schedForm, allN_no k hlt (by rw [e]; simp [*])]; simp; done)
      | (refine ⟨(k + 1), ?_, rfl, ?_, ?_⟩
         rotate_left
         · (repeat' ((conv => whnf) <;> (first | exact trivial | exact rfl | with_reducible refine And.intro ?_ ?_)))
         · (try dsimp only); (try simp only [List.length_map]); omega
         exact ⟨by omega, allN_step hi (by rw [e]; simp [*])⟩)
  · (repeat' ((conv => whnf); first | (exfalso; omega) | (with_reducible first | refine Br.ff ?_ | refine Br.tt ?_ | refine Br.not ?_ | refine Br.yes (by assumption) ?_ | refine Br.no (by assumption) ?_ | (refine Br.dec (fun h => ?_) (fun h => ?_) <;> try simp only [lm] at h)) | ((with_reducible refine Br.mk (fun h => ?_) (fun h => ?_)) <;> (try simp only [lm] at h) <;> (first | have hw := within_iff.1 h | have hw := within_no.1 h | skip)) | with_reducible refine Arith.ok (by first | omega | (simp only [lm]; omega)) ?_ | with_reducible refine Idx.at (by first | omega | (simp only [lm] at *; omega)) (fun x hx => ?_) | with_reducible refine Idx.of_map (by first | omega | (simp only [lm] at *; omega)) (fun j x hj hx => ?_) | refine VC.mk (by first | omega | (simp only [lm]; omega)) ?_ | intro _)) <;> (try (conv => whnf))
    refine ⟨?_, rfl, trivial⟩
    rw [schedForm, allN_iff.2 fun i hh => hi i (by omega)]; simp [*]
theorem spec_ScheduleForm (p : Proj) (s : Sched) (hp : p.fine) : Con 83 [.d p.av, .d s.av] (.d (.bool (schedForm p s))) := by
  refine con Tryz.func83 rfl rfl Tryz.call83 rfl fun hwf => ?_
  simp only [ARs.wf, AR.wf, AV.wf, AV.wfs, List.length_map, lim] at hwf
  (repeat' ((conv => whnf); first | (with_reducible first | refine Br.ff ?_ | refine Br.tt ?_ | refine Br.not ?_ | refine Br.yes (by assumption) ?_ | refine Br.no (by assumption) ?_ | (refine Br.dec (fun h => ?_) (fun h => ?_) <;> try simp only [lm] at h)) | ((with_reducible refine Br.mk (fun h => ?_) (fun h => ?_)) <;> (try simp only [lm] at h) <;> (first | have hw := within_iff.1 h | have hw := within_no.1 h | skip)) | with_reducible refine Arith.ok (by first | omega | (simp only [lm]; omega)) ?_ | with_reducible refine Idx.at (by first | omega | (simp only [lm] at *; omega)) (fun x hx => ?_) | with_reducible refine Idx.of_map (by first | omega | (simp only [lm] at *; omega)) (fun j x hj hx => ?_) | refine VC.mk (by first | omega | (simp only [lm]; omega)) ?_ | refine CallK.mk _ (spec_ProjectOk p hp) (fun _ => ?_) | refine CallD.mk _ (fun _ hk => CallK.mk _ (spec_ProjectOk p hp) (fun _ => hk)) ?_ | intro _)) <;> (try (conv => whnf))
  all_goals try (refine ⟨?_, rfl, trivial⟩; simp [schedForm, *]; done)
  refine loopF [3, 29, 30] [3] [] ?_
  (conv => whnf)
  refine LoopC.mk ((Nat)) (fun k => (k ≤ p.acts.length) ∧ (∀ i, i < k → schedAt p s i = true)) (fun k => [(31, .data (i64 k))]) (fun _ => []) (fun _ => []) (fun k => p.acts.length - k) (0) ?_ ?_ ?_
  rotate_left
  · (repeat' ((conv => whnf) <;> (first | exact trivial | exact rfl | with_reducible refine And.intro ?_ ?_)))
  rotate_left
  · exact ⟨by omega, by omega⟩
  rintro k ⟨hk, hi⟩
  by_cases hlt : k < p.acts.length
  · obtain ⟨t, e2⟩ : ∃ x, s.starts[k]? = some x := ⟨s.starts[k]'(by omega), by simp⟩
    obtain ⟨m, e3⟩ : ∃ x, s.modes[k]? = some x := ⟨s.modes[k]'(by omega), by simp⟩
    obtain ⟨a, e4⟩ : ∃ x, p.acts[k]? = some x := ⟨p.acts[k]'(by omega), by simp⟩
    have hm := wfs_get hwf.1.2.1.2 e4
    simp only [AV.wf, AV.wfs, List.length_map] at hm
    have e : schedAt p s k = (isTime t && within m 0 (a.modes.length - 1)) := by simp only [schedAt, e2, e3, e4]
    (repeat' ((conv => whnf); first | with_reducible refine Idx.got e2 rfl ?_ | with_reducible refine Idx.got e3 rfl ?_ | with_reducible refine Idx.got e4 rfl ?_ | (with_reducible first | refine Br.ff ?_ | refine Br.tt ?_ | refine Br.not ?_ | refine Br.yes (by assumption) ?_ | refine Br.no (by assumption) ?_ | (refine Br.dec (fun h => ?_) (fun h => ?_) <;> try simp only [lm] at h)) | ((with_reducible refine Br.mk (fun h => ?_) (fun h => ?_)) <;> (try simp only [lm] at h) <;> (first | have hw := within_iff.1 h | have hw := within_no.1 h | skip)) | with_reducible refine Arith.ok (by first | omega | (simp only [lm]; omega)) ?_ | with_reducible refine Idx.at (by first | omega | (simp only [lm] at *; omega)) (fun x hx => ?_) | with_reducible refine Idx.of_map (by first | omega | (simp only [lm] at *; omega)) (fun j x hj hx => ?_) | refine VC.mk (by first | omega | (simp only [lm]; omega)) ?_ | refine CallK.mk _ (spec_in _ _ _) (fun _ => ?_) | refine CallD.mk _ (fun _ hk => CallK.mk _ (spec_in _ _ _) (fun _ => hk)) ?_ | intro _)) <;> (try (conv => whnf))
    all_goals first
      | (exfalso; omega)
      | (refine ⟨?_, rfl, trivial⟩; rw [schedForm, allN_no k hlt (by rw [e]; simp [isTime, *])]; simp; done)
      | (refine ⟨(k + 1), ?_, rfl, ?_, ?_⟩
         rotate_left
         · (repeat' ((conv => whnf) <;> (first | exact trivial | exact rfl | with_reducible refine And.intro ?_ ?_)))
         · (try dsimp only); (try simp only [List.length_map]); omega
         exact ⟨by omega, allN_step hi (by rw [e]; simp [isTime, *])⟩)
  · (repeat' ((conv => whnf); first | (exfalso; omega) | (with_reducible first | refine Br.ff ?_ | refine Br.tt ?_ | refine Br.not ?_ | refine Br.yes (by assumption) ?_ | refine Br.no (by assumption) ?_ | (refine Br.dec (fun h => ?_) (fun h => ?_) <;> try simp only [lm] at h)) | ((with_reducible refine Br.mk (fun h => ?_) (fun h => ?_)) <;> (try simp only [lm] at h) <;> (first | have hw := within_iff.1 h | have hw := within_no.1 h | skip)) | with_reducible refine Arith.ok (by first | omega | (simp only [lm]; omega)) ?_ | with_reducible refine Idx.at (by first | omega | (simp only [lm] at *; omega)) (fun x hx => ?_) | with_reducible refine Idx.of_map (by first | omega | (simp only [lm] at *; omega)) (fun j x hj hx => ?_) | refine VC.mk (by first | omega | (simp only [lm]; omega)) ?_ | intro _)) <;> (try (conv => whnf))
    refine ⟨?_, rfl, trivial⟩
    rw [schedForm, allN_iff.2 fun i hh => hi i (by omega)]; simp [*]
theorem modeOf_eq {p : Proj} {s : Sched} {k : Nat} {a : Activ} {t m : Int} {q : Nat} {mo : Mode} (g : SGet p s k a t m q mo) : modeOf p s k = mo := by
  have := g.mq; subst this
  simp [modeOf, actOf, List.getD_eq_getElem?_getD, g.act, g.mode, g.moE]
theorem endOf_eq {p : Proj} {s : Sched} {k : Nat} {a : Activ} {t m : Int} {q : Nat} {mo : Mode} (g : SGet p s k a t m q mo) : endOf p s k = t + mo.dur := by
  rw [endOf, modeOf_eq g]; simp [List.getD_eq_getElem?_getD, g.start]
theorem s_dur {p : Proj} {s : Sched} {k : Nat} {a : Activ} {t m : Int} {q : Nat} {mo : Mode} (g : SGet p s k a t m q mo) : 1 ≤ mo.dur ∧ mo.dur ≤ 12 := (activ_mode g.aok (List.mem_of_getElem? g.moE)).1
theorem impl_mode (p : Proj) (s : Sched) (n : Int) {k : Nat} {a : Activ} {t m : Int} {q : Nat} {mo : Mode} (g : SGet p s k a t m q mo) (hn : n = k) : Con 104 [.d p.av, .d s.av, .d (i64 n)] (.d mo.av) := by
  refine con Tryz.func104 rfl rfl Tryz.call104 rfl fun hwf => ?_
  (repeat' ((conv => whnf); first | with_reducible refine Idx.got g.act hn ?_ | with_reducible refine Idx.got g.mode hn ?_ | with_reducible refine Idx.got g.moE g.mq ?_ | (with_reducible first | refine Br.ff ?_ | refine Br.tt ?_ | refine Br.not ?_ | refine Br.yes (by assumption) ?_ | refine Br.no (by assumption) ?_ | (refine Br.dec (fun h => ?_) (fun h => ?_) <;> try simp only [lm] at h)) | ((with_reducible refine Br.mk (fun h => ?_) (fun h => ?_)) <;> (try simp only [lm] at h) <;> (first | have hw := within_iff.1 h | have hw := within_no.1 h | skip)) | with_reducible refine Idx.at (by first | omega | (simp only [lm] at *; omega)) (fun x hx => ?_) | with_reducible refine Idx.of_map (by first | omega | (simp only [lm] at *; omega)) (fun j x hj hx => ?_) | intro _)) <;> (try (conv => whnf))
  exact ⟨rfl, rfl, trivial⟩
theorem spec_l09Mode (p : Proj) (s : Sched) (n : Int) {k : Nat} {a : Activ} {t m : Int} {q : Nat} {mo : Mode} (g : SGet p s k a t m q mo) (hn : n = k) : Con 119 [.d p.av, .d s.av, .d (i64 n)] (.d mo.av) := by
  refine con Tryz.func119 rfl rfl Tryz.call119 rfl fun hwf => ?_
  (repeat' ((conv => whnf); first | with_reducible refine Idx.got g.act hn ?_ | with_reducible refine Idx.got g.mode hn ?_ | with_reducible refine Idx.got g.moE g.mq ?_ | (with_reducible first | refine Br.ff ?_ | refine Br.tt ?_ | refine Br.not ?_ | refine Br.yes (by assumption) ?_ | refine Br.no (by assumption) ?_ | (refine Br.dec (fun h => ?_) (fun h => ?_) <;> try simp only [lm] at h)) | ((with_reducible refine Br.mk (fun h => ?_) (fun h => ?_)) <;> (try simp only [lm] at h) <;> (first | have hw := within_iff.1 h | have hw := within_no.1 h | skip)) | with_reducible refine Idx.at (by first | omega | (simp only [lm] at *; omega)) (fun x hx => ?_) | with_reducible refine Idx.of_map (by first | omega | (simp only [lm] at *; omega)) (fun j x hj hx => ?_) | intro _)) <;> (try (conv => whnf))
  exact ⟨rfl, rfl, trivial⟩
theorem impl_end (p : Proj) (s : Sched) (n : Int) {k : Nat} {a : Activ} {t m : Int} {q : Nat} {mo : Mode} (g : SGet p s k a t m q mo) (hn : n = k) : Con 67 [.d p.av, .d s.av, .d (i64 n)] (.d (i64 (endOf p s k))) := by
  refine con Tryz.func67 rfl rfl Tryz.call67 rfl fun hwf => ?_
  have hd := s_dur g
  have ht := g.tb
  rw [endOf_eq g]
  (repeat' ((conv => whnf); first | with_reducible refine Idx.got g.start hn ?_ | (with_reducible first | refine Br.ff ?_ | refine Br.tt ?_ | refine Br.not ?_ | refine Br.yes (by assumption) ?_ | refine Br.no (by assumption) ?_ | (refine Br.dec (fun h => ?_) (fun h => ?_) <;> try simp only [lm] at h)) | ((with_reducible refine Br.mk (fun h => ?_) (fun h => ?_)) <;> (try simp only [lm] at h) <;> (first | have hw := within_iff.1 h | have hw := within_no.1 h | skip)) | with_reducible refine Arith.ok (by first | omega | (simp only [lm]; omega)) ?_ | with_reducible refine Idx.at (by first | omega | (simp only [lm] at *; omega)) (fun x hx => ?_) | with_reducible refine Idx.of_map (by first | omega | (simp only [lm] at *; omega)) (fun j x hj hx => ?_) | refine VC.mk (by first | omega | (simp only [lm]; omega)) ?_ | refine CallK.mk _ (impl_mode p s n g hn) (fun _ => ?_) | refine CallD.mk _ (fun _ hk => CallK.mk _ (impl_mode p s n g hn) (fun _ => hk)) ?_ | intro _)) <;> (try (conv => whnf))
  exact ⟨rfl, rfl, trivial⟩
theorem spec_l09End (p : Proj) (s : Sched) (n : Int) {k : Nat} {a : Activ} {t m : Int} {q : Nat} {mo : Mode} (g : SGet p s k a t m q mo) (hn : n = k) : Con 86 [.d p.av, .d s.av, .d (i64 n)] (.d (i64 (endOf p s k))) := by
  refine con Tryz.func86 rfl rfl Tryz.call86 rfl fun hwf => ?_
  have hd := s_dur g
  have ht := g.tb
  rw [endOf_eq g]
  (repeat' ((conv => whnf); first | with_reducible refine Idx.got g.start hn ?_ | (with_reducible first | refine Br.ff ?_ | refine Br.tt ?_ | refine Br.not ?_ | refine Br.yes (by assumption) ?_ | refine Br.no (by assumption) ?_ | (refine Br.dec (fun h => ?_) (fun h => ?_) <;> try simp only [lm] at h)) | ((with_reducible refine Br.mk (fun h => ?_) (fun h => ?_)) <;> (try simp only [lm] at h) <;> (first | have hw := within_iff.1 h | have hw := within_no.1 h | skip)) | with_reducible refine Arith.ok (by first | omega | (simp only [lm]; omega)) ?_ | with_reducible refine Idx.at (by first | omega | (simp only [lm] at *; omega)) (fun x hx => ?_) | with_reducible refine Idx.of_map (by first | omega | (simp only [lm] at *; omega)) (fun j x hj hx => ?_) | refine VC.mk (by first | omega | (simp only [lm]; omega)) ?_ | refine CallK.mk _ (spec_l09Mode p s n g hn) (fun _ => ?_) | refine CallD.mk _ (fun _ hk => CallK.mk _ (spec_l09Mode p s n g hn) (fun _ => hk)) ?_ | intro _)) <;> (try (conv => whnf))
  exact ⟨rfl, rfl, trivial⟩
end Go.Proofs.YtjgblflcapilkaaGreat.Abs
