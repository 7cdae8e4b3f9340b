/- Contracts: rules that schedules break. No statement of a claim. -/
import Derived.Test.YtjgblflcapilkaaGreatC18
set_option linter.all false
set_option linter.unusedVariables false
set_option linter.unusedSimpArgs false
set_option maxRecDepth 20000
set_option maxHeartbeats 4000000
namespace Go.Proofs.YtjgblflcapilkaaGreat.Abs
open Go.Proofs


theorem useIn_eq {p : Proj} {s : Sched} {k : Nat} {a : Activ} {t m : Int} {q : Nat} {mo : Mode} (g : SGet p s k a t m q mo) {r : Int} (hr : hasRes p r = true) (x : Int) :
    ∃ (ρ : Nat) (u : Int), r = ρ ∧ mo.use[ρ]? = some u ∧ (0 ≤ u ∧ u ≤ 20) ∧ useIn p s r x k = if runs p s x k = true then u else 0 := by
  have hm := activ_mode g.aok (List.mem_of_getElem? g.moE)
  have hw := within_iff.1 hr
  have e2 : mo.use[r.toNat]? = some (mo.use[r.toNat]'(by omega)) := by simp
  refine ⟨r.toNat, _, by omega, e2, hm.2.1 _ (List.mem_of_getElem? e2), ?_⟩
  rw [useIn, modeOf_eq g, List.getD_eq_getElem?_getD, e2]; rfl
theorem useIn_bound {p : Proj} {s : Sched} (hf : schedForm p s = true) {r : Int} (hr : hasRes p r = true) (x : Int) {k : Nat} (hk : k < p.acts.length) : 0 ≤ useIn p s r x k ∧ useIn p s r x k ≤ 20 := by
  obtain ⟨a, t, m, q, mo, g⟩ := s_get hf hk
  obtain ⟨ρ, u, _, _, hb, e⟩ := useIn_eq g hr x
  rw [e]; split <;> omega
theorem usage_bound {p : Proj} {s : Sched} (hf : schedForm p s = true) {r : Int} (hr : hasRes p r = true) (x : Int) {k : Nat} (hk : k ≤ p.acts.length) : 0 ≤ sumTo (useIn p s r x) k ∧ sumTo (useIn p s r x) k ≤ 20 * k :=
  sumTo_bound fun i hi => useIn_bound hf hr x (by omega)
/-- A sum over the activities that run. -/
def sumOver (f : Int → Int) : List Int → Int → Int
  | [], s => s
  | x :: r, s => sumOver f r (s + f x)
theorem sumOver_app (f : Int → Int) : ∀ (l m : List Int) (s : Int), sumOver f (l ++ m) s = sumOver f m (sumOver f l s)
  | [], _, _ => rfl
  | x :: l, m, s => sumOver_app f l m (s + f x)
theorem sumOver_upTo {f : Int → Int} {P : Int → Bool} {g : Nat → Int} : ∀ (n : Nat), (∀ k, k < n → g k = if P k = true then f k else 0) → sumOver f ((upTo n).filter P) 0 = sumTo g n
  | 0, _ => rfl
  | n + 1, h => by
    have e : upTo (n + 1) = upTo n ++ [(n : Int)] := by simp [upTo, List.range_succ]
    rw [e, List.filter_append, sumOver_app, sumOver_upTo n fun k hk => h k (by omega), sumTo, h n (by omega)]
    by_cases hp : P n = true
    · rw [if_pos hp, List.filter_cons, if_pos hp]; rfl
    · rw [if_neg hp, List.filter_cons, if_neg hp]; simp [sumOver]
theorem sumOver_bound {f : Int → Int} {c : Int} (hc : 0 ≤ c) : ∀ (l : List Int) (s : Int), (∀ x ∈ l, 0 ≤ f x ∧ f x ≤ c) → s ≤ sumOver f l s ∧ sumOver f l s ≤ s + c * l.length
  | [], s, _ => by simp [sumOver]
  | x :: l, s, h => by
    have h1 := sumOver_bound hc l (s + f x) fun y hy => h y (by simp [hy])
    have h2 := h x (by simp)
    rw [sumOver, List.length_cons, Int.natCast_succ, Int.mul_add]; omega
def useOf (p : Proj) (s : Sched) (r : Int) (n : Int) : Int := (modeOf p s n.toNat).use.getD r.toNat 0
theorem usage_run {p : Proj} {s : Sched} (hf : schedForm p s = true) (r t : Int) : sumOver (useOf p s r) ((upTo p.acts.length).filter (runP p s t)) 0 = usageIn p s r t :=
  sumOver_upTo _ fun k hk => by simp [useIn, runP, useOf]
theorem impl_usage (p : Proj) (s : Sched) (r t : Int) (hf : schedForm p s = true) (hr : hasRes p r = true) : Con 132 [.d p.av, .d s.av, .d (i64 r), .d (i64 t)] (.d (i64 (usageIn p s r t))) := by
  refine con Tryz.func132 rfl rfl Tryz.call132 rfl fun hwf => ?_
  simp only [ARs.wf, AR.wf, AV.wf, AV.wfs, List.length_map, lim] at hwf
  have hna := (projForm (schedForm_parts hf).1).nact
  obtain ⟨l, hl⟩ : ∃ l, l = (upTo p.acts.length).filter (runP p s t) := ⟨_, rfl⟩
  have hlen : l.length ≤ p.acts.length := by rw [hl]; have := List.length_filter_le (runP p s t) (upTo p.acts.length); rw [upTo_len] at this; exact this
  have hmem : ∀ x ∈ l, ∃ k : Nat, x = k ∧ k < p.acts.length := fun x hx => by rw [hl] at hx; exact upTo_mem (List.mem_filter.1 hx).1
  have hrun := impl_running p s t hf
  rw [← hl] at hrun
  rw [← usage_run hf r t, ← hl]
  have hb : ∀ x ∈ l, 0 ≤ useOf p s r x ∧ useOf p s r x ≤ 20 := fun x hx => by
    obtain ⟨k, rfl, hk⟩ := hmem x hx
    obtain ⟨a, u, m, q, mo, g⟩ := s_get hf hk
    obtain ⟨ρ, v, e1, e2, e3, _⟩ := useIn_eq g hr t
    subst e1
    simpa [useOf, modeOf_eq g, List.getD_eq_getElem?_getD, e2] using e3
  (repeat' ((conv => whnf); first | (with_reducible first | refine Br.ff ?_ | refine Br.tt ?_ | refine Br.not ?_ | refine Br.yes (by assumption) ?_ | refine Br.no (by assumption) ?_ | (refine Br.dec (fun h => ?_) (fun h => ?_) <;> try simp only [lm] at h)) | ((with_reducible refine Br.mk (fun h => ?_) (fun h => ?_)) <;> (try simp only [lm] at h) <;> (first | have hw := within_iff.1 h | have hw := within_no.1 h | skip)) | with_reducible refine Arith.ok (by first | omega | (simp only [lm]; omega)) ?_ | with_reducible refine Idx.at (by first | omega | (simp only [lm] at *; omega)) (fun x hx => ?_) | with_reducible refine Idx.of_map (by first | omega | (simp only [lm] at *; omega)) (fun j x hj hx => ?_) | refine VC.mk (by first | omega | (simp only [lm]; omega)) ?_ | refine CallK.mk _ (hrun) (fun _ => ?_) | refine CallD.mk _ (fun _ hk => CallK.mk _ (hrun) (fun _ => hk)) ?_ | intro _)) <;> (try (conv => whnf))
  refine loopF [2, 4, 5, 15, 16] [4, 5] [] ?_
  (conv => whnf)
  refine LoopC.mk ((Nat) × (Int)) (fun ⟨j, n⟩ => (j ≤ l.length) ∧ (0 ≤ n ∧ n ≤ 20 * j) ∧ (sumOver (useOf p s r) (l.drop j) n = sumOver (useOf p s r) l 0)) (fun ⟨j, n⟩ => [(17, .data (i64 j)), (9, .data (i64 n))]) (fun _ => []) (fun _ => []) (fun ⟨j, n⟩ => l.length - j) ⟨0, 0⟩ ?_ ?_ ?_
  rotate_left
  · (repeat' ((conv => whnf) <;> (first | exact trivial | exact rfl | with_reducible refine And.intro ?_ ?_)))
  rotate_left
  · exact ⟨by omega, by omega, rfl⟩
  rintro ⟨j, n⟩ ⟨hj, hn, hi⟩
  by_cases hlt : j < l.length
  · obtain ⟨x, hx⟩ : ∃ x, l[j]? = some x := ⟨l[j]'hlt, by simp⟩
    have hxb := hb x (List.mem_of_getElem? hx)
    obtain ⟨k, rfl, hk⟩ := hmem x (List.mem_of_getElem? hx)
    obtain ⟨a, u, m, q, mo, g⟩ := s_get hf hk
    obtain ⟨ρ, v, e1, e2, e3, _⟩ := useIn_eq g hr t
    have ev : useOf p s r (k : Int) = v := by subst e1; simp [useOf, modeOf_eq g, List.getD_eq_getElem?_getD, e2]
    rw [ev] at hxb
    rw [drop_get hx, sumOver, ev] at hi
    (repeat' ((conv => whnf); first | with_reducible refine Idx.got hx rfl ?_ | with_reducible refine Idx.got e2 e1 ?_ | (with_reducible first | refine Br.ff ?_ | refine Br.tt ?_ | refine Br.not ?_ | refine Br.yes (by assumption) ?_ | refine Br.no (by assumption) ?_ | (refine Br.dec (fun h => ?_) (fun h => ?_) <;> try simp only [lm] at h)) | ((with_reducible refine Br.mk (fun h => ?_) (fun h => ?_)) <;> (try simp only [lm] at h) <;> (first | have hw := within_iff.1 h | have hw := within_no.1 h | skip)) | with_reducible refine Arith.ok (by first | omega | (simp only [lm]; omega)) ?_ | with_reducible refine Idx.at (by first | omega | (simp only [lm] at *; omega)) (fun x hx => ?_) | with_reducible refine Idx.of_map (by first | omega | (simp only [lm] at *; omega)) (fun j x hj hx => ?_) | refine VC.mk (by first | omega | (simp only [lm]; omega)) ?_ | refine CallK.mk _ (impl_mode p s _ g rfl) (fun _ => ?_) | refine CallD.mk _ (fun _ hk => CallK.mk _ (impl_mode p s _ g rfl) (fun _ => hk)) ?_ | intro _)) <;> (try (conv => whnf))
    · refine ⟨⟨j + 1, n + v⟩, ?_, rfl, ?_, ?_⟩
      rotate_left
      · (repeat' ((conv => whnf) <;> (first | exact trivial | exact rfl | with_reducible refine And.intro ?_ ?_)))
      · (try dsimp only); (try simp only [List.length_map]); omega
      exact ⟨by omega, by omega, hi⟩
    · exfalso; omega
  · (repeat' ((conv => whnf); first | (exfalso; omega) | (with_reducible first | refine Br.ff ?_ | refine Br.tt ?_ | refine Br.not ?_ | refine Br.yes (by assumption) ?_ | refine Br.no (by assumption) ?_ | (refine Br.dec (fun h => ?_) (fun h => ?_) <;> try simp only [lm] at h)) | ((with_reducible refine Br.mk (fun h => ?_) (fun h => ?_)) <;> (try simp only [lm] at h) <;> (first | have hw := within_iff.1 h | have hw := within_no.1 h | skip)) | with_reducible refine Arith.ok (by first | omega | (simp only [lm]; omega)) ?_ | with_reducible refine Idx.at (by first | omega | (simp only [lm] at *; omega)) (fun x hx => ?_) | with_reducible refine Idx.of_map (by first | omega | (simp only [lm] at *; omega)) (fun j x hj hx => ?_) | refine VC.mk (by first | omega | (simp only [lm]; omega)) ?_ | intro _)) <;> (try (conv => whnf))
    refine ⟨?_, rfl, trivial⟩
    rw [drop_end hlt] at hi
    rw [← hi]; rfl
theorem spec_l09Use (p : Proj) (s : Sched) (r t : Int) (hf : schedForm p s = true) (hr : hasRes p r = true) : Con 143 [.d p.av, .d s.av, .d (i64 r), .d (i64 t)] (.d (i64 (usageIn p s r t))) := by
  refine con Tryz.func143 rfl rfl Tryz.call143 rfl fun hwf => ?_
  simp only [ARs.wf, AR.wf, AV.wf, AV.wfs, List.length_map, lim] at hwf
  (repeat' ((conv => whnf); first | (with_reducible first | refine Br.ff ?_ | refine Br.tt ?_ | refine Br.not ?_ | refine Br.yes (by assumption) ?_ | refine Br.no (by assumption) ?_ | (refine Br.dec (fun h => ?_) (fun h => ?_) <;> try simp only [lm] at h)) | ((with_reducible refine Br.mk (fun h => ?_) (fun h => ?_)) <;> (try simp only [lm] at h) <;> (first | have hw := within_iff.1 h | have hw := within_no.1 h | skip)) | with_reducible refine Arith.ok (by first | omega | (simp only [lm]; omega)) ?_ | with_reducible refine Idx.at (by first | omega | (simp only [lm] at *; omega)) (fun x hx => ?_) | with_reducible refine Idx.of_map (by first | omega | (simp only [lm] at *; omega)) (fun j x hj hx => ?_) | refine VC.mk (by first | omega | (simp only [lm]; omega)) ?_ | intro _)) <;> (try (conv => whnf))
  refine loopF [2, 3, 4, 5, 13] [4, 5] [] ?_
  (conv => whnf)
  refine LoopC.mk ((Nat) × (Int)) (fun ⟨k, n⟩ => (k ≤ p.acts.length) ∧ (n = sumTo (useIn p s r t) k)) (fun ⟨k, n⟩ => [(14, .data (i64 k)), (9, .data (i64 n))]) (fun _ => []) (fun _ => []) (fun ⟨k, n⟩ => p.acts.length - k) ⟨0, 0⟩ ?_ ?_ ?_
  rotate_left
  · (repeat' ((conv => whnf) <;> (first | exact trivial | exact rfl | with_reducible refine And.intro ?_ ?_)))
  rotate_left
  · exact ⟨by omega, rfl⟩
  rintro ⟨k, n⟩ ⟨hk, hn⟩
  by_cases hlt : k < p.acts.length
  · obtain ⟨a, u, m, q, mo, g⟩ := s_get hf hlt
    obtain ⟨ρ, v, e1, e2, e3, e4⟩ := useIn_eq g hr t
    have hb := usage_bound hf hr t hk
    rw [runs_eq g] at e4
    (repeat' ((conv => whnf); first | with_reducible refine Idx.got g.start rfl ?_ | with_reducible refine Idx.got e2 e1 ?_ | (with_reducible first | refine Br.ff ?_ | refine Br.tt ?_ | refine Br.not ?_ | refine Br.yes (by assumption) ?_ | refine Br.no (by assumption) ?_ | (refine Br.dec (fun h => ?_) (fun h => ?_) <;> try simp only [lm] at h)) | ((with_reducible refine Br.mk (fun h => ?_) (fun h => ?_)) <;> (try simp only [lm] at h) <;> (first | have hw := within_iff.1 h | have hw := within_no.1 h | skip)) | with_reducible refine Arith.ok (by first | omega | (simp only [lm]; omega)) ?_ | with_reducible refine Idx.at (by first | omega | (simp only [lm] at *; omega)) (fun x hx => ?_) | with_reducible refine Idx.of_map (by first | omega | (simp only [lm] at *; omega)) (fun j x hj hx => ?_) | refine VC.mk (by first | omega | (simp only [lm]; omega)) ?_ | refine CallK.mk _ (spec_l09End p s _ g rfl) (fun _ => ?_) | refine CallD.mk _ (fun _ hk => CallK.mk _ (spec_l09End p s _ g rfl) (fun _ => hk)) ?_ | refine CallK.mk _ (spec_l09Mode p s _ g rfl) (fun _ => ?_) | refine CallD.mk _ (fun _ hk => CallK.mk _ (spec_l09Mode p s _ g rfl) (fun _ => hk)) ?_ | intro _)) <;> (try (conv => whnf))
    · refine ⟨⟨k + 1, n + v⟩, ?_, rfl, ?_, ?_⟩
      rotate_left
      · (repeat' ((conv => whnf) <;> (first | exact trivial | exact rfl | with_reducible refine And.intro ?_ ?_)))
      · (try dsimp only); (try simp only [List.length_map]); omega
      exact ⟨by omega, by rw [sumTo, hn, e4, if_pos (by simp [*])]⟩
    · refine ⟨⟨k + 1, n⟩, ?_, rfl, ?_, ?_⟩
      rotate_left
      · (repeat' ((conv => whnf) <;> (first | exact trivial | exact rfl | with_reducible refine And.intro ?_ ?_)))
      · (try dsimp only); (try simp only [List.length_map]); omega
      exact ⟨by omega, by rw [sumTo, hn, e4, if_neg (by simp [*])]; simp⟩
    · refine ⟨⟨k + 1, n⟩, ?_, rfl, ?_, ?_⟩
      rotate_left
      · (repeat' ((conv => whnf) <;> (first | exact trivial | exact rfl | with_reducible refine And.intro ?_ ?_)))
      · (try dsimp only); (try simp only [List.length_map]); omega
      exact ⟨by omega, by rw [sumTo, hn, e4, if_neg (by simp [*])]; simp⟩
    · exfalso; omega
  · (repeat' ((conv => whnf); first | (exfalso; omega) | (with_reducible first | refine Br.ff ?_ | refine Br.tt ?_ | refine Br.not ?_ | refine Br.yes (by assumption) ?_ | refine Br.no (by assumption) ?_ | (refine Br.dec (fun h => ?_) (fun h => ?_) <;> try simp only [lm] at h)) | ((with_reducible refine Br.mk (fun h => ?_) (fun h => ?_)) <;> (try simp only [lm] at h) <;> (first | have hw := within_iff.1 h | have hw := within_no.1 h | skip)) | with_reducible refine Arith.ok (by first | omega | (simp only [lm]; omega)) ?_ | with_reducible refine Idx.at (by first | omega | (simp only [lm] at *; omega)) (fun x hx => ?_) | with_reducible refine Idx.of_map (by first | omega | (simp only [lm] at *; omega)) (fun j x hj hx => ?_) | refine VC.mk (by first | omega | (simp only [lm]; omega)) ?_ | intro _)) <;> (try (conv => whnf))
    refine ⟨?_, rfl, trivial⟩
    rw [hn, show k = p.acts.length by omega]; rfl
end Go.Proofs.YtjgblflcapilkaaGreat.Abs
