/- Contracts: lines picked as separate data; proofs that are trimmed. No statement of a claim. -/
import Derived.Test.YtepogmnolnlpmaaGreatC24
import Derived.Test.YtepogmnolnlpmaaGreatLayC
set_option linter.all false
set_option linter.unusedVariables false
set_option linter.unusedSimpArgs false
set_option maxRecDepth 20000
set_option maxHeartbeats 4000000
namespace Go.Proofs.YtepogmnolnlpmaaGreat.Abs
open Go.Proofs Go.RowKit

theorem cloneLit_lin (l : List Lit) : Con 56 [.d (lits l)] (.lin 88 (l.map Lit.av)) := (slices_Clone_lit l).own_lin rfl
theorem impl_linesAt_lin (ls : List Lin) (idx : List Int) (hv : ∀ i ∈ idx, 0 ≤ i ∧ i < ls.length) : Con 73 [.d (.sl (ls.map Lin.av)), .d (ints idx)] (.lin 109 ((pickL ls idx).map Lin.av)) := by
  refine con Tryz.func73 rfl rfl Tryz.call73 rfl fun hwf => ?_
  simp only [ARs.wf, AR.wf, AV.wf, AV.wfs, List.length_map, lim] at hwf
  (repeat' ((conv => whnf); first | refine gA ?_ | ((with_reducible first | refine gD (fun h => ?_) (fun h => ?_) | refine gE (fun h => ?_) (fun h => ?_)) <;> (try simp only [lm] at h) <;> try have hw := wn h) | with_reducible refine gI (fun x hx => ?_) | with_reducible refine gJ (fun j x hj hx => ?_) | refine gP ?_ | refine gV ?_ | intro _)) <;> (try (conv => whnf))
  refine loopF [0, 10, 11] [] [9] ?_
  (conv => whnf)
  refine LoopC.go ((Nat)) (fun k => (k ≤ idx.length)) (fun k => [(12, .data (i64 k)), (5, .own 9 0)]) (fun _ => []) (fun k => [(9, 109, (idx.take k).map (fun i => (lineAt ls i).av), 1)]) (fun k => idx.length - k) (0) ?_ ?_
  · exact Nat.zero_le _
  rintro k hk
  by_cases hlt : k < idx.length
  · obtain ⟨i, hi⟩ : ∃ i, idx[k]? = some i := ⟨idx[k]'hlt, by simp⟩
    have hv' := hv i (List.mem_of_getElem? hi)
    obtain ⟨x, hx⟩ : ∃ x, ls[i.toNat]? = some x := ⟨ls[i.toNat]'(by omega), by simp⟩
    have e := lineAt_get hx
    (repeat' ((conv => whnf); first | with_reducible refine Idx.got hi rfl ?_ | with_reducible refine Idx.got hx (by omega) ?_ | refine gA ?_ | ((with_reducible first | refine gD (fun h => ?_) (fun h => ?_) | refine gE (fun h => ?_) (fun h => ?_)) <;> (try simp only [lm] at h) <;> try have hw := wn h) | with_reducible refine gI (fun x hx => ?_) | with_reducible refine gJ (fun j x hj hx => ?_) | refine gP ?_ | refine gV ?_ | refine gC (cloneLit_lin x.clause) ?_ | intro _)) <;> (try (conv => whnf))
    · refine nw (k + 1) ?_ ?_
      · (repeat' ((conv => whnf) <;> (first | exact trivial | exact rfl | with_reducible refine And.intro ?_ ?_))) <;> ((conv => whnf) <;> ((rw [← map_take_succ2 (fun i => (lineAt ls i).av) hi, e])))
      exact (by omega : k + 1 ≤ idx.length)
    · exfalso; omega
  · (repeat' ((conv => whnf); first | (exfalso; omega) | refine gA ?_ | ((with_reducible first | refine gD (fun h => ?_) (fun h => ?_) | refine gE (fun h => ?_) (fun h => ?_)) <;> (try simp only [lm] at h) <;> try have hw := wn h) | with_reducible refine gI (fun x hx => ?_) | with_reducible refine gJ (fun j x hj hx => ?_) | refine gP ?_ | refine gV ?_ | intro _)) <;> (try (conv => whnf))
    refine ⟨?_, rfl, trivial⟩
    dsimp only
    rw [List.take_of_length_le (by omega)]; simp [pickL, Function.comp_def]
theorem thin_in {p : Proj} {ls : List Lin} {x : Int} (h : x ∈ needed p ls) : 0 ≤ x ∧ x < ls.length := by
  unfold needed at h
  split at h
  · exact upTo_mem (thin_mem h)
  · exact upTo_mem h
def trimmed (p : Proj) (ls : List Lin) : List Lin := pickL ls (needed p ls)
theorem impl_TrimProof (p : Proj) (ls : List Lin) (hp : p.fine) : Con 24 [.d p.av, .d (.sl (ls.map Lin.av))] (.lin 109 ((trimmed p ls).map Lin.av)) := by
  refine con Tryz.func24 rfl rfl Tryz.call24 rfl fun hwf => ?_
  (repeat' ((conv => whnf); first | refine gA ?_ | ((with_reducible first | refine gD (fun h => ?_) (fun h => ?_) | refine gE (fun h => ?_) (fun h => ?_)) <;> (try simp only [lm] at h) <;> try have hw := wn h) | refine gC (impl_NeededLines p ls hp) ?_ | refine gC (impl_linesAt_lin ls (needed p ls) (fun _ h => thin_in h)) ?_ | intro _)) <;> (try (conv => whnf))
  exact ⟨rfl, rfl, trivial⟩
theorem spec_TrimProof (p : Proj) (ls : List Lin) (hp : p.fine) : Con 22 [.d p.av, .d (.sl (ls.map Lin.av))] (.d (.sl ((trimmed p ls).map Lin.av))) := by
  refine con Tryz.func22 rfl rfl Tryz.call22 rfl fun hwf => ?_
  (repeat' ((conv => whnf); first | refine gA ?_ | ((with_reducible first | refine gD (fun h => ?_) (fun h => ?_) | refine gE (fun h => ?_) (fun h => ?_)) <;> (try simp only [lm] at h) <;> try have hw := wn h) | refine gC (spec_NeededLines p ls hp) ?_ | refine gC (spec_l21Some ls (needed p ls) (fun _ h => thin_in h)) ?_ | intro _)) <;> (try (conv => whnf))
  exact ⟨rfl, rfl, trivial⟩
end Go.Proofs.YtepogmnolnlpmaaGreat.Abs
