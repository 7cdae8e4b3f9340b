/- Contracts: all lines, what lines prove. No statement of a claim. -/
import Derived.Test.YtepogmnolnlpmaaGreatC13
set_option linter.all false
set_option linter.unusedVariables false
set_option linter.unusedSimpArgs false
set_option maxRecDepth 20000
set_option maxHeartbeats 4000000
namespace Go.Proofs.YtepogmnolnlpmaaGreat.Abs
open Go.Proofs


theorem checkFrom_at {p : Proj} {all : List Lin} {k : Nat} {x : Lin} (h : all[k]? = some x) : checkFrom p all (all.drop k) k = if checkLine p (all.take k) x = 0 then checkFrom p all (all.drop (k + 1)) (k + 1) else (checkLine p (all.take k) x, (k : Int)) := by
  rw [drop_get h, checkFrom]
def RInts (r : Int × Int) : RV := .tup [.d (i64 r.1), .d (i64 r.2)]
theorem impl_CheckAll (p : Proj) (l : List Lin) (hp : p.fine) : Con 232 [.d p.av, .d (.sl (l.map Lin.av))] (RInts (checkAll p l)) := by
  refine con Tryz.func232 rfl rfl Tryz.call232 rfl fun hwf => ?_
  simp only [ARs.wf, AR.wf, AV.wf, AV.wfs, List.length_map, lim] at hwf
  (repeat' ((conv => whnf); first | refine gA ?_ | ((with_reducible first | refine gD (fun h => ?_) (fun h => ?_) | refine gE (fun h => ?_) (fun h => ?_)) <;> (try simp only [lm] at h) <;> try have hw := wn h) | with_reducible refine gI (fun x hx => ?_) | with_reducible refine gJ (fun j x hj hx => ?_) | refine gV ?_ | refine gK ?_ | intro _)) <;> (try (conv => whnf))
  refine loopF [1, 2, 9, 10] [2] [] ?_
  (conv => whnf)
  refine LoopC.go ((Nat)) (fun k => (k ≤ l.length) ∧ (checkFrom p l (l.drop k) k = checkAll p l)) (fun k => [(11, .data (i64 k))]) (fun _ => []) (fun _ => []) (fun k => l.length - k) (0) ?_ ?_
  · exact ⟨by omega, rfl⟩
  rintro k ⟨hk, hi⟩
  by_cases hlt : k < l.length
  · obtain ⟨x, hx⟩ : ∃ x, l[k]? = some x := ⟨l[k]'hlt, by simp⟩
    rw [checkFrom_at hx] at hi
    have hc := impl_CheckLine p (l.take k) x hp
    rw [← subList_head] at hc
    (repeat' ((conv => whnf); first | with_reducible refine Idx.got hx rfl ?_ | refine gA ?_ | ((with_reducible first | refine gD (fun h => ?_) (fun h => ?_) | refine gE (fun h => ?_) (fun h => ?_)) <;> (try simp only [lm] at h) <;> try have hw := wn h) | with_reducible refine gI (fun x hx => ?_) | with_reducible refine gJ (fun j x hj hx => ?_) | refine gV ?_ | refine gK ?_ | refine gC (hc) ?_ | intro _)) <;> (try (conv => whnf))
    · refine nx (k + 1) ?_
      rw [if_pos (by assumption)] at hi
      exact ⟨by omega, hi⟩
    · rw [if_neg (by assumption)] at hi
      rw [← hi]
      (repeat' ((conv => whnf) <;> (first | exact trivial | refine VC.mk rfl ?_)))
    · exfalso; omega
  · (repeat' ((conv => whnf); first | (exfalso; omega) | refine gA ?_ | ((with_reducible first | refine gD (fun h => ?_) (fun h => ?_) | refine gE (fun h => ?_) (fun h => ?_)) <;> (try simp only [lm] at h) <;> try have hw := wn h) | with_reducible refine gI (fun x hx => ?_) | with_reducible refine gJ (fun j x hj hx => ?_) | refine gV ?_ | refine gK ?_ | intro _)) <;> (try (conv => whnf))
    rw [drop_end hlt, checkFrom] at hi
    rw [← hi, show k = l.length by omega]
    (repeat' ((conv => whnf) <;> (first | exact trivial | refine VC.mk rfl ?_ | refine VC.mk (by simp) ?_)))
theorem spec_CheckAll (p : Proj) (l : List Lin) (hp : p.fine) : Con 135 [.d p.av, .d (.sl (l.map Lin.av))] (RInts (checkAll p l)) := by
  refine con Tryz.func135 rfl rfl Tryz.call135 rfl fun hwf => ?_
  simp only [ARs.wf, AR.wf, AV.wf, AV.wfs, List.length_map, lim] at hwf
  (repeat' ((conv => whnf); first | refine gA ?_ | ((with_reducible first | refine gD (fun h => ?_) (fun h => ?_) | refine gE (fun h => ?_) (fun h => ?_)) <;> (try simp only [lm] at h) <;> try have hw := wn h) | with_reducible refine gI (fun x hx => ?_) | with_reducible refine gJ (fun j x hj hx => ?_) | refine gV ?_ | refine gK ?_ | intro _)) <;> (try (conv => whnf))
  refine loopF [1, 2, 9, 10] [2] [] ?_
  (conv => whnf)
  refine LoopC.go ((Nat)) (fun k => (k ≤ l.length) ∧ (checkFrom p l (l.drop k) k = checkAll p l)) (fun k => [(11, .data (i64 k))]) (fun _ => []) (fun _ => []) (fun k => l.length - k) (0) ?_ ?_
  · exact ⟨by omega, rfl⟩
  rintro k ⟨hk, hi⟩
  by_cases hlt : k < l.length
  · obtain ⟨x, hx⟩ : ∃ x, l[k]? = some x := ⟨l[k]'hlt, by simp⟩
    rw [checkFrom_at hx] at hi
    have hc := spec_CheckLine p (l.take k) x hp
    rw [← subList_head] at hc
    (repeat' ((conv => whnf); first | with_reducible refine Idx.got hx rfl ?_ | refine gA ?_ | ((with_reducible first | refine gD (fun h => ?_) (fun h => ?_) | refine gE (fun h => ?_) (fun h => ?_)) <;> (try simp only [lm] at h) <;> try have hw := wn h) | with_reducible refine gI (fun x hx => ?_) | with_reducible refine gJ (fun j x hj hx => ?_) | refine gV ?_ | refine gK ?_ | refine gC (hc) ?_ | intro _)) <;> (try (conv => whnf))
    · refine nx (k + 1) ?_
      rw [if_pos (by assumption)] at hi
      exact ⟨by omega, hi⟩
    · rw [if_neg (by assumption)] at hi
      rw [← hi]
      (repeat' ((conv => whnf) <;> (first | exact trivial | refine VC.mk rfl ?_)))
    · exfalso; omega
  · (repeat' ((conv => whnf); first | (exfalso; omega) | refine gA ?_ | ((with_reducible first | refine gD (fun h => ?_) (fun h => ?_) | refine gE (fun h => ?_) (fun h => ?_)) <;> (try simp only [lm] at h) <;> try have hw := wn h) | with_reducible refine gI (fun x hx => ?_) | with_reducible refine gJ (fun j x hj hx => ?_) | refine gV ?_ | refine gK ?_ | intro _)) <;> (try (conv => whnf))
    rw [drop_end hlt, checkFrom] at hi
    rw [← hi, show k = l.length by omega]
    (repeat' ((conv => whnf) <;> (first | exact trivial | refine VC.mk rfl ?_ | refine VC.mk (by simp) ?_)))
theorem impl_isChecked (p : Proj) (l : List Lin) (hp : p.fine) : Con 137 [.d p.av, .d (.sl (l.map Lin.av))] (.d (.bool (isChecked p l))) := by
  refine con Tryz.func137 rfl rfl Tryz.call137 rfl fun hwf => ?_
  (repeat' ((conv => whnf); first | refine gA ?_ | ((with_reducible first | refine gD (fun h => ?_) (fun h => ?_) | refine gE (fun h => ?_) (fun h => ?_)) <;> (try simp only [lm] at h) <;> try have hw := wn h) | refine gC (impl_CheckAll p l hp) ?_ | intro _)) <;> (try (conv => whnf))
  exact ⟨rfl, rfl, trivial⟩
def lastOk (x : Lit) : List Lit → Bool
  | [] => true
  | [y] => sameLit y x
  | _ => false
end Go.Proofs.YtepogmnolnlpmaaGreat.Abs
