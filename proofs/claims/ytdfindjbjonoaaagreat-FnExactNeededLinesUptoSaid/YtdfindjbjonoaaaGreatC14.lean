/- Contracts: all lines, what lines prove. No statement of a claim. -/
import Derived.Test.YtdfindjbjonoaaaGreatC13
set_option linter.all false
set_option linter.unusedVariables false
set_option linter.unusedSimpArgs false
set_option maxRecDepth 20000
set_option maxHeartbeats 4000000
namespace Go.Proofs.YtdfindjbjonoaaaGreat.Abs
open Go.Proofs


theorem checkFrom_at {p : Proj} {all : List Lin} {k : Nat} {x : Lin} (h : all[k]? = some x) : checkFrom p all (all.drop k) k = if checkLine p (all.take k) x = 0 then checkFrom p all (all.drop (k + 1)) (k + 1) else (checkLine p (all.take k) x, (k : Int)) := by
  rw [drop_get h, checkFrom]
def RInts (r : Int × Int) : RV := .tup [.d (i64 r.1), .d (i64 r.2)]
theorem impl_CheckAll (p : Proj) (l : List Lin) (hp : p.fine) : Con 235 [.d p.av, .d (.sl (l.map Lin.av))] (RInts (checkAll p l)) := by
  refine con Tryz.func235 rfl rfl Tryz.call235 rfl fun hwf => ?_
  simp only [ARs.wf, AR.wf, AV.wf, AV.wfs, List.length_map, lim] at hwf
  (repeat' ((conv => whnf); first | (with_reducible first | refine Br.ff ?_ | refine Br.tt ?_ | refine Br.not ?_ | refine Br.yes (by assumption) ?_ | refine Br.no (by assumption) ?_ | (refine Br.dec (fun h => ?_) (fun h => ?_) <;> try simp only [lm] at h)) | ((with_reducible refine Br.mk (fun h => ?_) (fun h => ?_)) <;> (try simp only [lm] at h) <;> (first | have hw := within_iff.1 h | have hw := within_no.1 h | skip)) | with_reducible refine Arith.ok (by first | omega | (simp only [lm]; omega)) ?_ | with_reducible refine Idx.at (by first | omega | (simp only [lm] at *; omega)) (fun x hx => ?_) | with_reducible refine Idx.of_map (by first | omega | (simp only [lm] at *; omega)) (fun j x hj hx => ?_) | refine VC.mk (by first | omega | (simp only [lm]; omega)) ?_ | refine VC.cut rfl (fun _ => rfl) ?_ | refine VC.mk ⟨rfl, .inl rfl⟩ ?_ | intro _)) <;> (try (conv => whnf))
  refine loopF [1, 2, 9, 10] [2] [] ?_
  (conv => whnf)
  refine LoopC.mk ((Nat)) (fun k => (k ≤ l.length) ∧ (checkFrom p l (l.drop k) k = checkAll p l)) (fun k => [(11, .data (i64 k))]) (fun _ => []) (fun _ => []) (fun k => l.length - k) (0) ?_ ?_ ?_
  rotate_left
  · (repeat' ((conv => whnf) <;> (first | exact trivial | exact rfl | with_reducible refine And.intro ?_ ?_)))
  rotate_left
  · exact ⟨by omega, rfl⟩
  rintro k ⟨hk, hi⟩
  by_cases hlt : k < l.length
  · obtain ⟨x, hx⟩ : ∃ x, l[k]? = some x := ⟨l[k]'hlt, by simp⟩
    rw [checkFrom_at hx] at hi
    have hc := impl_CheckLine p (l.take k) x hp
    rw [← subList_head] at hc
    (repeat' ((conv => whnf); first | with_reducible refine Idx.got hx rfl ?_ | (with_reducible first | refine Br.ff ?_ | refine Br.tt ?_ | refine Br.not ?_ | refine Br.yes (by assumption) ?_ | refine Br.no (by assumption) ?_ | (refine Br.dec (fun h => ?_) (fun h => ?_) <;> try simp only [lm] at h)) | ((with_reducible refine Br.mk (fun h => ?_) (fun h => ?_)) <;> (try simp only [lm] at h) <;> (first | have hw := within_iff.1 h | have hw := within_no.1 h | skip)) | with_reducible refine Arith.ok (by first | omega | (simp only [lm]; omega)) ?_ | with_reducible refine Idx.at (by first | omega | (simp only [lm] at *; omega)) (fun x hx => ?_) | with_reducible refine Idx.of_map (by first | omega | (simp only [lm] at *; omega)) (fun j x hj hx => ?_) | refine VC.mk (by first | omega | (simp only [lm]; omega)) ?_ | refine VC.cut rfl (fun _ => rfl) ?_ | refine VC.mk ⟨rfl, .inl rfl⟩ ?_ | refine CallK.mk _ (hc) (fun _ => ?_) | refine CallD.mk _ (fun _ hk => CallK.mk _ (hc) (fun _ => hk)) ?_ | intro _)) <;> (try (conv => whnf))
    · refine ⟨(k + 1), ?_, rfl, ?_, ?_⟩
      rotate_left
      · (repeat' ((conv => whnf) <;> (first | exact trivial | exact rfl | with_reducible refine And.intro ?_ ?_)))
      · (try dsimp only); (try simp only [List.length_map]); omega
      rw [if_pos (by assumption)] at hi
      exact ⟨by omega, hi⟩
    · rw [if_neg (by assumption)] at hi
      rw [← hi]
      (repeat' ((conv => whnf) <;> (first | exact trivial | refine VC.mk rfl ?_)))
    · exfalso; omega
  · (repeat' ((conv => whnf); first | (exfalso; omega) | (with_reducible first | refine Br.ff ?_ | refine Br.tt ?_ | refine Br.not ?_ | refine Br.yes (by assumption) ?_ | refine Br.no (by assumption) ?_ | (refine Br.dec (fun h => ?_) (fun h => ?_) <;> try simp only [lm] at h)) | ((with_reducible refine Br.mk (fun h => ?_) (fun h => ?_)) <;> (try simp only [lm] at h) <;> (first | have hw := within_iff.1 h | have hw := within_no.1 h | skip)) | with_reducible refine Arith.ok (by first | omega | (simp only [lm]; omega)) ?_ | with_reducible refine Idx.at (by first | omega | (simp only [lm] at *; omega)) (fun x hx => ?_) | with_reducible refine Idx.of_map (by first | omega | (simp only [lm] at *; omega)) (fun j x hj hx => ?_) | refine VC.mk (by first | omega | (simp only [lm]; omega)) ?_ | refine VC.cut rfl (fun _ => rfl) ?_ | refine VC.mk ⟨rfl, .inl rfl⟩ ?_ | intro _)) <;> (try (conv => whnf))
    rw [drop_end hlt, checkFrom] at hi
    rw [← hi, show k = l.length by omega]
    (repeat' ((conv => whnf) <;> (first | exact trivial | refine VC.mk rfl ?_ | refine VC.mk (by simp) ?_)))
theorem spec_CheckAll (p : Proj) (l : List Lin) (hp : p.fine) : Con 122 [.d p.av, .d (.sl (l.map Lin.av))] (RInts (checkAll p l)) := by
  refine con Tryz.func122 rfl rfl Tryz.call122 rfl fun hwf => ?_
  simp only [ARs.wf, AR.wf, AV.wf, AV.wfs, List.length_map, lim] at hwf
  (repeat' ((conv => whnf); first | (with_reducible first | refine Br.ff ?_ | refine Br.tt ?_ | refine Br.not ?_ | refine Br.yes (by assumption) ?_ | refine Br.no (by assumption) ?_ | (refine Br.dec (fun h => ?_) (fun h => ?_) <;> try simp only [lm] at h)) | ((with_reducible refine Br.mk (fun h => ?_) (fun h => ?_)) <;> (try simp only [lm] at h) <;> (first | have hw := within_iff.1 h | have hw := within_no.1 h | skip)) | with_reducible refine Arith.ok (by first | omega | (simp only [lm]; omega)) ?_ | with_reducible refine Idx.at (by first | omega | (simp only [lm] at *; omega)) (fun x hx => ?_) | with_reducible refine Idx.of_map (by first | omega | (simp only [lm] at *; omega)) (fun j x hj hx => ?_) | refine VC.mk (by first | omega | (simp only [lm]; omega)) ?_ | refine VC.cut rfl (fun _ => rfl) ?_ | refine VC.mk ⟨rfl, .inl rfl⟩ ?_ | intro _)) <;> (try (conv => whnf))
  refine loopF [1, 2, 9, 10] [2] [] ?_
  (conv => whnf)
  refine LoopC.mk ((Nat)) (fun k => (k ≤ l.length) ∧ (checkFrom p l (l.drop k) k = checkAll p l)) (fun k => [(11, .data (i64 k))]) (fun _ => []) (fun _ => []) (fun k => l.length - k) (0) ?_ ?_ ?_
  rotate_left
  · (repeat' ((conv => whnf) <;> (first | exact trivial | exact rfl | with_reducible refine And.intro ?_ ?_)))
  rotate_left
  · exact ⟨by omega, rfl⟩
  rintro k ⟨hk, hi⟩
  by_cases hlt : k < l.length
  · obtain ⟨x, hx⟩ : ∃ x, l[k]? = some x := ⟨l[k]'hlt, by simp⟩
    rw [checkFrom_at hx] at hi
    have hc := spec_CheckLine p (l.take k) x hp
    rw [← subList_head] at hc
    (repeat' ((conv => whnf); first | with_reducible refine Idx.got hx rfl ?_ | (with_reducible first | refine Br.ff ?_ | refine Br.tt ?_ | refine Br.not ?_ | refine Br.yes (by assumption) ?_ | refine Br.no (by assumption) ?_ | (refine Br.dec (fun h => ?_) (fun h => ?_) <;> try simp only [lm] at h)) | ((with_reducible refine Br.mk (fun h => ?_) (fun h => ?_)) <;> (try simp only [lm] at h) <;> (first | have hw := within_iff.1 h | have hw := within_no.1 h | skip)) | with_reducible refine Arith.ok (by first | omega | (simp only [lm]; omega)) ?_ | with_reducible refine Idx.at (by first | omega | (simp only [lm] at *; omega)) (fun x hx => ?_) | with_reducible refine Idx.of_map (by first | omega | (simp only [lm] at *; omega)) (fun j x hj hx => ?_) | refine VC.mk (by first | omega | (simp only [lm]; omega)) ?_ | refine VC.cut rfl (fun _ => rfl) ?_ | refine VC.mk ⟨rfl, .inl rfl⟩ ?_ | refine CallK.mk _ (hc) (fun _ => ?_) | refine CallD.mk _ (fun _ hk => CallK.mk _ (hc) (fun _ => hk)) ?_ | intro _)) <;> (try (conv => whnf))
    · refine ⟨(k + 1), ?_, rfl, ?_, ?_⟩
      rotate_left
      · (repeat' ((conv => whnf) <;> (first | exact trivial | exact rfl | with_reducible refine And.intro ?_ ?_)))
      · (try dsimp only); (try simp only [List.length_map]); omega
      rw [if_pos (by assumption)] at hi
      exact ⟨by omega, hi⟩
    · rw [if_neg (by assumption)] at hi
      rw [← hi]
      (repeat' ((conv => whnf) <;> (first | exact trivial | refine VC.mk rfl ?_)))
    · exfalso; omega
  · (repeat' ((conv => whnf); first | (exfalso; omega) | (with_reducible first | refine Br.ff ?_ | refine Br.tt ?_ | refine Br.not ?_ | refine Br.yes (by assumption) ?_ | refine Br.no (by assumption) ?_ | (refine Br.dec (fun h => ?_) (fun h => ?_) <;> try simp only [lm] at h)) | ((with_reducible refine Br.mk (fun h => ?_) (fun h => ?_)) <;> (try simp only [lm] at h) <;> (first | have hw := within_iff.1 h | have hw := within_no.1 h | skip)) | with_reducible refine Arith.ok (by first | omega | (simp only [lm]; omega)) ?_ | with_reducible refine Idx.at (by first | omega | (simp only [lm] at *; omega)) (fun x hx => ?_) | with_reducible refine Idx.of_map (by first | omega | (simp only [lm] at *; omega)) (fun j x hj hx => ?_) | refine VC.mk (by first | omega | (simp only [lm]; omega)) ?_ | refine VC.cut rfl (fun _ => rfl) ?_ | refine VC.mk ⟨rfl, .inl rfl⟩ ?_ | intro _)) <;> (try (conv => whnf))
    rw [drop_end hlt, checkFrom] at hi
    rw [← hi, show k = l.length by omega]
    (repeat' ((conv => whnf) <;> (first | exact trivial | refine VC.mk rfl ?_ | refine VC.mk (by simp) ?_)))
theorem impl_isChecked (p : Proj) (l : List Lin) (hp : p.fine) : Con 126 [.d p.av, .d (.sl (l.map Lin.av))] (.d (.bool (isChecked p l))) := by
  refine con Tryz.func126 rfl rfl Tryz.call126 rfl fun hwf => ?_
  (repeat' ((conv => whnf); first | (with_reducible first | refine Br.ff ?_ | refine Br.tt ?_ | refine Br.not ?_ | refine Br.yes (by assumption) ?_ | refine Br.no (by assumption) ?_ | (refine Br.dec (fun h => ?_) (fun h => ?_) <;> try simp only [lm] at h)) | ((with_reducible refine Br.mk (fun h => ?_) (fun h => ?_)) <;> (try simp only [lm] at h) <;> (first | have hw := within_iff.1 h | have hw := within_no.1 h | skip)) | refine CallK.mk _ (impl_CheckAll p l hp) (fun _ => ?_) | refine CallD.mk _ (fun _ hk => CallK.mk _ (impl_CheckAll p l hp) (fun _ => hk)) ?_ | intro _)) <;> (try (conv => whnf))
  exact ⟨rfl, rfl, trivial⟩
def lastOk (x : Lit) : List Lit → Bool
  | [] => true
  | [y] => sameLit y x
  | _ => false
theorem provesLit_eq {p : Proj} {l : List Lin} {x : Lit} {y : Lin} (h : l[l.length - 1]? = some y) : provesLit p l x = (isChecked p l && lastOk x y.clause) := by
  rw [provesLit, List.getLast?_eq_getElem?, h]
  congr 1
theorem checkFrom_len {p : Proj} {all : List Lin} : ∀ {r : List Lin} {k : Nat}, (checkFrom p all r k).1 = 0 → (checkFrom p all r k).2 = k + r.length
  | [], k, _ => by simp [checkFrom]
  | x :: r, k, h => by
    rw [checkFrom] at h ⊢
    split at h
    · rename_i e
      rw [if_pos e, checkFrom_len h]; simp; omega
    · rename_i e
      exact absurd h e
theorem lastOk_zero {x : Lit} {c : List Lit} (h : (c.length : Int) = 0) : lastOk x c = true := by
  rw [List.eq_nil_of_length_eq_zero (l := c) (by omega)]; rfl
theorem lastOk_one {x z : Lit} {c : List Lit} {j : Nat} (h : (c.length : Int) = 1) (hj : (0 : Int) = j) (hz : c[j]? = some z) : lastOk x c = sameLit z x := by
  obtain ⟨w, rfl⟩ := List.length_eq_one_iff.1 (show c.length = 1 by omega)
  obtain rfl : j = 0 := by omega
  simp at hz; subst hz; rfl
theorem lastOk_more {x : Lit} {c : List Lit} (h0 : ¬ (c.length : Int) = 0) (h1 : ¬ (c.length : Int) = 1) : lastOk x c = false := by
  match c, h0, h1 with
  | [], h0, _ => simp at h0
  | [_], _, h1 => simp at h1
  | _ :: _ :: _, _, _ => rfl
end Go.Proofs.YtdfindjbjonoaaaGreat.Abs
