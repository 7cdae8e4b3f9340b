/- Contracts: lines that are needed. No statement of a claim. -/
import Derived.Test.YtepogmnolnlpmaaGreatC14
set_option linter.all false
set_option linter.unusedVariables false
set_option linter.unusedSimpArgs false
set_option maxRecDepth 20000
set_option maxHeartbeats 4000000
namespace Go.Proofs.YtepogmnolnlpmaaGreat.Abs
open Go.Proofs


def noLin : Lin := ⟨0, ⟨0, 0, 0, 0⟩, []⟩
def lineAt (ls : List Lin) (i : Int) : Lin := ls.getD i.toNat noLin
def pickL (ls : List Lin) (idx : List Int) : List Lin := idx.map (lineAt ls)
def without (o : List Int) (n : Int) : List Int := o.filter fun k => decide (k ≠ n)
def thin (p : Proj) (ls : List Lin) : Nat → List Int → List Int
  | 0, o => o
  | r + 1, o => thin p ls r (if isChecked p (pickL ls (without o r)) = true then without o r else o)
def needed (p : Proj) (ls : List Lin) : List Int := if isChecked p ls = true then thin p ls (ls.length - 1) (upTo ls.length) else upTo ls.length
theorem thin_mem {p : Proj} {ls : List Lin} : ∀ {r : Nat} {o : List Int} {x : Int}, x ∈ thin p ls r o → x ∈ o
  | 0, _, _, h => h
  | r + 1, o, x, h => by
    rw [thin] at h
    have := thin_mem h
    split at this
    · exact (List.mem_filter.1 this).1
    · exact this
theorem thin_length {p : Proj} {ls : List Lin} : ∀ {r : Nat} {o : List Int}, (thin p ls r o).length ≤ o.length
  | 0, _ => Nat.le_refl _
  | r + 1, o => by
    rw [thin]
    refine Nat.le_trans thin_length ?_
    split
    · exact List.length_filter_le _ _
    · exact Nat.le_refl _
theorem needed_length {p : Proj} {ls : List Lin} : (needed p ls).length ≤ ls.length := by
  unfold needed
  split
  · refine Nat.le_trans thin_length ?_; rw [upTo_len]; exact Nat.le_refl _
  · rw [upTo_len]; exact Nat.le_refl _
theorem checkFrom_end {p : Proj} {all : List Lin} : ∀ {l : List Lin} {k : Nat}, (checkFrom p all l k).1 = 0 → (checkFrom p all l k).2 = k + l.length
  | [], k, _ => by simp [checkFrom]
  | x :: l, k, h => by
    rw [checkFrom] at h ⊢
    split at h
    · rename_i h0
      rw [if_pos h0]
      rw [checkFrom_end h]; simp; omega
    · rename_i h0
      exact absurd h h0
theorem upTo_mem {n : Nat} {x : Int} (h : x ∈ upTo n) : 0 ≤ x ∧ x < n := by
  simp only [upTo, List.mem_map, List.mem_range] at h
  obtain ⟨k, h1, rfl⟩ := h
  exact ⟨Int.natCast_nonneg k, Int.ofNat_lt.2 h1⟩

theorem impl_kept_fr (l : List Int) (fc : Nat) (caps : List AV) (p : Int → Bool) (hc : ∀ n : Int, Con fc ([.d (i64 n)] ++ caps.map .ref) (.d (.bool (p n)))) : Con 191 [.d (ints l), .fn fc caps] (.fr ((l.filter p).map i64)) := by
  refine con Tryz.func191 rfl rfl Tryz.call191 rfl fun hwf => ?_
  simp only [ARs.wf, AR.wf, AV.wf, AV.wfs, List.length_map, lim] at hwf
  (repeat' ((conv => whnf); first | refine gA ?_ | ((with_reducible first | refine gD (fun h => ?_) (fun h => ?_) | refine gE (fun h => ?_) (fun h => ?_)) <;> (try simp only [lm] at h) <;> try have hw := wn h) | with_reducible refine gI (fun x hx => ?_) | with_reducible refine gJ (fun j x hj hx => ?_) | refine gP ?_ | refine gV ?_ | intro _)) <;> (try (conv => whnf))
  refine loopF [1, 9, 10] [] [8] ?_
  (conv => whnf)
  refine LoopC.go ((Nat) × (List Int)) (fun ⟨k, o⟩ => (k ≤ l.length) ∧ (o.length ≤ k) ∧ (o ++ (l.drop k).filter p = l.filter p)) (fun ⟨k, o⟩ => [(11, .data (i64 k)), (5, .own 8 0)]) (fun _ => []) (fun ⟨k, o⟩ => [(8, 3, o.map i64, 0)]) (fun ⟨k, o⟩ => l.length - k) ⟨0, []⟩ ?_ ?_
  · exact ⟨by omega, by simp, rfl⟩
  rintro ⟨k, o⟩ ⟨hk, ho, hi⟩
  (repeat' ((conv => whnf); first | refine gA ?_ | ((with_reducible first | refine gD (fun h => ?_) (fun h => ?_) | refine gE (fun h => ?_) (fun h => ?_)) <;> (try simp only [lm] at h) <;> try have hw := wn h) | with_reducible refine gI (fun x hx => ?_) | with_reducible refine gJ (fun j x hj hx => ?_) | refine gP ?_ | refine gV ?_ | refine gC (hc x) ?_ | intro _)) <;> (try (conv => whnf))
  · refine nw ⟨k + 1, o ++ [x]⟩ ?_ ?_
    · (repeat' ((conv => whnf) <;> (first | exact trivial | exact rfl | with_reducible refine And.intro ?_ ?_))) <;> ((conv => whnf) <;> (simp))
    exact ⟨by omega, by simp; omega, (filter_step hi hx).1 h⟩
  · refine nx ⟨k + 1, o⟩ ?_
    exact ⟨by omega, by omega, (filter_step hi hx).2 h⟩
  · refine ⟨?_, rfl, trivial⟩
    rw [← hi, drop_end' (by assumption)]; simp
theorem impl_SetRemove_fr (l : List Int) (n : Int) : Con 138 [.d (ints l), .d (i64 n)] (.fr ((without l n).map i64)) := by
  refine con Tryz.func138 rfl rfl Tryz.call138 rfl fun hwf => ?_
  (repeat' ((conv => whnf); first | refine gA ?_ | ((with_reducible first | refine gD (fun h => ?_) (fun h => ?_) | refine gE (fun h => ?_) (fun h => ?_)) <;> (try simp only [lm] at h) <;> try have hw := wn h) | refine gC (impl_kept_fr l 233 [i64 n] _ fun x => impl_SetRemove1 x n) ?_ | intro _)) <;> (try (conv => whnf))
  exact ⟨rfl, rfl, trivial⟩
theorem map_take_succ2 {α β : Type} (f : α → β) {l : List α} {k : Nat} {x : α} (h : l[k]? = some x) : (l.take k).map f ++ [f x] = (l.take (k + 1)).map f := by
  obtain ⟨hk, rfl⟩ := List.getElem?_eq_some_iff.1 h
  rw [List.take_succ_eq_append_getElem hk, List.map_append]; rfl
theorem lineAt_get {ls : List Lin} {i : Int} {x : Lin} (h : ls[i.toNat]? = some x) : lineAt ls i = x := by simp [lineAt, List.getD_eq_getElem?_getD, h]
theorem impl_linesAt (ls : List Lin) (idx : List Int) (hv : ∀ i ∈ idx, 0 ≤ i ∧ i < ls.length) : Con 73 [.d (.sl (ls.map Lin.av)), .d (ints idx)] (.d (.sl ((pickL ls idx).map Lin.av))) := by
  refine con Tryz.func73 rfl rfl Tryz.call73 rfl fun hwf => ?_
  simp only [ARs.wf, AR.wf, AV.wf, AV.wfs, List.length_map, lim] at hwf
  (repeat' ((conv => whnf); first | refine gA ?_ | ((with_reducible first | refine gD (fun h => ?_) (fun h => ?_) | refine gE (fun h => ?_) (fun h => ?_)) <;> (try simp only [lm] at h) <;> try have hw := wn h) | with_reducible refine gI (fun x hx => ?_) | with_reducible refine gJ (fun j x hj hx => ?_) | refine gP ?_ | refine gV ?_ | intro _)) <;> (try (conv => whnf))
  refine loopF [0, 10, 11] [] [9] ?_
  (conv => whnf)
  refine LoopC.go ((Nat)) (fun k => (k ≤ idx.length)) (fun k => [(12, .data (i64 k)), (5, .own 9 0)]) (fun _ => []) (fun k => [(9, 109, (idx.take k).map (fun i => (lineAt ls i).av), 0)]) (fun k => idx.length - k) (0) ?_ ?_
  · exact Nat.zero_le _
  rintro k hk
  by_cases hlt : k < idx.length
  · obtain ⟨i, hi⟩ : ∃ i, idx[k]? = some i := ⟨idx[k]'hlt, by simp⟩
    have hv' := hv i (List.mem_of_getElem? hi)
    obtain ⟨x, hx⟩ : ∃ x, ls[i.toNat]? = some x := ⟨ls[i.toNat]'(by omega), by simp⟩
    have e := lineAt_get hx
    (repeat' ((conv => whnf); first | with_reducible refine Idx.got hi rfl ?_ | with_reducible refine Idx.got hx (by omega) ?_ | refine gA ?_ | ((with_reducible first | refine gD (fun h => ?_) (fun h => ?_) | refine gE (fun h => ?_) (fun h => ?_)) <;> (try simp only [lm] at h) <;> try have hw := wn h) | with_reducible refine gI (fun x hx => ?_) | with_reducible refine gJ (fun j x hj hx => ?_) | refine gP ?_ | refine gV ?_ | refine gC (slices_Clone_lit x.clause) ?_ | intro _)) <;> (try (conv => whnf))
    · refine nw (k + 1) ?_ ?_
      · (repeat' ((conv => whnf) <;> (first | exact trivial | exact rfl | with_reducible refine And.intro ?_ ?_))) <;> ((conv => whnf) <;> ((rw [← map_take_succ2 (fun i => (lineAt ls i).av) hi, e])))
      exact (by omega : k + 1 ≤ idx.length)
    · exfalso; omega
  · (repeat' ((conv => whnf); first | (exfalso; omega) | refine gA ?_ | ((with_reducible first | refine gD (fun h => ?_) (fun h => ?_) | refine gE (fun h => ?_) (fun h => ?_)) <;> (try simp only [lm] at h) <;> try have hw := wn h) | with_reducible refine gI (fun x hx => ?_) | with_reducible refine gJ (fun j x hj hx => ?_) | refine gP ?_ | refine gV ?_ | intro _)) <;> (try (conv => whnf))
    refine ⟨?_, rfl, trivial⟩
    dsimp only
    rw [List.take_of_length_le (by omega)]; simp [pickL, Function.comp_def]
theorem spec_l20Copy (l : Lin) : Con 134 [.d l.av] (.d l.av) := by
  refine con Tryz.func134 rfl rfl Tryz.call134 rfl fun hwf => ?_
  simp only [ARs.wf, AR.wf, AV.wf, AV.wfs, List.length_map, lim] at hwf
  (repeat' ((conv => whnf); first | refine gA ?_ | ((with_reducible first | refine gD (fun h => ?_) (fun h => ?_) | refine gE (fun h => ?_) (fun h => ?_)) <;> (try simp only [lm] at h) <;> try have hw := wn h) | refine gP ?_ | intro _)) <;> (try (conv => whnf))
  all_goals exact ⟨by simp, rfl, trivial⟩
theorem spec_l21Some (ls : List Lin) (idx : List Int) (hv : ∀ i ∈ idx, 0 ≤ i ∧ i < ls.length) : Con 70 [.d (.sl (ls.map Lin.av)), .d (ints idx)] (.d (.sl ((pickL ls idx).map Lin.av))) := by
  refine con Tryz.func70 rfl rfl Tryz.call70 rfl fun hwf => ?_
  simp only [ARs.wf, AR.wf, AV.wf, AV.wfs, List.length_map, lim] at hwf
  (repeat' ((conv => whnf); first | refine gA ?_ | ((with_reducible first | refine gD (fun h => ?_) (fun h => ?_) | refine gE (fun h => ?_) (fun h => ?_)) <;> (try simp only [lm] at h) <;> try have hw := wn h) | with_reducible refine gI (fun x hx => ?_) | with_reducible refine gJ (fun j x hj hx => ?_) | refine gP ?_ | refine gV ?_ | intro _)) <;> (try (conv => whnf))
  refine loopF [0, 9, 10] [] [8] ?_
  (conv => whnf)
  refine LoopC.go ((Nat)) (fun k => (k ≤ idx.length)) (fun k => [(11, .data (i64 k)), (5, .own 8 0)]) (fun _ => []) (fun k => [(8, 109, (idx.take k).map (fun i => (lineAt ls i).av), 0)]) (fun k => idx.length - k) (0) ?_ ?_
  · exact Nat.zero_le _
  rintro k hk
  by_cases hlt : k < idx.length
  · obtain ⟨i, hi⟩ : ∃ i, idx[k]? = some i := ⟨idx[k]'hlt, by simp⟩
    have hv' := hv i (List.mem_of_getElem? hi)
    obtain ⟨x, hx⟩ : ∃ x, ls[i.toNat]? = some x := ⟨ls[i.toNat]'(by omega), by simp⟩
    have e := lineAt_get hx
    (repeat' ((conv => whnf); first | with_reducible refine Idx.got hi rfl ?_ | with_reducible refine Idx.got hx (by omega) ?_ | refine gA ?_ | ((with_reducible first | refine gD (fun h => ?_) (fun h => ?_) | refine gE (fun h => ?_) (fun h => ?_)) <;> (try simp only [lm] at h) <;> try have hw := wn h) | with_reducible refine gI (fun x hx => ?_) | with_reducible refine gJ (fun j x hj hx => ?_) | refine gP ?_ | refine gV ?_ | refine gC (spec_l20Copy x) ?_ | intro _)) <;> (try (conv => whnf))
    · refine nw (k + 1) ?_ ?_
      · (repeat' ((conv => whnf) <;> (first | exact trivial | exact rfl | with_reducible refine And.intro ?_ ?_))) <;> ((conv => whnf) <;> ((rw [← map_take_succ2 (fun i => (lineAt ls i).av) hi, e])))
      exact (by omega : k + 1 ≤ idx.length)
    · exfalso; omega
  · (repeat' ((conv => whnf); first | (exfalso; omega) | refine gA ?_ | ((with_reducible first | refine gD (fun h => ?_) (fun h => ?_) | refine gE (fun h => ?_) (fun h => ?_)) <;> (try simp only [lm] at h) <;> try have hw := wn h) | with_reducible refine gI (fun x hx => ?_) | with_reducible refine gJ (fun j x hj hx => ?_) | refine gP ?_ | refine gV ?_ | intro _)) <;> (try (conv => whnf))
    refine ⟨?_, rfl, trivial⟩
    dsimp only
    rw [List.take_of_length_le (by omega)]; simp [pickL, Function.comp_def]
theorem without_mem {o : List Int} {n x : Int} (h : x ∈ without o n) : x ∈ o := (List.mem_filter.1 h).1
theorem impl_NeededLines (p : Proj) (ls : List Lin) (hp : p.fine) : Con 74 [.d p.av, .d (.sl (ls.map Lin.av))] (.fr ((needed p ls).map i64)) := by
  refine con Tryz.func74 rfl rfl Tryz.call74 rfl fun hwf => ?_
  simp only [ARs.wf, AR.wf, AV.wf, AV.wfs, List.length_map, lim] at hwf
  (repeat' ((conv => whnf); first | refine gA ?_ | ((with_reducible first | refine gD (fun h => ?_) (fun h => ?_) | refine gE (fun h => ?_) (fun h => ?_)) <;> (try simp only [lm] at h) <;> try have hw := wn h) | refine gP ?_ | refine gV ?_ | intro _)) <;> (try (conv => whnf))
  refine loopF [1, 2, 11] [2] [9] ?_
  (conv => whnf)
  refine LoopC.go ((Nat)) (fun k => (k ≤ ls.length)) (fun k => [(12, .data (i64 k)), (5, .own 9 0)]) (fun _ => []) (fun k => [(9, 3, (upTo k).map i64, 0)]) (fun k => ls.length - k) (0) ?_ ?_
  · exact Nat.zero_le _
  rintro k hk
  by_cases hlt : k < ls.length
  · (repeat' ((conv => whnf); first | refine gA ?_ | ((with_reducible first | refine gD (fun h => ?_) (fun h => ?_) | refine gE (fun h => ?_) (fun h => ?_)) <;> (try simp only [lm] at h) <;> try have hw := wn h) | refine gP ?_ | refine gV ?_ | intro _)) <;> (try (conv => whnf))
    · refine nw (k + 1) ?_ ?_
      · (repeat' ((conv => whnf) <;> (first | exact trivial | exact rfl | with_reducible refine And.intro ?_ ?_))) <;> ((conv => whnf) <;> (exact upTo_map k))
      exact (by omega : k + 1 ≤ ls.length)
    · exfalso; omega
  obtain rfl : k = ls.length := by omega
  (repeat' ((conv => whnf); first | (exfalso; omega) | refine gA ?_ | ((with_reducible first | refine gD (fun h => ?_) (fun h => ?_) | refine gE (fun h => ?_) (fun h => ?_)) <;> (try simp only [lm] at h) <;> try have hw := wn h) | refine gP ?_ | refine gV ?_ | refine gC (impl_isChecked p ls hp) ?_ | intro _)) <;> (try (conv => whnf))
  rotate_left
  · refine ⟨?_, rfl, trivial⟩
    rw [needed, if_neg (by simp [*])]
  refine loopF [1, 2] [2] [] ?_
  (conv => whnf)
  refine LoopC.go ((Int) × (List Int)) (fun ⟨i, o⟩ => (-2 ≤ i ∧ i < ls.length) ∧ (o.length ≤ ls.length) ∧ (∀ x ∈ o, 0 ≤ x ∧ x < ls.length) ∧ (thin p ls (i + 1).toNat o = needed p ls)) (fun ⟨i, o⟩ => [(7, .data (i64 i)), (5, .fr (o.map i64))]) (fun _ => []) (fun _ => []) (fun ⟨i, o⟩ => (i + 1).toNat) ⟨((ls.map Lin.av).length : Nat) - 2, upTo ls.length⟩ ?_ ?_
  · rw [List.length_map]
    refine ⟨by omega, by rw [upTo_len]; exact Nat.le_refl _, fun x hx => upTo_mem hx, ?_⟩
    rw [needed, if_pos (by assumption)]
    congr 1; omega
  rintro ⟨i, o⟩ ⟨hi, ho, hv, he⟩
  by_cases h0 : 0 ≤ i
  · obtain ⟨r, rfl⟩ : ∃ r : Nat, i = r := ⟨i.toNat, by omega⟩
    rw [show ((r : Int) + 1).toNat = r + 1 by omega, thin] at he
    (repeat' ((conv => whnf); first | refine gA ?_ | ((with_reducible first | refine gD (fun h => ?_) (fun h => ?_) | refine gE (fun h => ?_) (fun h => ?_)) <;> (try simp only [lm] at h) <;> try have hw := wn h) | refine gP ?_ | refine gV ?_ | refine gC (impl_SetRemove_fr o (r : Int)) ?_ | refine gC (impl_linesAt ls (without o (r : Int)) (fun x hx => hv x (without_mem hx))) ?_ | refine gC (impl_isChecked p (pickL ls (without o (r : Int))) hp) ?_ | intro _)) <;> (try (conv => whnf))
    · refine nx ⟨(r : Int) - 1, without o (r : Int)⟩ ?_
      rw [if_pos (by assumption)] at he
      refine ⟨by omega, Nat.le_trans (List.length_filter_le _ _) ho, fun x hx => hv x (without_mem hx), ?_⟩
      rw [show ((r : Int) - 1 + 1).toNat = r by omega]; exact he
    · refine nx ⟨(r : Int) - 1, o⟩ ?_
      rw [if_neg (by simp [*])] at he
      refine ⟨by omega, ho, hv, ?_⟩
      rw [show ((r : Int) - 1 + 1).toNat = r by omega]; exact he
    · exact trivial
  · (repeat' ((conv => whnf); first | (exfalso; omega) | refine gA ?_ | ((with_reducible first | refine gD (fun h => ?_) (fun h => ?_) | refine gE (fun h => ?_) (fun h => ?_)) <;> (try simp only [lm] at h) <;> try have hw := wn h) | refine gP ?_ | refine gV ?_ | intro _)) <;> (try (conv => whnf))
    refine ⟨?_, rfl, trivial⟩
    rw [show (i + 1).toNat = 0 by omega, thin] at he
    rw [he]
theorem spec_NeededLines (p : Proj) (ls : List Lin) (hp : p.fine) : Con 71 [.d p.av, .d (.sl (ls.map Lin.av))] (.d (ints (needed p ls))) := by
  refine con Tryz.func71 rfl rfl Tryz.call71 rfl fun hwf => ?_
  simp only [ARs.wf, AR.wf, AV.wf, AV.wfs, List.length_map, lim] at hwf
  have hce : (checkAll p ls).1 = 0 → (checkAll p ls).2 = ls.length := fun h => by have := checkFrom_end (k := 0) h; simpa [checkAll] using this
  (repeat' ((conv => whnf); first | refine gA ?_ | ((with_reducible first | refine gD (fun h => ?_) (fun h => ?_) | refine gE (fun h => ?_) (fun h => ?_)) <;> (try simp only [lm] at h) <;> try have hw := wn h) | refine gP ?_ | refine gV ?_ | intro _)) <;> (try (conv => whnf))
  refine loopF [1, 2, 15] [2] [13] ?_
  (conv => whnf)
  refine LoopC.go ((Nat)) (fun k => (k ≤ ls.length)) (fun k => [(16, .data (i64 k)), (5, .own 13 0)]) (fun _ => []) (fun k => [(13, 3, (upTo k).map i64, 0)]) (fun k => ls.length - k) (0) ?_ ?_
  · exact Nat.zero_le _
  rintro k hk
  by_cases hlt : k < ls.length
  · (repeat' ((conv => whnf); first | refine gA ?_ | ((with_reducible first | refine gD (fun h => ?_) (fun h => ?_) | refine gE (fun h => ?_) (fun h => ?_)) <;> (try simp only [lm] at h) <;> try have hw := wn h) | refine gP ?_ | refine gV ?_ | intro _)) <;> (try (conv => whnf))
    · refine nw (k + 1) ?_ ?_
      · (repeat' ((conv => whnf) <;> (first | exact trivial | exact rfl | with_reducible refine And.intro ?_ ?_))) <;> ((conv => whnf) <;> (exact upTo_map k))
      exact (by omega : k + 1 ≤ ls.length)
    · exfalso; omega
  obtain rfl : k = ls.length := by omega
  have hch := spec_CheckAll p ls hp
  simp only [RInts] at hch
  by_cases h1 : (checkAll p ls).1 = 0
  rotate_left
  · (repeat' ((conv => whnf); first | (exfalso; omega) | refine gA ?_ | ((with_reducible first | refine gD (fun h => ?_) (fun h => ?_) | refine gE (fun h => ?_) (fun h => ?_)) <;> (try simp only [lm] at h) <;> try have hw := wn h) | refine gP ?_ | refine gV ?_ | refine gC (hch) ?_ | intro _)) <;> (try (conv => whnf))
    refine ⟨?_, rfl, trivial⟩
    rw [needed, if_neg (by simp [isChecked, h1])]
  have h2 := hce h1
  (repeat' ((conv => whnf); first | (exfalso; omega) | with_reducible refine Br.no (by simp [h1]) ?_ | refine gA ?_ | ((with_reducible first | refine gD (fun h => ?_) (fun h => ?_) | refine gE (fun h => ?_) (fun h => ?_)) <;> (try simp only [lm] at h) <;> try have hw := wn h) | refine gP ?_ | refine gV ?_ | refine gC (hch) ?_ | intro _)) <;> (try (conv => whnf))
  refine loopF [1, 2] [2] [] ?_
  (conv => whnf)
  refine LoopC.go ((Int) × (List Int)) (fun ⟨i, o⟩ => (-2 ≤ i ∧ i < ls.length) ∧ (o.length ≤ ls.length) ∧ (∀ x ∈ o, 0 ≤ x ∧ x < ls.length) ∧ (thin p ls (i + 1).toNat o = needed p ls)) (fun ⟨i, o⟩ => [(9, .data (i64 i)), (5, .data (ints o))]) (fun _ => []) (fun _ => []) (fun ⟨i, o⟩ => (i + 1).toNat) ⟨(checkAll p ls).2 - 2, upTo ls.length⟩ ?_ ?_
  · rw [h2]
    refine ⟨by omega, by rw [upTo_len]; exact Nat.le_refl _, fun x hx => upTo_mem hx, ?_⟩
    rw [needed, if_pos (by simp [isChecked, h1])]
    congr 1; omega
  rintro ⟨i, o⟩ ⟨hi, ho, hv, he⟩
  by_cases h0 : 0 ≤ i
  · obtain ⟨r, rfl⟩ : ∃ r : Nat, i = r := ⟨i.toNat, by omega⟩
    rw [show ((r : Int) + 1).toNat = r + 1 by omega, thin] at he
    have hc2 := spec_CheckAll p (pickL ls (without o (r : Int))) hp
    simp only [RInts] at hc2
    (repeat' ((conv => whnf); first | refine gA ?_ | ((with_reducible first | refine gD (fun h => ?_) (fun h => ?_) | refine gE (fun h => ?_) (fun h => ?_)) <;> (try simp only [lm] at h) <;> try have hw := wn h) | refine gP ?_ | refine gV ?_ | refine gC (spec_SetRemove o (r : Int)) ?_ | refine gC (spec_l21Some ls (without o (r : Int)) (fun x hx => hv x (without_mem hx))) ?_ | refine gC (hc2) ?_ | intro _)) <;> (try (conv => whnf))
    · refine nx ⟨(r : Int) - 1, without o (r : Int)⟩ ?_
      rw [if_pos (by simp [isChecked, *])] at he
      refine ⟨by omega, Nat.le_trans (List.length_filter_le _ _) ho, fun x hx => hv x (without_mem hx), ?_⟩
      rw [show ((r : Int) - 1 + 1).toNat = r by omega]; exact he
    · refine nx ⟨(r : Int) - 1, o⟩ ?_
      rw [if_neg (by simp [isChecked, *])] at he
      refine ⟨by omega, ho, hv, ?_⟩
      rw [show ((r : Int) - 1 + 1).toNat = r by omega]; exact he
    · exact trivial
  · (repeat' ((conv => whnf); first | (exfalso; omega) | refine gA ?_ | ((with_reducible first | refine gD (fun h => ?_) (fun h => ?_) | refine gE (fun h => ?_) (fun h => ?_)) <;> (try simp only [lm] at h) <;> try have hw := wn h) | refine gP ?_ | refine gV ?_ | intro _)) <;> (try (conv => whnf))
    refine ⟨?_, rfl, trivial⟩
    rw [show (i + 1).toNat = 0 by omega, thin] at he
    rw [he]
end Go.Proofs.YtepogmnolnlpmaaGreat.Abs
