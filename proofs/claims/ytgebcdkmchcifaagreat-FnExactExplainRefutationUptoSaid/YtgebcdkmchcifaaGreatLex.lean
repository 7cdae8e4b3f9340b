/- What the laws' mark.. lays into rows of numbers, of literals: exactly. No statement of a claim. -/
import Derived.WalkKit
import Derived.Deep.LoopGhost
import Derived.Lib.Hide
import Derived.Sort.WalkB12
import Derived.Test.YtgebcdkmchcifaaGreatLayB
import Derived.Test.YtgebcdkmchcifaaGreatLhe
set_option linter.all false
set_option linter.unusedVariables false
set_option maxRecDepth 100000
set_option maxHeartbeats 4000000
namespace Go.Proofs.YtgebcdkmchcifaaGreat.Abs
open Go.Proofs Go.RowKit Go.Sort

theorem putRow_same {α : Type} [Inhabited α] (enc : α → Value) (w : World) (b o : Nat) (d : Array α) {k : Nat} (h : k ≠ b) : (putRow enc w b o d).heap[k]? = w.heap[k]? := by
  simp only [putRow, mapBlock, Array.getElem?_modify]
  rw [if_neg (fun e => h e.symm)]

/-- What is so of the world behind a mark. -/
def MarkPost (G : Nat → Prop) (L : Nat) (w : World) (v : Value) (l l' : List AV) (M : Int) (e : Ending) (w' : World) : Prop := e = .returned (.int .i64 M) ∧
    w'.os = w.os ∧ w'.tape = w.tape ∧ w'.output = w.output ∧ w'.heap.size = w.heap.size ∧ (∀ k, (l ≠ [] → v.ownBlock ≠ some k) → w'.heap[k]? = w.heap[k]?) ∧ RepV G w' L (.sl l') v

theorem repE_ints {I : Nat → Prop} {w : World} {L b : Nat} : ∀ {l : List Int} {o : Nat}, RepE I w L b 1 (l.map i64) o ↔ ∀ j x, l[j]? = some x → w.cell? ⟨b, o + j, none⟩ = some (.int .i64 x)
  | [], o => by simp [RepE]
  | x :: l, o => by
    simp only [List.map_cons, RepE, RepX, true_and, repE_ints]
    constructor
    · rintro ⟨h1, h2⟩ j y hj
      cases j with
      | zero => simp at hj; subst hj; simpa using h1
      | succ j => have := h2 j y (by simpa using hj); rwa [show o + (j + 1) = o + 1 + j by omega]
    · intro h
      exact ⟨by simpa using h 0 x rfl, fun j y hj => by have := h (j + 1) y (by simpa using hj); rwa [show o + (j + 1) = o + 1 + j by omega] at this⟩

theorem marks_int (l : List Int) (hl : l.length ≤ 274877906944) : MarksTo Tryz.prog lim 59 (l.map i64) ((markI 1 l).map i64) (1 + l.length) := by
  refine ⟨Tryz.call59, fun G w v hG hr => ?_⟩
  change Calls _ _ _ _ (MarkPost G lim w v (l.map i64) ((markI 1 l).map i64) (1 + l.length))
  simp only [RepV, Rep1, List.length_map] at hr
  obtain ⟨a, cap, rfl, h1, h2, h3⟩ := hr
  by_cases h0 : l.length = 0
  · obtain rfl := List.eq_nil_of_length_eq_zero h0
    have h3' := Lib.hid h3
    have hG' := Lib.hid hG
    clear h3 hG h0
    go_enter Tryz.func59, Tryz.ntmps59
    go_wp2
    refine wp_loop_rounds 1 ?_
    rw [rounds_succ]
    go_wp2
    go_ret
    refine ⟨by simp, rfl, rfl, rfl, rfl, fun _ _ => rfl, ?_⟩
    simp only [RepV, Rep1, markI]
    exact ⟨a, cap, rfl, by simp, by simp, .inl rfl⟩
  obtain ⟨b, o, sz, rfl, hb, he⟩ := h3.resolve_left h0
  obtain ⟨hlt, hth⟩ := hG b hb
  obtain rfl : sz = 1 := by
    cases l with
    | nil => simp at h0
    | cons x l => simp only [List.map_cons, RepE, RepX] at he; exact he.1.1
  have hc := repE_ints.1 he
  have hH : Holds (Value.int .i64) w b o l.toArray := fun j hj => by
    have hj' : j < l.length := by simpa using hj
    refine ⟨?_, hth _⟩
    rw [hc j l[j] (by simp [hj'])]
    rw [getElem!_pos l.toArray j hj]; simp
  have HG := Lib.hid hb
  have HH := Lib.hid hH
  have HL := Lib.hid h0
  clear hc he hH hth h3 hG hb h0
  go_enter Tryz.func59, Tryz.ntmps59
  go_wp2
  go_loopg [1, 5] l.length (fun gg s1 s5 wr => ∃ (j : Nat) (dk : Array Int), s1 = .int .i64 (1 + j) ∧ s5 = .int .i64 j ∧ j + gg = l.length ∧ dk.size = l.length ∧ wr = putRow (Value.int .i64) w b o dk ∧ Aside (∀ i, i < j → dk[i]! = 1 + i))
  case atStart => exact ⟨0, l.toArray, rfl, rfl, by omega, by simp, (putRow_self _ w b o _ HH.out).symm, fun i hi => by omega⟩
  case round =>
    obtain ⟨j, dk, rfl, rfl, hj, hd, hwr, hq⟩ := hrel
    have hHk : Holds (Value.int .i64) wr b o dk := by rw [hwr]; exact holds_putRow _ _ b o l.toArray dk HH.out (by simp [hd])
    have W2 : Aside (wr = putRow (Value.int .i64) w b o dk) := hwr
    have HD := Lib.hid hd
    clear hwr
    by_cases hlt2 : j < l.length
    · obtain ⟨cj, fj⟩ := hHk j (by omega)
      generalize dk[j]! = old at cj
      clear hHk hd
      go_wp2
      go_roundg (l.length - (j + 1))
      case measure => omega
      case rel =>
        refine ⟨j + 1, dk.setIfInBounds j (1 + j), by go_num, by go_num, by omega, by simp [HD.out], ?_, ?_⟩
        · rw [W2.out]; exact putRow_set _ _ b o dk j _ (by rw [HD.out]; exact hlt2)
        · intro i hi
          by_cases hij : i = j
          · subst hij; exact getElem!_set_same _ _ _ (by rw [HD.out]; exact hlt2)
          · rw [getElem!_set_other _ _ _ _ (by omega)]; exact hq.out i (by omega)
    · obtain rfl : j = l.length := by omega
      have HK := Lib.hid hHk
      clear hHk hd
      go_wp2
      go_ret
      have hw := W2.out
      have hlen : ((markI 1 l).map i64).length = l.length := by rw [List.length_map, markI_length]
      refine ⟨rfl, by rw [hw]; rfl, by rw [hw]; rfl, by rw [hw]; rfl, by rw [hw]; simp, fun k hk => ?_, ?_⟩
      · rw [hw]
        refine putRow_same _ w b o dk fun e => ?_
        subst e
        exact hk (by intro e; exact HL.out (by simpa using congrArg List.length e)) rfl
      · simp only [RepV, Rep1]
        refine ⟨_, cap, by rw [hlen], by rw [hlen]; exact h1, by rw [hlen]; exact h2, .inr ⟨b, o, 1, rfl, HG.out, repE_ints.2 fun j x hj => ?_⟩⟩
        have hjl : j < l.length := by
          have := (List.getElem?_eq_some_iff.1 hj).1
          rwa [markI_length] at this
        rw [markI_get 1 l j hjl] at hj
        cases hj
        rw [(HK.out j (by rw [HD.out]; exact hjl)).1, hq.out j hjl]

theorem repE_lits {I : Nat → Prop} {w : World} {L b : Nat} : ∀ {l : List Lit} {o : Nat}, RepE I w L b 3 (l.map Lit.av) o ↔ ∀ j x, l[j]? = some x → w.cell? ⟨b, o + 3 * j, none⟩ = some (.int .i64 x.kind) ∧ w.cell? ⟨b, o + 3 * j + 1, none⟩ = some (.int .i64 x.act) ∧ w.cell? ⟨b, o + 3 * j + 2, none⟩ = some (.int .i64 x.val)
  | [], o => by simp [RepE]
  | x :: l, o => by
    simp only [List.map_cons, RepE, repE_lits, repX_iff]
    simp only [AV.cells, List.length_cons, List.length_nil, true_and, RepC, Rep1, and_true]
    constructor
    · rintro ⟨⟨⟨v1, h1, rfl⟩, ⟨v2, h2, rfl⟩, ⟨v3, h3, rfl⟩⟩, h4⟩ j y hj
      cases j with
      | zero => simp at hj; subst hj; exact ⟨by simpa using h1, by simpa using h2, by simpa [Nat.add_assoc] using h3⟩
      | succ j =>
        have := h4 j y (by simpa using hj)
        rwa [show o + 3 + 3 * j = o + 3 * (j + 1) by omega] at this
    · intro h
      obtain ⟨h1, h2, h3⟩ := h 0 x rfl
      refine ⟨⟨⟨_, by simpa using h1, rfl⟩, ⟨_, by simpa using h2, rfl⟩, ⟨_, by simpa [Nat.add_assoc] using h3, rfl⟩⟩, fun j y hj => ?_⟩
      have := h (j + 1) y (by simpa using hj)
      rwa [show o + 3 * (j + 1) = o + 3 + 3 * j by omega] at this

/-- The numbers of literals, one behind the other. -/
def flatL : List Lit → List Int
  | [] => []
  | x :: l => x.kind :: x.act :: x.val :: flatL l
theorem flatL_length : ∀ l : List Lit, (flatL l).length = 3 * l.length
  | [] => rfl
  | x :: l => by simp only [flatL, List.length_cons, flatL_length l]; omega
theorem flatL_get : ∀ {l : List Lit} {j : Nat} {x : Lit}, l[j]? = some x → (flatL l)[3 * j]? = some x.kind ∧ (flatL l)[3 * j + 1]? = some x.act ∧ (flatL l)[3 * j + 2]? = some x.val
  | [], j, x, h => by simp at h
  | y :: l, 0, x, h => by simp at h; subst h; simp [flatL]
  | y :: l, j + 1, x, h => by
    have := flatL_get (l := l) (j := j) (by simpa using h)
    rw [show 3 * (j + 1) = 3 * j + 1 + 1 + 1 by omega]
    simp only [flatL, List.getElem?_cons_succ]
    exact this
theorem holds_lits {w : World} {b o : Nat} (hth : Thaw w b) {l : List Lit} (h : ∀ j x, l[j]? = some x → w.cell? ⟨b, o + 3 * j, none⟩ = some (.int .i64 x.kind) ∧ w.cell? ⟨b, o + 3 * j + 1, none⟩ = some (.int .i64 x.act) ∧ w.cell? ⟨b, o + 3 * j + 2, none⟩ = some (.int .i64 x.val)) :
    Holds (Value.int .i64) w b o (flatL l).toArray := by
  intro i hi
  have hi' : i < 3 * l.length := by simpa [flatL_length] using hi
  refine ⟨?_, hth _⟩
  have hj : i / 3 < l.length := by omega
  obtain ⟨x, hx⟩ : ∃ x, l[i / 3]? = some x := ⟨l[i / 3], by simp [hj]⟩
  obtain ⟨h1, h2, h3⟩ := h _ x hx
  obtain ⟨f1, f2, f3⟩ := flatL_get hx
  have key : ∀ (k : Nat) (y : Int), i = k → (flatL l)[k]? = some y → w.cell? ⟨b, o + k, none⟩ = some (.int .i64 y) → w.cell? ⟨b, o + i, none⟩ = some (.int .i64 (flatL l).toArray[i]!) := by
    rintro k y rfl hy hc
    rw [hc]
    have : (flatL l).toArray[i]! = y := by
      rw [getElem!_pos _ i hi]
      have := List.getElem?_eq_some_iff.1 hy
      obtain ⟨_, e⟩ := this
      simpa using e
    rw [this]
  rcases (by omega : i = 3 * (i / 3) ∨ i = 3 * (i / 3) + 1 ∨ i = 3 * (i / 3) + 2) with e | e | e
  · exact key _ _ e f1 h1
  · exact key _ _ e f2 (by rw [← Nat.add_assoc]; exact h2)
  · exact key _ _ e f3 (by rw [← Nat.add_assoc]; exact h3)
end Go.Proofs.YtgebcdkmchcifaaGreat.Abs
