/- slices.DeleteFunc over literals; the clause without one of its literals. No statement of a claim. -/
import Derived.WalkKit
import Derived.Deep.LoopGhost
import Derived.Lib.Hide
import Derived.Sort.WalkB12
import Derived.Lib.SliceRun
import Derived.Test.YtgebcdkmchcifaaGreatRow3
import Derived.Test.YtgebcdkmchcifaaGreatLex
import Derived.Test.YtgebcdkmchcifaaGreatC11
set_option linter.all false
set_option linter.unusedVariables false
set_option maxRecDepth 1000000
set_option maxHeartbeats 4000000
namespace Go.Proofs.YtgebcdkmchcifaaGreat.Abs
open Go.Proofs Go.RowKit Go.Sort

theorem findI_spec {α : Type} (p : α → Bool) : ∀ (l : List α) (n : Nat), (findI p l n = -1 ∧ ∀ x ∈ l, p x = false) ∨ ∃ k x, findI p l n = ((n + k : Nat) : Int) ∧ l[k]? = some x ∧ p x = true ∧ ∀ y ∈ l.take k, p y = false
  | [], n => .inl ⟨rfl, by simp⟩
  | x :: l, n => by
    cases hp : p x with
    | true => exact .inr ⟨0, x, by simp [findI, hp], by simp, hp, by simp⟩
    | false =>
      rcases findI_spec p l (n + 1) with ⟨h1, h2⟩ | ⟨k, y, h1, h2, h3, h4⟩
      · exact .inl ⟨by simp [findI, hp, h1], fun y hy => by
          rcases List.mem_cons.1 hy with rfl | hy
          · exact hp
          · exact h2 y hy⟩
      · refine .inr ⟨k + 1, y, by simp only [findI, hp]; rw [if_neg (by simp), h1]; congr 1; omega, by simpa using h2, h3, fun z hz => ?_⟩
        simp only [List.take_succ_cons, List.mem_cons] at hz
        rcases hz with rfl | hz
        · exact hp
        · exact h4 z hz

/-- How far a row is cleared out: the first i are those of the first j that are kept; behind j nothing is turned. -/
structure KeptL (p : Lit → Bool) (l : List Lit) (i j : Nat) (dk : List Lit) : Prop where
  ij : i < j
  jl : j ≤ l.length
  len : dk.length = l.length
  kept : dk.take i = (l.take j).filter fun x => !p x
  rest : dk.drop j = l.drop j
theorem KeptL.start {p : Lit → Bool} {l : List Lit} {k : Nat} {x : Lit} (hx : l[k]? = some x) (hp : p x = true) (ha : ∀ y ∈ l.take k, p y = false) : KeptL p l k (k + 1) l := by
  obtain ⟨hk, rfl⟩ := List.getElem?_eq_some_iff.1 hx
  refine ⟨by omega, by omega, rfl, ?_, rfl⟩
  rw [List.take_succ_eq_append_getElem hk, List.filter_append, List.filter_eq_self.2 (fun y hy => by simp [ha y hy])]
  simp [hp]
theorem KeptL.at {p : Lit → Bool} {l dk : List Lit} {i j : Nat} (h : KeptL p l i j dk) {x : Lit} (hx : l[j]? = some x) : dk[j]? = some x := by
  have : (dk.drop j)[0]? = (l.drop j)[0]? := by rw [h.rest]
  simpa [hx] using this
theorem KeptL.skip {p : Lit → Bool} {l dk : List Lit} {i j : Nat} (h : KeptL p l i j dk) {x : Lit} (hx : l[j]? = some x) (hp : p x = true) : KeptL p l i (j + 1) dk := by
  obtain ⟨hj, rfl⟩ := List.getElem?_eq_some_iff.1 hx
  refine ⟨by have := h.ij; omega, by omega, h.len, ?_, ?_⟩
  · rw [List.take_succ_eq_append_getElem hj, List.filter_append, h.kept]; simp [hp]
  · rw [← List.drop_drop, ← List.drop_drop, h.rest]
theorem KeptL.keep {p : Lit → Bool} {l dk : List Lit} {i j : Nat} (h : KeptL p l i j dk) {x : Lit} (hx : l[j]? = some x) (hp : p x = false) : KeptL p l (i + 1) (j + 1) (dk.set i x) := by
  obtain ⟨hj, rfl⟩ := List.getElem?_eq_some_iff.1 hx
  have hi := h.ij
  have hlen := h.len
  refine ⟨by omega, by omega, by simpa using h.len, ?_, ?_⟩
  · rw [List.take_succ_eq_append_getElem hj, List.filter_append, List.take_succ_eq_append_getElem (by simp; omega), List.take_set_of_le (Nat.le_refl _), h.kept]
    simp [hp]
  · rw [List.drop_set_of_lt (by omega), ← List.drop_drop, ← List.drop_drop, h.rest]
theorem flatL_take : ∀ (l : List Lit) (i : Nat), flatL (l.take i) = (flatL l).take (3 * i)
  | [], i => by simp [flatL]
  | x :: l, 0 => by simp [flatL]
  | x :: l, i + 1 => by
    rw [show 3 * (i + 1) = 3 * i + 1 + 1 + 1 by omega]
    simp only [List.take_succ_cons, flatL, flatL_take l i]
theorem flatL_set : ∀ (l : List Lit) (i : Nat) (x : Lit), flatL (l.set i x) = (((flatL l).set (3 * i) x.kind).set (3 * i + 1) x.act).set (3 * i + 2) x.val
  | [], i, x => by simp [flatL]
  | y :: l, 0, x => by simp [flatL]
  | y :: l, i + 1, x => by
    rw [show 3 * (i + 1) = 3 * i + 1 + 1 + 1 by omega, show 3 * i + 1 + 1 + 1 + 1 = (3 * i + 1) + 1 + 1 + 1 by omega, show 3 * i + 1 + 1 + 1 + 2 = (3 * i + 2) + 1 + 1 + 1 by omega]
    simp only [List.set_cons_succ, flatL, flatL_set l i x]

theorem alloc_here (W : World) (o : Obj) : (W.alloc o).heap[W.heap.size]? = some o := by simp only [World.alloc, Array.getElem?_push_size]
theorem alloc_lt (W : World) (o : Obj) : W.heap.size < (W.alloc o).heap.size := by simp only [World.alloc, Array.size_push]; omega
theorem DW.set3 {E sz : Nat} {w W : World} {b cap : Nat} {l : List Lit} {i : Nat} {x : Lit} (h : DW E sz w W b cap (flatL l)) (hi : i < l.length) :
    DW E sz w (((W.setCell ⟨b, i * 3, none⟩ (.int .i64 x.kind)).setCell ⟨b, i * 3 + 1, none⟩ (.int .i64 x.act)).setCell ⟨b, i * 3 + 2, none⟩ (.int .i64 x.val)) b cap (flatL (l.set i x)) := by
  have hl := flatL_length l
  rw [flatL_set, Nat.mul_comm 3 i]
  exact ((h.set (by omega)).set (by simp; omega)).set (by simp; omega)
/-- 'clear(s)' at elements of several numbers. -/
theorem run_clear_ints {P : Program} (w : World) (t e ty : TypeId) (z : Value) (k : Nat) (ht : P.underlying t = some (.slice e)) (hv : ∀ w, (zeroValue e).run P w = .ok z w) (hz : z.cells = Array.replicate k (.int .i64 0)) (b o n c : Nat) (hn : 0 < n)
    (hc : ∀ j, j < n * k → (w.cell? ⟨b, o + j, none⟩).isSome = true) (hf : ∀ j, j < n * k → w.frozen? ⟨b, o + j, none⟩ = false) :
    (Builtin.clear_ #[t] ty #[.slice (some ⟨b, o, none⟩) n c]).run P w = .ok (.tuple #[]) (w.setCells b o ((List.replicate (n * k) (0 : Int)).map (Value.int .i64))) := by
  have hst := run_storeCells_cells (P := P) b o ((List.replicate (n * k) (0 : Int)).map (Value.int .i64)) 0 w (by simpa using hc) (by simpa using hf) (by intro v hv'; rw [List.map_replicate] at hv'; rw [List.eq_of_mem_replicate hv']; rfl)
  simp only [Nat.add_zero] at hst
  obtain ⟨m, rfl⟩ : ∃ m, n = m + 1 := ⟨n - 1, by omega⟩
  simp [Builtin.clear_, run_underlying ht, hv, hz, zero_cells, hst, -List.map_replicate]
theorem DW.cleared {E : Nat} {w W : World} {b cap : Nat} {l : List Lit} {i n : Nat} (h : DW E 3 w W b cap (flatL l)) (hi : i + n = l.length) :
    DW E 3 w (W.setCells b (i * 3) ((List.replicate (n * 3) (0 : Int)).map (Value.int .i64))) b cap (flatL (l.take i)) := by
  have hl := flatL_length l
  refine (h.sets (vs := List.replicate (n * 3) (0 : Int)) (j := i * 3) (by simp; omega)).pfx ⟨List.replicate (n * 3) 0 ++ (flatL l).drop (i * 3 + (List.replicate (n * 3) (0 : Int)).length), ?_⟩
  rw [flatL_take, Nat.mul_comm 3 i, List.append_assoc]
theorem DW.there {E : Nat} {w W : World} {b cap : Nat} {l : List Lit} (h : DW E 3 w W b cap (flatL l)) {j : Nat} (hj : j < l.length * 3) : (W.cell? ⟨b, j, none⟩).isSome = true := by
  have hl := flatL_length l
  rw [h.cell (x := (flatL l)[j]'(by omega)) (by simp)]; rfl
theorem KeptL.whole {p : Lit → Bool} {l dk : List Lit} {i : Nat} (h : KeptL p l i l.length dk) : dk.take i = (l.filter fun x => !p x) ∧ (l.filter fun x => !p x).length = i := by
  have h1 := h.kept
  rw [List.take_length] at h1
  refine ⟨h1, ?_⟩
  have := congrArg List.length h1
  rw [← this, List.length_take, h.len]
  have := h.ij
  omega
theorem litZero (w : World) : (zeroValue 58).run Tryz.prog w = .ok (.agg #[.int .i64 0, .int .i64 0, .int .i64 0]) w := by kernel_rfl
theorem litSl : Tryz.prog.underlying 35 = some (.slice 58) := by kernel_rfl
abbrev litV (x : Lit) : Value := .agg #[.int .i64 x.kind, .int .i64 x.act, .int .i64 x.val]
def DelPost (w : World) (b cap : Nat) (r : List Lit) (e : Ending) (w' : World) : Prop := e = .returned (.slice (some ⟨b, 0, none⟩) r.length cap) ∧ DW 58 3 w w' b cap (flatL r)
theorem deleteFunc_lit {l : List Lit} {g : Nat} {lb : Array Value} {p : Lit → Bool} {b cap : Nat} {w : World} (eg : ∀ args w, (callFunc g args).run Tryz.prog w = .ok (.enter g args) w)
    (hD : DW 58 3 w w b cap (flatL l)) (hcap : l.length ≤ cap) (hl : l.length ≤ 274877906944)
    (hIF : Calls Tryz.prog 229 #[.slice (some ⟨b, 0, none⟩) l.length cap, .func (.func g) #[] lb] w fun e w' => e = .returned (.int .i64 (findI p l 0)) ∧ Quiet w w')
    (hp : ∀ (W : World) (x : Lit) (F : List Int), DW 58 3 w W b cap F → Calls Tryz.prog g (#[litV x] ++ lb) W fun e W' => e = .returned (.bool (p x)) ∧ Quiet W W') :
    Calls Tryz.prog 179 #[.slice (some ⟨b, 0, none⟩) l.length cap, .func (.func g) #[] lb] w (DelPost w b cap (l.filter fun x => !p x)) := by
  rcases findI_spec p l 0 with ⟨e1, hall⟩ | ⟨k, x, e1, hx, hpx, hall⟩
  · rw [e1] at hIF
    have ef : (l.filter fun x => !p x) = l := List.filter_eq_self.2 fun y hy => by simp [hall y hy]
    rw [ef]
    have HD := Lib.hid hD
    clear hD hp hall ef e1
    go_enter Tryz.func179, Tryz.ntmps179
    go_wp2_with fail
    refine hIF.mono ?_
    rintro e w' ⟨rfl, hb⟩
    have HB := Lib.hid hb
    clear hb hIF
    go_wp2_with fail
    go_ret
    exact ⟨rfl, HD.out.below HB.out⟩
  · rw [e1, Nat.zero_add] at hIF
    have hk := (List.getElem?_eq_some_iff.1 hx).1
    have hne1 : ((k : Int) == -1) = false := beq_eq_false_iff_ne.2 (by omega)
    have HP := Lib.hid hp
    have HS := Lib.hid (KeptL.start hx hpx hall)
    have HD := Lib.hid hD
    clear hD hp hall e1 hx hpx
    go_enter Tryz.func179, Tryz.ntmps179
    go_wp2_with fail
    refine hIF.mono ?_
    rintro e w' ⟨rfl, hb0⟩
    have HB := Lib.hid hb0
    clear hb0 hIF
    go_wp2_with fail
    go_loopg [5, 6, 7] l.length (fun gg s5 s6 _ wr => ∃ (i j : Nat) (dk : List Lit), s5 = .int .i64 i ∧ s6 = .int .i64 j ∧ j ≤ l.length ∧ l.length - j ≤ gg ∧ Aside (KeptL p l i j dk ∧ DW 58 3 w wr b cap (flatL dk)))
    case atStart => exact ⟨k, k + 1, l, rfl, by go_num, by omega, by omega, HS.out, HD.out.below HB.out⟩
    case round =>
      obtain ⟨i, j, dk, rfl, rfl, hjd, hgg, hq⟩ := hrel
      have hij := hq.out.1.ij
      by_cases hlt : j < l.length
      · obtain ⟨x, hx⟩ : ∃ x, l[j]? = some x := ⟨l[j], by simp [hlt]⟩
        have hdx := hq.out.1.at hx
        obtain ⟨f1, f2, f3⟩ := flatL_get hdx
        have c1 := hq.out.2.cell f1
        have c2 := hq.out.2.cell f2
        have c3 := hq.out.2.cell f3
        rw [Nat.mul_comm 3 j] at c1 c2 c3
        have HX := Lib.hid hx
        clear hx hdx f1 f2 f3
        go_wp2_with fail
        have D0 := hq.out.2.alloc (Obj.cells #[Value.int IntKind.i64 x.kind, Value.int IntKind.i64 x.act, Value.int IntKind.i64 x.val] 58)
        have k1 : (wr.alloc (Obj.cells #[Value.int IntKind.i64 x.kind, Value.int IntKind.i64 x.act, Value.int IntKind.i64 x.val] 58)).heap[wr.heap.size]? = some (Obj.cells #[Value.int IntKind.i64 x.kind, Value.int IntKind.i64 x.act, Value.int IntKind.i64 x.val] 58) := alloc_here _ _
        have k0 : wr.heap.size < (wr.alloc (Obj.cells #[Value.int IntKind.i64 x.kind, Value.int IntKind.i64 x.act, Value.int IntKind.i64 x.val] 58)).heap.size := alloc_lt _ _
        refine (HP.out _ x _ D0).mono ?_
        rintro e W' ⟨rfl, hb⟩
        have D1 := D0.below hb
        have k2 := (hb.block _ k0 id).trans k1
        have m1 : W'.cell? ⟨wr.heap.size, 0, none⟩ = some (.int .i64 x.kind) := by rw [cell_of_row W' _ _ _ _ _ k2]; rfl
        have m2 : W'.cell? ⟨wr.heap.size, 1, none⟩ = some (.int .i64 x.act) := by rw [cell_of_row W' _ _ _ _ _ k2]; rfl
        have m3 : W'.cell? ⟨wr.heap.size, 2, none⟩ = some (.int .i64 x.val) := by rw [cell_of_row W' _ _ _ _ _ k2]; rfl
        obtain ⟨y, hy⟩ : ∃ y, dk[i]? = some y := ⟨dk[i]'(by have := hq.out.1.len; omega), by simp⟩
        obtain ⟨g1, g2, g3⟩ := flatL_get hy
        have o1 := D1.cell g1
        have o2 := D1.cell g2
        have o3 := D1.cell g3
        have z1 := D1.frozen (i * 3)
        have z2 := D1.frozen (i * 3 + 1)
        have z3 := D1.frozen (i * 3 + 2)
        rw [Nat.mul_comm 3 i] at o1 o2 o3
        have HD1 := Lib.hid D1
        clear D1 D0 hb k0 k1 k2 hy g1 g2 g3 c1 c2 c3
        cases hpx : p x with
        | true =>
          go_wp2_with fail
          go_roundg (l.length - (j + 1))
          case measure => omega
          case rel => exact ⟨i, j + 1, dk, rfl, by go_num, by omega, by omega, hq.out.1.skip HX.out hpx, HD1.out⟩
        | false =>
          go_wp2_with fail
          go_roundg (l.length - (j + 1))
          case measure => omega
          case rel => exact ⟨i + 1, j + 1, dk.set i x, by go_num, by go_num, by omega, by omega, hq.out.1.keep HX.out hpx, HD1.out.set3 (by have := hq.out.1.len; omega)⟩
      · obtain rfl : j = l.length := by omega
        have hil : i < l.length := hij
        obtain ⟨hw1, hw2⟩ := hq.out.1.whole
        have hcl := hq.out.2.cleared (i := i) (n := l.length - i) (by rw [hq.out.1.len]; omega)
        have hcs : ∀ j, j < (l.length - i) * 3 → (wr.cell? ⟨b, i * 3 + j, none⟩).isSome = true := fun j hj => hq.out.2.there (by rw [hq.out.1.len]; omega)
        have hcf : ∀ j, j < (l.length - i) * 3 → wr.frozen? ⟨b, i * 3 + j, none⟩ = false := fun j _ => hq.out.2.frozen _
        rw [hw1] at hcl
        have HC := Lib.hid hcl
        have HS1 := Lib.hid hcs
        have HF1 := Lib.hid hcf
        have HW2 := Lib.hid hw2
        clear hcl hcs hcf hw2 hw1
        go_wp2_with fail
        rw [run_clear_ints (k := 3) wr _ _ _ _ litSl litZero rfl b (i * 3) (l.length - i) (cap - i) (by omega) HS1.out HF1.out]
        go_wp2_with fail
        go_ret
        have hcl := HC.out
        rw [List.map_replicate] at hcl
        exact ⟨congrArg (fun n : Nat => Ending.returned (.slice (some ⟨b, 0, none⟩) n cap)) HW2.out.symm, hcl⟩
end Go.Proofs.YtgebcdkmchcifaaGreat.Abs
