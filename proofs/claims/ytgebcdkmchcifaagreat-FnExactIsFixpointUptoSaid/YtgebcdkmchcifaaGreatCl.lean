/- slices.Compact over literals. No statement of a claim. -/
import Derived.WalkKit
import Derived.Deep.LoopGhost
import Derived.Lib.Hide
import Derived.Sort.WalkB12
import Derived.Lib.SliceRun
import Derived.Deep.Draws
import Derived.Lib.Walk
import Derived.Shelf.RegionOpenPlain
import Derived.Test.YtgebcdkmchcifaaGreatCmp
import Derived.Test.YtgebcdkmchcifaaGreatWo
set_option linter.all false
set_option linter.unusedVariables false
set_option maxRecDepth 1000000
set_option maxHeartbeats 4000000
namespace Go.Proofs.YtgebcdkmchcifaaGreat.Abs
open Go.Proofs Go.RowKit Go.Sort

/-- The three numbers of a literal in a row. -/
structure LitAt (W : World) (b o : Nat) (x : Lit) : Prop where
  k : W.cell? ⟨b, o, none⟩ = some (.int .i64 x.kind)
  a : W.cell? ⟨b, o + 1, none⟩ = some (.int .i64 x.act)
  v : W.cell? ⟨b, o + 2, none⟩ = some (.int .i64 x.val)
theorem DW.lit {E : Nat} {w W : World} {b cap : Nat} {l : List Lit} (h : DW E 3 w W b cap (flatL l)) {j : Nat} {x : Lit} (hx : l[j]? = some x) : LitAt W b (j * 3) x := by
  obtain ⟨f1, f2, f3⟩ := flatL_get hx
  rw [Nat.mul_comm 3 j] at f1 f2 f3
  exact ⟨h.cell f1, h.cell f2, h.cell f3⟩
theorem eqStruct_run {P : Program} {T : Nat → Ty} {L : Nat} (hT : TabOk P T) {t : Nat} {l m : List AV} {b : Bool} {I : Nat → Prop} {w : World} {cs ds : List Value} (hfl : flatEq T t l = true) (hb : eqCells l m = some b)
    (hx2 : All2 (Rep1 I w L) l cs) (hy2 : All2 (Rep1 I w L) m ds) : (Op.equal t (.agg cs.toArray) (.agg ds.toArray)).run P w = .ok b w := by
  unfold flatEq at hfl
  simp only [Bool.and_eq_true] at hfl
  obtain ⟨heq, hfl⟩ := hfl
  split at hfl
  · rename_i fs hk
    have hg : (T t).good = true := by simp [Ty.good, hk]
    obtain ⟨d, hd, hkk⟩ := (hT t hg).und
    rw [hk] at hkk
    obtain ⟨fields, rfl, hfs, _⟩ := hkk
    obtain ⟨e1, e2, e3⟩ := (hT t hg).eqok heq
    have hfo : P.fieldsOf t = fields := by simp [Program.fieldsOf, hd]
    rw [hfo] at e3
    unfold Op.equal
    show (Op.equalIn (9999 + 1) t _ _).run P w = _
    rw [run_equalIn_struct w 9999 t _ _ (by rw [hfo]; exact hd) e1, hfo]
    exact eqFields_run hT 9998 fields.toList 0 l m b (fun f hf => e3 f (by simpa using hf)) (by rw [hfs]; exact hfl) hb (by simpa using hx2) (by simpa using hy2)
  · cases hfl
theorem eqLit_run (x y : Lit) (w : World) : (Op.equal 58 (litV x) (litV y)).run Tryz.prog w = .ok (sameLit x y) w := by
  have h := eqStruct_run (P := Tryz.prog) (T := tab) (L := lim) tabOk (t := 58) (l := [i64 x.kind, i64 x.act, i64 x.val]) (m := [i64 y.kind, i64 y.act, i64 y.val]) (b := sameLit x y) (I := fun _ => False) (w := w) (cs := [.int .i64 x.kind, .int .i64 x.act, .int .i64 x.val]) (ds := [.int .i64 y.kind, .int .i64 y.act, .int .i64 y.val]) (by kernel_rfl) (by simp [eqCells, eqAV, sameLit]) ⟨rfl, rfl, rfl, trivial⟩ ⟨rfl, rfl, rfl, trivial⟩
  exact h
theorem eqlLit (x y : Lit) (w : World) : Sem.run Tryz.prog (binOp .eql 58 (litV x) (litV y)) w = .ok (.bool (sameLit x y)) w := by
  simp [Go.binOp, eqLit_run]
theorem neqLit (x y : Lit) (w : World) : Sem.run Tryz.prog (binOp .neq 58 (litV x) (litV y)) w = .ok (.bool (!sameLit x y)) w := by
  simp [Go.binOp, eqLit_run]
def CmpPostL (w : World) (b cap : Nat) (r : List Lit) (e : Ending) (w' : World) : Prop := e = .returned (.slice (some ⟨b, 0, none⟩) r.length cap) ∧ DW 58 3 w w' b cap (flatL r)
theorem compact_lit {l : List Lit} {b cap : Nat} {w : World} (hD : DW 58 3 w w b cap (flatL l)) (hcap : l.length ≤ cap) (hl : l.length ≤ 274877906944) :
    Calls Tryz.prog 108 #[.slice (some ⟨b, 0, none⟩) l.length cap] w (CmpPostL w b cap (compactL l)) := by
  by_cases h2 : l.length < 2
  · have e := compactL_short h2
    rw [e]
    have HD := Lib.hid hD
    clear hD e
    go_enter Tryz.func108, Tryz.ntmps108
    go_wp2_with fail
    go_ret
    exact ⟨rfl, HD.out⟩
  · have HD := Lib.hid hD
    have heq := eqlLit
    have hne := neqLit
    simp only [litV] at heq hne
    clear hD
    go_enter Tryz.func108, Tryz.ntmps108
    go_wp2_with fail
    go_loopg [3, 4, 5] l.length (fun gg s3 s4 s5 wr => ∃ (k : Nat), s3 = .int .i64 (k + 1) ∧ k + 1 ≤ l.length ∧ l.length - k ≤ gg ∧ Aside (DW 58 3 w wr b cap (flatL l) ∧ compactL (l.take (k + 1)) = l.take (k + 1)))
    case atStart => exact ⟨0, rfl, by omega, by omega, HD.out, by
      obtain ⟨x, hx⟩ : ∃ x, l[0]? = some x := ⟨l[0]'(by omega), by simp⟩
      rw [compactL_succ hx]; cases l with
      | nil => simp at hx
      | cons y l => simp at hx; subst hx; rfl⟩
    case round =>
      obtain ⟨k, rfl, hkl, hgg, hq⟩ := hrel
      by_cases hlt : k + 1 < l.length
      · obtain ⟨x, hx⟩ : ∃ x, l[k]? = some x := ⟨l[k]'(by omega), by simp⟩
        obtain ⟨y, hy⟩ : ∃ y, l[k + 1]? = some y := ⟨l[k + 1]'(by omega), by simp⟩
        obtain ⟨x1, x2, x3⟩ := hq.out.1.lit hx
        obtain ⟨y1, y2, y3⟩ := hq.out.1.lit hy
        have HX := Lib.hid hx
        have HY := Lib.hid hy
        clear hx hy
        have hmx : Tryz.prog.follows .mixedOrders = true := mixed
        have n1 : (0 : Int) ≤ (k : Int) + 1 := by omega
        by_cases hxy : y = x
        · have hs : sameLit y x = true := sameLit_iff.2 hxy
          have CS := Lib.hid (Compd.start hq.out.2 (hxy ▸ HX.out) HY.out)
          have D0 := Lib.hid hq.out.1.drew
          clear hq HX HY hxy
          go_wp2_with fail
          go_region_o
          go_wp2_with fail
          clear x1 x2 x3 y1 y2 y3 hs
          go_loopg [3, 5] l.length (fun gg s3 s5 wr2 => ∃ (K j : Nat) (dk : List Lit), s3 = .int .i64 K ∧ s5 = .int .i64 (j + 1) ∧ k + j + 2 ≤ l.length ∧ l.length - (k + j + 2) ≤ gg ∧ Aside (Compd l K (k + j + 2) dk ∧ DW 58 3 w wr2 b cap (flatL dk)))
          case atStart => exact ⟨k + 1, 0, l, by go_num, rfl, by omega, by omega, CS.out, D0.out⟩
          case round =>
            obtain ⟨K, j, dk, rfl, rfl, hkj, hg2, hq2⟩ := hrel
            have hKm := hq2.out.1.km
            by_cases hlt2 : k + j + 2 < l.length
            · obtain ⟨x, hx⟩ : ∃ x, l[k + j + 1]? = some x := ⟨l[k + j + 1]'(by omega), by simp⟩
              obtain ⟨z, hz⟩ : ∃ z, l[k + j + 2]? = some z := ⟨l[k + j + 2]'(by omega), by simp⟩
              obtain ⟨x1, x2, x3⟩ := hq2.out.2.lit (hq2.out.1.at (by omega) hx)
              obtain ⟨z1, z2, z3⟩ := hq2.out.2.lit (hq2.out.1.at (by omega) hz)
              have n2 : (0 : Int) ≤ (j : Int) + 1 := by omega
              rw [show (k + j + 1) * 3 = (k + 1) * 3 + j * 3 by omega] at x1 x2 x3
              rw [show (k + j + 2) * 3 = (k + 1) * 3 + (j + 1) * 3 by omega] at z1 z2 z3
              by_cases hzx : z = x
              · have hs : sameLit z x = true := sameLit_iff.2 hzx
                have CS2 := Lib.hid (hq2.out.1.same (by rw [show k + j + 2 - 1 = k + j + 1 by omega]; exact hx) (hzx ▸ hz))
                have D2 := Lib.hid hq2.out.2.drew
                clear hq2 hx hz hzx
                go_wp2_with fail
                go_region_o
                go_wp2_with fail
                go_roundg (l.length - (k + j + 1 + 2))
                case measure => omega
                case rel => exact ⟨K, j + 1, dk, rfl, by go_num, by omega, by omega, CS2.out, D2.out⟩
              · have hs : sameLit z x = false := by
                  cases h : sameLit z x with
                  | false => rfl
                  | true => exact absurd (sameLit_iff.1 h) hzx
                have CS2 := Lib.hid (hq2.out.1.new (by rw [show k + j + 2 - 1 = k + j + 1 by omega]; exact hx) hz hzx)
                have hKl : K < dk.length := by have := hq2.out.1.len; omega
                obtain ⟨y2, hy2⟩ : ∃ y2, dk[K]? = some y2 := ⟨dk[K], by simp [hKl]⟩
                obtain ⟨c1, c2, c3⟩ := hq2.out.2.lit hy2
                have f1 := hq2.out.2.frozen (K * 3)
                have f2 := hq2.out.2.frozen (K * 3 + 1)
                have f3 := hq2.out.2.frozen (K * 3 + 2)
                have D2 := Lib.hid (hq2.out.2.set3 (x := z) hKl).drew
                clear hq2 hx hz hy2 hzx
                go_wp2_with fail
                go_region_o
                go_wp2_with fail
                go_roundg (l.length - (k + j + 1 + 2))
                case measure => omega
                case rel => exact ⟨K + 1, j + 1, dk.set K z, by go_num, by go_num, by omega, by omega, CS2.out, D2.out⟩
            · have hK1 : K < l.length := by omega
              have hlen := hq2.out.1.len
              have hkept := hq2.out.1.kept
              have e0 : l.take (k + j + 2) = l := List.take_of_length_le (by omega)
              rw [e0] at hkept
              have hlk : (compactL l).length = K := by rw [← hkept, List.length_take]; omega
              have hcl := hq2.out.2.cleared (i := K) (n := l.length - K) (by omega)
              rw [hkept, List.map_replicate] at hcl
              have HC := Lib.hid hcl
              have HK := Lib.hid hlk
              have HS1 := Lib.hid (show ∀ i, i < (l.length - K) * 3 → (wr.cell? ⟨b, K * 3 + i, none⟩).isSome = true from fun i hi => hq2.out.2.there (by omega))
              have HF1 := Lib.hid (show ∀ i, i < (l.length - K) * 3 → wr.frozen? ⟨b, K * 3 + i, none⟩ = false from fun i _ => hq2.out.2.frozen _)
              clear hq2 hkept hlk hcl hlen
              go_wp2_with fail
              rw [run_clear_ints (k := 3) _ _ _ _ _ litSl litZero rfl b (K * 3) (l.length - K) (cap - K) (by omega) HS1.out HF1.out]
              go_wp2_with fail
              go_ret
              have hcl := HC.out
              refine ⟨congrArg (fun n : Nat => Ending.returned (.slice (some ⟨b, 0, none⟩) n cap)) HK.out.symm, ?_⟩
              simpa using hcl
        · have hs : sameLit y x = false := by
            cases h : sameLit y x with
            | false => rfl
            | true => exact absurd (sameLit_iff.1 h) hxy
          have CS := Lib.hid (show compactL (l.take (k + 1 + 1)) = l.take (k + 1 + 1) by
            rw [compactL_new (m := k) HX.out HY.out hxy, hq.out.2]
            obtain ⟨hk1, e⟩ := List.getElem?_eq_some_iff.1 HY.out
            rw [List.take_succ_eq_append_getElem hk1, e])
          have D0 := Lib.hid hq.out.1.drew
          clear hq HX HY hxy
          go_wp2_with fail
          go_region_o
          go_wp2_with fail
          go_roundg (l.length - (k + 1))
          case measure => omega
          case rel => exact ⟨k + 1, by go_num, by omega, by omega, D0.out, CS.out⟩
      · obtain ⟨e1, e2⟩ := hq.out
        rw [List.take_of_length_le (by omega)] at e2
        have HQ := Lib.hid e1
        have HE := Lib.hid e2
        clear hq e1 e2
        go_wp2_with fail
        go_ret
        exact ⟨congrArg (fun n : Nat => Ending.returned (.slice (some ⟨b, 0, none⟩) n cap)) (congrArg List.length HE.out).symm, by rw [HE.out]; exact HQ.out⟩
theorem compact_lnil (w : World) : Calls Tryz.prog 108 #[.slice none 0 0] w fun e w' => e = .returned (.slice none 0 0) ∧ w' = w := by
  go_enter Tryz.func108, Tryz.ntmps108
  go_wp2_with fail
  go_ret
  exact ⟨rfl, rfl⟩
end Go.Proofs.YtgebcdkmchcifaaGreat.Abs
