/- New clauses, as contracts. No statement of a claim. -/
import Derived.WalkKit
import Derived.Deep.LoopGhost
import Derived.Lib.Hide
import Derived.Test.YtgebcdkmchcifaaGreatNc
import Derived.Test.YtgebcdkmchcifaaGreatCl
set_option linter.all false
set_option linter.unusedVariables false
set_option linter.unusedSimpArgs false
set_option maxRecDepth 100000
set_option maxHeartbeats 4000000
namespace Go.Proofs.YtgebcdkmchcifaaGreat.Abs
open Go.Proofs Go.RowKit Go.Sort


theorem lits_rowIs {I : Nat → Prop} {w : World} {L : Nat} : ∀ (l : List Lit), RowIs I w L 3 (l.map Lit.av) ((flatL l).map (Value.int .i64))
  | [] => rfl
  | x :: l => ⟨rfl, [.int .i64 x.kind, .int .i64 x.act, .int .i64 x.val], (flatL l).map (Value.int .i64), rfl, ⟨rfl, rfl, rfl, trivial⟩, lits_rowIs l⟩
theorem sortL_clause (l : List Lit) : compactL (sortL l) = newClause l := sortCompact_eq l
theorem impl_NewClause (l : List Lit) : Con 47 [.d (lits l)] (.own 58 ((newClause l).map Lit.av)) := by
  refine ⟨Tryz.call47, fun I J O mt w vs hI _ hO _ _ ha => ?_⟩
  have hwf := RepA.wfs ha
  simp only [ARs.wf, AR.wf, AV.wf, AV.wfs, List.length_map] at hwf
  match vs, ha with
  | [v0], ha =>
    obtain ⟨h0, _⟩ := ha
    have hCl := (clone_lit l).2 I (fun _ => False) (fun _ => False) false w [v0] hI (fun b h => h.elim) (fun b h => h.elim) nofun nofun ⟨h0, trivial⟩
    have HI := Lib.hid hI
    have HO := Lib.hid hO
    have HW := Lib.hid hwf
    clear hI hO hwf h0
    go_enter Tryz.func47, Tryz.ntmps47
    go_wp2_with fail
    refine hCl.mono ?_
    rintro e w2 ⟨v, rfl, hT, I', bs, k1, k2, k3, k4, k5⟩
    obtain ⟨_, _, _, xs, m1, m2⟩ := k5
    obtain rfl := rowIs_lits m2
    rw [List.length_map] at m1
    have hb2 := hT.quiet
    clear hCl hT k1 k2 k3 k4 m2
    rcases m1.2 with ⟨rfl, hn⟩ | ⟨b, cap, cur, rfl, hbb, _⟩
    · obtain rfl := List.eq_nil_of_length_eq_zero hn
      have hs := AnyF.slices_SortFunc_none Tryz.sortLit none 0 (.func (.func 107) #[] #[]) w2
      have hc := compact_lnil w2
      have HB := Lib.hid hb2
      clear hb2 m1 hn
      go_wp2_with fail
      refine hs.mono ?_
      rintro e w3 ⟨rfl, rfl⟩
      clear hs
      go_wp2_with fail
      refine hc.mono ?_
      rintro e w4 ⟨rfl, rfl⟩
      clear hc
      go_wp2_with fail
      go_ret
      refine ⟨_, rfl, Turn.ofQ (fun k hk => HO.out k hk.1) HB.out, I, [], fun k hk => hk, fun k hk => .inl hk, List.nodup_nil, fun _ h => by simp at h, rfl, by simp [newClause], rfl, [], ⟨rfl, .inl ⟨rfl, rfl⟩⟩, rfl⟩
    · obtain ⟨hD, hnc, hcm, hfl, hbs⟩ := dw_start m1
      have hlt := hD.lt
      have hs := sort_lit hD HW.out.1.1
      have HB := Lib.hid hb2
      have HE := Lib.hid hnc
      clear hb2 m1 hnc hfl
      have hl0 : b < w2.heap.size := hD.lt
      go_wp2_with fail
      refine hs.mono ?_
      rintro e w3 ⟨rfl, hD3⟩
      clear hs
      have hlen : (sortL l).length = l.length := List.length_mergeSort _
      obtain ⟨cur3, r1, r2, r3, r4⟩ := hD3.row
      have hc := compact_lit (l := sortL l) (b := b) (cap := cap) (w := w3) ⟨rfl, rfl, rfl, Nat.le_refl _, Nat.le_refl _, hD3.ltW, fun _ _ _ => rfl, cur3, r1, r2, r3, r4⟩ (by rw [hlen]; exact HE.out) (by rw [hlen]; exact HW.out.1.1)
      rw [hlen] at hc
      have H3 := Lib.hid hD3
      clear hD3 hlen r1 r2 r3 r4
      go_wp2_with fail
      refine hc.mono ?_
      rintro e w4 ⟨rfl, hD4⟩
      clear hc
      rw [sortL_clause] at hD4
      have H4 := Lib.hid hD4
      clear hD4
      go_wp2_with fail
      go_ret
      have hD4 := H4.out
      have hD3 := H3.out
      have hbw : Quiet w w4 := hD4.quiet (hD3.quiet HB.out hbb) hbb
      have hsl := newClause_len l
      have hlim := HW.out.1.1
      refine ⟨_, rfl, Turn.ofQ (fun k hk => HO.out k hk.1) hbw, I, [b], fun k hk => hk, fun k hk => .inl hk, by simp, ?_, rfl, by rw [List.length_map]; exact Nat.le_trans hsl hlim, rfl, (flatL (newClause l)).map (Value.int .i64), ?_, lits_rowIs _⟩
      · intro k hk
        obtain rfl := List.mem_singleton.1 hk
        exact ⟨fun hi => by have := HI.out _ hi; omega, hbb, hD4.ltW⟩
      · rw [List.length_map]
        have ho := hD4.owns (n := (newClause l).length) (base := w.heap.size) (by rw [flatL_length]; omega) hbb (Nat.le_trans hsl HE.out) hcm
        rw [sortL_clause]
        exact ho
  | [], ha => exact ha.elim
  | _ :: _ :: _, ha => exact ha.2.elim
theorem spec_NewClause (l : List Lit) : Con 38 [.d (lits l)] (.d (lits (newClause l))) := by
  refine con Tryz.func38 rfl rfl Tryz.call38 rfl fun hwf => ?_
  simp only [ARs.wf, AR.wf, AV.wf, AV.wfs, List.length_map, lim] at hwf
  (repeat' ((conv => whnf); first | (with_reducible first | refine Br.ff ?_ | refine Br.tt ?_ | refine Br.not ?_ | refine Br.yes (by assumption) ?_ | refine Br.no (by assumption) ?_ | (refine Br.dec (fun h => ?_) (fun h => ?_) <;> try simp only [lm] at h)) | ((with_reducible refine Br.mk (fun h => ?_) (fun h => ?_)) <;> (try simp only [lm] at h) <;> (first | have hw := within_iff.1 h | have hw := within_no.1 h | skip)) | with_reducible refine Arith.ok (by first | omega | (simp only [lm]; omega)) ?_ | with_reducible refine Idx.at (by first | omega | (simp only [lm] at *; omega)) (fun x hx => ?_) | with_reducible refine Idx.of_map (by first | omega | (simp only [lm] at *; omega)) (fun j x hj hx => ?_) | ((first | refine VC.one ?_ rfl ?_ | refine VC.one0 ?_ rfl ?_ | refine VC.all ?_ (fun _ => rfl) ?_ | refine VC.all0 ?_ (fun _ => rfl) ?_); focus ((try dsimp only); unfold lim; first | omega | (simp only [lens, subList, upTo_len] at *; omega))) | refine VC.mk ⟨by (try dsimp only); unfold lim; first | omega | (simp only [lens, subList, upTo_len] at *; omega), fun x hx => by obtain ⟨y, _, rfl⟩ := List.mem_map.1 (subList_mem hx); rfl⟩ ?_ | refine VC.mk (by first | omega | (simp only [lm]; omega)) ?_ | refine VC.cut rfl (fun _ => rfl) ?_ | refine VC.mk ⟨rfl, .inl rfl⟩ ?_ | intro _)) <;> (try (conv => whnf))
  refine loopF [9, 10] [] [] ?_
  (conv => whnf)
  refine LoopC.mk ((Nat) × (List Lit)) (fun ⟨k, o⟩ => (k ≤ l.length) ∧ (o.length ≤ k) ∧ ((l.drop k).foldl putLit o = newClause l)) (fun ⟨k, o⟩ => [(11, .data (i64 k)), (3, .data (lits o))]) (fun _ => []) (fun _ => []) (fun ⟨k, o⟩ => l.length - k) ⟨0, []⟩ ?_ ?_ ?_
  rotate_left
  · (repeat' ((conv => whnf) <;> (first | exact trivial | exact rfl | with_reducible refine And.intro ?_ ?_)))
  rotate_left
  · exact ⟨by omega, by simp, rfl⟩
  rintro ⟨k, o⟩ ⟨hk, ho, hi⟩
  (repeat' ((conv => whnf); first | (with_reducible first | refine Br.ff ?_ | refine Br.tt ?_ | refine Br.not ?_ | refine Br.yes (by assumption) ?_ | refine Br.no (by assumption) ?_ | (refine Br.dec (fun h => ?_) (fun h => ?_) <;> try simp only [lm] at h)) | ((with_reducible refine Br.mk (fun h => ?_) (fun h => ?_)) <;> (try simp only [lm] at h) <;> (first | have hw := within_iff.1 h | have hw := within_no.1 h | skip)) | with_reducible refine Arith.ok (by first | omega | (simp only [lm]; omega)) ?_ | with_reducible refine Idx.at (by first | omega | (simp only [lm] at *; omega)) (fun x hx => ?_) | with_reducible refine Idx.of_map (by first | omega | (simp only [lm] at *; omega)) (fun j x hj hx => ?_) | ((first | refine VC.one ?_ rfl ?_ | refine VC.one0 ?_ rfl ?_ | refine VC.all ?_ (fun _ => rfl) ?_ | refine VC.all0 ?_ (fun _ => rfl) ?_); focus ((try dsimp only); unfold lim; first | omega | (simp only [lens, subList, upTo_len] at *; omega))) | refine VC.mk ⟨by (try dsimp only); unfold lim; first | omega | (simp only [lens, subList, upTo_len] at *; omega), fun x hx => by obtain ⟨y, _, rfl⟩ := List.mem_map.1 (subList_mem hx); rfl⟩ ?_ | refine VC.mk (by first | omega | (simp only [lm]; omega)) ?_ | refine VC.cut rfl (fun _ => rfl) ?_ | refine VC.mk ⟨rfl, .inl rfl⟩ ?_ | intro _)) <;> (try (conv => whnf))
  · obtain ⟨z, rfl⟩ : ∃ z, z = x := ⟨x, rfl⟩
    rw [drop_get hx, List.foldl_cons] at hi
    have hkl := (List.getElem?_eq_some_iff.1 hx).1
    clear hx
    refine loopF [3, 5, 9, 10, 11] [5] [] ?_
    (conv => whnf)
    refine LoopC.mk ((Nat)) (fun j => (j ≤ o.length) ∧ (o.take j ++ putLit (o.drop j) z = putLit o z)) (fun j => [(6, .data (i64 j))]) (fun _ => []) (fun _ => []) (fun j => o.length - j) (0) ?_ ?_ ?_
    rotate_left
    · (repeat' ((conv => whnf) <;> (first | exact trivial | exact rfl | with_reducible refine And.intro ?_ ?_)))
    rotate_left
    · exact ⟨Nat.zero_le _, rfl⟩
    rintro j ⟨hj, hq⟩
    (repeat' ((conv => whnf); first | (with_reducible first | refine Br.ff ?_ | refine Br.tt ?_ | refine Br.not ?_ | refine Br.yes (by assumption) ?_ | refine Br.no (by assumption) ?_ | (refine Br.dec (fun h => ?_) (fun h => ?_) <;> try simp only [lm] at h)) | ((with_reducible refine Br.mk (fun h => ?_) (fun h => ?_)) <;> (try simp only [lm] at h) <;> (first | have hw := within_iff.1 h | have hw := within_no.1 h | skip)) | with_reducible refine Arith.ok (by first | omega | (simp only [lm]; omega)) ?_ | with_reducible refine Idx.at (by first | omega | (simp only [lm] at *; omega)) (fun x hx => ?_) | with_reducible refine Idx.of_map (by first | omega | (simp only [lm] at *; omega)) (fun j x hj hx => ?_) | ((first | refine VC.one ?_ rfl ?_ | refine VC.one0 ?_ rfl ?_ | refine VC.all ?_ (fun _ => rfl) ?_ | refine VC.all0 ?_ (fun _ => rfl) ?_); focus ((try dsimp only); unfold lim; first | omega | (simp only [lens, subList, upTo_len] at *; omega))) | refine VC.mk ⟨by (try dsimp only); unfold lim; first | omega | (simp only [lens, subList, upTo_len] at *; omega), fun x hx => by obtain ⟨y, _, rfl⟩ := List.mem_map.1 (subList_mem hx); rfl⟩ ?_ | refine VC.mk (by first | omega | (simp only [lm]; omega)) ?_ | refine VC.cut rfl (fun _ => rfl) ?_ | refine VC.mk ⟨rfl, .inl rfl⟩ ?_ | refine CallK.go (spec_CompareLiterals _ _) (fun _ => ?_) | refine CallD.go (spec_CompareLiterals _ _) ?_ | intro _)) <;> (try (conv => whnf))
    · refine ⟨(j + 1), ?_, rfl, ?_, ?_⟩
      rotate_left
      · (repeat' ((conv => whnf) <;> (first | exact trivial | exact rfl | with_reducible refine And.intro ?_ ?_)))
      · (try dsimp only); (try simp only [List.length_map]); omega
      exact ⟨by omega, (putLit_step hq hx).1 h⟩
    · refine ⟨⟨k + 1, o⟩, ?_, rfl, ?_, ?_⟩
      rotate_left
      · (repeat' ((conv => whnf) <;> (first | exact trivial | exact rfl | with_reducible refine And.intro ?_ ?_)))
      · (try dsimp only); (try simp only [List.length_map]); omega
      have e : x = z := sameLit_iff.1 (sameLit_of h)
      rename_i x' hx' _ _ hn _ _
      obtain rfl : x' = x := by rw [hx] at hx'; cases hx'; rfl
      rw [(putLit_step hq hx).2.1 hn e] at hi
      exact ⟨by omega, by omega, hi⟩
    · rename_i x' hx' _ _ hn _ _
      obtain rfl : x' = x := by rw [hx] at hx'; cases hx'; rfl
      have hput := (putLit_step hq hx).2.2 hn (fun e => by have h' := sameLit_of h; rw [sameLit_iff.2 e] at h'; cases h')
      refine ⟨⟨k + 1, putLit o z⟩, ?_, rfl, ?_, ?_⟩
      rotate_left
      · (repeat' ((conv => whnf) <;> (first | exact trivial | exact rfl | with_reducible refine And.intro ?_ ?_))) <;> ((conv => whnf) <;> ((rw [hput]; (try dsimp only); rw [subList_head, subList_tail]; simp)))
      · (try dsimp only); (try simp only [List.length_map]); omega
      have := putLit_len o z
      exact ⟨by omega, by omega, hi⟩
    · exfalso; omega
    · exfalso; omega
    · exfalso; omega
    · have hput := putLit_end hq (by omega)
      refine ⟨⟨k + 1, putLit o z⟩, ?_, rfl, ?_, ?_⟩
      rotate_left
      · (repeat' ((conv => whnf) <;> (first | exact trivial | exact rfl | with_reducible refine And.intro ?_ ?_))) <;> ((conv => whnf) <;> ((rw [hput]; (try dsimp only); rw [subList_head, subList_tail]; simp)))
      · (try dsimp only); (try simp only [List.length_map]); omega
      have := putLit_len o z
      exact ⟨by omega, by omega, hi⟩
  · refine ⟨?_, rfl, trivial⟩
    rw [← hi, drop_end' (by assumption)]; rfl
end Go.Proofs.YtgebcdkmchcifaaGreat.Abs
