/- The clause without one of its literals. No statement of a claim. -/
import Derived.WalkKit
import Derived.Deep.LoopGhost
import Derived.Lib.Hide
import Derived.Test.YtgebcdkmchcifaaGreatDel
set_option linter.all false
set_option linter.unusedVariables false
set_option linter.unusedSimpArgs false
set_option maxRecDepth 100000
set_option maxHeartbeats 4000000
namespace Go.Proofs.YtgebcdkmchcifaaGreat.Abs
open Go.Proofs Go.RowKit Go.Sort

theorem slices_IndexFunc_Lit (l : List Lit) (fc : Nat) (caps : List AV) (p : Lit → Bool) (hc : ∀ x : Lit, Con fc ([.d x.av] ++ caps.map .ref) (.d (.bool (p x)))) :
    Con 229 [.d (lits l), .fn fc caps] (.d (i64 (findI p l 0))) := by
  refine con Tryz.func229 rfl rfl Tryz.call229 rfl fun hwf => ?_
  simp only [ARs.wf, AR.wf, AV.wf, AV.wfs, List.length_map, lim] at hwf
  (conv => whnf)
  refine loopF [0, 1, 7] [] [] ?_
  (conv => whnf)
  refine LoopC.go ((Nat)) (fun k => (k ≤ l.length) ∧ (findI p (l.drop k) k = findI p l 0)) (fun k => [(8, .data (i64 k))]) (fun _ => []) (fun _ => []) (fun k => l.length - k) (0) ?_ ?_
  · exact ⟨by omega, rfl⟩
  rintro k ⟨hk, hi⟩
  (repeat' ((conv => whnf); first | refine gA ?_ | ((with_reducible first | refine gD (fun h => ?_) (fun h => ?_) | refine gE (fun h => ?_) (fun h => ?_)) <;> (try simp only [lm] at h) <;> try have hw := wn h) | with_reducible refine gI (fun x hx => ?_) | with_reducible refine gJ (fun j x hj hx => ?_) | refine gV ?_ | refine gC (hc x) ?_ | intro _)) <;> (try (conv => whnf))
  all_goals first
    | exact trivial
    | (refine ⟨?_, rfl, trivial⟩; rw [drop_end' (l := l) (by assumption)] at hi; first | (simp_all [findI]; done) | (simp only [findI, ← hi]; clear hi; simp_all [findI]; done))
    | (refine ⟨?_, rfl, trivial⟩; rw [drop_get (l := l) (by assumption)] at hi; first | (simp_all [findI]; done) | (simp only [findI, ← hi]; clear hi; simp_all [findI]; done))
    | (refine nx (k + 1) ?_
       rw [drop_get (l := l) (by assumption)] at hi; refine ⟨by omega, ?_⟩; simp_all [findI]; done)
theorem impl_withoutOf1 (y x : Lit) : Con 180 [.d y.av, .ref x.av] (.d (.bool (sameLit y x))) := by
  refine con Tryz.func180 rfl rfl Tryz.call180 rfl fun hwf => ?_
  (repeat' ((conv => whnf); first | refine gA ?_ | ((with_reducible first | refine gD (fun h => ?_) (fun h => ?_) | refine gE (fun h => ?_) (fun h => ?_)) <;> (try simp only [lm] at h) <;> try have hw := wn h) | intro _)) <;> (try (conv => whnf))
  all_goals exact ⟨by simp [sameLit], rfl, trivial⟩

theorem clone_lit (l : List Lit) : Con 103 [.d (lits l)] (.own 58 (l.map Lit.av)) := by
  refine con Tryz.func103 rfl rfl Tryz.call103 rfl fun hwf => ?_
  simp only [ARs.wf, AR.wf, AV.wf, AV.wfs, List.length_map, lim] at hwf
  (repeat' ((conv => whnf); first | refine gA ?_ | refine NilQ.mk (fun h => ?_) ?_ | ((with_reducible first | refine gD (fun h => ?_) (fun h => ?_) | refine gE (fun h => ?_) (fun h => ?_)) <;> (try simp only [lm] at h) <;> try have hw := wn h) | refine gP ?_ | intro _)) <;> (try (conv => whnf))
  · exact ⟨h, rfl, trivial⟩
  · exact ⟨by simp, rfl, trivial⟩
def noLit (l : List Lit) (x : Lit) : List Lit := l.filter fun y => !sameLit y x
theorem rowIs_lits {I : Nat → Prop} {w : World} {L : Nat} : ∀ {l : List Lit} {xs : List Value}, RowIs I w L 3 (l.map Lit.av) xs → xs = (flatL l).map (Value.int .i64)
  | [], xs, h => h
  | x :: l, xs, h => by
    obtain ⟨_, ys, zs, rfl, h1, h2⟩ := h
    rw [rowIs_lits h2]
    match ys, h1 with
    | [a, b, c], h1 =>
      obtain ⟨rfl, rfl, rfl, _⟩ := h1
      rfl
    | [], h1 => exact h1.elim
    | [_], h1 => exact h1.2.elim
    | [_, _], h1 => exact h1.2.2.elim
    | _ :: _ :: _ :: _ :: _, h1 => exact h1.2.2.2.elim
theorem agg_lit {I : Nat → Prop} {w : World} {L : Nat} {x : Lit} {v : Value} (h : RepV I w L x.av v) : v = litV x := by
  obtain ⟨cs, rfl, h⟩ := h
  match cs, h with
  | [a, b, c], h =>
    obtain ⟨rfl, rfl, rfl, _⟩ := h
    rfl
  | [], h => exact h.elim
  | [_], h => exact h.2.elim
  | [_, _], h => exact h.2.2.elim
  | _ :: _ :: _ :: _ :: _, h => exact h.2.2.2.elim
theorem lit_agg {I : Nat → Prop} {w : World} {L : Nat} (x : Lit) : RepV I w L x.av (litV x) := ⟨[.int .i64 x.kind, .int .i64 x.act, .int .i64 x.val], rfl, rfl, rfl, rfl, trivial⟩
theorem bool_calls {P : Program} {T : Nat → Ty} {L f : Nat} {args : List AR} {c : Bool} (h : Contract P T L f args (.d (.bool c))) {w : World} {vs : List Value}
    (ha : All2 (RepA (fun b => b < w.heap.size) (fun _ => False) (fun _ => False) false w L) args vs) : Calls P f vs.toArray w fun e w' => e = .returned (.bool c) ∧ Quiet w w' := by
  refine (h.2 _ _ _ false w vs (fun b h => h) (fun b h => h.elim) (fun b h => h.elim) nofun nofun ha).mono ?_
  rintro e w' ⟨v, rfl, hb, _, _, _, _, _, _, hr⟩
  obtain ⟨_, rfl⟩ := hr
  exact ⟨rfl, hb.quiet⟩
theorem int_calls {P : Program} {T : Nat → Ty} {L f : Nat} {args : List AR} {c : Int} (h : Contract P T L f args (.d (i64 c))) {w : World} {vs : List Value}
    (ha : All2 (RepA (fun b => b < w.heap.size) (fun _ => False) (fun _ => False) false w L) args vs) : Calls P f vs.toArray w fun e w' => e = .returned (.int .i64 c) ∧ Quiet w w' := by
  refine (h.2 _ _ _ false w vs (fun b h => h) (fun b h => h.elim) (fun b h => h.elim) nofun nofun ha).mono ?_
  rintro e w' ⟨v, rfl, hb, _, _, _, _, _, _, hr⟩
  obtain ⟨_, rfl⟩ := hr
  exact ⟨rfl, hb.quiet⟩
theorem dw_lits {E : Nat} {w W : World} {b cap n L : Nat} {l : List Lit} {I : Nat → Prop} (h : DW E 3 w W b cap (flatL l)) (hI : I b) (hl : l.length ≤ L) (hn : n = l.length) : RepV I W L (lits l) (.slice (some ⟨b, 0, none⟩) n cap) := by
  subst hn
  have hcap : l.length ≤ cap := by
    obtain ⟨cur, h1, h2, h3, h4⟩ := h.row
    have := flatL_length l
    omega
  simp only [lits, RepV, Rep1]
  refine ⟨_, cap, by rw [List.length_map], by rw [List.length_map]; exact hl, by rw [List.length_map]; exact hcap, .inr ⟨b, 0, 3, rfl, hI, repE_lits.2 fun j x hj => ?_⟩⟩
  obtain ⟨f1, f2, f3⟩ := flatL_get hj
  rw [Nat.zero_add]
  exact ⟨h.cell f1, h.cell f2, h.cell f3⟩
abbrev boxL (x : Lit) : Obj := .cells #[.int .i64 x.kind, .int .i64 x.act, .int .i64 x.val] 58
theorem box_ptr {W : World} {x : Lit} {b : Nat} {I J : Nat → Prop} {L : Nat} (h : W.heap[b]? = some (boxL x)) (hI : I b ∨ J b) : PtrI I J W L x.av (.pointer (some ⟨b, 0, none⟩)) := by
  refine ⟨b, 0, rfl, hI, ?_⟩
  refine ⟨⟨_, by rw [cell_of_row W b _ _ _ _ h]; rfl, rfl⟩, ⟨_, by rw [cell_of_row W b _ _ _ _ h]; rfl, rfl⟩, ⟨_, by rw [cell_of_row W b _ _ _ _ h]; rfl, rfl⟩, trivial⟩

theorem deleteFunc_nil {g : Nat} {lb : Array Value} {w : World}
    (hIF : Calls Tryz.prog 229 #[.slice none 0 0, .func (.func g) #[] lb] w fun e w' => e = .returned (.int .i64 (-1)) ∧ Quiet w w') :
    Calls Tryz.prog 179 #[.slice none 0 0, .func (.func g) #[] lb] w fun e w' => e = .returned (.slice none 0 0) ∧ Quiet w w' := by
  go_enter Tryz.func179, Tryz.ntmps179
  go_wp2_with fail
  refine hIF.mono ?_
  rintro e w' ⟨rfl, hb⟩
  have HB := Lib.hid hb
  clear hb hIF
  go_wp2_with fail
  go_ret
  exact ⟨rfl, HB.out⟩

theorem del_ok {l : List Lit} {x : Lit} {w w2 : World} {v : Value} {I O : Nat → Prop} {mt : Bool} (hb : Quiet w w2) (hbx : w2.heap[w.heap.size]? = some (boxL x))
    (hown : w2.ownsRow (w.heap.size + 1) 58 3 v l.length ((flatL l).map (Value.int .i64))) (hl : l.length ≤ lim) (hI : ∀ b, I b → b < w.heap.size) (hO : ∀ b, O b → b < w.heap.size) :
    Calls Tryz.prog 179 #[v, .func (.func 180) #[] #[.pointer (some ⟨w.heap.size, 0, none⟩)]] w2 (Post tab lim I (fun b => O b ∧ mt = true) w (.fr ((noLit l x).map Lit.av))) := by
  have hsz : w.heap.size < w2.heap.size := (Array.getElem?_eq_some_iff.1 hbx).1
  have hcl : ∀ (W : World) (y : Lit), W.heap[w.heap.size]? = some (boxL x) → Calls Tryz.prog 180 (#[litV y] ++ #[.pointer (some ⟨w.heap.size, 0, none⟩)]) W fun e W' => e = .returned (.bool (sameLit y x)) ∧ Quiet W W' := fun W y hW =>
    bool_calls (impl_withoutOf1 y x) (w := W) (vs := [litV y, .pointer (some ⟨w.heap.size, 0, none⟩)]) ⟨lit_agg y, box_ptr hW (.inl (Array.getElem?_eq_some_iff.1 hW).1), trivial⟩
  have hix : ∀ v : Value, RepV (fun b => b < w2.heap.size) w2 lim (lits l) v → Calls Tryz.prog 229 #[v, .func (.func 180) #[] #[.pointer (some ⟨w.heap.size, 0, none⟩)]] w2 fun e w' => e = .returned (.int .i64 (findI (fun y => sameLit y x) l 0)) ∧ Quiet w2 w' := fun v hv =>
    int_calls (slices_IndexFunc_Lit l 180 [x.av] (fun y => sameLit y x) fun y => impl_withoutOf1 y x) (w := w2) (vs := [v, _]) ⟨hv, ⟨_, rfl, box_ptr hbx (.inl hsz), trivial⟩, trivial⟩
  rcases hown.2 with ⟨rfl, hn⟩ | ⟨b, cap, cur, rfl, hbb, _⟩
  · obtain rfl := List.eq_nil_of_length_eq_zero hn
    refine (deleteFunc_nil (hix _ (by simp only [lits, RepV, Rep1, List.map_nil]; exact ⟨none, 0, rfl, Nat.zero_le _, Nat.le_refl _, .inl rfl⟩))).mono ?_
    rintro e w' ⟨rfl, hb'⟩
    refine ⟨_, rfl, Turn.ofQ (fun k hk => hO k hk.1) (hb.trans hb'), I, [], fun k hk => hk, fun k hk => .inl hk, List.nodup_nil, fun _ h => by simp at h, rfl, ?_, fun k hk => by simp [Value.ownBlock] at hk⟩
    simp only [noLit, List.filter_nil, RepV, Rep1, List.map_nil]; exact ⟨none, 0, rfl, Nat.zero_le _, Nat.le_refl _, .inl rfl⟩
  · obtain ⟨hD, hnc, hcm, hfl, _⟩ := dw_start hown
    have hcall := deleteFunc_lit (g := 180) (lb := #[.pointer (some ⟨w.heap.size, 0, none⟩)]) (p := fun y => sameLit y x) (by intro args w; rfl) hD hnc hl (hix _ (dw_lits hD hD.lt hl rfl)) fun W y F hW => hcl W y (by rw [hW.other _ hsz (by omega)]; exact hbx)
    refine hcall.mono ?_
    rintro e w' ⟨rfl, hD'⟩
    have hbw : Quiet w w' := hD'.quiet hb (by omega)
    refine ⟨_, rfl, Turn.ofQ (fun k hk => hO k hk.1) hbw, fun k => I k ∨ k = b, [], fun k hk => .inl hk, ?_, List.nodup_nil, fun _ h => by simp at h, rfl, ?_, ?_⟩
    · rintro k (hk | rfl)
      · exact .inl hk
      · exact .inr ⟨by omega, hD'.ltW, hD'.frozen⟩
    · exact dw_lits hD' (.inr rfl) (Nat.le_trans (List.length_filter_le _ _) hl) rfl
    · intro k hk
      simp only [Value.ownBlock] at hk
      cases hk
      omega
theorem impl_withoutOf (l : List Lit) (x : Lit) : Con 104 [.d (lits l), .d x.av] (.fr ((noLit l x).map Lit.av)) := by
  refine ⟨Tryz.call104, fun I J O mt w vs hI _ hO _ _ ha => ?_⟩
  have hwf := RepA.wfs ha
  simp only [ARs.wf, AR.wf, AV.wf, AV.wfs, List.length_map] at hwf
  match vs, ha with
  | [v0, v1], ha =>
    obtain ⟨h0, h1, _⟩ := ha
    obtain rfl := agg_lit h1
    have hb1 : Quiet w (w.alloc (boxL x)) := Quiet.alloc _ _
    have h0' : RepV I (w.alloc (boxL x)) lim (lits l) v0 := RepV.mono (fun _ h => h) (fun b o hb => World.cell?_of_block (hb1.block b (hI b hb) id)) h0
    have hlt := alloc_lt w (boxL x)
    have hCl := (clone_lit l).2 I (fun _ => False) (fun _ => False) false (w.alloc (boxL x)) [v0] (fun b hb => Nat.lt_trans (hI b hb) hlt) (fun b h => h.elim) (fun b h => h.elim) nofun nofun ⟨h0', trivial⟩
    have HI := Lib.hid hI
    have HO := Lib.hid hO
    have HW := Lib.hid hwf
    have HB1 := Lib.hid hb1
    have HL := Lib.hid hlt
    clear hI hO hwf hb1 h0 h0' h1 hlt
    go_enter Tryz.func104, Tryz.ntmps104
    go_wp2_with fail
    refine hCl.mono ?_
    rintro e w2 ⟨v, rfl, hT, I', bs, k1, k2, k3, k4, k5⟩
    obtain ⟨_, _, _, xs, m1, m2⟩ := k5
    obtain rfl := rowIs_lits m2
    rw [List.length_map] at m1
    have hb2 := hT.quiet
    have hdel := del_ok (l := l) (x := x) (w := w) (w2 := w2) (v := v) (I := I) (O := O) (mt := mt) (HB1.out.trans hb2) ((hb2.block _ HL.out id).trans (alloc_here w (boxL x))) (by
      have := m1
      simp only [World.alloc, Array.size_push] at this
      exact this) HW.out.1.1 HI.out HO.out
    clear hCl m1 m2 hb2 hT k1 k2 k3 k4
    go_wp2_with fail
    refine hdel.mono ?_
    rintro e w3 ⟨v', rfl, hr⟩
    have HR := Lib.hid hr
    clear hr hdel
    go_wp2_with fail
    go_ret
    exact ⟨_, rfl, HR.out⟩
  | [], ha => exact ha.elim
  | [_], ha => exact ha.2.elim
  | _ :: _ :: _ :: _, ha => exact ha.2.2.elim
end Go.Proofs.YtgebcdkmchcifaaGreat.Abs
