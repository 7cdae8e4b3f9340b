/- What the laws' markInference lays into an inference: exactly. No statement of a claim. -/
import Derived.WalkKit
import Derived.Deep.LoopGhost
import Derived.Lib.Hide
import Derived.Test.YtgebcdkmchcifaaGreatLey
import Derived.Test.YtgebcdkmchcifaaGreatLmk
import Derived.Test.YtgebcdkmchcifaaGreatLawB
import Derived.Test.YtgebcdkmchcifaaGreatDel
set_option linter.all false
set_option linter.unusedVariables false
set_option linter.unusedSimpArgs false
set_option maxRecDepth 100000
set_option maxHeartbeats 4000000
namespace Go.Proofs.YtgebcdkmchcifaaGreat.Abs
open Go.Proofs Go.RowKit Go.Sort

abbrev Infer.cellsOf (x : Infer) : List AV := [i64 x.lit.kind, i64 x.lit.act, i64 x.lit.val, i64 x.rule.kind, i64 x.rule.a, i64 x.rule.b, i64 x.rule.c, lits x.clause]
def Infer.marked (x : Infer) : Infer := { x with clause := markL 1 x.clause }
theorem own_in {G : Nat → Prop} {w : World} {L : Nat} {l : List AV} {v : Value} (h : RepV G w L (.sl l) v) (hl : l ≠ []) {k : Nat} (hk : v.ownBlock = some k) : G k := by
  simp only [RepV, Rep1] at h
  obtain ⟨ad, cap, hv, _, _, h3⟩ := h
  rcases h3 with h3 | ⟨b', o, sz, ha, hI, _⟩
  · exact absurd (List.eq_nil_of_length_eq_zero h3) hl
  · rw [hv, ha] at hk; cases hk; exact hI
abbrev boxI (x : Infer) (v : Value) : Obj := .cells #[.int .i64 x.lit.kind, .int .i64 x.lit.act, .int .i64 x.lit.val, .int .i64 x.rule.kind, .int .i64 x.rule.a, .int .i64 x.rule.b, .int .i64 x.rule.c, v] 64
theorem marks_infer (x : Infer) (hl : x.clause.length ≤ 274877906944) : MarksBox Tryz.prog lim 29 x.cellsOf x.marked.cellsOf (1 + 3 * x.clause.length) := by
  refine ⟨Tryz.call29, fun G w v hG hr => ?_⟩
  obtain ⟨us, rfl, hu⟩ := hr
  match us, hu with
  | [u1, u2, u3, u4, u5, u6, u7, v], hu =>
    obtain ⟨rfl, rfl, rfl, rfl, rfl, rfl, rfl, h8, _⟩ := hu
    have hq : Quiet w (w.alloc (boxI x v)) := Quiet.alloc _ _
    have hlt := alloc_lt w (boxI x v)
    have h8' : RepV G (w.alloc (boxI x v)) lim (.sl (x.clause.map Lit.av)) v := by
      have : RepV G w lim (.sl (x.clause.map Lit.av)) v := by simpa only [RepV] using h8
      exact RepV.mono (fun _ h => h) (fun b o hb => World.cell?_of_block (hq.block b (hG b hb).1 id)) this
    have hm := (marks_lit x.clause hl).2 G (w.alloc (boxI x v)) v (fun b hb => ⟨Nat.lt_trans (hG b hb).1 hlt, (hG b hb).2.same (hq.block b (hG b hb).1 id)⟩) h8'
    have hown : ∀ k, x.clause.map Lit.av ≠ [] → v.ownBlock = some k → G k := fun k hne hk => own_in h8' hne hk
    have HQ := Lib.hid hq
    have HO := Lib.hid hown
    clear hq hlt h8 h8' hown hG
    go_enter Tryz.func29, Tryz.ntmps29
    go_wp2_with fail
    refine hm.mono ?_
    rintro e w' ⟨rfl, k1, k2, k3, k4, k5, k6⟩
    have K5 := Lib.hid k5
    have K6 := Lib.hid k6
    clear hm k5 k6
    go_wp2_with fail
    go_ret
    refine ⟨rfl, k1.trans HQ.out.os, k2.trans HQ.out.tape, k3.trans HQ.out.output, by have := HQ.out.size; omega, fun k hk hn => ?_, ?_⟩
    · rw [K5.out k fun hne e => hn (HO.out k hne e)]
      exact HQ.out.block k hk id
    · refine ⟨_, rfl, rfl, rfl, rfl, rfl, rfl, rfl, rfl, ?_, trivial⟩
      have := K6.out
      simp only [RepV] at this
      exact this
  | [], hu => exact hu.elim
  | [_], hu => exact hu.2.elim
  | [_, _], hu => exact hu.2.2.elim
  | [_, _, _], hu => exact hu.2.2.2.elim
  | [_, _, _, _], hu => exact hu.2.2.2.2.elim
  | [_, _, _, _, _], hu => exact hu.2.2.2.2.2.elim
  | [_, _, _, _, _, _], hu => exact hu.2.2.2.2.2.2.elim
  | [_, _, _, _, _, _, _], hu => exact hu.2.2.2.2.2.2.2.elim
  | _ :: _ :: _ :: _ :: _ :: _ :: _ :: _ :: _ :: _, hu => exact hu.2.2.2.2.2.2.2.2.elim
theorem laws_heldInference (x : Infer) (n : Int) (hn : 0 ≤ n ∧ n + 3 * x.clause.length ≤ 4611686018427387904) (e : n = 1) : Con 30 [.d x.marked.av, .d (i64 n)] (.d (i64 (n + 3 * x.clause.length))) := by
  subst e
  refine con Tryz.func30 rfl rfl Tryz.call30 rfl fun hwf => ?_
  (repeat' ((conv => whnf); first | refine gA ?_ | ((with_reducible first | refine gD (fun h => ?_) (fun h => ?_) | refine gE (fun h => ?_) (fun h => ?_)) <;> (try simp only [lm] at h) <;> try have hw := wn h) | refine gC (laws_heldLiteralS x.clause 1 hn) ?_ | intro _)) <;> (try (conv => whnf))
  all_goals first | (exfalso; omega) | exact ⟨rfl, rfl, trivial⟩
theorem Infer_md (x : Infer) : x.av.md false = true := by simp only [AV.md, AV.mds]; exact and2 rfl (and2 rfl (and2 rfl (and2 rfl (and2 rfl (and2 rfl (and2 rfl (and2 (lits_md x.clause) rfl)))))))
end Go.Proofs.YtgebcdkmchcifaaGreat.Abs
