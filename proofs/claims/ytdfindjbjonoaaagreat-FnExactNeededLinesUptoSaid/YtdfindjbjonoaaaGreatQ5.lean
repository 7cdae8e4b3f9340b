/- The law of needed lines, phase by phase. No statement of a claim. -/
import Derived.Test.YtdfindjbjonoaaaGreatC24
import Derived.Test.YtdfindjbjonoaaaGreatLto
import Derived.Test.YtdfindjbjonoaaaGreatLold
import Derived.Test.YtdfindjbjonoaaaGreatLeq
import Derived.Test.YtdfindjbjonoaaaGreatLex
import Derived.Test.YtdfindjbjonoaaaGreatLme
set_option linter.all false
set_option linter.unusedVariables false
set_option linter.unusedSimpArgs false
set_option maxRecDepth 20000
set_option maxHeartbeats 4000000
namespace Go.Proofs.YtdfindjbjonoaaaGreat.Abs
open Go.Proofs Go.RowKit


theorem law_NeededLines (p : Proj) (ls : List Lin) (hp : p.fine) (z0 : 0 ≤ szProject p 1048576) (z1 : 0 ≤ szS (fun x n => szLine x n) ls (szProject p 1048576)) (hl : ls.length ≤ 1048576) :
    LawFlat Tryz.prog tab lim Tryz.f8 (Tryz.f8.body.getD .skip) 7 2 4 4 [p.av, .sl (ls.map Lin.av)] [(1, false, .sl (ls.map Lin.av)), (2, true, p.av)] [(6, false, ints (needed p ls))] [(7, true, p.av), (8, false, .sl (ls.map Lin.av))] [] 9 11
      ((needed p ls).map i64) ((markI 1 (needed p ls)).map i64) (1 + (needed p ls).length) 50 := by
  have s0 : Sz 1048576 := by unfold Sz; omega
  have s1 := szProject_ok (x := p) s0
  have m0 := szProject_m p _ z0
  have m1 := meas_S (f := fun x n => szLine x n) (c := Lin.cnt) szLine_m z1
  have hnl := needed_length (p := p) (ls := ls)
  have c0 := p.cnt_nn
  have c1 := cnt_nonneg (f := Lin.cnt) (l := ls) (fun x _ => x.cnt_nn)
  refine ⟨⟨by simp, by simp⟩, flats_map (fun _ => rfl) _, ?_, by simp, by kernel_rfl, by kernel_rfl, by kernel_rfl, by kernel_rfl, ?_, ?_, ?_, ?_, marks_int _ (by omega), ?_⟩
  · intro x hx
    simp only [List.mem_append, List.mem_cons, List.not_mem_nil, or_false] at hx
    rcases hx with (rfl | rfl) | rfl
    · exact mdS Lin_md ls
    · exact Proj_md p
    · exact ints_md _
  · (repeat' ((conv => whnf); first | with_reducible refine Br.no (decide_eq_false (by omega)) ?_ | (with_reducible first | refine Br.ff ?_ | refine Br.tt ?_ | refine Br.not ?_ | refine Br.yes (by assumption) ?_ | refine Br.no (by assumption) ?_ | (refine Br.dec (fun h => ?_) (fun h => ?_) <;> try simp only [lm] at h)) | ((with_reducible refine Br.mk (fun h => ?_) (fun h => ?_)) <;> (try simp only [lm] at h) <;> (first | have hw := within_iff.1 h | have hw := within_no.1 h | skip)) | refine CallK.mk _ (laws_szProject p _ s0 hp) (fun _ => ?_) | refine CallD.mk _ (fun _ hk => CallK.mk _ (laws_szProject p _ s0 hp) (fun _ => hk)) ?_ | refine CallK.mk _ (laws_szLineS ls _ s1) (fun _ => ?_) | refine CallD.mk _ (fun _ hk => CallK.mk _ (laws_szLineS ls _ s1) (fun _ => hk)) ?_ | refine CallK.mk _ (laws_toProject p) (fun _ => ?_) | refine CallD.mk _ (fun _ hk => CallK.mk _ (laws_toProject p) (fun _ => hk)) ?_ | refine CallK.mk _ (laws_toLineS ls) (fun _ => ?_) | refine CallD.mk _ (fun _ hk => CallK.mk _ (laws_toLineS ls) (fun _ => hk)) ?_ | refine CallK.mk _ (spec_NeededLines p ls hp) (fun _ => ?_) | refine CallD.mk _ (fun _ hk => CallK.mk _ (spec_NeededLines p ls hp) (fun _ => hk)) ?_ | intro _)) <;> (try (conv => whnf))
    (refine And.intro rfl ?_ <;> (repeat' ((conv => whnf) <;> (first | exact trivial | exact rfl | with_reducible refine And.intro ?_ ?_))))
  · (repeat' ((conv => whnf); first | (with_reducible first | refine Br.ff ?_ | refine Br.tt ?_ | refine Br.not ?_ | refine Br.yes (by assumption) ?_ | refine Br.no (by assumption) ?_ | (refine Br.dec (fun h => ?_) (fun h => ?_) <;> try simp only [lm] at h)) | ((with_reducible refine Br.mk (fun h => ?_) (fun h => ?_)) <;> (try simp only [lm] at h) <;> (first | have hw := within_iff.1 h | have hw := within_no.1 h | skip)) | refine CallK.mk _ (laws_otoProject p) (fun _ => ?_) | refine CallD.mk _ (fun _ hk => CallK.mk _ (laws_otoProject p) (fun _ => hk)) ?_ | refine CallK.mk _ (laws_otoLineS ls) (fun _ => ?_) | refine CallD.mk _ (fun _ hk => CallK.mk _ (laws_otoLineS ls) (fun _ => hk)) ?_ | intro _)) <;> (try (conv => whnf))
    (refine And.intro rfl ?_ <;> (repeat' ((conv => whnf) <;> (first | exact trivial | exact rfl | with_reducible refine And.intro ?_ ?_))))
  · (repeat' ((conv => whnf); first | with_reducible refine Br.no rfl ?_ | (with_reducible first | refine Br.ff ?_ | refine Br.tt ?_ | refine Br.not ?_ | refine Br.yes (by assumption) ?_ | refine Br.no (by assumption) ?_ | (refine Br.dec (fun h => ?_) (fun h => ?_) <;> try simp only [lm] at h)) | ((with_reducible refine Br.mk (fun h => ?_) (fun h => ?_)) <;> (try simp only [lm] at h) <;> (first | have hw := within_iff.1 h | have hw := within_no.1 h | skip)) | refine CallK.mk _ (laws_toProject p) (fun _ => ?_) | refine CallD.mk _ (fun _ hk => CallK.mk _ (laws_toProject p) (fun _ => hk)) ?_ | refine CallK.mk _ (laws_toLineS ls) (fun _ => ?_) | refine CallD.mk _ (fun _ hk => CallK.mk _ (laws_toLineS ls) (fun _ => hk)) ?_ | refine CallK.mk _ (impl_NeededLines p ls hp) (fun _ => ?_) | refine CallD.mk _ (fun _ hk => CallK.mk _ (impl_NeededLines p ls hp) (fun _ => hk)) ?_ | refine CallK.mk _ (laws_eqIntS (needed p ls)) (fun _ => ?_) | refine CallD.mk _ (fun _ hk => CallK.mk _ (laws_eqIntS (needed p ls)) (fun _ => hk)) ?_ | refine CallK.mk _ (laws_eqProject p) (fun _ => ?_) | refine CallD.mk _ (fun _ hk => CallK.mk _ (laws_eqProject p) (fun _ => hk)) ?_ | refine CallK.mk _ (laws_eqLineS ls) (fun _ => ?_) | refine CallD.mk _ (fun _ hk => CallK.mk _ (laws_eqLineS ls) (fun _ => hk)) ?_ | intro _)) <;> (try (conv => whnf))
    (refine And.intro rfl ?_ <;> (repeat' ((conv => whnf) <;> (first | exact trivial | exact rfl | with_reducible refine And.intro ?_ ?_))))
  · rw [show ([(7, true, p.av), (8, false, AV.sl (ls.map Lin.av))] : List Fact).map toS = [(7, .oldref p.sh), (8, .old (.sl (ls.map Lin.sh)))] from by
      simp only [List.map_cons, List.map_nil, toS, cond_true, cond_false]
      rw [Proj.sh_eq, sh_eq Lin.sh_eq]]
    (repeat' ((conv => whnf); first | with_reducible refine Br.no (decide_eq_false (by omega)) ?_ | with_reducible refine Br.no rfl ?_ | (with_reducible first | refine Br.ff ?_ | refine Br.tt ?_ | refine Br.not ?_ | refine Br.yes (by assumption) ?_ | refine Br.no (by assumption) ?_ | (refine Br.dec (fun h => ?_) (fun h => ?_) <;> try simp only [lm] at h)) | ((with_reducible refine Br.mk (fun h => ?_) (fun h => ?_)) <;> (try simp only [lm] at h) <;> (first | have hw := within_iff.1 h | have hw := within_no.1 h | skip)) | refine CallK.mk _ (laws_markProject p 1 (by omega)) (fun _ => ?_) | refine CallD.mk _ (fun _ hk => CallK.mk _ (laws_markProject p 1 (by omega)) (fun _ => hk)) ?_ | refine CallK.mk _ (laws_markLineS ls _ (by omega)) (fun _ => ?_) | refine CallD.mk _ (fun _ hk => CallK.mk _ (laws_markLineS ls _ (by omega)) (fun _ => hk)) ?_ | refine CallK.mk _ (laws_eqIntS (needed p ls)) (fun _ => ?_) | refine CallD.mk _ (fun _ hk => CallK.mk _ (laws_eqIntS (needed p ls)) (fun _ => hk)) ?_ | intro _)) <;> (try (conv => whnf))
    (refine And.intro rfl ?_ <;> (repeat' ((conv => whnf) <;> (first | exact trivial | exact rfl | with_reducible refine And.intro ?_ ?_))))
  · refine ⟨_, _, _, _, 64, 65, 66, _, rfl, ⟨⟨_, rfl, rfl, rfl, rfl⟩, ⟨_, _, _, _, _, rfl, rfl, rfl, rfl, rfl, rfl, rfl, rfl, rfl, rfl, rfl, rfl, rfl, rfl, rfl⟩⟩, by decide, by simp, by decide, by kernel_rfl, ?_⟩
    (repeat' ((conv => whnf); first | with_reducible refine Br.yes (decide_eq_true rfl) ?_ | with_reducible refine Br.no (decide_eq_false (by omega)) ?_ | with_reducible refine Br.no rfl ?_ | (with_reducible first | refine Br.ff ?_ | refine Br.tt ?_ | refine Br.not ?_ | refine Br.yes (by assumption) ?_ | refine Br.no (by assumption) ?_ | (refine Br.dec (fun h => ?_) (fun h => ?_) <;> try simp only [lm] at h)) | ((with_reducible refine Br.mk (fun h => ?_) (fun h => ?_)) <;> (try simp only [lm] at h) <;> (first | have hw := within_iff.1 h | have hw := within_no.1 h | skip)) | refine CallK.mk _ (laws_heldIntS (needed p ls) 1 (by omega)) (fun _ => ?_) | refine CallD.mk _ (fun _ hk => CallK.mk _ (laws_heldIntS (needed p ls) 1 (by omega)) (fun _ => hk)) ?_ | refine CallK.mk _ (laws_toProject p) (fun _ => ?_) | refine CallD.mk _ (fun _ hk => CallK.mk _ (laws_toProject p) (fun _ => hk)) ?_ | refine CallK.mk _ (laws_toLineS ls) (fun _ => ?_) | refine CallD.mk _ (fun _ hk => CallK.mk _ (laws_toLineS ls) (fun _ => hk)) ?_ | refine CallK.mk _ (impl_NeededLines p ls hp) (fun _ => ?_) | refine CallD.mk _ (fun _ hk => CallK.mk _ (impl_NeededLines p ls hp) (fun _ => hk)) ?_ | refine CallK.mk _ (laws_eqIntS (needed p ls)) (fun _ => ?_) | refine CallD.mk _ (fun _ hk => CallK.mk _ (laws_eqIntS (needed p ls)) (fun _ => hk)) ?_ | intro _)) <;> (try (conv => whnf))
    all_goals exact ⟨rfl, rfl, trivial⟩
theorem law_NeededLines_no (p : Proj) (ls : List Lin) (hp : p.fine) (z : ¬ (0 ≤ szProject p 1048576 ∧ 0 ≤ szS (fun x n => szLine x n) ls (szProject p 1048576))) :
    Con 8 [.d p.av, .d (.sl (ls.map Lin.av))] (.d (.bool true)) := by
  refine con Tryz.func8 rfl rfl Tryz.call8 rfl fun hwf => ?_
  have s0 : Sz 1048576 := by unfold Sz; omega
  have s1 := szProject_ok (x := p) s0
  by_cases z0 : 0 ≤ szProject p 1048576
  · have z1 : ¬ 0 ≤ szS (fun x n => szLine x n) ls (szProject p 1048576) := fun h => z ⟨z0, h⟩
    (repeat' ((conv => whnf); first | with_reducible refine Br.yes (decide_eq_true (by omega)) ?_ | with_reducible refine Br.no (decide_eq_false (by omega)) ?_ | (with_reducible first | refine Br.ff ?_ | refine Br.tt ?_ | refine Br.not ?_ | refine Br.yes (by assumption) ?_ | refine Br.no (by assumption) ?_ | (refine Br.dec (fun h => ?_) (fun h => ?_) <;> try simp only [lm] at h)) | ((with_reducible refine Br.mk (fun h => ?_) (fun h => ?_)) <;> (try simp only [lm] at h) <;> (first | have hw := within_iff.1 h | have hw := within_no.1 h | skip)) | refine CallK.mk _ (laws_szProject p _ s0 hp) (fun _ => ?_) | refine CallD.mk _ (fun _ hk => CallK.mk _ (laws_szProject p _ s0 hp) (fun _ => hk)) ?_ | refine CallK.mk _ (laws_szLineS ls _ s1) (fun _ => ?_) | refine CallD.mk _ (fun _ hk => CallK.mk _ (laws_szLineS ls _ s1) (fun _ => hk)) ?_ | intro _)) <;> (try (conv => whnf))
    exact ⟨rfl, rfl, trivial⟩
  · (repeat' ((conv => whnf); first | with_reducible refine Br.yes (decide_eq_true (by omega)) ?_ | (with_reducible first | refine Br.ff ?_ | refine Br.tt ?_ | refine Br.not ?_ | refine Br.yes (by assumption) ?_ | refine Br.no (by assumption) ?_ | (refine Br.dec (fun h => ?_) (fun h => ?_) <;> try simp only [lm] at h)) | ((with_reducible refine Br.mk (fun h => ?_) (fun h => ?_)) <;> (try simp only [lm] at h) <;> (first | have hw := within_iff.1 h | have hw := within_no.1 h | skip)) | refine CallK.mk _ (laws_szProject p _ s0 hp) (fun _ => ?_) | refine CallD.mk _ (fun _ hk => CallK.mk _ (laws_szProject p _ s0 hp) (fun _ => hk)) ?_ | intro _)) <;> (try (conv => whnf))
    exact ⟨rfl, rfl, trivial⟩
theorem law_NeededLines_calls (p : Proj) (ls : List Lin) (hp : p.fine) (hl : ls.length ≤ 1048576) {w : World} {vs : List Value} (hargs : All2 (RepV (fun b => b < w.heap.size) w lim) [p.av, .sl (ls.map Lin.av)] vs) :
    Calls Tryz.prog 8 vs.toArray w fun e w' => e = .returned (.bool true) ∧ Below w.heap.size w w' := by
  by_cases z : 0 ≤ szProject p 1048576 ∧ 0 ≤ szS (fun x n => szLine x n) ls (szProject p 1048576)
  · exact law_flat tabOk (by decide) (by decide) mixed Tryz.func8 rfl (law_NeededLines p ls hp z.1 z.2 hl) (by simp only [List.length_cons, List.length_nil]; decide) hargs
  · exact calls_of_con (args := [p.av, .sl (ls.map Lin.av)]) (law_NeededLines_no p ls hp z) hargs
end Go.Proofs.YtdfindjbjonoaaaGreat.Abs
