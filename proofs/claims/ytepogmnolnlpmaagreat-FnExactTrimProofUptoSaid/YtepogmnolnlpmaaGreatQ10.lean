/- The law of trimmed proofs, phase by phase. No statement of a claim. -/
import Derived.Test.YtepogmnolnlpmaaGreatC35
import Derived.Test.YtepogmnolnlpmaaGreatLh
import Derived.Test.YtepogmnolnlpmaaGreatLct
import Derived.Test.YtepogmnolnlpmaaGreatLayC
set_option linter.all false
set_option linter.unusedVariables false
set_option linter.unusedSimpArgs false
set_option maxRecDepth 20000
set_option maxHeartbeats 4000000
namespace Go.Proofs.YtepogmnolnlpmaaGreat.Abs
open Go.Proofs Go.RowKit


theorem trimmed_cnt {p : Proj} {ls : List Lin} {B : Int} (hB : cntS Lin.cnt ls ≤ B) (hl : ls.length ≤ 1048576) (h5 : 5 ≤ B) (hs : B ≤ 10000000) : 0 ≤ cntS Lin.cnt (trimmed p ls) ∧ cntS Lin.cnt (trimmed p ls) ≤ 10000000 * 1048576 := by
  refine ⟨cnt_nonneg fun x _ => x.cnt_nn, ?_⟩
  have h1 := cnt_le (c := Lin.cnt) (B := B) (l := trimmed p ls) fun x hx => by
    obtain ⟨i, hi, rfl⟩ := List.mem_map.1 hx
    obtain ⟨k1, k2⟩ := thin_in hi
    have hx := cnt_mem (c := Lin.cnt) (fun y _ => y.cnt_nn) (List.getElem_mem (show i.toNat < ls.length by omega))
    rw [lineAt_get (List.getElem?_eq_getElem (show i.toNat < ls.length by omega))]
    omega
  have h2 := needed_length (p := p) (ls := ls)
  have h3 : (trimmed p ls).length = (needed p ls).length := by simp [trimmed, pickL]
  have h4 : B * ((trimmed p ls).length : Int) ≤ 10000000 * 1048576 := Int.mul_le_mul hs (by omega) (by omega) (by omega)
  omega
theorem law_TrimProof (p : Proj) (ls : List Lin) (hp : p.fine) (z0 : 0 ≤ szProject p 1048576) (z1 : 0 ≤ szS (fun x n => szLine x n) ls (szProject p 1048576)) (hl : ls.length ≤ 1048576) (r : List Lin) (hr : trimmed p ls = r) :
    LawLin Tryz.prog tab lim Tryz.f4 (Tryz.f4.body.getD .skip) 7 2 4 4 [p.av, .sl (ls.map Lin.av)] [(1, false, .sl (ls.map Lin.av)), (2, true, p.av)] [(6, false, .sl (r.map Lin.av))] [(7, true, p.av), (8, false, .sl (ls.map Lin.av))] [] 9 11
      (r.map Lin.av) (markRow (rowF cmLineS) (r.map Lin.av) 1).1 (1 + cntS Lin.cnt r) 26 36000 109 (markRow (rowF cmLineS)) (fun m => ∀ x ∈ m, seLineS x) := by
  have s0 : Sz 1048576 := by unfold Sz; omega
  have s1 := szProject_ok (x := p) s0
  have m0 := szProject_m p _ z0
  have m1 := meas_S (f := fun x n => szLine x n) (c := Lin.cnt) szLine_m z1
  have c0 := p.cnt_nn
  have c1 := cnt_nonneg (f := Lin.cnt) (l := ls) (fun x _ => x.cnt_nn)
  have hc : 0 ≤ cntS Lin.cnt r ∧ cntS Lin.cnt r ≤ 10000000 * 1048576 := hr ▸ trimmed_cnt (B := 10000000) (by omega) hl (by omega) (by omega)
  have hI := impl_TrimProof p ls hp
  have hS := spec_TrimProof p ls hp
  rw [hr] at hI hS
  have hM := cnt_Lin r 1
  refine ⟨⟨by simp, by simp⟩, ?_, by simp, by kernel_rfl, by kernel_rfl, by kernel_rfl, by kernel_rfl, ?_, ?_, ?_, ?_, ⟨sem_LineS, ok_Lin r, Prod.ext rfl hM, by omega⟩, ?_⟩
  · intro x hx
    simp only [List.mem_append, List.mem_cons, List.not_mem_nil, or_false] at hx
    rcases hx with (rfl | rfl) | rfl
    · exact mdS Lin_md ls
    · exact Proj_md p
    · exact mdS Lin_md r
  · (repeat' ((conv => whnf); first | with_reducible refine Br.no (decide_eq_false (by omega)) ?_ | refine gA ?_ | ((with_reducible first | refine gD (fun h => ?_) (fun h => ?_) | refine gE (fun h => ?_) (fun h => ?_)) <;> (try simp only [lm] at h) <;> try have hw := wn h) | refine gC (laws_szProject p _ s0 hp) ?_ | refine gC (laws_szLineS ls _ s1) ?_ | refine gC (laws_toProject p) ?_ | refine gC (laws_toLineS ls) ?_ | refine gC (hS) ?_ | intro _)) <;> (try (conv => whnf))
    (refine And.intro rfl ?_ <;> (repeat' ((conv => whnf) <;> (first | exact trivial | exact rfl | with_reducible refine And.intro ?_ ?_))))
  · (repeat' ((conv => whnf); first | refine gA ?_ | ((with_reducible first | refine gD (fun h => ?_) (fun h => ?_) | refine gE (fun h => ?_) (fun h => ?_)) <;> (try simp only [lm] at h) <;> try have hw := wn h) | refine gC (laws_otoProject p) ?_ | refine gC (laws_otoLineS ls) ?_ | intro _)) <;> (try (conv => whnf))
    (refine And.intro rfl ?_ <;> (repeat' ((conv => whnf) <;> (first | exact trivial | exact rfl | with_reducible refine And.intro ?_ ?_))))
  · (repeat' ((conv => whnf); first | with_reducible refine Br.no rfl ?_ | refine gA ?_ | ((with_reducible first | refine gD (fun h => ?_) (fun h => ?_) | refine gE (fun h => ?_) (fun h => ?_)) <;> (try simp only [lm] at h) <;> try have hw := wn h) | refine gC (laws_toProject p) ?_ | refine gC (laws_toLineS ls) ?_ | refine gC (hI) ?_ | refine gC (laws_eqLineS r) ?_ | refine gC (laws_eqProject p) ?_ | refine gC (laws_eqLineS ls) ?_ | intro _)) <;> (try (conv => whnf))
    (refine And.intro rfl ?_ <;> (repeat' ((conv => whnf) <;> (first | exact trivial | exact rfl | with_reducible refine And.intro ?_ ?_))))
  · rw [show ([(7, true, p.av), (8, false, AV.sl (ls.map Lin.av))] : List Fact).map toS = [(7, .oldref p.sh), (8, .old (.sl (ls.map Lin.sh)))] from by
      simp only [List.map_cons, List.map_nil, toS, cond_true, cond_false]
      rw [Proj.sh_eq, sh_eq Lin.sh_eq]]
    (repeat' ((conv => whnf); first | with_reducible refine Br.no (decide_eq_false (by omega)) ?_ | with_reducible refine Br.no rfl ?_ | refine gA ?_ | ((with_reducible first | refine gD (fun h => ?_) (fun h => ?_) | refine gE (fun h => ?_) (fun h => ?_)) <;> (try simp only [lm] at h) <;> try have hw := wn h) | refine gC (laws_markProject p 1 (by omega)) ?_ | refine gC (laws_markLineS ls _ (by omega)) ?_ | refine gC (laws_eqLineS r) ?_ | intro _)) <;> (try (conv => whnf))
    (refine And.intro rfl ?_ <;> (repeat' ((conv => whnf) <;> (first | exact trivial | exact rfl | with_reducible refine And.intro ?_ ?_))))
  · have hH := laws_heldLineS (r.map Lin.av) 1 (by omega) (ok_Lin r) (by omega)
    rw [hM] at hH
    refine ⟨_, _, _, _, 64, 65, 66, _, rfl, ⟨⟨_, rfl, rfl, rfl, rfl⟩, ⟨_, _, _, _, _, rfl, rfl, rfl, rfl, rfl, rfl, rfl, rfl, rfl, rfl, rfl, rfl, rfl, rfl, rfl⟩⟩, by decide, by simp, by decide, by kernel_rfl, ?_⟩
    (repeat' ((conv => whnf); first | with_reducible refine Br.yes (decide_eq_true rfl) ?_ | with_reducible refine Br.no (decide_eq_false (by omega)) ?_ | with_reducible refine Br.no rfl ?_ | refine gA ?_ | ((with_reducible first | refine gD (fun h => ?_) (fun h => ?_) | refine gE (fun h => ?_) (fun h => ?_)) <;> (try simp only [lm] at h) <;> try have hw := wn h) | refine gC (hH) ?_ | refine gC (laws_toProject p) ?_ | refine gC (laws_toLineS ls) ?_ | refine gC (hI) ?_ | refine gC (laws_eqLineS r) ?_ | intro _)) <;> (try (conv => whnf))
    all_goals exact ⟨rfl, rfl, trivial⟩
theorem law_TrimProof_no (p : Proj) (ls : List Lin) (hp : p.fine) (z : ¬ (0 ≤ szProject p 1048576 ∧ 0 ≤ szS (fun x n => szLine x n) ls (szProject p 1048576))) :
    Con 4 [.d p.av, .d (.sl (ls.map Lin.av))] (.d (.bool true)) := by
  refine con Tryz.func4 rfl rfl Tryz.call4 rfl fun hwf => ?_
  have s0 : Sz 1048576 := by unfold Sz; omega
  have s1 := szProject_ok (x := p) s0
  by_cases z0 : 0 ≤ szProject p 1048576
  · have z1 : ¬ 0 ≤ szS (fun x n => szLine x n) ls (szProject p 1048576) := fun h => z ⟨z0, h⟩
    (repeat' ((conv => whnf); first | with_reducible refine Br.yes (decide_eq_true (by omega)) ?_ | with_reducible refine Br.no (decide_eq_false (by omega)) ?_ | refine gA ?_ | ((with_reducible first | refine gD (fun h => ?_) (fun h => ?_) | refine gE (fun h => ?_) (fun h => ?_)) <;> (try simp only [lm] at h) <;> try have hw := wn h) | refine gC (laws_szProject p _ s0 hp) ?_ | refine gC (laws_szLineS ls _ s1) ?_ | intro _)) <;> (try (conv => whnf))
    exact ⟨rfl, rfl, trivial⟩
  · (repeat' ((conv => whnf); first | with_reducible refine Br.yes (decide_eq_true (by omega)) ?_ | refine gA ?_ | ((with_reducible first | refine gD (fun h => ?_) (fun h => ?_) | refine gE (fun h => ?_) (fun h => ?_)) <;> (try simp only [lm] at h) <;> try have hw := wn h) | refine gC (laws_szProject p _ s0 hp) ?_ | intro _)) <;> (try (conv => whnf))
    exact ⟨rfl, rfl, trivial⟩
theorem law_TrimProof_calls (p : Proj) (ls : List Lin) (hp : p.fine) (hl : ls.length ≤ 1048576) {w : World} {vs : List Value} (hargs : All2 (RepV (fun b => b < w.heap.size) w lim) [p.av, .sl (ls.map Lin.av)] vs) :
    Calls Tryz.prog 4 vs.toArray w fun e w' => e = .returned (.bool true) ∧ Below w.heap.size w w' := by
  by_cases z : 0 ≤ szProject p 1048576 ∧ 0 ≤ szS (fun x n => szLine x n) ls (szProject p 1048576)
  · exact law_lin tabOk (by decide) (by decide) mixed Tryz.func4 rfl (law_TrimProof p ls hp z.1 z.2 hl _ rfl) (by simp only [List.length_cons, List.length_nil]; decide) hargs
  · exact calls_of_con (args := [p.av, .sl (ls.map Lin.av)]) (law_TrimProof_no p ls hp z) hargs
end Go.Proofs.YtepogmnolnlpmaaGreat.Abs
