/- Contracts of the laws' own held.. on what mark.. has written. No statement of a claim. -/
import Derived.Test.YtgebcdkmchcifaaGreatC1
import Derived.Test.YtgebcdkmchcifaaGreatPlain
set_option linter.all false
set_option linter.unusedVariables false
set_option linter.unusedSimpArgs false
set_option maxRecDepth 20000
set_option maxHeartbeats 4000000
namespace Go.Proofs.YtgebcdkmchcifaaGreat.Abs
open Go.Proofs


/-- What mark.. writes into a row of numbers. -/
def markI : Int → List Int → List Int
  | _, [] => []
  | n, _ :: l => n :: markI (n + 1) l
theorem markI_length : ∀ (n : Int) (l : List Int), (markI n l).length = l.length
  | _, [] => rfl
  | n, _ :: l => by simp only [markI, List.length_cons, markI_length (n + 1) l]
theorem markI_get : ∀ (n : Int) (l : List Int) (k : Nat), k < l.length → (markI n l)[k]? = some (n + k)
  | _, [], k, h => by simp at h
  | n, _ :: l, 0, _ => by simp [markI]
  | n, _ :: l, k + 1, h => by
    simp only [markI, List.getElem?_cons_succ]
    rw [markI_get (n + 1) l k (by simpa using h)]
    congr 1; push_cast; omega

/-- What mark.. writes into a row of literals. -/
def markL : Int → List Lit → List Lit
  | _, [] => []
  | n, _ :: l => ⟨n, n + 1, n + 2⟩ :: markL (n + 3) l
theorem markL_length : ∀ (n : Int) (l : List Lit), (markL n l).length = l.length
  | _, [] => rfl
  | n, _ :: l => by simp only [markL, List.length_cons, markL_length (n + 3) l]
theorem markL_get : ∀ (n : Int) (l : List Lit) (k : Nat), k < l.length → (markL n l)[k]? = some ⟨n + 3 * k, n + 3 * k + 1, n + 3 * k + 2⟩
  | _, [], k, h => by simp at h
  | n, _ :: l, 0, _ => by simp [markL]
  | n, _ :: l, k + 1, h => by
    simp only [markL, List.getElem?_cons_succ]
    rw [markL_get (n + 3) l k (by simpa using h)]
    congr 1; congr 1 <;> push_cast <;> omega

theorem laws_heldLiteralS (l : List Lit) (n : Int) (hn : 0 ≤ n ∧ n + 3 * l.length ≤ 4611686018427387904) : Con 20 [.d (lits (markL n l)), .d (i64 n)] (.d (i64 (n + 3 * l.length))) := by
  refine con Tryz.func20 rfl rfl Tryz.call20 rfl fun hwf => ?_
  simp only [ARs.wf, AR.wf, AV.wf, AV.wfs, List.length_map, lim, markL_length] at hwf
  have hlen := markL_length n l
  (repeat' ((conv => whnf); first | (with_reducible first | refine Br.ff ?_ | refine Br.tt ?_ | refine Br.not ?_ | refine Br.yes (by assumption) ?_ | refine Br.no (by assumption) ?_ | (refine Br.dec (fun h => ?_) (fun h => ?_) <;> try simp only [lm] at h)) | ((with_reducible refine Br.mk (fun h => ?_) (fun h => ?_)) <;> (try simp only [lm] at h) <;> (first | have hw := within_iff.1 h | have hw := within_no.1 h | skip)) | with_reducible refine Arith.ok (by first | omega | (simp only [lm]; omega)) ?_ | with_reducible refine Idx.at (by first | omega | (simp only [lm] at *; omega)) (fun x hx => ?_) | with_reducible refine Idx.of_map (by first | omega | (simp only [lm] at *; omega)) (fun j x hj hx => ?_) | refine VC.mk (by first | omega | (simp only [lm]; omega)) ?_ | intro _)) <;> (try (conv => whnf))
  refine loopF [0] [] [] ?_
  (conv => whnf)
  refine LoopC.mk ((Nat) × (Int)) (fun ⟨k, m⟩ => (k ≤ l.length) ∧ (m = n + 3 * k)) (fun ⟨k, m⟩ => [(5, .data (i64 k)), (1, .data (i64 m))]) (fun _ => []) (fun _ => []) (fun ⟨k, m⟩ => l.length - k) ⟨0, n⟩ ?_ ?_ ?_
  rotate_left
  · (repeat' ((conv => whnf) <;> (first | exact trivial | exact rfl | with_reducible refine And.intro ?_ ?_)))
  rotate_left
  · exact ⟨Nat.zero_le _, by simp⟩
  rintro ⟨k, m⟩ ⟨hk, hm⟩
  by_cases hlt : k < l.length
  · have hx := markL_get n l k hlt
    (repeat' ((conv => whnf); first | with_reducible refine Idx.got hx rfl ?_ | (with_reducible first | refine Br.ff ?_ | refine Br.tt ?_ | refine Br.not ?_ | refine Br.yes (by assumption) ?_ | refine Br.no (by assumption) ?_ | (refine Br.dec (fun h => ?_) (fun h => ?_) <;> try simp only [lm] at h)) | ((with_reducible refine Br.mk (fun h => ?_) (fun h => ?_)) <;> (try simp only [lm] at h) <;> (first | have hw := within_iff.1 h | have hw := within_no.1 h | skip)) | with_reducible refine Arith.ok (by first | omega | (simp only [lm]; omega)) ?_ | with_reducible refine Idx.at (by first | omega | (simp only [lm] at *; omega)) (fun x hx => ?_) | with_reducible refine Idx.of_map (by first | omega | (simp only [lm] at *; omega)) (fun j x hj hx => ?_) | refine VC.mk (by first | omega | (simp only [lm]; omega)) ?_ | intro _)) <;> (try (conv => whnf))
    all_goals first
      | (exfalso; omega)
      | (apply Exists.intro (⟨k + 1, _⟩)
         refine ⟨?_, rfl, ?_, ?_⟩
         rotate_left
         · (repeat' ((conv => whnf) <;> (first | exact trivial | exact rfl | with_reducible refine And.intro ?_ ?_)))
         · (try dsimp only); (try simp only [List.length_map]); omega
         exact ⟨hlt, by omega⟩)
  · (repeat' ((conv => whnf); first | (exfalso; omega) | (with_reducible first | refine Br.ff ?_ | refine Br.tt ?_ | refine Br.not ?_ | refine Br.yes (by assumption) ?_ | refine Br.no (by assumption) ?_ | (refine Br.dec (fun h => ?_) (fun h => ?_) <;> try simp only [lm] at h)) | ((with_reducible refine Br.mk (fun h => ?_) (fun h => ?_)) <;> (try simp only [lm] at h) <;> (first | have hw := within_iff.1 h | have hw := within_no.1 h | skip)) | with_reducible refine Arith.ok (by first | omega | (simp only [lm]; omega)) ?_ | with_reducible refine Idx.at (by first | omega | (simp only [lm] at *; omega)) (fun x hx => ?_) | with_reducible refine Idx.of_map (by first | omega | (simp only [lm] at *; omega)) (fun j x hj hx => ?_) | refine VC.mk (by first | omega | (simp only [lm]; omega)) ?_ | intro _)) <;> (try (conv => whnf))
    refine ⟨?_, rfl, trivial⟩
    have : k = l.length := by omega
    rw [hm, this]
end Go.Proofs.YtgebcdkmchcifaaGreat.Abs
