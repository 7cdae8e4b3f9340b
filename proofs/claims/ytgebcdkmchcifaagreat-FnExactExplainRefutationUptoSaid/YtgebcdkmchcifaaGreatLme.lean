/- How many marks an argument takes: no more than five for each unit of its size. No statement of a claim. -/
import Derived.Test.YtgebcdkmchcifaaGreatLsz
import Derived.Test.YtgebcdkmchcifaaGreatLmk
set_option linter.all false
set_option linter.unusedVariables false
set_option linter.unusedSimpArgs false
namespace Go.Proofs.YtgebcdkmchcifaaGreat.Abs
open Go.Proofs

theorem szB_nn {r : Int} {f : Int → Int} (h : 0 ≤ szB r f) : 0 ≤ r ∧ szB r f = f r := by
  unfold szB at *; split at h
  · omega
  · rename_i h0; exact ⟨by omega, if_neg h0⟩
theorem szN_nn {c : Nat} {n : Int} (h : 0 ≤ szN c n) : szN c n = n - c := by
  unfold szN at *; split at h
  · omega
  · rename_i h0; exact if_neg h0
theorem meas_L {α : Type} {f : α → Int → Int} {c : α → Int} (hf : ∀ x n, 0 ≤ f x n → c x ≤ 5 + 5 * (n - f x n) ∧ f x n ≤ n) : ∀ (l : List α) (n : Int), 0 ≤ szL f l n → cntS c l ≤ 5 * l.length + 5 * (n - szL f l n) ∧ szL f l n ≤ n
  | [], n, _ => by simp [cntS, szL]
  | x :: l, n, h => by
    simp only [szL] at h ⊢
    obtain ⟨h1, h2⟩ := szB_nn h
    rw [h2] at h ⊢
    obtain ⟨h3, h4⟩ := hf x n h1
    obtain ⟨h5, h6⟩ := meas_L hf l (f x n) h
    simp only [cntS, List.length_cons]
    push_cast
    omega
theorem meas_S {α : Type} {f : α → Int → Int} {c : α → Int} (hf : ∀ x n, 0 ≤ f x n → c x ≤ 5 + 5 * (n - f x n) ∧ f x n ≤ n) {l : List α} {n : Int} (h : 0 ≤ szS f l n) : cntS c l ≤ 5 * (n - szS f l n) ∧ szS f l n ≤ n := by
  unfold szS at h ⊢
  obtain ⟨h1, h2⟩ := szB_nn h
  rw [h2] at h ⊢
  have := szN_nn h1
  obtain ⟨h5, h6⟩ := meas_L hf l _ h
  omega
theorem cnt_const {α : Type} {k : Int} : ∀ (l : List α), cntS (fun _ => k) l = k * l.length
  | [] => by simp [cntS]
  | x :: l => by simp only [cntS, cnt_const l, List.length_cons]; push_cast; rw [Int.mul_add]; omega
theorem cnt_lits (l : List Lit) : cntS Lit.cnt l = 3 * l.length := cnt_const l
theorem cnt_steps (l : List Step) : cntS Step.cnt l = 2 * l.length := cnt_const l
theorem cnt_links (l : List Link) : cntS Link.cnt l = 4 * l.length := cnt_const l
theorem szMode_m (x : Mode) (n : Int) (h : 0 ≤ szMode x n) : x.cnt ≤ 5 + 5 * (n - szMode x n) ∧ szMode x n ≤ n := by
  unfold szMode at h ⊢
  obtain ⟨h1, e1⟩ := szB_nn h; rw [e1] at h ⊢; (try dsimp only at h ⊢)
  obtain ⟨h2, e2⟩ := szB_nn h; rw [e2] at h ⊢; (try dsimp only at h ⊢)
  have := szN_nn h1; have := szN_nn h2
  unfold Mode.cnt; omega
theorem szActivity_m (x : Activ) (n : Int) (h : 0 ≤ szActivity x n) : x.cnt ≤ 5 + 5 * (n - szActivity x n) ∧ szActivity x n ≤ n := by
  unfold szActivity at h ⊢
  obtain ⟨h1, e1⟩ := szB_nn h; rw [e1] at h ⊢; (try dsimp only at h ⊢)
  obtain ⟨h2, e2⟩ := szB_nn h; rw [e2] at h ⊢; (try dsimp only at h ⊢)
  have := szN_nn h1; have := meas_S (f := fun x n => szMode x n) (c := Mode.cnt) szMode_m h2
  unfold Activ.cnt; omega
theorem szRow_m (x : List Int) (n : Int) (h : 0 ≤ szN x.length n) : (x.length : Int) ≤ 5 + 5 * (n - szN x.length n) ∧ szN x.length n ≤ n := by have := szN_nn h; omega
theorem szResource_m (x : Resrc) (n : Int) (h : 0 ≤ szResource x n) : x.cnt ≤ 5 + 5 * (n - szResource x n) ∧ szResource x n ≤ n := by
  unfold szResource at h ⊢
  obtain ⟨h1, e1⟩ := szB_nn h; rw [e1] at h ⊢; (try dsimp only at h ⊢)
  obtain ⟨h2, e2⟩ := szB_nn h; rw [e2] at h ⊢; (try dsimp only at h ⊢)
  have := szN_nn h1; have := meas_S (f := fun (x : List Int) n => szN x.length n) (c := fun x : List Int => (x.length : Int)) szRow_m h2
  have := cnt_steps x.steps
  unfold Resrc.cnt; omega
theorem szProject_m (x : Proj) (n : Int) (h : 0 ≤ szProject x n) : x.cnt ≤ 5 * (n - szProject x n) ∧ szProject x n ≤ n := by
  unfold szProject at h ⊢
  obtain ⟨h1, e1⟩ := szB_nn h; rw [e1] at h ⊢; (try dsimp only at h ⊢)
  obtain ⟨h2, e2⟩ := szB_nn h; rw [e2] at h ⊢; (try dsimp only at h ⊢)
  obtain ⟨h3, e3⟩ := szB_nn h; rw [e3] at h ⊢; (try dsimp only at h ⊢)
  obtain ⟨h4, e4⟩ := szB_nn h; rw [e4] at h ⊢; (try dsimp only at h ⊢)
  have := meas_S (f := fun x n => szActivity x n) (c := Activ.cnt) szActivity_m h1; have := szN_nn h2; have := meas_S (f := fun x n => szResource x n) (c := Resrc.cnt) szResource_m h3; have := szN_nn h4
  have := cnt_links x.links
  unfold Proj.cnt; omega
theorem szDomain_m (x : Dom) (n : Int) (h : 0 ≤ szDomain x n) : x.cnt ≤ 5 * (n - szDomain x n) ∧ szDomain x n ≤ n := by
  unfold szDomain at h ⊢
  obtain ⟨h1, e1⟩ := szB_nn h; rw [e1] at h ⊢; (try dsimp only at h ⊢)
  obtain ⟨h2, e2⟩ := szB_nn h; rw [e2] at h ⊢; (try dsimp only at h ⊢)
  obtain ⟨h3, e3⟩ := szB_nn h; rw [e3] at h ⊢; (try dsimp only at h ⊢)
  have := szN_nn h1; have := szN_nn h2; have := meas_S (f := fun (x : List Int) n => szN x.length n) (c := fun x : List Int => (x.length : Int)) szRow_m h3
  unfold Dom.cnt; omega
theorem mdS {α : Type} {f : α → AV} (h : ∀ x, (f x).md false = true) (l : List α) : (AV.sl (l.map f)).md false = true := by simp only [AV.md]; exact mds_map h l
theorem Int_md (n : Int) : (i64 n).md false = true := rfl
theorem ints_md (l : List Int) : (ints l).md false = true := mdS Int_md l
theorem Lit_md (x : Lit) : x.av.md false = true := rfl
theorem Step_md (x : Step) : x.av.md false = true := rfl
theorem Link_md (x : Link) : x.av.md false = true := rfl
theorem lits_md (l : List Lit) : (lits l).md false = true := mdS Lit_md l
theorem and2 {a b : Bool} (h : a = true) (k : b = true) : (a && b) = true := by rw [h, k]; rfl
theorem Mode_md (x : Mode) : x.av.md false = true := by simp only [AV.md, AV.mds]; exact and2 rfl (and2 (ints_md x.use) (and2 (ints_md x.con) rfl))
theorem Activ_md (x : Activ) : x.av.md false = true := by simp only [AV.md, AV.mds]; exact and2 rfl (and2 rfl (and2 (mdS Mode_md x.modes) rfl))
theorem Resrc_md (x : Resrc) : x.av.md false = true := by simp only [AV.md, AV.mds]; exact and2 (mdS Step_md x.steps) (and2 (mdS ints_md x.setup) rfl)
theorem Proj_md (x : Proj) : x.av.md false = true := by simp only [AV.md, AV.mds]; exact and2 rfl (and2 (mdS Activ_md x.acts) (and2 (mdS Link_md x.links) (and2 (mdS Resrc_md x.ress) (and2 (ints_md x.stocks) rfl))))
theorem Dom_md (x : Dom) : x.av.md false = true := by simp only [AV.md, AV.mds]; exact and2 (ints_md x.lo) (and2 (ints_md x.hi) (and2 (mdS ints_md x.modes) rfl))
theorem Lin_md (x : Lin) : x.av.md false = true := by simp only [AV.md, AV.mds]; exact and2 rfl (and2 rfl (and2 rfl (and2 rfl (and2 rfl (and2 (lits_md x.clause) rfl)))))
end Go.Proofs.YtgebcdkmchcifaaGreat.Abs
