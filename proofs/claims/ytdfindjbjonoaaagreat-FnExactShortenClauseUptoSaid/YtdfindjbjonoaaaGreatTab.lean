/- The table of the types of this seat: what the abstract layer must know of them, by closed facts. Printed by gentab.py. No statement of a claim. -/
import Derived.Test.YtdfindjbjonoaaaGreatLayB
import Derived.Test.YtdfindjbjonoaaaGreatProg
import Derived.KernelRfl
set_option linter.all false
namespace Go.Proofs.YtdfindjbjonoaaaGreat.Abs
open Go.Proofs
def tree : Tree := (.node 94 ⟨(.struct [(0, 3), (1, 3), (2, 3), (3, 3)]), 4, 32, [.int .i64, .int .i64, .int .i64, .int .i64], true⟩ (.node 36 ⟨(.slice 202), 1, 24, [.nilsl], false⟩ (.node 24 ⟨(.slice 192), 1, 24, [.nilsl], false⟩ (.node 5 ⟨(.int .u8), 1, 1, [.int .u8], false⟩ (.node 3 ⟨(.int .i64), 1, 8, [.int .i64], false⟩ (.node 2 ⟨(.int .i64), 1, 8, [.int .i64], false⟩ .leaf .leaf) (.node 4 ⟨.bool, 1, 1, [.bool], false⟩ .leaf .leaf)) (.node 22 ⟨(.slice 188), 1, 24, [.nilsl], false⟩ (.node 9 ⟨.str, 1, 16, [.str], false⟩ .leaf .leaf) (.node 23 ⟨(.slice 204), 1, 24, [.nilsl], false⟩ .leaf .leaf))) (.node 29 ⟨(.struct [(0, 3), (1, 3), (2, 3), (3, 3)]), 4, 32, [.int .i64, .int .i64, .int .i64, .int .i64], true⟩ (.node 26 ⟨(.struct [(0, 3), (1, 22), (2, 23), (3, 24), (4, 25)]), 5, 104, [.int .i64, .nilsl, .nilsl, .nilsl, .nilsl], false⟩ (.node 25 ⟨(.slice 3), 1, 24, [.nilsl], false⟩ .leaf .leaf) (.node 27 ⟨(.struct [(0, 3), (1, 22), (2, 23), (3, 24), (4, 25)]), 5, 104, [.int .i64, .nilsl, .nilsl, .nilsl, .nilsl], false⟩ .leaf .leaf)) (.node 33 ⟨(.slice 63), 1, 24, [.nilsl], false⟩ (.node 30 ⟨(.slice 60), 1, 24, [.nilsl], false⟩ .leaf .leaf) (.node 35 ⟨(.slice 199), 1, 24, [.nilsl], false⟩ .leaf .leaf)))) (.node 60 ⟨(.struct [(0, 3), (1, 3), (2, 3)]), 3, 24, [.int .i64, .int .i64, .int .i64], true⟩ (.node 41 ⟨(.struct [(0, 3), (1, 3), (2, 3), (3, 3)]), 4, 32, [.int .i64, .int .i64, .int .i64, .int .i64], true⟩ (.node 38 ⟨(.struct [(0, 3), (1, 35), (2, 36), (3, 37), (4, 25)]), 5, 104, [.int .i64, .nilsl, .nilsl, .nilsl, .nilsl], false⟩ (.node 37 ⟨(.slice 207), 1, 24, [.nilsl], false⟩ .leaf .leaf) (.node 39 ⟨(.struct [(0, 3), (1, 35), (2, 36), (3, 37), (4, 25)]), 5, 104, [.int .i64, .nilsl, .nilsl, .nilsl, .nilsl], false⟩ .leaf .leaf)) (.node 51 ⟨(.struct [(0, 25), (1, 25), (2, 49)]), 3, 72, [.nilsl, .nilsl, .nilsl], false⟩ (.node 49 ⟨(.slice 25), 1, 24, [.nilsl], false⟩ .leaf .leaf) (.node 54 ⟨(.struct [(0, 25), (1, 25), (2, 49)]), 3, 72, [.nilsl, .nilsl, .nilsl], false⟩ .leaf .leaf))) (.node 74 ⟨(.slice 143), 1, 24, [.nilsl], false⟩ (.node 66 ⟨(.struct [(0, 63), (3, 41), (7, 33)]), 8, 80, [.int .i64, .int .i64, .int .i64, .int .i64, .int .i64, .int .i64, .int .i64, .nilsl], false⟩ (.node 63 ⟨(.struct [(0, 3), (1, 3), (2, 3)]), 3, 24, [.int .i64, .int .i64, .int .i64], true⟩ .leaf .leaf) (.node 67 ⟨(.struct [(0, 63), (3, 41), (7, 33)]), 8, 80, [.int .i64, .int .i64, .int .i64, .int .i64, .int .i64, .int .i64, .int .i64, .nilsl], false⟩ .leaf .leaf)) (.node 85 ⟨(.struct [(0, 25), (1, 25)]), 2, 48, [.nilsl, .nilsl], false⟩ (.node 77 ⟨(.slice 149), 1, 24, [.nilsl], false⟩ .leaf .leaf) (.node 92 ⟨(.struct [(0, 25), (1, 25)]), 2, 48, [.nilsl, .nilsl], false⟩ .leaf .leaf))))) (.node 197 ⟨(.slice 243), 1, 24, [.nilsl], false⟩ (.node 154 ⟨(.struct [(0, 85), (2, 25)]), 3, 72, [.nilsl, .nilsl, .nilsl], false⟩ (.node 143 ⟨(.struct [(0, 3), (1, 29), (5, 30)]), 6, 64, [.int .i64, .int .i64, .int .i64, .int .i64, .int .i64, .nilsl], false⟩ (.node 136 ⟨(.slice 41), 1, 24, [.nilsl], false⟩ (.node 98 ⟨(.struct [(0, 3), (1, 3), (2, 3), (3, 3)]), 4, 32, [.int .i64, .int .i64, .int .i64, .int .i64], true⟩ .leaf .leaf) (.node 142 ⟨(.struct [(0, 3), (1, 29), (5, 30)]), 6, 64, [.int .i64, .int .i64, .int .i64, .int .i64, .int .i64, .nilsl], false⟩ .leaf .leaf)) (.node 149 ⟨(.struct [(0, 3), (1, 41), (5, 33)]), 6, 64, [.int .i64, .int .i64, .int .i64, .int .i64, .int .i64, .nilsl], false⟩ (.node 148 ⟨(.struct [(0, 3), (1, 41), (5, 33)]), 6, 64, [.int .i64, .int .i64, .int .i64, .int .i64, .int .i64, .nilsl], false⟩ .leaf .leaf) (.node 153 ⟨(.struct [(0, 85), (2, 25)]), 3, 72, [.nilsl, .nilsl, .nilsl], false⟩ .leaf .leaf))) (.node 188 ⟨(.struct [(0, 9), (1, 3), (2, 186)]), 3, 48, [.str, .int .i64, .nilsl], false⟩ (.node 186 ⟨(.slice 317), 1, 24, [.nilsl], false⟩ (.node 180 ⟨(.slice 4), 1, 24, [.nilsl], false⟩ .leaf .leaf) (.node 187 ⟨(.struct [(0, 9), (1, 3), (2, 186)]), 3, 48, [.str, .int .i64, .nilsl], false⟩ .leaf .leaf)) (.node 191 ⟨(.struct [(0, 190), (1, 49)]), 2, 48, [.nilsl, .nilsl], false⟩ (.node 190 ⟨(.slice 320), 1, 24, [.nilsl], false⟩ .leaf .leaf) (.node 192 ⟨(.struct [(0, 190), (1, 49)]), 2, 48, [.nilsl, .nilsl], false⟩ .leaf .leaf)))) (.node 231 ⟨(.struct [(0, 3), (1, 3)]), 2, 16, [.int .i64, .int .i64], true⟩ (.node 204 ⟨(.struct [(0, 3), (1, 3), (2, 4), (3, 3)]), 4, 32, [.int .i64, .int .i64, .bool, .int .i64], true⟩ (.node 199 ⟨(.struct [(0, 9), (1, 3), (2, 197)]), 3, 48, [.str, .int .i64, .nilsl], false⟩ (.node 198 ⟨(.struct [(0, 9), (1, 3), (2, 197)]), 3, 48, [.str, .int .i64, .nilsl], false⟩ .leaf .leaf) (.node 202 ⟨(.struct [(0, 3), (1, 3), (2, 4), (3, 3)]), 4, 32, [.int .i64, .int .i64, .bool, .int .i64], true⟩ .leaf .leaf)) (.node 206 ⟨(.struct [(0, 205), (1, 49)]), 2, 48, [.nilsl, .nilsl], false⟩ (.node 205 ⟨(.slice 231), 1, 24, [.nilsl], false⟩ .leaf .leaf) (.node 207 ⟨(.struct [(0, 205), (1, 49)]), 2, 48, [.nilsl, .nilsl], false⟩ .leaf .leaf))) (.node 312 ⟨(.slice 9), 1, 24, [.nilsl], false⟩ (.node 269 ⟨(.slice 5), 1, 24, [.nilsl], false⟩ (.node 243 ⟨(.struct [(0, 3), (1, 25), (2, 25)]), 3, 56, [.int .i64, .nilsl, .nilsl], false⟩ .leaf .leaf) (.node 290 ⟨(.slice 33), 1, 24, [.nilsl], false⟩ .leaf .leaf)) (.node 317 ⟨(.struct [(0, 3), (1, 25), (2, 25)]), 3, 56, [.int .i64, .nilsl, .nilsl], false⟩ (.node 314 ⟨(.slice 180), 1, 24, [.nilsl], false⟩ .leaf .leaf) (.node 320 ⟨(.struct [(0, 3), (1, 3)]), 2, 16, [.int .i64, .int .i64], true⟩ .leaf .leaf))))))
def tab : Nat → Ty := tree.find
theorem ty2 : TyOk Tryz.prog tab ⟨(.int .i64), 1, 8, [.int .i64], false⟩ 2 :=
  ty_ok (i := Tryz.t2) (z := .int .i64 0) (d := (.int .i64)) (by kernel_rfl) (by kernel_rfl) (by kernel_rfl) (by kernel_rfl) (by kernel_rfl) (by decide) (by decide) (by decide) (by decide) (nofun) (by kernel_rfl) (rfl)
theorem ty3 : TyOk Tryz.prog tab ⟨(.int .i64), 1, 8, [.int .i64], false⟩ 3 :=
  ty_ok (i := Tryz.t3) (z := .int .i64 0) (d := (.int .i64)) (by kernel_rfl) (by kernel_rfl) (by kernel_rfl) (by kernel_rfl) (by kernel_rfl) (by decide) (by decide) (by decide) (by decide) (nofun) (by kernel_rfl) (rfl)
theorem ty4 : TyOk Tryz.prog tab ⟨.bool, 1, 1, [.bool], false⟩ 4 :=
  ty_ok (i := Tryz.t4) (z := .bool false) (d := .bool) (by kernel_rfl) (by kernel_rfl) (by kernel_rfl) (by kernel_rfl) (by kernel_rfl) (by decide) (by decide) (by decide) (by decide) (nofun) (by kernel_rfl) (rfl)
theorem ty5 : TyOk Tryz.prog tab ⟨(.int .u8), 1, 1, [.int .u8], false⟩ 5 :=
  ty_ok (i := Tryz.t5) (z := .int .u8 0) (d := (.int .u8)) (by kernel_rfl) (by kernel_rfl) (by kernel_rfl) (by kernel_rfl) (by kernel_rfl) (by decide) (by decide) (by decide) (by decide) (nofun) (by kernel_rfl) (rfl)
theorem ty9 : TyOk Tryz.prog tab ⟨.str, 1, 16, [.str], false⟩ 9 :=
  ty_ok (i := Tryz.t9) (z := .string ⟨#[]⟩) (d := .string) (by kernel_rfl) (by kernel_rfl) (by kernel_rfl) (by kernel_rfl) (by kernel_rfl) (by decide) (by decide) (by decide) (by decide) (nofun) (by kernel_rfl) (rfl)
theorem ty22 : TyOk Tryz.prog tab ⟨(.slice 188), 1, 24, [.nilsl], false⟩ 22 :=
  ty_ok (i := Tryz.t22) (z := .slice none 0 0) (d := (.slice 188)) (by kernel_rfl) (by kernel_rfl) (by kernel_rfl) (by kernel_rfl) (by kernel_rfl) (by decide) (by decide) (by decide) (by decide) (nofun) (by kernel_rfl) (rfl)
theorem ty23 : TyOk Tryz.prog tab ⟨(.slice 204), 1, 24, [.nilsl], false⟩ 23 :=
  ty_ok (i := Tryz.t23) (z := .slice none 0 0) (d := (.slice 204)) (by kernel_rfl) (by kernel_rfl) (by kernel_rfl) (by kernel_rfl) (by kernel_rfl) (by decide) (by decide) (by decide) (by decide) (nofun) (by kernel_rfl) (rfl)
theorem ty24 : TyOk Tryz.prog tab ⟨(.slice 192), 1, 24, [.nilsl], false⟩ 24 :=
  ty_ok (i := Tryz.t24) (z := .slice none 0 0) (d := (.slice 192)) (by kernel_rfl) (by kernel_rfl) (by kernel_rfl) (by kernel_rfl) (by kernel_rfl) (by decide) (by decide) (by decide) (by decide) (nofun) (by kernel_rfl) (rfl)
theorem ty25 : TyOk Tryz.prog tab ⟨(.slice 3), 1, 24, [.nilsl], false⟩ 25 :=
  ty_ok (i := Tryz.t25) (z := .slice none 0 0) (d := (.slice 3)) (by kernel_rfl) (by kernel_rfl) (by kernel_rfl) (by kernel_rfl) (by kernel_rfl) (by decide) (by decide) (by decide) (by decide) (nofun) (by kernel_rfl) (rfl)
theorem ty26 : TyOk Tryz.prog tab ⟨(.struct [(0, 3), (1, 22), (2, 23), (3, 24), (4, 25)]), 5, 104, [.int .i64, .nilsl, .nilsl, .nilsl, .nilsl], false⟩ 26 :=
  ty_ok (i := Tryz.t26) (z := .agg #[.int .i64 0, .slice none 0 0, .slice none 0 0, .slice none 0 0, .slice none 0 0]) (d := (.struct (Tryz.prog.fieldsOf 26))) (by kernel_rfl) (by kernel_rfl) (by kernel_rfl) (by kernel_rfl) (by kernel_rfl) (by decide) (by decide) (by decide) (by decide) (nofun) (by kernel_rfl) (⟨_, rfl, by kernel_rfl, by decide⟩)
theorem ty27 : TyOk Tryz.prog tab ⟨(.struct [(0, 3), (1, 22), (2, 23), (3, 24), (4, 25)]), 5, 104, [.int .i64, .nilsl, .nilsl, .nilsl, .nilsl], false⟩ 27 :=
  ty_ok (i := Tryz.t27) (z := .agg #[.int .i64 0, .slice none 0 0, .slice none 0 0, .slice none 0 0, .slice none 0 0]) (d := (.struct (Tryz.prog.fieldsOf 27))) (by kernel_rfl) (by kernel_rfl) (by kernel_rfl) (by kernel_rfl) (by kernel_rfl) (by decide) (by decide) (by decide) (by decide) (nofun) (by kernel_rfl) (⟨_, rfl, by kernel_rfl, by decide⟩)
theorem eqn29 : ∀ f ∈ Tryz.prog.fieldsOf 29, f.name ≠ "_" := by
  have h : ((Tryz.prog.fieldsOf 29).toList.all fun f => f.name != "_") = true := by kernel_rfl
  intro f hf
  have := List.all_eq_true.1 h f (by simpa using hf)
  simpa using this
theorem ty29 : TyOk Tryz.prog tab ⟨(.struct [(0, 3), (1, 3), (2, 3), (3, 3)]), 4, 32, [.int .i64, .int .i64, .int .i64, .int .i64], true⟩ 29 :=
  ty_ok (i := Tryz.t29) (z := .agg #[.int .i64 0, .int .i64 0, .int .i64 0, .int .i64 0]) (d := (.struct (Tryz.prog.fieldsOf 29))) (by kernel_rfl) (by kernel_rfl) (by kernel_rfl) (by kernel_rfl) (by kernel_rfl) (by decide) (by decide) (by decide) (by decide) (fun _ => ⟨by kernel_rfl, by kernel_rfl, eqn29⟩) (by kernel_rfl) (⟨_, rfl, by kernel_rfl, by decide⟩)
theorem ty30 : TyOk Tryz.prog tab ⟨(.slice 60), 1, 24, [.nilsl], false⟩ 30 :=
  ty_ok (i := Tryz.t30) (z := .slice none 0 0) (d := (.slice 60)) (by kernel_rfl) (by kernel_rfl) (by kernel_rfl) (by kernel_rfl) (by kernel_rfl) (by decide) (by decide) (by decide) (by decide) (nofun) (by kernel_rfl) (rfl)
theorem ty33 : TyOk Tryz.prog tab ⟨(.slice 63), 1, 24, [.nilsl], false⟩ 33 :=
  ty_ok (i := Tryz.t33) (z := .slice none 0 0) (d := (.slice 63)) (by kernel_rfl) (by kernel_rfl) (by kernel_rfl) (by kernel_rfl) (by kernel_rfl) (by decide) (by decide) (by decide) (by decide) (nofun) (by kernel_rfl) (rfl)
theorem ty35 : TyOk Tryz.prog tab ⟨(.slice 199), 1, 24, [.nilsl], false⟩ 35 :=
  ty_ok (i := Tryz.t35) (z := .slice none 0 0) (d := (.slice 199)) (by kernel_rfl) (by kernel_rfl) (by kernel_rfl) (by kernel_rfl) (by kernel_rfl) (by decide) (by decide) (by decide) (by decide) (nofun) (by kernel_rfl) (rfl)
theorem ty36 : TyOk Tryz.prog tab ⟨(.slice 202), 1, 24, [.nilsl], false⟩ 36 :=
  ty_ok (i := Tryz.t36) (z := .slice none 0 0) (d := (.slice 202)) (by kernel_rfl) (by kernel_rfl) (by kernel_rfl) (by kernel_rfl) (by kernel_rfl) (by decide) (by decide) (by decide) (by decide) (nofun) (by kernel_rfl) (rfl)
theorem ty37 : TyOk Tryz.prog tab ⟨(.slice 207), 1, 24, [.nilsl], false⟩ 37 :=
  ty_ok (i := Tryz.t37) (z := .slice none 0 0) (d := (.slice 207)) (by kernel_rfl) (by kernel_rfl) (by kernel_rfl) (by kernel_rfl) (by kernel_rfl) (by decide) (by decide) (by decide) (by decide) (nofun) (by kernel_rfl) (rfl)
theorem ty38 : TyOk Tryz.prog tab ⟨(.struct [(0, 3), (1, 35), (2, 36), (3, 37), (4, 25)]), 5, 104, [.int .i64, .nilsl, .nilsl, .nilsl, .nilsl], false⟩ 38 :=
  ty_ok (i := Tryz.t38) (z := .agg #[.int .i64 0, .slice none 0 0, .slice none 0 0, .slice none 0 0, .slice none 0 0]) (d := (.struct (Tryz.prog.fieldsOf 38))) (by kernel_rfl) (by kernel_rfl) (by kernel_rfl) (by kernel_rfl) (by kernel_rfl) (by decide) (by decide) (by decide) (by decide) (nofun) (by kernel_rfl) (⟨_, rfl, by kernel_rfl, by decide⟩)
theorem ty39 : TyOk Tryz.prog tab ⟨(.struct [(0, 3), (1, 35), (2, 36), (3, 37), (4, 25)]), 5, 104, [.int .i64, .nilsl, .nilsl, .nilsl, .nilsl], false⟩ 39 :=
  ty_ok (i := Tryz.t39) (z := .agg #[.int .i64 0, .slice none 0 0, .slice none 0 0, .slice none 0 0, .slice none 0 0]) (d := (.struct (Tryz.prog.fieldsOf 39))) (by kernel_rfl) (by kernel_rfl) (by kernel_rfl) (by kernel_rfl) (by kernel_rfl) (by decide) (by decide) (by decide) (by decide) (nofun) (by kernel_rfl) (⟨_, rfl, by kernel_rfl, by decide⟩)
theorem eqn41 : ∀ f ∈ Tryz.prog.fieldsOf 41, f.name ≠ "_" := by
  have h : ((Tryz.prog.fieldsOf 41).toList.all fun f => f.name != "_") = true := by kernel_rfl
  intro f hf
  have := List.all_eq_true.1 h f (by simpa using hf)
  simpa using this
theorem ty41 : TyOk Tryz.prog tab ⟨(.struct [(0, 3), (1, 3), (2, 3), (3, 3)]), 4, 32, [.int .i64, .int .i64, .int .i64, .int .i64], true⟩ 41 :=
  ty_ok (i := Tryz.t41) (z := .agg #[.int .i64 0, .int .i64 0, .int .i64 0, .int .i64 0]) (d := (.struct (Tryz.prog.fieldsOf 41))) (by kernel_rfl) (by kernel_rfl) (by kernel_rfl) (by kernel_rfl) (by kernel_rfl) (by decide) (by decide) (by decide) (by decide) (fun _ => ⟨by kernel_rfl, by kernel_rfl, eqn41⟩) (by kernel_rfl) (⟨_, rfl, by kernel_rfl, by decide⟩)
theorem ty49 : TyOk Tryz.prog tab ⟨(.slice 25), 1, 24, [.nilsl], false⟩ 49 :=
  ty_ok (i := Tryz.t49) (z := .slice none 0 0) (d := (.slice 25)) (by kernel_rfl) (by kernel_rfl) (by kernel_rfl) (by kernel_rfl) (by kernel_rfl) (by decide) (by decide) (by decide) (by decide) (nofun) (by kernel_rfl) (rfl)
theorem ty51 : TyOk Tryz.prog tab ⟨(.struct [(0, 25), (1, 25), (2, 49)]), 3, 72, [.nilsl, .nilsl, .nilsl], false⟩ 51 :=
  ty_ok (i := Tryz.t51) (z := .agg #[.slice none 0 0, .slice none 0 0, .slice none 0 0]) (d := (.struct (Tryz.prog.fieldsOf 51))) (by kernel_rfl) (by kernel_rfl) (by kernel_rfl) (by kernel_rfl) (by kernel_rfl) (by decide) (by decide) (by decide) (by decide) (nofun) (by kernel_rfl) (⟨_, rfl, by kernel_rfl, by decide⟩)
theorem ty54 : TyOk Tryz.prog tab ⟨(.struct [(0, 25), (1, 25), (2, 49)]), 3, 72, [.nilsl, .nilsl, .nilsl], false⟩ 54 :=
  ty_ok (i := Tryz.t54) (z := .agg #[.slice none 0 0, .slice none 0 0, .slice none 0 0]) (d := (.struct (Tryz.prog.fieldsOf 54))) (by kernel_rfl) (by kernel_rfl) (by kernel_rfl) (by kernel_rfl) (by kernel_rfl) (by decide) (by decide) (by decide) (by decide) (nofun) (by kernel_rfl) (⟨_, rfl, by kernel_rfl, by decide⟩)
theorem eqn60 : ∀ f ∈ Tryz.prog.fieldsOf 60, f.name ≠ "_" := by
  have h : ((Tryz.prog.fieldsOf 60).toList.all fun f => f.name != "_") = true := by kernel_rfl
  intro f hf
  have := List.all_eq_true.1 h f (by simpa using hf)
  simpa using this
theorem ty60 : TyOk Tryz.prog tab ⟨(.struct [(0, 3), (1, 3), (2, 3)]), 3, 24, [.int .i64, .int .i64, .int .i64], true⟩ 60 :=
  ty_ok (i := Tryz.t60) (z := .agg #[.int .i64 0, .int .i64 0, .int .i64 0]) (d := (.struct (Tryz.prog.fieldsOf 60))) (by kernel_rfl) (by kernel_rfl) (by kernel_rfl) (by kernel_rfl) (by kernel_rfl) (by decide) (by decide) (by decide) (by decide) (fun _ => ⟨by kernel_rfl, by kernel_rfl, eqn60⟩) (by kernel_rfl) (⟨_, rfl, by kernel_rfl, by decide⟩)
theorem eqn63 : ∀ f ∈ Tryz.prog.fieldsOf 63, f.name ≠ "_" := by
  have h : ((Tryz.prog.fieldsOf 63).toList.all fun f => f.name != "_") = true := by kernel_rfl
  intro f hf
  have := List.all_eq_true.1 h f (by simpa using hf)
  simpa using this
theorem ty63 : TyOk Tryz.prog tab ⟨(.struct [(0, 3), (1, 3), (2, 3)]), 3, 24, [.int .i64, .int .i64, .int .i64], true⟩ 63 :=
  ty_ok (i := Tryz.t63) (z := .agg #[.int .i64 0, .int .i64 0, .int .i64 0]) (d := (.struct (Tryz.prog.fieldsOf 63))) (by kernel_rfl) (by kernel_rfl) (by kernel_rfl) (by kernel_rfl) (by kernel_rfl) (by decide) (by decide) (by decide) (by decide) (fun _ => ⟨by kernel_rfl, by kernel_rfl, eqn63⟩) (by kernel_rfl) (⟨_, rfl, by kernel_rfl, by decide⟩)
theorem ty66 : TyOk Tryz.prog tab ⟨(.struct [(0, 63), (3, 41), (7, 33)]), 8, 80, [.int .i64, .int .i64, .int .i64, .int .i64, .int .i64, .int .i64, .int .i64, .nilsl], false⟩ 66 :=
  ty_ok (i := Tryz.t66) (z := .agg #[.int .i64 0, .int .i64 0, .int .i64 0, .int .i64 0, .int .i64 0, .int .i64 0, .int .i64 0, .slice none 0 0]) (d := (.struct (Tryz.prog.fieldsOf 66))) (by kernel_rfl) (by kernel_rfl) (by kernel_rfl) (by kernel_rfl) (by kernel_rfl) (by decide) (by decide) (by decide) (by decide) (nofun) (by kernel_rfl) (⟨_, rfl, by kernel_rfl, by decide⟩)
theorem ty67 : TyOk Tryz.prog tab ⟨(.struct [(0, 63), (3, 41), (7, 33)]), 8, 80, [.int .i64, .int .i64, .int .i64, .int .i64, .int .i64, .int .i64, .int .i64, .nilsl], false⟩ 67 :=
  ty_ok (i := Tryz.t67) (z := .agg #[.int .i64 0, .int .i64 0, .int .i64 0, .int .i64 0, .int .i64 0, .int .i64 0, .int .i64 0, .slice none 0 0]) (d := (.struct (Tryz.prog.fieldsOf 67))) (by kernel_rfl) (by kernel_rfl) (by kernel_rfl) (by kernel_rfl) (by kernel_rfl) (by decide) (by decide) (by decide) (by decide) (nofun) (by kernel_rfl) (⟨_, rfl, by kernel_rfl, by decide⟩)
theorem ty74 : TyOk Tryz.prog tab ⟨(.slice 143), 1, 24, [.nilsl], false⟩ 74 :=
  ty_ok (i := Tryz.t74) (z := .slice none 0 0) (d := (.slice 143)) (by kernel_rfl) (by kernel_rfl) (by kernel_rfl) (by kernel_rfl) (by kernel_rfl) (by decide) (by decide) (by decide) (by decide) (nofun) (by kernel_rfl) (rfl)
theorem ty77 : TyOk Tryz.prog tab ⟨(.slice 149), 1, 24, [.nilsl], false⟩ 77 :=
  ty_ok (i := Tryz.t77) (z := .slice none 0 0) (d := (.slice 149)) (by kernel_rfl) (by kernel_rfl) (by kernel_rfl) (by kernel_rfl) (by kernel_rfl) (by decide) (by decide) (by decide) (by decide) (nofun) (by kernel_rfl) (rfl)
theorem ty85 : TyOk Tryz.prog tab ⟨(.struct [(0, 25), (1, 25)]), 2, 48, [.nilsl, .nilsl], false⟩ 85 :=
  ty_ok (i := Tryz.t85) (z := .agg #[.slice none 0 0, .slice none 0 0]) (d := (.struct (Tryz.prog.fieldsOf 85))) (by kernel_rfl) (by kernel_rfl) (by kernel_rfl) (by kernel_rfl) (by kernel_rfl) (by decide) (by decide) (by decide) (by decide) (nofun) (by kernel_rfl) (⟨_, rfl, by kernel_rfl, by decide⟩)
theorem ty92 : TyOk Tryz.prog tab ⟨(.struct [(0, 25), (1, 25)]), 2, 48, [.nilsl, .nilsl], false⟩ 92 :=
  ty_ok (i := Tryz.t92) (z := .agg #[.slice none 0 0, .slice none 0 0]) (d := (.struct (Tryz.prog.fieldsOf 92))) (by kernel_rfl) (by kernel_rfl) (by kernel_rfl) (by kernel_rfl) (by kernel_rfl) (by decide) (by decide) (by decide) (by decide) (nofun) (by kernel_rfl) (⟨_, rfl, by kernel_rfl, by decide⟩)
theorem eqn94 : ∀ f ∈ Tryz.prog.fieldsOf 94, f.name ≠ "_" := by
  have h : ((Tryz.prog.fieldsOf 94).toList.all fun f => f.name != "_") = true := by kernel_rfl
  intro f hf
  have := List.all_eq_true.1 h f (by simpa using hf)
  simpa using this
theorem ty94 : TyOk Tryz.prog tab ⟨(.struct [(0, 3), (1, 3), (2, 3), (3, 3)]), 4, 32, [.int .i64, .int .i64, .int .i64, .int .i64], true⟩ 94 :=
  ty_ok (i := Tryz.t94) (z := .agg #[.int .i64 0, .int .i64 0, .int .i64 0, .int .i64 0]) (d := (.struct (Tryz.prog.fieldsOf 94))) (by kernel_rfl) (by kernel_rfl) (by kernel_rfl) (by kernel_rfl) (by kernel_rfl) (by decide) (by decide) (by decide) (by decide) (fun _ => ⟨by kernel_rfl, by kernel_rfl, eqn94⟩) (by kernel_rfl) (⟨_, rfl, by kernel_rfl, by decide⟩)
theorem eqn98 : ∀ f ∈ Tryz.prog.fieldsOf 98, f.name ≠ "_" := by
  have h : ((Tryz.prog.fieldsOf 98).toList.all fun f => f.name != "_") = true := by kernel_rfl
  intro f hf
  have := List.all_eq_true.1 h f (by simpa using hf)
  simpa using this
theorem ty98 : TyOk Tryz.prog tab ⟨(.struct [(0, 3), (1, 3), (2, 3), (3, 3)]), 4, 32, [.int .i64, .int .i64, .int .i64, .int .i64], true⟩ 98 :=
  ty_ok (i := Tryz.t98) (z := .agg #[.int .i64 0, .int .i64 0, .int .i64 0, .int .i64 0]) (d := (.struct (Tryz.prog.fieldsOf 98))) (by kernel_rfl) (by kernel_rfl) (by kernel_rfl) (by kernel_rfl) (by kernel_rfl) (by decide) (by decide) (by decide) (by decide) (fun _ => ⟨by kernel_rfl, by kernel_rfl, eqn98⟩) (by kernel_rfl) (⟨_, rfl, by kernel_rfl, by decide⟩)
theorem ty136 : TyOk Tryz.prog tab ⟨(.slice 41), 1, 24, [.nilsl], false⟩ 136 :=
  ty_ok (i := Tryz.t136) (z := .slice none 0 0) (d := (.slice 41)) (by kernel_rfl) (by kernel_rfl) (by kernel_rfl) (by kernel_rfl) (by kernel_rfl) (by decide) (by decide) (by decide) (by decide) (nofun) (by kernel_rfl) (rfl)
theorem ty142 : TyOk Tryz.prog tab ⟨(.struct [(0, 3), (1, 29), (5, 30)]), 6, 64, [.int .i64, .int .i64, .int .i64, .int .i64, .int .i64, .nilsl], false⟩ 142 :=
  ty_ok (i := Tryz.t142) (z := .agg #[.int .i64 0, .int .i64 0, .int .i64 0, .int .i64 0, .int .i64 0, .slice none 0 0]) (d := (.struct (Tryz.prog.fieldsOf 142))) (by kernel_rfl) (by kernel_rfl) (by kernel_rfl) (by kernel_rfl) (by kernel_rfl) (by decide) (by decide) (by decide) (by decide) (nofun) (by kernel_rfl) (⟨_, rfl, by kernel_rfl, by decide⟩)
theorem ty143 : TyOk Tryz.prog tab ⟨(.struct [(0, 3), (1, 29), (5, 30)]), 6, 64, [.int .i64, .int .i64, .int .i64, .int .i64, .int .i64, .nilsl], false⟩ 143 :=
  ty_ok (i := Tryz.t143) (z := .agg #[.int .i64 0, .int .i64 0, .int .i64 0, .int .i64 0, .int .i64 0, .slice none 0 0]) (d := (.struct (Tryz.prog.fieldsOf 143))) (by kernel_rfl) (by kernel_rfl) (by kernel_rfl) (by kernel_rfl) (by kernel_rfl) (by decide) (by decide) (by decide) (by decide) (nofun) (by kernel_rfl) (⟨_, rfl, by kernel_rfl, by decide⟩)
theorem ty148 : TyOk Tryz.prog tab ⟨(.struct [(0, 3), (1, 41), (5, 33)]), 6, 64, [.int .i64, .int .i64, .int .i64, .int .i64, .int .i64, .nilsl], false⟩ 148 :=
  ty_ok (i := Tryz.t148) (z := .agg #[.int .i64 0, .int .i64 0, .int .i64 0, .int .i64 0, .int .i64 0, .slice none 0 0]) (d := (.struct (Tryz.prog.fieldsOf 148))) (by kernel_rfl) (by kernel_rfl) (by kernel_rfl) (by kernel_rfl) (by kernel_rfl) (by decide) (by decide) (by decide) (by decide) (nofun) (by kernel_rfl) (⟨_, rfl, by kernel_rfl, by decide⟩)
theorem ty149 : TyOk Tryz.prog tab ⟨(.struct [(0, 3), (1, 41), (5, 33)]), 6, 64, [.int .i64, .int .i64, .int .i64, .int .i64, .int .i64, .nilsl], false⟩ 149 :=
  ty_ok (i := Tryz.t149) (z := .agg #[.int .i64 0, .int .i64 0, .int .i64 0, .int .i64 0, .int .i64 0, .slice none 0 0]) (d := (.struct (Tryz.prog.fieldsOf 149))) (by kernel_rfl) (by kernel_rfl) (by kernel_rfl) (by kernel_rfl) (by kernel_rfl) (by decide) (by decide) (by decide) (by decide) (nofun) (by kernel_rfl) (⟨_, rfl, by kernel_rfl, by decide⟩)
theorem ty153 : TyOk Tryz.prog tab ⟨(.struct [(0, 85), (2, 25)]), 3, 72, [.nilsl, .nilsl, .nilsl], false⟩ 153 :=
  ty_ok (i := Tryz.t153) (z := .agg #[.slice none 0 0, .slice none 0 0, .slice none 0 0]) (d := (.struct (Tryz.prog.fieldsOf 153))) (by kernel_rfl) (by kernel_rfl) (by kernel_rfl) (by kernel_rfl) (by kernel_rfl) (by decide) (by decide) (by decide) (by decide) (nofun) (by kernel_rfl) (⟨_, rfl, by kernel_rfl, by decide⟩)
theorem ty154 : TyOk Tryz.prog tab ⟨(.struct [(0, 85), (2, 25)]), 3, 72, [.nilsl, .nilsl, .nilsl], false⟩ 154 :=
  ty_ok (i := Tryz.t154) (z := .agg #[.slice none 0 0, .slice none 0 0, .slice none 0 0]) (d := (.struct (Tryz.prog.fieldsOf 154))) (by kernel_rfl) (by kernel_rfl) (by kernel_rfl) (by kernel_rfl) (by kernel_rfl) (by decide) (by decide) (by decide) (by decide) (nofun) (by kernel_rfl) (⟨_, rfl, by kernel_rfl, by decide⟩)
theorem ty180 : TyOk Tryz.prog tab ⟨(.slice 4), 1, 24, [.nilsl], false⟩ 180 :=
  ty_ok (i := Tryz.t180) (z := .slice none 0 0) (d := (.slice 4)) (by kernel_rfl) (by kernel_rfl) (by kernel_rfl) (by kernel_rfl) (by kernel_rfl) (by decide) (by decide) (by decide) (by decide) (nofun) (by kernel_rfl) (rfl)
theorem ty186 : TyOk Tryz.prog tab ⟨(.slice 317), 1, 24, [.nilsl], false⟩ 186 :=
  ty_ok (i := Tryz.t186) (z := .slice none 0 0) (d := (.slice 317)) (by kernel_rfl) (by kernel_rfl) (by kernel_rfl) (by kernel_rfl) (by kernel_rfl) (by decide) (by decide) (by decide) (by decide) (nofun) (by kernel_rfl) (rfl)
theorem ty187 : TyOk Tryz.prog tab ⟨(.struct [(0, 9), (1, 3), (2, 186)]), 3, 48, [.str, .int .i64, .nilsl], false⟩ 187 :=
  ty_ok (i := Tryz.t187) (z := .agg #[.string ⟨#[]⟩, .int .i64 0, .slice none 0 0]) (d := (.struct (Tryz.prog.fieldsOf 187))) (by kernel_rfl) (by kernel_rfl) (by kernel_rfl) (by kernel_rfl) (by kernel_rfl) (by decide) (by decide) (by decide) (by decide) (nofun) (by kernel_rfl) (⟨_, rfl, by kernel_rfl, by decide⟩)
theorem ty188 : TyOk Tryz.prog tab ⟨(.struct [(0, 9), (1, 3), (2, 186)]), 3, 48, [.str, .int .i64, .nilsl], false⟩ 188 :=
  ty_ok (i := Tryz.t188) (z := .agg #[.string ⟨#[]⟩, .int .i64 0, .slice none 0 0]) (d := (.struct (Tryz.prog.fieldsOf 188))) (by kernel_rfl) (by kernel_rfl) (by kernel_rfl) (by kernel_rfl) (by kernel_rfl) (by decide) (by decide) (by decide) (by decide) (nofun) (by kernel_rfl) (⟨_, rfl, by kernel_rfl, by decide⟩)
theorem ty190 : TyOk Tryz.prog tab ⟨(.slice 320), 1, 24, [.nilsl], false⟩ 190 :=
  ty_ok (i := Tryz.t190) (z := .slice none 0 0) (d := (.slice 320)) (by kernel_rfl) (by kernel_rfl) (by kernel_rfl) (by kernel_rfl) (by kernel_rfl) (by decide) (by decide) (by decide) (by decide) (nofun) (by kernel_rfl) (rfl)
theorem ty191 : TyOk Tryz.prog tab ⟨(.struct [(0, 190), (1, 49)]), 2, 48, [.nilsl, .nilsl], false⟩ 191 :=
  ty_ok (i := Tryz.t191) (z := .agg #[.slice none 0 0, .slice none 0 0]) (d := (.struct (Tryz.prog.fieldsOf 191))) (by kernel_rfl) (by kernel_rfl) (by kernel_rfl) (by kernel_rfl) (by kernel_rfl) (by decide) (by decide) (by decide) (by decide) (nofun) (by kernel_rfl) (⟨_, rfl, by kernel_rfl, by decide⟩)
theorem ty192 : TyOk Tryz.prog tab ⟨(.struct [(0, 190), (1, 49)]), 2, 48, [.nilsl, .nilsl], false⟩ 192 :=
  ty_ok (i := Tryz.t192) (z := .agg #[.slice none 0 0, .slice none 0 0]) (d := (.struct (Tryz.prog.fieldsOf 192))) (by kernel_rfl) (by kernel_rfl) (by kernel_rfl) (by kernel_rfl) (by kernel_rfl) (by decide) (by decide) (by decide) (by decide) (nofun) (by kernel_rfl) (⟨_, rfl, by kernel_rfl, by decide⟩)
theorem ty197 : TyOk Tryz.prog tab ⟨(.slice 243), 1, 24, [.nilsl], false⟩ 197 :=
  ty_ok (i := Tryz.t197) (z := .slice none 0 0) (d := (.slice 243)) (by kernel_rfl) (by kernel_rfl) (by kernel_rfl) (by kernel_rfl) (by kernel_rfl) (by decide) (by decide) (by decide) (by decide) (nofun) (by kernel_rfl) (rfl)
theorem ty198 : TyOk Tryz.prog tab ⟨(.struct [(0, 9), (1, 3), (2, 197)]), 3, 48, [.str, .int .i64, .nilsl], false⟩ 198 :=
  ty_ok (i := Tryz.t198) (z := .agg #[.string ⟨#[]⟩, .int .i64 0, .slice none 0 0]) (d := (.struct (Tryz.prog.fieldsOf 198))) (by kernel_rfl) (by kernel_rfl) (by kernel_rfl) (by kernel_rfl) (by kernel_rfl) (by decide) (by decide) (by decide) (by decide) (nofun) (by kernel_rfl) (⟨_, rfl, by kernel_rfl, by decide⟩)
theorem ty199 : TyOk Tryz.prog tab ⟨(.struct [(0, 9), (1, 3), (2, 197)]), 3, 48, [.str, .int .i64, .nilsl], false⟩ 199 :=
  ty_ok (i := Tryz.t199) (z := .agg #[.string ⟨#[]⟩, .int .i64 0, .slice none 0 0]) (d := (.struct (Tryz.prog.fieldsOf 199))) (by kernel_rfl) (by kernel_rfl) (by kernel_rfl) (by kernel_rfl) (by kernel_rfl) (by decide) (by decide) (by decide) (by decide) (nofun) (by kernel_rfl) (⟨_, rfl, by kernel_rfl, by decide⟩)
theorem eqn202 : ∀ f ∈ Tryz.prog.fieldsOf 202, f.name ≠ "_" := by
  have h : ((Tryz.prog.fieldsOf 202).toList.all fun f => f.name != "_") = true := by kernel_rfl
  intro f hf
  have := List.all_eq_true.1 h f (by simpa using hf)
  simpa using this
theorem ty202 : TyOk Tryz.prog tab ⟨(.struct [(0, 3), (1, 3), (2, 4), (3, 3)]), 4, 32, [.int .i64, .int .i64, .bool, .int .i64], true⟩ 202 :=
  ty_ok (i := Tryz.t202) (z := .agg #[.int .i64 0, .int .i64 0, .bool false, .int .i64 0]) (d := (.struct (Tryz.prog.fieldsOf 202))) (by kernel_rfl) (by kernel_rfl) (by kernel_rfl) (by kernel_rfl) (by kernel_rfl) (by decide) (by decide) (by decide) (by decide) (fun _ => ⟨by kernel_rfl, by kernel_rfl, eqn202⟩) (by kernel_rfl) (⟨_, rfl, by kernel_rfl, by decide⟩)
theorem eqn204 : ∀ f ∈ Tryz.prog.fieldsOf 204, f.name ≠ "_" := by
  have h : ((Tryz.prog.fieldsOf 204).toList.all fun f => f.name != "_") = true := by kernel_rfl
  intro f hf
  have := List.all_eq_true.1 h f (by simpa using hf)
  simpa using this
theorem ty204 : TyOk Tryz.prog tab ⟨(.struct [(0, 3), (1, 3), (2, 4), (3, 3)]), 4, 32, [.int .i64, .int .i64, .bool, .int .i64], true⟩ 204 :=
  ty_ok (i := Tryz.t204) (z := .agg #[.int .i64 0, .int .i64 0, .bool false, .int .i64 0]) (d := (.struct (Tryz.prog.fieldsOf 204))) (by kernel_rfl) (by kernel_rfl) (by kernel_rfl) (by kernel_rfl) (by kernel_rfl) (by decide) (by decide) (by decide) (by decide) (fun _ => ⟨by kernel_rfl, by kernel_rfl, eqn204⟩) (by kernel_rfl) (⟨_, rfl, by kernel_rfl, by decide⟩)
theorem ty205 : TyOk Tryz.prog tab ⟨(.slice 231), 1, 24, [.nilsl], false⟩ 205 :=
  ty_ok (i := Tryz.t205) (z := .slice none 0 0) (d := (.slice 231)) (by kernel_rfl) (by kernel_rfl) (by kernel_rfl) (by kernel_rfl) (by kernel_rfl) (by decide) (by decide) (by decide) (by decide) (nofun) (by kernel_rfl) (rfl)
theorem ty206 : TyOk Tryz.prog tab ⟨(.struct [(0, 205), (1, 49)]), 2, 48, [.nilsl, .nilsl], false⟩ 206 :=
  ty_ok (i := Tryz.t206) (z := .agg #[.slice none 0 0, .slice none 0 0]) (d := (.struct (Tryz.prog.fieldsOf 206))) (by kernel_rfl) (by kernel_rfl) (by kernel_rfl) (by kernel_rfl) (by kernel_rfl) (by decide) (by decide) (by decide) (by decide) (nofun) (by kernel_rfl) (⟨_, rfl, by kernel_rfl, by decide⟩)
theorem ty207 : TyOk Tryz.prog tab ⟨(.struct [(0, 205), (1, 49)]), 2, 48, [.nilsl, .nilsl], false⟩ 207 :=
  ty_ok (i := Tryz.t207) (z := .agg #[.slice none 0 0, .slice none 0 0]) (d := (.struct (Tryz.prog.fieldsOf 207))) (by kernel_rfl) (by kernel_rfl) (by kernel_rfl) (by kernel_rfl) (by kernel_rfl) (by decide) (by decide) (by decide) (by decide) (nofun) (by kernel_rfl) (⟨_, rfl, by kernel_rfl, by decide⟩)
theorem eqn231 : ∀ f ∈ Tryz.prog.fieldsOf 231, f.name ≠ "_" := by
  have h : ((Tryz.prog.fieldsOf 231).toList.all fun f => f.name != "_") = true := by kernel_rfl
  intro f hf
  have := List.all_eq_true.1 h f (by simpa using hf)
  simpa using this
theorem ty231 : TyOk Tryz.prog tab ⟨(.struct [(0, 3), (1, 3)]), 2, 16, [.int .i64, .int .i64], true⟩ 231 :=
  ty_ok (i := Tryz.t231) (z := .agg #[.int .i64 0, .int .i64 0]) (d := (.struct (Tryz.prog.fieldsOf 231))) (by kernel_rfl) (by kernel_rfl) (by kernel_rfl) (by kernel_rfl) (by kernel_rfl) (by decide) (by decide) (by decide) (by decide) (fun _ => ⟨by kernel_rfl, by kernel_rfl, eqn231⟩) (by kernel_rfl) (⟨_, rfl, by kernel_rfl, by decide⟩)
theorem ty243 : TyOk Tryz.prog tab ⟨(.struct [(0, 3), (1, 25), (2, 25)]), 3, 56, [.int .i64, .nilsl, .nilsl], false⟩ 243 :=
  ty_ok (i := Tryz.t243) (z := .agg #[.int .i64 0, .slice none 0 0, .slice none 0 0]) (d := (.struct (Tryz.prog.fieldsOf 243))) (by kernel_rfl) (by kernel_rfl) (by kernel_rfl) (by kernel_rfl) (by kernel_rfl) (by decide) (by decide) (by decide) (by decide) (nofun) (by kernel_rfl) (⟨_, rfl, by kernel_rfl, by decide⟩)
theorem ty269 : TyOk Tryz.prog tab ⟨(.slice 5), 1, 24, [.nilsl], false⟩ 269 :=
  ty_ok (i := Tryz.t269) (z := .slice none 0 0) (d := (.slice 5)) (by kernel_rfl) (by kernel_rfl) (by kernel_rfl) (by kernel_rfl) (by kernel_rfl) (by decide) (by decide) (by decide) (by decide) (nofun) (by kernel_rfl) (rfl)
theorem ty290 : TyOk Tryz.prog tab ⟨(.slice 33), 1, 24, [.nilsl], false⟩ 290 :=
  ty_ok (i := Tryz.t290) (z := .slice none 0 0) (d := (.slice 33)) (by kernel_rfl) (by kernel_rfl) (by kernel_rfl) (by kernel_rfl) (by kernel_rfl) (by decide) (by decide) (by decide) (by decide) (nofun) (by kernel_rfl) (rfl)
theorem ty312 : TyOk Tryz.prog tab ⟨(.slice 9), 1, 24, [.nilsl], false⟩ 312 :=
  ty_ok (i := Tryz.t312) (z := .slice none 0 0) (d := (.slice 9)) (by kernel_rfl) (by kernel_rfl) (by kernel_rfl) (by kernel_rfl) (by kernel_rfl) (by decide) (by decide) (by decide) (by decide) (nofun) (by kernel_rfl) (rfl)
theorem ty314 : TyOk Tryz.prog tab ⟨(.slice 180), 1, 24, [.nilsl], false⟩ 314 :=
  ty_ok (i := Tryz.t314) (z := .slice none 0 0) (d := (.slice 180)) (by kernel_rfl) (by kernel_rfl) (by kernel_rfl) (by kernel_rfl) (by kernel_rfl) (by decide) (by decide) (by decide) (by decide) (nofun) (by kernel_rfl) (rfl)
theorem ty317 : TyOk Tryz.prog tab ⟨(.struct [(0, 3), (1, 25), (2, 25)]), 3, 56, [.int .i64, .nilsl, .nilsl], false⟩ 317 :=
  ty_ok (i := Tryz.t317) (z := .agg #[.int .i64 0, .slice none 0 0, .slice none 0 0]) (d := (.struct (Tryz.prog.fieldsOf 317))) (by kernel_rfl) (by kernel_rfl) (by kernel_rfl) (by kernel_rfl) (by kernel_rfl) (by decide) (by decide) (by decide) (by decide) (nofun) (by kernel_rfl) (⟨_, rfl, by kernel_rfl, by decide⟩)
theorem eqn320 : ∀ f ∈ Tryz.prog.fieldsOf 320, f.name ≠ "_" := by
  have h : ((Tryz.prog.fieldsOf 320).toList.all fun f => f.name != "_") = true := by kernel_rfl
  intro f hf
  have := List.all_eq_true.1 h f (by simpa using hf)
  simpa using this
theorem ty320 : TyOk Tryz.prog tab ⟨(.struct [(0, 3), (1, 3)]), 2, 16, [.int .i64, .int .i64], true⟩ 320 :=
  ty_ok (i := Tryz.t320) (z := .agg #[.int .i64 0, .int .i64 0]) (d := (.struct (Tryz.prog.fieldsOf 320))) (by kernel_rfl) (by kernel_rfl) (by kernel_rfl) (by kernel_rfl) (by kernel_rfl) (by decide) (by decide) (by decide) (by decide) (fun _ => ⟨by kernel_rfl, by kernel_rfl, eqn320⟩) (by kernel_rfl) (⟨_, rfl, by kernel_rfl, by decide⟩)
theorem tabOk : TabOk Tryz.prog tab := tab_ok ⟨ty94, ⟨ty36, ⟨ty24, ⟨ty5, ⟨ty3, ⟨ty2, trivial, trivial⟩, ⟨ty4, trivial, trivial⟩⟩, ⟨ty22, ⟨ty9, trivial, trivial⟩, ⟨ty23, trivial, trivial⟩⟩⟩, ⟨ty29, ⟨ty26, ⟨ty25, trivial, trivial⟩, ⟨ty27, trivial, trivial⟩⟩, ⟨ty33, ⟨ty30, trivial, trivial⟩, ⟨ty35, trivial, trivial⟩⟩⟩⟩, ⟨ty60, ⟨ty41, ⟨ty38, ⟨ty37, trivial, trivial⟩, ⟨ty39, trivial, trivial⟩⟩, ⟨ty51, ⟨ty49, trivial, trivial⟩, ⟨ty54, trivial, trivial⟩⟩⟩, ⟨ty74, ⟨ty66, ⟨ty63, trivial, trivial⟩, ⟨ty67, trivial, trivial⟩⟩, ⟨ty85, ⟨ty77, trivial, trivial⟩, ⟨ty92, trivial, trivial⟩⟩⟩⟩⟩, ⟨ty197, ⟨ty154, ⟨ty143, ⟨ty136, ⟨ty98, trivial, trivial⟩, ⟨ty142, trivial, trivial⟩⟩, ⟨ty149, ⟨ty148, trivial, trivial⟩, ⟨ty153, trivial, trivial⟩⟩⟩, ⟨ty188, ⟨ty186, ⟨ty180, trivial, trivial⟩, ⟨ty187, trivial, trivial⟩⟩, ⟨ty191, ⟨ty190, trivial, trivial⟩, ⟨ty192, trivial, trivial⟩⟩⟩⟩, ⟨ty231, ⟨ty204, ⟨ty199, ⟨ty198, trivial, trivial⟩, ⟨ty202, trivial, trivial⟩⟩, ⟨ty206, ⟨ty205, trivial, trivial⟩, ⟨ty207, trivial, trivial⟩⟩⟩, ⟨ty312, ⟨ty269, ⟨ty243, trivial, trivial⟩, ⟨ty290, trivial, trivial⟩⟩, ⟨ty317, ⟨ty314, trivial, trivial⟩, ⟨ty320, trivial, trivial⟩⟩⟩⟩⟩⟩
end Go.Proofs.YtdfindjbjonoaaaGreat.Abs
