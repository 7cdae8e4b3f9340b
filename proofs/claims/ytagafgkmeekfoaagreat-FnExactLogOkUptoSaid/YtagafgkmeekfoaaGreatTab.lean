/- The table of the types of this seat: what the abstract layer must know of them, by closed facts. Printed by gentab.py. No statement of a claim. -/
import Derived.Test.YtagafgkmeekfoaaGreatLayB
import Derived.Test.YtagafgkmeekfoaaGreatProg
import Derived.KernelRfl
set_option linter.all false
namespace Go.Proofs.YtagafgkmeekfoaaGreat.Abs
open Go.Proofs
def tree : Tree := (.node 70 ⟨(.struct [(0, 3), (1, 3), (2, 3)]), 3, 24, [.int .i64, .int .i64, .int .i64], true⟩ (.node 33 ⟨(.slice 70), 1, 24, [.nilsl], false⟩ (.node 23 ⟨(.slice 143), 1, 24, [.nilsl], false⟩ (.node 5 ⟨(.int .u8), 1, 1, [.int .u8], false⟩ (.node 3 ⟨(.int .i64), 1, 8, [.int .i64], false⟩ (.node 2 ⟨(.int .i64), 1, 8, [.int .i64], false⟩ .leaf .leaf) (.node 4 ⟨.bool, 1, 1, [.bool], false⟩ .leaf .leaf)) (.node 22 ⟨(.slice 127), 1, 24, [.nilsl], false⟩ (.node 9 ⟨.str, 1, 16, [.str], false⟩ .leaf .leaf) .leaf)) (.node 27 ⟨(.struct [(0, 3), (1, 22), (2, 23), (3, 24), (4, 25)]), 5, 104, [.int .i64, .nilsl, .nilsl, .nilsl, .nilsl], false⟩ (.node 25 ⟨(.slice 3), 1, 24, [.nilsl], false⟩ (.node 24 ⟨(.slice 131), 1, 24, [.nilsl], false⟩ .leaf .leaf) (.node 26 ⟨(.struct [(0, 3), (1, 22), (2, 23), (3, 24), (4, 25)]), 5, 104, [.int .i64, .nilsl, .nilsl, .nilsl, .nilsl], false⟩ .leaf .leaf)) (.node 30 ⟨(.slice 68), 1, 24, [.nilsl], false⟩ (.node 29 ⟨(.struct [(0, 3), (1, 3), (2, 3), (3, 3)]), 4, 32, [.int .i64, .int .i64, .int .i64, .int .i64], true⟩ .leaf .leaf) .leaf))) (.node 49 ⟨(.slice 51), 1, 24, [.nilsl], false⟩ (.node 38 ⟨(.struct [(0, 3), (1, 35), (2, 36), (3, 37), (4, 25)]), 5, 104, [.int .i64, .nilsl, .nilsl, .nilsl, .nilsl], false⟩ (.node 36 ⟨(.slice 141), 1, 24, [.nilsl], false⟩ (.node 35 ⟨(.slice 138), 1, 24, [.nilsl], false⟩ .leaf .leaf) (.node 37 ⟨(.slice 146), 1, 24, [.nilsl], false⟩ .leaf .leaf)) (.node 41 ⟨(.struct [(0, 3), (1, 3), (2, 3), (3, 3)]), 4, 32, [.int .i64, .int .i64, .int .i64, .int .i64], true⟩ (.node 39 ⟨(.struct [(0, 3), (1, 35), (2, 36), (3, 37), (4, 25)]), 5, 104, [.int .i64, .nilsl, .nilsl, .nilsl, .nilsl], false⟩ .leaf .leaf) .leaf)) (.node 57 ⟨(.struct [(0, 3), (1, 41), (5, 33)]), 6, 64, [.int .i64, .int .i64, .int .i64, .int .i64, .int .i64, .nilsl], false⟩ (.node 51 ⟨(.struct [(0, 3), (1, 29), (5, 30)]), 6, 64, [.int .i64, .int .i64, .int .i64, .int .i64, .int .i64, .nilsl], false⟩ (.node 50 ⟨(.struct [(0, 3), (1, 29), (5, 30)]), 6, 64, [.int .i64, .int .i64, .int .i64, .int .i64, .int .i64, .nilsl], false⟩ .leaf .leaf) (.node 55 ⟨(.slice 58), 1, 24, [.nilsl], false⟩ .leaf .leaf)) (.node 68 ⟨(.struct [(0, 3), (1, 3), (2, 3)]), 3, 24, [.int .i64, .int .i64, .int .i64], true⟩ (.node 58 ⟨(.struct [(0, 3), (1, 41), (5, 33)]), 6, 64, [.int .i64, .int .i64, .int .i64, .int .i64, .int .i64, .nilsl], false⟩ .leaf .leaf) .leaf)))) (.node 131 ⟨(.struct [(0, 129), (1, 73)]), 2, 48, [.nilsl, .nilsl], false⟩ (.node 82 ⟨(.struct [(0, 39), (5, 80), (8, 33), (9, 55)]), 10, 224, [.int .i64, .nilsl, .nilsl, .nilsl, .nilsl, .nilsl, .nilsl, .nilsl, .nilsl, .nilsl], false⟩ (.node 77 ⟨(.struct [(0, 27), (5, 75), (8, 30), (9, 49)]), 10, 224, [.int .i64, .nilsl, .nilsl, .nilsl, .nilsl, .nilsl, .nilsl, .nilsl, .nilsl, .nilsl], false⟩ (.node 75 ⟨(.struct [(0, 25), (1, 25), (2, 73)]), 3, 72, [.nilsl, .nilsl, .nilsl], false⟩ (.node 73 ⟨(.slice 25), 1, 24, [.nilsl], false⟩ .leaf .leaf) (.node 76 ⟨(.struct [(0, 27), (5, 75), (8, 30), (9, 49)]), 10, 224, [.int .i64, .nilsl, .nilsl, .nilsl, .nilsl, .nilsl, .nilsl, .nilsl, .nilsl, .nilsl], false⟩ .leaf .leaf)) (.node 81 ⟨(.struct [(0, 39), (5, 80), (8, 33), (9, 55)]), 10, 224, [.int .i64, .nilsl, .nilsl, .nilsl, .nilsl, .nilsl, .nilsl, .nilsl, .nilsl, .nilsl], false⟩ (.node 80 ⟨(.struct [(0, 25), (1, 25), (2, 73)]), 3, 72, [.nilsl, .nilsl, .nilsl], false⟩ .leaf .leaf) .leaf)) (.node 127 ⟨(.struct [(0, 9), (1, 3), (2, 125)]), 3, 48, [.str, .int .i64, .nilsl], false⟩ (.node 125 ⟨(.slice 211), 1, 24, [.nilsl], false⟩ (.node 111 ⟨(.slice 33), 1, 24, [.nilsl], false⟩ .leaf .leaf) (.node 126 ⟨(.struct [(0, 9), (1, 3), (2, 125)]), 3, 48, [.str, .int .i64, .nilsl], false⟩ .leaf .leaf)) (.node 130 ⟨(.struct [(0, 129), (1, 73)]), 2, 48, [.nilsl, .nilsl], false⟩ (.node 129 ⟨(.slice 218), 1, 24, [.nilsl], false⟩ .leaf .leaf) .leaf))) (.node 145 ⟨(.struct [(0, 144), (1, 73)]), 2, 48, [.nilsl, .nilsl], false⟩ (.node 141 ⟨(.struct [(0, 3), (1, 3), (2, 4), (3, 3)]), 4, 32, [.int .i64, .int .i64, .bool, .int .i64], true⟩ (.node 137 ⟨(.struct [(0, 9), (1, 3), (2, 136)]), 3, 48, [.str, .int .i64, .nilsl], false⟩ (.node 136 ⟨(.slice 195), 1, 24, [.nilsl], false⟩ .leaf .leaf) (.node 138 ⟨(.struct [(0, 9), (1, 3), (2, 136)]), 3, 48, [.str, .int .i64, .nilsl], false⟩ .leaf .leaf)) (.node 144 ⟨(.slice 197), 1, 24, [.nilsl], false⟩ (.node 143 ⟨(.struct [(0, 3), (1, 3), (2, 4), (3, 3)]), 4, 32, [.int .i64, .int .i64, .bool, .int .i64], true⟩ .leaf .leaf) .leaf)) (.node 197 ⟨(.struct [(0, 3), (1, 3)]), 2, 16, [.int .i64, .int .i64], true⟩ (.node 193 ⟨(.slice 5), 1, 24, [.nilsl], false⟩ (.node 146 ⟨(.struct [(0, 144), (1, 73)]), 2, 48, [.nilsl, .nilsl], false⟩ .leaf .leaf) (.node 195 ⟨(.struct [(0, 3), (1, 25), (2, 25)]), 3, 56, [.int .i64, .nilsl, .nilsl], false⟩ .leaf .leaf)) (.node 218 ⟨(.struct [(0, 3), (1, 3)]), 2, 16, [.int .i64, .int .i64], true⟩ (.node 211 ⟨(.struct [(0, 3), (1, 25), (2, 25)]), 3, 56, [.int .i64, .nilsl, .nilsl], false⟩ .leaf .leaf) .leaf)))))
def tab : Nat → Ty := tree.find
theorem ty2 : TyOk Tryz.prog tab ⟨(.int .i64), 1, 8, [.int .i64], false⟩ 2 :=
  ty_ok (i := Tryz.t2) (z := .int .i64 0) (d := (.int .i64)) (by kernel_rfl) (by kernel_rfl) (by kernel_rfl) (by kernel_rfl) (by kernel_rfl) (by decide) (by decide) (by decide) (by decide) (nofun) (by kernel_rfl) (rfl)
theorem ty3 : TyOk Tryz.prog tab ⟨(.int .i64), 1, 8, [.int .i64], false⟩ 3 :=
  ty_ok (i := Tryz.t3) (z := .int .i64 0) (d := (.int .i64)) (by kernel_rfl) (by kernel_rfl) (by kernel_rfl) (by kernel_rfl) (by kernel_rfl) (by decide) (by decide) (by decide) (by decide) (nofun) (by kernel_rfl) (rfl)
theorem ty4 : TyOk Tryz.prog tab ⟨.bool, 1, 1, [.bool], false⟩ 4 :=
  ty_ok (i := Tryz.t4) (z := .bool false) (d := .bool) (by kernel_rfl) (by kernel_rfl) (by kernel_rfl) (by kernel_rfl) (by kernel_rfl) (by decide) (by decide) (by decide) (by decide) (nofun) (by kernel_rfl) (rfl)
theorem ty5 : TyOk Tryz.prog tab ⟨(.int .u8), 1, 1, [.int .u8], false⟩ 5 :=
  ty_ok (i := Tryz.t5) (z := .int .u8 0) (d := (.int .u8)) (by kernel_rfl) (by kernel_rfl) (by kernel_rfl) (by kernel_rfl) (by kernel_rfl) (by decide) (by decide) (by decide) (by decide) (nofun) (by kernel_rfl) (rfl)
theorem ty9 : TyOk Tryz.prog tab ⟨.str, 1, 16, [.str], false⟩ 9 :=
  ty_ok (i := Tryz.t9) (z := .string ⟨#[]⟩) (d := .string) (by kernel_rfl) (by kernel_rfl) (by kernel_rfl) (by kernel_rfl) (by kernel_rfl) (by decide) (by decide) (by decide) (by decide) (nofun) (by kernel_rfl) (rfl)
theorem ty22 : TyOk Tryz.prog tab ⟨(.slice 127), 1, 24, [.nilsl], false⟩ 22 :=
  ty_ok (i := Tryz.t22) (z := .slice none 0 0) (d := (.slice 127)) (by kernel_rfl) (by kernel_rfl) (by kernel_rfl) (by kernel_rfl) (by kernel_rfl) (by decide) (by decide) (by decide) (by decide) (nofun) (by kernel_rfl) (rfl)
theorem ty23 : TyOk Tryz.prog tab ⟨(.slice 143), 1, 24, [.nilsl], false⟩ 23 :=
  ty_ok (i := Tryz.t23) (z := .slice none 0 0) (d := (.slice 143)) (by kernel_rfl) (by kernel_rfl) (by kernel_rfl) (by kernel_rfl) (by kernel_rfl) (by decide) (by decide) (by decide) (by decide) (nofun) (by kernel_rfl) (rfl)
theorem ty24 : TyOk Tryz.prog tab ⟨(.slice 131), 1, 24, [.nilsl], false⟩ 24 :=
  ty_ok (i := Tryz.t24) (z := .slice none 0 0) (d := (.slice 131)) (by kernel_rfl) (by kernel_rfl) (by kernel_rfl) (by kernel_rfl) (by kernel_rfl) (by decide) (by decide) (by decide) (by decide) (nofun) (by kernel_rfl) (rfl)
theorem ty25 : TyOk Tryz.prog tab ⟨(.slice 3), 1, 24, [.nilsl], false⟩ 25 :=
  ty_ok (i := Tryz.t25) (z := .slice none 0 0) (d := (.slice 3)) (by kernel_rfl) (by kernel_rfl) (by kernel_rfl) (by kernel_rfl) (by kernel_rfl) (by decide) (by decide) (by decide) (by decide) (nofun) (by kernel_rfl) (rfl)
theorem ty26 : TyOk Tryz.prog tab ⟨(.struct [(0, 3), (1, 22), (2, 23), (3, 24), (4, 25)]), 5, 104, [.int .i64, .nilsl, .nilsl, .nilsl, .nilsl], false⟩ 26 :=
  ty_ok (i := Tryz.t26) (z := .agg #[.int .i64 0, .slice none 0 0, .slice none 0 0, .slice none 0 0, .slice none 0 0]) (d := (.struct (Tryz.prog.fieldsOf 26))) (by kernel_rfl) (by kernel_rfl) (by kernel_rfl) (by kernel_rfl) (by kernel_rfl) (by decide) (by decide) (by decide) (by decide) (nofun) (by kernel_rfl) (⟨_, rfl, by kernel_rfl, by decide⟩)
theorem ty27 : TyOk Tryz.prog tab ⟨(.struct [(0, 3), (1, 22), (2, 23), (3, 24), (4, 25)]), 5, 104, [.int .i64, .nilsl, .nilsl, .nilsl, .nilsl], false⟩ 27 :=
  ty_ok (i := Tryz.t27) (z := .agg #[.int .i64 0, .slice none 0 0, .slice none 0 0, .slice none 0 0, .slice none 0 0]) (d := (.struct (Tryz.prog.fieldsOf 27))) (by kernel_rfl) (by kernel_rfl) (by kernel_rfl) (by kernel_rfl) (by kernel_rfl) (by decide) (by decide) (by decide) (by decide) (nofun) (by kernel_rfl) (⟨_, rfl, by kernel_rfl, by decide⟩)
theorem eqn29 : ∀ f ∈ Tryz.prog.fieldsOf 29, f.name ≠ "_" := by
  have h : ((Tryz.prog.fieldsOf 29).toList.all fun f => f.name != "_") = true := by kernel_rfl
  intro f hf
  have := List.all_eq_true.1 h f (by simpa using hf)
  simpa using this
theorem ty29 : TyOk Tryz.prog tab ⟨(.struct [(0, 3), (1, 3), (2, 3), (3, 3)]), 4, 32, [.int .i64, .int .i64, .int .i64, .int .i64], true⟩ 29 :=
  ty_ok (i := Tryz.t29) (z := .agg #[.int .i64 0, .int .i64 0, .int .i64 0, .int .i64 0]) (d := (.struct (Tryz.prog.fieldsOf 29))) (by kernel_rfl) (by kernel_rfl) (by kernel_rfl) (by kernel_rfl) (by kernel_rfl) (by decide) (by decide) (by decide) (by decide) (fun _ => ⟨by kernel_rfl, by kernel_rfl, eqn29⟩) (by kernel_rfl) (⟨_, rfl, by kernel_rfl, by decide⟩)
theorem ty30 : TyOk Tryz.prog tab ⟨(.slice 68), 1, 24, [.nilsl], false⟩ 30 :=
  ty_ok (i := Tryz.t30) (z := .slice none 0 0) (d := (.slice 68)) (by kernel_rfl) (by kernel_rfl) (by kernel_rfl) (by kernel_rfl) (by kernel_rfl) (by decide) (by decide) (by decide) (by decide) (nofun) (by kernel_rfl) (rfl)
theorem ty33 : TyOk Tryz.prog tab ⟨(.slice 70), 1, 24, [.nilsl], false⟩ 33 :=
  ty_ok (i := Tryz.t33) (z := .slice none 0 0) (d := (.slice 70)) (by kernel_rfl) (by kernel_rfl) (by kernel_rfl) (by kernel_rfl) (by kernel_rfl) (by decide) (by decide) (by decide) (by decide) (nofun) (by kernel_rfl) (rfl)
theorem ty35 : TyOk Tryz.prog tab ⟨(.slice 138), 1, 24, [.nilsl], false⟩ 35 :=
  ty_ok (i := Tryz.t35) (z := .slice none 0 0) (d := (.slice 138)) (by kernel_rfl) (by kernel_rfl) (by kernel_rfl) (by kernel_rfl) (by kernel_rfl) (by decide) (by decide) (by decide) (by decide) (nofun) (by kernel_rfl) (rfl)
theorem ty36 : TyOk Tryz.prog tab ⟨(.slice 141), 1, 24, [.nilsl], false⟩ 36 :=
  ty_ok (i := Tryz.t36) (z := .slice none 0 0) (d := (.slice 141)) (by kernel_rfl) (by kernel_rfl) (by kernel_rfl) (by kernel_rfl) (by kernel_rfl) (by decide) (by decide) (by decide) (by decide) (nofun) (by kernel_rfl) (rfl)
theorem ty37 : TyOk Tryz.prog tab ⟨(.slice 146), 1, 24, [.nilsl], false⟩ 37 :=
  ty_ok (i := Tryz.t37) (z := .slice none 0 0) (d := (.slice 146)) (by kernel_rfl) (by kernel_rfl) (by kernel_rfl) (by kernel_rfl) (by kernel_rfl) (by decide) (by decide) (by decide) (by decide) (nofun) (by kernel_rfl) (rfl)
theorem ty38 : TyOk Tryz.prog tab ⟨(.struct [(0, 3), (1, 35), (2, 36), (3, 37), (4, 25)]), 5, 104, [.int .i64, .nilsl, .nilsl, .nilsl, .nilsl], false⟩ 38 :=
  ty_ok (i := Tryz.t38) (z := .agg #[.int .i64 0, .slice none 0 0, .slice none 0 0, .slice none 0 0, .slice none 0 0]) (d := (.struct (Tryz.prog.fieldsOf 38))) (by kernel_rfl) (by kernel_rfl) (by kernel_rfl) (by kernel_rfl) (by kernel_rfl) (by decide) (by decide) (by decide) (by decide) (nofun) (by kernel_rfl) (⟨_, rfl, by kernel_rfl, by decide⟩)
theorem ty39 : TyOk Tryz.prog tab ⟨(.struct [(0, 3), (1, 35), (2, 36), (3, 37), (4, 25)]), 5, 104, [.int .i64, .nilsl, .nilsl, .nilsl, .nilsl], false⟩ 39 :=
  ty_ok (i := Tryz.t39) (z := .agg #[.int .i64 0, .slice none 0 0, .slice none 0 0, .slice none 0 0, .slice none 0 0]) (d := (.struct (Tryz.prog.fieldsOf 39))) (by kernel_rfl) (by kernel_rfl) (by kernel_rfl) (by kernel_rfl) (by kernel_rfl) (by decide) (by decide) (by decide) (by decide) (nofun) (by kernel_rfl) (⟨_, rfl, by kernel_rfl, by decide⟩)
theorem eqn41 : ∀ f ∈ Tryz.prog.fieldsOf 41, f.name ≠ "_" := by
  have h : ((Tryz.prog.fieldsOf 41).toList.all fun f => f.name != "_") = true := by kernel_rfl
  intro f hf
  have := List.all_eq_true.1 h f (by simpa using hf)
  simpa using this
theorem ty41 : TyOk Tryz.prog tab ⟨(.struct [(0, 3), (1, 3), (2, 3), (3, 3)]), 4, 32, [.int .i64, .int .i64, .int .i64, .int .i64], true⟩ 41 :=
  ty_ok (i := Tryz.t41) (z := .agg #[.int .i64 0, .int .i64 0, .int .i64 0, .int .i64 0]) (d := (.struct (Tryz.prog.fieldsOf 41))) (by kernel_rfl) (by kernel_rfl) (by kernel_rfl) (by kernel_rfl) (by kernel_rfl) (by decide) (by decide) (by decide) (by decide) (fun _ => ⟨by kernel_rfl, by kernel_rfl, eqn41⟩) (by kernel_rfl) (⟨_, rfl, by kernel_rfl, by decide⟩)
theorem ty49 : TyOk Tryz.prog tab ⟨(.slice 51), 1, 24, [.nilsl], false⟩ 49 :=
  ty_ok (i := Tryz.t49) (z := .slice none 0 0) (d := (.slice 51)) (by kernel_rfl) (by kernel_rfl) (by kernel_rfl) (by kernel_rfl) (by kernel_rfl) (by decide) (by decide) (by decide) (by decide) (nofun) (by kernel_rfl) (rfl)
theorem ty50 : TyOk Tryz.prog tab ⟨(.struct [(0, 3), (1, 29), (5, 30)]), 6, 64, [.int .i64, .int .i64, .int .i64, .int .i64, .int .i64, .nilsl], false⟩ 50 :=
  ty_ok (i := Tryz.t50) (z := .agg #[.int .i64 0, .int .i64 0, .int .i64 0, .int .i64 0, .int .i64 0, .slice none 0 0]) (d := (.struct (Tryz.prog.fieldsOf 50))) (by kernel_rfl) (by kernel_rfl) (by kernel_rfl) (by kernel_rfl) (by kernel_rfl) (by decide) (by decide) (by decide) (by decide) (nofun) (by kernel_rfl) (⟨_, rfl, by kernel_rfl, by decide⟩)
theorem ty51 : TyOk Tryz.prog tab ⟨(.struct [(0, 3), (1, 29), (5, 30)]), 6, 64, [.int .i64, .int .i64, .int .i64, .int .i64, .int .i64, .nilsl], false⟩ 51 :=
  ty_ok (i := Tryz.t51) (z := .agg #[.int .i64 0, .int .i64 0, .int .i64 0, .int .i64 0, .int .i64 0, .slice none 0 0]) (d := (.struct (Tryz.prog.fieldsOf 51))) (by kernel_rfl) (by kernel_rfl) (by kernel_rfl) (by kernel_rfl) (by kernel_rfl) (by decide) (by decide) (by decide) (by decide) (nofun) (by kernel_rfl) (⟨_, rfl, by kernel_rfl, by decide⟩)
theorem ty55 : TyOk Tryz.prog tab ⟨(.slice 58), 1, 24, [.nilsl], false⟩ 55 :=
  ty_ok (i := Tryz.t55) (z := .slice none 0 0) (d := (.slice 58)) (by kernel_rfl) (by kernel_rfl) (by kernel_rfl) (by kernel_rfl) (by kernel_rfl) (by decide) (by decide) (by decide) (by decide) (nofun) (by kernel_rfl) (rfl)
theorem ty57 : TyOk Tryz.prog tab ⟨(.struct [(0, 3), (1, 41), (5, 33)]), 6, 64, [.int .i64, .int .i64, .int .i64, .int .i64, .int .i64, .nilsl], false⟩ 57 :=
  ty_ok (i := Tryz.t57) (z := .agg #[.int .i64 0, .int .i64 0, .int .i64 0, .int .i64 0, .int .i64 0, .slice none 0 0]) (d := (.struct (Tryz.prog.fieldsOf 57))) (by kernel_rfl) (by kernel_rfl) (by kernel_rfl) (by kernel_rfl) (by kernel_rfl) (by decide) (by decide) (by decide) (by decide) (nofun) (by kernel_rfl) (⟨_, rfl, by kernel_rfl, by decide⟩)
theorem ty58 : TyOk Tryz.prog tab ⟨(.struct [(0, 3), (1, 41), (5, 33)]), 6, 64, [.int .i64, .int .i64, .int .i64, .int .i64, .int .i64, .nilsl], false⟩ 58 :=
  ty_ok (i := Tryz.t58) (z := .agg #[.int .i64 0, .int .i64 0, .int .i64 0, .int .i64 0, .int .i64 0, .slice none 0 0]) (d := (.struct (Tryz.prog.fieldsOf 58))) (by kernel_rfl) (by kernel_rfl) (by kernel_rfl) (by kernel_rfl) (by kernel_rfl) (by decide) (by decide) (by decide) (by decide) (nofun) (by kernel_rfl) (⟨_, rfl, by kernel_rfl, by decide⟩)
theorem eqn68 : ∀ f ∈ Tryz.prog.fieldsOf 68, f.name ≠ "_" := by
  have h : ((Tryz.prog.fieldsOf 68).toList.all fun f => f.name != "_") = true := by kernel_rfl
  intro f hf
  have := List.all_eq_true.1 h f (by simpa using hf)
  simpa using this
theorem ty68 : TyOk Tryz.prog tab ⟨(.struct [(0, 3), (1, 3), (2, 3)]), 3, 24, [.int .i64, .int .i64, .int .i64], true⟩ 68 :=
  ty_ok (i := Tryz.t68) (z := .agg #[.int .i64 0, .int .i64 0, .int .i64 0]) (d := (.struct (Tryz.prog.fieldsOf 68))) (by kernel_rfl) (by kernel_rfl) (by kernel_rfl) (by kernel_rfl) (by kernel_rfl) (by decide) (by decide) (by decide) (by decide) (fun _ => ⟨by kernel_rfl, by kernel_rfl, eqn68⟩) (by kernel_rfl) (⟨_, rfl, by kernel_rfl, by decide⟩)
theorem eqn70 : ∀ f ∈ Tryz.prog.fieldsOf 70, f.name ≠ "_" := by
  have h : ((Tryz.prog.fieldsOf 70).toList.all fun f => f.name != "_") = true := by kernel_rfl
  intro f hf
  have := List.all_eq_true.1 h f (by simpa using hf)
  simpa using this
theorem ty70 : TyOk Tryz.prog tab ⟨(.struct [(0, 3), (1, 3), (2, 3)]), 3, 24, [.int .i64, .int .i64, .int .i64], true⟩ 70 :=
  ty_ok (i := Tryz.t70) (z := .agg #[.int .i64 0, .int .i64 0, .int .i64 0]) (d := (.struct (Tryz.prog.fieldsOf 70))) (by kernel_rfl) (by kernel_rfl) (by kernel_rfl) (by kernel_rfl) (by kernel_rfl) (by decide) (by decide) (by decide) (by decide) (fun _ => ⟨by kernel_rfl, by kernel_rfl, eqn70⟩) (by kernel_rfl) (⟨_, rfl, by kernel_rfl, by decide⟩)
theorem ty73 : TyOk Tryz.prog tab ⟨(.slice 25), 1, 24, [.nilsl], false⟩ 73 :=
  ty_ok (i := Tryz.t73) (z := .slice none 0 0) (d := (.slice 25)) (by kernel_rfl) (by kernel_rfl) (by kernel_rfl) (by kernel_rfl) (by kernel_rfl) (by decide) (by decide) (by decide) (by decide) (nofun) (by kernel_rfl) (rfl)
theorem ty75 : TyOk Tryz.prog tab ⟨(.struct [(0, 25), (1, 25), (2, 73)]), 3, 72, [.nilsl, .nilsl, .nilsl], false⟩ 75 :=
  ty_ok (i := Tryz.t75) (z := .agg #[.slice none 0 0, .slice none 0 0, .slice none 0 0]) (d := (.struct (Tryz.prog.fieldsOf 75))) (by kernel_rfl) (by kernel_rfl) (by kernel_rfl) (by kernel_rfl) (by kernel_rfl) (by decide) (by decide) (by decide) (by decide) (nofun) (by kernel_rfl) (⟨_, rfl, by kernel_rfl, by decide⟩)
theorem ty76 : TyOk Tryz.prog tab ⟨(.struct [(0, 27), (5, 75), (8, 30), (9, 49)]), 10, 224, [.int .i64, .nilsl, .nilsl, .nilsl, .nilsl, .nilsl, .nilsl, .nilsl, .nilsl, .nilsl], false⟩ 76 :=
  ty_ok (i := Tryz.t76) (z := .agg #[.int .i64 0, .slice none 0 0, .slice none 0 0, .slice none 0 0, .slice none 0 0, .slice none 0 0, .slice none 0 0, .slice none 0 0, .slice none 0 0, .slice none 0 0]) (d := (.struct (Tryz.prog.fieldsOf 76))) (by kernel_rfl) (by kernel_rfl) (by kernel_rfl) (by kernel_rfl) (by kernel_rfl) (by decide) (by decide) (by decide) (by decide) (nofun) (by kernel_rfl) (⟨_, rfl, by kernel_rfl, by decide⟩)
theorem ty77 : TyOk Tryz.prog tab ⟨(.struct [(0, 27), (5, 75), (8, 30), (9, 49)]), 10, 224, [.int .i64, .nilsl, .nilsl, .nilsl, .nilsl, .nilsl, .nilsl, .nilsl, .nilsl, .nilsl], false⟩ 77 :=
  ty_ok (i := Tryz.t77) (z := .agg #[.int .i64 0, .slice none 0 0, .slice none 0 0, .slice none 0 0, .slice none 0 0, .slice none 0 0, .slice none 0 0, .slice none 0 0, .slice none 0 0, .slice none 0 0]) (d := (.struct (Tryz.prog.fieldsOf 77))) (by kernel_rfl) (by kernel_rfl) (by kernel_rfl) (by kernel_rfl) (by kernel_rfl) (by decide) (by decide) (by decide) (by decide) (nofun) (by kernel_rfl) (⟨_, rfl, by kernel_rfl, by decide⟩)
theorem ty80 : TyOk Tryz.prog tab ⟨(.struct [(0, 25), (1, 25), (2, 73)]), 3, 72, [.nilsl, .nilsl, .nilsl], false⟩ 80 :=
  ty_ok (i := Tryz.t80) (z := .agg #[.slice none 0 0, .slice none 0 0, .slice none 0 0]) (d := (.struct (Tryz.prog.fieldsOf 80))) (by kernel_rfl) (by kernel_rfl) (by kernel_rfl) (by kernel_rfl) (by kernel_rfl) (by decide) (by decide) (by decide) (by decide) (nofun) (by kernel_rfl) (⟨_, rfl, by kernel_rfl, by decide⟩)
theorem ty81 : TyOk Tryz.prog tab ⟨(.struct [(0, 39), (5, 80), (8, 33), (9, 55)]), 10, 224, [.int .i64, .nilsl, .nilsl, .nilsl, .nilsl, .nilsl, .nilsl, .nilsl, .nilsl, .nilsl], false⟩ 81 :=
  ty_ok (i := Tryz.t81) (z := .agg #[.int .i64 0, .slice none 0 0, .slice none 0 0, .slice none 0 0, .slice none 0 0, .slice none 0 0, .slice none 0 0, .slice none 0 0, .slice none 0 0, .slice none 0 0]) (d := (.struct (Tryz.prog.fieldsOf 81))) (by kernel_rfl) (by kernel_rfl) (by kernel_rfl) (by kernel_rfl) (by kernel_rfl) (by decide) (by decide) (by decide) (by decide) (nofun) (by kernel_rfl) (⟨_, rfl, by kernel_rfl, by decide⟩)
theorem ty82 : TyOk Tryz.prog tab ⟨(.struct [(0, 39), (5, 80), (8, 33), (9, 55)]), 10, 224, [.int .i64, .nilsl, .nilsl, .nilsl, .nilsl, .nilsl, .nilsl, .nilsl, .nilsl, .nilsl], false⟩ 82 :=
  ty_ok (i := Tryz.t82) (z := .agg #[.int .i64 0, .slice none 0 0, .slice none 0 0, .slice none 0 0, .slice none 0 0, .slice none 0 0, .slice none 0 0, .slice none 0 0, .slice none 0 0, .slice none 0 0]) (d := (.struct (Tryz.prog.fieldsOf 82))) (by kernel_rfl) (by kernel_rfl) (by kernel_rfl) (by kernel_rfl) (by kernel_rfl) (by decide) (by decide) (by decide) (by decide) (nofun) (by kernel_rfl) (⟨_, rfl, by kernel_rfl, by decide⟩)
theorem ty111 : TyOk Tryz.prog tab ⟨(.slice 33), 1, 24, [.nilsl], false⟩ 111 :=
  ty_ok (i := Tryz.t111) (z := .slice none 0 0) (d := (.slice 33)) (by kernel_rfl) (by kernel_rfl) (by kernel_rfl) (by kernel_rfl) (by kernel_rfl) (by decide) (by decide) (by decide) (by decide) (nofun) (by kernel_rfl) (rfl)
theorem ty125 : TyOk Tryz.prog tab ⟨(.slice 211), 1, 24, [.nilsl], false⟩ 125 :=
  ty_ok (i := Tryz.t125) (z := .slice none 0 0) (d := (.slice 211)) (by kernel_rfl) (by kernel_rfl) (by kernel_rfl) (by kernel_rfl) (by kernel_rfl) (by decide) (by decide) (by decide) (by decide) (nofun) (by kernel_rfl) (rfl)
theorem ty126 : TyOk Tryz.prog tab ⟨(.struct [(0, 9), (1, 3), (2, 125)]), 3, 48, [.str, .int .i64, .nilsl], false⟩ 126 :=
  ty_ok (i := Tryz.t126) (z := .agg #[.string ⟨#[]⟩, .int .i64 0, .slice none 0 0]) (d := (.struct (Tryz.prog.fieldsOf 126))) (by kernel_rfl) (by kernel_rfl) (by kernel_rfl) (by kernel_rfl) (by kernel_rfl) (by decide) (by decide) (by decide) (by decide) (nofun) (by kernel_rfl) (⟨_, rfl, by kernel_rfl, by decide⟩)
theorem ty127 : TyOk Tryz.prog tab ⟨(.struct [(0, 9), (1, 3), (2, 125)]), 3, 48, [.str, .int .i64, .nilsl], false⟩ 127 :=
  ty_ok (i := Tryz.t127) (z := .agg #[.string ⟨#[]⟩, .int .i64 0, .slice none 0 0]) (d := (.struct (Tryz.prog.fieldsOf 127))) (by kernel_rfl) (by kernel_rfl) (by kernel_rfl) (by kernel_rfl) (by kernel_rfl) (by decide) (by decide) (by decide) (by decide) (nofun) (by kernel_rfl) (⟨_, rfl, by kernel_rfl, by decide⟩)
theorem ty129 : TyOk Tryz.prog tab ⟨(.slice 218), 1, 24, [.nilsl], false⟩ 129 :=
  ty_ok (i := Tryz.t129) (z := .slice none 0 0) (d := (.slice 218)) (by kernel_rfl) (by kernel_rfl) (by kernel_rfl) (by kernel_rfl) (by kernel_rfl) (by decide) (by decide) (by decide) (by decide) (nofun) (by kernel_rfl) (rfl)
theorem ty130 : TyOk Tryz.prog tab ⟨(.struct [(0, 129), (1, 73)]), 2, 48, [.nilsl, .nilsl], false⟩ 130 :=
  ty_ok (i := Tryz.t130) (z := .agg #[.slice none 0 0, .slice none 0 0]) (d := (.struct (Tryz.prog.fieldsOf 130))) (by kernel_rfl) (by kernel_rfl) (by kernel_rfl) (by kernel_rfl) (by kernel_rfl) (by decide) (by decide) (by decide) (by decide) (nofun) (by kernel_rfl) (⟨_, rfl, by kernel_rfl, by decide⟩)
theorem ty131 : TyOk Tryz.prog tab ⟨(.struct [(0, 129), (1, 73)]), 2, 48, [.nilsl, .nilsl], false⟩ 131 :=
  ty_ok (i := Tryz.t131) (z := .agg #[.slice none 0 0, .slice none 0 0]) (d := (.struct (Tryz.prog.fieldsOf 131))) (by kernel_rfl) (by kernel_rfl) (by kernel_rfl) (by kernel_rfl) (by kernel_rfl) (by decide) (by decide) (by decide) (by decide) (nofun) (by kernel_rfl) (⟨_, rfl, by kernel_rfl, by decide⟩)
theorem ty136 : TyOk Tryz.prog tab ⟨(.slice 195), 1, 24, [.nilsl], false⟩ 136 :=
  ty_ok (i := Tryz.t136) (z := .slice none 0 0) (d := (.slice 195)) (by kernel_rfl) (by kernel_rfl) (by kernel_rfl) (by kernel_rfl) (by kernel_rfl) (by decide) (by decide) (by decide) (by decide) (nofun) (by kernel_rfl) (rfl)
theorem ty137 : TyOk Tryz.prog tab ⟨(.struct [(0, 9), (1, 3), (2, 136)]), 3, 48, [.str, .int .i64, .nilsl], false⟩ 137 :=
  ty_ok (i := Tryz.t137) (z := .agg #[.string ⟨#[]⟩, .int .i64 0, .slice none 0 0]) (d := (.struct (Tryz.prog.fieldsOf 137))) (by kernel_rfl) (by kernel_rfl) (by kernel_rfl) (by kernel_rfl) (by kernel_rfl) (by decide) (by decide) (by decide) (by decide) (nofun) (by kernel_rfl) (⟨_, rfl, by kernel_rfl, by decide⟩)
theorem ty138 : TyOk Tryz.prog tab ⟨(.struct [(0, 9), (1, 3), (2, 136)]), 3, 48, [.str, .int .i64, .nilsl], false⟩ 138 :=
  ty_ok (i := Tryz.t138) (z := .agg #[.string ⟨#[]⟩, .int .i64 0, .slice none 0 0]) (d := (.struct (Tryz.prog.fieldsOf 138))) (by kernel_rfl) (by kernel_rfl) (by kernel_rfl) (by kernel_rfl) (by kernel_rfl) (by decide) (by decide) (by decide) (by decide) (nofun) (by kernel_rfl) (⟨_, rfl, by kernel_rfl, by decide⟩)
theorem eqn141 : ∀ f ∈ Tryz.prog.fieldsOf 141, f.name ≠ "_" := by
  have h : ((Tryz.prog.fieldsOf 141).toList.all fun f => f.name != "_") = true := by kernel_rfl
  intro f hf
  have := List.all_eq_true.1 h f (by simpa using hf)
  simpa using this
theorem ty141 : TyOk Tryz.prog tab ⟨(.struct [(0, 3), (1, 3), (2, 4), (3, 3)]), 4, 32, [.int .i64, .int .i64, .bool, .int .i64], true⟩ 141 :=
  ty_ok (i := Tryz.t141) (z := .agg #[.int .i64 0, .int .i64 0, .bool false, .int .i64 0]) (d := (.struct (Tryz.prog.fieldsOf 141))) (by kernel_rfl) (by kernel_rfl) (by kernel_rfl) (by kernel_rfl) (by kernel_rfl) (by decide) (by decide) (by decide) (by decide) (fun _ => ⟨by kernel_rfl, by kernel_rfl, eqn141⟩) (by kernel_rfl) (⟨_, rfl, by kernel_rfl, by decide⟩)
theorem eqn143 : ∀ f ∈ Tryz.prog.fieldsOf 143, f.name ≠ "_" := by
  have h : ((Tryz.prog.fieldsOf 143).toList.all fun f => f.name != "_") = true := by kernel_rfl
  intro f hf
  have := List.all_eq_true.1 h f (by simpa using hf)
  simpa using this
theorem ty143 : TyOk Tryz.prog tab ⟨(.struct [(0, 3), (1, 3), (2, 4), (3, 3)]), 4, 32, [.int .i64, .int .i64, .bool, .int .i64], true⟩ 143 :=
  ty_ok (i := Tryz.t143) (z := .agg #[.int .i64 0, .int .i64 0, .bool false, .int .i64 0]) (d := (.struct (Tryz.prog.fieldsOf 143))) (by kernel_rfl) (by kernel_rfl) (by kernel_rfl) (by kernel_rfl) (by kernel_rfl) (by decide) (by decide) (by decide) (by decide) (fun _ => ⟨by kernel_rfl, by kernel_rfl, eqn143⟩) (by kernel_rfl) (⟨_, rfl, by kernel_rfl, by decide⟩)
theorem ty144 : TyOk Tryz.prog tab ⟨(.slice 197), 1, 24, [.nilsl], false⟩ 144 :=
  ty_ok (i := Tryz.t144) (z := .slice none 0 0) (d := (.slice 197)) (by kernel_rfl) (by kernel_rfl) (by kernel_rfl) (by kernel_rfl) (by kernel_rfl) (by decide) (by decide) (by decide) (by decide) (nofun) (by kernel_rfl) (rfl)
theorem ty145 : TyOk Tryz.prog tab ⟨(.struct [(0, 144), (1, 73)]), 2, 48, [.nilsl, .nilsl], false⟩ 145 :=
  ty_ok (i := Tryz.t145) (z := .agg #[.slice none 0 0, .slice none 0 0]) (d := (.struct (Tryz.prog.fieldsOf 145))) (by kernel_rfl) (by kernel_rfl) (by kernel_rfl) (by kernel_rfl) (by kernel_rfl) (by decide) (by decide) (by decide) (by decide) (nofun) (by kernel_rfl) (⟨_, rfl, by kernel_rfl, by decide⟩)
theorem ty146 : TyOk Tryz.prog tab ⟨(.struct [(0, 144), (1, 73)]), 2, 48, [.nilsl, .nilsl], false⟩ 146 :=
  ty_ok (i := Tryz.t146) (z := .agg #[.slice none 0 0, .slice none 0 0]) (d := (.struct (Tryz.prog.fieldsOf 146))) (by kernel_rfl) (by kernel_rfl) (by kernel_rfl) (by kernel_rfl) (by kernel_rfl) (by decide) (by decide) (by decide) (by decide) (nofun) (by kernel_rfl) (⟨_, rfl, by kernel_rfl, by decide⟩)
theorem ty193 : TyOk Tryz.prog tab ⟨(.slice 5), 1, 24, [.nilsl], false⟩ 193 :=
  ty_ok (i := Tryz.t193) (z := .slice none 0 0) (d := (.slice 5)) (by kernel_rfl) (by kernel_rfl) (by kernel_rfl) (by kernel_rfl) (by kernel_rfl) (by decide) (by decide) (by decide) (by decide) (nofun) (by kernel_rfl) (rfl)
theorem ty195 : TyOk Tryz.prog tab ⟨(.struct [(0, 3), (1, 25), (2, 25)]), 3, 56, [.int .i64, .nilsl, .nilsl], false⟩ 195 :=
  ty_ok (i := Tryz.t195) (z := .agg #[.int .i64 0, .slice none 0 0, .slice none 0 0]) (d := (.struct (Tryz.prog.fieldsOf 195))) (by kernel_rfl) (by kernel_rfl) (by kernel_rfl) (by kernel_rfl) (by kernel_rfl) (by decide) (by decide) (by decide) (by decide) (nofun) (by kernel_rfl) (⟨_, rfl, by kernel_rfl, by decide⟩)
theorem eqn197 : ∀ f ∈ Tryz.prog.fieldsOf 197, f.name ≠ "_" := by
  have h : ((Tryz.prog.fieldsOf 197).toList.all fun f => f.name != "_") = true := by kernel_rfl
  intro f hf
  have := List.all_eq_true.1 h f (by simpa using hf)
  simpa using this
theorem ty197 : TyOk Tryz.prog tab ⟨(.struct [(0, 3), (1, 3)]), 2, 16, [.int .i64, .int .i64], true⟩ 197 :=
  ty_ok (i := Tryz.t197) (z := .agg #[.int .i64 0, .int .i64 0]) (d := (.struct (Tryz.prog.fieldsOf 197))) (by kernel_rfl) (by kernel_rfl) (by kernel_rfl) (by kernel_rfl) (by kernel_rfl) (by decide) (by decide) (by decide) (by decide) (fun _ => ⟨by kernel_rfl, by kernel_rfl, eqn197⟩) (by kernel_rfl) (⟨_, rfl, by kernel_rfl, by decide⟩)
theorem ty211 : TyOk Tryz.prog tab ⟨(.struct [(0, 3), (1, 25), (2, 25)]), 3, 56, [.int .i64, .nilsl, .nilsl], false⟩ 211 :=
  ty_ok (i := Tryz.t211) (z := .agg #[.int .i64 0, .slice none 0 0, .slice none 0 0]) (d := (.struct (Tryz.prog.fieldsOf 211))) (by kernel_rfl) (by kernel_rfl) (by kernel_rfl) (by kernel_rfl) (by kernel_rfl) (by decide) (by decide) (by decide) (by decide) (nofun) (by kernel_rfl) (⟨_, rfl, by kernel_rfl, by decide⟩)
theorem eqn218 : ∀ f ∈ Tryz.prog.fieldsOf 218, f.name ≠ "_" := by
  have h : ((Tryz.prog.fieldsOf 218).toList.all fun f => f.name != "_") = true := by kernel_rfl
  intro f hf
  have := List.all_eq_true.1 h f (by simpa using hf)
  simpa using this
theorem ty218 : TyOk Tryz.prog tab ⟨(.struct [(0, 3), (1, 3)]), 2, 16, [.int .i64, .int .i64], true⟩ 218 :=
  ty_ok (i := Tryz.t218) (z := .agg #[.int .i64 0, .int .i64 0]) (d := (.struct (Tryz.prog.fieldsOf 218))) (by kernel_rfl) (by kernel_rfl) (by kernel_rfl) (by kernel_rfl) (by kernel_rfl) (by decide) (by decide) (by decide) (by decide) (fun _ => ⟨by kernel_rfl, by kernel_rfl, eqn218⟩) (by kernel_rfl) (⟨_, rfl, by kernel_rfl, by decide⟩)
theorem tabOk : TabOk Tryz.prog tab := tab_ok ⟨ty70, ⟨ty33, ⟨ty23, ⟨ty5, ⟨ty3, ⟨ty2, trivial, trivial⟩, ⟨ty4, trivial, trivial⟩⟩, ⟨ty22, ⟨ty9, trivial, trivial⟩, trivial⟩⟩, ⟨ty27, ⟨ty25, ⟨ty24, trivial, trivial⟩, ⟨ty26, trivial, trivial⟩⟩, ⟨ty30, ⟨ty29, trivial, trivial⟩, trivial⟩⟩⟩, ⟨ty49, ⟨ty38, ⟨ty36, ⟨ty35, trivial, trivial⟩, ⟨ty37, trivial, trivial⟩⟩, ⟨ty41, ⟨ty39, trivial, trivial⟩, trivial⟩⟩, ⟨ty57, ⟨ty51, ⟨ty50, trivial, trivial⟩, ⟨ty55, trivial, trivial⟩⟩, ⟨ty68, ⟨ty58, trivial, trivial⟩, trivial⟩⟩⟩⟩, ⟨ty131, ⟨ty82, ⟨ty77, ⟨ty75, ⟨ty73, trivial, trivial⟩, ⟨ty76, trivial, trivial⟩⟩, ⟨ty81, ⟨ty80, trivial, trivial⟩, trivial⟩⟩, ⟨ty127, ⟨ty125, ⟨ty111, trivial, trivial⟩, ⟨ty126, trivial, trivial⟩⟩, ⟨ty130, ⟨ty129, trivial, trivial⟩, trivial⟩⟩⟩, ⟨ty145, ⟨ty141, ⟨ty137, ⟨ty136, trivial, trivial⟩, ⟨ty138, trivial, trivial⟩⟩, ⟨ty144, ⟨ty143, trivial, trivial⟩, trivial⟩⟩, ⟨ty197, ⟨ty193, ⟨ty146, trivial, trivial⟩, ⟨ty195, trivial, trivial⟩⟩, ⟨ty218, ⟨ty211, trivial, trivial⟩, trivial⟩⟩⟩⟩⟩
end Go.Proofs.YtagafgkmeekfoaaGreat.Abs
