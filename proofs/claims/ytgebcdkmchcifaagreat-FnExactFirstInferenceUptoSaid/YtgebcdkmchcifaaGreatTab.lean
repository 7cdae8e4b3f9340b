/- The table of the types of this seat: what the abstract layer must know of them, by closed facts. Printed by gentab.py. No statement of a claim. -/
import Derived.Test.YtgebcdkmchcifaaGreatLayB
import Derived.Test.YtgebcdkmchcifaaGreatProg
import Derived.KernelRfl
set_option linter.all false
namespace Go.Proofs.YtgebcdkmchcifaaGreat.Abs
open Go.Proofs
def tree : Tree := (.node 58 ⟨(.struct [(0, 3), (1, 3), (2, 3)]), 3, 24, [.int .i64, .int .i64, .int .i64], true⟩ (.node 28 ⟨(.slice 25), 1, 24, [.nilsl], false⟩ (.node 22 ⟨(.slice 107), 1, 24, [.nilsl], false⟩ (.node 4 ⟨.bool, 1, 1, [.bool], false⟩ (.node 3 ⟨(.int .i64), 1, 8, [.int .i64], false⟩ (.node 2 ⟨(.int .i64), 1, 8, [.int .i64], false⟩ .leaf .leaf) .leaf) (.node 9 ⟨.str, 1, 16, [.str], false⟩ (.node 5 ⟨(.int .u8), 1, 1, [.int .u8], false⟩ .leaf .leaf) .leaf)) (.node 25 ⟨(.slice 3), 1, 24, [.nilsl], false⟩ (.node 24 ⟨(.slice 111), 1, 24, [.nilsl], false⟩ (.node 23 ⟨(.slice 125), 1, 24, [.nilsl], false⟩ .leaf .leaf) .leaf) (.node 27 ⟨(.struct [(0, 3), (1, 22), (2, 23), (3, 24), (4, 25)]), 5, 104, [.int .i64, .nilsl, .nilsl, .nilsl, .nilsl], false⟩ (.node 26 ⟨(.struct [(0, 3), (1, 22), (2, 23), (3, 24), (4, 25)]), 5, 104, [.int .i64, .nilsl, .nilsl, .nilsl, .nilsl], false⟩ .leaf .leaf) .leaf))) (.node 39 ⟨(.slice 128), 1, 24, [.nilsl], false⟩ (.node 35 ⟨(.slice 58), 1, 24, [.nilsl], false⟩ (.node 32 ⟨(.struct [(0, 3), (1, 3), (2, 3), (3, 3)]), 4, 32, [.int .i64, .int .i64, .int .i64, .int .i64], true⟩ (.node 30 ⟨(.struct [(0, 25), (1, 25), (2, 28)]), 3, 72, [.nilsl, .nilsl, .nilsl], false⟩ .leaf .leaf) .leaf) (.node 38 ⟨(.slice 123), 1, 24, [.nilsl], false⟩ (.node 37 ⟨(.slice 120), 1, 24, [.nilsl], false⟩ .leaf .leaf) .leaf)) (.node 43 ⟨(.struct [(0, 25), (1, 25), (2, 28)]), 3, 72, [.nilsl, .nilsl, .nilsl], false⟩ (.node 41 ⟨(.struct [(0, 3), (1, 37), (2, 38), (3, 39), (4, 25)]), 5, 104, [.int .i64, .nilsl, .nilsl, .nilsl, .nilsl], false⟩ (.node 40 ⟨(.struct [(0, 3), (1, 37), (2, 38), (3, 39), (4, 25)]), 5, 104, [.int .i64, .nilsl, .nilsl, .nilsl, .nilsl], false⟩ .leaf .leaf) .leaf) (.node 55 ⟨(.struct [(0, 3), (1, 3), (2, 3)]), 3, 24, [.int .i64, .int .i64, .int .i64], true⟩ (.node 45 ⟨(.struct [(0, 3), (1, 3), (2, 3), (3, 3)]), 4, 32, [.int .i64, .int .i64, .int .i64, .int .i64], true⟩ .leaf .leaf) .leaf)))) (.node 120 ⟨(.struct [(0, 9), (1, 3), (2, 118)]), 3, 48, [.str, .int .i64, .nilsl], false⟩ (.node 107 ⟨(.struct [(0, 9), (1, 3), (2, 105)]), 3, 48, [.str, .int .i64, .nilsl], false⟩ (.node 99 ⟨(.slice 45), 1, 24, [.nilsl], false⟩ (.node 64 ⟨(.struct [(0, 58), (3, 45), (7, 35)]), 8, 80, [.int .i64, .int .i64, .int .i64, .int .i64, .int .i64, .int .i64, .int .i64, .nilsl], false⟩ (.node 63 ⟨(.struct [(0, 58), (3, 45), (7, 35)]), 8, 80, [.int .i64, .int .i64, .int .i64, .int .i64, .int .i64, .int .i64, .int .i64, .nilsl], false⟩ .leaf .leaf) .leaf) (.node 106 ⟨(.struct [(0, 9), (1, 3), (2, 105)]), 3, 48, [.str, .int .i64, .nilsl], false⟩ (.node 105 ⟨(.slice 196), 1, 24, [.nilsl], false⟩ .leaf .leaf) .leaf)) (.node 111 ⟨(.struct [(0, 109), (1, 28)]), 2, 48, [.nilsl, .nilsl], false⟩ (.node 110 ⟨(.struct [(0, 109), (1, 28)]), 2, 48, [.nilsl, .nilsl], false⟩ (.node 109 ⟨(.slice 201), 1, 24, [.nilsl], false⟩ .leaf .leaf) .leaf) (.node 119 ⟨(.struct [(0, 9), (1, 3), (2, 118)]), 3, 48, [.str, .int .i64, .nilsl], false⟩ (.node 118 ⟨(.slice 185), 1, 24, [.nilsl], false⟩ .leaf .leaf) .leaf))) (.node 154 ⟨(.struct [(0, 3), (1, 3)]), 2, 16, [.int .i64, .int .i64], true⟩ (.node 126 ⟨(.slice 154), 1, 24, [.nilsl], false⟩ (.node 125 ⟨(.struct [(0, 3), (1, 3), (2, 4), (3, 3)]), 4, 32, [.int .i64, .int .i64, .bool, .int .i64], true⟩ (.node 123 ⟨(.struct [(0, 3), (1, 3), (2, 4), (3, 3)]), 4, 32, [.int .i64, .int .i64, .bool, .int .i64], true⟩ .leaf .leaf) .leaf) (.node 128 ⟨(.struct [(0, 126), (1, 28)]), 2, 48, [.nilsl, .nilsl], false⟩ (.node 127 ⟨(.struct [(0, 126), (1, 28)]), 2, 48, [.nilsl, .nilsl], false⟩ .leaf .leaf) .leaf)) (.node 196 ⟨(.struct [(0, 3), (1, 25), (2, 25)]), 3, 56, [.int .i64, .nilsl, .nilsl], false⟩ (.node 185 ⟨(.struct [(0, 3), (1, 25), (2, 25)]), 3, 56, [.int .i64, .nilsl, .nilsl], false⟩ (.node 183 ⟨(.slice 5), 1, 24, [.nilsl], false⟩ .leaf .leaf) .leaf) (.node 201 ⟨(.struct [(0, 3), (1, 3)]), 2, 16, [.int .i64, .int .i64], true⟩ .leaf .leaf)))))
def tab : Nat → Ty := tree.find
theorem ty2 : TyOk Tryz.prog tab ⟨(.int .i64), 1, 8, [.int .i64], false⟩ 2 :=
  ty_ok (i := Tryz.t2) (z := .int .i64 0) (d := (.int .i64)) (by kernel_rfl) (by kernel_rfl) (by kernel_rfl) (by kernel_rfl) (by kernel_rfl) (by decide) (by decide) (by decide) (by decide) (nofun) (by kernel_rfl) (rfl)
theorem ty3 : TyOk Tryz.prog tab ⟨(.int .i64), 1, 8, [.int .i64], false⟩ 3 :=
  ty_ok (i := Tryz.t3) (z := .int .i64 0) (d := (.int .i64)) (by kernel_rfl) (by kernel_rfl) (by kernel_rfl) (by kernel_rfl) (by kernel_rfl) (by decide) (by decide) (by decide) (by decide) (nofun) (by kernel_rfl) (rfl)
theorem ty4 : TyOk Tryz.prog tab ⟨.bool, 1, 1, [.bool], false⟩ 4 :=
  ty_ok (i := Tryz.t4) (z := .bool false) (d := .bool) (by kernel_rfl) (by kernel_rfl) (by kernel_rfl) (by kernel_rfl) (by kernel_rfl) (by decide) (by decide) (by decide) (by decide) (nofun) (by kernel_rfl) (rfl)
theorem ty5 : TyOk Tryz.prog tab ⟨(.int .u8), 1, 1, [.int .u8], false⟩ 5 :=
  ty_ok (i := Tryz.t5) (z := .int .u8 0) (d := (.int .u8)) (by kernel_rfl) (by kernel_rfl) (by kernel_rfl) (by kernel_rfl) (by kernel_rfl) (by decide) (by decide) (by decide) (by decide) (nofun) (by kernel_rfl) (rfl)
theorem ty9 : TyOk Tryz.prog tab ⟨.str, 1, 16, [.str], false⟩ 9 :=
  ty_ok (i := Tryz.t9) (z := .string ⟨#[]⟩) (d := .string) (by kernel_rfl) (by kernel_rfl) (by kernel_rfl) (by kernel_rfl) (by kernel_rfl) (by decide) (by decide) (by decide) (by decide) (nofun) (by kernel_rfl) (rfl)
theorem ty22 : TyOk Tryz.prog tab ⟨(.slice 107), 1, 24, [.nilsl], false⟩ 22 :=
  ty_ok (i := Tryz.t22) (z := .slice none 0 0) (d := (.slice 107)) (by kernel_rfl) (by kernel_rfl) (by kernel_rfl) (by kernel_rfl) (by kernel_rfl) (by decide) (by decide) (by decide) (by decide) (nofun) (by kernel_rfl) (rfl)
theorem ty23 : TyOk Tryz.prog tab ⟨(.slice 125), 1, 24, [.nilsl], false⟩ 23 :=
  ty_ok (i := Tryz.t23) (z := .slice none 0 0) (d := (.slice 125)) (by kernel_rfl) (by kernel_rfl) (by kernel_rfl) (by kernel_rfl) (by kernel_rfl) (by decide) (by decide) (by decide) (by decide) (nofun) (by kernel_rfl) (rfl)
theorem ty24 : TyOk Tryz.prog tab ⟨(.slice 111), 1, 24, [.nilsl], false⟩ 24 :=
  ty_ok (i := Tryz.t24) (z := .slice none 0 0) (d := (.slice 111)) (by kernel_rfl) (by kernel_rfl) (by kernel_rfl) (by kernel_rfl) (by kernel_rfl) (by decide) (by decide) (by decide) (by decide) (nofun) (by kernel_rfl) (rfl)
theorem ty25 : TyOk Tryz.prog tab ⟨(.slice 3), 1, 24, [.nilsl], false⟩ 25 :=
  ty_ok (i := Tryz.t25) (z := .slice none 0 0) (d := (.slice 3)) (by kernel_rfl) (by kernel_rfl) (by kernel_rfl) (by kernel_rfl) (by kernel_rfl) (by decide) (by decide) (by decide) (by decide) (nofun) (by kernel_rfl) (rfl)
theorem ty26 : TyOk Tryz.prog tab ⟨(.struct [(0, 3), (1, 22), (2, 23), (3, 24), (4, 25)]), 5, 104, [.int .i64, .nilsl, .nilsl, .nilsl, .nilsl], false⟩ 26 :=
  ty_ok (i := Tryz.t26) (z := .agg #[.int .i64 0, .slice none 0 0, .slice none 0 0, .slice none 0 0, .slice none 0 0]) (d := (.struct (Tryz.prog.fieldsOf 26))) (by kernel_rfl) (by kernel_rfl) (by kernel_rfl) (by kernel_rfl) (by kernel_rfl) (by decide) (by decide) (by decide) (by decide) (nofun) (by kernel_rfl) (⟨_, rfl, by kernel_rfl, by decide⟩)
theorem ty27 : TyOk Tryz.prog tab ⟨(.struct [(0, 3), (1, 22), (2, 23), (3, 24), (4, 25)]), 5, 104, [.int .i64, .nilsl, .nilsl, .nilsl, .nilsl], false⟩ 27 :=
  ty_ok (i := Tryz.t27) (z := .agg #[.int .i64 0, .slice none 0 0, .slice none 0 0, .slice none 0 0, .slice none 0 0]) (d := (.struct (Tryz.prog.fieldsOf 27))) (by kernel_rfl) (by kernel_rfl) (by kernel_rfl) (by kernel_rfl) (by kernel_rfl) (by decide) (by decide) (by decide) (by decide) (nofun) (by kernel_rfl) (⟨_, rfl, by kernel_rfl, by decide⟩)
theorem ty28 : TyOk Tryz.prog tab ⟨(.slice 25), 1, 24, [.nilsl], false⟩ 28 :=
  ty_ok (i := Tryz.t28) (z := .slice none 0 0) (d := (.slice 25)) (by kernel_rfl) (by kernel_rfl) (by kernel_rfl) (by kernel_rfl) (by kernel_rfl) (by decide) (by decide) (by decide) (by decide) (nofun) (by kernel_rfl) (rfl)
theorem ty30 : TyOk Tryz.prog tab ⟨(.struct [(0, 25), (1, 25), (2, 28)]), 3, 72, [.nilsl, .nilsl, .nilsl], false⟩ 30 :=
  ty_ok (i := Tryz.t30) (z := .agg #[.slice none 0 0, .slice none 0 0, .slice none 0 0]) (d := (.struct (Tryz.prog.fieldsOf 30))) (by kernel_rfl) (by kernel_rfl) (by kernel_rfl) (by kernel_rfl) (by kernel_rfl) (by decide) (by decide) (by decide) (by decide) (nofun) (by kernel_rfl) (⟨_, rfl, by kernel_rfl, by decide⟩)
theorem eqn32 : ∀ f ∈ Tryz.prog.fieldsOf 32, f.name ≠ "_" := by
  have h : ((Tryz.prog.fieldsOf 32).toList.all fun f => f.name != "_") = true := by kernel_rfl
  intro f hf
  have := List.all_eq_true.1 h f (by simpa using hf)
  simpa using this
theorem ty32 : TyOk Tryz.prog tab ⟨(.struct [(0, 3), (1, 3), (2, 3), (3, 3)]), 4, 32, [.int .i64, .int .i64, .int .i64, .int .i64], true⟩ 32 :=
  ty_ok (i := Tryz.t32) (z := .agg #[.int .i64 0, .int .i64 0, .int .i64 0, .int .i64 0]) (d := (.struct (Tryz.prog.fieldsOf 32))) (by kernel_rfl) (by kernel_rfl) (by kernel_rfl) (by kernel_rfl) (by kernel_rfl) (by decide) (by decide) (by decide) (by decide) (fun _ => ⟨by kernel_rfl, by kernel_rfl, eqn32⟩) (by kernel_rfl) (⟨_, rfl, by kernel_rfl, by decide⟩)
theorem ty35 : TyOk Tryz.prog tab ⟨(.slice 58), 1, 24, [.nilsl], false⟩ 35 :=
  ty_ok (i := Tryz.t35) (z := .slice none 0 0) (d := (.slice 58)) (by kernel_rfl) (by kernel_rfl) (by kernel_rfl) (by kernel_rfl) (by kernel_rfl) (by decide) (by decide) (by decide) (by decide) (nofun) (by kernel_rfl) (rfl)
theorem ty37 : TyOk Tryz.prog tab ⟨(.slice 120), 1, 24, [.nilsl], false⟩ 37 :=
  ty_ok (i := Tryz.t37) (z := .slice none 0 0) (d := (.slice 120)) (by kernel_rfl) (by kernel_rfl) (by kernel_rfl) (by kernel_rfl) (by kernel_rfl) (by decide) (by decide) (by decide) (by decide) (nofun) (by kernel_rfl) (rfl)
theorem ty38 : TyOk Tryz.prog tab ⟨(.slice 123), 1, 24, [.nilsl], false⟩ 38 :=
  ty_ok (i := Tryz.t38) (z := .slice none 0 0) (d := (.slice 123)) (by kernel_rfl) (by kernel_rfl) (by kernel_rfl) (by kernel_rfl) (by kernel_rfl) (by decide) (by decide) (by decide) (by decide) (nofun) (by kernel_rfl) (rfl)
theorem ty39 : TyOk Tryz.prog tab ⟨(.slice 128), 1, 24, [.nilsl], false⟩ 39 :=
  ty_ok (i := Tryz.t39) (z := .slice none 0 0) (d := (.slice 128)) (by kernel_rfl) (by kernel_rfl) (by kernel_rfl) (by kernel_rfl) (by kernel_rfl) (by decide) (by decide) (by decide) (by decide) (nofun) (by kernel_rfl) (rfl)
theorem ty40 : TyOk Tryz.prog tab ⟨(.struct [(0, 3), (1, 37), (2, 38), (3, 39), (4, 25)]), 5, 104, [.int .i64, .nilsl, .nilsl, .nilsl, .nilsl], false⟩ 40 :=
  ty_ok (i := Tryz.t40) (z := .agg #[.int .i64 0, .slice none 0 0, .slice none 0 0, .slice none 0 0, .slice none 0 0]) (d := (.struct (Tryz.prog.fieldsOf 40))) (by kernel_rfl) (by kernel_rfl) (by kernel_rfl) (by kernel_rfl) (by kernel_rfl) (by decide) (by decide) (by decide) (by decide) (nofun) (by kernel_rfl) (⟨_, rfl, by kernel_rfl, by decide⟩)
theorem ty41 : TyOk Tryz.prog tab ⟨(.struct [(0, 3), (1, 37), (2, 38), (3, 39), (4, 25)]), 5, 104, [.int .i64, .nilsl, .nilsl, .nilsl, .nilsl], false⟩ 41 :=
  ty_ok (i := Tryz.t41) (z := .agg #[.int .i64 0, .slice none 0 0, .slice none 0 0, .slice none 0 0, .slice none 0 0]) (d := (.struct (Tryz.prog.fieldsOf 41))) (by kernel_rfl) (by kernel_rfl) (by kernel_rfl) (by kernel_rfl) (by kernel_rfl) (by decide) (by decide) (by decide) (by decide) (nofun) (by kernel_rfl) (⟨_, rfl, by kernel_rfl, by decide⟩)
theorem ty43 : TyOk Tryz.prog tab ⟨(.struct [(0, 25), (1, 25), (2, 28)]), 3, 72, [.nilsl, .nilsl, .nilsl], false⟩ 43 :=
  ty_ok (i := Tryz.t43) (z := .agg #[.slice none 0 0, .slice none 0 0, .slice none 0 0]) (d := (.struct (Tryz.prog.fieldsOf 43))) (by kernel_rfl) (by kernel_rfl) (by kernel_rfl) (by kernel_rfl) (by kernel_rfl) (by decide) (by decide) (by decide) (by decide) (nofun) (by kernel_rfl) (⟨_, rfl, by kernel_rfl, by decide⟩)
theorem eqn45 : ∀ f ∈ Tryz.prog.fieldsOf 45, f.name ≠ "_" := by
  have h : ((Tryz.prog.fieldsOf 45).toList.all fun f => f.name != "_") = true := by kernel_rfl
  intro f hf
  have := List.all_eq_true.1 h f (by simpa using hf)
  simpa using this
theorem ty45 : TyOk Tryz.prog tab ⟨(.struct [(0, 3), (1, 3), (2, 3), (3, 3)]), 4, 32, [.int .i64, .int .i64, .int .i64, .int .i64], true⟩ 45 :=
  ty_ok (i := Tryz.t45) (z := .agg #[.int .i64 0, .int .i64 0, .int .i64 0, .int .i64 0]) (d := (.struct (Tryz.prog.fieldsOf 45))) (by kernel_rfl) (by kernel_rfl) (by kernel_rfl) (by kernel_rfl) (by kernel_rfl) (by decide) (by decide) (by decide) (by decide) (fun _ => ⟨by kernel_rfl, by kernel_rfl, eqn45⟩) (by kernel_rfl) (⟨_, rfl, by kernel_rfl, by decide⟩)
theorem eqn55 : ∀ f ∈ Tryz.prog.fieldsOf 55, f.name ≠ "_" := by
  have h : ((Tryz.prog.fieldsOf 55).toList.all fun f => f.name != "_") = true := by kernel_rfl
  intro f hf
  have := List.all_eq_true.1 h f (by simpa using hf)
  simpa using this
theorem ty55 : TyOk Tryz.prog tab ⟨(.struct [(0, 3), (1, 3), (2, 3)]), 3, 24, [.int .i64, .int .i64, .int .i64], true⟩ 55 :=
  ty_ok (i := Tryz.t55) (z := .agg #[.int .i64 0, .int .i64 0, .int .i64 0]) (d := (.struct (Tryz.prog.fieldsOf 55))) (by kernel_rfl) (by kernel_rfl) (by kernel_rfl) (by kernel_rfl) (by kernel_rfl) (by decide) (by decide) (by decide) (by decide) (fun _ => ⟨by kernel_rfl, by kernel_rfl, eqn55⟩) (by kernel_rfl) (⟨_, rfl, by kernel_rfl, by decide⟩)
theorem eqn58 : ∀ f ∈ Tryz.prog.fieldsOf 58, f.name ≠ "_" := by
  have h : ((Tryz.prog.fieldsOf 58).toList.all fun f => f.name != "_") = true := by kernel_rfl
  intro f hf
  have := List.all_eq_true.1 h f (by simpa using hf)
  simpa using this
theorem ty58 : TyOk Tryz.prog tab ⟨(.struct [(0, 3), (1, 3), (2, 3)]), 3, 24, [.int .i64, .int .i64, .int .i64], true⟩ 58 :=
  ty_ok (i := Tryz.t58) (z := .agg #[.int .i64 0, .int .i64 0, .int .i64 0]) (d := (.struct (Tryz.prog.fieldsOf 58))) (by kernel_rfl) (by kernel_rfl) (by kernel_rfl) (by kernel_rfl) (by kernel_rfl) (by decide) (by decide) (by decide) (by decide) (fun _ => ⟨by kernel_rfl, by kernel_rfl, eqn58⟩) (by kernel_rfl) (⟨_, rfl, by kernel_rfl, by decide⟩)
theorem ty63 : TyOk Tryz.prog tab ⟨(.struct [(0, 58), (3, 45), (7, 35)]), 8, 80, [.int .i64, .int .i64, .int .i64, .int .i64, .int .i64, .int .i64, .int .i64, .nilsl], false⟩ 63 :=
  ty_ok (i := Tryz.t63) (z := .agg #[.int .i64 0, .int .i64 0, .int .i64 0, .int .i64 0, .int .i64 0, .int .i64 0, .int .i64 0, .slice none 0 0]) (d := (.struct (Tryz.prog.fieldsOf 63))) (by kernel_rfl) (by kernel_rfl) (by kernel_rfl) (by kernel_rfl) (by kernel_rfl) (by decide) (by decide) (by decide) (by decide) (nofun) (by kernel_rfl) (⟨_, rfl, by kernel_rfl, by decide⟩)
theorem ty64 : TyOk Tryz.prog tab ⟨(.struct [(0, 58), (3, 45), (7, 35)]), 8, 80, [.int .i64, .int .i64, .int .i64, .int .i64, .int .i64, .int .i64, .int .i64, .nilsl], false⟩ 64 :=
  ty_ok (i := Tryz.t64) (z := .agg #[.int .i64 0, .int .i64 0, .int .i64 0, .int .i64 0, .int .i64 0, .int .i64 0, .int .i64 0, .slice none 0 0]) (d := (.struct (Tryz.prog.fieldsOf 64))) (by kernel_rfl) (by kernel_rfl) (by kernel_rfl) (by kernel_rfl) (by kernel_rfl) (by decide) (by decide) (by decide) (by decide) (nofun) (by kernel_rfl) (⟨_, rfl, by kernel_rfl, by decide⟩)
theorem ty99 : TyOk Tryz.prog tab ⟨(.slice 45), 1, 24, [.nilsl], false⟩ 99 :=
  ty_ok (i := Tryz.t99) (z := .slice none 0 0) (d := (.slice 45)) (by kernel_rfl) (by kernel_rfl) (by kernel_rfl) (by kernel_rfl) (by kernel_rfl) (by decide) (by decide) (by decide) (by decide) (nofun) (by kernel_rfl) (rfl)
theorem ty105 : TyOk Tryz.prog tab ⟨(.slice 196), 1, 24, [.nilsl], false⟩ 105 :=
  ty_ok (i := Tryz.t105) (z := .slice none 0 0) (d := (.slice 196)) (by kernel_rfl) (by kernel_rfl) (by kernel_rfl) (by kernel_rfl) (by kernel_rfl) (by decide) (by decide) (by decide) (by decide) (nofun) (by kernel_rfl) (rfl)
theorem ty106 : TyOk Tryz.prog tab ⟨(.struct [(0, 9), (1, 3), (2, 105)]), 3, 48, [.str, .int .i64, .nilsl], false⟩ 106 :=
  ty_ok (i := Tryz.t106) (z := .agg #[.string ⟨#[]⟩, .int .i64 0, .slice none 0 0]) (d := (.struct (Tryz.prog.fieldsOf 106))) (by kernel_rfl) (by kernel_rfl) (by kernel_rfl) (by kernel_rfl) (by kernel_rfl) (by decide) (by decide) (by decide) (by decide) (nofun) (by kernel_rfl) (⟨_, rfl, by kernel_rfl, by decide⟩)
theorem ty107 : TyOk Tryz.prog tab ⟨(.struct [(0, 9), (1, 3), (2, 105)]), 3, 48, [.str, .int .i64, .nilsl], false⟩ 107 :=
  ty_ok (i := Tryz.t107) (z := .agg #[.string ⟨#[]⟩, .int .i64 0, .slice none 0 0]) (d := (.struct (Tryz.prog.fieldsOf 107))) (by kernel_rfl) (by kernel_rfl) (by kernel_rfl) (by kernel_rfl) (by kernel_rfl) (by decide) (by decide) (by decide) (by decide) (nofun) (by kernel_rfl) (⟨_, rfl, by kernel_rfl, by decide⟩)
theorem ty109 : TyOk Tryz.prog tab ⟨(.slice 201), 1, 24, [.nilsl], false⟩ 109 :=
  ty_ok (i := Tryz.t109) (z := .slice none 0 0) (d := (.slice 201)) (by kernel_rfl) (by kernel_rfl) (by kernel_rfl) (by kernel_rfl) (by kernel_rfl) (by decide) (by decide) (by decide) (by decide) (nofun) (by kernel_rfl) (rfl)
theorem ty110 : TyOk Tryz.prog tab ⟨(.struct [(0, 109), (1, 28)]), 2, 48, [.nilsl, .nilsl], false⟩ 110 :=
  ty_ok (i := Tryz.t110) (z := .agg #[.slice none 0 0, .slice none 0 0]) (d := (.struct (Tryz.prog.fieldsOf 110))) (by kernel_rfl) (by kernel_rfl) (by kernel_rfl) (by kernel_rfl) (by kernel_rfl) (by decide) (by decide) (by decide) (by decide) (nofun) (by kernel_rfl) (⟨_, rfl, by kernel_rfl, by decide⟩)
theorem ty111 : TyOk Tryz.prog tab ⟨(.struct [(0, 109), (1, 28)]), 2, 48, [.nilsl, .nilsl], false⟩ 111 :=
  ty_ok (i := Tryz.t111) (z := .agg #[.slice none 0 0, .slice none 0 0]) (d := (.struct (Tryz.prog.fieldsOf 111))) (by kernel_rfl) (by kernel_rfl) (by kernel_rfl) (by kernel_rfl) (by kernel_rfl) (by decide) (by decide) (by decide) (by decide) (nofun) (by kernel_rfl) (⟨_, rfl, by kernel_rfl, by decide⟩)
theorem ty118 : TyOk Tryz.prog tab ⟨(.slice 185), 1, 24, [.nilsl], false⟩ 118 :=
  ty_ok (i := Tryz.t118) (z := .slice none 0 0) (d := (.slice 185)) (by kernel_rfl) (by kernel_rfl) (by kernel_rfl) (by kernel_rfl) (by kernel_rfl) (by decide) (by decide) (by decide) (by decide) (nofun) (by kernel_rfl) (rfl)
theorem ty119 : TyOk Tryz.prog tab ⟨(.struct [(0, 9), (1, 3), (2, 118)]), 3, 48, [.str, .int .i64, .nilsl], false⟩ 119 :=
  ty_ok (i := Tryz.t119) (z := .agg #[.string ⟨#[]⟩, .int .i64 0, .slice none 0 0]) (d := (.struct (Tryz.prog.fieldsOf 119))) (by kernel_rfl) (by kernel_rfl) (by kernel_rfl) (by kernel_rfl) (by kernel_rfl) (by decide) (by decide) (by decide) (by decide) (nofun) (by kernel_rfl) (⟨_, rfl, by kernel_rfl, by decide⟩)
theorem ty120 : TyOk Tryz.prog tab ⟨(.struct [(0, 9), (1, 3), (2, 118)]), 3, 48, [.str, .int .i64, .nilsl], false⟩ 120 :=
  ty_ok (i := Tryz.t120) (z := .agg #[.string ⟨#[]⟩, .int .i64 0, .slice none 0 0]) (d := (.struct (Tryz.prog.fieldsOf 120))) (by kernel_rfl) (by kernel_rfl) (by kernel_rfl) (by kernel_rfl) (by kernel_rfl) (by decide) (by decide) (by decide) (by decide) (nofun) (by kernel_rfl) (⟨_, rfl, by kernel_rfl, by decide⟩)
theorem eqn123 : ∀ f ∈ Tryz.prog.fieldsOf 123, f.name ≠ "_" := by
  have h : ((Tryz.prog.fieldsOf 123).toList.all fun f => f.name != "_") = true := by kernel_rfl
  intro f hf
  have := List.all_eq_true.1 h f (by simpa using hf)
  simpa using this
theorem ty123 : TyOk Tryz.prog tab ⟨(.struct [(0, 3), (1, 3), (2, 4), (3, 3)]), 4, 32, [.int .i64, .int .i64, .bool, .int .i64], true⟩ 123 :=
  ty_ok (i := Tryz.t123) (z := .agg #[.int .i64 0, .int .i64 0, .bool false, .int .i64 0]) (d := (.struct (Tryz.prog.fieldsOf 123))) (by kernel_rfl) (by kernel_rfl) (by kernel_rfl) (by kernel_rfl) (by kernel_rfl) (by decide) (by decide) (by decide) (by decide) (fun _ => ⟨by kernel_rfl, by kernel_rfl, eqn123⟩) (by kernel_rfl) (⟨_, rfl, by kernel_rfl, by decide⟩)
theorem eqn125 : ∀ f ∈ Tryz.prog.fieldsOf 125, f.name ≠ "_" := by
  have h : ((Tryz.prog.fieldsOf 125).toList.all fun f => f.name != "_") = true := by kernel_rfl
  intro f hf
  have := List.all_eq_true.1 h f (by simpa using hf)
  simpa using this
theorem ty125 : TyOk Tryz.prog tab ⟨(.struct [(0, 3), (1, 3), (2, 4), (3, 3)]), 4, 32, [.int .i64, .int .i64, .bool, .int .i64], true⟩ 125 :=
  ty_ok (i := Tryz.t125) (z := .agg #[.int .i64 0, .int .i64 0, .bool false, .int .i64 0]) (d := (.struct (Tryz.prog.fieldsOf 125))) (by kernel_rfl) (by kernel_rfl) (by kernel_rfl) (by kernel_rfl) (by kernel_rfl) (by decide) (by decide) (by decide) (by decide) (fun _ => ⟨by kernel_rfl, by kernel_rfl, eqn125⟩) (by kernel_rfl) (⟨_, rfl, by kernel_rfl, by decide⟩)
theorem ty126 : TyOk Tryz.prog tab ⟨(.slice 154), 1, 24, [.nilsl], false⟩ 126 :=
  ty_ok (i := Tryz.t126) (z := .slice none 0 0) (d := (.slice 154)) (by kernel_rfl) (by kernel_rfl) (by kernel_rfl) (by kernel_rfl) (by kernel_rfl) (by decide) (by decide) (by decide) (by decide) (nofun) (by kernel_rfl) (rfl)
theorem ty127 : TyOk Tryz.prog tab ⟨(.struct [(0, 126), (1, 28)]), 2, 48, [.nilsl, .nilsl], false⟩ 127 :=
  ty_ok (i := Tryz.t127) (z := .agg #[.slice none 0 0, .slice none 0 0]) (d := (.struct (Tryz.prog.fieldsOf 127))) (by kernel_rfl) (by kernel_rfl) (by kernel_rfl) (by kernel_rfl) (by kernel_rfl) (by decide) (by decide) (by decide) (by decide) (nofun) (by kernel_rfl) (⟨_, rfl, by kernel_rfl, by decide⟩)
theorem ty128 : TyOk Tryz.prog tab ⟨(.struct [(0, 126), (1, 28)]), 2, 48, [.nilsl, .nilsl], false⟩ 128 :=
  ty_ok (i := Tryz.t128) (z := .agg #[.slice none 0 0, .slice none 0 0]) (d := (.struct (Tryz.prog.fieldsOf 128))) (by kernel_rfl) (by kernel_rfl) (by kernel_rfl) (by kernel_rfl) (by kernel_rfl) (by decide) (by decide) (by decide) (by decide) (nofun) (by kernel_rfl) (⟨_, rfl, by kernel_rfl, by decide⟩)
theorem eqn154 : ∀ f ∈ Tryz.prog.fieldsOf 154, f.name ≠ "_" := by
  have h : ((Tryz.prog.fieldsOf 154).toList.all fun f => f.name != "_") = true := by kernel_rfl
  intro f hf
  have := List.all_eq_true.1 h f (by simpa using hf)
  simpa using this
theorem ty154 : TyOk Tryz.prog tab ⟨(.struct [(0, 3), (1, 3)]), 2, 16, [.int .i64, .int .i64], true⟩ 154 :=
  ty_ok (i := Tryz.t154) (z := .agg #[.int .i64 0, .int .i64 0]) (d := (.struct (Tryz.prog.fieldsOf 154))) (by kernel_rfl) (by kernel_rfl) (by kernel_rfl) (by kernel_rfl) (by kernel_rfl) (by decide) (by decide) (by decide) (by decide) (fun _ => ⟨by kernel_rfl, by kernel_rfl, eqn154⟩) (by kernel_rfl) (⟨_, rfl, by kernel_rfl, by decide⟩)
theorem ty183 : TyOk Tryz.prog tab ⟨(.slice 5), 1, 24, [.nilsl], false⟩ 183 :=
  ty_ok (i := Tryz.t183) (z := .slice none 0 0) (d := (.slice 5)) (by kernel_rfl) (by kernel_rfl) (by kernel_rfl) (by kernel_rfl) (by kernel_rfl) (by decide) (by decide) (by decide) (by decide) (nofun) (by kernel_rfl) (rfl)
theorem ty185 : TyOk Tryz.prog tab ⟨(.struct [(0, 3), (1, 25), (2, 25)]), 3, 56, [.int .i64, .nilsl, .nilsl], false⟩ 185 :=
  ty_ok (i := Tryz.t185) (z := .agg #[.int .i64 0, .slice none 0 0, .slice none 0 0]) (d := (.struct (Tryz.prog.fieldsOf 185))) (by kernel_rfl) (by kernel_rfl) (by kernel_rfl) (by kernel_rfl) (by kernel_rfl) (by decide) (by decide) (by decide) (by decide) (nofun) (by kernel_rfl) (⟨_, rfl, by kernel_rfl, by decide⟩)
theorem ty196 : TyOk Tryz.prog tab ⟨(.struct [(0, 3), (1, 25), (2, 25)]), 3, 56, [.int .i64, .nilsl, .nilsl], false⟩ 196 :=
  ty_ok (i := Tryz.t196) (z := .agg #[.int .i64 0, .slice none 0 0, .slice none 0 0]) (d := (.struct (Tryz.prog.fieldsOf 196))) (by kernel_rfl) (by kernel_rfl) (by kernel_rfl) (by kernel_rfl) (by kernel_rfl) (by decide) (by decide) (by decide) (by decide) (nofun) (by kernel_rfl) (⟨_, rfl, by kernel_rfl, by decide⟩)
theorem eqn201 : ∀ f ∈ Tryz.prog.fieldsOf 201, f.name ≠ "_" := by
  have h : ((Tryz.prog.fieldsOf 201).toList.all fun f => f.name != "_") = true := by kernel_rfl
  intro f hf
  have := List.all_eq_true.1 h f (by simpa using hf)
  simpa using this
theorem ty201 : TyOk Tryz.prog tab ⟨(.struct [(0, 3), (1, 3)]), 2, 16, [.int .i64, .int .i64], true⟩ 201 :=
  ty_ok (i := Tryz.t201) (z := .agg #[.int .i64 0, .int .i64 0]) (d := (.struct (Tryz.prog.fieldsOf 201))) (by kernel_rfl) (by kernel_rfl) (by kernel_rfl) (by kernel_rfl) (by kernel_rfl) (by decide) (by decide) (by decide) (by decide) (fun _ => ⟨by kernel_rfl, by kernel_rfl, eqn201⟩) (by kernel_rfl) (⟨_, rfl, by kernel_rfl, by decide⟩)
theorem tabOk : TabOk Tryz.prog tab := tab_ok ⟨ty58, ⟨ty28, ⟨ty22, ⟨ty4, ⟨ty3, ⟨ty2, trivial, trivial⟩, trivial⟩, ⟨ty9, ⟨ty5, trivial, trivial⟩, trivial⟩⟩, ⟨ty25, ⟨ty24, ⟨ty23, trivial, trivial⟩, trivial⟩, ⟨ty27, ⟨ty26, trivial, trivial⟩, trivial⟩⟩⟩, ⟨ty39, ⟨ty35, ⟨ty32, ⟨ty30, trivial, trivial⟩, trivial⟩, ⟨ty38, ⟨ty37, trivial, trivial⟩, trivial⟩⟩, ⟨ty43, ⟨ty41, ⟨ty40, trivial, trivial⟩, trivial⟩, ⟨ty55, ⟨ty45, trivial, trivial⟩, trivial⟩⟩⟩⟩, ⟨ty120, ⟨ty107, ⟨ty99, ⟨ty64, ⟨ty63, trivial, trivial⟩, trivial⟩, ⟨ty106, ⟨ty105, trivial, trivial⟩, trivial⟩⟩, ⟨ty111, ⟨ty110, ⟨ty109, trivial, trivial⟩, trivial⟩, ⟨ty119, ⟨ty118, trivial, trivial⟩, trivial⟩⟩⟩, ⟨ty154, ⟨ty126, ⟨ty125, ⟨ty123, trivial, trivial⟩, trivial⟩, ⟨ty128, ⟨ty127, trivial, trivial⟩, trivial⟩⟩, ⟨ty196, ⟨ty185, ⟨ty183, trivial, trivial⟩, trivial⟩, ⟨ty201, trivial, trivial⟩⟩⟩⟩⟩
end Go.Proofs.YtgebcdkmchcifaaGreat.Abs
