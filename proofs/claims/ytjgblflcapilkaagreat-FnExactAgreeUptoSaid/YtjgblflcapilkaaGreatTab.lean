/- The table of the types of this seat: what the abstract layer must know of them, by closed facts. Printed by gentab.py. No statement of a claim. -/
import Derived.Test.YtjgblflcapilkaaGreatLayB
import Derived.Test.YtjgblflcapilkaaGreatProg
import Derived.KernelRfl
set_option linter.all false
namespace Go.Proofs.YtjgblflcapilkaaGreat.Abs
open Go.Proofs
def tree : Tree := (.node 82 ⟨(.slice 25), 1, 24, [.nilsl], false⟩ (.node 32 ⟨(.struct [(0, 3), (1, 29), (3, 3), (4, 3), (5, 30), (6, 3)]), 7, 104, [.int .i64, .nilsl, .nilsl, .int .i64, .int .i64, .nilsl, .int .i64], false⟩ (.node 24 ⟨(.slice 84), 1, 24, [.nilsl], false⟩ (.node 5 ⟨(.int .u8), 1, 1, [.int .u8], false⟩ (.node 3 ⟨(.int .i64), 1, 8, [.int .i64], false⟩ (.node 2 ⟨(.int .i64), 1, 8, [.int .i64], false⟩ .leaf .leaf) (.node 4 ⟨.bool, 1, 1, [.bool], false⟩ .leaf .leaf)) (.node 22 ⟨(.slice 79), 1, 24, [.nilsl], false⟩ (.node 9 ⟨.str, 1, 16, [.str], false⟩ .leaf .leaf) (.node 23 ⟨(.slice 112), 1, 24, [.nilsl], false⟩ .leaf .leaf))) (.node 29 ⟨(.struct [(0, 25), (1, 25)]), 2, 48, [.nilsl, .nilsl], false⟩ (.node 26 ⟨(.struct [(0, 3), (1, 22), (2, 23), (3, 24), (4, 25)]), 5, 104, [.int .i64, .nilsl, .nilsl, .nilsl, .nilsl], false⟩ (.node 25 ⟨(.slice 3), 1, 24, [.nilsl], false⟩ .leaf .leaf) (.node 27 ⟨(.struct [(0, 3), (1, 22), (2, 23), (3, 24), (4, 25)]), 5, 104, [.int .i64, .nilsl, .nilsl, .nilsl, .nilsl], false⟩ .leaf .leaf)) (.node 31 ⟨(.struct [(0, 3), (1, 29), (3, 3), (4, 3), (5, 30), (6, 3)]), 7, 104, [.int .i64, .nilsl, .nilsl, .int .i64, .int .i64, .nilsl, .int .i64], false⟩ (.node 30 ⟨(.slice 90), 1, 24, [.nilsl], false⟩ .leaf .leaf) .leaf))) (.node 43 ⟨(.slice 109), 1, 24, [.nilsl], false⟩ (.node 39 ⟨(.struct [(0, 3), (1, 36), (2, 37), (3, 38), (4, 25)]), 5, 104, [.int .i64, .nilsl, .nilsl, .nilsl, .nilsl], false⟩ (.node 37 ⟨(.slice 102), 1, 24, [.nilsl], false⟩ (.node 36 ⟨(.slice 94), 1, 24, [.nilsl], false⟩ .leaf .leaf) (.node 38 ⟨(.slice 99), 1, 24, [.nilsl], false⟩ .leaf .leaf)) (.node 42 ⟨(.struct [(0, 25), (1, 25)]), 2, 48, [.nilsl, .nilsl], false⟩ (.node 40 ⟨(.struct [(0, 3), (1, 36), (2, 37), (3, 38), (4, 25)]), 5, 104, [.int .i64, .nilsl, .nilsl, .nilsl, .nilsl], false⟩ .leaf .leaf) .leaf)) (.node 78 ⟨(.struct [(0, 9), (1, 3), (2, 77)]), 3, 48, [.str, .int .i64, .nilsl], false⟩ (.node 45 ⟨(.struct [(0, 3), (1, 42), (3, 3), (4, 3), (5, 43), (6, 3)]), 7, 104, [.int .i64, .nilsl, .nilsl, .int .i64, .int .i64, .nilsl, .int .i64], false⟩ (.node 44 ⟨(.struct [(0, 3), (1, 42), (3, 3), (4, 3), (5, 43), (6, 3)]), 7, 104, [.int .i64, .nilsl, .nilsl, .int .i64, .int .i64, .nilsl, .int .i64], false⟩ .leaf .leaf) (.node 77 ⟨(.slice 163), 1, 24, [.nilsl], false⟩ .leaf .leaf)) (.node 81 ⟨(.slice 179), 1, 24, [.nilsl], false⟩ (.node 79 ⟨(.struct [(0, 9), (1, 3), (2, 77)]), 3, 48, [.str, .int .i64, .nilsl], false⟩ .leaf .leaf) .leaf)))) (.node 106 ⟨(.struct [(0, 3), (1, 3), (2, 3), (3, 3)]), 4, 32, [.int .i64, .int .i64, .int .i64, .int .i64], true⟩ (.node 92 ⟨(.slice 132), 1, 24, [.nilsl], false⟩ (.node 88 ⟨(.slice 183), 1, 24, [.nilsl], false⟩ (.node 84 ⟨(.struct [(0, 81), (1, 82)]), 2, 48, [.nilsl, .nilsl], false⟩ (.node 83 ⟨(.struct [(0, 81), (1, 82)]), 2, 48, [.nilsl, .nilsl], false⟩ .leaf .leaf) (.node 87 ⟨(.struct [(0, 3), (1, 3), (2, 3), (3, 3)]), 4, 32, [.int .i64, .int .i64, .int .i64, .int .i64], true⟩ .leaf .leaf)) (.node 90 ⟨(.struct [(0, 3), (1, 87), (5, 88)]), 6, 64, [.int .i64, .int .i64, .int .i64, .int .i64, .int .i64, .nilsl], false⟩ (.node 89 ⟨(.struct [(0, 3), (1, 87), (5, 88)]), 6, 64, [.int .i64, .int .i64, .int .i64, .int .i64, .int .i64, .nilsl], false⟩ .leaf .leaf) .leaf)) (.node 98 ⟨(.struct [(0, 97), (1, 82)]), 2, 48, [.nilsl, .nilsl], false⟩ (.node 94 ⟨(.struct [(0, 9), (1, 3), (2, 92)]), 3, 48, [.str, .int .i64, .nilsl], false⟩ (.node 93 ⟨(.struct [(0, 9), (1, 3), (2, 92)]), 3, 48, [.str, .int .i64, .nilsl], false⟩ .leaf .leaf) (.node 97 ⟨(.slice 155), 1, 24, [.nilsl], false⟩ .leaf .leaf)) (.node 102 ⟨(.struct [(0, 3), (1, 3), (2, 4), (3, 3)]), 4, 32, [.int .i64, .int .i64, .bool, .int .i64], true⟩ (.node 99 ⟨(.struct [(0, 97), (1, 82)]), 2, 48, [.nilsl, .nilsl], false⟩ .leaf .leaf) .leaf))) (.node 155 ⟨(.struct [(0, 3), (1, 3)]), 2, 16, [.int .i64, .int .i64], true⟩ (.node 112 ⟨(.struct [(0, 3), (1, 3), (2, 4), (3, 3)]), 4, 32, [.int .i64, .int .i64, .bool, .int .i64], true⟩ (.node 108 ⟨(.struct [(0, 3), (1, 106), (5, 107)]), 6, 64, [.int .i64, .int .i64, .int .i64, .int .i64, .int .i64, .nilsl], false⟩ (.node 107 ⟨(.slice 181), 1, 24, [.nilsl], false⟩ .leaf .leaf) (.node 109 ⟨(.struct [(0, 3), (1, 106), (5, 107)]), 6, 64, [.int .i64, .int .i64, .int .i64, .int .i64, .int .i64, .nilsl], false⟩ .leaf .leaf)) (.node 132 ⟨(.struct [(0, 3), (1, 25), (2, 25)]), 3, 56, [.int .i64, .nilsl, .nilsl], false⟩ (.node 117 ⟨(.slice 106), 1, 24, [.nilsl], false⟩ .leaf .leaf) .leaf)) (.node 179 ⟨(.struct [(0, 3), (1, 3)]), 2, 16, [.int .i64, .int .i64], true⟩ (.node 171 ⟨(.struct [(0, 25), (1, 25), (2, 82)]), 3, 72, [.nilsl, .nilsl, .nilsl], false⟩ (.node 163 ⟨(.struct [(0, 3), (1, 25), (2, 25)]), 3, 56, [.int .i64, .nilsl, .nilsl], false⟩ .leaf .leaf) (.node 174 ⟨(.slice 107), 1, 24, [.nilsl], false⟩ .leaf .leaf)) (.node 183 ⟨(.struct [(0, 3), (1, 3), (2, 3)]), 3, 24, [.int .i64, .int .i64, .int .i64], true⟩ (.node 181 ⟨(.struct [(0, 3), (1, 3), (2, 3)]), 3, 24, [.int .i64, .int .i64, .int .i64], true⟩ .leaf .leaf) .leaf)))))
def tab : Nat → Ty := tree.find
theorem ty2 : TyOk Tryz.prog tab ⟨(.int .i64), 1, 8, [.int .i64], false⟩ 2 :=
  ty_ok (i := Tryz.t2) (z := .int .i64 0) (d := (.int .i64)) (by kernel_rfl) (by kernel_rfl) (by kernel_rfl) (by kernel_rfl) (by kernel_rfl) (by decide) (by decide) (by decide) (by decide) (nofun) (by kernel_rfl) (rfl)
theorem ty3 : TyOk Tryz.prog tab ⟨(.int .i64), 1, 8, [.int .i64], false⟩ 3 :=
  ty_ok (i := Tryz.t3) (z := .int .i64 0) (d := (.int .i64)) (by kernel_rfl) (by kernel_rfl) (by kernel_rfl) (by kernel_rfl) (by kernel_rfl) (by decide) (by decide) (by decide) (by decide) (nofun) (by kernel_rfl) (rfl)
theorem ty4 : TyOk Tryz.prog tab ⟨.bool, 1, 1, [.bool], false⟩ 4 :=
  ty_ok (i := Tryz.t4) (z := .bool false) (d := .bool) (by kernel_rfl) (by kernel_rfl) (by kernel_rfl) (by kernel_rfl) (by kernel_rfl) (by decide) (by decide) (by decide) (by decide) (nofun) (by kernel_rfl) (rfl)
theorem ty5 : TyOk Tryz.prog tab ⟨(.int .u8), 1, 1, [.int .u8], false⟩ 5 :=
  ty_ok (i := Tryz.t5) (z := .int .u8 0) (d := (.int .u8)) (by kernel_rfl) (by kernel_rfl) (by kernel_rfl) (by kernel_rfl) (by kernel_rfl) (by decide) (by decide) (by decide) (by decide) (nofun) (by kernel_rfl) (rfl)
theorem ty9 : TyOk Tryz.prog tab ⟨.str, 1, 16, [.str], false⟩ 9 :=
  ty_ok (i := Tryz.t9) (z := .string ⟨#[]⟩) (d := .string) (by kernel_rfl) (by kernel_rfl) (by kernel_rfl) (by kernel_rfl) (by kernel_rfl) (by decide) (by decide) (by decide) (by decide) (nofun) (by kernel_rfl) (rfl)
theorem ty22 : TyOk Tryz.prog tab ⟨(.slice 79), 1, 24, [.nilsl], false⟩ 22 :=
  ty_ok (i := Tryz.t22) (z := .slice none 0 0) (d := (.slice 79)) (by kernel_rfl) (by kernel_rfl) (by kernel_rfl) (by kernel_rfl) (by kernel_rfl) (by decide) (by decide) (by decide) (by decide) (nofun) (by kernel_rfl) (rfl)
theorem ty23 : TyOk Tryz.prog tab ⟨(.slice 112), 1, 24, [.nilsl], false⟩ 23 :=
  ty_ok (i := Tryz.t23) (z := .slice none 0 0) (d := (.slice 112)) (by kernel_rfl) (by kernel_rfl) (by kernel_rfl) (by kernel_rfl) (by kernel_rfl) (by decide) (by decide) (by decide) (by decide) (nofun) (by kernel_rfl) (rfl)
theorem ty24 : TyOk Tryz.prog tab ⟨(.slice 84), 1, 24, [.nilsl], false⟩ 24 :=
  ty_ok (i := Tryz.t24) (z := .slice none 0 0) (d := (.slice 84)) (by kernel_rfl) (by kernel_rfl) (by kernel_rfl) (by kernel_rfl) (by kernel_rfl) (by decide) (by decide) (by decide) (by decide) (nofun) (by kernel_rfl) (rfl)
theorem ty25 : TyOk Tryz.prog tab ⟨(.slice 3), 1, 24, [.nilsl], false⟩ 25 :=
  ty_ok (i := Tryz.t25) (z := .slice none 0 0) (d := (.slice 3)) (by kernel_rfl) (by kernel_rfl) (by kernel_rfl) (by kernel_rfl) (by kernel_rfl) (by decide) (by decide) (by decide) (by decide) (nofun) (by kernel_rfl) (rfl)
theorem ty26 : TyOk Tryz.prog tab ⟨(.struct [(0, 3), (1, 22), (2, 23), (3, 24), (4, 25)]), 5, 104, [.int .i64, .nilsl, .nilsl, .nilsl, .nilsl], false⟩ 26 :=
  ty_ok (i := Tryz.t26) (z := .agg #[.int .i64 0, .slice none 0 0, .slice none 0 0, .slice none 0 0, .slice none 0 0]) (d := (.struct (Tryz.prog.fieldsOf 26))) (by kernel_rfl) (by kernel_rfl) (by kernel_rfl) (by kernel_rfl) (by kernel_rfl) (by decide) (by decide) (by decide) (by decide) (nofun) (by kernel_rfl) (⟨_, rfl, by kernel_rfl, by decide⟩)
theorem ty27 : TyOk Tryz.prog tab ⟨(.struct [(0, 3), (1, 22), (2, 23), (3, 24), (4, 25)]), 5, 104, [.int .i64, .nilsl, .nilsl, .nilsl, .nilsl], false⟩ 27 :=
  ty_ok (i := Tryz.t27) (z := .agg #[.int .i64 0, .slice none 0 0, .slice none 0 0, .slice none 0 0, .slice none 0 0]) (d := (.struct (Tryz.prog.fieldsOf 27))) (by kernel_rfl) (by kernel_rfl) (by kernel_rfl) (by kernel_rfl) (by kernel_rfl) (by decide) (by decide) (by decide) (by decide) (nofun) (by kernel_rfl) (⟨_, rfl, by kernel_rfl, by decide⟩)
theorem ty29 : TyOk Tryz.prog tab ⟨(.struct [(0, 25), (1, 25)]), 2, 48, [.nilsl, .nilsl], false⟩ 29 :=
  ty_ok (i := Tryz.t29) (z := .agg #[.slice none 0 0, .slice none 0 0]) (d := (.struct (Tryz.prog.fieldsOf 29))) (by kernel_rfl) (by kernel_rfl) (by kernel_rfl) (by kernel_rfl) (by kernel_rfl) (by decide) (by decide) (by decide) (by decide) (nofun) (by kernel_rfl) (⟨_, rfl, by kernel_rfl, by decide⟩)
theorem ty30 : TyOk Tryz.prog tab ⟨(.slice 90), 1, 24, [.nilsl], false⟩ 30 :=
  ty_ok (i := Tryz.t30) (z := .slice none 0 0) (d := (.slice 90)) (by kernel_rfl) (by kernel_rfl) (by kernel_rfl) (by kernel_rfl) (by kernel_rfl) (by decide) (by decide) (by decide) (by decide) (nofun) (by kernel_rfl) (rfl)
theorem ty31 : TyOk Tryz.prog tab ⟨(.struct [(0, 3), (1, 29), (3, 3), (4, 3), (5, 30), (6, 3)]), 7, 104, [.int .i64, .nilsl, .nilsl, .int .i64, .int .i64, .nilsl, .int .i64], false⟩ 31 :=
  ty_ok (i := Tryz.t31) (z := .agg #[.int .i64 0, .slice none 0 0, .slice none 0 0, .int .i64 0, .int .i64 0, .slice none 0 0, .int .i64 0]) (d := (.struct (Tryz.prog.fieldsOf 31))) (by kernel_rfl) (by kernel_rfl) (by kernel_rfl) (by kernel_rfl) (by kernel_rfl) (by decide) (by decide) (by decide) (by decide) (nofun) (by kernel_rfl) (⟨_, rfl, by kernel_rfl, by decide⟩)
theorem ty32 : TyOk Tryz.prog tab ⟨(.struct [(0, 3), (1, 29), (3, 3), (4, 3), (5, 30), (6, 3)]), 7, 104, [.int .i64, .nilsl, .nilsl, .int .i64, .int .i64, .nilsl, .int .i64], false⟩ 32 :=
  ty_ok (i := Tryz.t32) (z := .agg #[.int .i64 0, .slice none 0 0, .slice none 0 0, .int .i64 0, .int .i64 0, .slice none 0 0, .int .i64 0]) (d := (.struct (Tryz.prog.fieldsOf 32))) (by kernel_rfl) (by kernel_rfl) (by kernel_rfl) (by kernel_rfl) (by kernel_rfl) (by decide) (by decide) (by decide) (by decide) (nofun) (by kernel_rfl) (⟨_, rfl, by kernel_rfl, by decide⟩)
theorem ty36 : TyOk Tryz.prog tab ⟨(.slice 94), 1, 24, [.nilsl], false⟩ 36 :=
  ty_ok (i := Tryz.t36) (z := .slice none 0 0) (d := (.slice 94)) (by kernel_rfl) (by kernel_rfl) (by kernel_rfl) (by kernel_rfl) (by kernel_rfl) (by decide) (by decide) (by decide) (by decide) (nofun) (by kernel_rfl) (rfl)
theorem ty37 : TyOk Tryz.prog tab ⟨(.slice 102), 1, 24, [.nilsl], false⟩ 37 :=
  ty_ok (i := Tryz.t37) (z := .slice none 0 0) (d := (.slice 102)) (by kernel_rfl) (by kernel_rfl) (by kernel_rfl) (by kernel_rfl) (by kernel_rfl) (by decide) (by decide) (by decide) (by decide) (nofun) (by kernel_rfl) (rfl)
theorem ty38 : TyOk Tryz.prog tab ⟨(.slice 99), 1, 24, [.nilsl], false⟩ 38 :=
  ty_ok (i := Tryz.t38) (z := .slice none 0 0) (d := (.slice 99)) (by kernel_rfl) (by kernel_rfl) (by kernel_rfl) (by kernel_rfl) (by kernel_rfl) (by decide) (by decide) (by decide) (by decide) (nofun) (by kernel_rfl) (rfl)
theorem ty39 : TyOk Tryz.prog tab ⟨(.struct [(0, 3), (1, 36), (2, 37), (3, 38), (4, 25)]), 5, 104, [.int .i64, .nilsl, .nilsl, .nilsl, .nilsl], false⟩ 39 :=
  ty_ok (i := Tryz.t39) (z := .agg #[.int .i64 0, .slice none 0 0, .slice none 0 0, .slice none 0 0, .slice none 0 0]) (d := (.struct (Tryz.prog.fieldsOf 39))) (by kernel_rfl) (by kernel_rfl) (by kernel_rfl) (by kernel_rfl) (by kernel_rfl) (by decide) (by decide) (by decide) (by decide) (nofun) (by kernel_rfl) (⟨_, rfl, by kernel_rfl, by decide⟩)
theorem ty40 : TyOk Tryz.prog tab ⟨(.struct [(0, 3), (1, 36), (2, 37), (3, 38), (4, 25)]), 5, 104, [.int .i64, .nilsl, .nilsl, .nilsl, .nilsl], false⟩ 40 :=
  ty_ok (i := Tryz.t40) (z := .agg #[.int .i64 0, .slice none 0 0, .slice none 0 0, .slice none 0 0, .slice none 0 0]) (d := (.struct (Tryz.prog.fieldsOf 40))) (by kernel_rfl) (by kernel_rfl) (by kernel_rfl) (by kernel_rfl) (by kernel_rfl) (by decide) (by decide) (by decide) (by decide) (nofun) (by kernel_rfl) (⟨_, rfl, by kernel_rfl, by decide⟩)
theorem ty42 : TyOk Tryz.prog tab ⟨(.struct [(0, 25), (1, 25)]), 2, 48, [.nilsl, .nilsl], false⟩ 42 :=
  ty_ok (i := Tryz.t42) (z := .agg #[.slice none 0 0, .slice none 0 0]) (d := (.struct (Tryz.prog.fieldsOf 42))) (by kernel_rfl) (by kernel_rfl) (by kernel_rfl) (by kernel_rfl) (by kernel_rfl) (by decide) (by decide) (by decide) (by decide) (nofun) (by kernel_rfl) (⟨_, rfl, by kernel_rfl, by decide⟩)
theorem ty43 : TyOk Tryz.prog tab ⟨(.slice 109), 1, 24, [.nilsl], false⟩ 43 :=
  ty_ok (i := Tryz.t43) (z := .slice none 0 0) (d := (.slice 109)) (by kernel_rfl) (by kernel_rfl) (by kernel_rfl) (by kernel_rfl) (by kernel_rfl) (by decide) (by decide) (by decide) (by decide) (nofun) (by kernel_rfl) (rfl)
theorem ty44 : TyOk Tryz.prog tab ⟨(.struct [(0, 3), (1, 42), (3, 3), (4, 3), (5, 43), (6, 3)]), 7, 104, [.int .i64, .nilsl, .nilsl, .int .i64, .int .i64, .nilsl, .int .i64], false⟩ 44 :=
  ty_ok (i := Tryz.t44) (z := .agg #[.int .i64 0, .slice none 0 0, .slice none 0 0, .int .i64 0, .int .i64 0, .slice none 0 0, .int .i64 0]) (d := (.struct (Tryz.prog.fieldsOf 44))) (by kernel_rfl) (by kernel_rfl) (by kernel_rfl) (by kernel_rfl) (by kernel_rfl) (by decide) (by decide) (by decide) (by decide) (nofun) (by kernel_rfl) (⟨_, rfl, by kernel_rfl, by decide⟩)
theorem ty45 : TyOk Tryz.prog tab ⟨(.struct [(0, 3), (1, 42), (3, 3), (4, 3), (5, 43), (6, 3)]), 7, 104, [.int .i64, .nilsl, .nilsl, .int .i64, .int .i64, .nilsl, .int .i64], false⟩ 45 :=
  ty_ok (i := Tryz.t45) (z := .agg #[.int .i64 0, .slice none 0 0, .slice none 0 0, .int .i64 0, .int .i64 0, .slice none 0 0, .int .i64 0]) (d := (.struct (Tryz.prog.fieldsOf 45))) (by kernel_rfl) (by kernel_rfl) (by kernel_rfl) (by kernel_rfl) (by kernel_rfl) (by decide) (by decide) (by decide) (by decide) (nofun) (by kernel_rfl) (⟨_, rfl, by kernel_rfl, by decide⟩)
theorem ty77 : TyOk Tryz.prog tab ⟨(.slice 163), 1, 24, [.nilsl], false⟩ 77 :=
  ty_ok (i := Tryz.t77) (z := .slice none 0 0) (d := (.slice 163)) (by kernel_rfl) (by kernel_rfl) (by kernel_rfl) (by kernel_rfl) (by kernel_rfl) (by decide) (by decide) (by decide) (by decide) (nofun) (by kernel_rfl) (rfl)
theorem ty78 : TyOk Tryz.prog tab ⟨(.struct [(0, 9), (1, 3), (2, 77)]), 3, 48, [.str, .int .i64, .nilsl], false⟩ 78 :=
  ty_ok (i := Tryz.t78) (z := .agg #[.string ⟨#[]⟩, .int .i64 0, .slice none 0 0]) (d := (.struct (Tryz.prog.fieldsOf 78))) (by kernel_rfl) (by kernel_rfl) (by kernel_rfl) (by kernel_rfl) (by kernel_rfl) (by decide) (by decide) (by decide) (by decide) (nofun) (by kernel_rfl) (⟨_, rfl, by kernel_rfl, by decide⟩)
theorem ty79 : TyOk Tryz.prog tab ⟨(.struct [(0, 9), (1, 3), (2, 77)]), 3, 48, [.str, .int .i64, .nilsl], false⟩ 79 :=
  ty_ok (i := Tryz.t79) (z := .agg #[.string ⟨#[]⟩, .int .i64 0, .slice none 0 0]) (d := (.struct (Tryz.prog.fieldsOf 79))) (by kernel_rfl) (by kernel_rfl) (by kernel_rfl) (by kernel_rfl) (by kernel_rfl) (by decide) (by decide) (by decide) (by decide) (nofun) (by kernel_rfl) (⟨_, rfl, by kernel_rfl, by decide⟩)
theorem ty81 : TyOk Tryz.prog tab ⟨(.slice 179), 1, 24, [.nilsl], false⟩ 81 :=
  ty_ok (i := Tryz.t81) (z := .slice none 0 0) (d := (.slice 179)) (by kernel_rfl) (by kernel_rfl) (by kernel_rfl) (by kernel_rfl) (by kernel_rfl) (by decide) (by decide) (by decide) (by decide) (nofun) (by kernel_rfl) (rfl)
theorem ty82 : TyOk Tryz.prog tab ⟨(.slice 25), 1, 24, [.nilsl], false⟩ 82 :=
  ty_ok (i := Tryz.t82) (z := .slice none 0 0) (d := (.slice 25)) (by kernel_rfl) (by kernel_rfl) (by kernel_rfl) (by kernel_rfl) (by kernel_rfl) (by decide) (by decide) (by decide) (by decide) (nofun) (by kernel_rfl) (rfl)
theorem ty83 : TyOk Tryz.prog tab ⟨(.struct [(0, 81), (1, 82)]), 2, 48, [.nilsl, .nilsl], false⟩ 83 :=
  ty_ok (i := Tryz.t83) (z := .agg #[.slice none 0 0, .slice none 0 0]) (d := (.struct (Tryz.prog.fieldsOf 83))) (by kernel_rfl) (by kernel_rfl) (by kernel_rfl) (by kernel_rfl) (by kernel_rfl) (by decide) (by decide) (by decide) (by decide) (nofun) (by kernel_rfl) (⟨_, rfl, by kernel_rfl, by decide⟩)
theorem ty84 : TyOk Tryz.prog tab ⟨(.struct [(0, 81), (1, 82)]), 2, 48, [.nilsl, .nilsl], false⟩ 84 :=
  ty_ok (i := Tryz.t84) (z := .agg #[.slice none 0 0, .slice none 0 0]) (d := (.struct (Tryz.prog.fieldsOf 84))) (by kernel_rfl) (by kernel_rfl) (by kernel_rfl) (by kernel_rfl) (by kernel_rfl) (by decide) (by decide) (by decide) (by decide) (nofun) (by kernel_rfl) (⟨_, rfl, by kernel_rfl, by decide⟩)
theorem eqn87 : ∀ f ∈ Tryz.prog.fieldsOf 87, f.name ≠ "_" := by
  have h : ((Tryz.prog.fieldsOf 87).toList.all fun f => f.name != "_") = true := by kernel_rfl
  intro f hf
  have := List.all_eq_true.1 h f (by simpa using hf)
  simpa using this
theorem ty87 : TyOk Tryz.prog tab ⟨(.struct [(0, 3), (1, 3), (2, 3), (3, 3)]), 4, 32, [.int .i64, .int .i64, .int .i64, .int .i64], true⟩ 87 :=
  ty_ok (i := Tryz.t87) (z := .agg #[.int .i64 0, .int .i64 0, .int .i64 0, .int .i64 0]) (d := (.struct (Tryz.prog.fieldsOf 87))) (by kernel_rfl) (by kernel_rfl) (by kernel_rfl) (by kernel_rfl) (by kernel_rfl) (by decide) (by decide) (by decide) (by decide) (fun _ => ⟨by kernel_rfl, by kernel_rfl, eqn87⟩) (by kernel_rfl) (⟨_, rfl, by kernel_rfl, by decide⟩)
theorem ty88 : TyOk Tryz.prog tab ⟨(.slice 183), 1, 24, [.nilsl], false⟩ 88 :=
  ty_ok (i := Tryz.t88) (z := .slice none 0 0) (d := (.slice 183)) (by kernel_rfl) (by kernel_rfl) (by kernel_rfl) (by kernel_rfl) (by kernel_rfl) (by decide) (by decide) (by decide) (by decide) (nofun) (by kernel_rfl) (rfl)
theorem ty89 : TyOk Tryz.prog tab ⟨(.struct [(0, 3), (1, 87), (5, 88)]), 6, 64, [.int .i64, .int .i64, .int .i64, .int .i64, .int .i64, .nilsl], false⟩ 89 :=
  ty_ok (i := Tryz.t89) (z := .agg #[.int .i64 0, .int .i64 0, .int .i64 0, .int .i64 0, .int .i64 0, .slice none 0 0]) (d := (.struct (Tryz.prog.fieldsOf 89))) (by kernel_rfl) (by kernel_rfl) (by kernel_rfl) (by kernel_rfl) (by kernel_rfl) (by decide) (by decide) (by decide) (by decide) (nofun) (by kernel_rfl) (⟨_, rfl, by kernel_rfl, by decide⟩)
theorem ty90 : TyOk Tryz.prog tab ⟨(.struct [(0, 3), (1, 87), (5, 88)]), 6, 64, [.int .i64, .int .i64, .int .i64, .int .i64, .int .i64, .nilsl], false⟩ 90 :=
  ty_ok (i := Tryz.t90) (z := .agg #[.int .i64 0, .int .i64 0, .int .i64 0, .int .i64 0, .int .i64 0, .slice none 0 0]) (d := (.struct (Tryz.prog.fieldsOf 90))) (by kernel_rfl) (by kernel_rfl) (by kernel_rfl) (by kernel_rfl) (by kernel_rfl) (by decide) (by decide) (by decide) (by decide) (nofun) (by kernel_rfl) (⟨_, rfl, by kernel_rfl, by decide⟩)
theorem ty92 : TyOk Tryz.prog tab ⟨(.slice 132), 1, 24, [.nilsl], false⟩ 92 :=
  ty_ok (i := Tryz.t92) (z := .slice none 0 0) (d := (.slice 132)) (by kernel_rfl) (by kernel_rfl) (by kernel_rfl) (by kernel_rfl) (by kernel_rfl) (by decide) (by decide) (by decide) (by decide) (nofun) (by kernel_rfl) (rfl)
theorem ty93 : TyOk Tryz.prog tab ⟨(.struct [(0, 9), (1, 3), (2, 92)]), 3, 48, [.str, .int .i64, .nilsl], false⟩ 93 :=
  ty_ok (i := Tryz.t93) (z := .agg #[.string ⟨#[]⟩, .int .i64 0, .slice none 0 0]) (d := (.struct (Tryz.prog.fieldsOf 93))) (by kernel_rfl) (by kernel_rfl) (by kernel_rfl) (by kernel_rfl) (by kernel_rfl) (by decide) (by decide) (by decide) (by decide) (nofun) (by kernel_rfl) (⟨_, rfl, by kernel_rfl, by decide⟩)
theorem ty94 : TyOk Tryz.prog tab ⟨(.struct [(0, 9), (1, 3), (2, 92)]), 3, 48, [.str, .int .i64, .nilsl], false⟩ 94 :=
  ty_ok (i := Tryz.t94) (z := .agg #[.string ⟨#[]⟩, .int .i64 0, .slice none 0 0]) (d := (.struct (Tryz.prog.fieldsOf 94))) (by kernel_rfl) (by kernel_rfl) (by kernel_rfl) (by kernel_rfl) (by kernel_rfl) (by decide) (by decide) (by decide) (by decide) (nofun) (by kernel_rfl) (⟨_, rfl, by kernel_rfl, by decide⟩)
theorem ty97 : TyOk Tryz.prog tab ⟨(.slice 155), 1, 24, [.nilsl], false⟩ 97 :=
  ty_ok (i := Tryz.t97) (z := .slice none 0 0) (d := (.slice 155)) (by kernel_rfl) (by kernel_rfl) (by kernel_rfl) (by kernel_rfl) (by kernel_rfl) (by decide) (by decide) (by decide) (by decide) (nofun) (by kernel_rfl) (rfl)
theorem ty98 : TyOk Tryz.prog tab ⟨(.struct [(0, 97), (1, 82)]), 2, 48, [.nilsl, .nilsl], false⟩ 98 :=
  ty_ok (i := Tryz.t98) (z := .agg #[.slice none 0 0, .slice none 0 0]) (d := (.struct (Tryz.prog.fieldsOf 98))) (by kernel_rfl) (by kernel_rfl) (by kernel_rfl) (by kernel_rfl) (by kernel_rfl) (by decide) (by decide) (by decide) (by decide) (nofun) (by kernel_rfl) (⟨_, rfl, by kernel_rfl, by decide⟩)
theorem ty99 : TyOk Tryz.prog tab ⟨(.struct [(0, 97), (1, 82)]), 2, 48, [.nilsl, .nilsl], false⟩ 99 :=
  ty_ok (i := Tryz.t99) (z := .agg #[.slice none 0 0, .slice none 0 0]) (d := (.struct (Tryz.prog.fieldsOf 99))) (by kernel_rfl) (by kernel_rfl) (by kernel_rfl) (by kernel_rfl) (by kernel_rfl) (by decide) (by decide) (by decide) (by decide) (nofun) (by kernel_rfl) (⟨_, rfl, by kernel_rfl, by decide⟩)
theorem eqn102 : ∀ f ∈ Tryz.prog.fieldsOf 102, f.name ≠ "_" := by
  have h : ((Tryz.prog.fieldsOf 102).toList.all fun f => f.name != "_") = true := by kernel_rfl
  intro f hf
  have := List.all_eq_true.1 h f (by simpa using hf)
  simpa using this
theorem ty102 : TyOk Tryz.prog tab ⟨(.struct [(0, 3), (1, 3), (2, 4), (3, 3)]), 4, 32, [.int .i64, .int .i64, .bool, .int .i64], true⟩ 102 :=
  ty_ok (i := Tryz.t102) (z := .agg #[.int .i64 0, .int .i64 0, .bool false, .int .i64 0]) (d := (.struct (Tryz.prog.fieldsOf 102))) (by kernel_rfl) (by kernel_rfl) (by kernel_rfl) (by kernel_rfl) (by kernel_rfl) (by decide) (by decide) (by decide) (by decide) (fun _ => ⟨by kernel_rfl, by kernel_rfl, eqn102⟩) (by kernel_rfl) (⟨_, rfl, by kernel_rfl, by decide⟩)
theorem eqn106 : ∀ f ∈ Tryz.prog.fieldsOf 106, f.name ≠ "_" := by
  have h : ((Tryz.prog.fieldsOf 106).toList.all fun f => f.name != "_") = true := by kernel_rfl
  intro f hf
  have := List.all_eq_true.1 h f (by simpa using hf)
  simpa using this
theorem ty106 : TyOk Tryz.prog tab ⟨(.struct [(0, 3), (1, 3), (2, 3), (3, 3)]), 4, 32, [.int .i64, .int .i64, .int .i64, .int .i64], true⟩ 106 :=
  ty_ok (i := Tryz.t106) (z := .agg #[.int .i64 0, .int .i64 0, .int .i64 0, .int .i64 0]) (d := (.struct (Tryz.prog.fieldsOf 106))) (by kernel_rfl) (by kernel_rfl) (by kernel_rfl) (by kernel_rfl) (by kernel_rfl) (by decide) (by decide) (by decide) (by decide) (fun _ => ⟨by kernel_rfl, by kernel_rfl, eqn106⟩) (by kernel_rfl) (⟨_, rfl, by kernel_rfl, by decide⟩)
theorem ty107 : TyOk Tryz.prog tab ⟨(.slice 181), 1, 24, [.nilsl], false⟩ 107 :=
  ty_ok (i := Tryz.t107) (z := .slice none 0 0) (d := (.slice 181)) (by kernel_rfl) (by kernel_rfl) (by kernel_rfl) (by kernel_rfl) (by kernel_rfl) (by decide) (by decide) (by decide) (by decide) (nofun) (by kernel_rfl) (rfl)
theorem ty108 : TyOk Tryz.prog tab ⟨(.struct [(0, 3), (1, 106), (5, 107)]), 6, 64, [.int .i64, .int .i64, .int .i64, .int .i64, .int .i64, .nilsl], false⟩ 108 :=
  ty_ok (i := Tryz.t108) (z := .agg #[.int .i64 0, .int .i64 0, .int .i64 0, .int .i64 0, .int .i64 0, .slice none 0 0]) (d := (.struct (Tryz.prog.fieldsOf 108))) (by kernel_rfl) (by kernel_rfl) (by kernel_rfl) (by kernel_rfl) (by kernel_rfl) (by decide) (by decide) (by decide) (by decide) (nofun) (by kernel_rfl) (⟨_, rfl, by kernel_rfl, by decide⟩)
theorem ty109 : TyOk Tryz.prog tab ⟨(.struct [(0, 3), (1, 106), (5, 107)]), 6, 64, [.int .i64, .int .i64, .int .i64, .int .i64, .int .i64, .nilsl], false⟩ 109 :=
  ty_ok (i := Tryz.t109) (z := .agg #[.int .i64 0, .int .i64 0, .int .i64 0, .int .i64 0, .int .i64 0, .slice none 0 0]) (d := (.struct (Tryz.prog.fieldsOf 109))) (by kernel_rfl) (by kernel_rfl) (by kernel_rfl) (by kernel_rfl) (by kernel_rfl) (by decide) (by decide) (by decide) (by decide) (nofun) (by kernel_rfl) (⟨_, rfl, by kernel_rfl, by decide⟩)
theorem eqn112 : ∀ f ∈ Tryz.prog.fieldsOf 112, f.name ≠ "_" := by
  have h : ((Tryz.prog.fieldsOf 112).toList.all fun f => f.name != "_") = true := by kernel_rfl
  intro f hf
  have := List.all_eq_true.1 h f (by simpa using hf)
  simpa using this
theorem ty112 : TyOk Tryz.prog tab ⟨(.struct [(0, 3), (1, 3), (2, 4), (3, 3)]), 4, 32, [.int .i64, .int .i64, .bool, .int .i64], true⟩ 112 :=
  ty_ok (i := Tryz.t112) (z := .agg #[.int .i64 0, .int .i64 0, .bool false, .int .i64 0]) (d := (.struct (Tryz.prog.fieldsOf 112))) (by kernel_rfl) (by kernel_rfl) (by kernel_rfl) (by kernel_rfl) (by kernel_rfl) (by decide) (by decide) (by decide) (by decide) (fun _ => ⟨by kernel_rfl, by kernel_rfl, eqn112⟩) (by kernel_rfl) (⟨_, rfl, by kernel_rfl, by decide⟩)
theorem ty117 : TyOk Tryz.prog tab ⟨(.slice 106), 1, 24, [.nilsl], false⟩ 117 :=
  ty_ok (i := Tryz.t117) (z := .slice none 0 0) (d := (.slice 106)) (by kernel_rfl) (by kernel_rfl) (by kernel_rfl) (by kernel_rfl) (by kernel_rfl) (by decide) (by decide) (by decide) (by decide) (nofun) (by kernel_rfl) (rfl)
theorem ty132 : TyOk Tryz.prog tab ⟨(.struct [(0, 3), (1, 25), (2, 25)]), 3, 56, [.int .i64, .nilsl, .nilsl], false⟩ 132 :=
  ty_ok (i := Tryz.t132) (z := .agg #[.int .i64 0, .slice none 0 0, .slice none 0 0]) (d := (.struct (Tryz.prog.fieldsOf 132))) (by kernel_rfl) (by kernel_rfl) (by kernel_rfl) (by kernel_rfl) (by kernel_rfl) (by decide) (by decide) (by decide) (by decide) (nofun) (by kernel_rfl) (⟨_, rfl, by kernel_rfl, by decide⟩)
theorem eqn155 : ∀ f ∈ Tryz.prog.fieldsOf 155, f.name ≠ "_" := by
  have h : ((Tryz.prog.fieldsOf 155).toList.all fun f => f.name != "_") = true := by kernel_rfl
  intro f hf
  have := List.all_eq_true.1 h f (by simpa using hf)
  simpa using this
theorem ty155 : TyOk Tryz.prog tab ⟨(.struct [(0, 3), (1, 3)]), 2, 16, [.int .i64, .int .i64], true⟩ 155 :=
  ty_ok (i := Tryz.t155) (z := .agg #[.int .i64 0, .int .i64 0]) (d := (.struct (Tryz.prog.fieldsOf 155))) (by kernel_rfl) (by kernel_rfl) (by kernel_rfl) (by kernel_rfl) (by kernel_rfl) (by decide) (by decide) (by decide) (by decide) (fun _ => ⟨by kernel_rfl, by kernel_rfl, eqn155⟩) (by kernel_rfl) (⟨_, rfl, by kernel_rfl, by decide⟩)
theorem ty163 : TyOk Tryz.prog tab ⟨(.struct [(0, 3), (1, 25), (2, 25)]), 3, 56, [.int .i64, .nilsl, .nilsl], false⟩ 163 :=
  ty_ok (i := Tryz.t163) (z := .agg #[.int .i64 0, .slice none 0 0, .slice none 0 0]) (d := (.struct (Tryz.prog.fieldsOf 163))) (by kernel_rfl) (by kernel_rfl) (by kernel_rfl) (by kernel_rfl) (by kernel_rfl) (by decide) (by decide) (by decide) (by decide) (nofun) (by kernel_rfl) (⟨_, rfl, by kernel_rfl, by decide⟩)
theorem ty171 : TyOk Tryz.prog tab ⟨(.struct [(0, 25), (1, 25), (2, 82)]), 3, 72, [.nilsl, .nilsl, .nilsl], false⟩ 171 :=
  ty_ok (i := Tryz.t171) (z := .agg #[.slice none 0 0, .slice none 0 0, .slice none 0 0]) (d := (.struct (Tryz.prog.fieldsOf 171))) (by kernel_rfl) (by kernel_rfl) (by kernel_rfl) (by kernel_rfl) (by kernel_rfl) (by decide) (by decide) (by decide) (by decide) (nofun) (by kernel_rfl) (⟨_, rfl, by kernel_rfl, by decide⟩)
theorem ty174 : TyOk Tryz.prog tab ⟨(.slice 107), 1, 24, [.nilsl], false⟩ 174 :=
  ty_ok (i := Tryz.t174) (z := .slice none 0 0) (d := (.slice 107)) (by kernel_rfl) (by kernel_rfl) (by kernel_rfl) (by kernel_rfl) (by kernel_rfl) (by decide) (by decide) (by decide) (by decide) (nofun) (by kernel_rfl) (rfl)
theorem eqn179 : ∀ f ∈ Tryz.prog.fieldsOf 179, f.name ≠ "_" := by
  have h : ((Tryz.prog.fieldsOf 179).toList.all fun f => f.name != "_") = true := by kernel_rfl
  intro f hf
  have := List.all_eq_true.1 h f (by simpa using hf)
  simpa using this
theorem ty179 : TyOk Tryz.prog tab ⟨(.struct [(0, 3), (1, 3)]), 2, 16, [.int .i64, .int .i64], true⟩ 179 :=
  ty_ok (i := Tryz.t179) (z := .agg #[.int .i64 0, .int .i64 0]) (d := (.struct (Tryz.prog.fieldsOf 179))) (by kernel_rfl) (by kernel_rfl) (by kernel_rfl) (by kernel_rfl) (by kernel_rfl) (by decide) (by decide) (by decide) (by decide) (fun _ => ⟨by kernel_rfl, by kernel_rfl, eqn179⟩) (by kernel_rfl) (⟨_, rfl, by kernel_rfl, by decide⟩)
theorem eqn181 : ∀ f ∈ Tryz.prog.fieldsOf 181, f.name ≠ "_" := by
  have h : ((Tryz.prog.fieldsOf 181).toList.all fun f => f.name != "_") = true := by kernel_rfl
  intro f hf
  have := List.all_eq_true.1 h f (by simpa using hf)
  simpa using this
theorem ty181 : TyOk Tryz.prog tab ⟨(.struct [(0, 3), (1, 3), (2, 3)]), 3, 24, [.int .i64, .int .i64, .int .i64], true⟩ 181 :=
  ty_ok (i := Tryz.t181) (z := .agg #[.int .i64 0, .int .i64 0, .int .i64 0]) (d := (.struct (Tryz.prog.fieldsOf 181))) (by kernel_rfl) (by kernel_rfl) (by kernel_rfl) (by kernel_rfl) (by kernel_rfl) (by decide) (by decide) (by decide) (by decide) (fun _ => ⟨by kernel_rfl, by kernel_rfl, eqn181⟩) (by kernel_rfl) (⟨_, rfl, by kernel_rfl, by decide⟩)
theorem eqn183 : ∀ f ∈ Tryz.prog.fieldsOf 183, f.name ≠ "_" := by
  have h : ((Tryz.prog.fieldsOf 183).toList.all fun f => f.name != "_") = true := by kernel_rfl
  intro f hf
  have := List.all_eq_true.1 h f (by simpa using hf)
  simpa using this
theorem ty183 : TyOk Tryz.prog tab ⟨(.struct [(0, 3), (1, 3), (2, 3)]), 3, 24, [.int .i64, .int .i64, .int .i64], true⟩ 183 :=
  ty_ok (i := Tryz.t183) (z := .agg #[.int .i64 0, .int .i64 0, .int .i64 0]) (d := (.struct (Tryz.prog.fieldsOf 183))) (by kernel_rfl) (by kernel_rfl) (by kernel_rfl) (by kernel_rfl) (by kernel_rfl) (by decide) (by decide) (by decide) (by decide) (fun _ => ⟨by kernel_rfl, by kernel_rfl, eqn183⟩) (by kernel_rfl) (⟨_, rfl, by kernel_rfl, by decide⟩)
theorem tabOk : TabOk Tryz.prog tab := tab_ok ⟨ty82, ⟨ty32, ⟨ty24, ⟨ty5, ⟨ty3, ⟨ty2, trivial, trivial⟩, ⟨ty4, trivial, trivial⟩⟩, ⟨ty22, ⟨ty9, trivial, trivial⟩, ⟨ty23, trivial, trivial⟩⟩⟩, ⟨ty29, ⟨ty26, ⟨ty25, trivial, trivial⟩, ⟨ty27, trivial, trivial⟩⟩, ⟨ty31, ⟨ty30, trivial, trivial⟩, trivial⟩⟩⟩, ⟨ty43, ⟨ty39, ⟨ty37, ⟨ty36, trivial, trivial⟩, ⟨ty38, trivial, trivial⟩⟩, ⟨ty42, ⟨ty40, trivial, trivial⟩, trivial⟩⟩, ⟨ty78, ⟨ty45, ⟨ty44, trivial, trivial⟩, ⟨ty77, trivial, trivial⟩⟩, ⟨ty81, ⟨ty79, trivial, trivial⟩, trivial⟩⟩⟩⟩, ⟨ty106, ⟨ty92, ⟨ty88, ⟨ty84, ⟨ty83, trivial, trivial⟩, ⟨ty87, trivial, trivial⟩⟩, ⟨ty90, ⟨ty89, trivial, trivial⟩, trivial⟩⟩, ⟨ty98, ⟨ty94, ⟨ty93, trivial, trivial⟩, ⟨ty97, trivial, trivial⟩⟩, ⟨ty102, ⟨ty99, trivial, trivial⟩, trivial⟩⟩⟩, ⟨ty155, ⟨ty112, ⟨ty108, ⟨ty107, trivial, trivial⟩, ⟨ty109, trivial, trivial⟩⟩, ⟨ty132, ⟨ty117, trivial, trivial⟩, trivial⟩⟩, ⟨ty179, ⟨ty171, ⟨ty163, trivial, trivial⟩, ⟨ty174, trivial, trivial⟩⟩, ⟨ty183, ⟨ty181, trivial, trivial⟩, trivial⟩⟩⟩⟩⟩
end Go.Proofs.YtjgblflcapilkaaGreat.Abs
