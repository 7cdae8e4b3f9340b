/- The table of the types of this seat: what the abstract layer must know of them, by closed facts. Printed by gentab.py. No statement of a claim. -/
import Derived.Test.YtfhojdalheinaaaGreatLayB
import Derived.Test.YtfhojdalheinaaaGreatProg
import Derived.KernelRfl
set_option linter.all false
namespace Go.Proofs.YtfhojdalheinaaaGreat.Abs
open Go.Proofs
def tree:Tree:=(.node 69 ⟨(.struct [(0,3),(1,3),(2,3)]),3,24,[.int .i64,.int .i64,.int .i64],true⟩ (.node 39 ⟨(.slice 149),1,24,[.nilsl],false⟩ (.node 25 ⟨(.slice 3),1,24,[.nilsl],false⟩ (.node 9 ⟨.str,1,16,[.str],false⟩ (.node 4 ⟨.bool,1,1,[.bool],false⟩ (.node 3 ⟨(.int .i64),1,8,[.int .i64],false⟩ (.node 2 ⟨(.int .i64),1,8,[.int .i64],false⟩ .leaf .leaf) .leaf) (.node 5 ⟨(.int .u8),1,1,[.int .u8],false⟩ .leaf .leaf)) (.node 23 ⟨(.slice 161),1,24,[.nilsl],false⟩ (.node 22 ⟨(.slice 134),1,24,[.nilsl],false⟩ .leaf .leaf) (.node 24 ⟨(.slice 138),1,24,[.nilsl],false⟩ .leaf .leaf))) (.node 31 ⟨(.struct [(0,3),(1,3),(2,3),(3,3)]),4,32,[.int .i64,.int .i64,.int .i64,.int .i64],true⟩ (.node 27 ⟨(.struct [(0,3),(1,22),(2,23),(3,24),(4,25)]),5,104,[.int .i64,.nilsl,.nilsl,.nilsl,.nilsl],false⟩ (.node 26 ⟨(.struct [(0,3),(1,22),(2,23),(3,24),(4,25)]),5,104,[.int .i64,.nilsl,.nilsl,.nilsl,.nilsl],false⟩ .leaf .leaf) (.node 29 ⟨(.struct [(0,25),(1,25)]),2,48,[.nilsl,.nilsl],false⟩ .leaf .leaf)) (.node 37 ⟨(.slice 143),1,24,[.nilsl],false⟩ (.node 34 ⟨(.struct [(0,25),(1,25)]),2,48,[.nilsl,.nilsl],false⟩ .leaf .leaf) (.node 38 ⟨(.slice 159),1,24,[.nilsl],false⟩ .leaf .leaf)))) (.node 56 ⟨(.struct [(0,27),(5,53),(8,54),(9,55)]),10,224,[.int .i64,.nilsl,.nilsl,.nilsl,.nilsl,.nilsl,.nilsl,.nilsl,.nilsl,.nilsl],false⟩ (.node 51 ⟨(.slice 25),1,24,[.nilsl],false⟩ (.node 41 ⟨(.struct [(0,3),(1,37),(2,38),(3,39),(4,25)]),5,104,[.int .i64,.nilsl,.nilsl,.nilsl,.nilsl],false⟩ (.node 40 ⟨(.struct [(0,3),(1,37),(2,38),(3,39),(4,25)]),5,104,[.int .i64,.nilsl,.nilsl,.nilsl,.nilsl],false⟩ .leaf .leaf) (.node 44 ⟨(.struct [(0,3),(1,3),(2,3),(3,3)]),4,32,[.int .i64,.int .i64,.int .i64,.int .i64],true⟩ .leaf .leaf)) (.node 54 ⟨(.slice 59),1,24,[.nilsl],false⟩ (.node 53 ⟨(.struct [(0,25),(1,25),(2,51)]),3,72,[.nilsl,.nilsl,.nilsl],false⟩ .leaf .leaf) (.node 55 ⟨(.slice 177),1,24,[.nilsl],false⟩ .leaf .leaf))) (.node 62 ⟨(.slice 69),1,24,[.nilsl],false⟩ (.node 59 ⟨(.struct [(0,3),(1,3),(2,3)]),3,24,[.int .i64,.int .i64,.int .i64],true⟩ (.node 57 ⟨(.struct [(0,27),(5,53),(8,54),(9,55)]),10,224,[.int .i64,.nilsl,.nilsl,.nilsl,.nilsl,.nilsl,.nilsl,.nilsl,.nilsl,.nilsl],false⟩ .leaf .leaf) (.node 61 ⟨(.struct [(0,25),(1,25),(2,51)]),3,72,[.nilsl,.nilsl,.nilsl],false⟩ .leaf .leaf)) (.node 64 ⟨(.struct [(0,41),(5,61),(8,62),(9,63)]),10,224,[.int .i64,.nilsl,.nilsl,.nilsl,.nilsl,.nilsl,.nilsl,.nilsl,.nilsl,.nilsl],false⟩ (.node 63 ⟨(.slice 189),1,24,[.nilsl],false⟩ .leaf .leaf) (.node 65 ⟨(.struct [(0,41),(5,61),(8,62),(9,63)]),10,224,[.int .i64,.nilsl,.nilsl,.nilsl,.nilsl,.nilsl,.nilsl,.nilsl,.nilsl,.nilsl],false⟩ .leaf .leaf))))) (.node 151 ⟨(.slice 187),1,24,[.nilsl],false⟩ (.node 138 ⟨(.struct [(0,136),(1,51)]),2,48,[.nilsl,.nilsl],false⟩ (.node 133 ⟨(.struct [(0,9),(1,3),(2,132)]),3,48,[.str,.int .i64,.nilsl],false⟩ (.node 89 ⟨(.struct [(0,34),(2,25)]),3,72,[.nilsl,.nilsl,.nilsl],false⟩ (.node 88 ⟨(.struct [(0,34),(2,25)]),3,72,[.nilsl,.nilsl,.nilsl],false⟩ .leaf .leaf) (.node 132 ⟨(.slice 273),1,24,[.nilsl],false⟩ .leaf .leaf)) (.node 136 ⟨(.slice 283),1,24,[.nilsl],false⟩ (.node 134 ⟨(.struct [(0,9),(1,3),(2,132)]),3,48,[.str,.int .i64,.nilsl],false⟩ .leaf .leaf) (.node 137 ⟨(.struct [(0,136),(1,51)]),2,48,[.nilsl,.nilsl],false⟩ .leaf .leaf))) (.node 145 ⟨(.struct [(0,3),(1,25),(2,25)]),3,56,[.int .i64,.nilsl,.nilsl],false⟩ (.node 142 ⟨(.struct [(0,9),(1,3),(2,141)]),3,48,[.str,.int .i64,.nilsl],false⟩ (.node 141 ⟨(.slice 145),1,24,[.nilsl],false⟩ .leaf .leaf) (.node 143 ⟨(.struct [(0,9),(1,3),(2,141)]),3,48,[.str,.int .i64,.nilsl],false⟩ .leaf .leaf)) (.node 148 ⟨(.struct [(0,146),(1,51)]),2,48,[.nilsl,.nilsl],false⟩ (.node 146 ⟨(.slice 222),1,24,[.nilsl],false⟩ .leaf .leaf) (.node 149 ⟨(.struct [(0,146),(1,51)]),2,48,[.nilsl,.nilsl],false⟩ .leaf .leaf)))) (.node 188 ⟨(.struct [(0,3),(1,187),(5,62)]),6,64,[.int .i64,.int .i64,.int .i64,.int .i64,.int .i64,.nilsl],false⟩ (.node 176 ⟨(.struct [(0,3),(1,175),(5,54)]),6,64,[.int .i64,.int .i64,.int .i64,.int .i64,.int .i64,.nilsl],false⟩ (.node 161 ⟨(.struct [(0,3),(1,3),(2,4),(3,3)]),4,32,[.int .i64,.int .i64,.bool,.int .i64],true⟩ (.node 159 ⟨(.struct [(0,3),(1,3),(2,4),(3,3)]),4,32,[.int .i64,.int .i64,.bool,.int .i64],true⟩ .leaf .leaf) (.node 175 ⟨(.struct [(0,3),(1,3),(2,3),(3,3)]),4,32,[.int .i64,.int .i64,.int .i64,.int .i64],true⟩ .leaf .leaf)) (.node 183 ⟨(.slice 62),1,24,[.nilsl],false⟩ (.node 177 ⟨(.struct [(0,3),(1,175),(5,54)]),6,64,[.int .i64,.int .i64,.int .i64,.int .i64,.int .i64,.nilsl],false⟩ .leaf .leaf) (.node 187 ⟨(.struct [(0,3),(1,3),(2,3),(3,3)]),4,32,[.int .i64,.int .i64,.int .i64,.int .i64],true⟩ .leaf .leaf))) (.node 222 ⟨(.struct [(0,3),(1,3)]),2,16,[.int .i64,.int .i64],true⟩ (.node 212 ⟨(.struct [(0,69),(3,187),(7,62)]),8,80,[.int .i64,.int .i64,.int .i64,.int .i64,.int .i64,.int .i64,.int .i64,.nilsl],false⟩ (.node 189 ⟨(.struct [(0,3),(1,187),(5,62)]),6,64,[.int .i64,.int .i64,.int .i64,.int .i64,.int .i64,.nilsl],false⟩ .leaf .leaf) (.node 213 ⟨(.struct [(0,69),(3,187),(7,62)]),8,80,[.int .i64,.int .i64,.int .i64,.int .i64,.int .i64,.int .i64,.int .i64,.nilsl],false⟩ .leaf .leaf)) (.node 273 ⟨(.struct [(0,3),(1,25),(2,25)]),3,56,[.int .i64,.nilsl,.nilsl],false⟩ (.node 243 ⟨(.slice 5),1,24,[.nilsl],false⟩ .leaf .leaf) (.node 283 ⟨(.struct [(0,3),(1,3)]),2,16,[.int .i64,.int .i64],true⟩ .leaf .leaf))))))
def tab:Nat→Ty:=tree.find
theorem ty2:TyOk Tryz.prog tab ⟨(.int .i64),1,8,[.int .i64],false⟩ 2:=
 ty_ok (i:=Tryz.t2) (z:=.int .i64 0) (d:=(.int .i64)) (by kernel_rfl) (by kernel_rfl) (by kernel_rfl) (by kernel_rfl) (by kernel_rfl) (by decide) (by decide) (by decide) (by decide) (nofun) (by kernel_rfl) (rfl)
theorem ty3:TyOk Tryz.prog tab ⟨(.int .i64),1,8,[.int .i64],false⟩ 3:=
 ty_ok (i:=Tryz.t3) (z:=.int .i64 0) (d:=(.int .i64)) (by kernel_rfl) (by kernel_rfl) (by kernel_rfl) (by kernel_rfl) (by kernel_rfl) (by decide) (by decide) (by decide) (by decide) (nofun) (by kernel_rfl) (rfl)
theorem ty4:TyOk Tryz.prog tab ⟨.bool,1,1,[.bool],false⟩ 4:=
 ty_ok (i:=Tryz.t4) (z:=.bool false) (d:=.bool) (by kernel_rfl) (by kernel_rfl) (by kernel_rfl) (by kernel_rfl) (by kernel_rfl) (by decide) (by decide) (by decide) (by decide) (nofun) (by kernel_rfl) (rfl)
theorem ty5:TyOk Tryz.prog tab ⟨(.int .u8),1,1,[.int .u8],false⟩ 5:=
 ty_ok (i:=Tryz.t5) (z:=.int .u8 0) (d:=(.int .u8)) (by kernel_rfl) (by kernel_rfl) (by kernel_rfl) (by kernel_rfl) (by kernel_rfl) (by decide) (by decide) (by decide) (by decide) (nofun) (by kernel_rfl) (rfl)
theorem ty9:TyOk Tryz.prog tab ⟨.str,1,16,[.str],false⟩ 9:=
 ty_ok (i:=Tryz.t9) (z:=.string ⟨#[]⟩) (d:=.string) (by kernel_rfl) (by kernel_rfl) (by kernel_rfl) (by kernel_rfl) (by kernel_rfl) (by decide) (by decide) (by decide) (by decide) (nofun) (by kernel_rfl) (rfl)
theorem ty22:TyOk Tryz.prog tab ⟨(.slice 134),1,24,[.nilsl],false⟩ 22:=
 ty_ok (i:=Tryz.t22) (z:=.slice none 0 0) (d:=(.slice 134)) (by kernel_rfl) (by kernel_rfl) (by kernel_rfl) (by kernel_rfl) (by kernel_rfl) (by decide) (by decide) (by decide) (by decide) (nofun) (by kernel_rfl) (rfl)
theorem ty23:TyOk Tryz.prog tab ⟨(.slice 161),1,24,[.nilsl],false⟩ 23:=
 ty_ok (i:=Tryz.t23) (z:=.slice none 0 0) (d:=(.slice 161)) (by kernel_rfl) (by kernel_rfl) (by kernel_rfl) (by kernel_rfl) (by kernel_rfl) (by decide) (by decide) (by decide) (by decide) (nofun) (by kernel_rfl) (rfl)
theorem ty24:TyOk Tryz.prog tab ⟨(.slice 138),1,24,[.nilsl],false⟩ 24:=
 ty_ok (i:=Tryz.t24) (z:=.slice none 0 0) (d:=(.slice 138)) (by kernel_rfl) (by kernel_rfl) (by kernel_rfl) (by kernel_rfl) (by kernel_rfl) (by decide) (by decide) (by decide) (by decide) (nofun) (by kernel_rfl) (rfl)
theorem ty25:TyOk Tryz.prog tab ⟨(.slice 3),1,24,[.nilsl],false⟩ 25:=
 ty_ok (i:=Tryz.t25) (z:=.slice none 0 0) (d:=(.slice 3)) (by kernel_rfl) (by kernel_rfl) (by kernel_rfl) (by kernel_rfl) (by kernel_rfl) (by decide) (by decide) (by decide) (by decide) (nofun) (by kernel_rfl) (rfl)
theorem ty26:TyOk Tryz.prog tab ⟨(.struct [(0,3),(1,22),(2,23),(3,24),(4,25)]),5,104,[.int .i64,.nilsl,.nilsl,.nilsl,.nilsl],false⟩ 26:=
 ty_ok (i:=Tryz.t26) (z:=.agg #[.int .i64 0,.slice none 0 0,.slice none 0 0,.slice none 0 0,.slice none 0 0]) (d:=(.struct (Tryz.prog.fieldsOf 26))) (by kernel_rfl) (by kernel_rfl) (by kernel_rfl) (by kernel_rfl) (by kernel_rfl) (by decide) (by decide) (by decide) (by decide) (nofun) (by kernel_rfl) (⟨_,rfl,by kernel_rfl,by decide⟩)
theorem ty27:TyOk Tryz.prog tab ⟨(.struct [(0,3),(1,22),(2,23),(3,24),(4,25)]),5,104,[.int .i64,.nilsl,.nilsl,.nilsl,.nilsl],false⟩ 27:=
 ty_ok (i:=Tryz.t27) (z:=.agg #[.int .i64 0,.slice none 0 0,.slice none 0 0,.slice none 0 0,.slice none 0 0]) (d:=(.struct (Tryz.prog.fieldsOf 27))) (by kernel_rfl) (by kernel_rfl) (by kernel_rfl) (by kernel_rfl) (by kernel_rfl) (by decide) (by decide) (by decide) (by decide) (nofun) (by kernel_rfl) (⟨_,rfl,by kernel_rfl,by decide⟩)
theorem ty29:TyOk Tryz.prog tab ⟨(.struct [(0,25),(1,25)]),2,48,[.nilsl,.nilsl],false⟩ 29:=
 ty_ok (i:=Tryz.t29) (z:=.agg #[.slice none 0 0,.slice none 0 0]) (d:=(.struct (Tryz.prog.fieldsOf 29))) (by kernel_rfl) (by kernel_rfl) (by kernel_rfl) (by kernel_rfl) (by kernel_rfl) (by decide) (by decide) (by decide) (by decide) (nofun) (by kernel_rfl) (⟨_,rfl,by kernel_rfl,by decide⟩)
theorem eqn31:∀f∈Tryz.prog.fieldsOf 31,f.name≠ "_" :=by
 have h:((Tryz.prog.fieldsOf 31).toList.all fun f=>f.name != "_")=true:=by kernel_rfl
 intro f hf
 have:=List.all_eq_true.1 h f (by simpa using hf)
 simpa using this
theorem ty31:TyOk Tryz.prog tab ⟨(.struct [(0,3),(1,3),(2,3),(3,3)]),4,32,[.int .i64,.int .i64,.int .i64,.int .i64],true⟩ 31:=
 ty_ok (i:=Tryz.t31) (z:=.agg #[.int .i64 0,.int .i64 0,.int .i64 0,.int .i64 0]) (d:=(.struct (Tryz.prog.fieldsOf 31))) (by kernel_rfl) (by kernel_rfl) (by kernel_rfl) (by kernel_rfl) (by kernel_rfl) (by decide) (by decide) (by decide) (by decide) (fun _=>⟨by kernel_rfl,by kernel_rfl,eqn31⟩) (by kernel_rfl) (⟨_,rfl,by kernel_rfl,by decide⟩)
theorem ty34:TyOk Tryz.prog tab ⟨(.struct [(0,25),(1,25)]),2,48,[.nilsl,.nilsl],false⟩ 34:=
 ty_ok (i:=Tryz.t34) (z:=.agg #[.slice none 0 0,.slice none 0 0]) (d:=(.struct (Tryz.prog.fieldsOf 34))) (by kernel_rfl) (by kernel_rfl) (by kernel_rfl) (by kernel_rfl) (by kernel_rfl) (by decide) (by decide) (by decide) (by decide) (nofun) (by kernel_rfl) (⟨_,rfl,by kernel_rfl,by decide⟩)
theorem ty37:TyOk Tryz.prog tab ⟨(.slice 143),1,24,[.nilsl],false⟩ 37:=
 ty_ok (i:=Tryz.t37) (z:=.slice none 0 0) (d:=(.slice 143)) (by kernel_rfl) (by kernel_rfl) (by kernel_rfl) (by kernel_rfl) (by kernel_rfl) (by decide) (by decide) (by decide) (by decide) (nofun) (by kernel_rfl) (rfl)
theorem ty38:TyOk Tryz.prog tab ⟨(.slice 159),1,24,[.nilsl],false⟩ 38:=
 ty_ok (i:=Tryz.t38) (z:=.slice none 0 0) (d:=(.slice 159)) (by kernel_rfl) (by kernel_rfl) (by kernel_rfl) (by kernel_rfl) (by kernel_rfl) (by decide) (by decide) (by decide) (by decide) (nofun) (by kernel_rfl) (rfl)
theorem ty39:TyOk Tryz.prog tab ⟨(.slice 149),1,24,[.nilsl],false⟩ 39:=
 ty_ok (i:=Tryz.t39) (z:=.slice none 0 0) (d:=(.slice 149)) (by kernel_rfl) (by kernel_rfl) (by kernel_rfl) (by kernel_rfl) (by kernel_rfl) (by decide) (by decide) (by decide) (by decide) (nofun) (by kernel_rfl) (rfl)
theorem ty40:TyOk Tryz.prog tab ⟨(.struct [(0,3),(1,37),(2,38),(3,39),(4,25)]),5,104,[.int .i64,.nilsl,.nilsl,.nilsl,.nilsl],false⟩ 40:=
 ty_ok (i:=Tryz.t40) (z:=.agg #[.int .i64 0,.slice none 0 0,.slice none 0 0,.slice none 0 0,.slice none 0 0]) (d:=(.struct (Tryz.prog.fieldsOf 40))) (by kernel_rfl) (by kernel_rfl) (by kernel_rfl) (by kernel_rfl) (by kernel_rfl) (by decide) (by decide) (by decide) (by decide) (nofun) (by kernel_rfl) (⟨_,rfl,by kernel_rfl,by decide⟩)
theorem ty41:TyOk Tryz.prog tab ⟨(.struct [(0,3),(1,37),(2,38),(3,39),(4,25)]),5,104,[.int .i64,.nilsl,.nilsl,.nilsl,.nilsl],false⟩ 41:=
 ty_ok (i:=Tryz.t41) (z:=.agg #[.int .i64 0,.slice none 0 0,.slice none 0 0,.slice none 0 0,.slice none 0 0]) (d:=(.struct (Tryz.prog.fieldsOf 41))) (by kernel_rfl) (by kernel_rfl) (by kernel_rfl) (by kernel_rfl) (by kernel_rfl) (by decide) (by decide) (by decide) (by decide) (nofun) (by kernel_rfl) (⟨_,rfl,by kernel_rfl,by decide⟩)
theorem eqn44:∀f∈Tryz.prog.fieldsOf 44,f.name≠ "_" :=by
 have h:((Tryz.prog.fieldsOf 44).toList.all fun f=>f.name != "_")=true:=by kernel_rfl
 intro f hf
 have:=List.all_eq_true.1 h f (by simpa using hf)
 simpa using this
theorem ty44:TyOk Tryz.prog tab ⟨(.struct [(0,3),(1,3),(2,3),(3,3)]),4,32,[.int .i64,.int .i64,.int .i64,.int .i64],true⟩ 44:=
 ty_ok (i:=Tryz.t44) (z:=.agg #[.int .i64 0,.int .i64 0,.int .i64 0,.int .i64 0]) (d:=(.struct (Tryz.prog.fieldsOf 44))) (by kernel_rfl) (by kernel_rfl) (by kernel_rfl) (by kernel_rfl) (by kernel_rfl) (by decide) (by decide) (by decide) (by decide) (fun _=>⟨by kernel_rfl,by kernel_rfl,eqn44⟩) (by kernel_rfl) (⟨_,rfl,by kernel_rfl,by decide⟩)
theorem ty51:TyOk Tryz.prog tab ⟨(.slice 25),1,24,[.nilsl],false⟩ 51:=
 ty_ok (i:=Tryz.t51) (z:=.slice none 0 0) (d:=(.slice 25)) (by kernel_rfl) (by kernel_rfl) (by kernel_rfl) (by kernel_rfl) (by kernel_rfl) (by decide) (by decide) (by decide) (by decide) (nofun) (by kernel_rfl) (rfl)
theorem ty53:TyOk Tryz.prog tab ⟨(.struct [(0,25),(1,25),(2,51)]),3,72,[.nilsl,.nilsl,.nilsl],false⟩ 53:=
 ty_ok (i:=Tryz.t53) (z:=.agg #[.slice none 0 0,.slice none 0 0,.slice none 0 0]) (d:=(.struct (Tryz.prog.fieldsOf 53))) (by kernel_rfl) (by kernel_rfl) (by kernel_rfl) (by kernel_rfl) (by kernel_rfl) (by decide) (by decide) (by decide) (by decide) (nofun) (by kernel_rfl) (⟨_,rfl,by kernel_rfl,by decide⟩)
theorem ty54:TyOk Tryz.prog tab ⟨(.slice 59),1,24,[.nilsl],false⟩ 54:=
 ty_ok (i:=Tryz.t54) (z:=.slice none 0 0) (d:=(.slice 59)) (by kernel_rfl) (by kernel_rfl) (by kernel_rfl) (by kernel_rfl) (by kernel_rfl) (by decide) (by decide) (by decide) (by decide) (nofun) (by kernel_rfl) (rfl)
theorem ty55:TyOk Tryz.prog tab ⟨(.slice 177),1,24,[.nilsl],false⟩ 55:=
 ty_ok (i:=Tryz.t55) (z:=.slice none 0 0) (d:=(.slice 177)) (by kernel_rfl) (by kernel_rfl) (by kernel_rfl) (by kernel_rfl) (by kernel_rfl) (by decide) (by decide) (by decide) (by decide) (nofun) (by kernel_rfl) (rfl)
theorem ty56:TyOk Tryz.prog tab ⟨(.struct [(0,27),(5,53),(8,54),(9,55)]),10,224,[.int .i64,.nilsl,.nilsl,.nilsl,.nilsl,.nilsl,.nilsl,.nilsl,.nilsl,.nilsl],false⟩ 56:=
 ty_ok (i:=Tryz.t56) (z:=.agg #[.int .i64 0,.slice none 0 0,.slice none 0 0,.slice none 0 0,.slice none 0 0,.slice none 0 0,.slice none 0 0,.slice none 0 0,.slice none 0 0,.slice none 0 0]) (d:=(.struct (Tryz.prog.fieldsOf 56))) (by kernel_rfl) (by kernel_rfl) (by kernel_rfl) (by kernel_rfl) (by kernel_rfl) (by decide) (by decide) (by decide) (by decide) (nofun) (by kernel_rfl) (⟨_,rfl,by kernel_rfl,by decide⟩)
theorem ty57:TyOk Tryz.prog tab ⟨(.struct [(0,27),(5,53),(8,54),(9,55)]),10,224,[.int .i64,.nilsl,.nilsl,.nilsl,.nilsl,.nilsl,.nilsl,.nilsl,.nilsl,.nilsl],false⟩ 57:=
 ty_ok (i:=Tryz.t57) (z:=.agg #[.int .i64 0,.slice none 0 0,.slice none 0 0,.slice none 0 0,.slice none 0 0,.slice none 0 0,.slice none 0 0,.slice none 0 0,.slice none 0 0,.slice none 0 0]) (d:=(.struct (Tryz.prog.fieldsOf 57))) (by kernel_rfl) (by kernel_rfl) (by kernel_rfl) (by kernel_rfl) (by kernel_rfl) (by decide) (by decide) (by decide) (by decide) (nofun) (by kernel_rfl) (⟨_,rfl,by kernel_rfl,by decide⟩)
theorem eqn59:∀f∈Tryz.prog.fieldsOf 59,f.name≠ "_" :=by
 have h:((Tryz.prog.fieldsOf 59).toList.all fun f=>f.name != "_")=true:=by kernel_rfl
 intro f hf
 have:=List.all_eq_true.1 h f (by simpa using hf)
 simpa using this
theorem ty59:TyOk Tryz.prog tab ⟨(.struct [(0,3),(1,3),(2,3)]),3,24,[.int .i64,.int .i64,.int .i64],true⟩ 59:=
 ty_ok (i:=Tryz.t59) (z:=.agg #[.int .i64 0,.int .i64 0,.int .i64 0]) (d:=(.struct (Tryz.prog.fieldsOf 59))) (by kernel_rfl) (by kernel_rfl) (by kernel_rfl) (by kernel_rfl) (by kernel_rfl) (by decide) (by decide) (by decide) (by decide) (fun _=>⟨by kernel_rfl,by kernel_rfl,eqn59⟩) (by kernel_rfl) (⟨_,rfl,by kernel_rfl,by decide⟩)
theorem ty61:TyOk Tryz.prog tab ⟨(.struct [(0,25),(1,25),(2,51)]),3,72,[.nilsl,.nilsl,.nilsl],false⟩ 61:=
 ty_ok (i:=Tryz.t61) (z:=.agg #[.slice none 0 0,.slice none 0 0,.slice none 0 0]) (d:=(.struct (Tryz.prog.fieldsOf 61))) (by kernel_rfl) (by kernel_rfl) (by kernel_rfl) (by kernel_rfl) (by kernel_rfl) (by decide) (by decide) (by decide) (by decide) (nofun) (by kernel_rfl) (⟨_,rfl,by kernel_rfl,by decide⟩)
theorem ty62:TyOk Tryz.prog tab ⟨(.slice 69),1,24,[.nilsl],false⟩ 62:=
 ty_ok (i:=Tryz.t62) (z:=.slice none 0 0) (d:=(.slice 69)) (by kernel_rfl) (by kernel_rfl) (by kernel_rfl) (by kernel_rfl) (by kernel_rfl) (by decide) (by decide) (by decide) (by decide) (nofun) (by kernel_rfl) (rfl)
theorem ty63:TyOk Tryz.prog tab ⟨(.slice 189),1,24,[.nilsl],false⟩ 63:=
 ty_ok (i:=Tryz.t63) (z:=.slice none 0 0) (d:=(.slice 189)) (by kernel_rfl) (by kernel_rfl) (by kernel_rfl) (by kernel_rfl) (by kernel_rfl) (by decide) (by decide) (by decide) (by decide) (nofun) (by kernel_rfl) (rfl)
theorem ty64:TyOk Tryz.prog tab ⟨(.struct [(0,41),(5,61),(8,62),(9,63)]),10,224,[.int .i64,.nilsl,.nilsl,.nilsl,.nilsl,.nilsl,.nilsl,.nilsl,.nilsl,.nilsl],false⟩ 64:=
 ty_ok (i:=Tryz.t64) (z:=.agg #[.int .i64 0,.slice none 0 0,.slice none 0 0,.slice none 0 0,.slice none 0 0,.slice none 0 0,.slice none 0 0,.slice none 0 0,.slice none 0 0,.slice none 0 0]) (d:=(.struct (Tryz.prog.fieldsOf 64))) (by kernel_rfl) (by kernel_rfl) (by kernel_rfl) (by kernel_rfl) (by kernel_rfl) (by decide) (by decide) (by decide) (by decide) (nofun) (by kernel_rfl) (⟨_,rfl,by kernel_rfl,by decide⟩)
theorem ty65:TyOk Tryz.prog tab ⟨(.struct [(0,41),(5,61),(8,62),(9,63)]),10,224,[.int .i64,.nilsl,.nilsl,.nilsl,.nilsl,.nilsl,.nilsl,.nilsl,.nilsl,.nilsl],false⟩ 65:=
 ty_ok (i:=Tryz.t65) (z:=.agg #[.int .i64 0,.slice none 0 0,.slice none 0 0,.slice none 0 0,.slice none 0 0,.slice none 0 0,.slice none 0 0,.slice none 0 0,.slice none 0 0,.slice none 0 0]) (d:=(.struct (Tryz.prog.fieldsOf 65))) (by kernel_rfl) (by kernel_rfl) (by kernel_rfl) (by kernel_rfl) (by kernel_rfl) (by decide) (by decide) (by decide) (by decide) (nofun) (by kernel_rfl) (⟨_,rfl,by kernel_rfl,by decide⟩)
theorem eqn69:∀f∈Tryz.prog.fieldsOf 69,f.name≠ "_" :=by
 have h:((Tryz.prog.fieldsOf 69).toList.all fun f=>f.name != "_")=true:=by kernel_rfl
 intro f hf
 have:=List.all_eq_true.1 h f (by simpa using hf)
 simpa using this
theorem ty69:TyOk Tryz.prog tab ⟨(.struct [(0,3),(1,3),(2,3)]),3,24,[.int .i64,.int .i64,.int .i64],true⟩ 69:=
 ty_ok (i:=Tryz.t69) (z:=.agg #[.int .i64 0,.int .i64 0,.int .i64 0]) (d:=(.struct (Tryz.prog.fieldsOf 69))) (by kernel_rfl) (by kernel_rfl) (by kernel_rfl) (by kernel_rfl) (by kernel_rfl) (by decide) (by decide) (by decide) (by decide) (fun _=>⟨by kernel_rfl,by kernel_rfl,eqn69⟩) (by kernel_rfl) (⟨_,rfl,by kernel_rfl,by decide⟩)
theorem ty88:TyOk Tryz.prog tab ⟨(.struct [(0,34),(2,25)]),3,72,[.nilsl,.nilsl,.nilsl],false⟩ 88:=
 ty_ok (i:=Tryz.t88) (z:=.agg #[.slice none 0 0,.slice none 0 0,.slice none 0 0]) (d:=(.struct (Tryz.prog.fieldsOf 88))) (by kernel_rfl) (by kernel_rfl) (by kernel_rfl) (by kernel_rfl) (by kernel_rfl) (by decide) (by decide) (by decide) (by decide) (nofun) (by kernel_rfl) (⟨_,rfl,by kernel_rfl,by decide⟩)
theorem ty89:TyOk Tryz.prog tab ⟨(.struct [(0,34),(2,25)]),3,72,[.nilsl,.nilsl,.nilsl],false⟩ 89:=
 ty_ok (i:=Tryz.t89) (z:=.agg #[.slice none 0 0,.slice none 0 0,.slice none 0 0]) (d:=(.struct (Tryz.prog.fieldsOf 89))) (by kernel_rfl) (by kernel_rfl) (by kernel_rfl) (by kernel_rfl) (by kernel_rfl) (by decide) (by decide) (by decide) (by decide) (nofun) (by kernel_rfl) (⟨_,rfl,by kernel_rfl,by decide⟩)
theorem ty132:TyOk Tryz.prog tab ⟨(.slice 273),1,24,[.nilsl],false⟩ 132:=
 ty_ok (i:=Tryz.t132) (z:=.slice none 0 0) (d:=(.slice 273)) (by kernel_rfl) (by kernel_rfl) (by kernel_rfl) (by kernel_rfl) (by kernel_rfl) (by decide) (by decide) (by decide) (by decide) (nofun) (by kernel_rfl) (rfl)
theorem ty133:TyOk Tryz.prog tab ⟨(.struct [(0,9),(1,3),(2,132)]),3,48,[.str,.int .i64,.nilsl],false⟩ 133:=
 ty_ok (i:=Tryz.t133) (z:=.agg #[.string ⟨#[]⟩,.int .i64 0,.slice none 0 0]) (d:=(.struct (Tryz.prog.fieldsOf 133))) (by kernel_rfl) (by kernel_rfl) (by kernel_rfl) (by kernel_rfl) (by kernel_rfl) (by decide) (by decide) (by decide) (by decide) (nofun) (by kernel_rfl) (⟨_,rfl,by kernel_rfl,by decide⟩)
theorem ty134:TyOk Tryz.prog tab ⟨(.struct [(0,9),(1,3),(2,132)]),3,48,[.str,.int .i64,.nilsl],false⟩ 134:=
 ty_ok (i:=Tryz.t134) (z:=.agg #[.string ⟨#[]⟩,.int .i64 0,.slice none 0 0]) (d:=(.struct (Tryz.prog.fieldsOf 134))) (by kernel_rfl) (by kernel_rfl) (by kernel_rfl) (by kernel_rfl) (by kernel_rfl) (by decide) (by decide) (by decide) (by decide) (nofun) (by kernel_rfl) (⟨_,rfl,by kernel_rfl,by decide⟩)
theorem ty136:TyOk Tryz.prog tab ⟨(.slice 283),1,24,[.nilsl],false⟩ 136:=
 ty_ok (i:=Tryz.t136) (z:=.slice none 0 0) (d:=(.slice 283)) (by kernel_rfl) (by kernel_rfl) (by kernel_rfl) (by kernel_rfl) (by kernel_rfl) (by decide) (by decide) (by decide) (by decide) (nofun) (by kernel_rfl) (rfl)
theorem ty137:TyOk Tryz.prog tab ⟨(.struct [(0,136),(1,51)]),2,48,[.nilsl,.nilsl],false⟩ 137:=
 ty_ok (i:=Tryz.t137) (z:=.agg #[.slice none 0 0,.slice none 0 0]) (d:=(.struct (Tryz.prog.fieldsOf 137))) (by kernel_rfl) (by kernel_rfl) (by kernel_rfl) (by kernel_rfl) (by kernel_rfl) (by decide) (by decide) (by decide) (by decide) (nofun) (by kernel_rfl) (⟨_,rfl,by kernel_rfl,by decide⟩)
theorem ty138:TyOk Tryz.prog tab ⟨(.struct [(0,136),(1,51)]),2,48,[.nilsl,.nilsl],false⟩ 138:=
 ty_ok (i:=Tryz.t138) (z:=.agg #[.slice none 0 0,.slice none 0 0]) (d:=(.struct (Tryz.prog.fieldsOf 138))) (by kernel_rfl) (by kernel_rfl) (by kernel_rfl) (by kernel_rfl) (by kernel_rfl) (by decide) (by decide) (by decide) (by decide) (nofun) (by kernel_rfl) (⟨_,rfl,by kernel_rfl,by decide⟩)
theorem ty141:TyOk Tryz.prog tab ⟨(.slice 145),1,24,[.nilsl],false⟩ 141:=
 ty_ok (i:=Tryz.t141) (z:=.slice none 0 0) (d:=(.slice 145)) (by kernel_rfl) (by kernel_rfl) (by kernel_rfl) (by kernel_rfl) (by kernel_rfl) (by decide) (by decide) (by decide) (by decide) (nofun) (by kernel_rfl) (rfl)
theorem ty142:TyOk Tryz.prog tab ⟨(.struct [(0,9),(1,3),(2,141)]),3,48,[.str,.int .i64,.nilsl],false⟩ 142:=
 ty_ok (i:=Tryz.t142) (z:=.agg #[.string ⟨#[]⟩,.int .i64 0,.slice none 0 0]) (d:=(.struct (Tryz.prog.fieldsOf 142))) (by kernel_rfl) (by kernel_rfl) (by kernel_rfl) (by kernel_rfl) (by kernel_rfl) (by decide) (by decide) (by decide) (by decide) (nofun) (by kernel_rfl) (⟨_,rfl,by kernel_rfl,by decide⟩)
theorem ty143:TyOk Tryz.prog tab ⟨(.struct [(0,9),(1,3),(2,141)]),3,48,[.str,.int .i64,.nilsl],false⟩ 143:=
 ty_ok (i:=Tryz.t143) (z:=.agg #[.string ⟨#[]⟩,.int .i64 0,.slice none 0 0]) (d:=(.struct (Tryz.prog.fieldsOf 143))) (by kernel_rfl) (by kernel_rfl) (by kernel_rfl) (by kernel_rfl) (by kernel_rfl) (by decide) (by decide) (by decide) (by decide) (nofun) (by kernel_rfl) (⟨_,rfl,by kernel_rfl,by decide⟩)
theorem ty145:TyOk Tryz.prog tab ⟨(.struct [(0,3),(1,25),(2,25)]),3,56,[.int .i64,.nilsl,.nilsl],false⟩ 145:=
 ty_ok (i:=Tryz.t145) (z:=.agg #[.int .i64 0,.slice none 0 0,.slice none 0 0]) (d:=(.struct (Tryz.prog.fieldsOf 145))) (by kernel_rfl) (by kernel_rfl) (by kernel_rfl) (by kernel_rfl) (by kernel_rfl) (by decide) (by decide) (by decide) (by decide) (nofun) (by kernel_rfl) (⟨_,rfl,by kernel_rfl,by decide⟩)
theorem ty146:TyOk Tryz.prog tab ⟨(.slice 222),1,24,[.nilsl],false⟩ 146:=
 ty_ok (i:=Tryz.t146) (z:=.slice none 0 0) (d:=(.slice 222)) (by kernel_rfl) (by kernel_rfl) (by kernel_rfl) (by kernel_rfl) (by kernel_rfl) (by decide) (by decide) (by decide) (by decide) (nofun) (by kernel_rfl) (rfl)
theorem ty148:TyOk Tryz.prog tab ⟨(.struct [(0,146),(1,51)]),2,48,[.nilsl,.nilsl],false⟩ 148:=
 ty_ok (i:=Tryz.t148) (z:=.agg #[.slice none 0 0,.slice none 0 0]) (d:=(.struct (Tryz.prog.fieldsOf 148))) (by kernel_rfl) (by kernel_rfl) (by kernel_rfl) (by kernel_rfl) (by kernel_rfl) (by decide) (by decide) (by decide) (by decide) (nofun) (by kernel_rfl) (⟨_,rfl,by kernel_rfl,by decide⟩)
theorem ty149:TyOk Tryz.prog tab ⟨(.struct [(0,146),(1,51)]),2,48,[.nilsl,.nilsl],false⟩ 149:=
 ty_ok (i:=Tryz.t149) (z:=.agg #[.slice none 0 0,.slice none 0 0]) (d:=(.struct (Tryz.prog.fieldsOf 149))) (by kernel_rfl) (by kernel_rfl) (by kernel_rfl) (by kernel_rfl) (by kernel_rfl) (by decide) (by decide) (by decide) (by decide) (nofun) (by kernel_rfl) (⟨_,rfl,by kernel_rfl,by decide⟩)
theorem ty151:TyOk Tryz.prog tab ⟨(.slice 187),1,24,[.nilsl],false⟩ 151:=
 ty_ok (i:=Tryz.t151) (z:=.slice none 0 0) (d:=(.slice 187)) (by kernel_rfl) (by kernel_rfl) (by kernel_rfl) (by kernel_rfl) (by kernel_rfl) (by decide) (by decide) (by decide) (by decide) (nofun) (by kernel_rfl) (rfl)
theorem eqn159:∀f∈Tryz.prog.fieldsOf 159,f.name≠ "_" :=by
 have h:((Tryz.prog.fieldsOf 159).toList.all fun f=>f.name != "_")=true:=by kernel_rfl
 intro f hf
 have:=List.all_eq_true.1 h f (by simpa using hf)
 simpa using this
theorem ty159:TyOk Tryz.prog tab ⟨(.struct [(0,3),(1,3),(2,4),(3,3)]),4,32,[.int .i64,.int .i64,.bool,.int .i64],true⟩ 159:=
 ty_ok (i:=Tryz.t159) (z:=.agg #[.int .i64 0,.int .i64 0,.bool false,.int .i64 0]) (d:=(.struct (Tryz.prog.fieldsOf 159))) (by kernel_rfl) (by kernel_rfl) (by kernel_rfl) (by kernel_rfl) (by kernel_rfl) (by decide) (by decide) (by decide) (by decide) (fun _=>⟨by kernel_rfl,by kernel_rfl,eqn159⟩) (by kernel_rfl) (⟨_,rfl,by kernel_rfl,by decide⟩)
theorem eqn161:∀f∈Tryz.prog.fieldsOf 161,f.name≠ "_" :=by
 have h:((Tryz.prog.fieldsOf 161).toList.all fun f=>f.name != "_")=true:=by kernel_rfl
 intro f hf
 have:=List.all_eq_true.1 h f (by simpa using hf)
 simpa using this
theorem ty161:TyOk Tryz.prog tab ⟨(.struct [(0,3),(1,3),(2,4),(3,3)]),4,32,[.int .i64,.int .i64,.bool,.int .i64],true⟩ 161:=
 ty_ok (i:=Tryz.t161) (z:=.agg #[.int .i64 0,.int .i64 0,.bool false,.int .i64 0]) (d:=(.struct (Tryz.prog.fieldsOf 161))) (by kernel_rfl) (by kernel_rfl) (by kernel_rfl) (by kernel_rfl) (by kernel_rfl) (by decide) (by decide) (by decide) (by decide) (fun _=>⟨by kernel_rfl,by kernel_rfl,eqn161⟩) (by kernel_rfl) (⟨_,rfl,by kernel_rfl,by decide⟩)
theorem eqn175:∀f∈Tryz.prog.fieldsOf 175,f.name≠ "_" :=by
 have h:((Tryz.prog.fieldsOf 175).toList.all fun f=>f.name != "_")=true:=by kernel_rfl
 intro f hf
 have:=List.all_eq_true.1 h f (by simpa using hf)
 simpa using this
theorem ty175:TyOk Tryz.prog tab ⟨(.struct [(0,3),(1,3),(2,3),(3,3)]),4,32,[.int .i64,.int .i64,.int .i64,.int .i64],true⟩ 175:=
 ty_ok (i:=Tryz.t175) (z:=.agg #[.int .i64 0,.int .i64 0,.int .i64 0,.int .i64 0]) (d:=(.struct (Tryz.prog.fieldsOf 175))) (by kernel_rfl) (by kernel_rfl) (by kernel_rfl) (by kernel_rfl) (by kernel_rfl) (by decide) (by decide) (by decide) (by decide) (fun _=>⟨by kernel_rfl,by kernel_rfl,eqn175⟩) (by kernel_rfl) (⟨_,rfl,by kernel_rfl,by decide⟩)
theorem ty176:TyOk Tryz.prog tab ⟨(.struct [(0,3),(1,175),(5,54)]),6,64,[.int .i64,.int .i64,.int .i64,.int .i64,.int .i64,.nilsl],false⟩ 176:=
 ty_ok (i:=Tryz.t176) (z:=.agg #[.int .i64 0,.int .i64 0,.int .i64 0,.int .i64 0,.int .i64 0,.slice none 0 0]) (d:=(.struct (Tryz.prog.fieldsOf 176))) (by kernel_rfl) (by kernel_rfl) (by kernel_rfl) (by kernel_rfl) (by kernel_rfl) (by decide) (by decide) (by decide) (by decide) (nofun) (by kernel_rfl) (⟨_,rfl,by kernel_rfl,by decide⟩)
theorem ty177:TyOk Tryz.prog tab ⟨(.struct [(0,3),(1,175),(5,54)]),6,64,[.int .i64,.int .i64,.int .i64,.int .i64,.int .i64,.nilsl],false⟩ 177:=
 ty_ok (i:=Tryz.t177) (z:=.agg #[.int .i64 0,.int .i64 0,.int .i64 0,.int .i64 0,.int .i64 0,.slice none 0 0]) (d:=(.struct (Tryz.prog.fieldsOf 177))) (by kernel_rfl) (by kernel_rfl) (by kernel_rfl) (by kernel_rfl) (by kernel_rfl) (by decide) (by decide) (by decide) (by decide) (nofun) (by kernel_rfl) (⟨_,rfl,by kernel_rfl,by decide⟩)
theorem ty183:TyOk Tryz.prog tab ⟨(.slice 62),1,24,[.nilsl],false⟩ 183:=
 ty_ok (i:=Tryz.t183) (z:=.slice none 0 0) (d:=(.slice 62)) (by kernel_rfl) (by kernel_rfl) (by kernel_rfl) (by kernel_rfl) (by kernel_rfl) (by decide) (by decide) (by decide) (by decide) (nofun) (by kernel_rfl) (rfl)
theorem eqn187:∀f∈Tryz.prog.fieldsOf 187,f.name≠ "_" :=by
 have h:((Tryz.prog.fieldsOf 187).toList.all fun f=>f.name != "_")=true:=by kernel_rfl
 intro f hf
 have:=List.all_eq_true.1 h f (by simpa using hf)
 simpa using this
theorem ty187:TyOk Tryz.prog tab ⟨(.struct [(0,3),(1,3),(2,3),(3,3)]),4,32,[.int .i64,.int .i64,.int .i64,.int .i64],true⟩ 187:=
 ty_ok (i:=Tryz.t187) (z:=.agg #[.int .i64 0,.int .i64 0,.int .i64 0,.int .i64 0]) (d:=(.struct (Tryz.prog.fieldsOf 187))) (by kernel_rfl) (by kernel_rfl) (by kernel_rfl) (by kernel_rfl) (by kernel_rfl) (by decide) (by decide) (by decide) (by decide) (fun _=>⟨by kernel_rfl,by kernel_rfl,eqn187⟩) (by kernel_rfl) (⟨_,rfl,by kernel_rfl,by decide⟩)
theorem ty188:TyOk Tryz.prog tab ⟨(.struct [(0,3),(1,187),(5,62)]),6,64,[.int .i64,.int .i64,.int .i64,.int .i64,.int .i64,.nilsl],false⟩ 188:=
 ty_ok (i:=Tryz.t188) (z:=.agg #[.int .i64 0,.int .i64 0,.int .i64 0,.int .i64 0,.int .i64 0,.slice none 0 0]) (d:=(.struct (Tryz.prog.fieldsOf 188))) (by kernel_rfl) (by kernel_rfl) (by kernel_rfl) (by kernel_rfl) (by kernel_rfl) (by decide) (by decide) (by decide) (by decide) (nofun) (by kernel_rfl) (⟨_,rfl,by kernel_rfl,by decide⟩)
theorem ty189:TyOk Tryz.prog tab ⟨(.struct [(0,3),(1,187),(5,62)]),6,64,[.int .i64,.int .i64,.int .i64,.int .i64,.int .i64,.nilsl],false⟩ 189:=
 ty_ok (i:=Tryz.t189) (z:=.agg #[.int .i64 0,.int .i64 0,.int .i64 0,.int .i64 0,.int .i64 0,.slice none 0 0]) (d:=(.struct (Tryz.prog.fieldsOf 189))) (by kernel_rfl) (by kernel_rfl) (by kernel_rfl) (by kernel_rfl) (by kernel_rfl) (by decide) (by decide) (by decide) (by decide) (nofun) (by kernel_rfl) (⟨_,rfl,by kernel_rfl,by decide⟩)
theorem ty212:TyOk Tryz.prog tab ⟨(.struct [(0,69),(3,187),(7,62)]),8,80,[.int .i64,.int .i64,.int .i64,.int .i64,.int .i64,.int .i64,.int .i64,.nilsl],false⟩ 212:=
 ty_ok (i:=Tryz.t212) (z:=.agg #[.int .i64 0,.int .i64 0,.int .i64 0,.int .i64 0,.int .i64 0,.int .i64 0,.int .i64 0,.slice none 0 0]) (d:=(.struct (Tryz.prog.fieldsOf 212))) (by kernel_rfl) (by kernel_rfl) (by kernel_rfl) (by kernel_rfl) (by kernel_rfl) (by decide) (by decide) (by decide) (by decide) (nofun) (by kernel_rfl) (⟨_,rfl,by kernel_rfl,by decide⟩)
theorem ty213:TyOk Tryz.prog tab ⟨(.struct [(0,69),(3,187),(7,62)]),8,80,[.int .i64,.int .i64,.int .i64,.int .i64,.int .i64,.int .i64,.int .i64,.nilsl],false⟩ 213:=
 ty_ok (i:=Tryz.t213) (z:=.agg #[.int .i64 0,.int .i64 0,.int .i64 0,.int .i64 0,.int .i64 0,.int .i64 0,.int .i64 0,.slice none 0 0]) (d:=(.struct (Tryz.prog.fieldsOf 213))) (by kernel_rfl) (by kernel_rfl) (by kernel_rfl) (by kernel_rfl) (by kernel_rfl) (by decide) (by decide) (by decide) (by decide) (nofun) (by kernel_rfl) (⟨_,rfl,by kernel_rfl,by decide⟩)
theorem eqn222:∀f∈Tryz.prog.fieldsOf 222,f.name≠ "_" :=by
 have h:((Tryz.prog.fieldsOf 222).toList.all fun f=>f.name != "_")=true:=by kernel_rfl
 intro f hf
 have:=List.all_eq_true.1 h f (by simpa using hf)
 simpa using this
theorem ty222:TyOk Tryz.prog tab ⟨(.struct [(0,3),(1,3)]),2,16,[.int .i64,.int .i64],true⟩ 222:=
 ty_ok (i:=Tryz.t222) (z:=.agg #[.int .i64 0,.int .i64 0]) (d:=(.struct (Tryz.prog.fieldsOf 222))) (by kernel_rfl) (by kernel_rfl) (by kernel_rfl) (by kernel_rfl) (by kernel_rfl) (by decide) (by decide) (by decide) (by decide) (fun _=>⟨by kernel_rfl,by kernel_rfl,eqn222⟩) (by kernel_rfl) (⟨_,rfl,by kernel_rfl,by decide⟩)
theorem ty243:TyOk Tryz.prog tab ⟨(.slice 5),1,24,[.nilsl],false⟩ 243:=
 ty_ok (i:=Tryz.t243) (z:=.slice none 0 0) (d:=(.slice 5)) (by kernel_rfl) (by kernel_rfl) (by kernel_rfl) (by kernel_rfl) (by kernel_rfl) (by decide) (by decide) (by decide) (by decide) (nofun) (by kernel_rfl) (rfl)
theorem ty273:TyOk Tryz.prog tab ⟨(.struct [(0,3),(1,25),(2,25)]),3,56,[.int .i64,.nilsl,.nilsl],false⟩ 273:=
 ty_ok (i:=Tryz.t273) (z:=.agg #[.int .i64 0,.slice none 0 0,.slice none 0 0]) (d:=(.struct (Tryz.prog.fieldsOf 273))) (by kernel_rfl) (by kernel_rfl) (by kernel_rfl) (by kernel_rfl) (by kernel_rfl) (by decide) (by decide) (by decide) (by decide) (nofun) (by kernel_rfl) (⟨_,rfl,by kernel_rfl,by decide⟩)
theorem eqn283:∀f∈Tryz.prog.fieldsOf 283,f.name≠ "_" :=by
 have h:((Tryz.prog.fieldsOf 283).toList.all fun f=>f.name != "_")=true:=by kernel_rfl
 intro f hf
 have:=List.all_eq_true.1 h f (by simpa using hf)
 simpa using this
theorem ty283:TyOk Tryz.prog tab ⟨(.struct [(0,3),(1,3)]),2,16,[.int .i64,.int .i64],true⟩ 283:=
 ty_ok (i:=Tryz.t283) (z:=.agg #[.int .i64 0,.int .i64 0]) (d:=(.struct (Tryz.prog.fieldsOf 283))) (by kernel_rfl) (by kernel_rfl) (by kernel_rfl) (by kernel_rfl) (by kernel_rfl) (by decide) (by decide) (by decide) (by decide) (fun _=>⟨by kernel_rfl,by kernel_rfl,eqn283⟩) (by kernel_rfl) (⟨_,rfl,by kernel_rfl,by decide⟩)
theorem tabOk:TabOk Tryz.prog tab:=tab_ok ⟨ty69,⟨ty39,⟨ty25,⟨ty9,⟨ty4,⟨ty3,⟨ty2,trivial,trivial⟩,trivial⟩,⟨ty5,trivial,trivial⟩⟩,⟨ty23,⟨ty22,trivial,trivial⟩,⟨ty24,trivial,trivial⟩⟩⟩,⟨ty31,⟨ty27,⟨ty26,trivial,trivial⟩,⟨ty29,trivial,trivial⟩⟩,⟨ty37,⟨ty34,trivial,trivial⟩,⟨ty38,trivial,trivial⟩⟩⟩⟩,⟨ty56,⟨ty51,⟨ty41,⟨ty40,trivial,trivial⟩,⟨ty44,trivial,trivial⟩⟩,⟨ty54,⟨ty53,trivial,trivial⟩,⟨ty55,trivial,trivial⟩⟩⟩,⟨ty62,⟨ty59,⟨ty57,trivial,trivial⟩,⟨ty61,trivial,trivial⟩⟩,⟨ty64,⟨ty63,trivial,trivial⟩,⟨ty65,trivial,trivial⟩⟩⟩⟩⟩,⟨ty151,⟨ty138,⟨ty133,⟨ty89,⟨ty88,trivial,trivial⟩,⟨ty132,trivial,trivial⟩⟩,⟨ty136,⟨ty134,trivial,trivial⟩,⟨ty137,trivial,trivial⟩⟩⟩,⟨ty145,⟨ty142,⟨ty141,trivial,trivial⟩,⟨ty143,trivial,trivial⟩⟩,⟨ty148,⟨ty146,trivial,trivial⟩,⟨ty149,trivial,trivial⟩⟩⟩⟩,⟨ty188,⟨ty176,⟨ty161,⟨ty159,trivial,trivial⟩,⟨ty175,trivial,trivial⟩⟩,⟨ty183,⟨ty177,trivial,trivial⟩,⟨ty187,trivial,trivial⟩⟩⟩,⟨ty222,⟨ty212,⟨ty189,trivial,trivial⟩,⟨ty213,trivial,trivial⟩⟩,⟨ty273,⟨ty243,trivial,trivial⟩,⟨ty283,trivial,trivial⟩⟩⟩⟩⟩⟩
end Go.Proofs.YtfhojdalheinaaaGreat.Abs
