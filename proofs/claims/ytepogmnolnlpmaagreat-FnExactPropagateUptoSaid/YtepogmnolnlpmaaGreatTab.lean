/- The table of the types of this seat: what the abstract layer must know of them, by closed facts. Printed by gentab.py. No statement of a claim. -/
import Derived.Test.YtepogmnolnlpmaaGreatLayB
import Derived.Test.YtepogmnolnlpmaaGreatProg
import Derived.KernelRfl
set_option linter.all false
namespace Go.Proofs.YtepogmnolnlpmaaGreat.Abs
open Go.Proofs
def tree:Tree:=(.node 105 ⟨(.struct [(0,3),(1,29),(5,30)]),6,64,[.int .i64,.int .i64,.int .i64,.int .i64,.int .i64,.nilsl],false⟩ (.node 35 ⟨(.slice 158),1,24,[.nilsl],false⟩ (.node 24 ⟨(.slice 151),1,24,[.nilsl],false⟩ (.node 5 ⟨(.int .u8),1,1,[.int .u8],false⟩ (.node 3 ⟨(.int .i64),1,8,[.int .i64],false⟩ (.node 2 ⟨(.int .i64),1,8,[.int .i64],false⟩ .leaf .leaf) (.node 4 ⟨.bool,1,1,[.bool],false⟩ .leaf .leaf)) (.node 22 ⟨(.slice 147),1,24,[.nilsl],false⟩ (.node 9 ⟨.str,1,16,[.str],false⟩ .leaf .leaf) (.node 23 ⟨(.slice 163),1,24,[.nilsl],false⟩ .leaf .leaf))) (.node 29 ⟨(.struct [(0,3),(1,3),(2,3),(3,3)]),4,32,[.int .i64,.int .i64,.int .i64,.int .i64],true⟩ (.node 26 ⟨(.struct [(0,3),(1,22),(2,23),(3,24),(4,25)]),5,104,[.int .i64,.nilsl,.nilsl,.nilsl,.nilsl],false⟩ (.node 25 ⟨(.slice 3),1,24,[.nilsl],false⟩ .leaf .leaf) (.node 27 ⟨(.struct [(0,3),(1,22),(2,23),(3,24),(4,25)]),5,104,[.int .i64,.nilsl,.nilsl,.nilsl,.nilsl],false⟩ .leaf .leaf)) (.node 33 ⟨(.slice 88),1,24,[.nilsl],false⟩ (.node 30 ⟨(.slice 90),1,24,[.nilsl],false⟩ .leaf .leaf) .leaf))) (.node 57 ⟨(.slice 25),1,24,[.nilsl],false⟩ (.node 39 ⟨(.struct [(0,3),(1,35),(2,36),(3,37),(4,25)]),5,104,[.int .i64,.nilsl,.nilsl,.nilsl,.nilsl],false⟩ (.node 37 ⟨(.slice 166),1,24,[.nilsl],false⟩ (.node 36 ⟨(.slice 161),1,24,[.nilsl],false⟩ .leaf .leaf) (.node 38 ⟨(.struct [(0,3),(1,35),(2,36),(3,37),(4,25)]),5,104,[.int .i64,.nilsl,.nilsl,.nilsl,.nilsl],false⟩ .leaf .leaf)) (.node 49 ⟨(.slice 105),1,24,[.nilsl],false⟩ (.node 41 ⟨(.struct [(0,3),(1,3),(2,3),(3,3)]),4,32,[.int .i64,.int .i64,.int .i64,.int .i64],true⟩ .leaf .leaf) (.node 51 ⟨(.slice 109),1,24,[.nilsl],false⟩ .leaf .leaf))) (.node 88 ⟨(.struct [(0,3),(1,3),(2,3)]),3,24,[.int .i64,.int .i64,.int .i64],true⟩ (.node 61 ⟨(.slice 122),1,24,[.nilsl],false⟩ (.node 59 ⟨(.struct [(0,25),(1,25),(2,57)]),3,72,[.nilsl,.nilsl,.nilsl],false⟩ .leaf .leaf) (.node 63 ⟨(.struct [(0,25),(1,25),(2,57)]),3,72,[.nilsl,.nilsl,.nilsl],false⟩ .leaf .leaf)) (.node 104 ⟨(.struct [(0,3),(1,29),(5,30)]),6,64,[.int .i64,.int .i64,.int .i64,.int .i64,.int .i64,.nilsl],false⟩ (.node 90 ⟨(.struct [(0,3),(1,3),(2,3)]),3,24,[.int .i64,.int .i64,.int .i64],true⟩ .leaf .leaf) .leaf)))) (.node 158 ⟨(.struct [(0,9),(1,3),(2,156)]),3,48,[.str,.int .i64,.nilsl],false⟩ (.node 146 ⟨(.struct [(0,9),(1,3),(2,145)]),3,48,[.str,.int .i64,.nilsl],false⟩ (.node 122 ⟨(.struct [(0,88),(3,41),(7,33)]),8,80,[.int .i64,.int .i64,.int .i64,.int .i64,.int .i64,.int .i64,.int .i64,.nilsl],false⟩ (.node 109 ⟨(.struct [(0,3),(1,41),(5,33)]),6,64,[.int .i64,.int .i64,.int .i64,.int .i64,.int .i64,.nilsl],false⟩ (.node 108 ⟨(.struct [(0,3),(1,41),(5,33)]),6,64,[.int .i64,.int .i64,.int .i64,.int .i64,.int .i64,.nilsl],false⟩ .leaf .leaf) (.node 121 ⟨(.struct [(0,88),(3,41),(7,33)]),8,80,[.int .i64,.int .i64,.int .i64,.int .i64,.int .i64,.int .i64,.int .i64,.nilsl],false⟩ .leaf .leaf)) (.node 132 ⟨(.struct [(0,39),(5,63),(8,33),(9,51)]),10,224,[.int .i64,.nilsl,.nilsl,.nilsl,.nilsl,.nilsl,.nilsl,.nilsl,.nilsl,.nilsl],false⟩ (.node 131 ⟨(.struct [(0,39),(5,63),(8,33),(9,51)]),10,224,[.int .i64,.nilsl,.nilsl,.nilsl,.nilsl,.nilsl,.nilsl,.nilsl,.nilsl,.nilsl],false⟩ .leaf .leaf) (.node 145 ⟨(.slice 271),1,24,[.nilsl],false⟩ .leaf .leaf))) (.node 151 ⟨(.struct [(0,149),(1,57)]),2,48,[.nilsl,.nilsl],false⟩ (.node 149 ⟨(.slice 274),1,24,[.nilsl],false⟩ (.node 147 ⟨(.struct [(0,9),(1,3),(2,145)]),3,48,[.str,.int .i64,.nilsl],false⟩ .leaf .leaf) (.node 150 ⟨(.struct [(0,149),(1,57)]),2,48,[.nilsl,.nilsl],false⟩ .leaf .leaf)) (.node 157 ⟨(.struct [(0,9),(1,3),(2,156)]),3,48,[.str,.int .i64,.nilsl],false⟩ (.node 156 ⟨(.slice 230),1,24,[.nilsl],false⟩ .leaf .leaf) .leaf))) (.node 230 ⟨(.struct [(0,3),(1,25),(2,25)]),3,56,[.int .i64,.nilsl,.nilsl],false⟩ (.node 165 ⟨(.struct [(0,164),(1,57)]),2,48,[.nilsl,.nilsl],false⟩ (.node 163 ⟨(.struct [(0,3),(1,3),(2,4),(3,3)]),4,32,[.int .i64,.int .i64,.bool,.int .i64],true⟩ (.node 161 ⟨(.struct [(0,3),(1,3),(2,4),(3,3)]),4,32,[.int .i64,.int .i64,.bool,.int .i64],true⟩ .leaf .leaf) (.node 164 ⟨(.slice 232),1,24,[.nilsl],false⟩ .leaf .leaf)) (.node 200 ⟨(.slice 41),1,24,[.nilsl],false⟩ (.node 166 ⟨(.struct [(0,164),(1,57)]),2,48,[.nilsl,.nilsl],false⟩ .leaf .leaf) (.node 228 ⟨(.slice 5),1,24,[.nilsl],false⟩ .leaf .leaf))) (.node 274 ⟨(.struct [(0,3),(1,3)]),2,16,[.int .i64,.int .i64],true⟩ (.node 260 ⟨(.slice 33),1,24,[.nilsl],false⟩ (.node 232 ⟨(.struct [(0,3),(1,3)]),2,16,[.int .i64,.int .i64],true⟩ .leaf .leaf) (.node 271 ⟨(.struct [(0,3),(1,25),(2,25)]),3,56,[.int .i64,.nilsl,.nilsl],false⟩ .leaf .leaf)) (.node 319 ⟨(.slice 4),1,24,[.nilsl],false⟩ (.node 318 ⟨(.slice 319),1,24,[.nilsl],false⟩ .leaf .leaf) .leaf)))))
def tab:Nat→Ty:=tree.find
theorem ty2:TyOk Tryz.prog tab ⟨(.int .i64),1,8,[.int .i64],false⟩ 2:=
 ty_ok (i:=Tryz.t2) (z:=.int .i64 0) (d:=(.int .i64)) (by kernel_rfl) (by kernel_rfl) (by kernel_rfl) (by kernel_rfl) (by kernel_rfl) (by decide) (by decide) (by decide) (by decide) (nofun) (by kernel_rfl) (rfl)
theorem ty3:TyOk Tryz.prog tab ⟨(.int .i64),1,8,[.int .i64],false⟩ 3:=
 ty_ok (i:=Tryz.t3) (z:=.int .i64 0) (d:=(.int .i64)) (by kernel_rfl) (by kernel_rfl) (by kernel_rfl) (by kernel_rfl) (by kernel_rfl) (by decide) (by decide) (by decide) (by decide) (nofun) (by kernel_rfl) (rfl)
theorem ty4:TyOk Tryz.prog tab ⟨.bool,1,1,[.bool],false⟩ 4:=
 ty_ok (i:=Tryz.t4) (z:=.bool false) (d:=.bool) (by kernel_rfl) (by kernel_rfl) (by kernel_rfl) (by kernel_rfl) (by kernel_rfl) (by decide) (by decide) (by decide) (by decide) (nofun) (by kernel_rfl) (rfl)
theorem ty5:TyOk Tryz.prog tab ⟨(.int .u8),1,1,[.int .u8],false⟩ 5:=
 ty_ok (i:=Tryz.t5) (z:=.int .u8 0) (d:=(.int .u8)) (by kernel_rfl) (by kernel_rfl) (by kernel_rfl) (by kernel_rfl) (by kernel_rfl) (by decide) (by decide) (by decide) (by decide) (nofun) (by kernel_rfl) (rfl)
theorem ty9:TyOk Tryz.prog tab ⟨.str,1,16,[.str],false⟩ 9:=
 ty_ok (i:=Tryz.t9) (z:=.string ⟨#[]⟩) (d:=.string) (by kernel_rfl) (by kernel_rfl) (by kernel_rfl) (by kernel_rfl) (by kernel_rfl) (by decide) (by decide) (by decide) (by decide) (nofun) (by kernel_rfl) (rfl)
theorem ty22:TyOk Tryz.prog tab ⟨(.slice 147),1,24,[.nilsl],false⟩ 22:=
 ty_ok (i:=Tryz.t22) (z:=.slice none 0 0) (d:=(.slice 147)) (by kernel_rfl) (by kernel_rfl) (by kernel_rfl) (by kernel_rfl) (by kernel_rfl) (by decide) (by decide) (by decide) (by decide) (nofun) (by kernel_rfl) (rfl)
theorem ty23:TyOk Tryz.prog tab ⟨(.slice 163),1,24,[.nilsl],false⟩ 23:=
 ty_ok (i:=Tryz.t23) (z:=.slice none 0 0) (d:=(.slice 163)) (by kernel_rfl) (by kernel_rfl) (by kernel_rfl) (by kernel_rfl) (by kernel_rfl) (by decide) (by decide) (by decide) (by decide) (nofun) (by kernel_rfl) (rfl)
theorem ty24:TyOk Tryz.prog tab ⟨(.slice 151),1,24,[.nilsl],false⟩ 24:=
 ty_ok (i:=Tryz.t24) (z:=.slice none 0 0) (d:=(.slice 151)) (by kernel_rfl) (by kernel_rfl) (by kernel_rfl) (by kernel_rfl) (by kernel_rfl) (by decide) (by decide) (by decide) (by decide) (nofun) (by kernel_rfl) (rfl)
theorem ty25:TyOk Tryz.prog tab ⟨(.slice 3),1,24,[.nilsl],false⟩ 25:=
 ty_ok (i:=Tryz.t25) (z:=.slice none 0 0) (d:=(.slice 3)) (by kernel_rfl) (by kernel_rfl) (by kernel_rfl) (by kernel_rfl) (by kernel_rfl) (by decide) (by decide) (by decide) (by decide) (nofun) (by kernel_rfl) (rfl)
theorem ty26:TyOk Tryz.prog tab ⟨(.struct [(0,3),(1,22),(2,23),(3,24),(4,25)]),5,104,[.int .i64,.nilsl,.nilsl,.nilsl,.nilsl],false⟩ 26:=
 ty_ok (i:=Tryz.t26) (z:=.agg #[.int .i64 0,.slice none 0 0,.slice none 0 0,.slice none 0 0,.slice none 0 0]) (d:=(.struct (Tryz.prog.fieldsOf 26))) (by kernel_rfl) (by kernel_rfl) (by kernel_rfl) (by kernel_rfl) (by kernel_rfl) (by decide) (by decide) (by decide) (by decide) (nofun) (by kernel_rfl) (⟨_,rfl,by kernel_rfl,by decide⟩)
theorem ty27:TyOk Tryz.prog tab ⟨(.struct [(0,3),(1,22),(2,23),(3,24),(4,25)]),5,104,[.int .i64,.nilsl,.nilsl,.nilsl,.nilsl],false⟩ 27:=
 ty_ok (i:=Tryz.t27) (z:=.agg #[.int .i64 0,.slice none 0 0,.slice none 0 0,.slice none 0 0,.slice none 0 0]) (d:=(.struct (Tryz.prog.fieldsOf 27))) (by kernel_rfl) (by kernel_rfl) (by kernel_rfl) (by kernel_rfl) (by kernel_rfl) (by decide) (by decide) (by decide) (by decide) (nofun) (by kernel_rfl) (⟨_,rfl,by kernel_rfl,by decide⟩)
theorem eqn29:∀f∈Tryz.prog.fieldsOf 29,f.name≠ "_" :=by
 have h:((Tryz.prog.fieldsOf 29).toList.all fun f=>f.name != "_")=true:=by kernel_rfl
 intro f hf
 have:=List.all_eq_true.1 h f (by simpa using hf)
 simpa using this
theorem ty29:TyOk Tryz.prog tab ⟨(.struct [(0,3),(1,3),(2,3),(3,3)]),4,32,[.int .i64,.int .i64,.int .i64,.int .i64],true⟩ 29:=
 ty_ok (i:=Tryz.t29) (z:=.agg #[.int .i64 0,.int .i64 0,.int .i64 0,.int .i64 0]) (d:=(.struct (Tryz.prog.fieldsOf 29))) (by kernel_rfl) (by kernel_rfl) (by kernel_rfl) (by kernel_rfl) (by kernel_rfl) (by decide) (by decide) (by decide) (by decide) (fun _=>⟨by kernel_rfl,by kernel_rfl,eqn29⟩) (by kernel_rfl) (⟨_,rfl,by kernel_rfl,by decide⟩)
theorem ty30:TyOk Tryz.prog tab ⟨(.slice 90),1,24,[.nilsl],false⟩ 30:=
 ty_ok (i:=Tryz.t30) (z:=.slice none 0 0) (d:=(.slice 90)) (by kernel_rfl) (by kernel_rfl) (by kernel_rfl) (by kernel_rfl) (by kernel_rfl) (by decide) (by decide) (by decide) (by decide) (nofun) (by kernel_rfl) (rfl)
theorem ty33:TyOk Tryz.prog tab ⟨(.slice 88),1,24,[.nilsl],false⟩ 33:=
 ty_ok (i:=Tryz.t33) (z:=.slice none 0 0) (d:=(.slice 88)) (by kernel_rfl) (by kernel_rfl) (by kernel_rfl) (by kernel_rfl) (by kernel_rfl) (by decide) (by decide) (by decide) (by decide) (nofun) (by kernel_rfl) (rfl)
theorem ty35:TyOk Tryz.prog tab ⟨(.slice 158),1,24,[.nilsl],false⟩ 35:=
 ty_ok (i:=Tryz.t35) (z:=.slice none 0 0) (d:=(.slice 158)) (by kernel_rfl) (by kernel_rfl) (by kernel_rfl) (by kernel_rfl) (by kernel_rfl) (by decide) (by decide) (by decide) (by decide) (nofun) (by kernel_rfl) (rfl)
theorem ty36:TyOk Tryz.prog tab ⟨(.slice 161),1,24,[.nilsl],false⟩ 36:=
 ty_ok (i:=Tryz.t36) (z:=.slice none 0 0) (d:=(.slice 161)) (by kernel_rfl) (by kernel_rfl) (by kernel_rfl) (by kernel_rfl) (by kernel_rfl) (by decide) (by decide) (by decide) (by decide) (nofun) (by kernel_rfl) (rfl)
theorem ty37:TyOk Tryz.prog tab ⟨(.slice 166),1,24,[.nilsl],false⟩ 37:=
 ty_ok (i:=Tryz.t37) (z:=.slice none 0 0) (d:=(.slice 166)) (by kernel_rfl) (by kernel_rfl) (by kernel_rfl) (by kernel_rfl) (by kernel_rfl) (by decide) (by decide) (by decide) (by decide) (nofun) (by kernel_rfl) (rfl)
theorem ty38:TyOk Tryz.prog tab ⟨(.struct [(0,3),(1,35),(2,36),(3,37),(4,25)]),5,104,[.int .i64,.nilsl,.nilsl,.nilsl,.nilsl],false⟩ 38:=
 ty_ok (i:=Tryz.t38) (z:=.agg #[.int .i64 0,.slice none 0 0,.slice none 0 0,.slice none 0 0,.slice none 0 0]) (d:=(.struct (Tryz.prog.fieldsOf 38))) (by kernel_rfl) (by kernel_rfl) (by kernel_rfl) (by kernel_rfl) (by kernel_rfl) (by decide) (by decide) (by decide) (by decide) (nofun) (by kernel_rfl) (⟨_,rfl,by kernel_rfl,by decide⟩)
theorem ty39:TyOk Tryz.prog tab ⟨(.struct [(0,3),(1,35),(2,36),(3,37),(4,25)]),5,104,[.int .i64,.nilsl,.nilsl,.nilsl,.nilsl],false⟩ 39:=
 ty_ok (i:=Tryz.t39) (z:=.agg #[.int .i64 0,.slice none 0 0,.slice none 0 0,.slice none 0 0,.slice none 0 0]) (d:=(.struct (Tryz.prog.fieldsOf 39))) (by kernel_rfl) (by kernel_rfl) (by kernel_rfl) (by kernel_rfl) (by kernel_rfl) (by decide) (by decide) (by decide) (by decide) (nofun) (by kernel_rfl) (⟨_,rfl,by kernel_rfl,by decide⟩)
theorem eqn41:∀f∈Tryz.prog.fieldsOf 41,f.name≠ "_" :=by
 have h:((Tryz.prog.fieldsOf 41).toList.all fun f=>f.name != "_")=true:=by kernel_rfl
 intro f hf
 have:=List.all_eq_true.1 h f (by simpa using hf)
 simpa using this
theorem ty41:TyOk Tryz.prog tab ⟨(.struct [(0,3),(1,3),(2,3),(3,3)]),4,32,[.int .i64,.int .i64,.int .i64,.int .i64],true⟩ 41:=
 ty_ok (i:=Tryz.t41) (z:=.agg #[.int .i64 0,.int .i64 0,.int .i64 0,.int .i64 0]) (d:=(.struct (Tryz.prog.fieldsOf 41))) (by kernel_rfl) (by kernel_rfl) (by kernel_rfl) (by kernel_rfl) (by kernel_rfl) (by decide) (by decide) (by decide) (by decide) (fun _=>⟨by kernel_rfl,by kernel_rfl,eqn41⟩) (by kernel_rfl) (⟨_,rfl,by kernel_rfl,by decide⟩)
theorem ty49:TyOk Tryz.prog tab ⟨(.slice 105),1,24,[.nilsl],false⟩ 49:=
 ty_ok (i:=Tryz.t49) (z:=.slice none 0 0) (d:=(.slice 105)) (by kernel_rfl) (by kernel_rfl) (by kernel_rfl) (by kernel_rfl) (by kernel_rfl) (by decide) (by decide) (by decide) (by decide) (nofun) (by kernel_rfl) (rfl)
theorem ty51:TyOk Tryz.prog tab ⟨(.slice 109),1,24,[.nilsl],false⟩ 51:=
 ty_ok (i:=Tryz.t51) (z:=.slice none 0 0) (d:=(.slice 109)) (by kernel_rfl) (by kernel_rfl) (by kernel_rfl) (by kernel_rfl) (by kernel_rfl) (by decide) (by decide) (by decide) (by decide) (nofun) (by kernel_rfl) (rfl)
theorem ty57:TyOk Tryz.prog tab ⟨(.slice 25),1,24,[.nilsl],false⟩ 57:=
 ty_ok (i:=Tryz.t57) (z:=.slice none 0 0) (d:=(.slice 25)) (by kernel_rfl) (by kernel_rfl) (by kernel_rfl) (by kernel_rfl) (by kernel_rfl) (by decide) (by decide) (by decide) (by decide) (nofun) (by kernel_rfl) (rfl)
theorem ty59:TyOk Tryz.prog tab ⟨(.struct [(0,25),(1,25),(2,57)]),3,72,[.nilsl,.nilsl,.nilsl],false⟩ 59:=
 ty_ok (i:=Tryz.t59) (z:=.agg #[.slice none 0 0,.slice none 0 0,.slice none 0 0]) (d:=(.struct (Tryz.prog.fieldsOf 59))) (by kernel_rfl) (by kernel_rfl) (by kernel_rfl) (by kernel_rfl) (by kernel_rfl) (by decide) (by decide) (by decide) (by decide) (nofun) (by kernel_rfl) (⟨_,rfl,by kernel_rfl,by decide⟩)
theorem ty61:TyOk Tryz.prog tab ⟨(.slice 122),1,24,[.nilsl],false⟩ 61:=
 ty_ok (i:=Tryz.t61) (z:=.slice none 0 0) (d:=(.slice 122)) (by kernel_rfl) (by kernel_rfl) (by kernel_rfl) (by kernel_rfl) (by kernel_rfl) (by decide) (by decide) (by decide) (by decide) (nofun) (by kernel_rfl) (rfl)
theorem ty63:TyOk Tryz.prog tab ⟨(.struct [(0,25),(1,25),(2,57)]),3,72,[.nilsl,.nilsl,.nilsl],false⟩ 63:=
 ty_ok (i:=Tryz.t63) (z:=.agg #[.slice none 0 0,.slice none 0 0,.slice none 0 0]) (d:=(.struct (Tryz.prog.fieldsOf 63))) (by kernel_rfl) (by kernel_rfl) (by kernel_rfl) (by kernel_rfl) (by kernel_rfl) (by decide) (by decide) (by decide) (by decide) (nofun) (by kernel_rfl) (⟨_,rfl,by kernel_rfl,by decide⟩)
theorem eqn88:∀f∈Tryz.prog.fieldsOf 88,f.name≠ "_" :=by
 have h:((Tryz.prog.fieldsOf 88).toList.all fun f=>f.name != "_")=true:=by kernel_rfl
 intro f hf
 have:=List.all_eq_true.1 h f (by simpa using hf)
 simpa using this
theorem ty88:TyOk Tryz.prog tab ⟨(.struct [(0,3),(1,3),(2,3)]),3,24,[.int .i64,.int .i64,.int .i64],true⟩ 88:=
 ty_ok (i:=Tryz.t88) (z:=.agg #[.int .i64 0,.int .i64 0,.int .i64 0]) (d:=(.struct (Tryz.prog.fieldsOf 88))) (by kernel_rfl) (by kernel_rfl) (by kernel_rfl) (by kernel_rfl) (by kernel_rfl) (by decide) (by decide) (by decide) (by decide) (fun _=>⟨by kernel_rfl,by kernel_rfl,eqn88⟩) (by kernel_rfl) (⟨_,rfl,by kernel_rfl,by decide⟩)
theorem eqn90:∀f∈Tryz.prog.fieldsOf 90,f.name≠ "_" :=by
 have h:((Tryz.prog.fieldsOf 90).toList.all fun f=>f.name != "_")=true:=by kernel_rfl
 intro f hf
 have:=List.all_eq_true.1 h f (by simpa using hf)
 simpa using this
theorem ty90:TyOk Tryz.prog tab ⟨(.struct [(0,3),(1,3),(2,3)]),3,24,[.int .i64,.int .i64,.int .i64],true⟩ 90:=
 ty_ok (i:=Tryz.t90) (z:=.agg #[.int .i64 0,.int .i64 0,.int .i64 0]) (d:=(.struct (Tryz.prog.fieldsOf 90))) (by kernel_rfl) (by kernel_rfl) (by kernel_rfl) (by kernel_rfl) (by kernel_rfl) (by decide) (by decide) (by decide) (by decide) (fun _=>⟨by kernel_rfl,by kernel_rfl,eqn90⟩) (by kernel_rfl) (⟨_,rfl,by kernel_rfl,by decide⟩)
theorem ty104:TyOk Tryz.prog tab ⟨(.struct [(0,3),(1,29),(5,30)]),6,64,[.int .i64,.int .i64,.int .i64,.int .i64,.int .i64,.nilsl],false⟩ 104:=
 ty_ok (i:=Tryz.t104) (z:=.agg #[.int .i64 0,.int .i64 0,.int .i64 0,.int .i64 0,.int .i64 0,.slice none 0 0]) (d:=(.struct (Tryz.prog.fieldsOf 104))) (by kernel_rfl) (by kernel_rfl) (by kernel_rfl) (by kernel_rfl) (by kernel_rfl) (by decide) (by decide) (by decide) (by decide) (nofun) (by kernel_rfl) (⟨_,rfl,by kernel_rfl,by decide⟩)
theorem ty105:TyOk Tryz.prog tab ⟨(.struct [(0,3),(1,29),(5,30)]),6,64,[.int .i64,.int .i64,.int .i64,.int .i64,.int .i64,.nilsl],false⟩ 105:=
 ty_ok (i:=Tryz.t105) (z:=.agg #[.int .i64 0,.int .i64 0,.int .i64 0,.int .i64 0,.int .i64 0,.slice none 0 0]) (d:=(.struct (Tryz.prog.fieldsOf 105))) (by kernel_rfl) (by kernel_rfl) (by kernel_rfl) (by kernel_rfl) (by kernel_rfl) (by decide) (by decide) (by decide) (by decide) (nofun) (by kernel_rfl) (⟨_,rfl,by kernel_rfl,by decide⟩)
theorem ty108:TyOk Tryz.prog tab ⟨(.struct [(0,3),(1,41),(5,33)]),6,64,[.int .i64,.int .i64,.int .i64,.int .i64,.int .i64,.nilsl],false⟩ 108:=
 ty_ok (i:=Tryz.t108) (z:=.agg #[.int .i64 0,.int .i64 0,.int .i64 0,.int .i64 0,.int .i64 0,.slice none 0 0]) (d:=(.struct (Tryz.prog.fieldsOf 108))) (by kernel_rfl) (by kernel_rfl) (by kernel_rfl) (by kernel_rfl) (by kernel_rfl) (by decide) (by decide) (by decide) (by decide) (nofun) (by kernel_rfl) (⟨_,rfl,by kernel_rfl,by decide⟩)
theorem ty109:TyOk Tryz.prog tab ⟨(.struct [(0,3),(1,41),(5,33)]),6,64,[.int .i64,.int .i64,.int .i64,.int .i64,.int .i64,.nilsl],false⟩ 109:=
 ty_ok (i:=Tryz.t109) (z:=.agg #[.int .i64 0,.int .i64 0,.int .i64 0,.int .i64 0,.int .i64 0,.slice none 0 0]) (d:=(.struct (Tryz.prog.fieldsOf 109))) (by kernel_rfl) (by kernel_rfl) (by kernel_rfl) (by kernel_rfl) (by kernel_rfl) (by decide) (by decide) (by decide) (by decide) (nofun) (by kernel_rfl) (⟨_,rfl,by kernel_rfl,by decide⟩)
theorem ty121:TyOk Tryz.prog tab ⟨(.struct [(0,88),(3,41),(7,33)]),8,80,[.int .i64,.int .i64,.int .i64,.int .i64,.int .i64,.int .i64,.int .i64,.nilsl],false⟩ 121:=
 ty_ok (i:=Tryz.t121) (z:=.agg #[.int .i64 0,.int .i64 0,.int .i64 0,.int .i64 0,.int .i64 0,.int .i64 0,.int .i64 0,.slice none 0 0]) (d:=(.struct (Tryz.prog.fieldsOf 121))) (by kernel_rfl) (by kernel_rfl) (by kernel_rfl) (by kernel_rfl) (by kernel_rfl) (by decide) (by decide) (by decide) (by decide) (nofun) (by kernel_rfl) (⟨_,rfl,by kernel_rfl,by decide⟩)
theorem ty122:TyOk Tryz.prog tab ⟨(.struct [(0,88),(3,41),(7,33)]),8,80,[.int .i64,.int .i64,.int .i64,.int .i64,.int .i64,.int .i64,.int .i64,.nilsl],false⟩ 122:=
 ty_ok (i:=Tryz.t122) (z:=.agg #[.int .i64 0,.int .i64 0,.int .i64 0,.int .i64 0,.int .i64 0,.int .i64 0,.int .i64 0,.slice none 0 0]) (d:=(.struct (Tryz.prog.fieldsOf 122))) (by kernel_rfl) (by kernel_rfl) (by kernel_rfl) (by kernel_rfl) (by kernel_rfl) (by decide) (by decide) (by decide) (by decide) (nofun) (by kernel_rfl) (⟨_,rfl,by kernel_rfl,by decide⟩)
theorem ty131:TyOk Tryz.prog tab ⟨(.struct [(0,39),(5,63),(8,33),(9,51)]),10,224,[.int .i64,.nilsl,.nilsl,.nilsl,.nilsl,.nilsl,.nilsl,.nilsl,.nilsl,.nilsl],false⟩ 131:=
 ty_ok (i:=Tryz.t131) (z:=.agg #[.int .i64 0,.slice none 0 0,.slice none 0 0,.slice none 0 0,.slice none 0 0,.slice none 0 0,.slice none 0 0,.slice none 0 0,.slice none 0 0,.slice none 0 0]) (d:=(.struct (Tryz.prog.fieldsOf 131))) (by kernel_rfl) (by kernel_rfl) (by kernel_rfl) (by kernel_rfl) (by kernel_rfl) (by decide) (by decide) (by decide) (by decide) (nofun) (by kernel_rfl) (⟨_,rfl,by kernel_rfl,by decide⟩)
theorem ty132:TyOk Tryz.prog tab ⟨(.struct [(0,39),(5,63),(8,33),(9,51)]),10,224,[.int .i64,.nilsl,.nilsl,.nilsl,.nilsl,.nilsl,.nilsl,.nilsl,.nilsl,.nilsl],false⟩ 132:=
 ty_ok (i:=Tryz.t132) (z:=.agg #[.int .i64 0,.slice none 0 0,.slice none 0 0,.slice none 0 0,.slice none 0 0,.slice none 0 0,.slice none 0 0,.slice none 0 0,.slice none 0 0,.slice none 0 0]) (d:=(.struct (Tryz.prog.fieldsOf 132))) (by kernel_rfl) (by kernel_rfl) (by kernel_rfl) (by kernel_rfl) (by kernel_rfl) (by decide) (by decide) (by decide) (by decide) (nofun) (by kernel_rfl) (⟨_,rfl,by kernel_rfl,by decide⟩)
theorem ty145:TyOk Tryz.prog tab ⟨(.slice 271),1,24,[.nilsl],false⟩ 145:=
 ty_ok (i:=Tryz.t145) (z:=.slice none 0 0) (d:=(.slice 271)) (by kernel_rfl) (by kernel_rfl) (by kernel_rfl) (by kernel_rfl) (by kernel_rfl) (by decide) (by decide) (by decide) (by decide) (nofun) (by kernel_rfl) (rfl)
theorem ty146:TyOk Tryz.prog tab ⟨(.struct [(0,9),(1,3),(2,145)]),3,48,[.str,.int .i64,.nilsl],false⟩ 146:=
 ty_ok (i:=Tryz.t146) (z:=.agg #[.string ⟨#[]⟩,.int .i64 0,.slice none 0 0]) (d:=(.struct (Tryz.prog.fieldsOf 146))) (by kernel_rfl) (by kernel_rfl) (by kernel_rfl) (by kernel_rfl) (by kernel_rfl) (by decide) (by decide) (by decide) (by decide) (nofun) (by kernel_rfl) (⟨_,rfl,by kernel_rfl,by decide⟩)
theorem ty147:TyOk Tryz.prog tab ⟨(.struct [(0,9),(1,3),(2,145)]),3,48,[.str,.int .i64,.nilsl],false⟩ 147:=
 ty_ok (i:=Tryz.t147) (z:=.agg #[.string ⟨#[]⟩,.int .i64 0,.slice none 0 0]) (d:=(.struct (Tryz.prog.fieldsOf 147))) (by kernel_rfl) (by kernel_rfl) (by kernel_rfl) (by kernel_rfl) (by kernel_rfl) (by decide) (by decide) (by decide) (by decide) (nofun) (by kernel_rfl) (⟨_,rfl,by kernel_rfl,by decide⟩)
theorem ty149:TyOk Tryz.prog tab ⟨(.slice 274),1,24,[.nilsl],false⟩ 149:=
 ty_ok (i:=Tryz.t149) (z:=.slice none 0 0) (d:=(.slice 274)) (by kernel_rfl) (by kernel_rfl) (by kernel_rfl) (by kernel_rfl) (by kernel_rfl) (by decide) (by decide) (by decide) (by decide) (nofun) (by kernel_rfl) (rfl)
theorem ty150:TyOk Tryz.prog tab ⟨(.struct [(0,149),(1,57)]),2,48,[.nilsl,.nilsl],false⟩ 150:=
 ty_ok (i:=Tryz.t150) (z:=.agg #[.slice none 0 0,.slice none 0 0]) (d:=(.struct (Tryz.prog.fieldsOf 150))) (by kernel_rfl) (by kernel_rfl) (by kernel_rfl) (by kernel_rfl) (by kernel_rfl) (by decide) (by decide) (by decide) (by decide) (nofun) (by kernel_rfl) (⟨_,rfl,by kernel_rfl,by decide⟩)
theorem ty151:TyOk Tryz.prog tab ⟨(.struct [(0,149),(1,57)]),2,48,[.nilsl,.nilsl],false⟩ 151:=
 ty_ok (i:=Tryz.t151) (z:=.agg #[.slice none 0 0,.slice none 0 0]) (d:=(.struct (Tryz.prog.fieldsOf 151))) (by kernel_rfl) (by kernel_rfl) (by kernel_rfl) (by kernel_rfl) (by kernel_rfl) (by decide) (by decide) (by decide) (by decide) (nofun) (by kernel_rfl) (⟨_,rfl,by kernel_rfl,by decide⟩)
theorem ty156:TyOk Tryz.prog tab ⟨(.slice 230),1,24,[.nilsl],false⟩ 156:=
 ty_ok (i:=Tryz.t156) (z:=.slice none 0 0) (d:=(.slice 230)) (by kernel_rfl) (by kernel_rfl) (by kernel_rfl) (by kernel_rfl) (by kernel_rfl) (by decide) (by decide) (by decide) (by decide) (nofun) (by kernel_rfl) (rfl)
theorem ty157:TyOk Tryz.prog tab ⟨(.struct [(0,9),(1,3),(2,156)]),3,48,[.str,.int .i64,.nilsl],false⟩ 157:=
 ty_ok (i:=Tryz.t157) (z:=.agg #[.string ⟨#[]⟩,.int .i64 0,.slice none 0 0]) (d:=(.struct (Tryz.prog.fieldsOf 157))) (by kernel_rfl) (by kernel_rfl) (by kernel_rfl) (by kernel_rfl) (by kernel_rfl) (by decide) (by decide) (by decide) (by decide) (nofun) (by kernel_rfl) (⟨_,rfl,by kernel_rfl,by decide⟩)
theorem ty158:TyOk Tryz.prog tab ⟨(.struct [(0,9),(1,3),(2,156)]),3,48,[.str,.int .i64,.nilsl],false⟩ 158:=
 ty_ok (i:=Tryz.t158) (z:=.agg #[.string ⟨#[]⟩,.int .i64 0,.slice none 0 0]) (d:=(.struct (Tryz.prog.fieldsOf 158))) (by kernel_rfl) (by kernel_rfl) (by kernel_rfl) (by kernel_rfl) (by kernel_rfl) (by decide) (by decide) (by decide) (by decide) (nofun) (by kernel_rfl) (⟨_,rfl,by kernel_rfl,by decide⟩)
theorem eqn161:∀f∈Tryz.prog.fieldsOf 161,f.name≠ "_" :=by
 have h:((Tryz.prog.fieldsOf 161).toList.all fun f=>f.name != "_")=true:=by kernel_rfl
 intro f hf
 have:=List.all_eq_true.1 h f (by simpa using hf)
 simpa using this
theorem ty161:TyOk Tryz.prog tab ⟨(.struct [(0,3),(1,3),(2,4),(3,3)]),4,32,[.int .i64,.int .i64,.bool,.int .i64],true⟩ 161:=
 ty_ok (i:=Tryz.t161) (z:=.agg #[.int .i64 0,.int .i64 0,.bool false,.int .i64 0]) (d:=(.struct (Tryz.prog.fieldsOf 161))) (by kernel_rfl) (by kernel_rfl) (by kernel_rfl) (by kernel_rfl) (by kernel_rfl) (by decide) (by decide) (by decide) (by decide) (fun _=>⟨by kernel_rfl,by kernel_rfl,eqn161⟩) (by kernel_rfl) (⟨_,rfl,by kernel_rfl,by decide⟩)
theorem eqn163:∀f∈Tryz.prog.fieldsOf 163,f.name≠ "_" :=by
 have h:((Tryz.prog.fieldsOf 163).toList.all fun f=>f.name != "_")=true:=by kernel_rfl
 intro f hf
 have:=List.all_eq_true.1 h f (by simpa using hf)
 simpa using this
theorem ty163:TyOk Tryz.prog tab ⟨(.struct [(0,3),(1,3),(2,4),(3,3)]),4,32,[.int .i64,.int .i64,.bool,.int .i64],true⟩ 163:=
 ty_ok (i:=Tryz.t163) (z:=.agg #[.int .i64 0,.int .i64 0,.bool false,.int .i64 0]) (d:=(.struct (Tryz.prog.fieldsOf 163))) (by kernel_rfl) (by kernel_rfl) (by kernel_rfl) (by kernel_rfl) (by kernel_rfl) (by decide) (by decide) (by decide) (by decide) (fun _=>⟨by kernel_rfl,by kernel_rfl,eqn163⟩) (by kernel_rfl) (⟨_,rfl,by kernel_rfl,by decide⟩)
theorem ty164:TyOk Tryz.prog tab ⟨(.slice 232),1,24,[.nilsl],false⟩ 164:=
 ty_ok (i:=Tryz.t164) (z:=.slice none 0 0) (d:=(.slice 232)) (by kernel_rfl) (by kernel_rfl) (by kernel_rfl) (by kernel_rfl) (by kernel_rfl) (by decide) (by decide) (by decide) (by decide) (nofun) (by kernel_rfl) (rfl)
theorem ty165:TyOk Tryz.prog tab ⟨(.struct [(0,164),(1,57)]),2,48,[.nilsl,.nilsl],false⟩ 165:=
 ty_ok (i:=Tryz.t165) (z:=.agg #[.slice none 0 0,.slice none 0 0]) (d:=(.struct (Tryz.prog.fieldsOf 165))) (by kernel_rfl) (by kernel_rfl) (by kernel_rfl) (by kernel_rfl) (by kernel_rfl) (by decide) (by decide) (by decide) (by decide) (nofun) (by kernel_rfl) (⟨_,rfl,by kernel_rfl,by decide⟩)
theorem ty166:TyOk Tryz.prog tab ⟨(.struct [(0,164),(1,57)]),2,48,[.nilsl,.nilsl],false⟩ 166:=
 ty_ok (i:=Tryz.t166) (z:=.agg #[.slice none 0 0,.slice none 0 0]) (d:=(.struct (Tryz.prog.fieldsOf 166))) (by kernel_rfl) (by kernel_rfl) (by kernel_rfl) (by kernel_rfl) (by kernel_rfl) (by decide) (by decide) (by decide) (by decide) (nofun) (by kernel_rfl) (⟨_,rfl,by kernel_rfl,by decide⟩)
theorem ty200:TyOk Tryz.prog tab ⟨(.slice 41),1,24,[.nilsl],false⟩ 200:=
 ty_ok (i:=Tryz.t200) (z:=.slice none 0 0) (d:=(.slice 41)) (by kernel_rfl) (by kernel_rfl) (by kernel_rfl) (by kernel_rfl) (by kernel_rfl) (by decide) (by decide) (by decide) (by decide) (nofun) (by kernel_rfl) (rfl)
theorem ty228:TyOk Tryz.prog tab ⟨(.slice 5),1,24,[.nilsl],false⟩ 228:=
 ty_ok (i:=Tryz.t228) (z:=.slice none 0 0) (d:=(.slice 5)) (by kernel_rfl) (by kernel_rfl) (by kernel_rfl) (by kernel_rfl) (by kernel_rfl) (by decide) (by decide) (by decide) (by decide) (nofun) (by kernel_rfl) (rfl)
theorem ty230:TyOk Tryz.prog tab ⟨(.struct [(0,3),(1,25),(2,25)]),3,56,[.int .i64,.nilsl,.nilsl],false⟩ 230:=
 ty_ok (i:=Tryz.t230) (z:=.agg #[.int .i64 0,.slice none 0 0,.slice none 0 0]) (d:=(.struct (Tryz.prog.fieldsOf 230))) (by kernel_rfl) (by kernel_rfl) (by kernel_rfl) (by kernel_rfl) (by kernel_rfl) (by decide) (by decide) (by decide) (by decide) (nofun) (by kernel_rfl) (⟨_,rfl,by kernel_rfl,by decide⟩)
theorem eqn232:∀f∈Tryz.prog.fieldsOf 232,f.name≠ "_" :=by
 have h:((Tryz.prog.fieldsOf 232).toList.all fun f=>f.name != "_")=true:=by kernel_rfl
 intro f hf
 have:=List.all_eq_true.1 h f (by simpa using hf)
 simpa using this
theorem ty232:TyOk Tryz.prog tab ⟨(.struct [(0,3),(1,3)]),2,16,[.int .i64,.int .i64],true⟩ 232:=
 ty_ok (i:=Tryz.t232) (z:=.agg #[.int .i64 0,.int .i64 0]) (d:=(.struct (Tryz.prog.fieldsOf 232))) (by kernel_rfl) (by kernel_rfl) (by kernel_rfl) (by kernel_rfl) (by kernel_rfl) (by decide) (by decide) (by decide) (by decide) (fun _=>⟨by kernel_rfl,by kernel_rfl,eqn232⟩) (by kernel_rfl) (⟨_,rfl,by kernel_rfl,by decide⟩)
theorem ty260:TyOk Tryz.prog tab ⟨(.slice 33),1,24,[.nilsl],false⟩ 260:=
 ty_ok (i:=Tryz.t260) (z:=.slice none 0 0) (d:=(.slice 33)) (by kernel_rfl) (by kernel_rfl) (by kernel_rfl) (by kernel_rfl) (by kernel_rfl) (by decide) (by decide) (by decide) (by decide) (nofun) (by kernel_rfl) (rfl)
theorem ty271:TyOk Tryz.prog tab ⟨(.struct [(0,3),(1,25),(2,25)]),3,56,[.int .i64,.nilsl,.nilsl],false⟩ 271:=
 ty_ok (i:=Tryz.t271) (z:=.agg #[.int .i64 0,.slice none 0 0,.slice none 0 0]) (d:=(.struct (Tryz.prog.fieldsOf 271))) (by kernel_rfl) (by kernel_rfl) (by kernel_rfl) (by kernel_rfl) (by kernel_rfl) (by decide) (by decide) (by decide) (by decide) (nofun) (by kernel_rfl) (⟨_,rfl,by kernel_rfl,by decide⟩)
theorem eqn274:∀f∈Tryz.prog.fieldsOf 274,f.name≠ "_" :=by
 have h:((Tryz.prog.fieldsOf 274).toList.all fun f=>f.name != "_")=true:=by kernel_rfl
 intro f hf
 have:=List.all_eq_true.1 h f (by simpa using hf)
 simpa using this
theorem ty274:TyOk Tryz.prog tab ⟨(.struct [(0,3),(1,3)]),2,16,[.int .i64,.int .i64],true⟩ 274:=
 ty_ok (i:=Tryz.t274) (z:=.agg #[.int .i64 0,.int .i64 0]) (d:=(.struct (Tryz.prog.fieldsOf 274))) (by kernel_rfl) (by kernel_rfl) (by kernel_rfl) (by kernel_rfl) (by kernel_rfl) (by decide) (by decide) (by decide) (by decide) (fun _=>⟨by kernel_rfl,by kernel_rfl,eqn274⟩) (by kernel_rfl) (⟨_,rfl,by kernel_rfl,by decide⟩)
theorem ty318:TyOk Tryz.prog tab ⟨(.slice 319),1,24,[.nilsl],false⟩ 318:=
 ty_ok (i:=Tryz.t318) (z:=.slice none 0 0) (d:=(.slice 319)) (by kernel_rfl) (by kernel_rfl) (by kernel_rfl) (by kernel_rfl) (by kernel_rfl) (by decide) (by decide) (by decide) (by decide) (nofun) (by kernel_rfl) (rfl)
theorem ty319:TyOk Tryz.prog tab ⟨(.slice 4),1,24,[.nilsl],false⟩ 319:=
 ty_ok (i:=Tryz.t319) (z:=.slice none 0 0) (d:=(.slice 4)) (by kernel_rfl) (by kernel_rfl) (by kernel_rfl) (by kernel_rfl) (by kernel_rfl) (by decide) (by decide) (by decide) (by decide) (nofun) (by kernel_rfl) (rfl)
theorem tabOk:TabOk Tryz.prog tab:=tab_ok ⟨ty105,⟨ty35,⟨ty24,⟨ty5,⟨ty3,⟨ty2,trivial,trivial⟩,⟨ty4,trivial,trivial⟩⟩,⟨ty22,⟨ty9,trivial,trivial⟩,⟨ty23,trivial,trivial⟩⟩⟩,⟨ty29,⟨ty26,⟨ty25,trivial,trivial⟩,⟨ty27,trivial,trivial⟩⟩,⟨ty33,⟨ty30,trivial,trivial⟩,trivial⟩⟩⟩,⟨ty57,⟨ty39,⟨ty37,⟨ty36,trivial,trivial⟩,⟨ty38,trivial,trivial⟩⟩,⟨ty49,⟨ty41,trivial,trivial⟩,⟨ty51,trivial,trivial⟩⟩⟩,⟨ty88,⟨ty61,⟨ty59,trivial,trivial⟩,⟨ty63,trivial,trivial⟩⟩,⟨ty104,⟨ty90,trivial,trivial⟩,trivial⟩⟩⟩⟩,⟨ty158,⟨ty146,⟨ty122,⟨ty109,⟨ty108,trivial,trivial⟩,⟨ty121,trivial,trivial⟩⟩,⟨ty132,⟨ty131,trivial,trivial⟩,⟨ty145,trivial,trivial⟩⟩⟩,⟨ty151,⟨ty149,⟨ty147,trivial,trivial⟩,⟨ty150,trivial,trivial⟩⟩,⟨ty157,⟨ty156,trivial,trivial⟩,trivial⟩⟩⟩,⟨ty230,⟨ty165,⟨ty163,⟨ty161,trivial,trivial⟩,⟨ty164,trivial,trivial⟩⟩,⟨ty200,⟨ty166,trivial,trivial⟩,⟨ty228,trivial,trivial⟩⟩⟩,⟨ty274,⟨ty260,⟨ty232,trivial,trivial⟩,⟨ty271,trivial,trivial⟩⟩,⟨ty319,⟨ty318,trivial,trivial⟩,trivial⟩⟩⟩⟩⟩
end Go.Proofs.YtepogmnolnlpmaaGreat.Abs
