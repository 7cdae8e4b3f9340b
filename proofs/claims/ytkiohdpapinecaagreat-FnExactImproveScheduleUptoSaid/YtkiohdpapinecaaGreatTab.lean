/- The table of the types of this seat: what the abstract layer must know of them, by closed facts. Printed by gentab.py. No statement of a claim. -/
import Derived.Test.YtkiohdpapinecaaGreatLayB
import Derived.Test.YtkiohdpapinecaaGreatProg
import Derived.KernelRfl
set_option linter.all false
namespace Go.Proofs.YtkiohdpapinecaaGreat.Abs
open Go.Proofs
def tree:Tree:=(.node 116 ⟨(.struct [(0,37),(5,113),(8,114),(9,61)]),10,224,[.int .i64,.nilsl,.nilsl,.nilsl,.nilsl,.nilsl,.nilsl,.nilsl,.nilsl,.nilsl],false⟩ (.node 35 ⟨(.slice 147),1,24,[.nilsl],false⟩ (.node 24 ⟨(.slice 139),1,24,[.nilsl],false⟩ (.node 5 ⟨(.int .u8),1,1,[.int .u8],false⟩ (.node 3 ⟨(.int .i64),1,8,[.int .i64],false⟩ (.node 2 ⟨(.int .i64),1,8,[.int .i64],false⟩ .leaf .leaf) (.node 4 ⟨.bool,1,1,[.bool],false⟩ .leaf .leaf)) (.node 22 ⟨(.slice 135),1,24,[.nilsl],false⟩ (.node 9 ⟨.str,1,16,[.str],false⟩ .leaf .leaf) (.node 23 ⟨(.slice 158),1,24,[.nilsl],false⟩ .leaf .leaf))) (.node 30 ⟨(.struct [(0,25),(1,25)]),2,48,[.nilsl,.nilsl],false⟩ (.node 26 ⟨(.struct [(0,3),(1,22),(2,23),(3,24),(4,25)]),5,104,[.int .i64,.nilsl,.nilsl,.nilsl,.nilsl],false⟩ (.node 25 ⟨(.slice 3),1,24,[.nilsl],false⟩ .leaf .leaf) (.node 27 ⟨(.struct [(0,3),(1,22),(2,23),(3,24),(4,25)]),5,104,[.int .i64,.nilsl,.nilsl,.nilsl,.nilsl],false⟩ .leaf .leaf)) (.node 34 ⟨(.slice 150),1,24,[.nilsl],false⟩ (.node 33 ⟨(.slice 142),1,24,[.nilsl],false⟩ .leaf .leaf) .leaf))) (.node 72 ⟨(.struct [(0,30),(2,25)]),3,72,[.nilsl,.nilsl,.nilsl],false⟩ (.node 49 ⟨(.struct [(0,3),(1,3),(2,3),(3,3)]),4,32,[.int .i64,.int .i64,.int .i64,.int .i64],true⟩ (.node 37 ⟨(.struct [(0,3),(1,33),(2,34),(3,35),(4,25)]),5,104,[.int .i64,.nilsl,.nilsl,.nilsl,.nilsl],false⟩ (.node 36 ⟨(.struct [(0,3),(1,33),(2,34),(3,35),(4,25)]),5,104,[.int .i64,.nilsl,.nilsl,.nilsl,.nilsl],false⟩ .leaf .leaf) (.node 47 ⟨(.struct [(0,25),(1,25)]),2,48,[.nilsl,.nilsl],false⟩ .leaf .leaf)) (.node 61 ⟨(.slice 128),1,24,[.nilsl],false⟩ (.node 53 ⟨(.struct [(0,3),(1,3),(2,3),(3,3)]),4,32,[.int .i64,.int .i64,.int .i64,.int .i64],true⟩ .leaf .leaf) .leaf)) (.node 113 ⟨(.struct [(0,25),(1,25),(2,111)]),3,72,[.nilsl,.nilsl,.nilsl],false⟩ (.node 108 ⟨(.slice 4),1,24,[.nilsl],false⟩ (.node 73 ⟨(.struct [(0,30),(2,25)]),3,72,[.nilsl,.nilsl,.nilsl],false⟩ .leaf .leaf) (.node 111 ⟨(.slice 25),1,24,[.nilsl],false⟩ .leaf .leaf)) (.node 115 ⟨(.struct [(0,37),(5,113),(8,114),(9,61)]),10,224,[.int .i64,.nilsl,.nilsl,.nilsl,.nilsl,.nilsl,.nilsl,.nilsl,.nilsl,.nilsl],false⟩ (.node 114 ⟨(.slice 184),1,24,[.nilsl],false⟩ .leaf .leaf) .leaf)))) (.node 147 ⟨(.struct [(0,145),(1,111)]),2,48,[.nilsl,.nilsl],false⟩ (.node 138 ⟨(.struct [(0,137),(1,111)]),2,48,[.nilsl,.nilsl],false⟩ (.node 133 ⟨(.slice 275),1,24,[.nilsl],false⟩ (.node 127 ⟨(.struct [(0,3),(1,126),(5,114)]),6,64,[.int .i64,.int .i64,.int .i64,.int .i64,.int .i64,.nilsl],false⟩ (.node 126 ⟨(.struct [(0,3),(1,3),(2,3),(3,3)]),4,32,[.int .i64,.int .i64,.int .i64,.int .i64],true⟩ .leaf .leaf) (.node 128 ⟨(.struct [(0,3),(1,126),(5,114)]),6,64,[.int .i64,.int .i64,.int .i64,.int .i64,.int .i64,.nilsl],false⟩ .leaf .leaf)) (.node 135 ⟨(.struct [(0,9),(1,3),(2,133)]),3,48,[.str,.int .i64,.nilsl],false⟩ (.node 134 ⟨(.struct [(0,9),(1,3),(2,133)]),3,48,[.str,.int .i64,.nilsl],false⟩ .leaf .leaf) (.node 137 ⟨(.slice 279),1,24,[.nilsl],false⟩ .leaf .leaf))) (.node 142 ⟨(.struct [(0,9),(1,3),(2,140)]),3,48,[.str,.int .i64,.nilsl],false⟩ (.node 140 ⟨(.slice 154),1,24,[.nilsl],false⟩ (.node 139 ⟨(.struct [(0,137),(1,111)]),2,48,[.nilsl,.nilsl],false⟩ .leaf .leaf) (.node 141 ⟨(.struct [(0,9),(1,3),(2,140)]),3,48,[.str,.int .i64,.nilsl],false⟩ .leaf .leaf)) (.node 146 ⟨(.struct [(0,145),(1,111)]),2,48,[.nilsl,.nilsl],false⟩ (.node 145 ⟨(.slice 226),1,24,[.nilsl],false⟩ .leaf .leaf) .leaf))) (.node 186 ⟨(.struct [(0,184),(3,126),(7,114)]),8,80,[.int .i64,.int .i64,.int .i64,.int .i64,.int .i64,.int .i64,.int .i64,.nilsl],false⟩ (.node 177 ⟨(.slice 126),1,24,[.nilsl],false⟩ (.node 154 ⟨(.struct [(0,3),(1,25),(2,25)]),3,56,[.int .i64,.nilsl,.nilsl],false⟩ (.node 150 ⟨(.struct [(0,3),(1,3),(2,4),(3,3)]),4,32,[.int .i64,.int .i64,.bool,.int .i64],true⟩ .leaf .leaf) (.node 158 ⟨(.struct [(0,3),(1,3),(2,4),(3,3)]),4,32,[.int .i64,.int .i64,.bool,.int .i64],true⟩ .leaf .leaf)) (.node 185 ⟨(.struct [(0,184),(3,126),(7,114)]),8,80,[.int .i64,.int .i64,.int .i64,.int .i64,.int .i64,.int .i64,.int .i64,.nilsl],false⟩ (.node 184 ⟨(.struct [(0,3),(1,3),(2,3)]),3,24,[.int .i64,.int .i64,.int .i64],true⟩ .leaf .leaf) .leaf)) (.node 275 ⟨(.struct [(0,3),(1,25),(2,25)]),3,56,[.int .i64,.nilsl,.nilsl],false⟩ (.node 226 ⟨(.struct [(0,3),(1,3)]),2,16,[.int .i64,.int .i64],true⟩ (.node 224 ⟨(.slice 5),1,24,[.nilsl],false⟩ .leaf .leaf) (.node 264 ⟨(.slice 114),1,24,[.nilsl],false⟩ .leaf .leaf)) (.node 346 ⟨(.slice 108),1,24,[.nilsl],false⟩ (.node 279 ⟨(.struct [(0,3),(1,3)]),2,16,[.int .i64,.int .i64],true⟩ .leaf .leaf) .leaf)))))
def tab:Nat→Ty:=tree.find
theorem ty2:TyOk Tryz.prog tab ⟨(.int .i64),1,8,[.int .i64],false⟩ 2:=
 ty_ok (i:=Tryz.t2) (z:=.int .i64 0) (d:=(.int .i64)) (by kernel_rfl) (by kernel_rfl) (by kernel_rfl) (by kernel_rfl) (by kernel_rfl) (by decide) (by decide) (by decide) (by decide) (nofun) (by kernel_rfl) (rfl)
theorem ty3:TyOk Tryz.prog tab ⟨(.int .i64),1,8,[.int .i64],false⟩ 3:=
 ty_ok (i:=Tryz.t3) (z:=.int .i64 0) (d:=(.int .i64)) (by kernel_rfl) (by kernel_rfl) (by kernel_rfl) (by kernel_rfl) (by kernel_rfl) (by decide) (by decide) (by decide) (by decide) (nofun) (by kernel_rfl) (rfl)
theorem ty4:TyOk Tryz.prog tab ⟨.bool,1,1,[.bool],false⟩ 4:=
 ty_ok (i:=Tryz.t4) (z:=.bool false) (d:=.bool) (by kernel_rfl) (by kernel_rfl) (by kernel_rfl) (by kernel_rfl) (by kernel_rfl) (by decide) (by decide) (by decide) (by decide) (nofun) (by kernel_rfl) (rfl)
theorem ty5:TyOk Tryz.prog tab ⟨(.int .u8),1,1,[.int .u8],false⟩ 5:=
 ty_ok (i:=Tryz.t5) (z:=.int .u8 0) (d:=(.int .u8)) (by kernel_rfl) (by kernel_rfl) (by kernel_rfl) (by kernel_rfl) (by kernel_rfl) (by decide) (by decide) (by decide) (by decide) (nofun) (by kernel_rfl) (rfl)
theorem ty9:TyOk Tryz.prog tab ⟨.str,1,16,[.str],false⟩ 9:=
 ty_ok (i:=Tryz.t9) (z:=.string ⟨#[]⟩) (d:=.string) (by kernel_rfl) (by kernel_rfl) (by kernel_rfl) (by kernel_rfl) (by kernel_rfl) (by decide) (by decide) (by decide) (by decide) (nofun) (by kernel_rfl) (rfl)
theorem ty22:TyOk Tryz.prog tab ⟨(.slice 135),1,24,[.nilsl],false⟩ 22:=
 ty_ok (i:=Tryz.t22) (z:=.slice none 0 0) (d:=(.slice 135)) (by kernel_rfl) (by kernel_rfl) (by kernel_rfl) (by kernel_rfl) (by kernel_rfl) (by decide) (by decide) (by decide) (by decide) (nofun) (by kernel_rfl) (rfl)
theorem ty23:TyOk Tryz.prog tab ⟨(.slice 158),1,24,[.nilsl],false⟩ 23:=
 ty_ok (i:=Tryz.t23) (z:=.slice none 0 0) (d:=(.slice 158)) (by kernel_rfl) (by kernel_rfl) (by kernel_rfl) (by kernel_rfl) (by kernel_rfl) (by decide) (by decide) (by decide) (by decide) (nofun) (by kernel_rfl) (rfl)
theorem ty24:TyOk Tryz.prog tab ⟨(.slice 139),1,24,[.nilsl],false⟩ 24:=
 ty_ok (i:=Tryz.t24) (z:=.slice none 0 0) (d:=(.slice 139)) (by kernel_rfl) (by kernel_rfl) (by kernel_rfl) (by kernel_rfl) (by kernel_rfl) (by decide) (by decide) (by decide) (by decide) (nofun) (by kernel_rfl) (rfl)
theorem ty25:TyOk Tryz.prog tab ⟨(.slice 3),1,24,[.nilsl],false⟩ 25:=
 ty_ok (i:=Tryz.t25) (z:=.slice none 0 0) (d:=(.slice 3)) (by kernel_rfl) (by kernel_rfl) (by kernel_rfl) (by kernel_rfl) (by kernel_rfl) (by decide) (by decide) (by decide) (by decide) (nofun) (by kernel_rfl) (rfl)
theorem ty26:TyOk Tryz.prog tab ⟨(.struct [(0,3),(1,22),(2,23),(3,24),(4,25)]),5,104,[.int .i64,.nilsl,.nilsl,.nilsl,.nilsl],false⟩ 26:=
 ty_ok (i:=Tryz.t26) (z:=.agg #[.int .i64 0,.slice none 0 0,.slice none 0 0,.slice none 0 0,.slice none 0 0]) (d:=(.struct (Tryz.prog.fieldsOf 26))) (by kernel_rfl) (by kernel_rfl) (by kernel_rfl) (by kernel_rfl) (by kernel_rfl) (by decide) (by decide) (by decide) (by decide) (nofun) (by kernel_rfl) (⟨_,rfl,by kernel_rfl,by decide⟩)
theorem ty27:TyOk Tryz.prog tab ⟨(.struct [(0,3),(1,22),(2,23),(3,24),(4,25)]),5,104,[.int .i64,.nilsl,.nilsl,.nilsl,.nilsl],false⟩ 27:=
 ty_ok (i:=Tryz.t27) (z:=.agg #[.int .i64 0,.slice none 0 0,.slice none 0 0,.slice none 0 0,.slice none 0 0]) (d:=(.struct (Tryz.prog.fieldsOf 27))) (by kernel_rfl) (by kernel_rfl) (by kernel_rfl) (by kernel_rfl) (by kernel_rfl) (by decide) (by decide) (by decide) (by decide) (nofun) (by kernel_rfl) (⟨_,rfl,by kernel_rfl,by decide⟩)
theorem ty30:TyOk Tryz.prog tab ⟨(.struct [(0,25),(1,25)]),2,48,[.nilsl,.nilsl],false⟩ 30:=
 ty_ok (i:=Tryz.t30) (z:=.agg #[.slice none 0 0,.slice none 0 0]) (d:=(.struct (Tryz.prog.fieldsOf 30))) (by kernel_rfl) (by kernel_rfl) (by kernel_rfl) (by kernel_rfl) (by kernel_rfl) (by decide) (by decide) (by decide) (by decide) (nofun) (by kernel_rfl) (⟨_,rfl,by kernel_rfl,by decide⟩)
theorem ty33:TyOk Tryz.prog tab ⟨(.slice 142),1,24,[.nilsl],false⟩ 33:=
 ty_ok (i:=Tryz.t33) (z:=.slice none 0 0) (d:=(.slice 142)) (by kernel_rfl) (by kernel_rfl) (by kernel_rfl) (by kernel_rfl) (by kernel_rfl) (by decide) (by decide) (by decide) (by decide) (nofun) (by kernel_rfl) (rfl)
theorem ty34:TyOk Tryz.prog tab ⟨(.slice 150),1,24,[.nilsl],false⟩ 34:=
 ty_ok (i:=Tryz.t34) (z:=.slice none 0 0) (d:=(.slice 150)) (by kernel_rfl) (by kernel_rfl) (by kernel_rfl) (by kernel_rfl) (by kernel_rfl) (by decide) (by decide) (by decide) (by decide) (nofun) (by kernel_rfl) (rfl)
theorem ty35:TyOk Tryz.prog tab ⟨(.slice 147),1,24,[.nilsl],false⟩ 35:=
 ty_ok (i:=Tryz.t35) (z:=.slice none 0 0) (d:=(.slice 147)) (by kernel_rfl) (by kernel_rfl) (by kernel_rfl) (by kernel_rfl) (by kernel_rfl) (by decide) (by decide) (by decide) (by decide) (nofun) (by kernel_rfl) (rfl)
theorem ty36:TyOk Tryz.prog tab ⟨(.struct [(0,3),(1,33),(2,34),(3,35),(4,25)]),5,104,[.int .i64,.nilsl,.nilsl,.nilsl,.nilsl],false⟩ 36:=
 ty_ok (i:=Tryz.t36) (z:=.agg #[.int .i64 0,.slice none 0 0,.slice none 0 0,.slice none 0 0,.slice none 0 0]) (d:=(.struct (Tryz.prog.fieldsOf 36))) (by kernel_rfl) (by kernel_rfl) (by kernel_rfl) (by kernel_rfl) (by kernel_rfl) (by decide) (by decide) (by decide) (by decide) (nofun) (by kernel_rfl) (⟨_,rfl,by kernel_rfl,by decide⟩)
theorem ty37:TyOk Tryz.prog tab ⟨(.struct [(0,3),(1,33),(2,34),(3,35),(4,25)]),5,104,[.int .i64,.nilsl,.nilsl,.nilsl,.nilsl],false⟩ 37:=
 ty_ok (i:=Tryz.t37) (z:=.agg #[.int .i64 0,.slice none 0 0,.slice none 0 0,.slice none 0 0,.slice none 0 0]) (d:=(.struct (Tryz.prog.fieldsOf 37))) (by kernel_rfl) (by kernel_rfl) (by kernel_rfl) (by kernel_rfl) (by kernel_rfl) (by decide) (by decide) (by decide) (by decide) (nofun) (by kernel_rfl) (⟨_,rfl,by kernel_rfl,by decide⟩)
theorem ty47:TyOk Tryz.prog tab ⟨(.struct [(0,25),(1,25)]),2,48,[.nilsl,.nilsl],false⟩ 47:=
 ty_ok (i:=Tryz.t47) (z:=.agg #[.slice none 0 0,.slice none 0 0]) (d:=(.struct (Tryz.prog.fieldsOf 47))) (by kernel_rfl) (by kernel_rfl) (by kernel_rfl) (by kernel_rfl) (by kernel_rfl) (by decide) (by decide) (by decide) (by decide) (nofun) (by kernel_rfl) (⟨_,rfl,by kernel_rfl,by decide⟩)
theorem eqn49:∀f∈Tryz.prog.fieldsOf 49,f.name≠ "_" :=by
 have h:((Tryz.prog.fieldsOf 49).toList.all fun f=>f.name != "_")=true:=by kernel_rfl
 intro f hf
 have:=List.all_eq_true.1 h f (by simpa using hf)
 simpa using this
theorem ty49:TyOk Tryz.prog tab ⟨(.struct [(0,3),(1,3),(2,3),(3,3)]),4,32,[.int .i64,.int .i64,.int .i64,.int .i64],true⟩ 49:=
 ty_ok (i:=Tryz.t49) (z:=.agg #[.int .i64 0,.int .i64 0,.int .i64 0,.int .i64 0]) (d:=(.struct (Tryz.prog.fieldsOf 49))) (by kernel_rfl) (by kernel_rfl) (by kernel_rfl) (by kernel_rfl) (by kernel_rfl) (by decide) (by decide) (by decide) (by decide) (fun _=>⟨by kernel_rfl,by kernel_rfl,eqn49⟩) (by kernel_rfl) (⟨_,rfl,by kernel_rfl,by decide⟩)
theorem eqn53:∀f∈Tryz.prog.fieldsOf 53,f.name≠ "_" :=by
 have h:((Tryz.prog.fieldsOf 53).toList.all fun f=>f.name != "_")=true:=by kernel_rfl
 intro f hf
 have:=List.all_eq_true.1 h f (by simpa using hf)
 simpa using this
theorem ty53:TyOk Tryz.prog tab ⟨(.struct [(0,3),(1,3),(2,3),(3,3)]),4,32,[.int .i64,.int .i64,.int .i64,.int .i64],true⟩ 53:=
 ty_ok (i:=Tryz.t53) (z:=.agg #[.int .i64 0,.int .i64 0,.int .i64 0,.int .i64 0]) (d:=(.struct (Tryz.prog.fieldsOf 53))) (by kernel_rfl) (by kernel_rfl) (by kernel_rfl) (by kernel_rfl) (by kernel_rfl) (by decide) (by decide) (by decide) (by decide) (fun _=>⟨by kernel_rfl,by kernel_rfl,eqn53⟩) (by kernel_rfl) (⟨_,rfl,by kernel_rfl,by decide⟩)
theorem ty61:TyOk Tryz.prog tab ⟨(.slice 128),1,24,[.nilsl],false⟩ 61:=
 ty_ok (i:=Tryz.t61) (z:=.slice none 0 0) (d:=(.slice 128)) (by kernel_rfl) (by kernel_rfl) (by kernel_rfl) (by kernel_rfl) (by kernel_rfl) (by decide) (by decide) (by decide) (by decide) (nofun) (by kernel_rfl) (rfl)
theorem ty72:TyOk Tryz.prog tab ⟨(.struct [(0,30),(2,25)]),3,72,[.nilsl,.nilsl,.nilsl],false⟩ 72:=
 ty_ok (i:=Tryz.t72) (z:=.agg #[.slice none 0 0,.slice none 0 0,.slice none 0 0]) (d:=(.struct (Tryz.prog.fieldsOf 72))) (by kernel_rfl) (by kernel_rfl) (by kernel_rfl) (by kernel_rfl) (by kernel_rfl) (by decide) (by decide) (by decide) (by decide) (nofun) (by kernel_rfl) (⟨_,rfl,by kernel_rfl,by decide⟩)
theorem ty73:TyOk Tryz.prog tab ⟨(.struct [(0,30),(2,25)]),3,72,[.nilsl,.nilsl,.nilsl],false⟩ 73:=
 ty_ok (i:=Tryz.t73) (z:=.agg #[.slice none 0 0,.slice none 0 0,.slice none 0 0]) (d:=(.struct (Tryz.prog.fieldsOf 73))) (by kernel_rfl) (by kernel_rfl) (by kernel_rfl) (by kernel_rfl) (by kernel_rfl) (by decide) (by decide) (by decide) (by decide) (nofun) (by kernel_rfl) (⟨_,rfl,by kernel_rfl,by decide⟩)
theorem ty108:TyOk Tryz.prog tab ⟨(.slice 4),1,24,[.nilsl],false⟩ 108:=
 ty_ok (i:=Tryz.t108) (z:=.slice none 0 0) (d:=(.slice 4)) (by kernel_rfl) (by kernel_rfl) (by kernel_rfl) (by kernel_rfl) (by kernel_rfl) (by decide) (by decide) (by decide) (by decide) (nofun) (by kernel_rfl) (rfl)
theorem ty111:TyOk Tryz.prog tab ⟨(.slice 25),1,24,[.nilsl],false⟩ 111:=
 ty_ok (i:=Tryz.t111) (z:=.slice none 0 0) (d:=(.slice 25)) (by kernel_rfl) (by kernel_rfl) (by kernel_rfl) (by kernel_rfl) (by kernel_rfl) (by decide) (by decide) (by decide) (by decide) (nofun) (by kernel_rfl) (rfl)
theorem ty113:TyOk Tryz.prog tab ⟨(.struct [(0,25),(1,25),(2,111)]),3,72,[.nilsl,.nilsl,.nilsl],false⟩ 113:=
 ty_ok (i:=Tryz.t113) (z:=.agg #[.slice none 0 0,.slice none 0 0,.slice none 0 0]) (d:=(.struct (Tryz.prog.fieldsOf 113))) (by kernel_rfl) (by kernel_rfl) (by kernel_rfl) (by kernel_rfl) (by kernel_rfl) (by decide) (by decide) (by decide) (by decide) (nofun) (by kernel_rfl) (⟨_,rfl,by kernel_rfl,by decide⟩)
theorem ty114:TyOk Tryz.prog tab ⟨(.slice 184),1,24,[.nilsl],false⟩ 114:=
 ty_ok (i:=Tryz.t114) (z:=.slice none 0 0) (d:=(.slice 184)) (by kernel_rfl) (by kernel_rfl) (by kernel_rfl) (by kernel_rfl) (by kernel_rfl) (by decide) (by decide) (by decide) (by decide) (nofun) (by kernel_rfl) (rfl)
theorem ty115:TyOk Tryz.prog tab ⟨(.struct [(0,37),(5,113),(8,114),(9,61)]),10,224,[.int .i64,.nilsl,.nilsl,.nilsl,.nilsl,.nilsl,.nilsl,.nilsl,.nilsl,.nilsl],false⟩ 115:=
 ty_ok (i:=Tryz.t115) (z:=.agg #[.int .i64 0,.slice none 0 0,.slice none 0 0,.slice none 0 0,.slice none 0 0,.slice none 0 0,.slice none 0 0,.slice none 0 0,.slice none 0 0,.slice none 0 0]) (d:=(.struct (Tryz.prog.fieldsOf 115))) (by kernel_rfl) (by kernel_rfl) (by kernel_rfl) (by kernel_rfl) (by kernel_rfl) (by decide) (by decide) (by decide) (by decide) (nofun) (by kernel_rfl) (⟨_,rfl,by kernel_rfl,by decide⟩)
theorem ty116:TyOk Tryz.prog tab ⟨(.struct [(0,37),(5,113),(8,114),(9,61)]),10,224,[.int .i64,.nilsl,.nilsl,.nilsl,.nilsl,.nilsl,.nilsl,.nilsl,.nilsl,.nilsl],false⟩ 116:=
 ty_ok (i:=Tryz.t116) (z:=.agg #[.int .i64 0,.slice none 0 0,.slice none 0 0,.slice none 0 0,.slice none 0 0,.slice none 0 0,.slice none 0 0,.slice none 0 0,.slice none 0 0,.slice none 0 0]) (d:=(.struct (Tryz.prog.fieldsOf 116))) (by kernel_rfl) (by kernel_rfl) (by kernel_rfl) (by kernel_rfl) (by kernel_rfl) (by decide) (by decide) (by decide) (by decide) (nofun) (by kernel_rfl) (⟨_,rfl,by kernel_rfl,by decide⟩)
theorem eqn126:∀f∈Tryz.prog.fieldsOf 126,f.name≠ "_" :=by
 have h:((Tryz.prog.fieldsOf 126).toList.all fun f=>f.name != "_")=true:=by kernel_rfl
 intro f hf
 have:=List.all_eq_true.1 h f (by simpa using hf)
 simpa using this
theorem ty126:TyOk Tryz.prog tab ⟨(.struct [(0,3),(1,3),(2,3),(3,3)]),4,32,[.int .i64,.int .i64,.int .i64,.int .i64],true⟩ 126:=
 ty_ok (i:=Tryz.t126) (z:=.agg #[.int .i64 0,.int .i64 0,.int .i64 0,.int .i64 0]) (d:=(.struct (Tryz.prog.fieldsOf 126))) (by kernel_rfl) (by kernel_rfl) (by kernel_rfl) (by kernel_rfl) (by kernel_rfl) (by decide) (by decide) (by decide) (by decide) (fun _=>⟨by kernel_rfl,by kernel_rfl,eqn126⟩) (by kernel_rfl) (⟨_,rfl,by kernel_rfl,by decide⟩)
theorem ty127:TyOk Tryz.prog tab ⟨(.struct [(0,3),(1,126),(5,114)]),6,64,[.int .i64,.int .i64,.int .i64,.int .i64,.int .i64,.nilsl],false⟩ 127:=
 ty_ok (i:=Tryz.t127) (z:=.agg #[.int .i64 0,.int .i64 0,.int .i64 0,.int .i64 0,.int .i64 0,.slice none 0 0]) (d:=(.struct (Tryz.prog.fieldsOf 127))) (by kernel_rfl) (by kernel_rfl) (by kernel_rfl) (by kernel_rfl) (by kernel_rfl) (by decide) (by decide) (by decide) (by decide) (nofun) (by kernel_rfl) (⟨_,rfl,by kernel_rfl,by decide⟩)
theorem ty128:TyOk Tryz.prog tab ⟨(.struct [(0,3),(1,126),(5,114)]),6,64,[.int .i64,.int .i64,.int .i64,.int .i64,.int .i64,.nilsl],false⟩ 128:=
 ty_ok (i:=Tryz.t128) (z:=.agg #[.int .i64 0,.int .i64 0,.int .i64 0,.int .i64 0,.int .i64 0,.slice none 0 0]) (d:=(.struct (Tryz.prog.fieldsOf 128))) (by kernel_rfl) (by kernel_rfl) (by kernel_rfl) (by kernel_rfl) (by kernel_rfl) (by decide) (by decide) (by decide) (by decide) (nofun) (by kernel_rfl) (⟨_,rfl,by kernel_rfl,by decide⟩)
theorem ty133:TyOk Tryz.prog tab ⟨(.slice 275),1,24,[.nilsl],false⟩ 133:=
 ty_ok (i:=Tryz.t133) (z:=.slice none 0 0) (d:=(.slice 275)) (by kernel_rfl) (by kernel_rfl) (by kernel_rfl) (by kernel_rfl) (by kernel_rfl) (by decide) (by decide) (by decide) (by decide) (nofun) (by kernel_rfl) (rfl)
theorem ty134:TyOk Tryz.prog tab ⟨(.struct [(0,9),(1,3),(2,133)]),3,48,[.str,.int .i64,.nilsl],false⟩ 134:=
 ty_ok (i:=Tryz.t134) (z:=.agg #[.string ⟨#[]⟩,.int .i64 0,.slice none 0 0]) (d:=(.struct (Tryz.prog.fieldsOf 134))) (by kernel_rfl) (by kernel_rfl) (by kernel_rfl) (by kernel_rfl) (by kernel_rfl) (by decide) (by decide) (by decide) (by decide) (nofun) (by kernel_rfl) (⟨_,rfl,by kernel_rfl,by decide⟩)
theorem ty135:TyOk Tryz.prog tab ⟨(.struct [(0,9),(1,3),(2,133)]),3,48,[.str,.int .i64,.nilsl],false⟩ 135:=
 ty_ok (i:=Tryz.t135) (z:=.agg #[.string ⟨#[]⟩,.int .i64 0,.slice none 0 0]) (d:=(.struct (Tryz.prog.fieldsOf 135))) (by kernel_rfl) (by kernel_rfl) (by kernel_rfl) (by kernel_rfl) (by kernel_rfl) (by decide) (by decide) (by decide) (by decide) (nofun) (by kernel_rfl) (⟨_,rfl,by kernel_rfl,by decide⟩)
theorem ty137:TyOk Tryz.prog tab ⟨(.slice 279),1,24,[.nilsl],false⟩ 137:=
 ty_ok (i:=Tryz.t137) (z:=.slice none 0 0) (d:=(.slice 279)) (by kernel_rfl) (by kernel_rfl) (by kernel_rfl) (by kernel_rfl) (by kernel_rfl) (by decide) (by decide) (by decide) (by decide) (nofun) (by kernel_rfl) (rfl)
theorem ty138:TyOk Tryz.prog tab ⟨(.struct [(0,137),(1,111)]),2,48,[.nilsl,.nilsl],false⟩ 138:=
 ty_ok (i:=Tryz.t138) (z:=.agg #[.slice none 0 0,.slice none 0 0]) (d:=(.struct (Tryz.prog.fieldsOf 138))) (by kernel_rfl) (by kernel_rfl) (by kernel_rfl) (by kernel_rfl) (by kernel_rfl) (by decide) (by decide) (by decide) (by decide) (nofun) (by kernel_rfl) (⟨_,rfl,by kernel_rfl,by decide⟩)
theorem ty139:TyOk Tryz.prog tab ⟨(.struct [(0,137),(1,111)]),2,48,[.nilsl,.nilsl],false⟩ 139:=
 ty_ok (i:=Tryz.t139) (z:=.agg #[.slice none 0 0,.slice none 0 0]) (d:=(.struct (Tryz.prog.fieldsOf 139))) (by kernel_rfl) (by kernel_rfl) (by kernel_rfl) (by kernel_rfl) (by kernel_rfl) (by decide) (by decide) (by decide) (by decide) (nofun) (by kernel_rfl) (⟨_,rfl,by kernel_rfl,by decide⟩)
theorem ty140:TyOk Tryz.prog tab ⟨(.slice 154),1,24,[.nilsl],false⟩ 140:=
 ty_ok (i:=Tryz.t140) (z:=.slice none 0 0) (d:=(.slice 154)) (by kernel_rfl) (by kernel_rfl) (by kernel_rfl) (by kernel_rfl) (by kernel_rfl) (by decide) (by decide) (by decide) (by decide) (nofun) (by kernel_rfl) (rfl)
theorem ty141:TyOk Tryz.prog tab ⟨(.struct [(0,9),(1,3),(2,140)]),3,48,[.str,.int .i64,.nilsl],false⟩ 141:=
 ty_ok (i:=Tryz.t141) (z:=.agg #[.string ⟨#[]⟩,.int .i64 0,.slice none 0 0]) (d:=(.struct (Tryz.prog.fieldsOf 141))) (by kernel_rfl) (by kernel_rfl) (by kernel_rfl) (by kernel_rfl) (by kernel_rfl) (by decide) (by decide) (by decide) (by decide) (nofun) (by kernel_rfl) (⟨_,rfl,by kernel_rfl,by decide⟩)
theorem ty142:TyOk Tryz.prog tab ⟨(.struct [(0,9),(1,3),(2,140)]),3,48,[.str,.int .i64,.nilsl],false⟩ 142:=
 ty_ok (i:=Tryz.t142) (z:=.agg #[.string ⟨#[]⟩,.int .i64 0,.slice none 0 0]) (d:=(.struct (Tryz.prog.fieldsOf 142))) (by kernel_rfl) (by kernel_rfl) (by kernel_rfl) (by kernel_rfl) (by kernel_rfl) (by decide) (by decide) (by decide) (by decide) (nofun) (by kernel_rfl) (⟨_,rfl,by kernel_rfl,by decide⟩)
theorem ty145:TyOk Tryz.prog tab ⟨(.slice 226),1,24,[.nilsl],false⟩ 145:=
 ty_ok (i:=Tryz.t145) (z:=.slice none 0 0) (d:=(.slice 226)) (by kernel_rfl) (by kernel_rfl) (by kernel_rfl) (by kernel_rfl) (by kernel_rfl) (by decide) (by decide) (by decide) (by decide) (nofun) (by kernel_rfl) (rfl)
theorem ty146:TyOk Tryz.prog tab ⟨(.struct [(0,145),(1,111)]),2,48,[.nilsl,.nilsl],false⟩ 146:=
 ty_ok (i:=Tryz.t146) (z:=.agg #[.slice none 0 0,.slice none 0 0]) (d:=(.struct (Tryz.prog.fieldsOf 146))) (by kernel_rfl) (by kernel_rfl) (by kernel_rfl) (by kernel_rfl) (by kernel_rfl) (by decide) (by decide) (by decide) (by decide) (nofun) (by kernel_rfl) (⟨_,rfl,by kernel_rfl,by decide⟩)
theorem ty147:TyOk Tryz.prog tab ⟨(.struct [(0,145),(1,111)]),2,48,[.nilsl,.nilsl],false⟩ 147:=
 ty_ok (i:=Tryz.t147) (z:=.agg #[.slice none 0 0,.slice none 0 0]) (d:=(.struct (Tryz.prog.fieldsOf 147))) (by kernel_rfl) (by kernel_rfl) (by kernel_rfl) (by kernel_rfl) (by kernel_rfl) (by decide) (by decide) (by decide) (by decide) (nofun) (by kernel_rfl) (⟨_,rfl,by kernel_rfl,by decide⟩)
theorem eqn150:∀f∈Tryz.prog.fieldsOf 150,f.name≠ "_" :=by
 have h:((Tryz.prog.fieldsOf 150).toList.all fun f=>f.name != "_")=true:=by kernel_rfl
 intro f hf
 have:=List.all_eq_true.1 h f (by simpa using hf)
 simpa using this
theorem ty150:TyOk Tryz.prog tab ⟨(.struct [(0,3),(1,3),(2,4),(3,3)]),4,32,[.int .i64,.int .i64,.bool,.int .i64],true⟩ 150:=
 ty_ok (i:=Tryz.t150) (z:=.agg #[.int .i64 0,.int .i64 0,.bool false,.int .i64 0]) (d:=(.struct (Tryz.prog.fieldsOf 150))) (by kernel_rfl) (by kernel_rfl) (by kernel_rfl) (by kernel_rfl) (by kernel_rfl) (by decide) (by decide) (by decide) (by decide) (fun _=>⟨by kernel_rfl,by kernel_rfl,eqn150⟩) (by kernel_rfl) (⟨_,rfl,by kernel_rfl,by decide⟩)
theorem ty154:TyOk Tryz.prog tab ⟨(.struct [(0,3),(1,25),(2,25)]),3,56,[.int .i64,.nilsl,.nilsl],false⟩ 154:=
 ty_ok (i:=Tryz.t154) (z:=.agg #[.int .i64 0,.slice none 0 0,.slice none 0 0]) (d:=(.struct (Tryz.prog.fieldsOf 154))) (by kernel_rfl) (by kernel_rfl) (by kernel_rfl) (by kernel_rfl) (by kernel_rfl) (by decide) (by decide) (by decide) (by decide) (nofun) (by kernel_rfl) (⟨_,rfl,by kernel_rfl,by decide⟩)
theorem eqn158:∀f∈Tryz.prog.fieldsOf 158,f.name≠ "_" :=by
 have h:((Tryz.prog.fieldsOf 158).toList.all fun f=>f.name != "_")=true:=by kernel_rfl
 intro f hf
 have:=List.all_eq_true.1 h f (by simpa using hf)
 simpa using this
theorem ty158:TyOk Tryz.prog tab ⟨(.struct [(0,3),(1,3),(2,4),(3,3)]),4,32,[.int .i64,.int .i64,.bool,.int .i64],true⟩ 158:=
 ty_ok (i:=Tryz.t158) (z:=.agg #[.int .i64 0,.int .i64 0,.bool false,.int .i64 0]) (d:=(.struct (Tryz.prog.fieldsOf 158))) (by kernel_rfl) (by kernel_rfl) (by kernel_rfl) (by kernel_rfl) (by kernel_rfl) (by decide) (by decide) (by decide) (by decide) (fun _=>⟨by kernel_rfl,by kernel_rfl,eqn158⟩) (by kernel_rfl) (⟨_,rfl,by kernel_rfl,by decide⟩)
theorem ty177:TyOk Tryz.prog tab ⟨(.slice 126),1,24,[.nilsl],false⟩ 177:=
 ty_ok (i:=Tryz.t177) (z:=.slice none 0 0) (d:=(.slice 126)) (by kernel_rfl) (by kernel_rfl) (by kernel_rfl) (by kernel_rfl) (by kernel_rfl) (by decide) (by decide) (by decide) (by decide) (nofun) (by kernel_rfl) (rfl)
theorem eqn184:∀f∈Tryz.prog.fieldsOf 184,f.name≠ "_" :=by
 have h:((Tryz.prog.fieldsOf 184).toList.all fun f=>f.name != "_")=true:=by kernel_rfl
 intro f hf
 have:=List.all_eq_true.1 h f (by simpa using hf)
 simpa using this
theorem ty184:TyOk Tryz.prog tab ⟨(.struct [(0,3),(1,3),(2,3)]),3,24,[.int .i64,.int .i64,.int .i64],true⟩ 184:=
 ty_ok (i:=Tryz.t184) (z:=.agg #[.int .i64 0,.int .i64 0,.int .i64 0]) (d:=(.struct (Tryz.prog.fieldsOf 184))) (by kernel_rfl) (by kernel_rfl) (by kernel_rfl) (by kernel_rfl) (by kernel_rfl) (by decide) (by decide) (by decide) (by decide) (fun _=>⟨by kernel_rfl,by kernel_rfl,eqn184⟩) (by kernel_rfl) (⟨_,rfl,by kernel_rfl,by decide⟩)
theorem ty185:TyOk Tryz.prog tab ⟨(.struct [(0,184),(3,126),(7,114)]),8,80,[.int .i64,.int .i64,.int .i64,.int .i64,.int .i64,.int .i64,.int .i64,.nilsl],false⟩ 185:=
 ty_ok (i:=Tryz.t185) (z:=.agg #[.int .i64 0,.int .i64 0,.int .i64 0,.int .i64 0,.int .i64 0,.int .i64 0,.int .i64 0,.slice none 0 0]) (d:=(.struct (Tryz.prog.fieldsOf 185))) (by kernel_rfl) (by kernel_rfl) (by kernel_rfl) (by kernel_rfl) (by kernel_rfl) (by decide) (by decide) (by decide) (by decide) (nofun) (by kernel_rfl) (⟨_,rfl,by kernel_rfl,by decide⟩)
theorem ty186:TyOk Tryz.prog tab ⟨(.struct [(0,184),(3,126),(7,114)]),8,80,[.int .i64,.int .i64,.int .i64,.int .i64,.int .i64,.int .i64,.int .i64,.nilsl],false⟩ 186:=
 ty_ok (i:=Tryz.t186) (z:=.agg #[.int .i64 0,.int .i64 0,.int .i64 0,.int .i64 0,.int .i64 0,.int .i64 0,.int .i64 0,.slice none 0 0]) (d:=(.struct (Tryz.prog.fieldsOf 186))) (by kernel_rfl) (by kernel_rfl) (by kernel_rfl) (by kernel_rfl) (by kernel_rfl) (by decide) (by decide) (by decide) (by decide) (nofun) (by kernel_rfl) (⟨_,rfl,by kernel_rfl,by decide⟩)
theorem ty224:TyOk Tryz.prog tab ⟨(.slice 5),1,24,[.nilsl],false⟩ 224:=
 ty_ok (i:=Tryz.t224) (z:=.slice none 0 0) (d:=(.slice 5)) (by kernel_rfl) (by kernel_rfl) (by kernel_rfl) (by kernel_rfl) (by kernel_rfl) (by decide) (by decide) (by decide) (by decide) (nofun) (by kernel_rfl) (rfl)
theorem eqn226:∀f∈Tryz.prog.fieldsOf 226,f.name≠ "_" :=by
 have h:((Tryz.prog.fieldsOf 226).toList.all fun f=>f.name != "_")=true:=by kernel_rfl
 intro f hf
 have:=List.all_eq_true.1 h f (by simpa using hf)
 simpa using this
theorem ty226:TyOk Tryz.prog tab ⟨(.struct [(0,3),(1,3)]),2,16,[.int .i64,.int .i64],true⟩ 226:=
 ty_ok (i:=Tryz.t226) (z:=.agg #[.int .i64 0,.int .i64 0]) (d:=(.struct (Tryz.prog.fieldsOf 226))) (by kernel_rfl) (by kernel_rfl) (by kernel_rfl) (by kernel_rfl) (by kernel_rfl) (by decide) (by decide) (by decide) (by decide) (fun _=>⟨by kernel_rfl,by kernel_rfl,eqn226⟩) (by kernel_rfl) (⟨_,rfl,by kernel_rfl,by decide⟩)
theorem ty264:TyOk Tryz.prog tab ⟨(.slice 114),1,24,[.nilsl],false⟩ 264:=
 ty_ok (i:=Tryz.t264) (z:=.slice none 0 0) (d:=(.slice 114)) (by kernel_rfl) (by kernel_rfl) (by kernel_rfl) (by kernel_rfl) (by kernel_rfl) (by decide) (by decide) (by decide) (by decide) (nofun) (by kernel_rfl) (rfl)
theorem ty275:TyOk Tryz.prog tab ⟨(.struct [(0,3),(1,25),(2,25)]),3,56,[.int .i64,.nilsl,.nilsl],false⟩ 275:=
 ty_ok (i:=Tryz.t275) (z:=.agg #[.int .i64 0,.slice none 0 0,.slice none 0 0]) (d:=(.struct (Tryz.prog.fieldsOf 275))) (by kernel_rfl) (by kernel_rfl) (by kernel_rfl) (by kernel_rfl) (by kernel_rfl) (by decide) (by decide) (by decide) (by decide) (nofun) (by kernel_rfl) (⟨_,rfl,by kernel_rfl,by decide⟩)
theorem eqn279:∀f∈Tryz.prog.fieldsOf 279,f.name≠ "_" :=by
 have h:((Tryz.prog.fieldsOf 279).toList.all fun f=>f.name != "_")=true:=by kernel_rfl
 intro f hf
 have:=List.all_eq_true.1 h f (by simpa using hf)
 simpa using this
theorem ty279:TyOk Tryz.prog tab ⟨(.struct [(0,3),(1,3)]),2,16,[.int .i64,.int .i64],true⟩ 279:=
 ty_ok (i:=Tryz.t279) (z:=.agg #[.int .i64 0,.int .i64 0]) (d:=(.struct (Tryz.prog.fieldsOf 279))) (by kernel_rfl) (by kernel_rfl) (by kernel_rfl) (by kernel_rfl) (by kernel_rfl) (by decide) (by decide) (by decide) (by decide) (fun _=>⟨by kernel_rfl,by kernel_rfl,eqn279⟩) (by kernel_rfl) (⟨_,rfl,by kernel_rfl,by decide⟩)
theorem ty346:TyOk Tryz.prog tab ⟨(.slice 108),1,24,[.nilsl],false⟩ 346:=
 ty_ok (i:=Tryz.t346) (z:=.slice none 0 0) (d:=(.slice 108)) (by kernel_rfl) (by kernel_rfl) (by kernel_rfl) (by kernel_rfl) (by kernel_rfl) (by decide) (by decide) (by decide) (by decide) (nofun) (by kernel_rfl) (rfl)
theorem tabOk:TabOk Tryz.prog tab:=tab_ok ⟨ty116,⟨ty35,⟨ty24,⟨ty5,⟨ty3,⟨ty2,trivial,trivial⟩,⟨ty4,trivial,trivial⟩⟩,⟨ty22,⟨ty9,trivial,trivial⟩,⟨ty23,trivial,trivial⟩⟩⟩,⟨ty30,⟨ty26,⟨ty25,trivial,trivial⟩,⟨ty27,trivial,trivial⟩⟩,⟨ty34,⟨ty33,trivial,trivial⟩,trivial⟩⟩⟩,⟨ty72,⟨ty49,⟨ty37,⟨ty36,trivial,trivial⟩,⟨ty47,trivial,trivial⟩⟩,⟨ty61,⟨ty53,trivial,trivial⟩,trivial⟩⟩,⟨ty113,⟨ty108,⟨ty73,trivial,trivial⟩,⟨ty111,trivial,trivial⟩⟩,⟨ty115,⟨ty114,trivial,trivial⟩,trivial⟩⟩⟩⟩,⟨ty147,⟨ty138,⟨ty133,⟨ty127,⟨ty126,trivial,trivial⟩,⟨ty128,trivial,trivial⟩⟩,⟨ty135,⟨ty134,trivial,trivial⟩,⟨ty137,trivial,trivial⟩⟩⟩,⟨ty142,⟨ty140,⟨ty139,trivial,trivial⟩,⟨ty141,trivial,trivial⟩⟩,⟨ty146,⟨ty145,trivial,trivial⟩,trivial⟩⟩⟩,⟨ty186,⟨ty177,⟨ty154,⟨ty150,trivial,trivial⟩,⟨ty158,trivial,trivial⟩⟩,⟨ty185,⟨ty184,trivial,trivial⟩,trivial⟩⟩,⟨ty275,⟨ty226,⟨ty224,trivial,trivial⟩,⟨ty264,trivial,trivial⟩⟩,⟨ty346,⟨ty279,trivial,trivial⟩,trivial⟩⟩⟩⟩⟩
end Go.Proofs.YtkiohdpapinecaaGreat.Abs
