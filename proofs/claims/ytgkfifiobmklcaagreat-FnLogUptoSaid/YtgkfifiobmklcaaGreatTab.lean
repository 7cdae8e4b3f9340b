/- The table of the types of this seat: what the abstract layer must know of them, by closed facts. Printed by gentab.py. -/
import Derived.Test.YtgkfifiobmklcaaGreatPlain
import Derived.Test.YtgkfifiobmklcaaGreatProg
import Derived.KernelRfl
set_option linter.all false
namespace Go.Proofs.YtgkfifiobmklcaaGreat.Abs
open Go.Proofs
def tree:Tree:=(.node 41 ⟨(.struct [(0,3),(1,3),(2,3),(3,3)]),4,32,[.int .i64,.int .i64,.int .i64,.int .i64],true⟩ (.node 26 ⟨(.slice 3),1,24,[.ah],false⟩ (.node 9 ⟨.str,1,16,[.str],false⟩ (.node 4 ⟨.bool,1,1,[.bool],false⟩ (.node 3 ⟨(.int .i64),1,8,[.int .i64],false⟩ (.node 2 ⟨(.int .i64),1,8,[.int .i64],false⟩ .leaf .leaf) .leaf) (.node 5 ⟨(.int .u8),1,1,[.int .u8],false⟩ .leaf .leaf)) (.node 24 ⟨(.slice 136),1,24,[.ah],false⟩ (.node 23 ⟨(.slice 133),1,24,[.ah],false⟩ (.node 22 ⟨(.slice 5),1,24,[.ah],false⟩ .leaf .leaf) .leaf) (.node 25 ⟨(.slice 128),1,24,[.ah],false⟩ .leaf .leaf))) (.node 33 ⟨(.slice 39),1,24,[.ah],false⟩ (.node 30 ⟨(.slice 26),1,24,[.ah],false⟩ (.node 28 ⟨(.struct [(0,3),(1,23),(2,24),(3,25),(4,26)]),5,104,[.int .i64,.ah,.ah,.ah,.ah],false⟩ (.node 27 ⟨(.struct [(0,3),(1,23),(2,24),(3,25),(4,26)]),5,104,[.int .i64,.ah,.ah,.ah,.ah],false⟩ .leaf .leaf) .leaf) (.node 32 ⟨(.struct [(0,26),(1,26),(2,30)]),3,72,[.ah,.ah,.ah],false⟩ .leaf .leaf)) (.node 36 ⟨(.struct [(0,28),(5,32),(8,33),(9,34)]),10,224,[.int .i64,.ah,.ah,.ah,.ah,.ah,.ah,.ah,.ah,.ah],false⟩ (.node 35 ⟨(.struct [(0,28),(5,32),(8,33),(9,34)]),10,224,[.int .i64,.ah,.ah,.ah,.ah,.ah,.ah,.ah,.ah,.ah],false⟩ (.node 34 ⟨(.slice 60),1,24,[.ah],false⟩ .leaf .leaf) .leaf) (.node 39 ⟨(.struct [(0,3),(1,3),(2,3)]),3,24,[.int .i64,.int .i64,.int .i64],true⟩ .leaf .leaf)))) (.node 125 ⟨(.slice 146),1,24,[.ah],false⟩ (.node 61 ⟨(.slice 64),1,24,[.ah],false⟩ (.node 59 ⟨(.struct [(0,3),(1,41),(5,33)]),6,64,[.int .i64,.int .i64,.int .i64,.int .i64,.int .i64,.ah],false⟩ (.node 43 ⟨(.struct [(0,39),(3,41),(7,33)]),8,80,[.int .i64,.int .i64,.int .i64,.int .i64,.int .i64,.int .i64,.int .i64,.ah],false⟩ (.node 42 ⟨(.struct [(0,39),(3,41),(7,33)]),8,80,[.int .i64,.int .i64,.int .i64,.int .i64,.int .i64,.int .i64,.int .i64,.ah],false⟩ .leaf .leaf) .leaf) (.node 60 ⟨(.struct [(0,3),(1,41),(5,33)]),6,64,[.int .i64,.int .i64,.int .i64,.int .i64,.int .i64,.ah],false⟩ .leaf .leaf)) (.node 81 ⟨(.slice 41),1,24,[.ah],false⟩ (.node 78 ⟨(.struct [(0,22),(1,3),(2,3)]),3,40,[.ah,.int .i64,.int .i64],false⟩ (.node 64 ⟨(.struct [(0,26),(1,26)]),2,48,[.ah,.ah],false⟩ .leaf .leaf) .leaf) (.node 100 ⟨(.slice 33),1,24,[.ah],false⟩ .leaf .leaf))) (.node 133 ⟨(.struct [(0,9),(1,3),(2,131)]),3,48,[.str,.int .i64,.ah],false⟩ (.node 131 ⟨(.slice 191),1,24,[.ah],false⟩ (.node 128 ⟨(.struct [(0,125),(1,30)]),2,48,[.ah,.ah],false⟩ (.node 127 ⟨(.struct [(0,125),(1,30)]),2,48,[.ah,.ah],false⟩ .leaf .leaf) .leaf) (.node 132 ⟨(.struct [(0,9),(1,3),(2,131)]),3,48,[.str,.int .i64,.ah],false⟩ .leaf .leaf)) (.node 191 ⟨(.struct [(0,3),(1,26),(2,26)]),3,56,[.int .i64,.ah,.ah],false⟩ (.node 146 ⟨(.struct [(0,3),(1,3)]),2,16,[.int .i64,.int .i64],true⟩ (.node 136 ⟨(.struct [(0,3),(1,3),(2,4),(3,3)]),4,32,[.int .i64,.int .i64,.bool,.int .i64],true⟩ .leaf .leaf) .leaf) (.node 232 ⟨(.slice 9),1,24,[.ah],false⟩ .leaf .leaf)))))
def tab:Nat→Ty:=tree.find
theorem ty2:jF Tryz.prog tab ⟨(.int .i64),1,8,[.int .i64],false⟩ 2:=
 fP (i:=Tryz.t2) (z:=.int .i64 0) (d:=(.int .i64)) (by kernel_rfl) (by kernel_rfl) (by kernel_rfl) (by kernel_rfl) (by kernel_rfl) (by decide) (by decide) (by decide) (by decide) (nofun) (by kernel_rfl) (rfl)
theorem ty3:jF Tryz.prog tab ⟨(.int .i64),1,8,[.int .i64],false⟩ 3:=
 fP (i:=Tryz.t3) (z:=.int .i64 0) (d:=(.int .i64)) (by kernel_rfl) (by kernel_rfl) (by kernel_rfl) (by kernel_rfl) (by kernel_rfl) (by decide) (by decide) (by decide) (by decide) (nofun) (by kernel_rfl) (rfl)
theorem ty4:jF Tryz.prog tab ⟨.bool,1,1,[.bool],false⟩ 4:=
 fP (i:=Tryz.t4) (z:=.bool false) (d:=.bool) (by kernel_rfl) (by kernel_rfl) (by kernel_rfl) (by kernel_rfl) (by kernel_rfl) (by decide) (by decide) (by decide) (by decide) (nofun) (by kernel_rfl) (rfl)
theorem ty5:jF Tryz.prog tab ⟨(.int .u8),1,1,[.int .u8],false⟩ 5:=
 fP (i:=Tryz.t5) (z:=.int .u8 0) (d:=(.int .u8)) (by kernel_rfl) (by kernel_rfl) (by kernel_rfl) (by kernel_rfl) (by kernel_rfl) (by decide) (by decide) (by decide) (by decide) (nofun) (by kernel_rfl) (rfl)
theorem ty9:jF Tryz.prog tab ⟨.str,1,16,[.str],false⟩ 9:=
 fP (i:=Tryz.t9) (z:=.string ⟨#[]⟩) (d:=.string) (by kernel_rfl) (by kernel_rfl) (by kernel_rfl) (by kernel_rfl) (by kernel_rfl) (by decide) (by decide) (by decide) (by decide) (nofun) (by kernel_rfl) (rfl)
theorem aeA:jF Tryz.prog tab ⟨(.slice 5),1,24,[.ah],false⟩ 22:=
 fP (i:=Tryz.t22) (z:=.slice none 0 0) (d:=(.slice 5)) (by kernel_rfl) (by kernel_rfl) (by kernel_rfl) (by kernel_rfl) (by kernel_rfl) (by decide) (by decide) (by decide) (by decide) (nofun) (by kernel_rfl) (rfl)
theorem aeB:jF Tryz.prog tab ⟨(.slice 133),1,24,[.ah],false⟩ 23:=
 fP (i:=Tryz.t23) (z:=.slice none 0 0) (d:=(.slice 133)) (by kernel_rfl) (by kernel_rfl) (by kernel_rfl) (by kernel_rfl) (by kernel_rfl) (by decide) (by decide) (by decide) (by decide) (nofun) (by kernel_rfl) (rfl)
theorem aeC:jF Tryz.prog tab ⟨(.slice 136),1,24,[.ah],false⟩ 24:=
 fP (i:=Tryz.t24) (z:=.slice none 0 0) (d:=(.slice 136)) (by kernel_rfl) (by kernel_rfl) (by kernel_rfl) (by kernel_rfl) (by kernel_rfl) (by decide) (by decide) (by decide) (by decide) (nofun) (by kernel_rfl) (rfl)
theorem aeD:jF Tryz.prog tab ⟨(.slice 128),1,24,[.ah],false⟩ 25:=
 fP (i:=Tryz.t25) (z:=.slice none 0 0) (d:=(.slice 128)) (by kernel_rfl) (by kernel_rfl) (by kernel_rfl) (by kernel_rfl) (by kernel_rfl) (by decide) (by decide) (by decide) (by decide) (nofun) (by kernel_rfl) (rfl)
theorem aeE:jF Tryz.prog tab ⟨(.slice 3),1,24,[.ah],false⟩ 26:=
 fP (i:=Tryz.t26) (z:=.slice none 0 0) (d:=(.slice 3)) (by kernel_rfl) (by kernel_rfl) (by kernel_rfl) (by kernel_rfl) (by kernel_rfl) (by decide) (by decide) (by decide) (by decide) (nofun) (by kernel_rfl) (rfl)
theorem aeF:jF Tryz.prog tab ⟨(.struct [(0,3),(1,23),(2,24),(3,25),(4,26)]),5,104,[.int .i64,.ah,.ah,.ah,.ah],false⟩ 27:=
 fP (i:=Tryz.t27) (z:=.agg #[.int .i64 0,.slice none 0 0,.slice none 0 0,.slice none 0 0,.slice none 0 0]) (d:=(.struct (Tryz.prog.fieldsOf 27))) (by kernel_rfl) (by kernel_rfl) (by kernel_rfl) (by kernel_rfl) (by kernel_rfl) (by decide) (by decide) (by decide) (by decide) (nofun) (by kernel_rfl) (⟨_,rfl,by kernel_rfl,by decide⟩)
theorem aeG:jF Tryz.prog tab ⟨(.struct [(0,3),(1,23),(2,24),(3,25),(4,26)]),5,104,[.int .i64,.ah,.ah,.ah,.ah],false⟩ 28:=
 fP (i:=Tryz.t28) (z:=.agg #[.int .i64 0,.slice none 0 0,.slice none 0 0,.slice none 0 0,.slice none 0 0]) (d:=(.struct (Tryz.prog.fieldsOf 28))) (by kernel_rfl) (by kernel_rfl) (by kernel_rfl) (by kernel_rfl) (by kernel_rfl) (by decide) (by decide) (by decide) (by decide) (nofun) (by kernel_rfl) (⟨_,rfl,by kernel_rfl,by decide⟩)
theorem aeH:jF Tryz.prog tab ⟨(.slice 26),1,24,[.ah],false⟩ 30:=
 fP (i:=Tryz.t30) (z:=.slice none 0 0) (d:=(.slice 26)) (by kernel_rfl) (by kernel_rfl) (by kernel_rfl) (by kernel_rfl) (by kernel_rfl) (by decide) (by decide) (by decide) (by decide) (nofun) (by kernel_rfl) (rfl)
theorem aeI:jF Tryz.prog tab ⟨(.struct [(0,26),(1,26),(2,30)]),3,72,[.ah,.ah,.ah],false⟩ 32:=
 fP (i:=Tryz.t32) (z:=.agg #[.slice none 0 0,.slice none 0 0,.slice none 0 0]) (d:=(.struct (Tryz.prog.fieldsOf 32))) (by kernel_rfl) (by kernel_rfl) (by kernel_rfl) (by kernel_rfl) (by kernel_rfl) (by decide) (by decide) (by decide) (by decide) (nofun) (by kernel_rfl) (⟨_,rfl,by kernel_rfl,by decide⟩)
theorem aeJ:jF Tryz.prog tab ⟨(.slice 39),1,24,[.ah],false⟩ 33:=
 fP (i:=Tryz.t33) (z:=.slice none 0 0) (d:=(.slice 39)) (by kernel_rfl) (by kernel_rfl) (by kernel_rfl) (by kernel_rfl) (by kernel_rfl) (by decide) (by decide) (by decide) (by decide) (nofun) (by kernel_rfl) (rfl)
theorem aeK:jF Tryz.prog tab ⟨(.slice 60),1,24,[.ah],false⟩ 34:=
 fP (i:=Tryz.t34) (z:=.slice none 0 0) (d:=(.slice 60)) (by kernel_rfl) (by kernel_rfl) (by kernel_rfl) (by kernel_rfl) (by kernel_rfl) (by decide) (by decide) (by decide) (by decide) (nofun) (by kernel_rfl) (rfl)
theorem aeL:jF Tryz.prog tab ⟨(.struct [(0,28),(5,32),(8,33),(9,34)]),10,224,[.int .i64,.ah,.ah,.ah,.ah,.ah,.ah,.ah,.ah,.ah],false⟩ 35:=
 fP (i:=Tryz.t35) (z:=.agg #[.int .i64 0,.slice none 0 0,.slice none 0 0,.slice none 0 0,.slice none 0 0,.slice none 0 0,.slice none 0 0,.slice none 0 0,.slice none 0 0,.slice none 0 0]) (d:=(.struct (Tryz.prog.fieldsOf 35))) (by kernel_rfl) (by kernel_rfl) (by kernel_rfl) (by kernel_rfl) (by kernel_rfl) (by decide) (by decide) (by decide) (by decide) (nofun) (by kernel_rfl) (⟨_,rfl,by kernel_rfl,by decide⟩)
theorem aeM:jF Tryz.prog tab ⟨(.struct [(0,28),(5,32),(8,33),(9,34)]),10,224,[.int .i64,.ah,.ah,.ah,.ah,.ah,.ah,.ah,.ah,.ah],false⟩ 36:=
 fP (i:=Tryz.t36) (z:=.agg #[.int .i64 0,.slice none 0 0,.slice none 0 0,.slice none 0 0,.slice none 0 0,.slice none 0 0,.slice none 0 0,.slice none 0 0,.slice none 0 0,.slice none 0 0]) (d:=(.struct (Tryz.prog.fieldsOf 36))) (by kernel_rfl) (by kernel_rfl) (by kernel_rfl) (by kernel_rfl) (by kernel_rfl) (by decide) (by decide) (by decide) (by decide) (nofun) (by kernel_rfl) (⟨_,rfl,by kernel_rfl,by decide⟩)
theorem adJ:∀f∈Tryz.prog.fieldsOf 39,f.name≠ "_" :=by
 have h:((Tryz.prog.fieldsOf 39).toList.all fun f=>f.name != "_")=true:=by kernel_rfl
 intro f hf
 have:=List.all_eq_true.1 h f (by simpa using hf)
 simpa using this
theorem aeN:jF Tryz.prog tab ⟨(.struct [(0,3),(1,3),(2,3)]),3,24,[.int .i64,.int .i64,.int .i64],true⟩ 39:=
 fP (i:=Tryz.t39) (z:=.agg #[.int .i64 0,.int .i64 0,.int .i64 0]) (d:=(.struct (Tryz.prog.fieldsOf 39))) (by kernel_rfl) (by kernel_rfl) (by kernel_rfl) (by kernel_rfl) (by kernel_rfl) (by decide) (by decide) (by decide) (by decide) (fun _=>⟨by kernel_rfl,by kernel_rfl,adJ⟩) (by kernel_rfl) (⟨_,rfl,by kernel_rfl,by decide⟩)
theorem adK:∀f∈Tryz.prog.fieldsOf 41,f.name≠ "_" :=by
 have h:((Tryz.prog.fieldsOf 41).toList.all fun f=>f.name != "_")=true:=by kernel_rfl
 intro f hf
 have:=List.all_eq_true.1 h f (by simpa using hf)
 simpa using this
theorem aeO:jF Tryz.prog tab ⟨(.struct [(0,3),(1,3),(2,3),(3,3)]),4,32,[.int .i64,.int .i64,.int .i64,.int .i64],true⟩ 41:=
 fP (i:=Tryz.t41) (z:=.agg #[.int .i64 0,.int .i64 0,.int .i64 0,.int .i64 0]) (d:=(.struct (Tryz.prog.fieldsOf 41))) (by kernel_rfl) (by kernel_rfl) (by kernel_rfl) (by kernel_rfl) (by kernel_rfl) (by decide) (by decide) (by decide) (by decide) (fun _=>⟨by kernel_rfl,by kernel_rfl,adK⟩) (by kernel_rfl) (⟨_,rfl,by kernel_rfl,by decide⟩)
theorem aeP:jF Tryz.prog tab ⟨(.struct [(0,39),(3,41),(7,33)]),8,80,[.int .i64,.int .i64,.int .i64,.int .i64,.int .i64,.int .i64,.int .i64,.ah],false⟩ 42:=
 fP (i:=Tryz.t42) (z:=.agg #[.int .i64 0,.int .i64 0,.int .i64 0,.int .i64 0,.int .i64 0,.int .i64 0,.int .i64 0,.slice none 0 0]) (d:=(.struct (Tryz.prog.fieldsOf 42))) (by kernel_rfl) (by kernel_rfl) (by kernel_rfl) (by kernel_rfl) (by kernel_rfl) (by decide) (by decide) (by decide) (by decide) (nofun) (by kernel_rfl) (⟨_,rfl,by kernel_rfl,by decide⟩)
theorem aeQ:jF Tryz.prog tab ⟨(.struct [(0,39),(3,41),(7,33)]),8,80,[.int .i64,.int .i64,.int .i64,.int .i64,.int .i64,.int .i64,.int .i64,.ah],false⟩ 43:=
 fP (i:=Tryz.t43) (z:=.agg #[.int .i64 0,.int .i64 0,.int .i64 0,.int .i64 0,.int .i64 0,.int .i64 0,.int .i64 0,.slice none 0 0]) (d:=(.struct (Tryz.prog.fieldsOf 43))) (by kernel_rfl) (by kernel_rfl) (by kernel_rfl) (by kernel_rfl) (by kernel_rfl) (by decide) (by decide) (by decide) (by decide) (nofun) (by kernel_rfl) (⟨_,rfl,by kernel_rfl,by decide⟩)
theorem aeR:jF Tryz.prog tab ⟨(.struct [(0,3),(1,41),(5,33)]),6,64,[.int .i64,.int .i64,.int .i64,.int .i64,.int .i64,.ah],false⟩ 59:=
 fP (i:=Tryz.t59) (z:=.agg #[.int .i64 0,.int .i64 0,.int .i64 0,.int .i64 0,.int .i64 0,.slice none 0 0]) (d:=(.struct (Tryz.prog.fieldsOf 59))) (by kernel_rfl) (by kernel_rfl) (by kernel_rfl) (by kernel_rfl) (by kernel_rfl) (by decide) (by decide) (by decide) (by decide) (nofun) (by kernel_rfl) (⟨_,rfl,by kernel_rfl,by decide⟩)
theorem aeS:jF Tryz.prog tab ⟨(.struct [(0,3),(1,41),(5,33)]),6,64,[.int .i64,.int .i64,.int .i64,.int .i64,.int .i64,.ah],false⟩ 60:=
 fP (i:=Tryz.t60) (z:=.agg #[.int .i64 0,.int .i64 0,.int .i64 0,.int .i64 0,.int .i64 0,.slice none 0 0]) (d:=(.struct (Tryz.prog.fieldsOf 60))) (by kernel_rfl) (by kernel_rfl) (by kernel_rfl) (by kernel_rfl) (by kernel_rfl) (by decide) (by decide) (by decide) (by decide) (nofun) (by kernel_rfl) (⟨_,rfl,by kernel_rfl,by decide⟩)
theorem aeT:jF Tryz.prog tab ⟨(.slice 64),1,24,[.ah],false⟩ 61:=
 fP (i:=Tryz.t61) (z:=.slice none 0 0) (d:=(.slice 64)) (by kernel_rfl) (by kernel_rfl) (by kernel_rfl) (by kernel_rfl) (by kernel_rfl) (by decide) (by decide) (by decide) (by decide) (nofun) (by kernel_rfl) (rfl)
theorem aeU:jF Tryz.prog tab ⟨(.struct [(0,26),(1,26)]),2,48,[.ah,.ah],false⟩ 64:=
 fP (i:=Tryz.t64) (z:=.agg #[.slice none 0 0,.slice none 0 0]) (d:=(.struct (Tryz.prog.fieldsOf 64))) (by kernel_rfl) (by kernel_rfl) (by kernel_rfl) (by kernel_rfl) (by kernel_rfl) (by decide) (by decide) (by decide) (by decide) (nofun) (by kernel_rfl) (⟨_,rfl,by kernel_rfl,by decide⟩)
theorem aeV:jF Tryz.prog tab ⟨(.struct [(0,22),(1,3),(2,3)]),3,40,[.ah,.int .i64,.int .i64],false⟩ 78:=
 fP (i:=Tryz.t78) (z:=.agg #[.slice none 0 0,.int .i64 0,.int .i64 0]) (d:=(.struct (Tryz.prog.fieldsOf 78))) (by kernel_rfl) (by kernel_rfl) (by kernel_rfl) (by kernel_rfl) (by kernel_rfl) (by decide) (by decide) (by decide) (by decide) (nofun) (by kernel_rfl) (⟨_,rfl,by kernel_rfl,by decide⟩)
theorem aeW:jF Tryz.prog tab ⟨(.slice 41),1,24,[.ah],false⟩ 81:=
 fP (i:=Tryz.t81) (z:=.slice none 0 0) (d:=(.slice 41)) (by kernel_rfl) (by kernel_rfl) (by kernel_rfl) (by kernel_rfl) (by kernel_rfl) (by decide) (by decide) (by decide) (by decide) (nofun) (by kernel_rfl) (rfl)
theorem adL:jF Tryz.prog tab ⟨(.slice 33),1,24,[.ah],false⟩ 100:=
 fP (i:=Tryz.t100) (z:=.slice none 0 0) (d:=(.slice 33)) (by kernel_rfl) (by kernel_rfl) (by kernel_rfl) (by kernel_rfl) (by kernel_rfl) (by decide) (by decide) (by decide) (by decide) (nofun) (by kernel_rfl) (rfl)
theorem adM:jF Tryz.prog tab ⟨(.slice 146),1,24,[.ah],false⟩ 125:=
 fP (i:=Tryz.t125) (z:=.slice none 0 0) (d:=(.slice 146)) (by kernel_rfl) (by kernel_rfl) (by kernel_rfl) (by kernel_rfl) (by kernel_rfl) (by decide) (by decide) (by decide) (by decide) (nofun) (by kernel_rfl) (rfl)
theorem adN:jF Tryz.prog tab ⟨(.struct [(0,125),(1,30)]),2,48,[.ah,.ah],false⟩ 127:=
 fP (i:=Tryz.t127) (z:=.agg #[.slice none 0 0,.slice none 0 0]) (d:=(.struct (Tryz.prog.fieldsOf 127))) (by kernel_rfl) (by kernel_rfl) (by kernel_rfl) (by kernel_rfl) (by kernel_rfl) (by decide) (by decide) (by decide) (by decide) (nofun) (by kernel_rfl) (⟨_,rfl,by kernel_rfl,by decide⟩)
theorem adO:jF Tryz.prog tab ⟨(.struct [(0,125),(1,30)]),2,48,[.ah,.ah],false⟩ 128:=
 fP (i:=Tryz.t128) (z:=.agg #[.slice none 0 0,.slice none 0 0]) (d:=(.struct (Tryz.prog.fieldsOf 128))) (by kernel_rfl) (by kernel_rfl) (by kernel_rfl) (by kernel_rfl) (by kernel_rfl) (by decide) (by decide) (by decide) (by decide) (nofun) (by kernel_rfl) (⟨_,rfl,by kernel_rfl,by decide⟩)
theorem adP:jF Tryz.prog tab ⟨(.slice 191),1,24,[.ah],false⟩ 131:=
 fP (i:=Tryz.t131) (z:=.slice none 0 0) (d:=(.slice 191)) (by kernel_rfl) (by kernel_rfl) (by kernel_rfl) (by kernel_rfl) (by kernel_rfl) (by decide) (by decide) (by decide) (by decide) (nofun) (by kernel_rfl) (rfl)
theorem adQ:jF Tryz.prog tab ⟨(.struct [(0,9),(1,3),(2,131)]),3,48,[.str,.int .i64,.ah],false⟩ 132:=
 fP (i:=Tryz.t132) (z:=.agg #[.string ⟨#[]⟩,.int .i64 0,.slice none 0 0]) (d:=(.struct (Tryz.prog.fieldsOf 132))) (by kernel_rfl) (by kernel_rfl) (by kernel_rfl) (by kernel_rfl) (by kernel_rfl) (by decide) (by decide) (by decide) (by decide) (nofun) (by kernel_rfl) (⟨_,rfl,by kernel_rfl,by decide⟩)
theorem adR:jF Tryz.prog tab ⟨(.struct [(0,9),(1,3),(2,131)]),3,48,[.str,.int .i64,.ah],false⟩ 133:=
 fP (i:=Tryz.t133) (z:=.agg #[.string ⟨#[]⟩,.int .i64 0,.slice none 0 0]) (d:=(.struct (Tryz.prog.fieldsOf 133))) (by kernel_rfl) (by kernel_rfl) (by kernel_rfl) (by kernel_rfl) (by kernel_rfl) (by decide) (by decide) (by decide) (by decide) (nofun) (by kernel_rfl) (⟨_,rfl,by kernel_rfl,by decide⟩)
theorem acF:∀f∈Tryz.prog.fieldsOf 136,f.name≠ "_" :=by
 have h:((Tryz.prog.fieldsOf 136).toList.all fun f=>f.name != "_")=true:=by kernel_rfl
 intro f hf
 have:=List.all_eq_true.1 h f (by simpa using hf)
 simpa using this
theorem adS:jF Tryz.prog tab ⟨(.struct [(0,3),(1,3),(2,4),(3,3)]),4,32,[.int .i64,.int .i64,.bool,.int .i64],true⟩ 136:=
 fP (i:=Tryz.t136) (z:=.agg #[.int .i64 0,.int .i64 0,.bool false,.int .i64 0]) (d:=(.struct (Tryz.prog.fieldsOf 136))) (by kernel_rfl) (by kernel_rfl) (by kernel_rfl) (by kernel_rfl) (by kernel_rfl) (by decide) (by decide) (by decide) (by decide) (fun _=>⟨by kernel_rfl,by kernel_rfl,acF⟩) (by kernel_rfl) (⟨_,rfl,by kernel_rfl,by decide⟩)
theorem acG:∀f∈Tryz.prog.fieldsOf 146,f.name≠ "_" :=by
 have h:((Tryz.prog.fieldsOf 146).toList.all fun f=>f.name != "_")=true:=by kernel_rfl
 intro f hf
 have:=List.all_eq_true.1 h f (by simpa using hf)
 simpa using this
theorem adT:jF Tryz.prog tab ⟨(.struct [(0,3),(1,3)]),2,16,[.int .i64,.int .i64],true⟩ 146:=
 fP (i:=Tryz.t146) (z:=.agg #[.int .i64 0,.int .i64 0]) (d:=(.struct (Tryz.prog.fieldsOf 146))) (by kernel_rfl) (by kernel_rfl) (by kernel_rfl) (by kernel_rfl) (by kernel_rfl) (by decide) (by decide) (by decide) (by decide) (fun _=>⟨by kernel_rfl,by kernel_rfl,acG⟩) (by kernel_rfl) (⟨_,rfl,by kernel_rfl,by decide⟩)
theorem adU:jF Tryz.prog tab ⟨(.struct [(0,3),(1,26),(2,26)]),3,56,[.int .i64,.ah,.ah],false⟩ 191:=
 fP (i:=Tryz.t191) (z:=.agg #[.int .i64 0,.slice none 0 0,.slice none 0 0]) (d:=(.struct (Tryz.prog.fieldsOf 191))) (by kernel_rfl) (by kernel_rfl) (by kernel_rfl) (by kernel_rfl) (by kernel_rfl) (by decide) (by decide) (by decide) (by decide) (nofun) (by kernel_rfl) (⟨_,rfl,by kernel_rfl,by decide⟩)
theorem adV:jF Tryz.prog tab ⟨(.slice 9),1,24,[.ah],false⟩ 232:=
 fP (i:=Tryz.t232) (z:=.slice none 0 0) (d:=(.slice 9)) (by kernel_rfl) (by kernel_rfl) (by kernel_rfl) (by kernel_rfl) (by kernel_rfl) (by decide) (by decide) (by decide) (by decide) (nofun) (by kernel_rfl) (rfl)
theorem abN:cB Tryz.prog tab:=acE ⟨aeO,⟨aeE,⟨ty9,⟨ty4,⟨ty3,⟨ty2,trivial,trivial⟩,trivial⟩,⟨ty5,trivial,trivial⟩⟩,⟨aeC,⟨aeB,⟨aeA,trivial,trivial⟩,trivial⟩,⟨aeD,trivial,trivial⟩⟩⟩,⟨aeJ,⟨aeH,⟨aeG,⟨aeF,trivial,trivial⟩,trivial⟩,⟨aeI,trivial,trivial⟩⟩,⟨aeM,⟨aeL,⟨aeK,trivial,trivial⟩,trivial⟩,⟨aeN,trivial,trivial⟩⟩⟩⟩,⟨adM,⟨aeT,⟨aeR,⟨aeQ,⟨aeP,trivial,trivial⟩,trivial⟩,⟨aeS,trivial,trivial⟩⟩,⟨aeW,⟨aeV,⟨aeU,trivial,trivial⟩,trivial⟩,⟨adL,trivial,trivial⟩⟩⟩,⟨adR,⟨adP,⟨adO,⟨adN,trivial,trivial⟩,trivial⟩,⟨adQ,trivial,trivial⟩⟩,⟨adU,⟨adT,⟨adS,trivial,trivial⟩,trivial⟩,⟨adV,trivial,trivial⟩⟩⟩⟩⟩
end Go.Proofs.YtgkfifiobmklcaaGreat.Abs
