/- The table of the types of this seat: what the abstract layer must know of them, by closed facts. Printed by gentab.py. -/
import Derived.Test.YtefgamefajmdkaaGreatPlain
import Derived.Test.YtefgamefajmdkaaGreatProg
import Derived.KernelRfl
set_option linter.all false
namespace Go.Proofs.YtefgamefajmdkaaGreat.Abs
open Go.Proofs
def tree:Tree:=(.node 53 ⟨(.struct [(0,3),(1,51),(5,48)]),6,64,[.int .i64,.int .i64,.int .i64,.int .i64,.int .i64,.ah],false⟩ (.node 27 ⟨(.struct [(0,3),(1,23),(2,24),(3,25),(4,26)]),5,104,[.int .i64,.ah,.ah,.ah,.ah],false⟩ (.node 22 ⟨(.slice 5),1,24,[.ah],false⟩ (.node 4 ⟨.bool,1,1,[.bool],false⟩ (.node 3 ⟨(.int .i64),1,8,[.int .i64],false⟩ (.node 2 ⟨(.int .i64),1,8,[.int .i64],false⟩ .leaf .leaf) .leaf) (.node 9 ⟨.str,1,16,[.str],false⟩ (.node 5 ⟨(.int .u8),1,1,[.int .u8],false⟩ .leaf .leaf) .leaf)) (.node 25 ⟨(.slice 126),1,24,[.ah],false⟩ (.node 24 ⟨(.slice 130),1,24,[.ah],false⟩ (.node 23 ⟨(.slice 103),1,24,[.ah],false⟩ .leaf .leaf) .leaf) (.node 26 ⟨(.slice 3),1,24,[.ah],false⟩ .leaf .leaf))) (.node 42 ⟨(.slice 45),1,24,[.ah],false⟩ (.node 32 ⟨(.slice 48),1,24,[.ah],false⟩ (.node 30 ⟨(.slice 53),1,24,[.ah],false⟩ (.node 28 ⟨(.struct [(0,3),(1,23),(2,24),(3,25),(4,26)]),5,104,[.int .i64,.ah,.ah,.ah,.ah],false⟩ .leaf .leaf) .leaf) (.node 36 ⟨(.struct [(0,26),(1,26),(2,34)]),3,72,[.ah,.ah,.ah],false⟩ (.node 34 ⟨(.slice 26),1,24,[.ah],false⟩ .leaf .leaf) .leaf)) (.node 51 ⟨(.struct [(0,3),(1,3),(2,3),(3,3)]),4,32,[.int .i64,.int .i64,.int .i64,.int .i64],true⟩ (.node 48 ⟨(.slice 82),1,24,[.ah],false⟩ (.node 45 ⟨(.struct [(0,26),(1,26)]),2,48,[.ah,.ah],false⟩ .leaf .leaf) .leaf) (.node 52 ⟨(.struct [(0,3),(1,51),(5,48)]),6,64,[.int .i64,.int .i64,.int .i64,.int .i64,.int .i64,.ah],false⟩ .leaf .leaf)))) (.node 103 ⟨(.struct [(0,9),(1,3),(2,101)]),3,48,[.str,.int .i64,.ah],false⟩ (.node 82 ⟨(.struct [(0,3),(1,3),(2,3)]),3,24,[.int .i64,.int .i64,.int .i64],true⟩ (.node 69 ⟨(.struct [(0,65),(10,45),(12,4),(13,3),(14,4)]),15,296,[.int .i64,.ah,.ah,.ah,.ah,.ah,.ah,.ah,.ah,.ah,.ah,.ah,.bool,.int .i64,.bool],false⟩ (.node 65 ⟨(.struct [(0,28),(5,36),(8,48),(9,30)]),10,224,[.int .i64,.ah,.ah,.ah,.ah,.ah,.ah,.ah,.ah,.ah],false⟩ (.node 64 ⟨(.struct [(0,28),(5,36),(8,48),(9,30)]),10,224,[.int .i64,.ah,.ah,.ah,.ah,.ah,.ah,.ah,.ah,.ah],false⟩ .leaf .leaf) .leaf) (.node 79 ⟨(.struct [(0,22),(1,3),(2,3)]),3,40,[.ah,.int .i64,.int .i64],false⟩ (.node 70 ⟨(.struct [(0,65),(10,45),(12,4),(13,3),(14,4)]),15,296,[.int .i64,.ah,.ah,.ah,.ah,.ah,.ah,.ah,.ah,.ah,.ah,.ah,.bool,.int .i64,.bool],false⟩ .leaf .leaf) .leaf)) (.node 101 ⟨(.slice 177),1,24,[.ah],false⟩ (.node 84 ⟨(.struct [(0,82),(3,51),(7,48)]),8,80,[.int .i64,.int .i64,.int .i64,.int .i64,.int .i64,.int .i64,.int .i64,.ah],false⟩ (.node 83 ⟨(.struct [(0,82),(3,51),(7,48)]),8,80,[.int .i64,.int .i64,.int .i64,.int .i64,.int .i64,.int .i64,.int .i64,.ah],false⟩ .leaf .leaf) .leaf) (.node 102 ⟨(.struct [(0,9),(1,3),(2,101)]),3,48,[.str,.int .i64,.ah],false⟩ .leaf .leaf))) (.node 136 ⟨(.struct [(0,3),(1,3),(2,65),(12,4),(13,4),(14,45)]),16,296,[.int .i64,.int .i64,.int .i64,.ah,.ah,.ah,.ah,.ah,.ah,.ah,.ah,.ah,.bool,.bool,.ah,.ah],false⟩ (.node 126 ⟨(.struct [(0,124),(1,34)]),2,48,[.ah,.ah],false⟩ (.node 125 ⟨(.struct [(0,124),(1,34)]),2,48,[.ah,.ah],false⟩ (.node 124 ⟨(.slice 187),1,24,[.ah],false⟩ .leaf .leaf) .leaf) (.node 135 ⟨(.struct [(0,3),(1,3),(2,65),(12,4),(13,4),(14,45)]),16,296,[.int .i64,.int .i64,.int .i64,.ah,.ah,.ah,.ah,.ah,.ah,.ah,.ah,.ah,.bool,.bool,.ah,.ah],false⟩ (.node 130 ⟨(.struct [(0,3),(1,3),(2,4),(3,3)]),4,32,[.int .i64,.int .i64,.bool,.int .i64],true⟩ .leaf .leaf) .leaf)) (.node 187 ⟨(.struct [(0,3),(1,3)]),2,16,[.int .i64,.int .i64],true⟩ (.node 177 ⟨(.struct [(0,3),(1,26),(2,26)]),3,56,[.int .i64,.ah,.ah],false⟩ (.node 151 ⟨(.slice 51),1,24,[.ah],false⟩ .leaf .leaf) .leaf) (.node 230 ⟨(.slice 9),1,24,[.ah],false⟩ .leaf .leaf)))))
def tab:Nat→Ty:=tree.find
theorem ty2:iY Tryz.prog tab ⟨(.int .i64),1,8,[.int .i64],false⟩ 2:=
 eu (i:=Tryz.t2) (z:=.int .i64 0) (d:=(.int .i64)) (by kernel_rfl) (by kernel_rfl) (by kernel_rfl) (by kernel_rfl) (by kernel_rfl) (by decide) (by decide) (by decide) (by decide) (nofun) (by kernel_rfl) (rfl)
theorem ty3:iY Tryz.prog tab ⟨(.int .i64),1,8,[.int .i64],false⟩ 3:=
 eu (i:=Tryz.t3) (z:=.int .i64 0) (d:=(.int .i64)) (by kernel_rfl) (by kernel_rfl) (by kernel_rfl) (by kernel_rfl) (by kernel_rfl) (by decide) (by decide) (by decide) (by decide) (nofun) (by kernel_rfl) (rfl)
theorem ty4:iY Tryz.prog tab ⟨.bool,1,1,[.bool],false⟩ 4:=
 eu (i:=Tryz.t4) (z:=.bool false) (d:=.bool) (by kernel_rfl) (by kernel_rfl) (by kernel_rfl) (by kernel_rfl) (by kernel_rfl) (by decide) (by decide) (by decide) (by decide) (nofun) (by kernel_rfl) (rfl)
theorem ty5:iY Tryz.prog tab ⟨(.int .u8),1,1,[.int .u8],false⟩ 5:=
 eu (i:=Tryz.t5) (z:=.int .u8 0) (d:=(.int .u8)) (by kernel_rfl) (by kernel_rfl) (by kernel_rfl) (by kernel_rfl) (by kernel_rfl) (by decide) (by decide) (by decide) (by decide) (nofun) (by kernel_rfl) (rfl)
theorem ty9:iY Tryz.prog tab ⟨.str,1,16,[.str],false⟩ 9:=
 eu (i:=Tryz.t9) (z:=.string ⟨#[]⟩) (d:=.string) (by kernel_rfl) (by kernel_rfl) (by kernel_rfl) (by kernel_rfl) (by kernel_rfl) (by decide) (by decide) (by decide) (by decide) (nofun) (by kernel_rfl) (rfl)
theorem abr:iY Tryz.prog tab ⟨(.slice 5),1,24,[.ah],false⟩ 22:=
 eu (i:=Tryz.t22) (z:=.slice none 0 0) (d:=(.slice 5)) (by kernel_rfl) (by kernel_rfl) (by kernel_rfl) (by kernel_rfl) (by kernel_rfl) (by decide) (by decide) (by decide) (by decide) (nofun) (by kernel_rfl) (rfl)
theorem abt:iY Tryz.prog tab ⟨(.slice 103),1,24,[.ah],false⟩ 23:=
 eu (i:=Tryz.t23) (z:=.slice none 0 0) (d:=(.slice 103)) (by kernel_rfl) (by kernel_rfl) (by kernel_rfl) (by kernel_rfl) (by kernel_rfl) (by decide) (by decide) (by decide) (by decide) (nofun) (by kernel_rfl) (rfl)
theorem abu:iY Tryz.prog tab ⟨(.slice 130),1,24,[.ah],false⟩ 24:=
 eu (i:=Tryz.t24) (z:=.slice none 0 0) (d:=(.slice 130)) (by kernel_rfl) (by kernel_rfl) (by kernel_rfl) (by kernel_rfl) (by kernel_rfl) (by decide) (by decide) (by decide) (by decide) (nofun) (by kernel_rfl) (rfl)
theorem abv:iY Tryz.prog tab ⟨(.slice 126),1,24,[.ah],false⟩ 25:=
 eu (i:=Tryz.t25) (z:=.slice none 0 0) (d:=(.slice 126)) (by kernel_rfl) (by kernel_rfl) (by kernel_rfl) (by kernel_rfl) (by kernel_rfl) (by decide) (by decide) (by decide) (by decide) (nofun) (by kernel_rfl) (rfl)
theorem abw:iY Tryz.prog tab ⟨(.slice 3),1,24,[.ah],false⟩ 26:=
 eu (i:=Tryz.t26) (z:=.slice none 0 0) (d:=(.slice 3)) (by kernel_rfl) (by kernel_rfl) (by kernel_rfl) (by kernel_rfl) (by kernel_rfl) (by decide) (by decide) (by decide) (by decide) (nofun) (by kernel_rfl) (rfl)
theorem abx:iY Tryz.prog tab ⟨(.struct [(0,3),(1,23),(2,24),(3,25),(4,26)]),5,104,[.int .i64,.ah,.ah,.ah,.ah],false⟩ 27:=
 eu (i:=Tryz.t27) (z:=.agg #[.int .i64 0,.slice none 0 0,.slice none 0 0,.slice none 0 0,.slice none 0 0]) (d:=(.struct (Tryz.prog.fieldsOf 27))) (by kernel_rfl) (by kernel_rfl) (by kernel_rfl) (by kernel_rfl) (by kernel_rfl) (by decide) (by decide) (by decide) (by decide) (nofun) (by kernel_rfl) (⟨_,rfl,by kernel_rfl,by decide⟩)
theorem aby:iY Tryz.prog tab ⟨(.struct [(0,3),(1,23),(2,24),(3,25),(4,26)]),5,104,[.int .i64,.ah,.ah,.ah,.ah],false⟩ 28:=
 eu (i:=Tryz.t28) (z:=.agg #[.int .i64 0,.slice none 0 0,.slice none 0 0,.slice none 0 0,.slice none 0 0]) (d:=(.struct (Tryz.prog.fieldsOf 28))) (by kernel_rfl) (by kernel_rfl) (by kernel_rfl) (by kernel_rfl) (by kernel_rfl) (by decide) (by decide) (by decide) (by decide) (nofun) (by kernel_rfl) (⟨_,rfl,by kernel_rfl,by decide⟩)
theorem abz:iY Tryz.prog tab ⟨(.slice 53),1,24,[.ah],false⟩ 30:=
 eu (i:=Tryz.t30) (z:=.slice none 0 0) (d:=(.slice 53)) (by kernel_rfl) (by kernel_rfl) (by kernel_rfl) (by kernel_rfl) (by kernel_rfl) (by decide) (by decide) (by decide) (by decide) (nofun) (by kernel_rfl) (rfl)
theorem abA:iY Tryz.prog tab ⟨(.slice 48),1,24,[.ah],false⟩ 32:=
 eu (i:=Tryz.t32) (z:=.slice none 0 0) (d:=(.slice 48)) (by kernel_rfl) (by kernel_rfl) (by kernel_rfl) (by kernel_rfl) (by kernel_rfl) (by decide) (by decide) (by decide) (by decide) (nofun) (by kernel_rfl) (rfl)
theorem abB:iY Tryz.prog tab ⟨(.slice 26),1,24,[.ah],false⟩ 34:=
 eu (i:=Tryz.t34) (z:=.slice none 0 0) (d:=(.slice 26)) (by kernel_rfl) (by kernel_rfl) (by kernel_rfl) (by kernel_rfl) (by kernel_rfl) (by decide) (by decide) (by decide) (by decide) (nofun) (by kernel_rfl) (rfl)
theorem abC:iY Tryz.prog tab ⟨(.struct [(0,26),(1,26),(2,34)]),3,72,[.ah,.ah,.ah],false⟩ 36:=
 eu (i:=Tryz.t36) (z:=.agg #[.slice none 0 0,.slice none 0 0,.slice none 0 0]) (d:=(.struct (Tryz.prog.fieldsOf 36))) (by kernel_rfl) (by kernel_rfl) (by kernel_rfl) (by kernel_rfl) (by kernel_rfl) (by decide) (by decide) (by decide) (by decide) (nofun) (by kernel_rfl) (⟨_,rfl,by kernel_rfl,by decide⟩)
theorem abD:iY Tryz.prog tab ⟨(.slice 45),1,24,[.ah],false⟩ 42:=
 eu (i:=Tryz.t42) (z:=.slice none 0 0) (d:=(.slice 45)) (by kernel_rfl) (by kernel_rfl) (by kernel_rfl) (by kernel_rfl) (by kernel_rfl) (by decide) (by decide) (by decide) (by decide) (nofun) (by kernel_rfl) (rfl)
theorem abE:iY Tryz.prog tab ⟨(.struct [(0,26),(1,26)]),2,48,[.ah,.ah],false⟩ 45:=
 eu (i:=Tryz.t45) (z:=.agg #[.slice none 0 0,.slice none 0 0]) (d:=(.struct (Tryz.prog.fieldsOf 45))) (by kernel_rfl) (by kernel_rfl) (by kernel_rfl) (by kernel_rfl) (by kernel_rfl) (by decide) (by decide) (by decide) (by decide) (nofun) (by kernel_rfl) (⟨_,rfl,by kernel_rfl,by decide⟩)
theorem abF:iY Tryz.prog tab ⟨(.slice 82),1,24,[.ah],false⟩ 48:=
 eu (i:=Tryz.t48) (z:=.slice none 0 0) (d:=(.slice 82)) (by kernel_rfl) (by kernel_rfl) (by kernel_rfl) (by kernel_rfl) (by kernel_rfl) (by decide) (by decide) (by decide) (by decide) (nofun) (by kernel_rfl) (rfl)
theorem aaz:∀f∈Tryz.prog.fieldsOf 51,f.name≠ "_" :=by
 have h:((Tryz.prog.fieldsOf 51).toList.all fun f=>f.name != "_")=true:=by kernel_rfl
 intro f hf
 have:=List.all_eq_true.1 h f (by simpa using hf)
 simpa using this
theorem abG:iY Tryz.prog tab ⟨(.struct [(0,3),(1,3),(2,3),(3,3)]),4,32,[.int .i64,.int .i64,.int .i64,.int .i64],true⟩ 51:=
 eu (i:=Tryz.t51) (z:=.agg #[.int .i64 0,.int .i64 0,.int .i64 0,.int .i64 0]) (d:=(.struct (Tryz.prog.fieldsOf 51))) (by kernel_rfl) (by kernel_rfl) (by kernel_rfl) (by kernel_rfl) (by kernel_rfl) (by decide) (by decide) (by decide) (by decide) (fun _=>⟨by kernel_rfl,by kernel_rfl,aaz⟩) (by kernel_rfl) (⟨_,rfl,by kernel_rfl,by decide⟩)
theorem abH:iY Tryz.prog tab ⟨(.struct [(0,3),(1,51),(5,48)]),6,64,[.int .i64,.int .i64,.int .i64,.int .i64,.int .i64,.ah],false⟩ 52:=
 eu (i:=Tryz.t52) (z:=.agg #[.int .i64 0,.int .i64 0,.int .i64 0,.int .i64 0,.int .i64 0,.slice none 0 0]) (d:=(.struct (Tryz.prog.fieldsOf 52))) (by kernel_rfl) (by kernel_rfl) (by kernel_rfl) (by kernel_rfl) (by kernel_rfl) (by decide) (by decide) (by decide) (by decide) (nofun) (by kernel_rfl) (⟨_,rfl,by kernel_rfl,by decide⟩)
theorem abI:iY Tryz.prog tab ⟨(.struct [(0,3),(1,51),(5,48)]),6,64,[.int .i64,.int .i64,.int .i64,.int .i64,.int .i64,.ah],false⟩ 53:=
 eu (i:=Tryz.t53) (z:=.agg #[.int .i64 0,.int .i64 0,.int .i64 0,.int .i64 0,.int .i64 0,.slice none 0 0]) (d:=(.struct (Tryz.prog.fieldsOf 53))) (by kernel_rfl) (by kernel_rfl) (by kernel_rfl) (by kernel_rfl) (by kernel_rfl) (by decide) (by decide) (by decide) (by decide) (nofun) (by kernel_rfl) (⟨_,rfl,by kernel_rfl,by decide⟩)
theorem abJ:iY Tryz.prog tab ⟨(.struct [(0,28),(5,36),(8,48),(9,30)]),10,224,[.int .i64,.ah,.ah,.ah,.ah,.ah,.ah,.ah,.ah,.ah],false⟩ 64:=
 eu (i:=Tryz.t64) (z:=.agg #[.int .i64 0,.slice none 0 0,.slice none 0 0,.slice none 0 0,.slice none 0 0,.slice none 0 0,.slice none 0 0,.slice none 0 0,.slice none 0 0,.slice none 0 0]) (d:=(.struct (Tryz.prog.fieldsOf 64))) (by kernel_rfl) (by kernel_rfl) (by kernel_rfl) (by kernel_rfl) (by kernel_rfl) (by decide) (by decide) (by decide) (by decide) (nofun) (by kernel_rfl) (⟨_,rfl,by kernel_rfl,by decide⟩)
theorem abK:iY Tryz.prog tab ⟨(.struct [(0,28),(5,36),(8,48),(9,30)]),10,224,[.int .i64,.ah,.ah,.ah,.ah,.ah,.ah,.ah,.ah,.ah],false⟩ 65:=
 eu (i:=Tryz.t65) (z:=.agg #[.int .i64 0,.slice none 0 0,.slice none 0 0,.slice none 0 0,.slice none 0 0,.slice none 0 0,.slice none 0 0,.slice none 0 0,.slice none 0 0,.slice none 0 0]) (d:=(.struct (Tryz.prog.fieldsOf 65))) (by kernel_rfl) (by kernel_rfl) (by kernel_rfl) (by kernel_rfl) (by kernel_rfl) (by decide) (by decide) (by decide) (by decide) (nofun) (by kernel_rfl) (⟨_,rfl,by kernel_rfl,by decide⟩)
theorem abL:iY Tryz.prog tab ⟨(.struct [(0,65),(10,45),(12,4),(13,3),(14,4)]),15,296,[.int .i64,.ah,.ah,.ah,.ah,.ah,.ah,.ah,.ah,.ah,.ah,.ah,.bool,.int .i64,.bool],false⟩ 69:=
 eu (i:=Tryz.t69) (z:=.agg #[.int .i64 0,.slice none 0 0,.slice none 0 0,.slice none 0 0,.slice none 0 0,.slice none 0 0,.slice none 0 0,.slice none 0 0,.slice none 0 0,.slice none 0 0,.slice none 0 0,.slice none 0 0,.bool false,.int .i64 0,.bool false]) (d:=(.struct (Tryz.prog.fieldsOf 69))) (by kernel_rfl) (by kernel_rfl) (by kernel_rfl) (by kernel_rfl) (by kernel_rfl) (by decide) (by decide) (by decide) (by decide) (nofun) (by kernel_rfl) (⟨_,rfl,by kernel_rfl,by decide⟩)
theorem abM:iY Tryz.prog tab ⟨(.struct [(0,65),(10,45),(12,4),(13,3),(14,4)]),15,296,[.int .i64,.ah,.ah,.ah,.ah,.ah,.ah,.ah,.ah,.ah,.ah,.ah,.bool,.int .i64,.bool],false⟩ 70:=
 eu (i:=Tryz.t70) (z:=.agg #[.int .i64 0,.slice none 0 0,.slice none 0 0,.slice none 0 0,.slice none 0 0,.slice none 0 0,.slice none 0 0,.slice none 0 0,.slice none 0 0,.slice none 0 0,.slice none 0 0,.slice none 0 0,.bool false,.int .i64 0,.bool false]) (d:=(.struct (Tryz.prog.fieldsOf 70))) (by kernel_rfl) (by kernel_rfl) (by kernel_rfl) (by kernel_rfl) (by kernel_rfl) (by decide) (by decide) (by decide) (by decide) (nofun) (by kernel_rfl) (⟨_,rfl,by kernel_rfl,by decide⟩)
theorem abN:iY Tryz.prog tab ⟨(.struct [(0,22),(1,3),(2,3)]),3,40,[.ah,.int .i64,.int .i64],false⟩ 79:=
 eu (i:=Tryz.t79) (z:=.agg #[.slice none 0 0,.int .i64 0,.int .i64 0]) (d:=(.struct (Tryz.prog.fieldsOf 79))) (by kernel_rfl) (by kernel_rfl) (by kernel_rfl) (by kernel_rfl) (by kernel_rfl) (by decide) (by decide) (by decide) (by decide) (nofun) (by kernel_rfl) (⟨_,rfl,by kernel_rfl,by decide⟩)
theorem aaA:∀f∈Tryz.prog.fieldsOf 82,f.name≠ "_" :=by
 have h:((Tryz.prog.fieldsOf 82).toList.all fun f=>f.name != "_")=true:=by kernel_rfl
 intro f hf
 have:=List.all_eq_true.1 h f (by simpa using hf)
 simpa using this
theorem abO:iY Tryz.prog tab ⟨(.struct [(0,3),(1,3),(2,3)]),3,24,[.int .i64,.int .i64,.int .i64],true⟩ 82:=
 eu (i:=Tryz.t82) (z:=.agg #[.int .i64 0,.int .i64 0,.int .i64 0]) (d:=(.struct (Tryz.prog.fieldsOf 82))) (by kernel_rfl) (by kernel_rfl) (by kernel_rfl) (by kernel_rfl) (by kernel_rfl) (by decide) (by decide) (by decide) (by decide) (fun _=>⟨by kernel_rfl,by kernel_rfl,aaA⟩) (by kernel_rfl) (⟨_,rfl,by kernel_rfl,by decide⟩)
theorem abP:iY Tryz.prog tab ⟨(.struct [(0,82),(3,51),(7,48)]),8,80,[.int .i64,.int .i64,.int .i64,.int .i64,.int .i64,.int .i64,.int .i64,.ah],false⟩ 83:=
 eu (i:=Tryz.t83) (z:=.agg #[.int .i64 0,.int .i64 0,.int .i64 0,.int .i64 0,.int .i64 0,.int .i64 0,.int .i64 0,.slice none 0 0]) (d:=(.struct (Tryz.prog.fieldsOf 83))) (by kernel_rfl) (by kernel_rfl) (by kernel_rfl) (by kernel_rfl) (by kernel_rfl) (by decide) (by decide) (by decide) (by decide) (nofun) (by kernel_rfl) (⟨_,rfl,by kernel_rfl,by decide⟩)
theorem abQ:iY Tryz.prog tab ⟨(.struct [(0,82),(3,51),(7,48)]),8,80,[.int .i64,.int .i64,.int .i64,.int .i64,.int .i64,.int .i64,.int .i64,.ah],false⟩ 84:=
 eu (i:=Tryz.t84) (z:=.agg #[.int .i64 0,.int .i64 0,.int .i64 0,.int .i64 0,.int .i64 0,.int .i64 0,.int .i64 0,.slice none 0 0]) (d:=(.struct (Tryz.prog.fieldsOf 84))) (by kernel_rfl) (by kernel_rfl) (by kernel_rfl) (by kernel_rfl) (by kernel_rfl) (by decide) (by decide) (by decide) (by decide) (nofun) (by kernel_rfl) (⟨_,rfl,by kernel_rfl,by decide⟩)
theorem aaB:iY Tryz.prog tab ⟨(.slice 177),1,24,[.ah],false⟩ 101:=
 eu (i:=Tryz.t101) (z:=.slice none 0 0) (d:=(.slice 177)) (by kernel_rfl) (by kernel_rfl) (by kernel_rfl) (by kernel_rfl) (by kernel_rfl) (by decide) (by decide) (by decide) (by decide) (nofun) (by kernel_rfl) (rfl)
theorem aaC:iY Tryz.prog tab ⟨(.struct [(0,9),(1,3),(2,101)]),3,48,[.str,.int .i64,.ah],false⟩ 102:=
 eu (i:=Tryz.t102) (z:=.agg #[.string ⟨#[]⟩,.int .i64 0,.slice none 0 0]) (d:=(.struct (Tryz.prog.fieldsOf 102))) (by kernel_rfl) (by kernel_rfl) (by kernel_rfl) (by kernel_rfl) (by kernel_rfl) (by decide) (by decide) (by decide) (by decide) (nofun) (by kernel_rfl) (⟨_,rfl,by kernel_rfl,by decide⟩)
theorem aaD:iY Tryz.prog tab ⟨(.struct [(0,9),(1,3),(2,101)]),3,48,[.str,.int .i64,.ah],false⟩ 103:=
 eu (i:=Tryz.t103) (z:=.agg #[.string ⟨#[]⟩,.int .i64 0,.slice none 0 0]) (d:=(.struct (Tryz.prog.fieldsOf 103))) (by kernel_rfl) (by kernel_rfl) (by kernel_rfl) (by kernel_rfl) (by kernel_rfl) (by decide) (by decide) (by decide) (by decide) (nofun) (by kernel_rfl) (⟨_,rfl,by kernel_rfl,by decide⟩)
theorem aaE:iY Tryz.prog tab ⟨(.slice 187),1,24,[.ah],false⟩ 124:=
 eu (i:=Tryz.t124) (z:=.slice none 0 0) (d:=(.slice 187)) (by kernel_rfl) (by kernel_rfl) (by kernel_rfl) (by kernel_rfl) (by kernel_rfl) (by decide) (by decide) (by decide) (by decide) (nofun) (by kernel_rfl) (rfl)
theorem aaF:iY Tryz.prog tab ⟨(.struct [(0,124),(1,34)]),2,48,[.ah,.ah],false⟩ 125:=
 eu (i:=Tryz.t125) (z:=.agg #[.slice none 0 0,.slice none 0 0]) (d:=(.struct (Tryz.prog.fieldsOf 125))) (by kernel_rfl) (by kernel_rfl) (by kernel_rfl) (by kernel_rfl) (by kernel_rfl) (by decide) (by decide) (by decide) (by decide) (nofun) (by kernel_rfl) (⟨_,rfl,by kernel_rfl,by decide⟩)
theorem aaG:iY Tryz.prog tab ⟨(.struct [(0,124),(1,34)]),2,48,[.ah,.ah],false⟩ 126:=
 eu (i:=Tryz.t126) (z:=.agg #[.slice none 0 0,.slice none 0 0]) (d:=(.struct (Tryz.prog.fieldsOf 126))) (by kernel_rfl) (by kernel_rfl) (by kernel_rfl) (by kernel_rfl) (by kernel_rfl) (by decide) (by decide) (by decide) (by decide) (nofun) (by kernel_rfl) (⟨_,rfl,by kernel_rfl,by decide⟩)
theorem Zz:∀f∈Tryz.prog.fieldsOf 130,f.name≠ "_" :=by
 have h:((Tryz.prog.fieldsOf 130).toList.all fun f=>f.name != "_")=true:=by kernel_rfl
 intro f hf
 have:=List.all_eq_true.1 h f (by simpa using hf)
 simpa using this
theorem aaH:iY Tryz.prog tab ⟨(.struct [(0,3),(1,3),(2,4),(3,3)]),4,32,[.int .i64,.int .i64,.bool,.int .i64],true⟩ 130:=
 eu (i:=Tryz.t130) (z:=.agg #[.int .i64 0,.int .i64 0,.bool false,.int .i64 0]) (d:=(.struct (Tryz.prog.fieldsOf 130))) (by kernel_rfl) (by kernel_rfl) (by kernel_rfl) (by kernel_rfl) (by kernel_rfl) (by decide) (by decide) (by decide) (by decide) (fun _=>⟨by kernel_rfl,by kernel_rfl,Zz⟩) (by kernel_rfl) (⟨_,rfl,by kernel_rfl,by decide⟩)
theorem aaI:iY Tryz.prog tab ⟨(.struct [(0,3),(1,3),(2,65),(12,4),(13,4),(14,45)]),16,296,[.int .i64,.int .i64,.int .i64,.ah,.ah,.ah,.ah,.ah,.ah,.ah,.ah,.ah,.bool,.bool,.ah,.ah],false⟩ 135:=
 eu (i:=Tryz.t135) (z:=.agg #[.int .i64 0,.int .i64 0,.int .i64 0,.slice none 0 0,.slice none 0 0,.slice none 0 0,.slice none 0 0,.slice none 0 0,.slice none 0 0,.slice none 0 0,.slice none 0 0,.slice none 0 0,.bool false,.bool false,.slice none 0 0,.slice none 0 0]) (d:=(.struct (Tryz.prog.fieldsOf 135))) (by kernel_rfl) (by kernel_rfl) (by kernel_rfl) (by kernel_rfl) (by kernel_rfl) (by decide) (by decide) (by decide) (by decide) (nofun) (by kernel_rfl) (⟨_,rfl,by kernel_rfl,by decide⟩)
theorem aaJ:iY Tryz.prog tab ⟨(.struct [(0,3),(1,3),(2,65),(12,4),(13,4),(14,45)]),16,296,[.int .i64,.int .i64,.int .i64,.ah,.ah,.ah,.ah,.ah,.ah,.ah,.ah,.ah,.bool,.bool,.ah,.ah],false⟩ 136:=
 eu (i:=Tryz.t136) (z:=.agg #[.int .i64 0,.int .i64 0,.int .i64 0,.slice none 0 0,.slice none 0 0,.slice none 0 0,.slice none 0 0,.slice none 0 0,.slice none 0 0,.slice none 0 0,.slice none 0 0,.slice none 0 0,.bool false,.bool false,.slice none 0 0,.slice none 0 0]) (d:=(.struct (Tryz.prog.fieldsOf 136))) (by kernel_rfl) (by kernel_rfl) (by kernel_rfl) (by kernel_rfl) (by kernel_rfl) (by decide) (by decide) (by decide) (by decide) (nofun) (by kernel_rfl) (⟨_,rfl,by kernel_rfl,by decide⟩)
theorem aaK:iY Tryz.prog tab ⟨(.slice 51),1,24,[.ah],false⟩ 151:=
 eu (i:=Tryz.t151) (z:=.slice none 0 0) (d:=(.slice 51)) (by kernel_rfl) (by kernel_rfl) (by kernel_rfl) (by kernel_rfl) (by kernel_rfl) (by decide) (by decide) (by decide) (by decide) (nofun) (by kernel_rfl) (rfl)
theorem aaL:iY Tryz.prog tab ⟨(.struct [(0,3),(1,26),(2,26)]),3,56,[.int .i64,.ah,.ah],false⟩ 177:=
 eu (i:=Tryz.t177) (z:=.agg #[.int .i64 0,.slice none 0 0,.slice none 0 0]) (d:=(.struct (Tryz.prog.fieldsOf 177))) (by kernel_rfl) (by kernel_rfl) (by kernel_rfl) (by kernel_rfl) (by kernel_rfl) (by decide) (by decide) (by decide) (by decide) (nofun) (by kernel_rfl) (⟨_,rfl,by kernel_rfl,by decide⟩)
theorem ZA:∀f∈Tryz.prog.fieldsOf 187,f.name≠ "_" :=by
 have h:((Tryz.prog.fieldsOf 187).toList.all fun f=>f.name != "_")=true:=by kernel_rfl
 intro f hf
 have:=List.all_eq_true.1 h f (by simpa using hf)
 simpa using this
theorem aaM:iY Tryz.prog tab ⟨(.struct [(0,3),(1,3)]),2,16,[.int .i64,.int .i64],true⟩ 187:=
 eu (i:=Tryz.t187) (z:=.agg #[.int .i64 0,.int .i64 0]) (d:=(.struct (Tryz.prog.fieldsOf 187))) (by kernel_rfl) (by kernel_rfl) (by kernel_rfl) (by kernel_rfl) (by kernel_rfl) (by decide) (by decide) (by decide) (by decide) (fun _=>⟨by kernel_rfl,by kernel_rfl,ZA⟩) (by kernel_rfl) (⟨_,rfl,by kernel_rfl,by decide⟩)
theorem aaN:iY Tryz.prog tab ⟨(.slice 9),1,24,[.ah],false⟩ 230:=
 eu (i:=Tryz.t230) (z:=.slice none 0 0) (d:=(.slice 9)) (by kernel_rfl) (by kernel_rfl) (by kernel_rfl) (by kernel_rfl) (by kernel_rfl) (by decide) (by decide) (by decide) (by decide) (nofun) (by kernel_rfl) (rfl)
theorem aaO:bR Tryz.prog tab:=Zx ⟨abI,⟨abx,⟨abr,⟨ty4,⟨ty3,⟨ty2,trivial,trivial⟩,trivial⟩,⟨ty9,⟨ty5,trivial,trivial⟩,trivial⟩⟩,⟨abv,⟨abu,⟨abt,trivial,trivial⟩,trivial⟩,⟨abw,trivial,trivial⟩⟩⟩,⟨abD,⟨abA,⟨abz,⟨aby,trivial,trivial⟩,trivial⟩,⟨abC,⟨abB,trivial,trivial⟩,trivial⟩⟩,⟨abG,⟨abF,⟨abE,trivial,trivial⟩,trivial⟩,⟨abH,trivial,trivial⟩⟩⟩⟩,⟨aaD,⟨abO,⟨abL,⟨abK,⟨abJ,trivial,trivial⟩,trivial⟩,⟨abN,⟨abM,trivial,trivial⟩,trivial⟩⟩,⟨aaB,⟨abQ,⟨abP,trivial,trivial⟩,trivial⟩,⟨aaC,trivial,trivial⟩⟩⟩,⟨aaJ,⟨aaG,⟨aaF,⟨aaE,trivial,trivial⟩,trivial⟩,⟨aaI,⟨aaH,trivial,trivial⟩,trivial⟩⟩,⟨aaM,⟨aaL,⟨aaK,trivial,trivial⟩,trivial⟩,⟨aaN,trivial,trivial⟩⟩⟩⟩⟩
end Go.Proofs.YtefgamefajmdkaaGreat.Abs
