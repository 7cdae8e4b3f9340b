/- The table of the types of this seat: what the abstract layer must know of them, by closed facts. Printed by gentab.py. -/
import Derived.Test.YtefgamefajmdkaaGreatPlain
import Derived.Test.YtefgamefajmdkaaGreatProg
import Derived.KernelRfl
set_option linter.all false
namespace Go.Proofs.YtefgamefajmdkaaGreat.Abs
open Go.Proofs
def tree:Tree:=(.node 53 ⟨(.struct [(0,3),(1,51),(5,48)]),6,64,[.int .i64,.int .i64,.int .i64,.int .i64,.int .i64,.ah],false⟩ (.node 27 ⟨(.struct [(0,3),(1,23),(2,24),(3,25),(4,26)]),5,104,[.int .i64,.ah,.ah,.ah,.ah],false⟩ (.node 22 ⟨(.slice 5),1,24,[.ah],false⟩ (.node 4 ⟨.bool,1,1,[.bool],false⟩ (.node 3 ⟨(.int .i64),1,8,[.int .i64],false⟩ (.node 2 ⟨(.int .i64),1,8,[.int .i64],false⟩ .leaf .leaf) .leaf) (.node 9 ⟨.str,1,16,[.str],false⟩ (.node 5 ⟨(.int .u8),1,1,[.int .u8],false⟩ .leaf .leaf) .leaf)) (.node 25 ⟨(.slice 126),1,24,[.ah],false⟩ (.node 24 ⟨(.slice 130),1,24,[.ah],false⟩ (.node 23 ⟨(.slice 103),1,24,[.ah],false⟩ .leaf .leaf) .leaf) (.node 26 ⟨(.slice 3),1,24,[.ah],false⟩ .leaf .leaf))) (.node 42 ⟨(.slice 45),1,24,[.ah],false⟩ (.node 32 ⟨(.slice 48),1,24,[.ah],false⟩ (.node 30 ⟨(.slice 53),1,24,[.ah],false⟩ (.node 28 ⟨(.struct [(0,3),(1,23),(2,24),(3,25),(4,26)]),5,104,[.int .i64,.ah,.ah,.ah,.ah],false⟩ .leaf .leaf) .leaf) (.node 36 ⟨(.struct [(0,26),(1,26),(2,34)]),3,72,[.ah,.ah,.ah],false⟩ (.node 34 ⟨(.slice 26),1,24,[.ah],false⟩ .leaf .leaf) .leaf)) (.node 51 ⟨(.struct [(0,3),(1,3),(2,3),(3,3)]),4,32,[.int .i64,.int .i64,.int .i64,.int .i64],true⟩ (.node 48 ⟨(.slice 82),1,24,[.ah],false⟩ (.node 45 ⟨(.struct [(0,26),(1,26)]),2,48,[.ah,.ah],false⟩ .leaf .leaf) .leaf) (.node 52 ⟨(.struct [(0,3),(1,51),(5,48)]),6,64,[.int .i64,.int .i64,.int .i64,.int .i64,.int .i64,.ah],false⟩ .leaf .leaf)))) (.node 103 ⟨(.struct [(0,9),(1,3),(2,101)]),3,48,[.str,.int .i64,.ah],false⟩ (.node 82 ⟨(.struct [(0,3),(1,3),(2,3)]),3,24,[.int .i64,.int .i64,.int .i64],true⟩ (.node 69 ⟨(.struct [(0,65),(10,45),(12,4),(13,3),(14,4)]),15,296,[.int .i64,.ah,.ah,.ah,.ah,.ah,.ah,.ah,.ah,.ah,.ah,.ah,.bool,.int .i64,.bool],false⟩ (.node 65 ⟨(.struct [(0,28),(5,36),(8,48),(9,30)]),10,224,[.int .i64,.ah,.ah,.ah,.ah,.ah,.ah,.ah,.ah,.ah],false⟩ (.node 64 ⟨(.struct [(0,28),(5,36),(8,48),(9,30)]),10,224,[.int .i64,.ah,.ah,.ah,.ah,.ah,.ah,.ah,.ah,.ah],false⟩ .leaf .leaf) .leaf) (.node 79 ⟨(.struct [(0,22),(1,3),(2,3)]),3,40,[.ah,.int .i64,.int .i64],false⟩ (.node 70 ⟨(.struct [(0,65),(10,45),(12,4),(13,3),(14,4)]),15,296,[.int .i64,.ah,.ah,.ah,.ah,.ah,.ah,.ah,.ah,.ah,.ah,.ah,.bool,.int .i64,.bool],false⟩ .leaf .leaf) .leaf)) (.node 101 ⟨(.slice 177),1,24,[.ah],false⟩ (.node 84 ⟨(.struct [(0,82),(3,51),(7,48)]),8,80,[.int .i64,.int .i64,.int .i64,.int .i64,.int .i64,.int .i64,.int .i64,.ah],false⟩ (.node 83 ⟨(.struct [(0,82),(3,51),(7,48)]),8,80,[.int .i64,.int .i64,.int .i64,.int .i64,.int .i64,.int .i64,.int .i64,.ah],false⟩ .leaf .leaf) .leaf) (.node 102 ⟨(.struct [(0,9),(1,3),(2,101)]),3,48,[.str,.int .i64,.ah],false⟩ .leaf .leaf))) (.node 136 ⟨(.struct [(0,3),(1,3),(2,65),(12,4),(13,4),(14,45)]),16,296,[.int .i64,.int .i64,.int .i64,.ah,.ah,.ah,.ah,.ah,.ah,.ah,.ah,.ah,.bool,.bool,.ah,.ah],false⟩ (.node 126 ⟨(.struct [(0,124),(1,34)]),2,48,[.ah,.ah],false⟩ (.node 125 ⟨(.struct [(0,124),(1,34)]),2,48,[.ah,.ah],false⟩ (.node 124 ⟨(.slice 187),1,24,[.ah],false⟩ .leaf .leaf) .leaf) (.node 135 ⟨(.struct [(0,3),(1,3),(2,65),(12,4),(13,4),(14,45)]),16,296,[.int .i64,.int .i64,.int .i64,.ah,.ah,.ah,.ah,.ah,.ah,.ah,.ah,.ah,.bool,.bool,.ah,.ah],false⟩ (.node 130 ⟨(.struct [(0,3),(1,3),(2,4),(3,3)]),4,32,[.int .i64,.int .i64,.bool,.int .i64],true⟩ .leaf .leaf) .leaf)) (.node 187 ⟨(.struct [(0,3),(1,3)]),2,16,[.int .i64,.int .i64],true⟩ (.node 177 ⟨(.struct [(0,3),(1,26),(2,26)]),3,56,[.int .i64,.ah,.ah],false⟩ (.node 151 ⟨(.slice 51),1,24,[.ah],false⟩ .leaf .leaf) .leaf) (.node 230 ⟨(.slice 9),1,24,[.ah],false⟩ .leaf .leaf)))))
def tab:Nat→Ty:=tree.find
theorem ty2:iN Tryz.prog tab ⟨(.int .i64),1,8,[.int .i64],false⟩ 2:=
 dV (i:=Tryz.t2) (z:=.int .i64 0) (d:=(.int .i64)) (by kernel_rfl) (by kernel_rfl) (by kernel_rfl) (by kernel_rfl) (by kernel_rfl) (by decide) (by decide) (by decide) (by decide) (nofun) (by kernel_rfl) (rfl)
theorem ty3:iN Tryz.prog tab ⟨(.int .i64),1,8,[.int .i64],false⟩ 3:=
 dV (i:=Tryz.t3) (z:=.int .i64 0) (d:=(.int .i64)) (by kernel_rfl) (by kernel_rfl) (by kernel_rfl) (by kernel_rfl) (by kernel_rfl) (by decide) (by decide) (by decide) (by decide) (nofun) (by kernel_rfl) (rfl)
theorem ty4:iN Tryz.prog tab ⟨.bool,1,1,[.bool],false⟩ 4:=
 dV (i:=Tryz.t4) (z:=.bool false) (d:=.bool) (by kernel_rfl) (by kernel_rfl) (by kernel_rfl) (by kernel_rfl) (by kernel_rfl) (by decide) (by decide) (by decide) (by decide) (nofun) (by kernel_rfl) (rfl)
theorem ty5:iN Tryz.prog tab ⟨(.int .u8),1,1,[.int .u8],false⟩ 5:=
 dV (i:=Tryz.t5) (z:=.int .u8 0) (d:=(.int .u8)) (by kernel_rfl) (by kernel_rfl) (by kernel_rfl) (by kernel_rfl) (by kernel_rfl) (by decide) (by decide) (by decide) (by decide) (nofun) (by kernel_rfl) (rfl)
theorem ty9:iN Tryz.prog tab ⟨.str,1,16,[.str],false⟩ 9:=
 dV (i:=Tryz.t9) (z:=.string ⟨#[]⟩) (d:=.string) (by kernel_rfl) (by kernel_rfl) (by kernel_rfl) (by kernel_rfl) (by kernel_rfl) (by decide) (by decide) (by decide) (by decide) (nofun) (by kernel_rfl) (rfl)
theorem aaJ:iN Tryz.prog tab ⟨(.slice 5),1,24,[.ah],false⟩ 22:=
 dV (i:=Tryz.t22) (z:=.slice none 0 0) (d:=(.slice 5)) (by kernel_rfl) (by kernel_rfl) (by kernel_rfl) (by kernel_rfl) (by kernel_rfl) (by decide) (by decide) (by decide) (by decide) (nofun) (by kernel_rfl) (rfl)
theorem aaK:iN Tryz.prog tab ⟨(.slice 103),1,24,[.ah],false⟩ 23:=
 dV (i:=Tryz.t23) (z:=.slice none 0 0) (d:=(.slice 103)) (by kernel_rfl) (by kernel_rfl) (by kernel_rfl) (by kernel_rfl) (by kernel_rfl) (by decide) (by decide) (by decide) (by decide) (nofun) (by kernel_rfl) (rfl)
theorem aaL:iN Tryz.prog tab ⟨(.slice 130),1,24,[.ah],false⟩ 24:=
 dV (i:=Tryz.t24) (z:=.slice none 0 0) (d:=(.slice 130)) (by kernel_rfl) (by kernel_rfl) (by kernel_rfl) (by kernel_rfl) (by kernel_rfl) (by decide) (by decide) (by decide) (by decide) (nofun) (by kernel_rfl) (rfl)
theorem aaM:iN Tryz.prog tab ⟨(.slice 126),1,24,[.ah],false⟩ 25:=
 dV (i:=Tryz.t25) (z:=.slice none 0 0) (d:=(.slice 126)) (by kernel_rfl) (by kernel_rfl) (by kernel_rfl) (by kernel_rfl) (by kernel_rfl) (by decide) (by decide) (by decide) (by decide) (nofun) (by kernel_rfl) (rfl)
theorem aaN:iN Tryz.prog tab ⟨(.slice 3),1,24,[.ah],false⟩ 26:=
 dV (i:=Tryz.t26) (z:=.slice none 0 0) (d:=(.slice 3)) (by kernel_rfl) (by kernel_rfl) (by kernel_rfl) (by kernel_rfl) (by kernel_rfl) (by decide) (by decide) (by decide) (by decide) (nofun) (by kernel_rfl) (rfl)
theorem aaO:iN Tryz.prog tab ⟨(.struct [(0,3),(1,23),(2,24),(3,25),(4,26)]),5,104,[.int .i64,.ah,.ah,.ah,.ah],false⟩ 27:=
 dV (i:=Tryz.t27) (z:=.agg #[.int .i64 0,.slice none 0 0,.slice none 0 0,.slice none 0 0,.slice none 0 0]) (d:=(.struct (Tryz.prog.fieldsOf 27))) (by kernel_rfl) (by kernel_rfl) (by kernel_rfl) (by kernel_rfl) (by kernel_rfl) (by decide) (by decide) (by decide) (by decide) (nofun) (by kernel_rfl) (⟨_,rfl,by kernel_rfl,by decide⟩)
theorem aaP:iN Tryz.prog tab ⟨(.struct [(0,3),(1,23),(2,24),(3,25),(4,26)]),5,104,[.int .i64,.ah,.ah,.ah,.ah],false⟩ 28:=
 dV (i:=Tryz.t28) (z:=.agg #[.int .i64 0,.slice none 0 0,.slice none 0 0,.slice none 0 0,.slice none 0 0]) (d:=(.struct (Tryz.prog.fieldsOf 28))) (by kernel_rfl) (by kernel_rfl) (by kernel_rfl) (by kernel_rfl) (by kernel_rfl) (by decide) (by decide) (by decide) (by decide) (nofun) (by kernel_rfl) (⟨_,rfl,by kernel_rfl,by decide⟩)
theorem aaQ:iN Tryz.prog tab ⟨(.slice 53),1,24,[.ah],false⟩ 30:=
 dV (i:=Tryz.t30) (z:=.slice none 0 0) (d:=(.slice 53)) (by kernel_rfl) (by kernel_rfl) (by kernel_rfl) (by kernel_rfl) (by kernel_rfl) (by decide) (by decide) (by decide) (by decide) (nofun) (by kernel_rfl) (rfl)
theorem aaR:iN Tryz.prog tab ⟨(.slice 48),1,24,[.ah],false⟩ 32:=
 dV (i:=Tryz.t32) (z:=.slice none 0 0) (d:=(.slice 48)) (by kernel_rfl) (by kernel_rfl) (by kernel_rfl) (by kernel_rfl) (by kernel_rfl) (by decide) (by decide) (by decide) (by decide) (nofun) (by kernel_rfl) (rfl)
theorem aaS:iN Tryz.prog tab ⟨(.slice 26),1,24,[.ah],false⟩ 34:=
 dV (i:=Tryz.t34) (z:=.slice none 0 0) (d:=(.slice 26)) (by kernel_rfl) (by kernel_rfl) (by kernel_rfl) (by kernel_rfl) (by kernel_rfl) (by decide) (by decide) (by decide) (by decide) (nofun) (by kernel_rfl) (rfl)
theorem aaT:iN Tryz.prog tab ⟨(.struct [(0,26),(1,26),(2,34)]),3,72,[.ah,.ah,.ah],false⟩ 36:=
 dV (i:=Tryz.t36) (z:=.agg #[.slice none 0 0,.slice none 0 0,.slice none 0 0]) (d:=(.struct (Tryz.prog.fieldsOf 36))) (by kernel_rfl) (by kernel_rfl) (by kernel_rfl) (by kernel_rfl) (by kernel_rfl) (by decide) (by decide) (by decide) (by decide) (nofun) (by kernel_rfl) (⟨_,rfl,by kernel_rfl,by decide⟩)
theorem aaU:iN Tryz.prog tab ⟨(.slice 45),1,24,[.ah],false⟩ 42:=
 dV (i:=Tryz.t42) (z:=.slice none 0 0) (d:=(.slice 45)) (by kernel_rfl) (by kernel_rfl) (by kernel_rfl) (by kernel_rfl) (by kernel_rfl) (by decide) (by decide) (by decide) (by decide) (nofun) (by kernel_rfl) (rfl)
theorem aaV:iN Tryz.prog tab ⟨(.struct [(0,26),(1,26)]),2,48,[.ah,.ah],false⟩ 45:=
 dV (i:=Tryz.t45) (z:=.agg #[.slice none 0 0,.slice none 0 0]) (d:=(.struct (Tryz.prog.fieldsOf 45))) (by kernel_rfl) (by kernel_rfl) (by kernel_rfl) (by kernel_rfl) (by kernel_rfl) (by decide) (by decide) (by decide) (by decide) (nofun) (by kernel_rfl) (⟨_,rfl,by kernel_rfl,by decide⟩)
theorem aaW:iN Tryz.prog tab ⟨(.slice 82),1,24,[.ah],false⟩ 48:=
 dV (i:=Tryz.t48) (z:=.slice none 0 0) (d:=(.slice 82)) (by kernel_rfl) (by kernel_rfl) (by kernel_rfl) (by kernel_rfl) (by kernel_rfl) (by decide) (by decide) (by decide) (by decide) (nofun) (by kernel_rfl) (rfl)
theorem ZO:∀f∈Tryz.prog.fieldsOf 51,f.name≠ "_" :=by
 have h:((Tryz.prog.fieldsOf 51).toList.all fun f=>f.name != "_")=true:=by kernel_rfl
 intro f hf
 have:=List.all_eq_true.1 h f (by simpa using hf)
 simpa using this
theorem aaX:iN Tryz.prog tab ⟨(.struct [(0,3),(1,3),(2,3),(3,3)]),4,32,[.int .i64,.int .i64,.int .i64,.int .i64],true⟩ 51:=
 dV (i:=Tryz.t51) (z:=.agg #[.int .i64 0,.int .i64 0,.int .i64 0,.int .i64 0]) (d:=(.struct (Tryz.prog.fieldsOf 51))) (by kernel_rfl) (by kernel_rfl) (by kernel_rfl) (by kernel_rfl) (by kernel_rfl) (by decide) (by decide) (by decide) (by decide) (fun _=>⟨by kernel_rfl,by kernel_rfl,ZO⟩) (by kernel_rfl) (⟨_,rfl,by kernel_rfl,by decide⟩)
theorem aaY:iN Tryz.prog tab ⟨(.struct [(0,3),(1,51),(5,48)]),6,64,[.int .i64,.int .i64,.int .i64,.int .i64,.int .i64,.ah],false⟩ 52:=
 dV (i:=Tryz.t52) (z:=.agg #[.int .i64 0,.int .i64 0,.int .i64 0,.int .i64 0,.int .i64 0,.slice none 0 0]) (d:=(.struct (Tryz.prog.fieldsOf 52))) (by kernel_rfl) (by kernel_rfl) (by kernel_rfl) (by kernel_rfl) (by kernel_rfl) (by decide) (by decide) (by decide) (by decide) (nofun) (by kernel_rfl) (⟨_,rfl,by kernel_rfl,by decide⟩)
theorem aaZ:iN Tryz.prog tab ⟨(.struct [(0,3),(1,51),(5,48)]),6,64,[.int .i64,.int .i64,.int .i64,.int .i64,.int .i64,.ah],false⟩ 53:=
 dV (i:=Tryz.t53) (z:=.agg #[.int .i64 0,.int .i64 0,.int .i64 0,.int .i64 0,.int .i64 0,.slice none 0 0]) (d:=(.struct (Tryz.prog.fieldsOf 53))) (by kernel_rfl) (by kernel_rfl) (by kernel_rfl) (by kernel_rfl) (by kernel_rfl) (by decide) (by decide) (by decide) (by decide) (nofun) (by kernel_rfl) (⟨_,rfl,by kernel_rfl,by decide⟩)
theorem abb:iN Tryz.prog tab ⟨(.struct [(0,28),(5,36),(8,48),(9,30)]),10,224,[.int .i64,.ah,.ah,.ah,.ah,.ah,.ah,.ah,.ah,.ah],false⟩ 64:=
 dV (i:=Tryz.t64) (z:=.agg #[.int .i64 0,.slice none 0 0,.slice none 0 0,.slice none 0 0,.slice none 0 0,.slice none 0 0,.slice none 0 0,.slice none 0 0,.slice none 0 0,.slice none 0 0]) (d:=(.struct (Tryz.prog.fieldsOf 64))) (by kernel_rfl) (by kernel_rfl) (by kernel_rfl) (by kernel_rfl) (by kernel_rfl) (by decide) (by decide) (by decide) (by decide) (nofun) (by kernel_rfl) (⟨_,rfl,by kernel_rfl,by decide⟩)
theorem abd:iN Tryz.prog tab ⟨(.struct [(0,28),(5,36),(8,48),(9,30)]),10,224,[.int .i64,.ah,.ah,.ah,.ah,.ah,.ah,.ah,.ah,.ah],false⟩ 65:=
 dV (i:=Tryz.t65) (z:=.agg #[.int .i64 0,.slice none 0 0,.slice none 0 0,.slice none 0 0,.slice none 0 0,.slice none 0 0,.slice none 0 0,.slice none 0 0,.slice none 0 0,.slice none 0 0]) (d:=(.struct (Tryz.prog.fieldsOf 65))) (by kernel_rfl) (by kernel_rfl) (by kernel_rfl) (by kernel_rfl) (by kernel_rfl) (by decide) (by decide) (by decide) (by decide) (nofun) (by kernel_rfl) (⟨_,rfl,by kernel_rfl,by decide⟩)
theorem abe:iN Tryz.prog tab ⟨(.struct [(0,65),(10,45),(12,4),(13,3),(14,4)]),15,296,[.int .i64,.ah,.ah,.ah,.ah,.ah,.ah,.ah,.ah,.ah,.ah,.ah,.bool,.int .i64,.bool],false⟩ 69:=
 dV (i:=Tryz.t69) (z:=.agg #[.int .i64 0,.slice none 0 0,.slice none 0 0,.slice none 0 0,.slice none 0 0,.slice none 0 0,.slice none 0 0,.slice none 0 0,.slice none 0 0,.slice none 0 0,.slice none 0 0,.slice none 0 0,.bool false,.int .i64 0,.bool false]) (d:=(.struct (Tryz.prog.fieldsOf 69))) (by kernel_rfl) (by kernel_rfl) (by kernel_rfl) (by kernel_rfl) (by kernel_rfl) (by decide) (by decide) (by decide) (by decide) (nofun) (by kernel_rfl) (⟨_,rfl,by kernel_rfl,by decide⟩)
theorem abf:iN Tryz.prog tab ⟨(.struct [(0,65),(10,45),(12,4),(13,3),(14,4)]),15,296,[.int .i64,.ah,.ah,.ah,.ah,.ah,.ah,.ah,.ah,.ah,.ah,.ah,.bool,.int .i64,.bool],false⟩ 70:=
 dV (i:=Tryz.t70) (z:=.agg #[.int .i64 0,.slice none 0 0,.slice none 0 0,.slice none 0 0,.slice none 0 0,.slice none 0 0,.slice none 0 0,.slice none 0 0,.slice none 0 0,.slice none 0 0,.slice none 0 0,.slice none 0 0,.bool false,.int .i64 0,.bool false]) (d:=(.struct (Tryz.prog.fieldsOf 70))) (by kernel_rfl) (by kernel_rfl) (by kernel_rfl) (by kernel_rfl) (by kernel_rfl) (by decide) (by decide) (by decide) (by decide) (nofun) (by kernel_rfl) (⟨_,rfl,by kernel_rfl,by decide⟩)
theorem abg:iN Tryz.prog tab ⟨(.struct [(0,22),(1,3),(2,3)]),3,40,[.ah,.int .i64,.int .i64],false⟩ 79:=
 dV (i:=Tryz.t79) (z:=.agg #[.slice none 0 0,.int .i64 0,.int .i64 0]) (d:=(.struct (Tryz.prog.fieldsOf 79))) (by kernel_rfl) (by kernel_rfl) (by kernel_rfl) (by kernel_rfl) (by kernel_rfl) (by decide) (by decide) (by decide) (by decide) (nofun) (by kernel_rfl) (⟨_,rfl,by kernel_rfl,by decide⟩)
theorem ZP:∀f∈Tryz.prog.fieldsOf 82,f.name≠ "_" :=by
 have h:((Tryz.prog.fieldsOf 82).toList.all fun f=>f.name != "_")=true:=by kernel_rfl
 intro f hf
 have:=List.all_eq_true.1 h f (by simpa using hf)
 simpa using this
theorem abh:iN Tryz.prog tab ⟨(.struct [(0,3),(1,3),(2,3)]),3,24,[.int .i64,.int .i64,.int .i64],true⟩ 82:=
 dV (i:=Tryz.t82) (z:=.agg #[.int .i64 0,.int .i64 0,.int .i64 0]) (d:=(.struct (Tryz.prog.fieldsOf 82))) (by kernel_rfl) (by kernel_rfl) (by kernel_rfl) (by kernel_rfl) (by kernel_rfl) (by decide) (by decide) (by decide) (by decide) (fun _=>⟨by kernel_rfl,by kernel_rfl,ZP⟩) (by kernel_rfl) (⟨_,rfl,by kernel_rfl,by decide⟩)
theorem abj:iN Tryz.prog tab ⟨(.struct [(0,82),(3,51),(7,48)]),8,80,[.int .i64,.int .i64,.int .i64,.int .i64,.int .i64,.int .i64,.int .i64,.ah],false⟩ 83:=
 dV (i:=Tryz.t83) (z:=.agg #[.int .i64 0,.int .i64 0,.int .i64 0,.int .i64 0,.int .i64 0,.int .i64 0,.int .i64 0,.slice none 0 0]) (d:=(.struct (Tryz.prog.fieldsOf 83))) (by kernel_rfl) (by kernel_rfl) (by kernel_rfl) (by kernel_rfl) (by kernel_rfl) (by decide) (by decide) (by decide) (by decide) (nofun) (by kernel_rfl) (⟨_,rfl,by kernel_rfl,by decide⟩)
theorem abk:iN Tryz.prog tab ⟨(.struct [(0,82),(3,51),(7,48)]),8,80,[.int .i64,.int .i64,.int .i64,.int .i64,.int .i64,.int .i64,.int .i64,.ah],false⟩ 84:=
 dV (i:=Tryz.t84) (z:=.agg #[.int .i64 0,.int .i64 0,.int .i64 0,.int .i64 0,.int .i64 0,.int .i64 0,.int .i64 0,.slice none 0 0]) (d:=(.struct (Tryz.prog.fieldsOf 84))) (by kernel_rfl) (by kernel_rfl) (by kernel_rfl) (by kernel_rfl) (by kernel_rfl) (by decide) (by decide) (by decide) (by decide) (nofun) (by kernel_rfl) (⟨_,rfl,by kernel_rfl,by decide⟩)
theorem ZQ:iN Tryz.prog tab ⟨(.slice 177),1,24,[.ah],false⟩ 101:=
 dV (i:=Tryz.t101) (z:=.slice none 0 0) (d:=(.slice 177)) (by kernel_rfl) (by kernel_rfl) (by kernel_rfl) (by kernel_rfl) (by kernel_rfl) (by decide) (by decide) (by decide) (by decide) (nofun) (by kernel_rfl) (rfl)
theorem ZR:iN Tryz.prog tab ⟨(.struct [(0,9),(1,3),(2,101)]),3,48,[.str,.int .i64,.ah],false⟩ 102:=
 dV (i:=Tryz.t102) (z:=.agg #[.string ⟨#[]⟩,.int .i64 0,.slice none 0 0]) (d:=(.struct (Tryz.prog.fieldsOf 102))) (by kernel_rfl) (by kernel_rfl) (by kernel_rfl) (by kernel_rfl) (by kernel_rfl) (by decide) (by decide) (by decide) (by decide) (nofun) (by kernel_rfl) (⟨_,rfl,by kernel_rfl,by decide⟩)
theorem ZT:iN Tryz.prog tab ⟨(.struct [(0,9),(1,3),(2,101)]),3,48,[.str,.int .i64,.ah],false⟩ 103:=
 dV (i:=Tryz.t103) (z:=.agg #[.string ⟨#[]⟩,.int .i64 0,.slice none 0 0]) (d:=(.struct (Tryz.prog.fieldsOf 103))) (by kernel_rfl) (by kernel_rfl) (by kernel_rfl) (by kernel_rfl) (by kernel_rfl) (by decide) (by decide) (by decide) (by decide) (nofun) (by kernel_rfl) (⟨_,rfl,by kernel_rfl,by decide⟩)
theorem ZU:iN Tryz.prog tab ⟨(.slice 187),1,24,[.ah],false⟩ 124:=
 dV (i:=Tryz.t124) (z:=.slice none 0 0) (d:=(.slice 187)) (by kernel_rfl) (by kernel_rfl) (by kernel_rfl) (by kernel_rfl) (by kernel_rfl) (by decide) (by decide) (by decide) (by decide) (nofun) (by kernel_rfl) (rfl)
theorem ZV:iN Tryz.prog tab ⟨(.struct [(0,124),(1,34)]),2,48,[.ah,.ah],false⟩ 125:=
 dV (i:=Tryz.t125) (z:=.agg #[.slice none 0 0,.slice none 0 0]) (d:=(.struct (Tryz.prog.fieldsOf 125))) (by kernel_rfl) (by kernel_rfl) (by kernel_rfl) (by kernel_rfl) (by kernel_rfl) (by decide) (by decide) (by decide) (by decide) (nofun) (by kernel_rfl) (⟨_,rfl,by kernel_rfl,by decide⟩)
theorem ZW:iN Tryz.prog tab ⟨(.struct [(0,124),(1,34)]),2,48,[.ah,.ah],false⟩ 126:=
 dV (i:=Tryz.t126) (z:=.agg #[.slice none 0 0,.slice none 0 0]) (d:=(.struct (Tryz.prog.fieldsOf 126))) (by kernel_rfl) (by kernel_rfl) (by kernel_rfl) (by kernel_rfl) (by kernel_rfl) (by decide) (by decide) (by decide) (by decide) (nofun) (by kernel_rfl) (⟨_,rfl,by kernel_rfl,by decide⟩)
theorem YO:∀f∈Tryz.prog.fieldsOf 130,f.name≠ "_" :=by
 have h:((Tryz.prog.fieldsOf 130).toList.all fun f=>f.name != "_")=true:=by kernel_rfl
 intro f hf
 have:=List.all_eq_true.1 h f (by simpa using hf)
 simpa using this
theorem ZX:iN Tryz.prog tab ⟨(.struct [(0,3),(1,3),(2,4),(3,3)]),4,32,[.int .i64,.int .i64,.bool,.int .i64],true⟩ 130:=
 dV (i:=Tryz.t130) (z:=.agg #[.int .i64 0,.int .i64 0,.bool false,.int .i64 0]) (d:=(.struct (Tryz.prog.fieldsOf 130))) (by kernel_rfl) (by kernel_rfl) (by kernel_rfl) (by kernel_rfl) (by kernel_rfl) (by decide) (by decide) (by decide) (by decide) (fun _=>⟨by kernel_rfl,by kernel_rfl,YO⟩) (by kernel_rfl) (⟨_,rfl,by kernel_rfl,by decide⟩)
theorem ZY:iN Tryz.prog tab ⟨(.struct [(0,3),(1,3),(2,65),(12,4),(13,4),(14,45)]),16,296,[.int .i64,.int .i64,.int .i64,.ah,.ah,.ah,.ah,.ah,.ah,.ah,.ah,.ah,.bool,.bool,.ah,.ah],false⟩ 135:=
 dV (i:=Tryz.t135) (z:=.agg #[.int .i64 0,.int .i64 0,.int .i64 0,.slice none 0 0,.slice none 0 0,.slice none 0 0,.slice none 0 0,.slice none 0 0,.slice none 0 0,.slice none 0 0,.slice none 0 0,.slice none 0 0,.bool false,.bool false,.slice none 0 0,.slice none 0 0]) (d:=(.struct (Tryz.prog.fieldsOf 135))) (by kernel_rfl) (by kernel_rfl) (by kernel_rfl) (by kernel_rfl) (by kernel_rfl) (by decide) (by decide) (by decide) (by decide) (nofun) (by kernel_rfl) (⟨_,rfl,by kernel_rfl,by decide⟩)
theorem aac:iN Tryz.prog tab ⟨(.struct [(0,3),(1,3),(2,65),(12,4),(13,4),(14,45)]),16,296,[.int .i64,.int .i64,.int .i64,.ah,.ah,.ah,.ah,.ah,.ah,.ah,.ah,.ah,.bool,.bool,.ah,.ah],false⟩ 136:=
 dV (i:=Tryz.t136) (z:=.agg #[.int .i64 0,.int .i64 0,.int .i64 0,.slice none 0 0,.slice none 0 0,.slice none 0 0,.slice none 0 0,.slice none 0 0,.slice none 0 0,.slice none 0 0,.slice none 0 0,.slice none 0 0,.bool false,.bool false,.slice none 0 0,.slice none 0 0]) (d:=(.struct (Tryz.prog.fieldsOf 136))) (by kernel_rfl) (by kernel_rfl) (by kernel_rfl) (by kernel_rfl) (by kernel_rfl) (by decide) (by decide) (by decide) (by decide) (nofun) (by kernel_rfl) (⟨_,rfl,by kernel_rfl,by decide⟩)
theorem aad:iN Tryz.prog tab ⟨(.slice 51),1,24,[.ah],false⟩ 151:=
 dV (i:=Tryz.t151) (z:=.slice none 0 0) (d:=(.slice 51)) (by kernel_rfl) (by kernel_rfl) (by kernel_rfl) (by kernel_rfl) (by kernel_rfl) (by decide) (by decide) (by decide) (by decide) (nofun) (by kernel_rfl) (rfl)
theorem aae:iN Tryz.prog tab ⟨(.struct [(0,3),(1,26),(2,26)]),3,56,[.int .i64,.ah,.ah],false⟩ 177:=
 dV (i:=Tryz.t177) (z:=.agg #[.int .i64 0,.slice none 0 0,.slice none 0 0]) (d:=(.struct (Tryz.prog.fieldsOf 177))) (by kernel_rfl) (by kernel_rfl) (by kernel_rfl) (by kernel_rfl) (by kernel_rfl) (by decide) (by decide) (by decide) (by decide) (nofun) (by kernel_rfl) (⟨_,rfl,by kernel_rfl,by decide⟩)
theorem YP:∀f∈Tryz.prog.fieldsOf 187,f.name≠ "_" :=by
 have h:((Tryz.prog.fieldsOf 187).toList.all fun f=>f.name != "_")=true:=by kernel_rfl
 intro f hf
 have:=List.all_eq_true.1 h f (by simpa using hf)
 simpa using this
theorem aaf:iN Tryz.prog tab ⟨(.struct [(0,3),(1,3)]),2,16,[.int .i64,.int .i64],true⟩ 187:=
 dV (i:=Tryz.t187) (z:=.agg #[.int .i64 0,.int .i64 0]) (d:=(.struct (Tryz.prog.fieldsOf 187))) (by kernel_rfl) (by kernel_rfl) (by kernel_rfl) (by kernel_rfl) (by kernel_rfl) (by decide) (by decide) (by decide) (by decide) (fun _=>⟨by kernel_rfl,by kernel_rfl,YP⟩) (by kernel_rfl) (⟨_,rfl,by kernel_rfl,by decide⟩)
theorem aag:iN Tryz.prog tab ⟨(.slice 9),1,24,[.ah],false⟩ 230:=
 dV (i:=Tryz.t230) (z:=.slice none 0 0) (d:=(.slice 9)) (by kernel_rfl) (by kernel_rfl) (by kernel_rfl) (by kernel_rfl) (by kernel_rfl) (by decide) (by decide) (by decide) (by decide) (nofun) (by kernel_rfl) (rfl)
theorem aah:bP Tryz.prog tab:=YN ⟨aaZ,⟨aaO,⟨aaJ,⟨ty4,⟨ty3,⟨ty2,trivial,trivial⟩,trivial⟩,⟨ty9,⟨ty5,trivial,trivial⟩,trivial⟩⟩,⟨aaM,⟨aaL,⟨aaK,trivial,trivial⟩,trivial⟩,⟨aaN,trivial,trivial⟩⟩⟩,⟨aaU,⟨aaR,⟨aaQ,⟨aaP,trivial,trivial⟩,trivial⟩,⟨aaT,⟨aaS,trivial,trivial⟩,trivial⟩⟩,⟨aaX,⟨aaW,⟨aaV,trivial,trivial⟩,trivial⟩,⟨aaY,trivial,trivial⟩⟩⟩⟩,⟨ZT,⟨abh,⟨abe,⟨abd,⟨abb,trivial,trivial⟩,trivial⟩,⟨abg,⟨abf,trivial,trivial⟩,trivial⟩⟩,⟨ZQ,⟨abk,⟨abj,trivial,trivial⟩,trivial⟩,⟨ZR,trivial,trivial⟩⟩⟩,⟨aac,⟨ZW,⟨ZV,⟨ZU,trivial,trivial⟩,trivial⟩,⟨ZY,⟨ZX,trivial,trivial⟩,trivial⟩⟩,⟨aaf,⟨aae,⟨aad,trivial,trivial⟩,trivial⟩,⟨aag,trivial,trivial⟩⟩⟩⟩⟩
end Go.Proofs.YtefgamefajmdkaaGreat.Abs
