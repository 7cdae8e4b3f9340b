/- The table of the types of this seat: what the abstract layer must know of them, by closed facts. Printed by gentab.py. -/
import Derived.Test.YtmenphiahgkjkaaGreatDoorPlain
import Derived.Test.YtmenphiahgkjkaaGreatDoorProg
import Derived.KernelRfl
set_option linter.all false
namespace Go.Proofs.YtmenphiahgkjkaaGreatDoor.Abs
open Go.Proofs
def tree:Tree:=(.node 44 ⟨(.slice 40),1,24,[.ah],false⟩ (.node 27 ⟨(.struct [(0,3),(1,23),(2,24),(3,25),(4,26)]),5,104,[.int .i64,.ah,.ah,.ah,.ah],false⟩ (.node 22 ⟨(.slice 5),1,24,[.ah],false⟩ (.node 4 ⟨.bool,1,1,[.bool],false⟩ (.node 3 ⟨(.int .i64),1,8,[.int .i64],false⟩ (.node 2 ⟨(.int .i64),1,8,[.int .i64],false⟩ .leaf .leaf) .leaf) (.node 9 ⟨.str,1,16,[.str],false⟩ (.node 5 ⟨(.int .u8),1,1,[.int .u8],false⟩ .leaf .leaf) .leaf)) (.node 25 ⟨(.slice 96),1,24,[.ah],false⟩ (.node 24 ⟨(.slice 104),1,24,[.ah],false⟩ (.node 23 ⟨(.slice 101),1,24,[.ah],false⟩ .leaf .leaf) .leaf) (.node 26 ⟨(.slice 3),1,24,[.ah],false⟩ .leaf .leaf))) (.node 35 ⟨(.struct [(0,28),(5,32),(8,33),(9,34)]),10,224,[.int .i64,.ah,.ah,.ah,.ah,.ah,.ah,.ah,.ah,.ah],false⟩ (.node 32 ⟨(.struct [(0,26),(1,26),(2,30)]),3,72,[.ah,.ah,.ah],false⟩ (.node 30 ⟨(.slice 26),1,24,[.ah],false⟩ (.node 28 ⟨(.struct [(0,3),(1,23),(2,24),(3,25),(4,26)]),5,104,[.int .i64,.ah,.ah,.ah,.ah],false⟩ .leaf .leaf) .leaf) (.node 34 ⟨(.slice 75),1,24,[.ah],false⟩ (.node 33 ⟨(.slice 79),1,24,[.ah],false⟩ .leaf .leaf) .leaf)) (.node 41 ⟨(.struct [(0,36),(10,40),(12,4),(13,3),(14,4)]),15,296,[.int .i64,.ah,.ah,.ah,.ah,.ah,.ah,.ah,.ah,.ah,.ah,.ah,.bool,.int .i64,.bool],false⟩ (.node 40 ⟨(.struct [(0,26),(1,26)]),2,48,[.ah,.ah],false⟩ (.node 36 ⟨(.struct [(0,28),(5,32),(8,33),(9,34)]),10,224,[.int .i64,.ah,.ah,.ah,.ah,.ah,.ah,.ah,.ah,.ah],false⟩ .leaf .leaf) .leaf) (.node 42 ⟨(.struct [(0,36),(10,40),(12,4),(13,3),(14,4)]),15,296,[.int .i64,.ah,.ah,.ah,.ah,.ah,.ah,.ah,.ah,.ah,.ah,.ah,.bool,.int .i64,.bool],false⟩ .leaf .leaf)))) (.node 95 ⟨(.struct [(0,93),(1,30)]),2,48,[.ah,.ah],false⟩ (.node 79 ⟨(.struct [(0,3),(1,3),(2,3)]),3,24,[.int .i64,.int .i64,.int .i64],true⟩ (.node 73 ⟨(.struct [(0,3),(1,3),(2,3),(3,3)]),4,32,[.int .i64,.int .i64,.int .i64,.int .i64],true⟩ (.node 63 ⟨(.struct [(0,3),(1,3),(2,36),(12,4),(13,4),(14,40)]),16,296,[.int .i64,.int .i64,.int .i64,.ah,.ah,.ah,.ah,.ah,.ah,.ah,.ah,.ah,.bool,.bool,.ah,.ah],false⟩ (.node 62 ⟨(.struct [(0,3),(1,3),(2,36),(12,4),(13,4),(14,40)]),16,296,[.int .i64,.int .i64,.int .i64,.ah,.ah,.ah,.ah,.ah,.ah,.ah,.ah,.ah,.bool,.bool,.ah,.ah],false⟩ .leaf .leaf) .leaf) (.node 75 ⟨(.struct [(0,3),(1,73),(5,33)]),6,64,[.int .i64,.int .i64,.int .i64,.int .i64,.int .i64,.ah],false⟩ (.node 74 ⟨(.struct [(0,3),(1,73),(5,33)]),6,64,[.int .i64,.int .i64,.int .i64,.int .i64,.int .i64,.ah],false⟩ .leaf .leaf) .leaf)) (.node 92 ⟨(.struct [(0,22),(1,3),(2,3)]),3,40,[.ah,.int .i64,.int .i64],false⟩ (.node 87 ⟨(.slice 73),1,24,[.ah],false⟩ (.node 84 ⟨(.slice 33),1,24,[.ah],false⟩ .leaf .leaf) .leaf) (.node 93 ⟨(.slice 117),1,24,[.ah],false⟩ .leaf .leaf))) (.node 114 ⟨(.struct [(0,3),(1,26),(2,26)]),3,56,[.int .i64,.ah,.ah],false⟩ (.node 100 ⟨(.struct [(0,9),(1,3),(2,99)]),3,48,[.str,.int .i64,.ah],false⟩ (.node 99 ⟨(.slice 114),1,24,[.ah],false⟩ (.node 96 ⟨(.struct [(0,93),(1,30)]),2,48,[.ah,.ah],false⟩ .leaf .leaf) .leaf) (.node 104 ⟨(.struct [(0,3),(1,3),(2,4),(3,3)]),4,32,[.int .i64,.int .i64,.bool,.int .i64],true⟩ (.node 101 ⟨(.struct [(0,9),(1,3),(2,99)]),3,48,[.str,.int .i64,.ah],false⟩ .leaf .leaf) .leaf)) (.node 158 ⟨(.struct [(0,79),(3,73),(7,33)]),8,80,[.int .i64,.int .i64,.int .i64,.int .i64,.int .i64,.int .i64,.int .i64,.ah],false⟩ (.node 157 ⟨(.struct [(0,79),(3,73),(7,33)]),8,80,[.int .i64,.int .i64,.int .i64,.int .i64,.int .i64,.int .i64,.int .i64,.ah],false⟩ (.node 117 ⟨(.struct [(0,3),(1,3)]),2,16,[.int .i64,.int .i64],true⟩ .leaf .leaf) .leaf) (.node 181 ⟨(.slice 9),1,24,[.ah],false⟩ .leaf .leaf)))))
def tab:Nat→Ty:=tree.find
theorem ty2:jc Tryz.prog tab ⟨(.int .i64),1,8,[.int .i64],false⟩ 2:=
 eX (i:=Tryz.t2) (z:=.int .i64 0) (d:=(.int .i64)) (by kernel_rfl) (by kernel_rfl) (by kernel_rfl) (by kernel_rfl) (by kernel_rfl) (by decide) (by decide) (by decide) (by decide) (nofun) (by kernel_rfl) (rfl)
theorem ty3:jc Tryz.prog tab ⟨(.int .i64),1,8,[.int .i64],false⟩ 3:=
 eX (i:=Tryz.t3) (z:=.int .i64 0) (d:=(.int .i64)) (by kernel_rfl) (by kernel_rfl) (by kernel_rfl) (by kernel_rfl) (by kernel_rfl) (by decide) (by decide) (by decide) (by decide) (nofun) (by kernel_rfl) (rfl)
theorem ty4:jc Tryz.prog tab ⟨.bool,1,1,[.bool],false⟩ 4:=
 eX (i:=Tryz.t4) (z:=.bool false) (d:=.bool) (by kernel_rfl) (by kernel_rfl) (by kernel_rfl) (by kernel_rfl) (by kernel_rfl) (by decide) (by decide) (by decide) (by decide) (nofun) (by kernel_rfl) (rfl)
theorem ty5:jc Tryz.prog tab ⟨(.int .u8),1,1,[.int .u8],false⟩ 5:=
 eX (i:=Tryz.t5) (z:=.int .u8 0) (d:=(.int .u8)) (by kernel_rfl) (by kernel_rfl) (by kernel_rfl) (by kernel_rfl) (by kernel_rfl) (by decide) (by decide) (by decide) (by decide) (nofun) (by kernel_rfl) (rfl)
theorem ty9:jc Tryz.prog tab ⟨.str,1,16,[.str],false⟩ 9:=
 eX (i:=Tryz.t9) (z:=.string ⟨#[]⟩) (d:=.string) (by kernel_rfl) (by kernel_rfl) (by kernel_rfl) (by kernel_rfl) (by kernel_rfl) (by decide) (by decide) (by decide) (by decide) (nofun) (by kernel_rfl) (rfl)
theorem adx:jc Tryz.prog tab ⟨(.slice 5),1,24,[.ah],false⟩ 22:=
 eX (i:=Tryz.t22) (z:=.slice none 0 0) (d:=(.slice 5)) (by kernel_rfl) (by kernel_rfl) (by kernel_rfl) (by kernel_rfl) (by kernel_rfl) (by decide) (by decide) (by decide) (by decide) (nofun) (by kernel_rfl) (rfl)
theorem ady:jc Tryz.prog tab ⟨(.slice 101),1,24,[.ah],false⟩ 23:=
 eX (i:=Tryz.t23) (z:=.slice none 0 0) (d:=(.slice 101)) (by kernel_rfl) (by kernel_rfl) (by kernel_rfl) (by kernel_rfl) (by kernel_rfl) (by decide) (by decide) (by decide) (by decide) (nofun) (by kernel_rfl) (rfl)
theorem adz:jc Tryz.prog tab ⟨(.slice 104),1,24,[.ah],false⟩ 24:=
 eX (i:=Tryz.t24) (z:=.slice none 0 0) (d:=(.slice 104)) (by kernel_rfl) (by kernel_rfl) (by kernel_rfl) (by kernel_rfl) (by kernel_rfl) (by decide) (by decide) (by decide) (by decide) (nofun) (by kernel_rfl) (rfl)
theorem adA:jc Tryz.prog tab ⟨(.slice 96),1,24,[.ah],false⟩ 25:=
 eX (i:=Tryz.t25) (z:=.slice none 0 0) (d:=(.slice 96)) (by kernel_rfl) (by kernel_rfl) (by kernel_rfl) (by kernel_rfl) (by kernel_rfl) (by decide) (by decide) (by decide) (by decide) (nofun) (by kernel_rfl) (rfl)
theorem adB:jc Tryz.prog tab ⟨(.slice 3),1,24,[.ah],false⟩ 26:=
 eX (i:=Tryz.t26) (z:=.slice none 0 0) (d:=(.slice 3)) (by kernel_rfl) (by kernel_rfl) (by kernel_rfl) (by kernel_rfl) (by kernel_rfl) (by decide) (by decide) (by decide) (by decide) (nofun) (by kernel_rfl) (rfl)
theorem adC:jc Tryz.prog tab ⟨(.struct [(0,3),(1,23),(2,24),(3,25),(4,26)]),5,104,[.int .i64,.ah,.ah,.ah,.ah],false⟩ 27:=
 eX (i:=Tryz.t27) (z:=.agg #[.int .i64 0,.slice none 0 0,.slice none 0 0,.slice none 0 0,.slice none 0 0]) (d:=(.struct (Tryz.prog.fieldsOf 27))) (by kernel_rfl) (by kernel_rfl) (by kernel_rfl) (by kernel_rfl) (by kernel_rfl) (by decide) (by decide) (by decide) (by decide) (nofun) (by kernel_rfl) (⟨_,rfl,by kernel_rfl,by decide⟩)
theorem adD:jc Tryz.prog tab ⟨(.struct [(0,3),(1,23),(2,24),(3,25),(4,26)]),5,104,[.int .i64,.ah,.ah,.ah,.ah],false⟩ 28:=
 eX (i:=Tryz.t28) (z:=.agg #[.int .i64 0,.slice none 0 0,.slice none 0 0,.slice none 0 0,.slice none 0 0]) (d:=(.struct (Tryz.prog.fieldsOf 28))) (by kernel_rfl) (by kernel_rfl) (by kernel_rfl) (by kernel_rfl) (by kernel_rfl) (by decide) (by decide) (by decide) (by decide) (nofun) (by kernel_rfl) (⟨_,rfl,by kernel_rfl,by decide⟩)
theorem adE:jc Tryz.prog tab ⟨(.slice 26),1,24,[.ah],false⟩ 30:=
 eX (i:=Tryz.t30) (z:=.slice none 0 0) (d:=(.slice 26)) (by kernel_rfl) (by kernel_rfl) (by kernel_rfl) (by kernel_rfl) (by kernel_rfl) (by decide) (by decide) (by decide) (by decide) (nofun) (by kernel_rfl) (rfl)
theorem adF:jc Tryz.prog tab ⟨(.struct [(0,26),(1,26),(2,30)]),3,72,[.ah,.ah,.ah],false⟩ 32:=
 eX (i:=Tryz.t32) (z:=.agg #[.slice none 0 0,.slice none 0 0,.slice none 0 0]) (d:=(.struct (Tryz.prog.fieldsOf 32))) (by kernel_rfl) (by kernel_rfl) (by kernel_rfl) (by kernel_rfl) (by kernel_rfl) (by decide) (by decide) (by decide) (by decide) (nofun) (by kernel_rfl) (⟨_,rfl,by kernel_rfl,by decide⟩)
theorem adG:jc Tryz.prog tab ⟨(.slice 79),1,24,[.ah],false⟩ 33:=
 eX (i:=Tryz.t33) (z:=.slice none 0 0) (d:=(.slice 79)) (by kernel_rfl) (by kernel_rfl) (by kernel_rfl) (by kernel_rfl) (by kernel_rfl) (by decide) (by decide) (by decide) (by decide) (nofun) (by kernel_rfl) (rfl)
theorem adH:jc Tryz.prog tab ⟨(.slice 75),1,24,[.ah],false⟩ 34:=
 eX (i:=Tryz.t34) (z:=.slice none 0 0) (d:=(.slice 75)) (by kernel_rfl) (by kernel_rfl) (by kernel_rfl) (by kernel_rfl) (by kernel_rfl) (by decide) (by decide) (by decide) (by decide) (nofun) (by kernel_rfl) (rfl)
theorem adI:jc Tryz.prog tab ⟨(.struct [(0,28),(5,32),(8,33),(9,34)]),10,224,[.int .i64,.ah,.ah,.ah,.ah,.ah,.ah,.ah,.ah,.ah],false⟩ 35:=
 eX (i:=Tryz.t35) (z:=.agg #[.int .i64 0,.slice none 0 0,.slice none 0 0,.slice none 0 0,.slice none 0 0,.slice none 0 0,.slice none 0 0,.slice none 0 0,.slice none 0 0,.slice none 0 0]) (d:=(.struct (Tryz.prog.fieldsOf 35))) (by kernel_rfl) (by kernel_rfl) (by kernel_rfl) (by kernel_rfl) (by kernel_rfl) (by decide) (by decide) (by decide) (by decide) (nofun) (by kernel_rfl) (⟨_,rfl,by kernel_rfl,by decide⟩)
theorem adJ:jc Tryz.prog tab ⟨(.struct [(0,28),(5,32),(8,33),(9,34)]),10,224,[.int .i64,.ah,.ah,.ah,.ah,.ah,.ah,.ah,.ah,.ah],false⟩ 36:=
 eX (i:=Tryz.t36) (z:=.agg #[.int .i64 0,.slice none 0 0,.slice none 0 0,.slice none 0 0,.slice none 0 0,.slice none 0 0,.slice none 0 0,.slice none 0 0,.slice none 0 0,.slice none 0 0]) (d:=(.struct (Tryz.prog.fieldsOf 36))) (by kernel_rfl) (by kernel_rfl) (by kernel_rfl) (by kernel_rfl) (by kernel_rfl) (by decide) (by decide) (by decide) (by decide) (nofun) (by kernel_rfl) (⟨_,rfl,by kernel_rfl,by decide⟩)
theorem adK:jc Tryz.prog tab ⟨(.struct [(0,26),(1,26)]),2,48,[.ah,.ah],false⟩ 40:=
 eX (i:=Tryz.t40) (z:=.agg #[.slice none 0 0,.slice none 0 0]) (d:=(.struct (Tryz.prog.fieldsOf 40))) (by kernel_rfl) (by kernel_rfl) (by kernel_rfl) (by kernel_rfl) (by kernel_rfl) (by decide) (by decide) (by decide) (by decide) (nofun) (by kernel_rfl) (⟨_,rfl,by kernel_rfl,by decide⟩)
theorem adL:jc Tryz.prog tab ⟨(.struct [(0,36),(10,40),(12,4),(13,3),(14,4)]),15,296,[.int .i64,.ah,.ah,.ah,.ah,.ah,.ah,.ah,.ah,.ah,.ah,.ah,.bool,.int .i64,.bool],false⟩ 41:=
 eX (i:=Tryz.t41) (z:=.agg #[.int .i64 0,.slice none 0 0,.slice none 0 0,.slice none 0 0,.slice none 0 0,.slice none 0 0,.slice none 0 0,.slice none 0 0,.slice none 0 0,.slice none 0 0,.slice none 0 0,.slice none 0 0,.bool false,.int .i64 0,.bool false]) (d:=(.struct (Tryz.prog.fieldsOf 41))) (by kernel_rfl) (by kernel_rfl) (by kernel_rfl) (by kernel_rfl) (by kernel_rfl) (by decide) (by decide) (by decide) (by decide) (nofun) (by kernel_rfl) (⟨_,rfl,by kernel_rfl,by decide⟩)
theorem adM:jc Tryz.prog tab ⟨(.struct [(0,36),(10,40),(12,4),(13,3),(14,4)]),15,296,[.int .i64,.ah,.ah,.ah,.ah,.ah,.ah,.ah,.ah,.ah,.ah,.ah,.bool,.int .i64,.bool],false⟩ 42:=
 eX (i:=Tryz.t42) (z:=.agg #[.int .i64 0,.slice none 0 0,.slice none 0 0,.slice none 0 0,.slice none 0 0,.slice none 0 0,.slice none 0 0,.slice none 0 0,.slice none 0 0,.slice none 0 0,.slice none 0 0,.slice none 0 0,.bool false,.int .i64 0,.bool false]) (d:=(.struct (Tryz.prog.fieldsOf 42))) (by kernel_rfl) (by kernel_rfl) (by kernel_rfl) (by kernel_rfl) (by kernel_rfl) (by decide) (by decide) (by decide) (by decide) (nofun) (by kernel_rfl) (⟨_,rfl,by kernel_rfl,by decide⟩)
theorem adN:jc Tryz.prog tab ⟨(.slice 40),1,24,[.ah],false⟩ 44:=
 eX (i:=Tryz.t44) (z:=.slice none 0 0) (d:=(.slice 40)) (by kernel_rfl) (by kernel_rfl) (by kernel_rfl) (by kernel_rfl) (by kernel_rfl) (by decide) (by decide) (by decide) (by decide) (nofun) (by kernel_rfl) (rfl)
theorem adO:jc Tryz.prog tab ⟨(.struct [(0,3),(1,3),(2,36),(12,4),(13,4),(14,40)]),16,296,[.int .i64,.int .i64,.int .i64,.ah,.ah,.ah,.ah,.ah,.ah,.ah,.ah,.ah,.bool,.bool,.ah,.ah],false⟩ 62:=
 eX (i:=Tryz.t62) (z:=.agg #[.int .i64 0,.int .i64 0,.int .i64 0,.slice none 0 0,.slice none 0 0,.slice none 0 0,.slice none 0 0,.slice none 0 0,.slice none 0 0,.slice none 0 0,.slice none 0 0,.slice none 0 0,.bool false,.bool false,.slice none 0 0,.slice none 0 0]) (d:=(.struct (Tryz.prog.fieldsOf 62))) (by kernel_rfl) (by kernel_rfl) (by kernel_rfl) (by kernel_rfl) (by kernel_rfl) (by decide) (by decide) (by decide) (by decide) (nofun) (by kernel_rfl) (⟨_,rfl,by kernel_rfl,by decide⟩)
theorem adP:jc Tryz.prog tab ⟨(.struct [(0,3),(1,3),(2,36),(12,4),(13,4),(14,40)]),16,296,[.int .i64,.int .i64,.int .i64,.ah,.ah,.ah,.ah,.ah,.ah,.ah,.ah,.ah,.bool,.bool,.ah,.ah],false⟩ 63:=
 eX (i:=Tryz.t63) (z:=.agg #[.int .i64 0,.int .i64 0,.int .i64 0,.slice none 0 0,.slice none 0 0,.slice none 0 0,.slice none 0 0,.slice none 0 0,.slice none 0 0,.slice none 0 0,.slice none 0 0,.slice none 0 0,.bool false,.bool false,.slice none 0 0,.slice none 0 0]) (d:=(.struct (Tryz.prog.fieldsOf 63))) (by kernel_rfl) (by kernel_rfl) (by kernel_rfl) (by kernel_rfl) (by kernel_rfl) (by decide) (by decide) (by decide) (by decide) (nofun) (by kernel_rfl) (⟨_,rfl,by kernel_rfl,by decide⟩)
theorem acJ:∀f∈Tryz.prog.fieldsOf 73,f.name≠ "_" :=by
 have h:((Tryz.prog.fieldsOf 73).toList.all fun f=>f.name != "_")=true:=by kernel_rfl
 intro f hf
 have:=List.all_eq_true.1 h f (by simpa using hf)
 simpa using this
theorem adQ:jc Tryz.prog tab ⟨(.struct [(0,3),(1,3),(2,3),(3,3)]),4,32,[.int .i64,.int .i64,.int .i64,.int .i64],true⟩ 73:=
 eX (i:=Tryz.t73) (z:=.agg #[.int .i64 0,.int .i64 0,.int .i64 0,.int .i64 0]) (d:=(.struct (Tryz.prog.fieldsOf 73))) (by kernel_rfl) (by kernel_rfl) (by kernel_rfl) (by kernel_rfl) (by kernel_rfl) (by decide) (by decide) (by decide) (by decide) (fun _=>⟨by kernel_rfl,by kernel_rfl,acJ⟩) (by kernel_rfl) (⟨_,rfl,by kernel_rfl,by decide⟩)
theorem adR:jc Tryz.prog tab ⟨(.struct [(0,3),(1,73),(5,33)]),6,64,[.int .i64,.int .i64,.int .i64,.int .i64,.int .i64,.ah],false⟩ 74:=
 eX (i:=Tryz.t74) (z:=.agg #[.int .i64 0,.int .i64 0,.int .i64 0,.int .i64 0,.int .i64 0,.slice none 0 0]) (d:=(.struct (Tryz.prog.fieldsOf 74))) (by kernel_rfl) (by kernel_rfl) (by kernel_rfl) (by kernel_rfl) (by kernel_rfl) (by decide) (by decide) (by decide) (by decide) (nofun) (by kernel_rfl) (⟨_,rfl,by kernel_rfl,by decide⟩)
theorem adS:jc Tryz.prog tab ⟨(.struct [(0,3),(1,73),(5,33)]),6,64,[.int .i64,.int .i64,.int .i64,.int .i64,.int .i64,.ah],false⟩ 75:=
 eX (i:=Tryz.t75) (z:=.agg #[.int .i64 0,.int .i64 0,.int .i64 0,.int .i64 0,.int .i64 0,.slice none 0 0]) (d:=(.struct (Tryz.prog.fieldsOf 75))) (by kernel_rfl) (by kernel_rfl) (by kernel_rfl) (by kernel_rfl) (by kernel_rfl) (by decide) (by decide) (by decide) (by decide) (nofun) (by kernel_rfl) (⟨_,rfl,by kernel_rfl,by decide⟩)
theorem acK:∀f∈Tryz.prog.fieldsOf 79,f.name≠ "_" :=by
 have h:((Tryz.prog.fieldsOf 79).toList.all fun f=>f.name != "_")=true:=by kernel_rfl
 intro f hf
 have:=List.all_eq_true.1 h f (by simpa using hf)
 simpa using this
theorem adT:jc Tryz.prog tab ⟨(.struct [(0,3),(1,3),(2,3)]),3,24,[.int .i64,.int .i64,.int .i64],true⟩ 79:=
 eX (i:=Tryz.t79) (z:=.agg #[.int .i64 0,.int .i64 0,.int .i64 0]) (d:=(.struct (Tryz.prog.fieldsOf 79))) (by kernel_rfl) (by kernel_rfl) (by kernel_rfl) (by kernel_rfl) (by kernel_rfl) (by decide) (by decide) (by decide) (by decide) (fun _=>⟨by kernel_rfl,by kernel_rfl,acK⟩) (by kernel_rfl) (⟨_,rfl,by kernel_rfl,by decide⟩)
theorem adU:jc Tryz.prog tab ⟨(.slice 33),1,24,[.ah],false⟩ 84:=
 eX (i:=Tryz.t84) (z:=.slice none 0 0) (d:=(.slice 33)) (by kernel_rfl) (by kernel_rfl) (by kernel_rfl) (by kernel_rfl) (by kernel_rfl) (by decide) (by decide) (by decide) (by decide) (nofun) (by kernel_rfl) (rfl)
theorem adV:jc Tryz.prog tab ⟨(.slice 73),1,24,[.ah],false⟩ 87:=
 eX (i:=Tryz.t87) (z:=.slice none 0 0) (d:=(.slice 73)) (by kernel_rfl) (by kernel_rfl) (by kernel_rfl) (by kernel_rfl) (by kernel_rfl) (by decide) (by decide) (by decide) (by decide) (nofun) (by kernel_rfl) (rfl)
theorem adW:jc Tryz.prog tab ⟨(.struct [(0,22),(1,3),(2,3)]),3,40,[.ah,.int .i64,.int .i64],false⟩ 92:=
 eX (i:=Tryz.t92) (z:=.agg #[.slice none 0 0,.int .i64 0,.int .i64 0]) (d:=(.struct (Tryz.prog.fieldsOf 92))) (by kernel_rfl) (by kernel_rfl) (by kernel_rfl) (by kernel_rfl) (by kernel_rfl) (by decide) (by decide) (by decide) (by decide) (nofun) (by kernel_rfl) (⟨_,rfl,by kernel_rfl,by decide⟩)
theorem adX:jc Tryz.prog tab ⟨(.slice 117),1,24,[.ah],false⟩ 93:=
 eX (i:=Tryz.t93) (z:=.slice none 0 0) (d:=(.slice 117)) (by kernel_rfl) (by kernel_rfl) (by kernel_rfl) (by kernel_rfl) (by kernel_rfl) (by decide) (by decide) (by decide) (by decide) (nofun) (by kernel_rfl) (rfl)
theorem adY:jc Tryz.prog tab ⟨(.struct [(0,93),(1,30)]),2,48,[.ah,.ah],false⟩ 95:=
 eX (i:=Tryz.t95) (z:=.agg #[.slice none 0 0,.slice none 0 0]) (d:=(.struct (Tryz.prog.fieldsOf 95))) (by kernel_rfl) (by kernel_rfl) (by kernel_rfl) (by kernel_rfl) (by kernel_rfl) (by decide) (by decide) (by decide) (by decide) (nofun) (by kernel_rfl) (⟨_,rfl,by kernel_rfl,by decide⟩)
theorem adZ:jc Tryz.prog tab ⟨(.struct [(0,93),(1,30)]),2,48,[.ah,.ah],false⟩ 96:=
 eX (i:=Tryz.t96) (z:=.agg #[.slice none 0 0,.slice none 0 0]) (d:=(.struct (Tryz.prog.fieldsOf 96))) (by kernel_rfl) (by kernel_rfl) (by kernel_rfl) (by kernel_rfl) (by kernel_rfl) (by decide) (by decide) (by decide) (by decide) (nofun) (by kernel_rfl) (⟨_,rfl,by kernel_rfl,by decide⟩)
theorem aea:jc Tryz.prog tab ⟨(.slice 114),1,24,[.ah],false⟩ 99:=
 eX (i:=Tryz.t99) (z:=.slice none 0 0) (d:=(.slice 114)) (by kernel_rfl) (by kernel_rfl) (by kernel_rfl) (by kernel_rfl) (by kernel_rfl) (by decide) (by decide) (by decide) (by decide) (nofun) (by kernel_rfl) (rfl)
theorem acL:jc Tryz.prog tab ⟨(.struct [(0,9),(1,3),(2,99)]),3,48,[.str,.int .i64,.ah],false⟩ 100:=
 eX (i:=Tryz.t100) (z:=.agg #[.string ⟨#[]⟩,.int .i64 0,.slice none 0 0]) (d:=(.struct (Tryz.prog.fieldsOf 100))) (by kernel_rfl) (by kernel_rfl) (by kernel_rfl) (by kernel_rfl) (by kernel_rfl) (by decide) (by decide) (by decide) (by decide) (nofun) (by kernel_rfl) (⟨_,rfl,by kernel_rfl,by decide⟩)
theorem acM:jc Tryz.prog tab ⟨(.struct [(0,9),(1,3),(2,99)]),3,48,[.str,.int .i64,.ah],false⟩ 101:=
 eX (i:=Tryz.t101) (z:=.agg #[.string ⟨#[]⟩,.int .i64 0,.slice none 0 0]) (d:=(.struct (Tryz.prog.fieldsOf 101))) (by kernel_rfl) (by kernel_rfl) (by kernel_rfl) (by kernel_rfl) (by kernel_rfl) (by decide) (by decide) (by decide) (by decide) (nofun) (by kernel_rfl) (⟨_,rfl,by kernel_rfl,by decide⟩)
theorem aby:∀f∈Tryz.prog.fieldsOf 104,f.name≠ "_" :=by
 have h:((Tryz.prog.fieldsOf 104).toList.all fun f=>f.name != "_")=true:=by kernel_rfl
 intro f hf
 have:=List.all_eq_true.1 h f (by simpa using hf)
 simpa using this
theorem acN:jc Tryz.prog tab ⟨(.struct [(0,3),(1,3),(2,4),(3,3)]),4,32,[.int .i64,.int .i64,.bool,.int .i64],true⟩ 104:=
 eX (i:=Tryz.t104) (z:=.agg #[.int .i64 0,.int .i64 0,.bool false,.int .i64 0]) (d:=(.struct (Tryz.prog.fieldsOf 104))) (by kernel_rfl) (by kernel_rfl) (by kernel_rfl) (by kernel_rfl) (by kernel_rfl) (by decide) (by decide) (by decide) (by decide) (fun _=>⟨by kernel_rfl,by kernel_rfl,aby⟩) (by kernel_rfl) (⟨_,rfl,by kernel_rfl,by decide⟩)
theorem acO:jc Tryz.prog tab ⟨(.struct [(0,3),(1,26),(2,26)]),3,56,[.int .i64,.ah,.ah],false⟩ 114:=
 eX (i:=Tryz.t114) (z:=.agg #[.int .i64 0,.slice none 0 0,.slice none 0 0]) (d:=(.struct (Tryz.prog.fieldsOf 114))) (by kernel_rfl) (by kernel_rfl) (by kernel_rfl) (by kernel_rfl) (by kernel_rfl) (by decide) (by decide) (by decide) (by decide) (nofun) (by kernel_rfl) (⟨_,rfl,by kernel_rfl,by decide⟩)
theorem abz:∀f∈Tryz.prog.fieldsOf 117,f.name≠ "_" :=by
 have h:((Tryz.prog.fieldsOf 117).toList.all fun f=>f.name != "_")=true:=by kernel_rfl
 intro f hf
 have:=List.all_eq_true.1 h f (by simpa using hf)
 simpa using this
theorem acP:jc Tryz.prog tab ⟨(.struct [(0,3),(1,3)]),2,16,[.int .i64,.int .i64],true⟩ 117:=
 eX (i:=Tryz.t117) (z:=.agg #[.int .i64 0,.int .i64 0]) (d:=(.struct (Tryz.prog.fieldsOf 117))) (by kernel_rfl) (by kernel_rfl) (by kernel_rfl) (by kernel_rfl) (by kernel_rfl) (by decide) (by decide) (by decide) (by decide) (fun _=>⟨by kernel_rfl,by kernel_rfl,abz⟩) (by kernel_rfl) (⟨_,rfl,by kernel_rfl,by decide⟩)
theorem acQ:jc Tryz.prog tab ⟨(.struct [(0,79),(3,73),(7,33)]),8,80,[.int .i64,.int .i64,.int .i64,.int .i64,.int .i64,.int .i64,.int .i64,.ah],false⟩ 157:=
 eX (i:=Tryz.t157) (z:=.agg #[.int .i64 0,.int .i64 0,.int .i64 0,.int .i64 0,.int .i64 0,.int .i64 0,.int .i64 0,.slice none 0 0]) (d:=(.struct (Tryz.prog.fieldsOf 157))) (by kernel_rfl) (by kernel_rfl) (by kernel_rfl) (by kernel_rfl) (by kernel_rfl) (by decide) (by decide) (by decide) (by decide) (nofun) (by kernel_rfl) (⟨_,rfl,by kernel_rfl,by decide⟩)
theorem acR:jc Tryz.prog tab ⟨(.struct [(0,79),(3,73),(7,33)]),8,80,[.int .i64,.int .i64,.int .i64,.int .i64,.int .i64,.int .i64,.int .i64,.ah],false⟩ 158:=
 eX (i:=Tryz.t158) (z:=.agg #[.int .i64 0,.int .i64 0,.int .i64 0,.int .i64 0,.int .i64 0,.int .i64 0,.int .i64 0,.slice none 0 0]) (d:=(.struct (Tryz.prog.fieldsOf 158))) (by kernel_rfl) (by kernel_rfl) (by kernel_rfl) (by kernel_rfl) (by kernel_rfl) (by decide) (by decide) (by decide) (by decide) (nofun) (by kernel_rfl) (⟨_,rfl,by kernel_rfl,by decide⟩)
theorem acS:jc Tryz.prog tab ⟨(.slice 9),1,24,[.ah],false⟩ 181:=
 eX (i:=Tryz.t181) (z:=.slice none 0 0) (d:=(.slice 9)) (by kernel_rfl) (by kernel_rfl) (by kernel_rfl) (by kernel_rfl) (by kernel_rfl) (by decide) (by decide) (by decide) (by decide) (nofun) (by kernel_rfl) (rfl)
theorem aaK:bN Tryz.prog tab:=abx ⟨adN,⟨adC,⟨adx,⟨ty4,⟨ty3,⟨ty2,trivial,trivial⟩,trivial⟩,⟨ty9,⟨ty5,trivial,trivial⟩,trivial⟩⟩,⟨adA,⟨adz,⟨ady,trivial,trivial⟩,trivial⟩,⟨adB,trivial,trivial⟩⟩⟩,⟨adI,⟨adF,⟨adE,⟨adD,trivial,trivial⟩,trivial⟩,⟨adH,⟨adG,trivial,trivial⟩,trivial⟩⟩,⟨adL,⟨adK,⟨adJ,trivial,trivial⟩,trivial⟩,⟨adM,trivial,trivial⟩⟩⟩⟩,⟨adY,⟨adT,⟨adQ,⟨adP,⟨adO,trivial,trivial⟩,trivial⟩,⟨adS,⟨adR,trivial,trivial⟩,trivial⟩⟩,⟨adW,⟨adV,⟨adU,trivial,trivial⟩,trivial⟩,⟨adX,trivial,trivial⟩⟩⟩,⟨acO,⟨acL,⟨aea,⟨adZ,trivial,trivial⟩,trivial⟩,⟨acN,⟨acM,trivial,trivial⟩,trivial⟩⟩,⟨acR,⟨acQ,⟨acP,trivial,trivial⟩,trivial⟩,⟨acS,trivial,trivial⟩⟩⟩⟩⟩
end Go.Proofs.YtmenphiahgkjkaaGreatDoor.Abs
