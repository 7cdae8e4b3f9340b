/- The table of the types of this seat: what the abstract layer must know of them, by closed facts. Printed by gentab.py. -/
import Derived.Test.YtglikcnmgnlejaaGreatLayB
import Derived.Test.YtglikcnmgnlejaaGreatProg
import Derived.KernelRfl
set_option linter.all false
namespace Go.Proofs.YtglikcnmgnlejaaGreat.Abs
open Go.Proofs
def tree:Tree:=(.node 128 ⟨(.slice 284),1,24,[.aj],false⟩ (.node 39 ⟨(.slice 145),1,24,[.aj],false⟩ (.node 25 ⟨(.slice 3),1,24,[.aj],false⟩ (.node 9 ⟨.str,1,16,[.str],false⟩ (.node 4 ⟨.bool,1,1,[.bool],false⟩ (.node 3 ⟨(.int .i64),1,8,[.int .i64],false⟩ (.node 2 ⟨(.int .i64),1,8,[.int .i64],false⟩ .leaf .leaf) .leaf) (.node 5 ⟨(.int .u8),1,1,[.int .u8],false⟩ .leaf .leaf)) (.node 23 ⟨(.slice 157),1,24,[.aj],false⟩ (.node 22 ⟨(.slice 130),1,24,[.aj],false⟩ .leaf .leaf) (.node 24 ⟨(.slice 134),1,24,[.aj],false⟩ .leaf .leaf))) (.node 31 ⟨(.struct [(0,3),(1,3),(2,3),(3,3)]),4,32,[.int .i64,.int .i64,.int .i64,.int .i64],true⟩ (.node 27 ⟨(.struct [(0,3),(1,22),(2,23),(3,24),(4,25)]),5,104,[.int .i64,.aj,.aj,.aj,.aj],false⟩ (.node 26 ⟨(.struct [(0,3),(1,22),(2,23),(3,24),(4,25)]),5,104,[.int .i64,.aj,.aj,.aj,.aj],false⟩ .leaf .leaf) (.node 29 ⟨(.struct [(0,25),(1,25)]),2,48,[.aj,.aj],false⟩ .leaf .leaf)) (.node 37 ⟨(.slice 139),1,24,[.aj],false⟩ (.node 34 ⟨(.struct [(0,25),(1,25)]),2,48,[.aj,.aj],false⟩ .leaf .leaf) (.node 38 ⟨(.slice 155),1,24,[.aj],false⟩ .leaf .leaf)))) (.node 59 ⟨(.struct [(0,27),(5,55),(8,56),(9,57)]),10,224,[.int .i64,.aj,.aj,.aj,.aj,.aj,.aj,.aj,.aj,.aj],false⟩ (.node 55 ⟨(.struct [(0,25),(1,25),(2,53)]),3,72,[.aj,.aj,.aj],false⟩ (.node 44 ⟨(.struct [(0,3),(1,3),(2,3),(3,3)]),4,32,[.int .i64,.int .i64,.int .i64,.int .i64],true⟩ (.node 41 ⟨(.struct [(0,3),(1,37),(2,38),(3,39),(4,25)]),5,104,[.int .i64,.aj,.aj,.aj,.aj],false⟩ (.node 40 ⟨(.struct [(0,3),(1,37),(2,38),(3,39),(4,25)]),5,104,[.int .i64,.aj,.aj,.aj,.aj],false⟩ .leaf .leaf) .leaf) (.node 53 ⟨(.slice 25),1,24,[.aj],false⟩ .leaf .leaf)) (.node 57 ⟨(.slice 187),1,24,[.aj],false⟩ (.node 56 ⟨(.slice 210),1,24,[.aj],false⟩ .leaf .leaf) (.node 58 ⟨(.struct [(0,27),(5,55),(8,56),(9,57)]),10,224,[.int .i64,.aj,.aj,.aj,.aj,.aj,.aj,.aj,.aj,.aj],false⟩ .leaf .leaf))) (.node 64 ⟨(.struct [(0,41),(5,61),(8,62),(9,63)]),10,224,[.int .i64,.aj,.aj,.aj,.aj,.aj,.aj,.aj,.aj,.aj],false⟩ (.node 62 ⟨(.slice 190),1,24,[.aj],false⟩ (.node 61 ⟨(.struct [(0,25),(1,25),(2,53)]),3,72,[.aj,.aj,.aj],false⟩ .leaf .leaf) (.node 63 ⟨(.slice 212),1,24,[.aj],false⟩ .leaf .leaf)) (.node 81 ⟨(.struct [(0,34),(2,25)]),3,72,[.aj,.aj,.aj],false⟩ (.node 65 ⟨(.struct [(0,41),(5,61),(8,62),(9,63)]),10,224,[.int .i64,.aj,.aj,.aj,.aj,.aj,.aj,.aj,.aj,.aj],false⟩ .leaf .leaf) (.node 82 ⟨(.struct [(0,34),(2,25)]),3,72,[.aj,.aj,.aj],false⟩ .leaf .leaf))))) (.node 186 ⟨(.struct [(0,3),(1,185),(5,56)]),6,64,[.int .i64,.int .i64,.int .i64,.int .i64,.int .i64,.aj],false⟩ (.node 141 ⟨(.struct [(0,3),(1,25),(2,25)]),3,56,[.int .i64,.aj,.aj],false⟩ (.node 134 ⟨(.struct [(0,132),(1,53)]),2,48,[.aj,.aj],false⟩ (.node 132 ⟨(.slice 292),1,24,[.aj],false⟩ (.node 130 ⟨(.struct [(0,9),(1,3),(2,128)]),3,48,[.str,.int .i64,.aj],false⟩ (.node 129 ⟨(.struct [(0,9),(1,3),(2,128)]),3,48,[.str,.int .i64,.aj],false⟩ .leaf .leaf) .leaf) (.node 133 ⟨(.struct [(0,132),(1,53)]),2,48,[.aj,.aj],false⟩ .leaf .leaf)) (.node 138 ⟨(.struct [(0,9),(1,3),(2,137)]),3,48,[.str,.int .i64,.aj],false⟩ (.node 137 ⟨(.slice 141),1,24,[.aj],false⟩ .leaf .leaf) (.node 139 ⟨(.struct [(0,9),(1,3),(2,137)]),3,48,[.str,.int .i64,.aj],false⟩ .leaf .leaf))) (.node 147 ⟨(.slice 201),1,24,[.aj],false⟩ (.node 144 ⟨(.struct [(0,142),(1,53)]),2,48,[.aj,.aj],false⟩ (.node 142 ⟨(.slice 229),1,24,[.aj],false⟩ .leaf .leaf) (.node 145 ⟨(.struct [(0,142),(1,53)]),2,48,[.aj,.aj],false⟩ .leaf .leaf)) (.node 157 ⟨(.struct [(0,3),(1,3),(2,4),(3,3)]),4,32,[.int .i64,.int .i64,.bool,.int .i64],true⟩ (.node 155 ⟨(.struct [(0,3),(1,3),(2,4),(3,3)]),4,32,[.int .i64,.int .i64,.bool,.int .i64],true⟩ .leaf .leaf) (.node 185 ⟨(.struct [(0,3),(1,3),(2,3),(3,3)]),4,32,[.int .i64,.int .i64,.int .i64,.int .i64],true⟩ .leaf .leaf)))) (.node 212 ⟨(.struct [(0,3),(1,201),(5,62)]),6,64,[.int .i64,.int .i64,.int .i64,.int .i64,.int .i64,.aj],false⟩ (.node 202 ⟨(.struct [(0,190),(3,201),(7,62)]),8,80,[.int .i64,.int .i64,.int .i64,.int .i64,.int .i64,.int .i64,.int .i64,.aj],false⟩ (.node 196 ⟨(.slice 62),1,24,[.aj],false⟩ (.node 190 ⟨(.struct [(0,3),(1,3),(2,3)]),3,24,[.int .i64,.int .i64,.int .i64],true⟩ (.node 187 ⟨(.struct [(0,3),(1,185),(5,56)]),6,64,[.int .i64,.int .i64,.int .i64,.int .i64,.int .i64,.aj],false⟩ .leaf .leaf) .leaf) (.node 201 ⟨(.struct [(0,3),(1,3),(2,3),(3,3)]),4,32,[.int .i64,.int .i64,.int .i64,.int .i64],true⟩ .leaf .leaf)) (.node 210 ⟨(.struct [(0,3),(1,3),(2,3)]),3,24,[.int .i64,.int .i64,.int .i64],true⟩ (.node 203 ⟨(.struct [(0,190),(3,201),(7,62)]),8,80,[.int .i64,.int .i64,.int .i64,.int .i64,.int .i64,.int .i64,.int .i64,.aj],false⟩ .leaf .leaf) (.node 211 ⟨(.struct [(0,3),(1,201),(5,62)]),6,64,[.int .i64,.int .i64,.int .i64,.int .i64,.int .i64,.aj],false⟩ .leaf .leaf))) (.node 255 ⟨(.slice 256),1,24,[.aj],false⟩ (.node 249 ⟨(.slice 5),1,24,[.aj],false⟩ (.node 229 ⟨(.struct [(0,3),(1,3)]),2,16,[.int .i64,.int .i64],true⟩ .leaf .leaf) (.node 250 ⟨(.slice 9),1,24,[.aj],false⟩ .leaf .leaf)) (.node 284 ⟨(.struct [(0,3),(1,25),(2,25)]),3,56,[.int .i64,.aj,.aj],false⟩ (.node 256 ⟨(.slice 4),1,24,[.aj],false⟩ .leaf .leaf) (.node 292 ⟨(.struct [(0,3),(1,3)]),2,16,[.int .i64,.int .i64],true⟩ .leaf .leaf))))))
def tab:Nat→Ty:=tree.find
theorem ty2:dS Tryz.prog tab ⟨(.int .i64),1,8,[.int .i64],false⟩ 2:=
 bL (i:=Tryz.t2) (z:=.int .i64 0) (d:=(.int .i64)) (by kernel_rfl) (by kernel_rfl) (by kernel_rfl) (by kernel_rfl) (by kernel_rfl) (by decide) (by decide) (by decide) (by decide) (nofun) (by kernel_rfl) (rfl)
theorem ty3:dS Tryz.prog tab ⟨(.int .i64),1,8,[.int .i64],false⟩ 3:=
 bL (i:=Tryz.t3) (z:=.int .i64 0) (d:=(.int .i64)) (by kernel_rfl) (by kernel_rfl) (by kernel_rfl) (by kernel_rfl) (by kernel_rfl) (by decide) (by decide) (by decide) (by decide) (nofun) (by kernel_rfl) (rfl)
theorem ty4:dS Tryz.prog tab ⟨.bool,1,1,[.bool],false⟩ 4:=
 bL (i:=Tryz.t4) (z:=.bool false) (d:=.bool) (by kernel_rfl) (by kernel_rfl) (by kernel_rfl) (by kernel_rfl) (by kernel_rfl) (by decide) (by decide) (by decide) (by decide) (nofun) (by kernel_rfl) (rfl)
theorem ty5:dS Tryz.prog tab ⟨(.int .u8),1,1,[.int .u8],false⟩ 5:=
 bL (i:=Tryz.t5) (z:=.int .u8 0) (d:=(.int .u8)) (by kernel_rfl) (by kernel_rfl) (by kernel_rfl) (by kernel_rfl) (by kernel_rfl) (by decide) (by decide) (by decide) (by decide) (nofun) (by kernel_rfl) (rfl)
theorem ty9:dS Tryz.prog tab ⟨.str,1,16,[.str],false⟩ 9:=
 bL (i:=Tryz.t9) (z:=.string ⟨#[]⟩) (d:=.string) (by kernel_rfl) (by kernel_rfl) (by kernel_rfl) (by kernel_rfl) (by kernel_rfl) (by decide) (by decide) (by decide) (by decide) (nofun) (by kernel_rfl) (rfl)
theorem afj:dS Tryz.prog tab ⟨(.slice 130),1,24,[.aj],false⟩ 22:=
 bL (i:=Tryz.t22) (z:=.slice none 0 0) (d:=(.slice 130)) (by kernel_rfl) (by kernel_rfl) (by kernel_rfl) (by kernel_rfl) (by kernel_rfl) (by decide) (by decide) (by decide) (by decide) (nofun) (by kernel_rfl) (rfl)
theorem afk:dS Tryz.prog tab ⟨(.slice 157),1,24,[.aj],false⟩ 23:=
 bL (i:=Tryz.t23) (z:=.slice none 0 0) (d:=(.slice 157)) (by kernel_rfl) (by kernel_rfl) (by kernel_rfl) (by kernel_rfl) (by kernel_rfl) (by decide) (by decide) (by decide) (by decide) (nofun) (by kernel_rfl) (rfl)
theorem afl:dS Tryz.prog tab ⟨(.slice 134),1,24,[.aj],false⟩ 24:=
 bL (i:=Tryz.t24) (z:=.slice none 0 0) (d:=(.slice 134)) (by kernel_rfl) (by kernel_rfl) (by kernel_rfl) (by kernel_rfl) (by kernel_rfl) (by decide) (by decide) (by decide) (by decide) (nofun) (by kernel_rfl) (rfl)
theorem afm:dS Tryz.prog tab ⟨(.slice 3),1,24,[.aj],false⟩ 25:=
 bL (i:=Tryz.t25) (z:=.slice none 0 0) (d:=(.slice 3)) (by kernel_rfl) (by kernel_rfl) (by kernel_rfl) (by kernel_rfl) (by kernel_rfl) (by decide) (by decide) (by decide) (by decide) (nofun) (by kernel_rfl) (rfl)
theorem afn:dS Tryz.prog tab ⟨(.struct [(0,3),(1,22),(2,23),(3,24),(4,25)]),5,104,[.int .i64,.aj,.aj,.aj,.aj],false⟩ 26:=
 bL (i:=Tryz.t26) (z:=.agg #[.int .i64 0,.slice none 0 0,.slice none 0 0,.slice none 0 0,.slice none 0 0]) (d:=(.struct (Tryz.prog.fieldsOf 26))) (by kernel_rfl) (by kernel_rfl) (by kernel_rfl) (by kernel_rfl) (by kernel_rfl) (by decide) (by decide) (by decide) (by decide) (nofun) (by kernel_rfl) (⟨_,rfl,by kernel_rfl,by decide⟩)
theorem afo:dS Tryz.prog tab ⟨(.struct [(0,3),(1,22),(2,23),(3,24),(4,25)]),5,104,[.int .i64,.aj,.aj,.aj,.aj],false⟩ 27:=
 bL (i:=Tryz.t27) (z:=.agg #[.int .i64 0,.slice none 0 0,.slice none 0 0,.slice none 0 0,.slice none 0 0]) (d:=(.struct (Tryz.prog.fieldsOf 27))) (by kernel_rfl) (by kernel_rfl) (by kernel_rfl) (by kernel_rfl) (by kernel_rfl) (by decide) (by decide) (by decide) (by decide) (nofun) (by kernel_rfl) (⟨_,rfl,by kernel_rfl,by decide⟩)
theorem afp:dS Tryz.prog tab ⟨(.struct [(0,25),(1,25)]),2,48,[.aj,.aj],false⟩ 29:=
 bL (i:=Tryz.t29) (z:=.agg #[.slice none 0 0,.slice none 0 0]) (d:=(.struct (Tryz.prog.fieldsOf 29))) (by kernel_rfl) (by kernel_rfl) (by kernel_rfl) (by kernel_rfl) (by kernel_rfl) (by decide) (by decide) (by decide) (by decide) (nofun) (by kernel_rfl) (⟨_,rfl,by kernel_rfl,by decide⟩)
theorem adK:∀f∈Tryz.prog.fieldsOf 31,f.name≠ "_" :=by
 have h:((Tryz.prog.fieldsOf 31).toList.all fun f=>f.name != "_")=true:=by kernel_rfl
 intro f hf
 have:=List.all_eq_true.1 h f (by simpa using hf)
 simpa using this
theorem afq:dS Tryz.prog tab ⟨(.struct [(0,3),(1,3),(2,3),(3,3)]),4,32,[.int .i64,.int .i64,.int .i64,.int .i64],true⟩ 31:=
 bL (i:=Tryz.t31) (z:=.agg #[.int .i64 0,.int .i64 0,.int .i64 0,.int .i64 0]) (d:=(.struct (Tryz.prog.fieldsOf 31))) (by kernel_rfl) (by kernel_rfl) (by kernel_rfl) (by kernel_rfl) (by kernel_rfl) (by decide) (by decide) (by decide) (by decide) (fun _=>⟨by kernel_rfl,by kernel_rfl,adK⟩) (by kernel_rfl) (⟨_,rfl,by kernel_rfl,by decide⟩)
theorem afr:dS Tryz.prog tab ⟨(.struct [(0,25),(1,25)]),2,48,[.aj,.aj],false⟩ 34:=
 bL (i:=Tryz.t34) (z:=.agg #[.slice none 0 0,.slice none 0 0]) (d:=(.struct (Tryz.prog.fieldsOf 34))) (by kernel_rfl) (by kernel_rfl) (by kernel_rfl) (by kernel_rfl) (by kernel_rfl) (by decide) (by decide) (by decide) (by decide) (nofun) (by kernel_rfl) (⟨_,rfl,by kernel_rfl,by decide⟩)
theorem afs:dS Tryz.prog tab ⟨(.slice 139),1,24,[.aj],false⟩ 37:=
 bL (i:=Tryz.t37) (z:=.slice none 0 0) (d:=(.slice 139)) (by kernel_rfl) (by kernel_rfl) (by kernel_rfl) (by kernel_rfl) (by kernel_rfl) (by decide) (by decide) (by decide) (by decide) (nofun) (by kernel_rfl) (rfl)
theorem aft:dS Tryz.prog tab ⟨(.slice 155),1,24,[.aj],false⟩ 38:=
 bL (i:=Tryz.t38) (z:=.slice none 0 0) (d:=(.slice 155)) (by kernel_rfl) (by kernel_rfl) (by kernel_rfl) (by kernel_rfl) (by kernel_rfl) (by decide) (by decide) (by decide) (by decide) (nofun) (by kernel_rfl) (rfl)
theorem afu:dS Tryz.prog tab ⟨(.slice 145),1,24,[.aj],false⟩ 39:=
 bL (i:=Tryz.t39) (z:=.slice none 0 0) (d:=(.slice 145)) (by kernel_rfl) (by kernel_rfl) (by kernel_rfl) (by kernel_rfl) (by kernel_rfl) (by decide) (by decide) (by decide) (by decide) (nofun) (by kernel_rfl) (rfl)
theorem afv:dS Tryz.prog tab ⟨(.struct [(0,3),(1,37),(2,38),(3,39),(4,25)]),5,104,[.int .i64,.aj,.aj,.aj,.aj],false⟩ 40:=
 bL (i:=Tryz.t40) (z:=.agg #[.int .i64 0,.slice none 0 0,.slice none 0 0,.slice none 0 0,.slice none 0 0]) (d:=(.struct (Tryz.prog.fieldsOf 40))) (by kernel_rfl) (by kernel_rfl) (by kernel_rfl) (by kernel_rfl) (by kernel_rfl) (by decide) (by decide) (by decide) (by decide) (nofun) (by kernel_rfl) (⟨_,rfl,by kernel_rfl,by decide⟩)
theorem afw:dS Tryz.prog tab ⟨(.struct [(0,3),(1,37),(2,38),(3,39),(4,25)]),5,104,[.int .i64,.aj,.aj,.aj,.aj],false⟩ 41:=
 bL (i:=Tryz.t41) (z:=.agg #[.int .i64 0,.slice none 0 0,.slice none 0 0,.slice none 0 0,.slice none 0 0]) (d:=(.struct (Tryz.prog.fieldsOf 41))) (by kernel_rfl) (by kernel_rfl) (by kernel_rfl) (by kernel_rfl) (by kernel_rfl) (by decide) (by decide) (by decide) (by decide) (nofun) (by kernel_rfl) (⟨_,rfl,by kernel_rfl,by decide⟩)
theorem adL:∀f∈Tryz.prog.fieldsOf 44,f.name≠ "_" :=by
 have h:((Tryz.prog.fieldsOf 44).toList.all fun f=>f.name != "_")=true:=by kernel_rfl
 intro f hf
 have:=List.all_eq_true.1 h f (by simpa using hf)
 simpa using this
theorem afx:dS Tryz.prog tab ⟨(.struct [(0,3),(1,3),(2,3),(3,3)]),4,32,[.int .i64,.int .i64,.int .i64,.int .i64],true⟩ 44:=
 bL (i:=Tryz.t44) (z:=.agg #[.int .i64 0,.int .i64 0,.int .i64 0,.int .i64 0]) (d:=(.struct (Tryz.prog.fieldsOf 44))) (by kernel_rfl) (by kernel_rfl) (by kernel_rfl) (by kernel_rfl) (by kernel_rfl) (by decide) (by decide) (by decide) (by decide) (fun _=>⟨by kernel_rfl,by kernel_rfl,adL⟩) (by kernel_rfl) (⟨_,rfl,by kernel_rfl,by decide⟩)
theorem afy:dS Tryz.prog tab ⟨(.slice 25),1,24,[.aj],false⟩ 53:=
 bL (i:=Tryz.t53) (z:=.slice none 0 0) (d:=(.slice 25)) (by kernel_rfl) (by kernel_rfl) (by kernel_rfl) (by kernel_rfl) (by kernel_rfl) (by decide) (by decide) (by decide) (by decide) (nofun) (by kernel_rfl) (rfl)
theorem afz:dS Tryz.prog tab ⟨(.struct [(0,25),(1,25),(2,53)]),3,72,[.aj,.aj,.aj],false⟩ 55:=
 bL (i:=Tryz.t55) (z:=.agg #[.slice none 0 0,.slice none 0 0,.slice none 0 0]) (d:=(.struct (Tryz.prog.fieldsOf 55))) (by kernel_rfl) (by kernel_rfl) (by kernel_rfl) (by kernel_rfl) (by kernel_rfl) (by decide) (by decide) (by decide) (by decide) (nofun) (by kernel_rfl) (⟨_,rfl,by kernel_rfl,by decide⟩)
theorem afA:dS Tryz.prog tab ⟨(.slice 210),1,24,[.aj],false⟩ 56:=
 bL (i:=Tryz.t56) (z:=.slice none 0 0) (d:=(.slice 210)) (by kernel_rfl) (by kernel_rfl) (by kernel_rfl) (by kernel_rfl) (by kernel_rfl) (by decide) (by decide) (by decide) (by decide) (nofun) (by kernel_rfl) (rfl)
theorem afB:dS Tryz.prog tab ⟨(.slice 187),1,24,[.aj],false⟩ 57:=
 bL (i:=Tryz.t57) (z:=.slice none 0 0) (d:=(.slice 187)) (by kernel_rfl) (by kernel_rfl) (by kernel_rfl) (by kernel_rfl) (by kernel_rfl) (by decide) (by decide) (by decide) (by decide) (nofun) (by kernel_rfl) (rfl)
theorem afC:dS Tryz.prog tab ⟨(.struct [(0,27),(5,55),(8,56),(9,57)]),10,224,[.int .i64,.aj,.aj,.aj,.aj,.aj,.aj,.aj,.aj,.aj],false⟩ 58:=
 bL (i:=Tryz.t58) (z:=.agg #[.int .i64 0,.slice none 0 0,.slice none 0 0,.slice none 0 0,.slice none 0 0,.slice none 0 0,.slice none 0 0,.slice none 0 0,.slice none 0 0,.slice none 0 0]) (d:=(.struct (Tryz.prog.fieldsOf 58))) (by kernel_rfl) (by kernel_rfl) (by kernel_rfl) (by kernel_rfl) (by kernel_rfl) (by decide) (by decide) (by decide) (by decide) (nofun) (by kernel_rfl) (⟨_,rfl,by kernel_rfl,by decide⟩)
theorem afD:dS Tryz.prog tab ⟨(.struct [(0,27),(5,55),(8,56),(9,57)]),10,224,[.int .i64,.aj,.aj,.aj,.aj,.aj,.aj,.aj,.aj,.aj],false⟩ 59:=
 bL (i:=Tryz.t59) (z:=.agg #[.int .i64 0,.slice none 0 0,.slice none 0 0,.slice none 0 0,.slice none 0 0,.slice none 0 0,.slice none 0 0,.slice none 0 0,.slice none 0 0,.slice none 0 0]) (d:=(.struct (Tryz.prog.fieldsOf 59))) (by kernel_rfl) (by kernel_rfl) (by kernel_rfl) (by kernel_rfl) (by kernel_rfl) (by decide) (by decide) (by decide) (by decide) (nofun) (by kernel_rfl) (⟨_,rfl,by kernel_rfl,by decide⟩)
theorem afE:dS Tryz.prog tab ⟨(.struct [(0,25),(1,25),(2,53)]),3,72,[.aj,.aj,.aj],false⟩ 61:=
 bL (i:=Tryz.t61) (z:=.agg #[.slice none 0 0,.slice none 0 0,.slice none 0 0]) (d:=(.struct (Tryz.prog.fieldsOf 61))) (by kernel_rfl) (by kernel_rfl) (by kernel_rfl) (by kernel_rfl) (by kernel_rfl) (by decide) (by decide) (by decide) (by decide) (nofun) (by kernel_rfl) (⟨_,rfl,by kernel_rfl,by decide⟩)
theorem afF:dS Tryz.prog tab ⟨(.slice 190),1,24,[.aj],false⟩ 62:=
 bL (i:=Tryz.t62) (z:=.slice none 0 0) (d:=(.slice 190)) (by kernel_rfl) (by kernel_rfl) (by kernel_rfl) (by kernel_rfl) (by kernel_rfl) (by decide) (by decide) (by decide) (by decide) (nofun) (by kernel_rfl) (rfl)
theorem afG:dS Tryz.prog tab ⟨(.slice 212),1,24,[.aj],false⟩ 63:=
 bL (i:=Tryz.t63) (z:=.slice none 0 0) (d:=(.slice 212)) (by kernel_rfl) (by kernel_rfl) (by kernel_rfl) (by kernel_rfl) (by kernel_rfl) (by decide) (by decide) (by decide) (by decide) (nofun) (by kernel_rfl) (rfl)
theorem afH:dS Tryz.prog tab ⟨(.struct [(0,41),(5,61),(8,62),(9,63)]),10,224,[.int .i64,.aj,.aj,.aj,.aj,.aj,.aj,.aj,.aj,.aj],false⟩ 64:=
 bL (i:=Tryz.t64) (z:=.agg #[.int .i64 0,.slice none 0 0,.slice none 0 0,.slice none 0 0,.slice none 0 0,.slice none 0 0,.slice none 0 0,.slice none 0 0,.slice none 0 0,.slice none 0 0]) (d:=(.struct (Tryz.prog.fieldsOf 64))) (by kernel_rfl) (by kernel_rfl) (by kernel_rfl) (by kernel_rfl) (by kernel_rfl) (by decide) (by decide) (by decide) (by decide) (nofun) (by kernel_rfl) (⟨_,rfl,by kernel_rfl,by decide⟩)
theorem afI:dS Tryz.prog tab ⟨(.struct [(0,41),(5,61),(8,62),(9,63)]),10,224,[.int .i64,.aj,.aj,.aj,.aj,.aj,.aj,.aj,.aj,.aj],false⟩ 65:=
 bL (i:=Tryz.t65) (z:=.agg #[.int .i64 0,.slice none 0 0,.slice none 0 0,.slice none 0 0,.slice none 0 0,.slice none 0 0,.slice none 0 0,.slice none 0 0,.slice none 0 0,.slice none 0 0]) (d:=(.struct (Tryz.prog.fieldsOf 65))) (by kernel_rfl) (by kernel_rfl) (by kernel_rfl) (by kernel_rfl) (by kernel_rfl) (by decide) (by decide) (by decide) (by decide) (nofun) (by kernel_rfl) (⟨_,rfl,by kernel_rfl,by decide⟩)
theorem afJ:dS Tryz.prog tab ⟨(.struct [(0,34),(2,25)]),3,72,[.aj,.aj,.aj],false⟩ 81:=
 bL (i:=Tryz.t81) (z:=.agg #[.slice none 0 0,.slice none 0 0,.slice none 0 0]) (d:=(.struct (Tryz.prog.fieldsOf 81))) (by kernel_rfl) (by kernel_rfl) (by kernel_rfl) (by kernel_rfl) (by kernel_rfl) (by decide) (by decide) (by decide) (by decide) (nofun) (by kernel_rfl) (⟨_,rfl,by kernel_rfl,by decide⟩)
theorem afK:dS Tryz.prog tab ⟨(.struct [(0,34),(2,25)]),3,72,[.aj,.aj,.aj],false⟩ 82:=
 bL (i:=Tryz.t82) (z:=.agg #[.slice none 0 0,.slice none 0 0,.slice none 0 0]) (d:=(.struct (Tryz.prog.fieldsOf 82))) (by kernel_rfl) (by kernel_rfl) (by kernel_rfl) (by kernel_rfl) (by kernel_rfl) (by decide) (by decide) (by decide) (by decide) (nofun) (by kernel_rfl) (⟨_,rfl,by kernel_rfl,by decide⟩)
theorem adM:dS Tryz.prog tab ⟨(.slice 284),1,24,[.aj],false⟩ 128:=
 bL (i:=Tryz.t128) (z:=.slice none 0 0) (d:=(.slice 284)) (by kernel_rfl) (by kernel_rfl) (by kernel_rfl) (by kernel_rfl) (by kernel_rfl) (by decide) (by decide) (by decide) (by decide) (nofun) (by kernel_rfl) (rfl)
theorem adN:dS Tryz.prog tab ⟨(.struct [(0,9),(1,3),(2,128)]),3,48,[.str,.int .i64,.aj],false⟩ 129:=
 bL (i:=Tryz.t129) (z:=.agg #[.string ⟨#[]⟩,.int .i64 0,.slice none 0 0]) (d:=(.struct (Tryz.prog.fieldsOf 129))) (by kernel_rfl) (by kernel_rfl) (by kernel_rfl) (by kernel_rfl) (by kernel_rfl) (by decide) (by decide) (by decide) (by decide) (nofun) (by kernel_rfl) (⟨_,rfl,by kernel_rfl,by decide⟩)
theorem adO:dS Tryz.prog tab ⟨(.struct [(0,9),(1,3),(2,128)]),3,48,[.str,.int .i64,.aj],false⟩ 130:=
 bL (i:=Tryz.t130) (z:=.agg #[.string ⟨#[]⟩,.int .i64 0,.slice none 0 0]) (d:=(.struct (Tryz.prog.fieldsOf 130))) (by kernel_rfl) (by kernel_rfl) (by kernel_rfl) (by kernel_rfl) (by kernel_rfl) (by decide) (by decide) (by decide) (by decide) (nofun) (by kernel_rfl) (⟨_,rfl,by kernel_rfl,by decide⟩)
theorem adP:dS Tryz.prog tab ⟨(.slice 292),1,24,[.aj],false⟩ 132:=
 bL (i:=Tryz.t132) (z:=.slice none 0 0) (d:=(.slice 292)) (by kernel_rfl) (by kernel_rfl) (by kernel_rfl) (by kernel_rfl) (by kernel_rfl) (by decide) (by decide) (by decide) (by decide) (nofun) (by kernel_rfl) (rfl)
theorem adQ:dS Tryz.prog tab ⟨(.struct [(0,132),(1,53)]),2,48,[.aj,.aj],false⟩ 133:=
 bL (i:=Tryz.t133) (z:=.agg #[.slice none 0 0,.slice none 0 0]) (d:=(.struct (Tryz.prog.fieldsOf 133))) (by kernel_rfl) (by kernel_rfl) (by kernel_rfl) (by kernel_rfl) (by kernel_rfl) (by decide) (by decide) (by decide) (by decide) (nofun) (by kernel_rfl) (⟨_,rfl,by kernel_rfl,by decide⟩)
theorem adR:dS Tryz.prog tab ⟨(.struct [(0,132),(1,53)]),2,48,[.aj,.aj],false⟩ 134:=
 bL (i:=Tryz.t134) (z:=.agg #[.slice none 0 0,.slice none 0 0]) (d:=(.struct (Tryz.prog.fieldsOf 134))) (by kernel_rfl) (by kernel_rfl) (by kernel_rfl) (by kernel_rfl) (by kernel_rfl) (by decide) (by decide) (by decide) (by decide) (nofun) (by kernel_rfl) (⟨_,rfl,by kernel_rfl,by decide⟩)
theorem adS:dS Tryz.prog tab ⟨(.slice 141),1,24,[.aj],false⟩ 137:=
 bL (i:=Tryz.t137) (z:=.slice none 0 0) (d:=(.slice 141)) (by kernel_rfl) (by kernel_rfl) (by kernel_rfl) (by kernel_rfl) (by kernel_rfl) (by decide) (by decide) (by decide) (by decide) (nofun) (by kernel_rfl) (rfl)
theorem adT:dS Tryz.prog tab ⟨(.struct [(0,9),(1,3),(2,137)]),3,48,[.str,.int .i64,.aj],false⟩ 138:=
 bL (i:=Tryz.t138) (z:=.agg #[.string ⟨#[]⟩,.int .i64 0,.slice none 0 0]) (d:=(.struct (Tryz.prog.fieldsOf 138))) (by kernel_rfl) (by kernel_rfl) (by kernel_rfl) (by kernel_rfl) (by kernel_rfl) (by decide) (by decide) (by decide) (by decide) (nofun) (by kernel_rfl) (⟨_,rfl,by kernel_rfl,by decide⟩)
theorem adU:dS Tryz.prog tab ⟨(.struct [(0,9),(1,3),(2,137)]),3,48,[.str,.int .i64,.aj],false⟩ 139:=
 bL (i:=Tryz.t139) (z:=.agg #[.string ⟨#[]⟩,.int .i64 0,.slice none 0 0]) (d:=(.struct (Tryz.prog.fieldsOf 139))) (by kernel_rfl) (by kernel_rfl) (by kernel_rfl) (by kernel_rfl) (by kernel_rfl) (by decide) (by decide) (by decide) (by decide) (nofun) (by kernel_rfl) (⟨_,rfl,by kernel_rfl,by decide⟩)
theorem adV:dS Tryz.prog tab ⟨(.struct [(0,3),(1,25),(2,25)]),3,56,[.int .i64,.aj,.aj],false⟩ 141:=
 bL (i:=Tryz.t141) (z:=.agg #[.int .i64 0,.slice none 0 0,.slice none 0 0]) (d:=(.struct (Tryz.prog.fieldsOf 141))) (by kernel_rfl) (by kernel_rfl) (by kernel_rfl) (by kernel_rfl) (by kernel_rfl) (by decide) (by decide) (by decide) (by decide) (nofun) (by kernel_rfl) (⟨_,rfl,by kernel_rfl,by decide⟩)
theorem adW:dS Tryz.prog tab ⟨(.slice 229),1,24,[.aj],false⟩ 142:=
 bL (i:=Tryz.t142) (z:=.slice none 0 0) (d:=(.slice 229)) (by kernel_rfl) (by kernel_rfl) (by kernel_rfl) (by kernel_rfl) (by kernel_rfl) (by decide) (by decide) (by decide) (by decide) (nofun) (by kernel_rfl) (rfl)
theorem adX:dS Tryz.prog tab ⟨(.struct [(0,142),(1,53)]),2,48,[.aj,.aj],false⟩ 144:=
 bL (i:=Tryz.t144) (z:=.agg #[.slice none 0 0,.slice none 0 0]) (d:=(.struct (Tryz.prog.fieldsOf 144))) (by kernel_rfl) (by kernel_rfl) (by kernel_rfl) (by kernel_rfl) (by kernel_rfl) (by decide) (by decide) (by decide) (by decide) (nofun) (by kernel_rfl) (⟨_,rfl,by kernel_rfl,by decide⟩)
theorem adY:dS Tryz.prog tab ⟨(.struct [(0,142),(1,53)]),2,48,[.aj,.aj],false⟩ 145:=
 bL (i:=Tryz.t145) (z:=.agg #[.slice none 0 0,.slice none 0 0]) (d:=(.struct (Tryz.prog.fieldsOf 145))) (by kernel_rfl) (by kernel_rfl) (by kernel_rfl) (by kernel_rfl) (by kernel_rfl) (by decide) (by decide) (by decide) (by decide) (nofun) (by kernel_rfl) (⟨_,rfl,by kernel_rfl,by decide⟩)
theorem adZ:dS Tryz.prog tab ⟨(.slice 201),1,24,[.aj],false⟩ 147:=
 bL (i:=Tryz.t147) (z:=.slice none 0 0) (d:=(.slice 201)) (by kernel_rfl) (by kernel_rfl) (by kernel_rfl) (by kernel_rfl) (by kernel_rfl) (by decide) (by decide) (by decide) (by decide) (nofun) (by kernel_rfl) (rfl)
theorem acC:∀f∈Tryz.prog.fieldsOf 155,f.name≠ "_" :=by
 have h:((Tryz.prog.fieldsOf 155).toList.all fun f=>f.name != "_")=true:=by kernel_rfl
 intro f hf
 have:=List.all_eq_true.1 h f (by simpa using hf)
 simpa using this
theorem aea:dS Tryz.prog tab ⟨(.struct [(0,3),(1,3),(2,4),(3,3)]),4,32,[.int .i64,.int .i64,.bool,.int .i64],true⟩ 155:=
 bL (i:=Tryz.t155) (z:=.agg #[.int .i64 0,.int .i64 0,.bool false,.int .i64 0]) (d:=(.struct (Tryz.prog.fieldsOf 155))) (by kernel_rfl) (by kernel_rfl) (by kernel_rfl) (by kernel_rfl) (by kernel_rfl) (by decide) (by decide) (by decide) (by decide) (fun _=>⟨by kernel_rfl,by kernel_rfl,acC⟩) (by kernel_rfl) (⟨_,rfl,by kernel_rfl,by decide⟩)
theorem acD:∀f∈Tryz.prog.fieldsOf 157,f.name≠ "_" :=by
 have h:((Tryz.prog.fieldsOf 157).toList.all fun f=>f.name != "_")=true:=by kernel_rfl
 intro f hf
 have:=List.all_eq_true.1 h f (by simpa using hf)
 simpa using this
theorem aeb:dS Tryz.prog tab ⟨(.struct [(0,3),(1,3),(2,4),(3,3)]),4,32,[.int .i64,.int .i64,.bool,.int .i64],true⟩ 157:=
 bL (i:=Tryz.t157) (z:=.agg #[.int .i64 0,.int .i64 0,.bool false,.int .i64 0]) (d:=(.struct (Tryz.prog.fieldsOf 157))) (by kernel_rfl) (by kernel_rfl) (by kernel_rfl) (by kernel_rfl) (by kernel_rfl) (by decide) (by decide) (by decide) (by decide) (fun _=>⟨by kernel_rfl,by kernel_rfl,acD⟩) (by kernel_rfl) (⟨_,rfl,by kernel_rfl,by decide⟩)
theorem acE:∀f∈Tryz.prog.fieldsOf 185,f.name≠ "_" :=by
 have h:((Tryz.prog.fieldsOf 185).toList.all fun f=>f.name != "_")=true:=by kernel_rfl
 intro f hf
 have:=List.all_eq_true.1 h f (by simpa using hf)
 simpa using this
theorem aec:dS Tryz.prog tab ⟨(.struct [(0,3),(1,3),(2,3),(3,3)]),4,32,[.int .i64,.int .i64,.int .i64,.int .i64],true⟩ 185:=
 bL (i:=Tryz.t185) (z:=.agg #[.int .i64 0,.int .i64 0,.int .i64 0,.int .i64 0]) (d:=(.struct (Tryz.prog.fieldsOf 185))) (by kernel_rfl) (by kernel_rfl) (by kernel_rfl) (by kernel_rfl) (by kernel_rfl) (by decide) (by decide) (by decide) (by decide) (fun _=>⟨by kernel_rfl,by kernel_rfl,acE⟩) (by kernel_rfl) (⟨_,rfl,by kernel_rfl,by decide⟩)
theorem aed:dS Tryz.prog tab ⟨(.struct [(0,3),(1,185),(5,56)]),6,64,[.int .i64,.int .i64,.int .i64,.int .i64,.int .i64,.aj],false⟩ 186:=
 bL (i:=Tryz.t186) (z:=.agg #[.int .i64 0,.int .i64 0,.int .i64 0,.int .i64 0,.int .i64 0,.slice none 0 0]) (d:=(.struct (Tryz.prog.fieldsOf 186))) (by kernel_rfl) (by kernel_rfl) (by kernel_rfl) (by kernel_rfl) (by kernel_rfl) (by decide) (by decide) (by decide) (by decide) (nofun) (by kernel_rfl) (⟨_,rfl,by kernel_rfl,by decide⟩)
theorem aee:dS Tryz.prog tab ⟨(.struct [(0,3),(1,185),(5,56)]),6,64,[.int .i64,.int .i64,.int .i64,.int .i64,.int .i64,.aj],false⟩ 187:=
 bL (i:=Tryz.t187) (z:=.agg #[.int .i64 0,.int .i64 0,.int .i64 0,.int .i64 0,.int .i64 0,.slice none 0 0]) (d:=(.struct (Tryz.prog.fieldsOf 187))) (by kernel_rfl) (by kernel_rfl) (by kernel_rfl) (by kernel_rfl) (by kernel_rfl) (by decide) (by decide) (by decide) (by decide) (nofun) (by kernel_rfl) (⟨_,rfl,by kernel_rfl,by decide⟩)
theorem acF:∀f∈Tryz.prog.fieldsOf 190,f.name≠ "_" :=by
 have h:((Tryz.prog.fieldsOf 190).toList.all fun f=>f.name != "_")=true:=by kernel_rfl
 intro f hf
 have:=List.all_eq_true.1 h f (by simpa using hf)
 simpa using this
theorem aef:dS Tryz.prog tab ⟨(.struct [(0,3),(1,3),(2,3)]),3,24,[.int .i64,.int .i64,.int .i64],true⟩ 190:=
 bL (i:=Tryz.t190) (z:=.agg #[.int .i64 0,.int .i64 0,.int .i64 0]) (d:=(.struct (Tryz.prog.fieldsOf 190))) (by kernel_rfl) (by kernel_rfl) (by kernel_rfl) (by kernel_rfl) (by kernel_rfl) (by decide) (by decide) (by decide) (by decide) (fun _=>⟨by kernel_rfl,by kernel_rfl,acF⟩) (by kernel_rfl) (⟨_,rfl,by kernel_rfl,by decide⟩)
theorem aeg:dS Tryz.prog tab ⟨(.slice 62),1,24,[.aj],false⟩ 196:=
 bL (i:=Tryz.t196) (z:=.slice none 0 0) (d:=(.slice 62)) (by kernel_rfl) (by kernel_rfl) (by kernel_rfl) (by kernel_rfl) (by kernel_rfl) (by decide) (by decide) (by decide) (by decide) (nofun) (by kernel_rfl) (rfl)
theorem acG:∀f∈Tryz.prog.fieldsOf 201,f.name≠ "_" :=by
 have h:((Tryz.prog.fieldsOf 201).toList.all fun f=>f.name != "_")=true:=by kernel_rfl
 intro f hf
 have:=List.all_eq_true.1 h f (by simpa using hf)
 simpa using this
theorem aeh:dS Tryz.prog tab ⟨(.struct [(0,3),(1,3),(2,3),(3,3)]),4,32,[.int .i64,.int .i64,.int .i64,.int .i64],true⟩ 201:=
 bL (i:=Tryz.t201) (z:=.agg #[.int .i64 0,.int .i64 0,.int .i64 0,.int .i64 0]) (d:=(.struct (Tryz.prog.fieldsOf 201))) (by kernel_rfl) (by kernel_rfl) (by kernel_rfl) (by kernel_rfl) (by kernel_rfl) (by decide) (by decide) (by decide) (by decide) (fun _=>⟨by kernel_rfl,by kernel_rfl,acG⟩) (by kernel_rfl) (⟨_,rfl,by kernel_rfl,by decide⟩)
theorem aei:dS Tryz.prog tab ⟨(.struct [(0,190),(3,201),(7,62)]),8,80,[.int .i64,.int .i64,.int .i64,.int .i64,.int .i64,.int .i64,.int .i64,.aj],false⟩ 202:=
 bL (i:=Tryz.t202) (z:=.agg #[.int .i64 0,.int .i64 0,.int .i64 0,.int .i64 0,.int .i64 0,.int .i64 0,.int .i64 0,.slice none 0 0]) (d:=(.struct (Tryz.prog.fieldsOf 202))) (by kernel_rfl) (by kernel_rfl) (by kernel_rfl) (by kernel_rfl) (by kernel_rfl) (by decide) (by decide) (by decide) (by decide) (nofun) (by kernel_rfl) (⟨_,rfl,by kernel_rfl,by decide⟩)
theorem aej:dS Tryz.prog tab ⟨(.struct [(0,190),(3,201),(7,62)]),8,80,[.int .i64,.int .i64,.int .i64,.int .i64,.int .i64,.int .i64,.int .i64,.aj],false⟩ 203:=
 bL (i:=Tryz.t203) (z:=.agg #[.int .i64 0,.int .i64 0,.int .i64 0,.int .i64 0,.int .i64 0,.int .i64 0,.int .i64 0,.slice none 0 0]) (d:=(.struct (Tryz.prog.fieldsOf 203))) (by kernel_rfl) (by kernel_rfl) (by kernel_rfl) (by kernel_rfl) (by kernel_rfl) (by decide) (by decide) (by decide) (by decide) (nofun) (by kernel_rfl) (⟨_,rfl,by kernel_rfl,by decide⟩)
theorem acH:∀f∈Tryz.prog.fieldsOf 210,f.name≠ "_" :=by
 have h:((Tryz.prog.fieldsOf 210).toList.all fun f=>f.name != "_")=true:=by kernel_rfl
 intro f hf
 have:=List.all_eq_true.1 h f (by simpa using hf)
 simpa using this
theorem aek:dS Tryz.prog tab ⟨(.struct [(0,3),(1,3),(2,3)]),3,24,[.int .i64,.int .i64,.int .i64],true⟩ 210:=
 bL (i:=Tryz.t210) (z:=.agg #[.int .i64 0,.int .i64 0,.int .i64 0]) (d:=(.struct (Tryz.prog.fieldsOf 210))) (by kernel_rfl) (by kernel_rfl) (by kernel_rfl) (by kernel_rfl) (by kernel_rfl) (by decide) (by decide) (by decide) (by decide) (fun _=>⟨by kernel_rfl,by kernel_rfl,acH⟩) (by kernel_rfl) (⟨_,rfl,by kernel_rfl,by decide⟩)
theorem ael:dS Tryz.prog tab ⟨(.struct [(0,3),(1,201),(5,62)]),6,64,[.int .i64,.int .i64,.int .i64,.int .i64,.int .i64,.aj],false⟩ 211:=
 bL (i:=Tryz.t211) (z:=.agg #[.int .i64 0,.int .i64 0,.int .i64 0,.int .i64 0,.int .i64 0,.slice none 0 0]) (d:=(.struct (Tryz.prog.fieldsOf 211))) (by kernel_rfl) (by kernel_rfl) (by kernel_rfl) (by kernel_rfl) (by kernel_rfl) (by decide) (by decide) (by decide) (by decide) (nofun) (by kernel_rfl) (⟨_,rfl,by kernel_rfl,by decide⟩)
theorem aem:dS Tryz.prog tab ⟨(.struct [(0,3),(1,201),(5,62)]),6,64,[.int .i64,.int .i64,.int .i64,.int .i64,.int .i64,.aj],false⟩ 212:=
 bL (i:=Tryz.t212) (z:=.agg #[.int .i64 0,.int .i64 0,.int .i64 0,.int .i64 0,.int .i64 0,.slice none 0 0]) (d:=(.struct (Tryz.prog.fieldsOf 212))) (by kernel_rfl) (by kernel_rfl) (by kernel_rfl) (by kernel_rfl) (by kernel_rfl) (by decide) (by decide) (by decide) (by decide) (nofun) (by kernel_rfl) (⟨_,rfl,by kernel_rfl,by decide⟩)
theorem acI:∀f∈Tryz.prog.fieldsOf 229,f.name≠ "_" :=by
 have h:((Tryz.prog.fieldsOf 229).toList.all fun f=>f.name != "_")=true:=by kernel_rfl
 intro f hf
 have:=List.all_eq_true.1 h f (by simpa using hf)
 simpa using this
theorem aen:dS Tryz.prog tab ⟨(.struct [(0,3),(1,3)]),2,16,[.int .i64,.int .i64],true⟩ 229:=
 bL (i:=Tryz.t229) (z:=.agg #[.int .i64 0,.int .i64 0]) (d:=(.struct (Tryz.prog.fieldsOf 229))) (by kernel_rfl) (by kernel_rfl) (by kernel_rfl) (by kernel_rfl) (by kernel_rfl) (by decide) (by decide) (by decide) (by decide) (fun _=>⟨by kernel_rfl,by kernel_rfl,acI⟩) (by kernel_rfl) (⟨_,rfl,by kernel_rfl,by decide⟩)
theorem aeo:dS Tryz.prog tab ⟨(.slice 5),1,24,[.aj],false⟩ 249:=
 bL (i:=Tryz.t249) (z:=.slice none 0 0) (d:=(.slice 5)) (by kernel_rfl) (by kernel_rfl) (by kernel_rfl) (by kernel_rfl) (by kernel_rfl) (by decide) (by decide) (by decide) (by decide) (nofun) (by kernel_rfl) (rfl)
theorem aep:dS Tryz.prog tab ⟨(.slice 9),1,24,[.aj],false⟩ 250:=
 bL (i:=Tryz.t250) (z:=.slice none 0 0) (d:=(.slice 9)) (by kernel_rfl) (by kernel_rfl) (by kernel_rfl) (by kernel_rfl) (by kernel_rfl) (by decide) (by decide) (by decide) (by decide) (nofun) (by kernel_rfl) (rfl)
theorem aer:dS Tryz.prog tab ⟨(.slice 256),1,24,[.aj],false⟩ 255:=
 bL (i:=Tryz.t255) (z:=.slice none 0 0) (d:=(.slice 256)) (by kernel_rfl) (by kernel_rfl) (by kernel_rfl) (by kernel_rfl) (by kernel_rfl) (by decide) (by decide) (by decide) (by decide) (nofun) (by kernel_rfl) (rfl)
theorem aes:dS Tryz.prog tab ⟨(.slice 4),1,24,[.aj],false⟩ 256:=
 bL (i:=Tryz.t256) (z:=.slice none 0 0) (d:=(.slice 4)) (by kernel_rfl) (by kernel_rfl) (by kernel_rfl) (by kernel_rfl) (by kernel_rfl) (by decide) (by decide) (by decide) (by decide) (nofun) (by kernel_rfl) (rfl)
theorem aeu:dS Tryz.prog tab ⟨(.struct [(0,3),(1,25),(2,25)]),3,56,[.int .i64,.aj,.aj],false⟩ 284:=
 bL (i:=Tryz.t284) (z:=.agg #[.int .i64 0,.slice none 0 0,.slice none 0 0]) (d:=(.struct (Tryz.prog.fieldsOf 284))) (by kernel_rfl) (by kernel_rfl) (by kernel_rfl) (by kernel_rfl) (by kernel_rfl) (by decide) (by decide) (by decide) (by decide) (nofun) (by kernel_rfl) (⟨_,rfl,by kernel_rfl,by decide⟩)
theorem acJ:∀f∈Tryz.prog.fieldsOf 292,f.name≠ "_" :=by
 have h:((Tryz.prog.fieldsOf 292).toList.all fun f=>f.name != "_")=true:=by kernel_rfl
 intro f hf
 have:=List.all_eq_true.1 h f (by simpa using hf)
 simpa using this
theorem aev:dS Tryz.prog tab ⟨(.struct [(0,3),(1,3)]),2,16,[.int .i64,.int .i64],true⟩ 292:=
 bL (i:=Tryz.t292) (z:=.agg #[.int .i64 0,.int .i64 0]) (d:=(.struct (Tryz.prog.fieldsOf 292))) (by kernel_rfl) (by kernel_rfl) (by kernel_rfl) (by kernel_rfl) (by kernel_rfl) (by decide) (by decide) (by decide) (by decide) (fun _=>⟨by kernel_rfl,by kernel_rfl,acJ⟩) (by kernel_rfl) (⟨_,rfl,by kernel_rfl,by decide⟩)
theorem rW:bJ Tryz.prog tab:=acB ⟨adM,⟨afu,⟨afm,⟨ty9,⟨ty4,⟨ty3,⟨ty2,trivial,trivial⟩,trivial⟩,⟨ty5,trivial,trivial⟩⟩,⟨afk,⟨afj,trivial,trivial⟩,⟨afl,trivial,trivial⟩⟩⟩,⟨afq,⟨afo,⟨afn,trivial,trivial⟩,⟨afp,trivial,trivial⟩⟩,⟨afs,⟨afr,trivial,trivial⟩,⟨aft,trivial,trivial⟩⟩⟩⟩,⟨afD,⟨afz,⟨afx,⟨afw,⟨afv,trivial,trivial⟩,trivial⟩,⟨afy,trivial,trivial⟩⟩,⟨afB,⟨afA,trivial,trivial⟩,⟨afC,trivial,trivial⟩⟩⟩,⟨afH,⟨afF,⟨afE,trivial,trivial⟩,⟨afG,trivial,trivial⟩⟩,⟨afJ,⟨afI,trivial,trivial⟩,⟨afK,trivial,trivial⟩⟩⟩⟩⟩,⟨aed,⟨adV,⟨adR,⟨adP,⟨adO,⟨adN,trivial,trivial⟩,trivial⟩,⟨adQ,trivial,trivial⟩⟩,⟨adT,⟨adS,trivial,trivial⟩,⟨adU,trivial,trivial⟩⟩⟩,⟨adZ,⟨adX,⟨adW,trivial,trivial⟩,⟨adY,trivial,trivial⟩⟩,⟨aeb,⟨aea,trivial,trivial⟩,⟨aec,trivial,trivial⟩⟩⟩⟩,⟨aem,⟨aei,⟨aeg,⟨aef,⟨aee,trivial,trivial⟩,trivial⟩,⟨aeh,trivial,trivial⟩⟩,⟨aek,⟨aej,trivial,trivial⟩,⟨ael,trivial,trivial⟩⟩⟩,⟨aer,⟨aeo,⟨aen,trivial,trivial⟩,⟨aep,trivial,trivial⟩⟩,⟨aeu,⟨aes,trivial,trivial⟩,⟨aev,trivial,trivial⟩⟩⟩⟩⟩⟩
end Go.Proofs.YtglikcnmgnlejaaGreat.Abs
