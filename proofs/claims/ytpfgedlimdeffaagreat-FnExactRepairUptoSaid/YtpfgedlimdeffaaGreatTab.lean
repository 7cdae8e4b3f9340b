/- The table of the types of this seat: what the abstract layer must know of them, by closed facts. Printed by gentab.py. -/
import Derived.Test.YtpfgedlimdeffaaGreatPlain
import Derived.Test.YtpfgedlimdeffaaGreatProg
import Derived.KernelRfl
set_option linter.all false
namespace Go.Proofs.YtpfgedlimdeffaaGreat.Abs
open Go.Proofs
def tree:Tree:=(.node 84 ⟨(.slice 159),1,24,[.aj],false⟩ (.node 29 ⟨(.struct [(0,25),(1,25)]),2,48,[.aj,.aj],false⟩ (.node 22 ⟨(.slice 86),1,24,[.aj],false⟩ (.node 4 ⟨.bool,1,1,[.bool],false⟩ (.node 3 ⟨(.int .i64),1,8,[.int .i64],false⟩ (.node 2 ⟨(.int .i64),1,8,[.int .i64],false⟩ .leaf .leaf) .leaf) (.node 9 ⟨.str,1,16,[.str],false⟩ (.node 5 ⟨(.int .u8),1,1,[.int .u8],false⟩ .leaf .leaf) .leaf)) (.node 25 ⟨(.slice 3),1,24,[.aj],false⟩ (.node 24 ⟨(.slice 91),1,24,[.aj],false⟩ (.node 23 ⟨(.slice 114),1,24,[.aj],false⟩ .leaf .leaf) .leaf) (.node 27 ⟨(.struct [(0,3),(1,22),(2,23),(3,24),(4,25)]),5,104,[.int .i64,.aj,.aj,.aj,.aj],false⟩ (.node 26 ⟨(.struct [(0,3),(1,22),(2,23),(3,24),(4,25)]),5,104,[.int .i64,.aj,.aj,.aj,.aj],false⟩ .leaf .leaf) .leaf))) (.node 40 ⟨(.struct [(0,3),(1,37),(2,38),(3,39),(4,25)]),5,104,[.int .i64,.aj,.aj,.aj,.aj],false⟩ (.node 37 ⟨(.slice 96),1,24,[.aj],false⟩ (.node 34 ⟨(.struct [(0,25),(1,25)]),2,48,[.aj,.aj],false⟩ (.node 31 ⟨(.struct [(0,3),(1,3),(2,3),(3,3)]),4,32,[.int .i64,.int .i64,.int .i64,.int .i64],true⟩ .leaf .leaf) .leaf) (.node 39 ⟨(.slice 102),1,24,[.aj],false⟩ (.node 38 ⟨(.slice 112),1,24,[.aj],false⟩ .leaf .leaf) .leaf)) (.node 60 ⟨(.struct [(0,34),(2,25)]),3,72,[.aj,.aj,.aj],false⟩ (.node 44 ⟨(.struct [(0,3),(1,3),(2,3),(3,3)]),4,32,[.int .i64,.int .i64,.int .i64,.int .i64],true⟩ (.node 41 ⟨(.struct [(0,3),(1,37),(2,38),(3,39),(4,25)]),5,104,[.int .i64,.aj,.aj,.aj,.aj],false⟩ .leaf .leaf) .leaf) (.node 61 ⟨(.struct [(0,34),(2,25)]),3,72,[.aj,.aj,.aj],false⟩ .leaf .leaf)))) (.node 99 ⟨(.slice 131),1,24,[.aj],false⟩ (.node 91 ⟨(.struct [(0,88),(1,89)]),2,48,[.aj,.aj],false⟩ (.node 88 ⟨(.slice 170),1,24,[.aj],false⟩ (.node 86 ⟨(.struct [(0,9),(1,3),(2,84)]),3,48,[.str,.int .i64,.aj],false⟩ (.node 85 ⟨(.struct [(0,9),(1,3),(2,84)]),3,48,[.str,.int .i64,.aj],false⟩ .leaf .leaf) .leaf) (.node 90 ⟨(.struct [(0,88),(1,89)]),2,48,[.aj,.aj],false⟩ (.node 89 ⟨(.slice 25),1,24,[.aj],false⟩ .leaf .leaf) .leaf)) (.node 96 ⟨(.struct [(0,9),(1,3),(2,94)]),3,48,[.str,.int .i64,.aj],false⟩ (.node 95 ⟨(.struct [(0,9),(1,3),(2,94)]),3,48,[.str,.int .i64,.aj],false⟩ (.node 94 ⟨(.slice 98),1,24,[.aj],false⟩ .leaf .leaf) .leaf) (.node 98 ⟨(.struct [(0,3),(1,25),(2,25)]),3,56,[.int .i64,.aj,.aj],false⟩ .leaf .leaf))) (.node 131 ⟨(.struct [(0,3),(1,3)]),2,16,[.int .i64,.int .i64],true⟩ (.node 104 ⟨(.slice 138),1,24,[.aj],false⟩ (.node 102 ⟨(.struct [(0,99),(1,89)]),2,48,[.aj,.aj],false⟩ (.node 101 ⟨(.struct [(0,99),(1,89)]),2,48,[.aj,.aj],false⟩ .leaf .leaf) .leaf) (.node 114 ⟨(.struct [(0,3),(1,3),(2,4),(3,3)]),4,32,[.int .i64,.int .i64,.bool,.int .i64],true⟩ (.node 112 ⟨(.struct [(0,3),(1,3),(2,4),(3,3)]),4,32,[.int .i64,.int .i64,.bool,.int .i64],true⟩ .leaf .leaf) .leaf)) (.node 159 ⟨(.struct [(0,3),(1,25),(2,25)]),3,56,[.int .i64,.aj,.aj],false⟩ (.node 157 ⟨(.slice 5),1,24,[.aj],false⟩ (.node 138 ⟨(.struct [(0,3),(1,3),(2,3),(3,3)]),4,32,[.int .i64,.int .i64,.int .i64,.int .i64],true⟩ .leaf .leaf) .leaf) (.node 170 ⟨(.struct [(0,3),(1,3)]),2,16,[.int .i64,.int .i64],true⟩ .leaf .leaf)))))
def tab:Nat→Ty:=tree.find
theorem ty2:fT Tryz.prog tab ⟨(.int .i64),1,8,[.int .i64],false⟩ 2:=
 dw (i:=Tryz.t2) (z:=.int .i64 0) (d:=(.int .i64)) (by kernel_rfl) (by kernel_rfl) (by kernel_rfl) (by kernel_rfl) (by kernel_rfl) (by decide) (by decide) (by decide) (by decide) (nofun) (by kernel_rfl) (rfl)
theorem ty3:fT Tryz.prog tab ⟨(.int .i64),1,8,[.int .i64],false⟩ 3:=
 dw (i:=Tryz.t3) (z:=.int .i64 0) (d:=(.int .i64)) (by kernel_rfl) (by kernel_rfl) (by kernel_rfl) (by kernel_rfl) (by kernel_rfl) (by decide) (by decide) (by decide) (by decide) (nofun) (by kernel_rfl) (rfl)
theorem ty4:fT Tryz.prog tab ⟨.bool,1,1,[.bool],false⟩ 4:=
 dw (i:=Tryz.t4) (z:=.bool false) (d:=.bool) (by kernel_rfl) (by kernel_rfl) (by kernel_rfl) (by kernel_rfl) (by kernel_rfl) (by decide) (by decide) (by decide) (by decide) (nofun) (by kernel_rfl) (rfl)
theorem ty5:fT Tryz.prog tab ⟨(.int .u8),1,1,[.int .u8],false⟩ 5:=
 dw (i:=Tryz.t5) (z:=.int .u8 0) (d:=(.int .u8)) (by kernel_rfl) (by kernel_rfl) (by kernel_rfl) (by kernel_rfl) (by kernel_rfl) (by decide) (by decide) (by decide) (by decide) (nofun) (by kernel_rfl) (rfl)
theorem ty9:fT Tryz.prog tab ⟨.str,1,16,[.str],false⟩ 9:=
 dw (i:=Tryz.t9) (z:=.string ⟨#[]⟩) (d:=.string) (by kernel_rfl) (by kernel_rfl) (by kernel_rfl) (by kernel_rfl) (by kernel_rfl) (by decide) (by decide) (by decide) (by decide) (nofun) (by kernel_rfl) (rfl)
theorem Zb:fT Tryz.prog tab ⟨(.slice 86),1,24,[.aj],false⟩ 22:=
 dw (i:=Tryz.t22) (z:=.slice none 0 0) (d:=(.slice 86)) (by kernel_rfl) (by kernel_rfl) (by kernel_rfl) (by kernel_rfl) (by kernel_rfl) (by decide) (by decide) (by decide) (by decide) (nofun) (by kernel_rfl) (rfl)
theorem Zc:fT Tryz.prog tab ⟨(.slice 114),1,24,[.aj],false⟩ 23:=
 dw (i:=Tryz.t23) (z:=.slice none 0 0) (d:=(.slice 114)) (by kernel_rfl) (by kernel_rfl) (by kernel_rfl) (by kernel_rfl) (by kernel_rfl) (by decide) (by decide) (by decide) (by decide) (nofun) (by kernel_rfl) (rfl)
theorem Zd:fT Tryz.prog tab ⟨(.slice 91),1,24,[.aj],false⟩ 24:=
 dw (i:=Tryz.t24) (z:=.slice none 0 0) (d:=(.slice 91)) (by kernel_rfl) (by kernel_rfl) (by kernel_rfl) (by kernel_rfl) (by kernel_rfl) (by decide) (by decide) (by decide) (by decide) (nofun) (by kernel_rfl) (rfl)
theorem Ze:fT Tryz.prog tab ⟨(.slice 3),1,24,[.aj],false⟩ 25:=
 dw (i:=Tryz.t25) (z:=.slice none 0 0) (d:=(.slice 3)) (by kernel_rfl) (by kernel_rfl) (by kernel_rfl) (by kernel_rfl) (by kernel_rfl) (by decide) (by decide) (by decide) (by decide) (nofun) (by kernel_rfl) (rfl)
theorem Zf:fT Tryz.prog tab ⟨(.struct [(0,3),(1,22),(2,23),(3,24),(4,25)]),5,104,[.int .i64,.aj,.aj,.aj,.aj],false⟩ 26:=
 dw (i:=Tryz.t26) (z:=.agg #[.int .i64 0,.slice none 0 0,.slice none 0 0,.slice none 0 0,.slice none 0 0]) (d:=(.struct (Tryz.prog.fieldsOf 26))) (by kernel_rfl) (by kernel_rfl) (by kernel_rfl) (by kernel_rfl) (by kernel_rfl) (by decide) (by decide) (by decide) (by decide) (nofun) (by kernel_rfl) (⟨_,rfl,by kernel_rfl,by decide⟩)
theorem Zg:fT Tryz.prog tab ⟨(.struct [(0,3),(1,22),(2,23),(3,24),(4,25)]),5,104,[.int .i64,.aj,.aj,.aj,.aj],false⟩ 27:=
 dw (i:=Tryz.t27) (z:=.agg #[.int .i64 0,.slice none 0 0,.slice none 0 0,.slice none 0 0,.slice none 0 0]) (d:=(.struct (Tryz.prog.fieldsOf 27))) (by kernel_rfl) (by kernel_rfl) (by kernel_rfl) (by kernel_rfl) (by kernel_rfl) (by decide) (by decide) (by decide) (by decide) (nofun) (by kernel_rfl) (⟨_,rfl,by kernel_rfl,by decide⟩)
theorem Zh:fT Tryz.prog tab ⟨(.struct [(0,25),(1,25)]),2,48,[.aj,.aj],false⟩ 29:=
 dw (i:=Tryz.t29) (z:=.agg #[.slice none 0 0,.slice none 0 0]) (d:=(.struct (Tryz.prog.fieldsOf 29))) (by kernel_rfl) (by kernel_rfl) (by kernel_rfl) (by kernel_rfl) (by kernel_rfl) (by decide) (by decide) (by decide) (by decide) (nofun) (by kernel_rfl) (⟨_,rfl,by kernel_rfl,by decide⟩)
theorem XW:∀f∈Tryz.prog.fieldsOf 31,f.name≠ "_" :=by
 have h:((Tryz.prog.fieldsOf 31).toList.all fun f=>f.name != "_")=true:=by kernel_rfl
 intro f hf
 have:=List.all_eq_true.1 h f (by simpa using hf)
 simpa using this
theorem Zi:fT Tryz.prog tab ⟨(.struct [(0,3),(1,3),(2,3),(3,3)]),4,32,[.int .i64,.int .i64,.int .i64,.int .i64],true⟩ 31:=
 dw (i:=Tryz.t31) (z:=.agg #[.int .i64 0,.int .i64 0,.int .i64 0,.int .i64 0]) (d:=(.struct (Tryz.prog.fieldsOf 31))) (by kernel_rfl) (by kernel_rfl) (by kernel_rfl) (by kernel_rfl) (by kernel_rfl) (by decide) (by decide) (by decide) (by decide) (fun _=>⟨by kernel_rfl,by kernel_rfl,XW⟩) (by kernel_rfl) (⟨_,rfl,by kernel_rfl,by decide⟩)
theorem Zj:fT Tryz.prog tab ⟨(.struct [(0,25),(1,25)]),2,48,[.aj,.aj],false⟩ 34:=
 dw (i:=Tryz.t34) (z:=.agg #[.slice none 0 0,.slice none 0 0]) (d:=(.struct (Tryz.prog.fieldsOf 34))) (by kernel_rfl) (by kernel_rfl) (by kernel_rfl) (by kernel_rfl) (by kernel_rfl) (by decide) (by decide) (by decide) (by decide) (nofun) (by kernel_rfl) (⟨_,rfl,by kernel_rfl,by decide⟩)
theorem Zk:fT Tryz.prog tab ⟨(.slice 96),1,24,[.aj],false⟩ 37:=
 dw (i:=Tryz.t37) (z:=.slice none 0 0) (d:=(.slice 96)) (by kernel_rfl) (by kernel_rfl) (by kernel_rfl) (by kernel_rfl) (by kernel_rfl) (by decide) (by decide) (by decide) (by decide) (nofun) (by kernel_rfl) (rfl)
theorem Zl:fT Tryz.prog tab ⟨(.slice 112),1,24,[.aj],false⟩ 38:=
 dw (i:=Tryz.t38) (z:=.slice none 0 0) (d:=(.slice 112)) (by kernel_rfl) (by kernel_rfl) (by kernel_rfl) (by kernel_rfl) (by kernel_rfl) (by decide) (by decide) (by decide) (by decide) (nofun) (by kernel_rfl) (rfl)
theorem Zm:fT Tryz.prog tab ⟨(.slice 102),1,24,[.aj],false⟩ 39:=
 dw (i:=Tryz.t39) (z:=.slice none 0 0) (d:=(.slice 102)) (by kernel_rfl) (by kernel_rfl) (by kernel_rfl) (by kernel_rfl) (by kernel_rfl) (by decide) (by decide) (by decide) (by decide) (nofun) (by kernel_rfl) (rfl)
theorem Zn:fT Tryz.prog tab ⟨(.struct [(0,3),(1,37),(2,38),(3,39),(4,25)]),5,104,[.int .i64,.aj,.aj,.aj,.aj],false⟩ 40:=
 dw (i:=Tryz.t40) (z:=.agg #[.int .i64 0,.slice none 0 0,.slice none 0 0,.slice none 0 0,.slice none 0 0]) (d:=(.struct (Tryz.prog.fieldsOf 40))) (by kernel_rfl) (by kernel_rfl) (by kernel_rfl) (by kernel_rfl) (by kernel_rfl) (by decide) (by decide) (by decide) (by decide) (nofun) (by kernel_rfl) (⟨_,rfl,by kernel_rfl,by decide⟩)
theorem Zo:fT Tryz.prog tab ⟨(.struct [(0,3),(1,37),(2,38),(3,39),(4,25)]),5,104,[.int .i64,.aj,.aj,.aj,.aj],false⟩ 41:=
 dw (i:=Tryz.t41) (z:=.agg #[.int .i64 0,.slice none 0 0,.slice none 0 0,.slice none 0 0,.slice none 0 0]) (d:=(.struct (Tryz.prog.fieldsOf 41))) (by kernel_rfl) (by kernel_rfl) (by kernel_rfl) (by kernel_rfl) (by kernel_rfl) (by decide) (by decide) (by decide) (by decide) (nofun) (by kernel_rfl) (⟨_,rfl,by kernel_rfl,by decide⟩)
theorem XY:∀f∈Tryz.prog.fieldsOf 44,f.name≠ "_" :=by
 have h:((Tryz.prog.fieldsOf 44).toList.all fun f=>f.name != "_")=true:=by kernel_rfl
 intro f hf
 have:=List.all_eq_true.1 h f (by simpa using hf)
 simpa using this
theorem Zp:fT Tryz.prog tab ⟨(.struct [(0,3),(1,3),(2,3),(3,3)]),4,32,[.int .i64,.int .i64,.int .i64,.int .i64],true⟩ 44:=
 dw (i:=Tryz.t44) (z:=.agg #[.int .i64 0,.int .i64 0,.int .i64 0,.int .i64 0]) (d:=(.struct (Tryz.prog.fieldsOf 44))) (by kernel_rfl) (by kernel_rfl) (by kernel_rfl) (by kernel_rfl) (by kernel_rfl) (by decide) (by decide) (by decide) (by decide) (fun _=>⟨by kernel_rfl,by kernel_rfl,XY⟩) (by kernel_rfl) (⟨_,rfl,by kernel_rfl,by decide⟩)
theorem Zq:fT Tryz.prog tab ⟨(.struct [(0,34),(2,25)]),3,72,[.aj,.aj,.aj],false⟩ 60:=
 dw (i:=Tryz.t60) (z:=.agg #[.slice none 0 0,.slice none 0 0,.slice none 0 0]) (d:=(.struct (Tryz.prog.fieldsOf 60))) (by kernel_rfl) (by kernel_rfl) (by kernel_rfl) (by kernel_rfl) (by kernel_rfl) (by decide) (by decide) (by decide) (by decide) (nofun) (by kernel_rfl) (⟨_,rfl,by kernel_rfl,by decide⟩)
theorem Zr:fT Tryz.prog tab ⟨(.struct [(0,34),(2,25)]),3,72,[.aj,.aj,.aj],false⟩ 61:=
 dw (i:=Tryz.t61) (z:=.agg #[.slice none 0 0,.slice none 0 0,.slice none 0 0]) (d:=(.struct (Tryz.prog.fieldsOf 61))) (by kernel_rfl) (by kernel_rfl) (by kernel_rfl) (by kernel_rfl) (by kernel_rfl) (by decide) (by decide) (by decide) (by decide) (nofun) (by kernel_rfl) (⟨_,rfl,by kernel_rfl,by decide⟩)
theorem Zt:fT Tryz.prog tab ⟨(.slice 159),1,24,[.aj],false⟩ 84:=
 dw (i:=Tryz.t84) (z:=.slice none 0 0) (d:=(.slice 159)) (by kernel_rfl) (by kernel_rfl) (by kernel_rfl) (by kernel_rfl) (by kernel_rfl) (by decide) (by decide) (by decide) (by decide) (nofun) (by kernel_rfl) (rfl)
theorem Zu:fT Tryz.prog tab ⟨(.struct [(0,9),(1,3),(2,84)]),3,48,[.str,.int .i64,.aj],false⟩ 85:=
 dw (i:=Tryz.t85) (z:=.agg #[.string ⟨#[]⟩,.int .i64 0,.slice none 0 0]) (d:=(.struct (Tryz.prog.fieldsOf 85))) (by kernel_rfl) (by kernel_rfl) (by kernel_rfl) (by kernel_rfl) (by kernel_rfl) (by decide) (by decide) (by decide) (by decide) (nofun) (by kernel_rfl) (⟨_,rfl,by kernel_rfl,by decide⟩)
theorem Zv:fT Tryz.prog tab ⟨(.struct [(0,9),(1,3),(2,84)]),3,48,[.str,.int .i64,.aj],false⟩ 86:=
 dw (i:=Tryz.t86) (z:=.agg #[.string ⟨#[]⟩,.int .i64 0,.slice none 0 0]) (d:=(.struct (Tryz.prog.fieldsOf 86))) (by kernel_rfl) (by kernel_rfl) (by kernel_rfl) (by kernel_rfl) (by kernel_rfl) (by decide) (by decide) (by decide) (by decide) (nofun) (by kernel_rfl) (⟨_,rfl,by kernel_rfl,by decide⟩)
theorem Zw:fT Tryz.prog tab ⟨(.slice 170),1,24,[.aj],false⟩ 88:=
 dw (i:=Tryz.t88) (z:=.slice none 0 0) (d:=(.slice 170)) (by kernel_rfl) (by kernel_rfl) (by kernel_rfl) (by kernel_rfl) (by kernel_rfl) (by decide) (by decide) (by decide) (by decide) (nofun) (by kernel_rfl) (rfl)
theorem Zx:fT Tryz.prog tab ⟨(.slice 25),1,24,[.aj],false⟩ 89:=
 dw (i:=Tryz.t89) (z:=.slice none 0 0) (d:=(.slice 25)) (by kernel_rfl) (by kernel_rfl) (by kernel_rfl) (by kernel_rfl) (by kernel_rfl) (by decide) (by decide) (by decide) (by decide) (nofun) (by kernel_rfl) (rfl)
theorem Zy:fT Tryz.prog tab ⟨(.struct [(0,88),(1,89)]),2,48,[.aj,.aj],false⟩ 90:=
 dw (i:=Tryz.t90) (z:=.agg #[.slice none 0 0,.slice none 0 0]) (d:=(.struct (Tryz.prog.fieldsOf 90))) (by kernel_rfl) (by kernel_rfl) (by kernel_rfl) (by kernel_rfl) (by kernel_rfl) (by decide) (by decide) (by decide) (by decide) (nofun) (by kernel_rfl) (⟨_,rfl,by kernel_rfl,by decide⟩)
theorem Zz:fT Tryz.prog tab ⟨(.struct [(0,88),(1,89)]),2,48,[.aj,.aj],false⟩ 91:=
 dw (i:=Tryz.t91) (z:=.agg #[.slice none 0 0,.slice none 0 0]) (d:=(.struct (Tryz.prog.fieldsOf 91))) (by kernel_rfl) (by kernel_rfl) (by kernel_rfl) (by kernel_rfl) (by kernel_rfl) (by decide) (by decide) (by decide) (by decide) (nofun) (by kernel_rfl) (⟨_,rfl,by kernel_rfl,by decide⟩)
theorem ZA:fT Tryz.prog tab ⟨(.slice 98),1,24,[.aj],false⟩ 94:=
 dw (i:=Tryz.t94) (z:=.slice none 0 0) (d:=(.slice 98)) (by kernel_rfl) (by kernel_rfl) (by kernel_rfl) (by kernel_rfl) (by kernel_rfl) (by decide) (by decide) (by decide) (by decide) (nofun) (by kernel_rfl) (rfl)
theorem ZB:fT Tryz.prog tab ⟨(.struct [(0,9),(1,3),(2,94)]),3,48,[.str,.int .i64,.aj],false⟩ 95:=
 dw (i:=Tryz.t95) (z:=.agg #[.string ⟨#[]⟩,.int .i64 0,.slice none 0 0]) (d:=(.struct (Tryz.prog.fieldsOf 95))) (by kernel_rfl) (by kernel_rfl) (by kernel_rfl) (by kernel_rfl) (by kernel_rfl) (by decide) (by decide) (by decide) (by decide) (nofun) (by kernel_rfl) (⟨_,rfl,by kernel_rfl,by decide⟩)
theorem ZE:fT Tryz.prog tab ⟨(.struct [(0,9),(1,3),(2,94)]),3,48,[.str,.int .i64,.aj],false⟩ 96:=
 dw (i:=Tryz.t96) (z:=.agg #[.string ⟨#[]⟩,.int .i64 0,.slice none 0 0]) (d:=(.struct (Tryz.prog.fieldsOf 96))) (by kernel_rfl) (by kernel_rfl) (by kernel_rfl) (by kernel_rfl) (by kernel_rfl) (by decide) (by decide) (by decide) (by decide) (nofun) (by kernel_rfl) (⟨_,rfl,by kernel_rfl,by decide⟩)
theorem ZF:fT Tryz.prog tab ⟨(.struct [(0,3),(1,25),(2,25)]),3,56,[.int .i64,.aj,.aj],false⟩ 98:=
 dw (i:=Tryz.t98) (z:=.agg #[.int .i64 0,.slice none 0 0,.slice none 0 0]) (d:=(.struct (Tryz.prog.fieldsOf 98))) (by kernel_rfl) (by kernel_rfl) (by kernel_rfl) (by kernel_rfl) (by kernel_rfl) (by decide) (by decide) (by decide) (by decide) (nofun) (by kernel_rfl) (⟨_,rfl,by kernel_rfl,by decide⟩)
theorem ZG:fT Tryz.prog tab ⟨(.slice 131),1,24,[.aj],false⟩ 99:=
 dw (i:=Tryz.t99) (z:=.slice none 0 0) (d:=(.slice 131)) (by kernel_rfl) (by kernel_rfl) (by kernel_rfl) (by kernel_rfl) (by kernel_rfl) (by decide) (by decide) (by decide) (by decide) (nofun) (by kernel_rfl) (rfl)
theorem XZ:fT Tryz.prog tab ⟨(.struct [(0,99),(1,89)]),2,48,[.aj,.aj],false⟩ 101:=
 dw (i:=Tryz.t101) (z:=.agg #[.slice none 0 0,.slice none 0 0]) (d:=(.struct (Tryz.prog.fieldsOf 101))) (by kernel_rfl) (by kernel_rfl) (by kernel_rfl) (by kernel_rfl) (by kernel_rfl) (by decide) (by decide) (by decide) (by decide) (nofun) (by kernel_rfl) (⟨_,rfl,by kernel_rfl,by decide⟩)
theorem Ya:fT Tryz.prog tab ⟨(.struct [(0,99),(1,89)]),2,48,[.aj,.aj],false⟩ 102:=
 dw (i:=Tryz.t102) (z:=.agg #[.slice none 0 0,.slice none 0 0]) (d:=(.struct (Tryz.prog.fieldsOf 102))) (by kernel_rfl) (by kernel_rfl) (by kernel_rfl) (by kernel_rfl) (by kernel_rfl) (by decide) (by decide) (by decide) (by decide) (nofun) (by kernel_rfl) (⟨_,rfl,by kernel_rfl,by decide⟩)
theorem Yb:fT Tryz.prog tab ⟨(.slice 138),1,24,[.aj],false⟩ 104:=
 dw (i:=Tryz.t104) (z:=.slice none 0 0) (d:=(.slice 138)) (by kernel_rfl) (by kernel_rfl) (by kernel_rfl) (by kernel_rfl) (by kernel_rfl) (by decide) (by decide) (by decide) (by decide) (nofun) (by kernel_rfl) (rfl)
theorem Xb:∀f∈Tryz.prog.fieldsOf 112,f.name≠ "_" :=by
 have h:((Tryz.prog.fieldsOf 112).toList.all fun f=>f.name != "_")=true:=by kernel_rfl
 intro f hf
 have:=List.all_eq_true.1 h f (by simpa using hf)
 simpa using this
theorem Yc:fT Tryz.prog tab ⟨(.struct [(0,3),(1,3),(2,4),(3,3)]),4,32,[.int .i64,.int .i64,.bool,.int .i64],true⟩ 112:=
 dw (i:=Tryz.t112) (z:=.agg #[.int .i64 0,.int .i64 0,.bool false,.int .i64 0]) (d:=(.struct (Tryz.prog.fieldsOf 112))) (by kernel_rfl) (by kernel_rfl) (by kernel_rfl) (by kernel_rfl) (by kernel_rfl) (by decide) (by decide) (by decide) (by decide) (fun _=>⟨by kernel_rfl,by kernel_rfl,Xb⟩) (by kernel_rfl) (⟨_,rfl,by kernel_rfl,by decide⟩)
theorem Xc:∀f∈Tryz.prog.fieldsOf 114,f.name≠ "_" :=by
 have h:((Tryz.prog.fieldsOf 114).toList.all fun f=>f.name != "_")=true:=by kernel_rfl
 intro f hf
 have:=List.all_eq_true.1 h f (by simpa using hf)
 simpa using this
theorem Yd:fT Tryz.prog tab ⟨(.struct [(0,3),(1,3),(2,4),(3,3)]),4,32,[.int .i64,.int .i64,.bool,.int .i64],true⟩ 114:=
 dw (i:=Tryz.t114) (z:=.agg #[.int .i64 0,.int .i64 0,.bool false,.int .i64 0]) (d:=(.struct (Tryz.prog.fieldsOf 114))) (by kernel_rfl) (by kernel_rfl) (by kernel_rfl) (by kernel_rfl) (by kernel_rfl) (by decide) (by decide) (by decide) (by decide) (fun _=>⟨by kernel_rfl,by kernel_rfl,Xc⟩) (by kernel_rfl) (⟨_,rfl,by kernel_rfl,by decide⟩)
theorem Xd:∀f∈Tryz.prog.fieldsOf 131,f.name≠ "_" :=by
 have h:((Tryz.prog.fieldsOf 131).toList.all fun f=>f.name != "_")=true:=by kernel_rfl
 intro f hf
 have:=List.all_eq_true.1 h f (by simpa using hf)
 simpa using this
theorem Ye:fT Tryz.prog tab ⟨(.struct [(0,3),(1,3)]),2,16,[.int .i64,.int .i64],true⟩ 131:=
 dw (i:=Tryz.t131) (z:=.agg #[.int .i64 0,.int .i64 0]) (d:=(.struct (Tryz.prog.fieldsOf 131))) (by kernel_rfl) (by kernel_rfl) (by kernel_rfl) (by kernel_rfl) (by kernel_rfl) (by decide) (by decide) (by decide) (by decide) (fun _=>⟨by kernel_rfl,by kernel_rfl,Xd⟩) (by kernel_rfl) (⟨_,rfl,by kernel_rfl,by decide⟩)
theorem Xe:∀f∈Tryz.prog.fieldsOf 138,f.name≠ "_" :=by
 have h:((Tryz.prog.fieldsOf 138).toList.all fun f=>f.name != "_")=true:=by kernel_rfl
 intro f hf
 have:=List.all_eq_true.1 h f (by simpa using hf)
 simpa using this
theorem Yf:fT Tryz.prog tab ⟨(.struct [(0,3),(1,3),(2,3),(3,3)]),4,32,[.int .i64,.int .i64,.int .i64,.int .i64],true⟩ 138:=
 dw (i:=Tryz.t138) (z:=.agg #[.int .i64 0,.int .i64 0,.int .i64 0,.int .i64 0]) (d:=(.struct (Tryz.prog.fieldsOf 138))) (by kernel_rfl) (by kernel_rfl) (by kernel_rfl) (by kernel_rfl) (by kernel_rfl) (by decide) (by decide) (by decide) (by decide) (fun _=>⟨by kernel_rfl,by kernel_rfl,Xe⟩) (by kernel_rfl) (⟨_,rfl,by kernel_rfl,by decide⟩)
theorem Yg:fT Tryz.prog tab ⟨(.slice 5),1,24,[.aj],false⟩ 157:=
 dw (i:=Tryz.t157) (z:=.slice none 0 0) (d:=(.slice 5)) (by kernel_rfl) (by kernel_rfl) (by kernel_rfl) (by kernel_rfl) (by kernel_rfl) (by decide) (by decide) (by decide) (by decide) (nofun) (by kernel_rfl) (rfl)
theorem Yh:fT Tryz.prog tab ⟨(.struct [(0,3),(1,25),(2,25)]),3,56,[.int .i64,.aj,.aj],false⟩ 159:=
 dw (i:=Tryz.t159) (z:=.agg #[.int .i64 0,.slice none 0 0,.slice none 0 0]) (d:=(.struct (Tryz.prog.fieldsOf 159))) (by kernel_rfl) (by kernel_rfl) (by kernel_rfl) (by kernel_rfl) (by kernel_rfl) (by decide) (by decide) (by decide) (by decide) (nofun) (by kernel_rfl) (⟨_,rfl,by kernel_rfl,by decide⟩)
theorem Xf:∀f∈Tryz.prog.fieldsOf 170,f.name≠ "_" :=by
 have h:((Tryz.prog.fieldsOf 170).toList.all fun f=>f.name != "_")=true:=by kernel_rfl
 intro f hf
 have:=List.all_eq_true.1 h f (by simpa using hf)
 simpa using this
theorem Yi:fT Tryz.prog tab ⟨(.struct [(0,3),(1,3)]),2,16,[.int .i64,.int .i64],true⟩ 170:=
 dw (i:=Tryz.t170) (z:=.agg #[.int .i64 0,.int .i64 0]) (d:=(.struct (Tryz.prog.fieldsOf 170))) (by kernel_rfl) (by kernel_rfl) (by kernel_rfl) (by kernel_rfl) (by kernel_rfl) (by decide) (by decide) (by decide) (by decide) (fun _=>⟨by kernel_rfl,by kernel_rfl,Xf⟩) (by kernel_rfl) (⟨_,rfl,by kernel_rfl,by decide⟩)
theorem MN:aW Tryz.prog tab:=WU ⟨Zt,⟨Zh,⟨Zb,⟨ty4,⟨ty3,⟨ty2,trivial,trivial⟩,trivial⟩,⟨ty9,⟨ty5,trivial,trivial⟩,trivial⟩⟩,⟨Ze,⟨Zd,⟨Zc,trivial,trivial⟩,trivial⟩,⟨Zg,⟨Zf,trivial,trivial⟩,trivial⟩⟩⟩,⟨Zn,⟨Zk,⟨Zj,⟨Zi,trivial,trivial⟩,trivial⟩,⟨Zm,⟨Zl,trivial,trivial⟩,trivial⟩⟩,⟨Zq,⟨Zp,⟨Zo,trivial,trivial⟩,trivial⟩,⟨Zr,trivial,trivial⟩⟩⟩⟩,⟨ZG,⟨Zz,⟨Zw,⟨Zv,⟨Zu,trivial,trivial⟩,trivial⟩,⟨Zy,⟨Zx,trivial,trivial⟩,trivial⟩⟩,⟨ZE,⟨ZB,⟨ZA,trivial,trivial⟩,trivial⟩,⟨ZF,trivial,trivial⟩⟩⟩,⟨Ye,⟨Yb,⟨Ya,⟨XZ,trivial,trivial⟩,trivial⟩,⟨Yd,⟨Yc,trivial,trivial⟩,trivial⟩⟩,⟨Yh,⟨Yg,⟨Yf,trivial,trivial⟩,trivial⟩,⟨Yi,trivial,trivial⟩⟩⟩⟩⟩
end Go.Proofs.YtpfgedlimdeffaaGreat.Abs
