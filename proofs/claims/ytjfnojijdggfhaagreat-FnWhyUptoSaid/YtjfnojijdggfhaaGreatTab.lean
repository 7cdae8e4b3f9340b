/- The table of the types of this seat: what the abstract layer must know of them, by closed facts. Printed by gentab.py. -/
import Derived.Test.YtjfnojijdggfhaaGreatLayB
import Derived.Test.YtjfnojijdggfhaaGreatProg
import Derived.KernelRfl
set_option linter.all false
namespace Go.Proofs.YtjfnojijdggfhaaGreat.Abs
open Go.Proofs
def tree:Tree:=(.node 47 ⟨(.slice 50),1,24,[.aj],false⟩ (.node 25 ⟨(.slice 108),1,24,[.aj],false⟩ (.node 9 ⟨.str,1,16,[.str],false⟩ (.node 4 ⟨.bool,1,1,[.bool],false⟩ (.node 3 ⟨(.int .i64),1,8,[.int .i64],false⟩ (.node 2 ⟨(.int .i64),1,8,[.int .i64],false⟩ .leaf .leaf) .leaf) (.node 5 ⟨(.int .u8),1,1,[.int .u8],false⟩ .leaf .leaf)) (.node 23 ⟨(.slice 94),1,24,[.aj],false⟩ (.node 22 ⟨(.slice 5),1,24,[.aj],false⟩ .leaf .leaf) (.node 24 ⟨(.slice 116),1,24,[.aj],false⟩ .leaf .leaf))) (.node 32 ⟨(.struct [(0,26),(1,26),(2,30)]),3,72,[.aj,.aj,.aj],false⟩ (.node 28 ⟨(.struct [(0,3),(1,23),(2,24),(3,25),(4,26)]),5,104,[.int .i64,.aj,.aj,.aj,.aj],false⟩ (.node 27 ⟨(.struct [(0,3),(1,23),(2,24),(3,25),(4,26)]),5,104,[.int .i64,.aj,.aj,.aj,.aj],false⟩ (.node 26 ⟨(.slice 3),1,24,[.aj],false⟩ .leaf .leaf) .leaf) (.node 30 ⟨(.slice 26),1,24,[.aj],false⟩ .leaf .leaf)) (.node 38 ⟨(.slice 42),1,24,[.aj],false⟩ (.node 35 ⟨(.struct [(0,3),(1,3),(2,3),(3,3)]),4,32,[.int .i64,.int .i64,.int .i64,.int .i64],true⟩ .leaf .leaf) (.node 42 ⟨(.struct [(0,3),(1,3),(2,3)]),3,24,[.int .i64,.int .i64,.int .i64],true⟩ .leaf .leaf)))) (.node 94 ⟨(.struct [(0,9),(1,3),(2,92)]),3,48,[.str,.int .i64,.aj],false⟩ (.node 62 ⟨(.struct [(0,42),(3,35),(7,38)]),8,80,[.int .i64,.int .i64,.int .i64,.int .i64,.int .i64,.int .i64,.int .i64,.aj],false⟩ (.node 59 ⟨(.slice 62),1,24,[.aj],false⟩ (.node 55 ⟨(.slice 35),1,24,[.aj],false⟩ (.node 50 ⟨(.struct [(0,26),(1,26)]),2,48,[.aj,.aj],false⟩ .leaf .leaf) .leaf) (.node 61 ⟨(.struct [(0,42),(3,35),(7,38)]),8,80,[.int .i64,.int .i64,.int .i64,.int .i64,.int .i64,.int .i64,.int .i64,.aj],false⟩ .leaf .leaf)) (.node 92 ⟨(.slice 158),1,24,[.aj],false⟩ (.node 80 ⟨(.struct [(0,22),(1,3),(2,3)]),3,40,[.aj,.int .i64,.int .i64],false⟩ .leaf .leaf) (.node 93 ⟨(.struct [(0,9),(1,3),(2,92)]),3,48,[.str,.int .i64,.aj],false⟩ .leaf .leaf))) (.node 110 ⟨(.struct [(0,3),(1,3)]),2,16,[.int .i64,.int .i64],true⟩ (.node 107 ⟨(.struct [(0,106),(1,30)]),2,48,[.aj,.aj],false⟩ (.node 106 ⟨(.slice 110),1,24,[.aj],false⟩ .leaf .leaf) (.node 108 ⟨(.struct [(0,106),(1,30)]),2,48,[.aj,.aj],false⟩ .leaf .leaf)) (.node 158 ⟨(.struct [(0,3),(1,26),(2,26)]),3,56,[.int .i64,.aj,.aj],false⟩ (.node 116 ⟨(.struct [(0,3),(1,3),(2,4),(3,3)]),4,32,[.int .i64,.int .i64,.bool,.int .i64],true⟩ .leaf .leaf) (.node 183 ⟨(.slice 9),1,24,[.aj],false⟩ .leaf .leaf)))))
def tab:Nat→Ty:=tree.find
theorem ty2:jR Tryz.prog tab ⟨(.int .i64),1,8,[.int .i64],false⟩ 2:=
 fQ (i:=Tryz.t2) (z:=.int .i64 0) (d:=(.int .i64)) (by kernel_rfl) (by kernel_rfl) (by kernel_rfl) (by kernel_rfl) (by kernel_rfl) (by decide) (by decide) (by decide) (by decide) (nofun) (by kernel_rfl) (rfl)
theorem ty3:jR Tryz.prog tab ⟨(.int .i64),1,8,[.int .i64],false⟩ 3:=
 fQ (i:=Tryz.t3) (z:=.int .i64 0) (d:=(.int .i64)) (by kernel_rfl) (by kernel_rfl) (by kernel_rfl) (by kernel_rfl) (by kernel_rfl) (by decide) (by decide) (by decide) (by decide) (nofun) (by kernel_rfl) (rfl)
theorem ty4:jR Tryz.prog tab ⟨.bool,1,1,[.bool],false⟩ 4:=
 fQ (i:=Tryz.t4) (z:=.bool false) (d:=.bool) (by kernel_rfl) (by kernel_rfl) (by kernel_rfl) (by kernel_rfl) (by kernel_rfl) (by decide) (by decide) (by decide) (by decide) (nofun) (by kernel_rfl) (rfl)
theorem ty5:jR Tryz.prog tab ⟨(.int .u8),1,1,[.int .u8],false⟩ 5:=
 fQ (i:=Tryz.t5) (z:=.int .u8 0) (d:=(.int .u8)) (by kernel_rfl) (by kernel_rfl) (by kernel_rfl) (by kernel_rfl) (by kernel_rfl) (by decide) (by decide) (by decide) (by decide) (nofun) (by kernel_rfl) (rfl)
theorem ty9:jR Tryz.prog tab ⟨.str,1,16,[.str],false⟩ 9:=
 fQ (i:=Tryz.t9) (z:=.string ⟨#[]⟩) (d:=.string) (by kernel_rfl) (by kernel_rfl) (by kernel_rfl) (by kernel_rfl) (by kernel_rfl) (by decide) (by decide) (by decide) (by decide) (nofun) (by kernel_rfl) (rfl)
theorem aad:jR Tryz.prog tab ⟨(.slice 5),1,24,[.aj],false⟩ 22:=
 fQ (i:=Tryz.t22) (z:=.slice none 0 0) (d:=(.slice 5)) (by kernel_rfl) (by kernel_rfl) (by kernel_rfl) (by kernel_rfl) (by kernel_rfl) (by decide) (by decide) (by decide) (by decide) (nofun) (by kernel_rfl) (rfl)
theorem aae:jR Tryz.prog tab ⟨(.slice 94),1,24,[.aj],false⟩ 23:=
 fQ (i:=Tryz.t23) (z:=.slice none 0 0) (d:=(.slice 94)) (by kernel_rfl) (by kernel_rfl) (by kernel_rfl) (by kernel_rfl) (by kernel_rfl) (by decide) (by decide) (by decide) (by decide) (nofun) (by kernel_rfl) (rfl)
theorem aaf:jR Tryz.prog tab ⟨(.slice 116),1,24,[.aj],false⟩ 24:=
 fQ (i:=Tryz.t24) (z:=.slice none 0 0) (d:=(.slice 116)) (by kernel_rfl) (by kernel_rfl) (by kernel_rfl) (by kernel_rfl) (by kernel_rfl) (by decide) (by decide) (by decide) (by decide) (nofun) (by kernel_rfl) (rfl)
theorem aag:jR Tryz.prog tab ⟨(.slice 108),1,24,[.aj],false⟩ 25:=
 fQ (i:=Tryz.t25) (z:=.slice none 0 0) (d:=(.slice 108)) (by kernel_rfl) (by kernel_rfl) (by kernel_rfl) (by kernel_rfl) (by kernel_rfl) (by decide) (by decide) (by decide) (by decide) (nofun) (by kernel_rfl) (rfl)
theorem aah:jR Tryz.prog tab ⟨(.slice 3),1,24,[.aj],false⟩ 26:=
 fQ (i:=Tryz.t26) (z:=.slice none 0 0) (d:=(.slice 3)) (by kernel_rfl) (by kernel_rfl) (by kernel_rfl) (by kernel_rfl) (by kernel_rfl) (by decide) (by decide) (by decide) (by decide) (nofun) (by kernel_rfl) (rfl)
theorem aai:jR Tryz.prog tab ⟨(.struct [(0,3),(1,23),(2,24),(3,25),(4,26)]),5,104,[.int .i64,.aj,.aj,.aj,.aj],false⟩ 27:=
 fQ (i:=Tryz.t27) (z:=.agg #[.int .i64 0,.slice none 0 0,.slice none 0 0,.slice none 0 0,.slice none 0 0]) (d:=(.struct (Tryz.prog.fieldsOf 27))) (by kernel_rfl) (by kernel_rfl) (by kernel_rfl) (by kernel_rfl) (by kernel_rfl) (by decide) (by decide) (by decide) (by decide) (nofun) (by kernel_rfl) (⟨_,rfl,by kernel_rfl,by decide⟩)
theorem aaj:jR Tryz.prog tab ⟨(.struct [(0,3),(1,23),(2,24),(3,25),(4,26)]),5,104,[.int .i64,.aj,.aj,.aj,.aj],false⟩ 28:=
 fQ (i:=Tryz.t28) (z:=.agg #[.int .i64 0,.slice none 0 0,.slice none 0 0,.slice none 0 0,.slice none 0 0]) (d:=(.struct (Tryz.prog.fieldsOf 28))) (by kernel_rfl) (by kernel_rfl) (by kernel_rfl) (by kernel_rfl) (by kernel_rfl) (by decide) (by decide) (by decide) (by decide) (nofun) (by kernel_rfl) (⟨_,rfl,by kernel_rfl,by decide⟩)
theorem aak:jR Tryz.prog tab ⟨(.slice 26),1,24,[.aj],false⟩ 30:=
 fQ (i:=Tryz.t30) (z:=.slice none 0 0) (d:=(.slice 26)) (by kernel_rfl) (by kernel_rfl) (by kernel_rfl) (by kernel_rfl) (by kernel_rfl) (by decide) (by decide) (by decide) (by decide) (nofun) (by kernel_rfl) (rfl)
theorem aal:jR Tryz.prog tab ⟨(.struct [(0,26),(1,26),(2,30)]),3,72,[.aj,.aj,.aj],false⟩ 32:=
 fQ (i:=Tryz.t32) (z:=.agg #[.slice none 0 0,.slice none 0 0,.slice none 0 0]) (d:=(.struct (Tryz.prog.fieldsOf 32))) (by kernel_rfl) (by kernel_rfl) (by kernel_rfl) (by kernel_rfl) (by kernel_rfl) (by decide) (by decide) (by decide) (by decide) (nofun) (by kernel_rfl) (⟨_,rfl,by kernel_rfl,by decide⟩)
theorem Zm:∀f∈Tryz.prog.fieldsOf 35,f.name≠ "_" :=by
 have h:((Tryz.prog.fieldsOf 35).toList.all fun f=>f.name != "_")=true:=by kernel_rfl
 intro f hf
 have:=List.all_eq_true.1 h f (by simpa using hf)
 simpa using this
theorem aam:jR Tryz.prog tab ⟨(.struct [(0,3),(1,3),(2,3),(3,3)]),4,32,[.int .i64,.int .i64,.int .i64,.int .i64],true⟩ 35:=
 fQ (i:=Tryz.t35) (z:=.agg #[.int .i64 0,.int .i64 0,.int .i64 0,.int .i64 0]) (d:=(.struct (Tryz.prog.fieldsOf 35))) (by kernel_rfl) (by kernel_rfl) (by kernel_rfl) (by kernel_rfl) (by kernel_rfl) (by decide) (by decide) (by decide) (by decide) (fun _=>⟨by kernel_rfl,by kernel_rfl,Zm⟩) (by kernel_rfl) (⟨_,rfl,by kernel_rfl,by decide⟩)
theorem aan:jR Tryz.prog tab ⟨(.slice 42),1,24,[.aj],false⟩ 38:=
 fQ (i:=Tryz.t38) (z:=.slice none 0 0) (d:=(.slice 42)) (by kernel_rfl) (by kernel_rfl) (by kernel_rfl) (by kernel_rfl) (by kernel_rfl) (by decide) (by decide) (by decide) (by decide) (nofun) (by kernel_rfl) (rfl)
theorem Zn:∀f∈Tryz.prog.fieldsOf 42,f.name≠ "_" :=by
 have h:((Tryz.prog.fieldsOf 42).toList.all fun f=>f.name != "_")=true:=by kernel_rfl
 intro f hf
 have:=List.all_eq_true.1 h f (by simpa using hf)
 simpa using this
theorem aao:jR Tryz.prog tab ⟨(.struct [(0,3),(1,3),(2,3)]),3,24,[.int .i64,.int .i64,.int .i64],true⟩ 42:=
 fQ (i:=Tryz.t42) (z:=.agg #[.int .i64 0,.int .i64 0,.int .i64 0]) (d:=(.struct (Tryz.prog.fieldsOf 42))) (by kernel_rfl) (by kernel_rfl) (by kernel_rfl) (by kernel_rfl) (by kernel_rfl) (by decide) (by decide) (by decide) (by decide) (fun _=>⟨by kernel_rfl,by kernel_rfl,Zn⟩) (by kernel_rfl) (⟨_,rfl,by kernel_rfl,by decide⟩)
theorem aap:jR Tryz.prog tab ⟨(.slice 50),1,24,[.aj],false⟩ 47:=
 fQ (i:=Tryz.t47) (z:=.slice none 0 0) (d:=(.slice 50)) (by kernel_rfl) (by kernel_rfl) (by kernel_rfl) (by kernel_rfl) (by kernel_rfl) (by decide) (by decide) (by decide) (by decide) (nofun) (by kernel_rfl) (rfl)
theorem aaq:jR Tryz.prog tab ⟨(.struct [(0,26),(1,26)]),2,48,[.aj,.aj],false⟩ 50:=
 fQ (i:=Tryz.t50) (z:=.agg #[.slice none 0 0,.slice none 0 0]) (d:=(.struct (Tryz.prog.fieldsOf 50))) (by kernel_rfl) (by kernel_rfl) (by kernel_rfl) (by kernel_rfl) (by kernel_rfl) (by decide) (by decide) (by decide) (by decide) (nofun) (by kernel_rfl) (⟨_,rfl,by kernel_rfl,by decide⟩)
theorem aar:jR Tryz.prog tab ⟨(.slice 35),1,24,[.aj],false⟩ 55:=
 fQ (i:=Tryz.t55) (z:=.slice none 0 0) (d:=(.slice 35)) (by kernel_rfl) (by kernel_rfl) (by kernel_rfl) (by kernel_rfl) (by kernel_rfl) (by decide) (by decide) (by decide) (by decide) (nofun) (by kernel_rfl) (rfl)
theorem aas:jR Tryz.prog tab ⟨(.slice 62),1,24,[.aj],false⟩ 59:=
 fQ (i:=Tryz.t59) (z:=.slice none 0 0) (d:=(.slice 62)) (by kernel_rfl) (by kernel_rfl) (by kernel_rfl) (by kernel_rfl) (by kernel_rfl) (by decide) (by decide) (by decide) (by decide) (nofun) (by kernel_rfl) (rfl)
theorem aat:jR Tryz.prog tab ⟨(.struct [(0,42),(3,35),(7,38)]),8,80,[.int .i64,.int .i64,.int .i64,.int .i64,.int .i64,.int .i64,.int .i64,.aj],false⟩ 61:=
 fQ (i:=Tryz.t61) (z:=.agg #[.int .i64 0,.int .i64 0,.int .i64 0,.int .i64 0,.int .i64 0,.int .i64 0,.int .i64 0,.slice none 0 0]) (d:=(.struct (Tryz.prog.fieldsOf 61))) (by kernel_rfl) (by kernel_rfl) (by kernel_rfl) (by kernel_rfl) (by kernel_rfl) (by decide) (by decide) (by decide) (by decide) (nofun) (by kernel_rfl) (⟨_,rfl,by kernel_rfl,by decide⟩)
theorem aau:jR Tryz.prog tab ⟨(.struct [(0,42),(3,35),(7,38)]),8,80,[.int .i64,.int .i64,.int .i64,.int .i64,.int .i64,.int .i64,.int .i64,.aj],false⟩ 62:=
 fQ (i:=Tryz.t62) (z:=.agg #[.int .i64 0,.int .i64 0,.int .i64 0,.int .i64 0,.int .i64 0,.int .i64 0,.int .i64 0,.slice none 0 0]) (d:=(.struct (Tryz.prog.fieldsOf 62))) (by kernel_rfl) (by kernel_rfl) (by kernel_rfl) (by kernel_rfl) (by kernel_rfl) (by decide) (by decide) (by decide) (by decide) (nofun) (by kernel_rfl) (⟨_,rfl,by kernel_rfl,by decide⟩)
theorem aav:jR Tryz.prog tab ⟨(.struct [(0,22),(1,3),(2,3)]),3,40,[.aj,.int .i64,.int .i64],false⟩ 80:=
 fQ (i:=Tryz.t80) (z:=.agg #[.slice none 0 0,.int .i64 0,.int .i64 0]) (d:=(.struct (Tryz.prog.fieldsOf 80))) (by kernel_rfl) (by kernel_rfl) (by kernel_rfl) (by kernel_rfl) (by kernel_rfl) (by decide) (by decide) (by decide) (by decide) (nofun) (by kernel_rfl) (⟨_,rfl,by kernel_rfl,by decide⟩)
theorem aaw:jR Tryz.prog tab ⟨(.slice 158),1,24,[.aj],false⟩ 92:=
 fQ (i:=Tryz.t92) (z:=.slice none 0 0) (d:=(.slice 158)) (by kernel_rfl) (by kernel_rfl) (by kernel_rfl) (by kernel_rfl) (by kernel_rfl) (by decide) (by decide) (by decide) (by decide) (nofun) (by kernel_rfl) (rfl)
theorem aax:jR Tryz.prog tab ⟨(.struct [(0,9),(1,3),(2,92)]),3,48,[.str,.int .i64,.aj],false⟩ 93:=
 fQ (i:=Tryz.t93) (z:=.agg #[.string ⟨#[]⟩,.int .i64 0,.slice none 0 0]) (d:=(.struct (Tryz.prog.fieldsOf 93))) (by kernel_rfl) (by kernel_rfl) (by kernel_rfl) (by kernel_rfl) (by kernel_rfl) (by decide) (by decide) (by decide) (by decide) (nofun) (by kernel_rfl) (⟨_,rfl,by kernel_rfl,by decide⟩)
theorem aay:jR Tryz.prog tab ⟨(.struct [(0,9),(1,3),(2,92)]),3,48,[.str,.int .i64,.aj],false⟩ 94:=
 fQ (i:=Tryz.t94) (z:=.agg #[.string ⟨#[]⟩,.int .i64 0,.slice none 0 0]) (d:=(.struct (Tryz.prog.fieldsOf 94))) (by kernel_rfl) (by kernel_rfl) (by kernel_rfl) (by kernel_rfl) (by kernel_rfl) (by decide) (by decide) (by decide) (by decide) (nofun) (by kernel_rfl) (⟨_,rfl,by kernel_rfl,by decide⟩)
theorem Zo:jR Tryz.prog tab ⟨(.slice 110),1,24,[.aj],false⟩ 106:=
 fQ (i:=Tryz.t106) (z:=.slice none 0 0) (d:=(.slice 110)) (by kernel_rfl) (by kernel_rfl) (by kernel_rfl) (by kernel_rfl) (by kernel_rfl) (by decide) (by decide) (by decide) (by decide) (nofun) (by kernel_rfl) (rfl)
theorem Zp:jR Tryz.prog tab ⟨(.struct [(0,106),(1,30)]),2,48,[.aj,.aj],false⟩ 107:=
 fQ (i:=Tryz.t107) (z:=.agg #[.slice none 0 0,.slice none 0 0]) (d:=(.struct (Tryz.prog.fieldsOf 107))) (by kernel_rfl) (by kernel_rfl) (by kernel_rfl) (by kernel_rfl) (by kernel_rfl) (by decide) (by decide) (by decide) (by decide) (nofun) (by kernel_rfl) (⟨_,rfl,by kernel_rfl,by decide⟩)
theorem Zq:jR Tryz.prog tab ⟨(.struct [(0,106),(1,30)]),2,48,[.aj,.aj],false⟩ 108:=
 fQ (i:=Tryz.t108) (z:=.agg #[.slice none 0 0,.slice none 0 0]) (d:=(.struct (Tryz.prog.fieldsOf 108))) (by kernel_rfl) (by kernel_rfl) (by kernel_rfl) (by kernel_rfl) (by kernel_rfl) (by decide) (by decide) (by decide) (by decide) (nofun) (by kernel_rfl) (⟨_,rfl,by kernel_rfl,by decide⟩)
theorem Ym:∀f∈Tryz.prog.fieldsOf 110,f.name≠ "_" :=by
 have h:((Tryz.prog.fieldsOf 110).toList.all fun f=>f.name != "_")=true:=by kernel_rfl
 intro f hf
 have:=List.all_eq_true.1 h f (by simpa using hf)
 simpa using this
theorem Zr:jR Tryz.prog tab ⟨(.struct [(0,3),(1,3)]),2,16,[.int .i64,.int .i64],true⟩ 110:=
 fQ (i:=Tryz.t110) (z:=.agg #[.int .i64 0,.int .i64 0]) (d:=(.struct (Tryz.prog.fieldsOf 110))) (by kernel_rfl) (by kernel_rfl) (by kernel_rfl) (by kernel_rfl) (by kernel_rfl) (by decide) (by decide) (by decide) (by decide) (fun _=>⟨by kernel_rfl,by kernel_rfl,Ym⟩) (by kernel_rfl) (⟨_,rfl,by kernel_rfl,by decide⟩)
theorem Yn:∀f∈Tryz.prog.fieldsOf 116,f.name≠ "_" :=by
 have h:((Tryz.prog.fieldsOf 116).toList.all fun f=>f.name != "_")=true:=by kernel_rfl
 intro f hf
 have:=List.all_eq_true.1 h f (by simpa using hf)
 simpa using this
theorem Zt:jR Tryz.prog tab ⟨(.struct [(0,3),(1,3),(2,4),(3,3)]),4,32,[.int .i64,.int .i64,.bool,.int .i64],true⟩ 116:=
 fQ (i:=Tryz.t116) (z:=.agg #[.int .i64 0,.int .i64 0,.bool false,.int .i64 0]) (d:=(.struct (Tryz.prog.fieldsOf 116))) (by kernel_rfl) (by kernel_rfl) (by kernel_rfl) (by kernel_rfl) (by kernel_rfl) (by decide) (by decide) (by decide) (by decide) (fun _=>⟨by kernel_rfl,by kernel_rfl,Yn⟩) (by kernel_rfl) (⟨_,rfl,by kernel_rfl,by decide⟩)
theorem Zu:jR Tryz.prog tab ⟨(.struct [(0,3),(1,26),(2,26)]),3,56,[.int .i64,.aj,.aj],false⟩ 158:=
 fQ (i:=Tryz.t158) (z:=.agg #[.int .i64 0,.slice none 0 0,.slice none 0 0]) (d:=(.struct (Tryz.prog.fieldsOf 158))) (by kernel_rfl) (by kernel_rfl) (by kernel_rfl) (by kernel_rfl) (by kernel_rfl) (by decide) (by decide) (by decide) (by decide) (nofun) (by kernel_rfl) (⟨_,rfl,by kernel_rfl,by decide⟩)
theorem Zv:jR Tryz.prog tab ⟨(.slice 9),1,24,[.aj],false⟩ 183:=
 fQ (i:=Tryz.t183) (z:=.slice none 0 0) (d:=(.slice 9)) (by kernel_rfl) (by kernel_rfl) (by kernel_rfl) (by kernel_rfl) (by kernel_rfl) (by decide) (by decide) (by decide) (by decide) (nofun) (by kernel_rfl) (rfl)
theorem Xz:bH Tryz.prog tab:=Yl ⟨aap,⟨aag,⟨ty9,⟨ty4,⟨ty3,⟨ty2,trivial,trivial⟩,trivial⟩,⟨ty5,trivial,trivial⟩⟩,⟨aae,⟨aad,trivial,trivial⟩,⟨aaf,trivial,trivial⟩⟩⟩,⟨aal,⟨aaj,⟨aai,⟨aah,trivial,trivial⟩,trivial⟩,⟨aak,trivial,trivial⟩⟩,⟨aan,⟨aam,trivial,trivial⟩,⟨aao,trivial,trivial⟩⟩⟩⟩,⟨aay,⟨aau,⟨aas,⟨aar,⟨aaq,trivial,trivial⟩,trivial⟩,⟨aat,trivial,trivial⟩⟩,⟨aaw,⟨aav,trivial,trivial⟩,⟨aax,trivial,trivial⟩⟩⟩,⟨Zr,⟨Zp,⟨Zo,trivial,trivial⟩,⟨Zq,trivial,trivial⟩⟩,⟨Zu,⟨Zt,trivial,trivial⟩,⟨Zv,trivial,trivial⟩⟩⟩⟩⟩
end Go.Proofs.YtjfnojijdggfhaaGreat.Abs
