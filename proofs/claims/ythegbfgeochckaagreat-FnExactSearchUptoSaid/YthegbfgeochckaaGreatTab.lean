/- Part of a proof. -/
import Derived.Test.YthegbfgeochckaaGreatLayB
import Derived.Test.YthegbfgeochckaaGreatProg
import Derived.KernelRfl
set_option linter.all false
namespace Go.Proofs.YthegbfgeochckaaGreat.Abs
open Go.Proofs
def tree:Tree:=(.node 73 ⟨(.struct [(0,3),(1,3),(2,45),(12,4),(13,4),(14,47)]),16,296,[.int .i64,.int .i64,.int .i64,.aj,.aj,.aj,.aj,.aj,.aj,.aj,.aj,.aj,.bool,.bool,.aj,.aj],false⟩ (.node 34 ⟨(.struct [(0,27),(5,30),(8,31),(9,32)]),10,224,[.int .i64,.aj,.aj,.aj,.aj,.aj,.aj,.aj,.aj,.aj],false⟩ (.node 25 ⟨(.slice 3),1,24,[.aj],false⟩ (.node 9 ⟨.str,1,16,[.str],false⟩ (.node 4 ⟨.bool,1,1,[.bool],false⟩ (.node 3 ⟨(.int .i64),1,8,[.int .i64],false⟩ (.node 2 ⟨(.int .i64),1,8,[.int .i64],false⟩ .leaf .leaf) .leaf) (.node 5 ⟨(.int .u8),1,1,[.int .u8],false⟩ .leaf .leaf)) (.node 23 ⟨(.slice 196),1,24,[.aj],false⟩ (.node 22 ⟨(.slice 158),1,24,[.aj],false⟩ .leaf .leaf) (.node 24 ⟨(.slice 162),1,24,[.aj],false⟩ .leaf .leaf))) (.node 30 ⟨(.struct [(0,25),(1,25),(2,28)]),3,72,[.aj,.aj,.aj],false⟩ (.node 27 ⟨(.struct [(0,3),(1,22),(2,23),(3,24),(4,25)]),5,104,[.int .i64,.aj,.aj,.aj,.aj],false⟩ (.node 26 ⟨(.struct [(0,3),(1,22),(2,23),(3,24),(4,25)]),5,104,[.int .i64,.aj,.aj,.aj,.aj],false⟩ .leaf .leaf) (.node 28 ⟨(.slice 25),1,24,[.aj],false⟩ .leaf .leaf)) (.node 32 ⟨(.slice 98),1,24,[.aj],false⟩ (.node 31 ⟨(.slice 127),1,24,[.aj],false⟩ .leaf .leaf) (.node 33 ⟨(.struct [(0,27),(5,30),(8,31),(9,32)]),10,224,[.int .i64,.aj,.aj,.aj,.aj,.aj,.aj,.aj,.aj,.aj],false⟩ .leaf .leaf)))) (.node 43 ⟨(.slice 130),1,24,[.aj],false⟩ (.node 39 ⟨(.struct [(0,3),(1,36),(2,37),(3,38),(4,25)]),5,104,[.int .i64,.aj,.aj,.aj,.aj],false⟩ (.node 37 ⟨(.slice 173),1,24,[.aj],false⟩ (.node 36 ⟨(.slice 165),1,24,[.aj],false⟩ .leaf .leaf) (.node 38 ⟨(.slice 170),1,24,[.aj],false⟩ .leaf .leaf)) (.node 41 ⟨(.struct [(0,25),(1,25),(2,28)]),3,72,[.aj,.aj,.aj],false⟩ (.node 40 ⟨(.struct [(0,3),(1,36),(2,37),(3,38),(4,25)]),5,104,[.int .i64,.aj,.aj,.aj,.aj],false⟩ .leaf .leaf) (.node 42 ⟨(.slice 102),1,24,[.aj],false⟩ .leaf .leaf))) (.node 48 ⟨(.struct [(0,45),(10,47),(12,4),(13,3),(14,4)]),15,296,[.int .i64,.aj,.aj,.aj,.aj,.aj,.aj,.aj,.aj,.aj,.aj,.aj,.bool,.int .i64,.bool],false⟩ (.node 45 ⟨(.struct [(0,40),(5,41),(8,42),(9,43)]),10,224,[.int .i64,.aj,.aj,.aj,.aj,.aj,.aj,.aj,.aj,.aj],false⟩ (.node 44 ⟨(.struct [(0,40),(5,41),(8,42),(9,43)]),10,224,[.int .i64,.aj,.aj,.aj,.aj,.aj,.aj,.aj,.aj,.aj],false⟩ .leaf .leaf) (.node 47 ⟨(.struct [(0,25),(1,25)]),2,48,[.aj,.aj],false⟩ .leaf .leaf)) (.node 64 ⟨(.struct [(0,3),(1,3),(2,47),(4,4),(5,4)]),6,72,[.int .i64,.int .i64,.aj,.aj,.bool,.bool],false⟩ (.node 49 ⟨(.struct [(0,45),(10,47),(12,4),(13,3),(14,4)]),15,296,[.int .i64,.aj,.aj,.aj,.aj,.aj,.aj,.aj,.aj,.aj,.aj,.aj,.bool,.int .i64,.bool],false⟩ .leaf .leaf) (.node 65 ⟨(.struct [(0,3),(1,3),(2,47),(4,4),(5,4)]),6,72,[.int .i64,.int .i64,.aj,.aj,.bool,.bool],false⟩ .leaf .leaf))))) (.node 163 ⟨(.slice 210),1,24,[.aj],false⟩ (.node 129 ⟨(.struct [(0,3),(1,128),(5,42)]),6,64,[.int .i64,.int .i64,.int .i64,.int .i64,.int .i64,.aj],false⟩ (.node 102 ⟨(.struct [(0,3),(1,3),(2,3)]),3,24,[.int .i64,.int .i64,.int .i64],true⟩ (.node 97 ⟨(.struct [(0,3),(1,96),(5,31)]),6,64,[.int .i64,.int .i64,.int .i64,.int .i64,.int .i64,.aj],false⟩ (.node 96 ⟨(.struct [(0,3),(1,3),(2,3),(3,3)]),4,32,[.int .i64,.int .i64,.int .i64,.int .i64],true⟩ (.node 74 ⟨(.struct [(0,3),(1,3),(2,45),(12,4),(13,4),(14,47)]),16,296,[.int .i64,.int .i64,.int .i64,.aj,.aj,.aj,.aj,.aj,.aj,.aj,.aj,.aj,.bool,.bool,.aj,.aj],false⟩ .leaf .leaf) .leaf) (.node 98 ⟨(.struct [(0,3),(1,96),(5,31)]),6,64,[.int .i64,.int .i64,.int .i64,.int .i64,.int .i64,.aj],false⟩ .leaf .leaf)) (.node 127 ⟨(.struct [(0,3),(1,3),(2,3)]),3,24,[.int .i64,.int .i64,.int .i64],true⟩ (.node 108 ⟨(.slice 42),1,24,[.aj],false⟩ .leaf .leaf) (.node 128 ⟨(.struct [(0,3),(1,3),(2,3),(3,3)]),4,32,[.int .i64,.int .i64,.int .i64,.int .i64],true⟩ .leaf .leaf))) (.node 158 ⟨(.struct [(0,9),(1,3),(2,156)]),3,48,[.str,.int .i64,.aj],false⟩ (.node 156 ⟨(.slice 267),1,24,[.aj],false⟩ (.node 130 ⟨(.struct [(0,3),(1,128),(5,42)]),6,64,[.int .i64,.int .i64,.int .i64,.int .i64,.int .i64,.aj],false⟩ .leaf .leaf) (.node 157 ⟨(.struct [(0,9),(1,3),(2,156)]),3,48,[.str,.int .i64,.aj],false⟩ .leaf .leaf)) (.node 161 ⟨(.struct [(0,160),(1,28)]),2,48,[.aj,.aj],false⟩ (.node 160 ⟨(.slice 284),1,24,[.aj],false⟩ .leaf .leaf) (.node 162 ⟨(.struct [(0,160),(1,28)]),2,48,[.aj,.aj],false⟩ .leaf .leaf)))) (.node 180 ⟨(.struct [(0,102),(3,128),(7,42)]),8,80,[.int .i64,.int .i64,.int .i64,.int .i64,.int .i64,.int .i64,.int .i64,.aj],false⟩ (.node 169 ⟨(.struct [(0,168),(1,28)]),2,48,[.aj,.aj],false⟩ (.node 165 ⟨(.struct [(0,9),(1,3),(2,163)]),3,48,[.str,.int .i64,.aj],false⟩ (.node 164 ⟨(.struct [(0,9),(1,3),(2,163)]),3,48,[.str,.int .i64,.aj],false⟩ .leaf .leaf) (.node 168 ⟨(.slice 218),1,24,[.aj],false⟩ .leaf .leaf)) (.node 173 ⟨(.struct [(0,3),(1,3),(2,4),(3,3)]),4,32,[.int .i64,.int .i64,.bool,.int .i64],true⟩ (.node 170 ⟨(.struct [(0,168),(1,28)]),2,48,[.aj,.aj],false⟩ .leaf .leaf) (.node 179 ⟨(.struct [(0,102),(3,128),(7,42)]),8,80,[.int .i64,.int .i64,.int .i64,.int .i64,.int .i64,.int .i64,.int .i64,.aj],false⟩ .leaf .leaf))) (.node 218 ⟨(.struct [(0,3),(1,3)]),2,16,[.int .i64,.int .i64],true⟩ (.node 196 ⟨(.struct [(0,3),(1,3),(2,4),(3,3)]),4,32,[.int .i64,.int .i64,.bool,.int .i64],true⟩ (.node 189 ⟨(.slice 128),1,24,[.aj],false⟩ .leaf .leaf) (.node 210 ⟨(.struct [(0,3),(1,25),(2,25)]),3,56,[.int .i64,.aj,.aj],false⟩ .leaf .leaf)) (.node 267 ⟨(.struct [(0,3),(1,25),(2,25)]),3,56,[.int .i64,.aj,.aj],false⟩ (.node 265 ⟨(.slice 5),1,24,[.aj],false⟩ .leaf .leaf) (.node 284 ⟨(.struct [(0,3),(1,3)]),2,16,[.int .i64,.int .i64],true⟩ .leaf .leaf))))))
def tab:Nat->Ty:=tree.find
theorem ty2:fA Tryz.prog tab ⟨(.int .i64),1,8,[.int .i64],false⟩ 2:=
 bT (i:=Tryz.t2) (z:=.int .i64 0) (d:=(.int .i64))
theorem ty3:fA Tryz.prog tab ⟨(.int .i64),1,8,[.int .i64],false⟩ 3:=
 bT (i:=Tryz.t3) (z:=.int .i64 0) (d:=(.int .i64))
theorem ty4:fA Tryz.prog tab ⟨.bool,1,1,[.bool],false⟩ 4:=
 bT (i:=Tryz.t4) (z:=.bool false) (d:=.bool)
theorem ty5:fA Tryz.prog tab ⟨(.int .u8),1,1,[.int .u8],false⟩ 5:=
 bT (i:=Tryz.t5) (z:=.int .u8 0) (d:=(.int .u8))
theorem ty9:fA Tryz.prog tab ⟨.str,1,16,[.str],false⟩ 9:=
 bT (i:=Tryz.t9) (z:=.string ⟨#[]⟩) (d:=.string)
theorem aiJ:fA Tryz.prog tab ⟨(.slice 158),1,24,[.aj],false⟩ 22:=
 bT (i:=Tryz.t22) (z:=.slice none 0 0) (d:=(.slice 158))
theorem aiK:fA Tryz.prog tab ⟨(.slice 196),1,24,[.aj],false⟩ 23:=
 bT (i:=Tryz.t23) (z:=.slice none 0 0) (d:=(.slice 196))
theorem aiL:fA Tryz.prog tab ⟨(.slice 162),1,24,[.aj],false⟩ 24:=
 bT (i:=Tryz.t24) (z:=.slice none 0 0) (d:=(.slice 162))
theorem aiM:fA Tryz.prog tab ⟨(.slice 3),1,24,[.aj],false⟩ 25:=
 bT (i:=Tryz.t25) (z:=.slice none 0 0) (d:=(.slice 3))
theorem aiN:fA Tryz.prog tab ⟨(.struct [(0,3),(1,22),(2,23),(3,24),(4,25)]),5,104,[.int .i64,.aj,.aj,.aj,.aj],false⟩ 26:=
 bT (i:=Tryz.t26) (z:=.agg #[.int .i64 0,.slice none 0 0,.slice none 0 0,.slice none 0 0,.slice none 0 0]) (d:=(.struct (Tryz.prog.fieldsOf 26))) (h12:=⟨_,rfl,by kernel_rfl,by decide⟩)
theorem aiO:fA Tryz.prog tab ⟨(.struct [(0,3),(1,22),(2,23),(3,24),(4,25)]),5,104,[.int .i64,.aj,.aj,.aj,.aj],false⟩ 27:=
 bT (i:=Tryz.t27) (z:=.agg #[.int .i64 0,.slice none 0 0,.slice none 0 0,.slice none 0 0,.slice none 0 0]) (d:=(.struct (Tryz.prog.fieldsOf 27))) (h12:=⟨_,rfl,by kernel_rfl,by decide⟩)
theorem aiP:fA Tryz.prog tab ⟨(.slice 25),1,24,[.aj],false⟩ 28:=
 bT (i:=Tryz.t28) (z:=.slice none 0 0) (d:=(.slice 25))
theorem aiQ:fA Tryz.prog tab ⟨(.struct [(0,25),(1,25),(2,28)]),3,72,[.aj,.aj,.aj],false⟩ 30:=
 bT (i:=Tryz.t30) (z:=.agg #[.slice none 0 0,.slice none 0 0,.slice none 0 0]) (d:=(.struct (Tryz.prog.fieldsOf 30))) (h12:=⟨_,rfl,by kernel_rfl,by decide⟩)
theorem aiR:fA Tryz.prog tab ⟨(.slice 127),1,24,[.aj],false⟩ 31:=
 bT (i:=Tryz.t31) (z:=.slice none 0 0) (d:=(.slice 127))
theorem aiS:fA Tryz.prog tab ⟨(.slice 98),1,24,[.aj],false⟩ 32:=
 bT (i:=Tryz.t32) (z:=.slice none 0 0) (d:=(.slice 98))
theorem aiT:fA Tryz.prog tab ⟨(.struct [(0,27),(5,30),(8,31),(9,32)]),10,224,[.int .i64,.aj,.aj,.aj,.aj,.aj,.aj,.aj,.aj,.aj],false⟩ 33:=
 bT (i:=Tryz.t33) (z:=.agg #[.int .i64 0,.slice none 0 0,.slice none 0 0,.slice none 0 0,.slice none 0 0,.slice none 0 0,.slice none 0 0,.slice none 0 0,.slice none 0 0,.slice none 0 0]) (d:=(.struct (Tryz.prog.fieldsOf 33))) (h12:=⟨_,rfl,by kernel_rfl,by decide⟩)
theorem aiU:fA Tryz.prog tab ⟨(.struct [(0,27),(5,30),(8,31),(9,32)]),10,224,[.int .i64,.aj,.aj,.aj,.aj,.aj,.aj,.aj,.aj,.aj],false⟩ 34:=
 bT (i:=Tryz.t34) (z:=.agg #[.int .i64 0,.slice none 0 0,.slice none 0 0,.slice none 0 0,.slice none 0 0,.slice none 0 0,.slice none 0 0,.slice none 0 0,.slice none 0 0,.slice none 0 0]) (d:=(.struct (Tryz.prog.fieldsOf 34))) (h12:=⟨_,rfl,by kernel_rfl,by decide⟩)
theorem aiV:fA Tryz.prog tab ⟨(.slice 165),1,24,[.aj],false⟩ 36:=
 bT (i:=Tryz.t36) (z:=.slice none 0 0) (d:=(.slice 165))
theorem aiW:fA Tryz.prog tab ⟨(.slice 173),1,24,[.aj],false⟩ 37:=
 bT (i:=Tryz.t37) (z:=.slice none 0 0) (d:=(.slice 173))
theorem aiX:fA Tryz.prog tab ⟨(.slice 170),1,24,[.aj],false⟩ 38:=
 bT (i:=Tryz.t38) (z:=.slice none 0 0) (d:=(.slice 170))
theorem aiY:fA Tryz.prog tab ⟨(.struct [(0,3),(1,36),(2,37),(3,38),(4,25)]),5,104,[.int .i64,.aj,.aj,.aj,.aj],false⟩ 39:=
 bT (i:=Tryz.t39) (z:=.agg #[.int .i64 0,.slice none 0 0,.slice none 0 0,.slice none 0 0,.slice none 0 0]) (d:=(.struct (Tryz.prog.fieldsOf 39))) (h12:=⟨_,rfl,by kernel_rfl,by decide⟩)
theorem aiZ:fA Tryz.prog tab ⟨(.struct [(0,3),(1,36),(2,37),(3,38),(4,25)]),5,104,[.int .i64,.aj,.aj,.aj,.aj],false⟩ 40:=
 bT (i:=Tryz.t40) (z:=.agg #[.int .i64 0,.slice none 0 0,.slice none 0 0,.slice none 0 0,.slice none 0 0]) (d:=(.struct (Tryz.prog.fieldsOf 40))) (h12:=⟨_,rfl,by kernel_rfl,by decide⟩)
theorem aja:fA Tryz.prog tab ⟨(.struct [(0,25),(1,25),(2,28)]),3,72,[.aj,.aj,.aj],false⟩ 41:=
 bT (i:=Tryz.t41) (z:=.agg #[.slice none 0 0,.slice none 0 0,.slice none 0 0]) (d:=(.struct (Tryz.prog.fieldsOf 41))) (h12:=⟨_,rfl,by kernel_rfl,by decide⟩)
theorem ajb:fA Tryz.prog tab ⟨(.slice 102),1,24,[.aj],false⟩ 42:=
 bT (i:=Tryz.t42) (z:=.slice none 0 0) (d:=(.slice 102))
theorem ajc:fA Tryz.prog tab ⟨(.slice 130),1,24,[.aj],false⟩ 43:=
 bT (i:=Tryz.t43) (z:=.slice none 0 0) (d:=(.slice 130))
theorem ajd:fA Tryz.prog tab ⟨(.struct [(0,40),(5,41),(8,42),(9,43)]),10,224,[.int .i64,.aj,.aj,.aj,.aj,.aj,.aj,.aj,.aj,.aj],false⟩ 44:=
 bT (i:=Tryz.t44) (z:=.agg #[.int .i64 0,.slice none 0 0,.slice none 0 0,.slice none 0 0,.slice none 0 0,.slice none 0 0,.slice none 0 0,.slice none 0 0,.slice none 0 0,.slice none 0 0]) (d:=(.struct (Tryz.prog.fieldsOf 44))) (h12:=⟨_,rfl,by kernel_rfl,by decide⟩)
theorem aje:fA Tryz.prog tab ⟨(.struct [(0,40),(5,41),(8,42),(9,43)]),10,224,[.int .i64,.aj,.aj,.aj,.aj,.aj,.aj,.aj,.aj,.aj],false⟩ 45:=
 bT (i:=Tryz.t45) (z:=.agg #[.int .i64 0,.slice none 0 0,.slice none 0 0,.slice none 0 0,.slice none 0 0,.slice none 0 0,.slice none 0 0,.slice none 0 0,.slice none 0 0,.slice none 0 0]) (d:=(.struct (Tryz.prog.fieldsOf 45))) (h12:=⟨_,rfl,by kernel_rfl,by decide⟩)
theorem ajf:fA Tryz.prog tab ⟨(.struct [(0,25),(1,25)]),2,48,[.aj,.aj],false⟩ 47:=
 bT (i:=Tryz.t47) (z:=.agg #[.slice none 0 0,.slice none 0 0]) (d:=(.struct (Tryz.prog.fieldsOf 47))) (h12:=⟨_,rfl,by kernel_rfl,by decide⟩)
theorem ajg:fA Tryz.prog tab ⟨(.struct [(0,45),(10,47),(12,4),(13,3),(14,4)]),15,296,[.int .i64,.aj,.aj,.aj,.aj,.aj,.aj,.aj,.aj,.aj,.aj,.aj,.bool,.int .i64,.bool],false⟩ 48:=
 bT (i:=Tryz.t48) (z:=.agg #[.int .i64 0,.slice none 0 0,.slice none 0 0,.slice none 0 0,.slice none 0 0,.slice none 0 0,.slice none 0 0,.slice none 0 0,.slice none 0 0,.slice none 0 0,.slice none 0 0,.slice none 0 0,.bool false,.int .i64 0,.bool false]) (d:=(.struct (Tryz.prog.fieldsOf 48))) (h12:=⟨_,rfl,by kernel_rfl,by decide⟩)
theorem ajh:fA Tryz.prog tab ⟨(.struct [(0,45),(10,47),(12,4),(13,3),(14,4)]),15,296,[.int .i64,.aj,.aj,.aj,.aj,.aj,.aj,.aj,.aj,.aj,.aj,.aj,.bool,.int .i64,.bool],false⟩ 49:=
 bT (i:=Tryz.t49) (z:=.agg #[.int .i64 0,.slice none 0 0,.slice none 0 0,.slice none 0 0,.slice none 0 0,.slice none 0 0,.slice none 0 0,.slice none 0 0,.slice none 0 0,.slice none 0 0,.slice none 0 0,.slice none 0 0,.bool false,.int .i64 0,.bool false]) (d:=(.struct (Tryz.prog.fieldsOf 49))) (h12:=⟨_,rfl,by kernel_rfl,by decide⟩)
theorem aji:fA Tryz.prog tab ⟨(.struct [(0,3),(1,3),(2,47),(4,4),(5,4)]),6,72,[.int .i64,.int .i64,.aj,.aj,.bool,.bool],false⟩ 64:=
 bT (i:=Tryz.t64) (z:=.agg #[.int .i64 0,.int .i64 0,.slice none 0 0,.slice none 0 0,.bool false,.bool false]) (d:=(.struct (Tryz.prog.fieldsOf 64))) (h12:=⟨_,rfl,by kernel_rfl,by decide⟩)
theorem ajj:fA Tryz.prog tab ⟨(.struct [(0,3),(1,3),(2,47),(4,4),(5,4)]),6,72,[.int .i64,.int .i64,.aj,.aj,.bool,.bool],false⟩ 65:=
 bT (i:=Tryz.t65) (z:=.agg #[.int .i64 0,.int .i64 0,.slice none 0 0,.slice none 0 0,.bool false,.bool false]) (d:=(.struct (Tryz.prog.fieldsOf 65))) (h12:=⟨_,rfl,by kernel_rfl,by decide⟩)
theorem ajk:fA Tryz.prog tab ⟨(.struct [(0,3),(1,3),(2,45),(12,4),(13,4),(14,47)]),16,296,[.int .i64,.int .i64,.int .i64,.aj,.aj,.aj,.aj,.aj,.aj,.aj,.aj,.aj,.bool,.bool,.aj,.aj],false⟩ 73:=
 bT (i:=Tryz.t73) (z:=.agg #[.int .i64 0,.int .i64 0,.int .i64 0,.slice none 0 0,.slice none 0 0,.slice none 0 0,.slice none 0 0,.slice none 0 0,.slice none 0 0,.slice none 0 0,.slice none 0 0,.slice none 0 0,.bool false,.bool false,.slice none 0 0,.slice none 0 0]) (d:=(.struct (Tryz.prog.fieldsOf 73))) (h12:=⟨_,rfl,by kernel_rfl,by decide⟩)
theorem ajl:fA Tryz.prog tab ⟨(.struct [(0,3),(1,3),(2,45),(12,4),(13,4),(14,47)]),16,296,[.int .i64,.int .i64,.int .i64,.aj,.aj,.aj,.aj,.aj,.aj,.aj,.aj,.aj,.bool,.bool,.aj,.aj],false⟩ 74:=
 bT (i:=Tryz.t74) (z:=.agg #[.int .i64 0,.int .i64 0,.int .i64 0,.slice none 0 0,.slice none 0 0,.slice none 0 0,.slice none 0 0,.slice none 0 0,.slice none 0 0,.slice none 0 0,.slice none 0 0,.slice none 0 0,.bool false,.bool false,.slice none 0 0,.slice none 0 0]) (d:=(.struct (Tryz.prog.fieldsOf 74))) (h12:=⟨_,rfl,by kernel_rfl,by decide⟩)
theorem ahr:∀f∈Tryz.prog.fieldsOf 96,f.name≠ "_" :=by
 have h:((Tryz.prog.fieldsOf 96).toList.all fun f=>f.name != "_")=true:=by kernel_rfl
 intro f hf
 have:=List.all_eq_true.1 h f (by simpa using hf)
 simpa using this
theorem ajm:fA Tryz.prog tab ⟨(.struct [(0,3),(1,3),(2,3),(3,3)]),4,32,[.int .i64,.int .i64,.int .i64,.int .i64],true⟩ 96:=
 bT (i:=Tryz.t96) (z:=.agg #[.int .i64 0,.int .i64 0,.int .i64 0,.int .i64 0]) (d:=(.struct (Tryz.prog.fieldsOf 96))) (h10:=fun _=>⟨by kernel_rfl,by kernel_rfl,ahr⟩) (h12:=⟨_,rfl,by kernel_rfl,by decide⟩)
theorem ajn:fA Tryz.prog tab ⟨(.struct [(0,3),(1,96),(5,31)]),6,64,[.int .i64,.int .i64,.int .i64,.int .i64,.int .i64,.aj],false⟩ 97:=
 bT (i:=Tryz.t97) (z:=.agg #[.int .i64 0,.int .i64 0,.int .i64 0,.int .i64 0,.int .i64 0,.slice none 0 0]) (d:=(.struct (Tryz.prog.fieldsOf 97))) (h12:=⟨_,rfl,by kernel_rfl,by decide⟩)
theorem ajo:fA Tryz.prog tab ⟨(.struct [(0,3),(1,96),(5,31)]),6,64,[.int .i64,.int .i64,.int .i64,.int .i64,.int .i64,.aj],false⟩ 98:=
 bT (i:=Tryz.t98) (z:=.agg #[.int .i64 0,.int .i64 0,.int .i64 0,.int .i64 0,.int .i64 0,.slice none 0 0]) (d:=(.struct (Tryz.prog.fieldsOf 98))) (h12:=⟨_,rfl,by kernel_rfl,by decide⟩)
theorem agl:∀f∈Tryz.prog.fieldsOf 102,f.name≠ "_" :=by
 have h:((Tryz.prog.fieldsOf 102).toList.all fun f=>f.name != "_")=true:=by kernel_rfl
 intro f hf
 have:=List.all_eq_true.1 h f (by simpa using hf)
 simpa using this
theorem ahs:fA Tryz.prog tab ⟨(.struct [(0,3),(1,3),(2,3)]),3,24,[.int .i64,.int .i64,.int .i64],true⟩ 102:=
 bT (i:=Tryz.t102) (z:=.agg #[.int .i64 0,.int .i64 0,.int .i64 0]) (d:=(.struct (Tryz.prog.fieldsOf 102))) (h10:=fun _=>⟨by kernel_rfl,by kernel_rfl,agl⟩) (h12:=⟨_,rfl,by kernel_rfl,by decide⟩)
theorem aht:fA Tryz.prog tab ⟨(.slice 42),1,24,[.aj],false⟩ 108:=
 bT (i:=Tryz.t108) (z:=.slice none 0 0) (d:=(.slice 42))
theorem agm:∀f∈Tryz.prog.fieldsOf 127,f.name≠ "_" :=by
 have h:((Tryz.prog.fieldsOf 127).toList.all fun f=>f.name != "_")=true:=by kernel_rfl
 intro f hf
 have:=List.all_eq_true.1 h f (by simpa using hf)
 simpa using this
theorem ahu:fA Tryz.prog tab ⟨(.struct [(0,3),(1,3),(2,3)]),3,24,[.int .i64,.int .i64,.int .i64],true⟩ 127:=
 bT (i:=Tryz.t127) (z:=.agg #[.int .i64 0,.int .i64 0,.int .i64 0]) (d:=(.struct (Tryz.prog.fieldsOf 127))) (h10:=fun _=>⟨by kernel_rfl,by kernel_rfl,agm⟩) (h12:=⟨_,rfl,by kernel_rfl,by decide⟩)
theorem agn:∀f∈Tryz.prog.fieldsOf 128,f.name≠ "_" :=by
 have h:((Tryz.prog.fieldsOf 128).toList.all fun f=>f.name != "_")=true:=by kernel_rfl
 intro f hf
 have:=List.all_eq_true.1 h f (by simpa using hf)
 simpa using this
theorem ahv:fA Tryz.prog tab ⟨(.struct [(0,3),(1,3),(2,3),(3,3)]),4,32,[.int .i64,.int .i64,.int .i64,.int .i64],true⟩ 128:=
 bT (i:=Tryz.t128) (z:=.agg #[.int .i64 0,.int .i64 0,.int .i64 0,.int .i64 0]) (d:=(.struct (Tryz.prog.fieldsOf 128))) (h10:=fun _=>⟨by kernel_rfl,by kernel_rfl,agn⟩) (h12:=⟨_,rfl,by kernel_rfl,by decide⟩)
theorem ahw:fA Tryz.prog tab ⟨(.struct [(0,3),(1,128),(5,42)]),6,64,[.int .i64,.int .i64,.int .i64,.int .i64,.int .i64,.aj],false⟩ 129:=
 bT (i:=Tryz.t129) (z:=.agg #[.int .i64 0,.int .i64 0,.int .i64 0,.int .i64 0,.int .i64 0,.slice none 0 0]) (d:=(.struct (Tryz.prog.fieldsOf 129))) (h12:=⟨_,rfl,by kernel_rfl,by decide⟩)
theorem ahx:fA Tryz.prog tab ⟨(.struct [(0,3),(1,128),(5,42)]),6,64,[.int .i64,.int .i64,.int .i64,.int .i64,.int .i64,.aj],false⟩ 130:=
 bT (i:=Tryz.t130) (z:=.agg #[.int .i64 0,.int .i64 0,.int .i64 0,.int .i64 0,.int .i64 0,.slice none 0 0]) (d:=(.struct (Tryz.prog.fieldsOf 130))) (h12:=⟨_,rfl,by kernel_rfl,by decide⟩)
theorem ahy:fA Tryz.prog tab ⟨(.slice 267),1,24,[.aj],false⟩ 156:=
 bT (i:=Tryz.t156) (z:=.slice none 0 0) (d:=(.slice 267))
theorem ahz:fA Tryz.prog tab ⟨(.struct [(0,9),(1,3),(2,156)]),3,48,[.str,.int .i64,.aj],false⟩ 157:=
 bT (i:=Tryz.t157) (z:=.agg #[.string ⟨#[]⟩,.int .i64 0,.slice none 0 0]) (d:=(.struct (Tryz.prog.fieldsOf 157))) (h12:=⟨_,rfl,by kernel_rfl,by decide⟩)
theorem ahA:fA Tryz.prog tab ⟨(.struct [(0,9),(1,3),(2,156)]),3,48,[.str,.int .i64,.aj],false⟩ 158:=
 bT (i:=Tryz.t158) (z:=.agg #[.string ⟨#[]⟩,.int .i64 0,.slice none 0 0]) (d:=(.struct (Tryz.prog.fieldsOf 158))) (h12:=⟨_,rfl,by kernel_rfl,by decide⟩)
theorem ahB:fA Tryz.prog tab ⟨(.slice 284),1,24,[.aj],false⟩ 160:=
 bT (i:=Tryz.t160) (z:=.slice none 0 0) (d:=(.slice 284))
theorem ahC:fA Tryz.prog tab ⟨(.struct [(0,160),(1,28)]),2,48,[.aj,.aj],false⟩ 161:=
 bT (i:=Tryz.t161) (z:=.agg #[.slice none 0 0,.slice none 0 0]) (d:=(.struct (Tryz.prog.fieldsOf 161))) (h12:=⟨_,rfl,by kernel_rfl,by decide⟩)
theorem ahD:fA Tryz.prog tab ⟨(.struct [(0,160),(1,28)]),2,48,[.aj,.aj],false⟩ 162:=
 bT (i:=Tryz.t162) (z:=.agg #[.slice none 0 0,.slice none 0 0]) (d:=(.struct (Tryz.prog.fieldsOf 162))) (h12:=⟨_,rfl,by kernel_rfl,by decide⟩)
theorem ahE:fA Tryz.prog tab ⟨(.slice 210),1,24,[.aj],false⟩ 163:=
 bT (i:=Tryz.t163) (z:=.slice none 0 0) (d:=(.slice 210))
theorem ahF:fA Tryz.prog tab ⟨(.struct [(0,9),(1,3),(2,163)]),3,48,[.str,.int .i64,.aj],false⟩ 164:=
 bT (i:=Tryz.t164) (z:=.agg #[.string ⟨#[]⟩,.int .i64 0,.slice none 0 0]) (d:=(.struct (Tryz.prog.fieldsOf 164))) (h12:=⟨_,rfl,by kernel_rfl,by decide⟩)
theorem ahG:fA Tryz.prog tab ⟨(.struct [(0,9),(1,3),(2,163)]),3,48,[.str,.int .i64,.aj],false⟩ 165:=
 bT (i:=Tryz.t165) (z:=.agg #[.string ⟨#[]⟩,.int .i64 0,.slice none 0 0]) (d:=(.struct (Tryz.prog.fieldsOf 165))) (h12:=⟨_,rfl,by kernel_rfl,by decide⟩)
theorem ahH:fA Tryz.prog tab ⟨(.slice 218),1,24,[.aj],false⟩ 168:=
 bT (i:=Tryz.t168) (z:=.slice none 0 0) (d:=(.slice 218))
theorem ahI:fA Tryz.prog tab ⟨(.struct [(0,168),(1,28)]),2,48,[.aj,.aj],false⟩ 169:=
 bT (i:=Tryz.t169) (z:=.agg #[.slice none 0 0,.slice none 0 0]) (d:=(.struct (Tryz.prog.fieldsOf 169))) (h12:=⟨_,rfl,by kernel_rfl,by decide⟩)
theorem ahJ:fA Tryz.prog tab ⟨(.struct [(0,168),(1,28)]),2,48,[.aj,.aj],false⟩ 170:=
 bT (i:=Tryz.t170) (z:=.agg #[.slice none 0 0,.slice none 0 0]) (d:=(.struct (Tryz.prog.fieldsOf 170))) (h12:=⟨_,rfl,by kernel_rfl,by decide⟩)
theorem agp:∀f∈Tryz.prog.fieldsOf 173,f.name≠ "_" :=by
 have h:((Tryz.prog.fieldsOf 173).toList.all fun f=>f.name != "_")=true:=by kernel_rfl
 intro f hf
 have:=List.all_eq_true.1 h f (by simpa using hf)
 simpa using this
theorem ahK:fA Tryz.prog tab ⟨(.struct [(0,3),(1,3),(2,4),(3,3)]),4,32,[.int .i64,.int .i64,.bool,.int .i64],true⟩ 173:=
 bT (i:=Tryz.t173) (z:=.agg #[.int .i64 0,.int .i64 0,.bool false,.int .i64 0]) (d:=(.struct (Tryz.prog.fieldsOf 173))) (h10:=fun _=>⟨by kernel_rfl,by kernel_rfl,agp⟩) (h12:=⟨_,rfl,by kernel_rfl,by decide⟩)
theorem ahL:fA Tryz.prog tab ⟨(.struct [(0,102),(3,128),(7,42)]),8,80,[.int .i64,.int .i64,.int .i64,.int .i64,.int .i64,.int .i64,.int .i64,.aj],false⟩ 179:=
 bT (i:=Tryz.t179) (z:=.agg #[.int .i64 0,.int .i64 0,.int .i64 0,.int .i64 0,.int .i64 0,.int .i64 0,.int .i64 0,.slice none 0 0]) (d:=(.struct (Tryz.prog.fieldsOf 179))) (h12:=⟨_,rfl,by kernel_rfl,by decide⟩)
theorem ahM:fA Tryz.prog tab ⟨(.struct [(0,102),(3,128),(7,42)]),8,80,[.int .i64,.int .i64,.int .i64,.int .i64,.int .i64,.int .i64,.int .i64,.aj],false⟩ 180:=
 bT (i:=Tryz.t180) (z:=.agg #[.int .i64 0,.int .i64 0,.int .i64 0,.int .i64 0,.int .i64 0,.int .i64 0,.int .i64 0,.slice none 0 0]) (d:=(.struct (Tryz.prog.fieldsOf 180))) (h12:=⟨_,rfl,by kernel_rfl,by decide⟩)
theorem ahN:fA Tryz.prog tab ⟨(.slice 128),1,24,[.aj],false⟩ 189:=
 bT (i:=Tryz.t189) (z:=.slice none 0 0) (d:=(.slice 128))
theorem agq:∀f∈Tryz.prog.fieldsOf 196,f.name≠ "_" :=by
 have h:((Tryz.prog.fieldsOf 196).toList.all fun f=>f.name != "_")=true:=by kernel_rfl
 intro f hf
 have:=List.all_eq_true.1 h f (by simpa using hf)
 simpa using this
theorem ahO:fA Tryz.prog tab ⟨(.struct [(0,3),(1,3),(2,4),(3,3)]),4,32,[.int .i64,.int .i64,.bool,.int .i64],true⟩ 196:=
 bT (i:=Tryz.t196) (z:=.agg #[.int .i64 0,.int .i64 0,.bool false,.int .i64 0]) (d:=(.struct (Tryz.prog.fieldsOf 196))) (h10:=fun _=>⟨by kernel_rfl,by kernel_rfl,agq⟩) (h12:=⟨_,rfl,by kernel_rfl,by decide⟩)
theorem ahP:fA Tryz.prog tab ⟨(.struct [(0,3),(1,25),(2,25)]),3,56,[.int .i64,.aj,.aj],false⟩ 210:=
 bT (i:=Tryz.t210) (z:=.agg #[.int .i64 0,.slice none 0 0,.slice none 0 0]) (d:=(.struct (Tryz.prog.fieldsOf 210))) (h12:=⟨_,rfl,by kernel_rfl,by decide⟩)
theorem agr:∀f∈Tryz.prog.fieldsOf 218,f.name≠ "_" :=by
 have h:((Tryz.prog.fieldsOf 218).toList.all fun f=>f.name != "_")=true:=by kernel_rfl
 intro f hf
 have:=List.all_eq_true.1 h f (by simpa using hf)
 simpa using this
theorem ahQ:fA Tryz.prog tab ⟨(.struct [(0,3),(1,3)]),2,16,[.int .i64,.int .i64],true⟩ 218:=
 bT (i:=Tryz.t218) (z:=.agg #[.int .i64 0,.int .i64 0]) (d:=(.struct (Tryz.prog.fieldsOf 218))) (h10:=fun _=>⟨by kernel_rfl,by kernel_rfl,agr⟩) (h12:=⟨_,rfl,by kernel_rfl,by decide⟩)
theorem ahR:fA Tryz.prog tab ⟨(.slice 5),1,24,[.aj],false⟩ 265:=
 bT (i:=Tryz.t265) (z:=.slice none 0 0) (d:=(.slice 5))
theorem ahS:fA Tryz.prog tab ⟨(.struct [(0,3),(1,25),(2,25)]),3,56,[.int .i64,.aj,.aj],false⟩ 267:=
 bT (i:=Tryz.t267) (z:=.agg #[.int .i64 0,.slice none 0 0,.slice none 0 0]) (d:=(.struct (Tryz.prog.fieldsOf 267))) (h12:=⟨_,rfl,by kernel_rfl,by decide⟩)
theorem ags:∀f∈Tryz.prog.fieldsOf 284,f.name≠ "_" :=by
 have h:((Tryz.prog.fieldsOf 284).toList.all fun f=>f.name != "_")=true:=by kernel_rfl
 intro f hf
 have:=List.all_eq_true.1 h f (by simpa using hf)
 simpa using this
theorem ahT:fA Tryz.prog tab ⟨(.struct [(0,3),(1,3)]),2,16,[.int .i64,.int .i64],true⟩ 284:=
 bT (i:=Tryz.t284) (z:=.agg #[.int .i64 0,.int .i64 0]) (d:=(.struct (Tryz.prog.fieldsOf 284))) (h10:=fun _=>⟨by kernel_rfl,by kernel_rfl,ags⟩) (h12:=⟨_,rfl,by kernel_rfl,by decide⟩)
theorem uz:bS Tryz.prog tab:=agk ⟨ajk,⟨aiU,⟨aiM,⟨ty9,⟨ty4,⟨ty3,⟨ty2,trivial,trivial⟩,trivial⟩,⟨ty5,trivial,trivial⟩⟩,⟨aiK,⟨aiJ,trivial,trivial⟩,⟨aiL,trivial,trivial⟩⟩⟩,⟨aiQ,⟨aiO,⟨aiN,trivial,trivial⟩,⟨aiP,trivial,trivial⟩⟩,⟨aiS,⟨aiR,trivial,trivial⟩,⟨aiT,trivial,trivial⟩⟩⟩⟩,⟨ajc,⟨aiY,⟨aiW,⟨aiV,trivial,trivial⟩,⟨aiX,trivial,trivial⟩⟩,⟨aja,⟨aiZ,trivial,trivial⟩,⟨ajb,trivial,trivial⟩⟩⟩,⟨ajg,⟨aje,⟨ajd,trivial,trivial⟩,⟨ajf,trivial,trivial⟩⟩,⟨aji,⟨ajh,trivial,trivial⟩,⟨ajj,trivial,trivial⟩⟩⟩⟩⟩,⟨ahE,⟨ahw,⟨ahs,⟨ajn,⟨ajm,⟨ajl,trivial,trivial⟩,trivial⟩,⟨ajo,trivial,trivial⟩⟩,⟨ahu,⟨aht,trivial,trivial⟩,⟨ahv,trivial,trivial⟩⟩⟩,⟨ahA,⟨ahy,⟨ahx,trivial,trivial⟩,⟨ahz,trivial,trivial⟩⟩,⟨ahC,⟨ahB,trivial,trivial⟩,⟨ahD,trivial,trivial⟩⟩⟩⟩,⟨ahM,⟨ahI,⟨ahG,⟨ahF,trivial,trivial⟩,⟨ahH,trivial,trivial⟩⟩,⟨ahK,⟨ahJ,trivial,trivial⟩,⟨ahL,trivial,trivial⟩⟩⟩,⟨ahQ,⟨ahO,⟨ahN,trivial,trivial⟩,⟨ahP,trivial,trivial⟩⟩,⟨ahS,⟨ahR,trivial,trivial⟩,⟨ahT,trivial,trivial⟩⟩⟩⟩⟩⟩
end Go.Proofs.YthegbfgeochckaaGreat.Abs
