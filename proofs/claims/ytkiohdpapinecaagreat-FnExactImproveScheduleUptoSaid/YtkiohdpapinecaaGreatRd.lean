/- How the arguments of the laws read. Printed by genread.py. No statement of a claim. -/
import Derived.Test.YtkiohdpapinecaaGreatPlain
import Derived.Test.YtkiohdpapinecaaGreatTab
import Derived.Test.YtkiohdpapinecaaGreatLayA
set_option linter.all false
set_option linter.unusedVariables false
set_option linter.unusedSectionVars false
set_option maxRecDepth 20000
namespace Go.Proofs.YtkiohdpapinecaaGreat.Abs
open Go.Proofs Go.ChangeShapes Go.WideShapes Go.RowKit
section
variable {H:Type} {enc:TypeId×Value→H} {W:World} {I:Nat→Prop} {L:Nat} {μ:DataW H→Nat} {N:Nat}
variable (hb:Bulk μ) (hNL:N≤L) (hI:∀b o v,W.cell? ⟨b,o,none⟩=some v→I b)
include hb hNL hI
theorem rd_Step:Rd enc Tryz.prog W I L μ N 279 Step.av (fun _=>True):=
 rd_struct hb Tryz.underlying279 (len:=2) (by kernel_rfl) (rdCells_cons rfl (k:=1) (by kernel_rfl) (rd_int Tryz.underlying3) (rdCells_cons rfl (k:=1) (by kernel_rfl) (rd_int Tryz.underlying3) rdCells_nil)) (fun x=>Step.mk x.1 x.2.1) (fun _=>rfl) (fun _ _=>trivial)
theorem rd_Resource:Rd enc Tryz.prog W I L μ N 139 Resrc.av (fun _=>True):=
 rd_struct hb Tryz.underlying139 (len:=2) (by kernel_rfl) (rdCells_cons rfl (k:=1) (by kernel_rfl) (rd_slice hb hNL hI Tryz.underlying137 (e:=279) (sz:=2) (by kernel_rfl) (by decide) (f:=Step.av) (fun _=>rfl) (rd_Step hb hNL hI)) (rdCells_cons rfl (k:=1) (by kernel_rfl) (rd_slice hb hNL hI Tryz.underlying111 (e:=25) (sz:=1) (by kernel_rfl) (by decide) (f:=(fun l=>AV.sl (l.map (fun n=>AV.int .i64 n)))) (fun _=>rfl) (rd_slice hb hNL hI Tryz.underlying25 (e:=3) (sz:=1) (by kernel_rfl) (by decide) (f:=(fun n=>AV.int .i64 n)) (fun _=>rfl) (rd_int Tryz.underlying3))) rdCells_nil)) (fun x=>Resrc.mk x.1 x.2.1) (fun _=>rfl) (fun _ _=>trivial)
theorem rd_Link:Rd enc Tryz.prog W I L μ N 158 Link.av (fun _=>True):=
 rd_struct hb Tryz.underlying158 (len:=4) (by kernel_rfl) (rdCells_cons rfl (k:=1) (by kernel_rfl) (rd_int Tryz.underlying3) (rdCells_cons rfl (k:=1) (by kernel_rfl) (rd_int Tryz.underlying3) (rdCells_cons rfl (k:=1) (by kernel_rfl) (rd_bool Tryz.underlying4) (rdCells_cons rfl (k:=1) (by kernel_rfl) (rd_int Tryz.underlying3) rdCells_nil)))) (fun x=>Link.mk x.1 x.2.1 x.2.2.1 x.2.2.2.1) (fun _=>rfl) (fun _ _=>trivial)
theorem rd_Mode:Rd enc Tryz.prog W I L μ N 275 Mode.av (fun _=>True):=
 rd_struct hb Tryz.underlying275 (len:=3) (by kernel_rfl) (rdCells_cons rfl (k:=1) (by kernel_rfl) (rd_int Tryz.underlying3) (rdCells_cons rfl (k:=1) (by kernel_rfl) (rd_slice hb hNL hI Tryz.underlying25 (e:=3) (sz:=1) (by kernel_rfl) (by decide) (f:=(fun n=>AV.int .i64 n)) (fun _=>rfl) (rd_int Tryz.underlying3)) (rdCells_cons rfl (k:=1) (by kernel_rfl) (rd_slice hb hNL hI Tryz.underlying25 (e:=3) (sz:=1) (by kernel_rfl) (by decide) (f:=(fun n=>AV.int .i64 n)) (fun _=>rfl) (rd_int Tryz.underlying3)) rdCells_nil))) (fun x=>Mode.mk x.1 x.2.1 x.2.2.1) (fun _=>rfl) (fun _ _=>trivial)
theorem rd_Activity:Rd enc Tryz.prog W I L μ N 135 Activ.av (fun x=>x.name.size≤N):=
 rd_struct hb Tryz.underlying135 (len:=3) (by kernel_rfl) (rdCells_cons rfl (k:=1) (by kernel_rfl) (rd_str hb Tryz.underlying9) (rdCells_cons rfl (k:=1) (by kernel_rfl) (rd_int Tryz.underlying3) (rdCells_cons rfl (k:=1) (by kernel_rfl) (rd_slice hb hNL hI Tryz.underlying133 (e:=275) (sz:=3) (by kernel_rfl) (by decide) (f:=Mode.av) (fun _=>rfl) (rd_Mode hb hNL hI)) rdCells_nil))) (fun x=>Activ.mk x.1 x.2.1 x.2.2.1) (fun _=>rfl) (fun _ h=>h.1)
theorem rd_Project:Rd enc Tryz.prog W I L μ N 27 Proj.av (fun x=>∀a∈x.acts,a.name.size≤N):=
 rd_struct hb Tryz.underlying27 (len:=5) (by kernel_rfl) (rdCells_cons rfl (k:=1) (by kernel_rfl) (rd_int Tryz.underlying3) (rdCells_cons rfl (k:=1) (by kernel_rfl) (rd_slice hb hNL hI Tryz.underlying22 (e:=135) (sz:=3) (by kernel_rfl) (by decide) (f:=Activ.av) (fun _=>rfl) (rd_Activity hb hNL hI)) (rdCells_cons rfl (k:=1) (by kernel_rfl) (rd_slice hb hNL hI Tryz.underlying23 (e:=158) (sz:=4) (by kernel_rfl) (by decide) (f:=Link.av) (fun _=>rfl) (rd_Link hb hNL hI)) (rdCells_cons rfl (k:=1) (by kernel_rfl) (rd_slice hb hNL hI Tryz.underlying24 (e:=139) (sz:=2) (by kernel_rfl) (by decide) (f:=Resrc.av) (fun _=>rfl) (rd_Resource hb hNL hI)) (rdCells_cons rfl (k:=1) (by kernel_rfl) (rd_slice hb hNL hI Tryz.underlying25 (e:=3) (sz:=1) (by kernel_rfl) (by decide) (f:=(fun n=>AV.int .i64 n)) (fun _=>rfl) (rd_int Tryz.underlying3)) rdCells_nil))))) (fun x=>Proj.mk x.1 x.2.1 x.2.2.1 x.2.2.2.1 x.2.2.2.2.1) (fun _=>rfl) (fun _ h=>h.2.1.2)
theorem rd_Schedule:Rd enc Tryz.prog W I L μ N 47 Sched.av (fun _=>True):=
 rd_struct hb Tryz.underlying47 (len:=2) (by kernel_rfl) (rdCells_cons rfl (k:=1) (by kernel_rfl) (rd_slice hb hNL hI Tryz.underlying25 (e:=3) (sz:=1) (by kernel_rfl) (by decide) (f:=(fun n=>AV.int .i64 n)) (fun _=>rfl) (rd_int Tryz.underlying3)) (rdCells_cons rfl (k:=1) (by kernel_rfl) (rd_slice hb hNL hI Tryz.underlying25 (e:=3) (sz:=1) (by kernel_rfl) (by decide) (f:=(fun n=>AV.int .i64 n)) (fun _=>rfl) (rd_int Tryz.underlying3)) rdCells_nil)) (fun x=>Sched.mk x.1 x.2.1) (fun _=>rfl) (fun _ _=>trivial)
end
end Go.Proofs.YtkiohdpapinecaaGreat.Abs
