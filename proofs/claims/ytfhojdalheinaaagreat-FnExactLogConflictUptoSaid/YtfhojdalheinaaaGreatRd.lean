/- How the arguments of the laws read. Printed by genread.py. No statement of a claim. -/
import Derived.Test.YtfhojdalheinaaaGreatPlain
import Derived.Test.YtfhojdalheinaaaGreatTab
import Derived.Test.YtfhojdalheinaaaGreatLayA
set_option linter.all false
set_option linter.unusedVariables false
set_option linter.unusedSectionVars false
set_option maxRecDepth 20000
namespace Go.Proofs.YtfhojdalheinaaaGreat.Abs
open Go.Proofs Go.ChangeShapes Go.WideShapes Go.RowKit
section
variable {H:Type} {enc:TypeId×Value→H} {W:World} {I:Nat→Prop} {L:Nat} {μ:DataW H→Nat} {N:Nat}
variable (hb:Bulk μ) (hNL:N≤L) (hI:∀b o v,W.cell? ⟨b,o,none⟩=some v→I b)
include hb hNL hI
theorem rd_Literal:Rd enc Tryz.prog W I L μ N 59 Lit.av (fun _=>True):=
 rd_struct hb Tryz.underlying59 (len:=3) (by kernel_rfl) (rdCells_cons rfl (k:=1) (by kernel_rfl) (rd_int Tryz.underlying3) (rdCells_cons rfl (k:=1) (by kernel_rfl) (rd_int Tryz.underlying3) (rdCells_cons rfl (k:=1) (by kernel_rfl) (rd_int Tryz.underlying3) rdCells_nil))) (fun x=>Lit.mk x.1 x.2.1 x.2.2.1) (fun _=>rfl) (fun _ _=>trivial)
theorem rd_Rule:Rd enc Tryz.prog W I L μ N 175 Rul.av (fun _=>True):=
 rd_struct hb Tryz.underlying175 (len:=4) (by kernel_rfl) (rdCells_cons rfl (k:=1) (by kernel_rfl) (rd_int Tryz.underlying3) (rdCells_cons rfl (k:=1) (by kernel_rfl) (rd_int Tryz.underlying3) (rdCells_cons rfl (k:=1) (by kernel_rfl) (rd_int Tryz.underlying3) (rdCells_cons rfl (k:=1) (by kernel_rfl) (rd_int Tryz.underlying3) rdCells_nil)))) (fun x=>Rul.mk x.1 x.2.1 x.2.2.1 x.2.2.2.1) (fun _=>rfl) (fun _ _=>trivial)
theorem rd_Line:Rd enc Tryz.prog W I L μ N 177 Lin.av (fun _=>True):=
 rd_struct hb Tryz.underlying177 (len:=6) (by kernel_rfl) (rdCells_cons rfl (k:=1) (by kernel_rfl) (rd_int Tryz.underlying3) (rdCells_cons rfl (k:=4) (by kernel_rfl) (rd_Rule hb hNL hI) (rdCells_cons rfl (k:=1) (by kernel_rfl) (rd_slice hb hNL hI Tryz.underlying54 (e:=59) (sz:=3) (by kernel_rfl) (by decide) (f:=Lit.av) (fun _=>rfl) (rd_Literal hb hNL hI)) rdCells_nil))) (fun x=>Lin.mk x.1 x.2.1 x.2.2.1) (fun _=>rfl) (fun _ _=>trivial)
theorem rd_Domain:Rd enc Tryz.prog W I L μ N 53 Dom.av (fun _=>True):=
 rd_struct hb Tryz.underlying53 (len:=3) (by kernel_rfl) (rdCells_cons rfl (k:=1) (by kernel_rfl) (rd_slice hb hNL hI Tryz.underlying25 (e:=3) (sz:=1) (by kernel_rfl) (by decide) (f:=(fun n=>AV.int .i64 n)) (fun _=>rfl) (rd_int Tryz.underlying3)) (rdCells_cons rfl (k:=1) (by kernel_rfl) (rd_slice hb hNL hI Tryz.underlying25 (e:=3) (sz:=1) (by kernel_rfl) (by decide) (f:=(fun n=>AV.int .i64 n)) (fun _=>rfl) (rd_int Tryz.underlying3)) (rdCells_cons rfl (k:=1) (by kernel_rfl) (rd_slice hb hNL hI Tryz.underlying51 (e:=25) (sz:=1) (by kernel_rfl) (by decide) (f:=(fun l=>AV.sl (l.map (fun n=>AV.int .i64 n)))) (fun _=>rfl) (rd_slice hb hNL hI Tryz.underlying25 (e:=3) (sz:=1) (by kernel_rfl) (by decide) (f:=(fun n=>AV.int .i64 n)) (fun _=>rfl) (rd_int Tryz.underlying3))) rdCells_nil))) (fun x=>Dom.mk x.1 x.2.1 x.2.2.1) (fun _=>rfl) (fun _ _=>trivial)
theorem rd_Step:Rd enc Tryz.prog W I L μ N 283 Step.av (fun _=>True):=
 rd_struct hb Tryz.underlying283 (len:=2) (by kernel_rfl) (rdCells_cons rfl (k:=1) (by kernel_rfl) (rd_int Tryz.underlying3) (rdCells_cons rfl (k:=1) (by kernel_rfl) (rd_int Tryz.underlying3) rdCells_nil)) (fun x=>Step.mk x.1 x.2.1) (fun _=>rfl) (fun _ _=>trivial)
theorem rd_Resource:Rd enc Tryz.prog W I L μ N 138 Resrc.av (fun _=>True):=
 rd_struct hb Tryz.underlying138 (len:=2) (by kernel_rfl) (rdCells_cons rfl (k:=1) (by kernel_rfl) (rd_slice hb hNL hI Tryz.underlying136 (e:=283) (sz:=2) (by kernel_rfl) (by decide) (f:=Step.av) (fun _=>rfl) (rd_Step hb hNL hI)) (rdCells_cons rfl (k:=1) (by kernel_rfl) (rd_slice hb hNL hI Tryz.underlying51 (e:=25) (sz:=1) (by kernel_rfl) (by decide) (f:=(fun l=>AV.sl (l.map (fun n=>AV.int .i64 n)))) (fun _=>rfl) (rd_slice hb hNL hI Tryz.underlying25 (e:=3) (sz:=1) (by kernel_rfl) (by decide) (f:=(fun n=>AV.int .i64 n)) (fun _=>rfl) (rd_int Tryz.underlying3))) rdCells_nil)) (fun x=>Resrc.mk x.1 x.2.1) (fun _=>rfl) (fun _ _=>trivial)
theorem rd_Link:Rd enc Tryz.prog W I L μ N 161 Link.av (fun _=>True):=
 rd_struct hb Tryz.underlying161 (len:=4) (by kernel_rfl) (rdCells_cons rfl (k:=1) (by kernel_rfl) (rd_int Tryz.underlying3) (rdCells_cons rfl (k:=1) (by kernel_rfl) (rd_int Tryz.underlying3) (rdCells_cons rfl (k:=1) (by kernel_rfl) (rd_bool Tryz.underlying4) (rdCells_cons rfl (k:=1) (by kernel_rfl) (rd_int Tryz.underlying3) rdCells_nil)))) (fun x=>Link.mk x.1 x.2.1 x.2.2.1 x.2.2.2.1) (fun _=>rfl) (fun _ _=>trivial)
theorem rd_Mode:Rd enc Tryz.prog W I L μ N 273 Mode.av (fun _=>True):=
 rd_struct hb Tryz.underlying273 (len:=3) (by kernel_rfl) (rdCells_cons rfl (k:=1) (by kernel_rfl) (rd_int Tryz.underlying3) (rdCells_cons rfl (k:=1) (by kernel_rfl) (rd_slice hb hNL hI Tryz.underlying25 (e:=3) (sz:=1) (by kernel_rfl) (by decide) (f:=(fun n=>AV.int .i64 n)) (fun _=>rfl) (rd_int Tryz.underlying3)) (rdCells_cons rfl (k:=1) (by kernel_rfl) (rd_slice hb hNL hI Tryz.underlying25 (e:=3) (sz:=1) (by kernel_rfl) (by decide) (f:=(fun n=>AV.int .i64 n)) (fun _=>rfl) (rd_int Tryz.underlying3)) rdCells_nil))) (fun x=>Mode.mk x.1 x.2.1 x.2.2.1) (fun _=>rfl) (fun _ _=>trivial)
theorem rd_Activity:Rd enc Tryz.prog W I L μ N 134 Activ.av (fun x=>x.name.size≤N):=
 rd_struct hb Tryz.underlying134 (len:=3) (by kernel_rfl) (rdCells_cons rfl (k:=1) (by kernel_rfl) (rd_str hb Tryz.underlying9) (rdCells_cons rfl (k:=1) (by kernel_rfl) (rd_int Tryz.underlying3) (rdCells_cons rfl (k:=1) (by kernel_rfl) (rd_slice hb hNL hI Tryz.underlying132 (e:=273) (sz:=3) (by kernel_rfl) (by decide) (f:=Mode.av) (fun _=>rfl) (rd_Mode hb hNL hI)) rdCells_nil))) (fun x=>Activ.mk x.1 x.2.1 x.2.2.1) (fun _=>rfl) (fun _ h=>h.1)
theorem rd_Project:Rd enc Tryz.prog W I L μ N 27 Proj.av (fun x=>∀a∈x.acts,a.name.size≤N):=
 rd_struct hb Tryz.underlying27 (len:=5) (by kernel_rfl) (rdCells_cons rfl (k:=1) (by kernel_rfl) (rd_int Tryz.underlying3) (rdCells_cons rfl (k:=1) (by kernel_rfl) (rd_slice hb hNL hI Tryz.underlying22 (e:=134) (sz:=3) (by kernel_rfl) (by decide) (f:=Activ.av) (fun _=>rfl) (rd_Activity hb hNL hI)) (rdCells_cons rfl (k:=1) (by kernel_rfl) (rd_slice hb hNL hI Tryz.underlying23 (e:=161) (sz:=4) (by kernel_rfl) (by decide) (f:=Link.av) (fun _=>rfl) (rd_Link hb hNL hI)) (rdCells_cons rfl (k:=1) (by kernel_rfl) (rd_slice hb hNL hI Tryz.underlying24 (e:=138) (sz:=2) (by kernel_rfl) (by decide) (f:=Resrc.av) (fun _=>rfl) (rd_Resource hb hNL hI)) (rdCells_cons rfl (k:=1) (by kernel_rfl) (rd_slice hb hNL hI Tryz.underlying25 (e:=3) (sz:=1) (by kernel_rfl) (by decide) (f:=(fun n=>AV.int .i64 n)) (fun _=>rfl) (rd_int Tryz.underlying3)) rdCells_nil))))) (fun x=>Proj.mk x.1 x.2.1 x.2.2.1 x.2.2.2.1 x.2.2.2.2.1) (fun _=>rfl) (fun _ h=>h.2.1.2)
theorem rd_Log:Rd enc Tryz.prog W I L μ N 57 Lg.av (fun x=>∀a∈x.proj.acts,a.name.size≤N):=
 rd_struct hb Tryz.underlying57 (len:=10) (by kernel_rfl) (rdCells_cons rfl (k:=5) (by kernel_rfl) (rd_Project hb hNL hI) (rdCells_cons rfl (k:=3) (by kernel_rfl) (rd_Domain hb hNL hI) (rdCells_cons rfl (k:=1) (by kernel_rfl) (rd_slice hb hNL hI Tryz.underlying54 (e:=59) (sz:=3) (by kernel_rfl) (by decide) (f:=Lit.av) (fun _=>rfl) (rd_Literal hb hNL hI)) (rdCells_cons rfl (k:=1) (by kernel_rfl) (rd_slice hb hNL hI Tryz.underlying55 (e:=177) (sz:=6) (by kernel_rfl) (by decide) (f:=Lin.av) (fun _=>rfl) (rd_Line hb hNL hI)) rdCells_nil)))) (fun x=>Lg.mk x.1 x.2.1 x.2.2.1 x.2.2.2.1) (fun _=>rfl) (fun _ h=>h.1)
end
end Go.Proofs.YtfhojdalheinaaaGreat.Abs
