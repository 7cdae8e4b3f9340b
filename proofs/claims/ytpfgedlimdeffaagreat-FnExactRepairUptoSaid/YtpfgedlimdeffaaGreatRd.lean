/- How the arguments of the laws read. Printed by genread.py. -/
import Derived.Test.YtpfgedlimdeffaaGreatPlain
import Derived.Test.YtpfgedlimdeffaaGreatTab
import Derived.Test.YtpfgedlimdeffaaGreatLayA
import Derived.Test.YtpfgedlimdeffaaGreatDl
set_option linter.all false
set_option maxRecDepth 20000
namespace Go.Proofs.YtpfgedlimdeffaaGreat.Abs
open Go.Proofs Go.ChangeShapes Go.WideShapes Go.RowKit
section
variable {H:Type} {enc:TypeId×Value→H} {W:World} {I:Nat→Prop} {L:Nat} {μ:DataW H→Nat} {N:Nat}
variable (hb:Tv μ) (hNL:N≤L) (hI:∀b o v,W.cell? ⟨b,o,none⟩=some v→I b)
include hb hNL hI
theorem VK:Rd enc Tryz.prog W I L μ N 170 Step.av (fun _=>True):=
 kY hb Tryz.underlying170 (len:=2) (by kernel_rfl) (aO rfl (k:=1) (by kernel_rfl) (jC Tryz.underlying3) (aO rfl (k:=1) (by kernel_rfl) (jC Tryz.underlying3) iY)) (fun x=>Step.mk x.1 x.2.1) (fun _=>rfl) (fun _ _=>trivial)
theorem Oc:Rd enc Tryz.prog W I L μ N 91 aP.av (fun _=>True):=
 kY hb Tryz.underlying91 (len:=2) (by kernel_rfl) (aO rfl (k:=1) (by kernel_rfl) (jk hb hNL hI Tryz.underlying88 (e:=170) (sz:=2) (by kernel_rfl) (by decide) (f:=Step.av) (fun _=>rfl) (VK hb hNL hI)) (aO rfl (k:=1) (by kernel_rfl) (jk hb hNL hI Tryz.underlying89 (e:=25) (sz:=1) (by kernel_rfl) (by decide) (f:=(fun l=>AV.sl (l.map (fun n=>AV.int .i64 n)))) (fun _=>rfl) (jk hb hNL hI Tryz.underlying25 (e:=3) (sz:=1) (by kernel_rfl) (by decide) (f:=(fun n=>AV.int .i64 n)) (fun _=>rfl) (jC Tryz.underlying3))) iY)) (fun x=>aP.mk x.1 x.2.1) (fun _=>rfl) (fun _ _=>trivial)
theorem VL:Rd enc Tryz.prog W I L μ N 114 Link.av (fun _=>True):=
 kY hb Tryz.underlying114 (len:=4) (by kernel_rfl) (aO rfl (k:=1) (by kernel_rfl) (jC Tryz.underlying3) (aO rfl (k:=1) (by kernel_rfl) (jC Tryz.underlying3) (aO rfl (k:=1) (by kernel_rfl) (Vl Tryz.underlying4) (aO rfl (k:=1) (by kernel_rfl) (jC Tryz.underlying3) iY)))) (fun x=>Link.mk x.1 x.2.1 x.2.2.1 x.2.2.2.1) (fun _=>rfl) (fun _ _=>trivial)
theorem VN:Rd enc Tryz.prog W I L μ N 159 Mode.av (fun _=>True):=
 kY hb Tryz.underlying159 (len:=3) (by kernel_rfl) (aO rfl (k:=1) (by kernel_rfl) (jC Tryz.underlying3) (aO rfl (k:=1) (by kernel_rfl) (jk hb hNL hI Tryz.underlying25 (e:=3) (sz:=1) (by kernel_rfl) (by decide) (f:=(fun n=>AV.int .i64 n)) (fun _=>rfl) (jC Tryz.underlying3)) (aO rfl (k:=1) (by kernel_rfl) (jk hb hNL hI Tryz.underlying25 (e:=3) (sz:=1) (by kernel_rfl) (by decide) (f:=(fun n=>AV.int .i64 n)) (fun _=>rfl) (jC Tryz.underlying3)) iY))) (fun x=>Mode.mk x.1 x.2.1 x.2.2.1) (fun _=>rfl) (fun _ _=>trivial)
theorem Od:Rd enc Tryz.prog W I L μ N 86 au.av (fun x=>x.name.size≤N):=
 kY hb Tryz.underlying86 (len:=3) (by kernel_rfl) (aO rfl (k:=1) (by kernel_rfl) (Xa hb Tryz.underlying9) (aO rfl (k:=1) (by kernel_rfl) (jC Tryz.underlying3) (aO rfl (k:=1) (by kernel_rfl) (jk hb hNL hI Tryz.underlying84 (e:=159) (sz:=3) (by kernel_rfl) (by decide) (f:=Mode.av) (fun _=>rfl) (VN hb hNL hI)) iY))) (fun x=>au.mk x.1 x.2.1 x.2.2.1) (fun _=>rfl) (fun _ h=>h.1)
theorem PK:Rd enc Tryz.prog W I L μ N 27 Proj.av (fun x=>∀a∈x.acts,a.name.size≤N):=
 kY hb Tryz.underlying27 (len:=5) (by kernel_rfl) (aO rfl (k:=1) (by kernel_rfl) (jC Tryz.underlying3) (aO rfl (k:=1) (by kernel_rfl) (jk hb hNL hI Tryz.underlying22 (e:=86) (sz:=3) (by kernel_rfl) (by decide) (f:=au.av) (fun _=>rfl) (Od hb hNL hI)) (aO rfl (k:=1) (by kernel_rfl) (jk hb hNL hI Tryz.underlying23 (e:=114) (sz:=4) (by kernel_rfl) (by decide) (f:=Link.av) (fun _=>rfl) (VL hb hNL hI)) (aO rfl (k:=1) (by kernel_rfl) (jk hb hNL hI Tryz.underlying24 (e:=91) (sz:=2) (by kernel_rfl) (by decide) (f:=aP.av) (fun _=>rfl) (Oc hb hNL hI)) (aO rfl (k:=1) (by kernel_rfl) (jk hb hNL hI Tryz.underlying25 (e:=3) (sz:=1) (by kernel_rfl) (by decide) (f:=(fun n=>AV.int .i64 n)) (fun _=>rfl) (jC Tryz.underlying3)) iY))))) (fun x=>Proj.mk x.1 x.2.1 x.2.2.1 x.2.2.2.1 x.2.2.2.2.1) (fun _=>rfl) (fun _ h=>h.2.1.2)
theorem Oe:Rd enc Tryz.prog W I L μ N 29 aA.av (fun _=>True):=
 kY hb Tryz.underlying29 (len:=2) (by kernel_rfl) (aO rfl (k:=1) (by kernel_rfl) (jk hb hNL hI Tryz.underlying25 (e:=3) (sz:=1) (by kernel_rfl) (by decide) (f:=(fun n=>AV.int .i64 n)) (fun _=>rfl) (jC Tryz.underlying3)) (aO rfl (k:=1) (by kernel_rfl) (jk hb hNL hI Tryz.underlying25 (e:=3) (sz:=1) (by kernel_rfl) (by decide) (f:=(fun n=>AV.int .i64 n)) (fun _=>rfl) (jC Tryz.underlying3)) iY)) (fun x=>aA.mk x.1 x.2.1) (fun _=>rfl) (fun _ _=>trivial)
theorem Ux:Rd enc Tryz.prog W I L μ N 31 Dly.av (fun _=>True):=
 kY hb Tryz.underlying31 (len:=4) (by kernel_rfl) (aO rfl (k:=1) (by kernel_rfl) (jC Tryz.underlying3) (aO rfl (k:=1) (by kernel_rfl) (jC Tryz.underlying3) (aO rfl (k:=1) (by kernel_rfl) (jC Tryz.underlying3) (aO rfl (k:=1) (by kernel_rfl) (jC Tryz.underlying3) iY)))) (fun x=>Dly.mk x.1 x.2.1 x.2.2.1 x.2.2.2.1) (fun _=>rfl) (fun _ _=>trivial)
end
end Go.Proofs.YtpfgedlimdeffaaGreat.Abs
