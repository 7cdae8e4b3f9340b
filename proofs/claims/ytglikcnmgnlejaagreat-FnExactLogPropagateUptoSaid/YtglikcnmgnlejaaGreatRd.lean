/- How the arguments of the laws read. Printed by genread.py. -/
import Derived.Test.YtglikcnmgnlejaaGreatPlain
import Derived.Test.YtglikcnmgnlejaaGreatTab
import Derived.Test.YtglikcnmgnlejaaGreatLayA
set_option linter.all false
set_option maxRecDepth 20000
namespace Go.Proofs.YtglikcnmgnlejaaGreat.Abs
open Go.Proofs Go.ChangeShapes Go.WideShapes Go.RowKit
section
variable {H:Type} {enc:TypeId×Value→H} {W:World} {I:Nat→Prop} {L:Nat} {μ:DataW H→Nat} {N:Nat}
variable (hb:ZE μ) (hNL:N≤L) (hI:∀b o v,W.cell? ⟨b,o,none⟩=some v→I b)
include hb hNL hI
theorem MS:Rd enc Tryz.prog W I L μ N 210 Lit.av (fun _=>True):=
 kP hb Tryz.underlying210 (len:=3) (by kernel_rfl) (aJ rfl (k:=1) (by kernel_rfl) (jg Tryz.underlying3) (aJ rfl (k:=1) (by kernel_rfl) (jg Tryz.underlying3) (aJ rfl (k:=1) (by kernel_rfl) (jg Tryz.underlying3) iE))) (fun x=>Lit.mk x.1 x.2.1 x.2.2.1) (fun _=>rfl) (fun _ _=>trivial)
theorem abu:Rd enc Tryz.prog W I L μ N 185 Rul.av (fun _=>True):=
 kP hb Tryz.underlying185 (len:=4) (by kernel_rfl) (aJ rfl (k:=1) (by kernel_rfl) (jg Tryz.underlying3) (aJ rfl (k:=1) (by kernel_rfl) (jg Tryz.underlying3) (aJ rfl (k:=1) (by kernel_rfl) (jg Tryz.underlying3) (aJ rfl (k:=1) (by kernel_rfl) (jg Tryz.underlying3) iE)))) (fun x=>Rul.mk x.1 x.2.1 x.2.2.1 x.2.2.2.1) (fun _=>rfl) (fun _ _=>trivial)
theorem abv:Rd enc Tryz.prog W I L μ N 187 Lin.av (fun _=>True):=
 kP hb Tryz.underlying187 (len:=6) (by kernel_rfl) (aJ rfl (k:=1) (by kernel_rfl) (jg Tryz.underlying3) (aJ rfl (k:=4) (by kernel_rfl) (abu hb hNL hI) (aJ rfl (k:=1) (by kernel_rfl) (iD hb hNL hI Tryz.underlying56 (e:=210) (sz:=3) (by kernel_rfl) (by decide) (f:=Lit.av) (fun _=>rfl) (MS hb hNL hI)) iE))) (fun x=>Lin.mk x.1 x.2.1 x.2.2.1) (fun _=>rfl) (fun _ _=>trivial)
theorem YG:Rd enc Tryz.prog W I L μ N 55 Dom.av (fun _=>True):=
 kP hb Tryz.underlying55 (len:=3) (by kernel_rfl) (aJ rfl (k:=1) (by kernel_rfl) (iD hb hNL hI Tryz.underlying25 (e:=3) (sz:=1) (by kernel_rfl) (by decide) (f:=(fun n=>AV.int .i64 n)) (fun _=>rfl) (jg Tryz.underlying3)) (aJ rfl (k:=1) (by kernel_rfl) (iD hb hNL hI Tryz.underlying25 (e:=3) (sz:=1) (by kernel_rfl) (by decide) (f:=(fun n=>AV.int .i64 n)) (fun _=>rfl) (jg Tryz.underlying3)) (aJ rfl (k:=1) (by kernel_rfl) (iD hb hNL hI Tryz.underlying53 (e:=25) (sz:=1) (by kernel_rfl) (by decide) (f:=(fun l=>AV.sl (l.map (fun n=>AV.int .i64 n)))) (fun _=>rfl) (iD hb hNL hI Tryz.underlying25 (e:=3) (sz:=1) (by kernel_rfl) (by decide) (f:=(fun n=>AV.int .i64 n)) (fun _=>rfl) (jg Tryz.underlying3))) iE))) (fun x=>Dom.mk x.1 x.2.1 x.2.2.1) (fun _=>rfl) (fun _ _=>trivial)
theorem abw:Rd enc Tryz.prog W I L μ N 292 Step.av (fun _=>True):=
 kP hb Tryz.underlying292 (len:=2) (by kernel_rfl) (aJ rfl (k:=1) (by kernel_rfl) (jg Tryz.underlying3) (aJ rfl (k:=1) (by kernel_rfl) (jg Tryz.underlying3) iE)) (fun x=>Step.mk x.1 x.2.1) (fun _=>rfl) (fun _ _=>trivial)
theorem UU:Rd enc Tryz.prog W I L μ N 134 aL.av (fun _=>True):=
 kP hb Tryz.underlying134 (len:=2) (by kernel_rfl) (aJ rfl (k:=1) (by kernel_rfl) (iD hb hNL hI Tryz.underlying132 (e:=292) (sz:=2) (by kernel_rfl) (by decide) (f:=Step.av) (fun _=>rfl) (abw hb hNL hI)) (aJ rfl (k:=1) (by kernel_rfl) (iD hb hNL hI Tryz.underlying53 (e:=25) (sz:=1) (by kernel_rfl) (by decide) (f:=(fun l=>AV.sl (l.map (fun n=>AV.int .i64 n)))) (fun _=>rfl) (iD hb hNL hI Tryz.underlying25 (e:=3) (sz:=1) (by kernel_rfl) (by decide) (f:=(fun n=>AV.int .i64 n)) (fun _=>rfl) (jg Tryz.underlying3))) iE)) (fun x=>aL.mk x.1 x.2.1) (fun _=>rfl) (fun _ _=>trivial)
theorem abx:Rd enc Tryz.prog W I L μ N 157 Link.av (fun _=>True):=
 kP hb Tryz.underlying157 (len:=4) (by kernel_rfl) (aJ rfl (k:=1) (by kernel_rfl) (jg Tryz.underlying3) (aJ rfl (k:=1) (by kernel_rfl) (jg Tryz.underlying3) (aJ rfl (k:=1) (by kernel_rfl) (aaP Tryz.underlying4) (aJ rfl (k:=1) (by kernel_rfl) (jg Tryz.underlying3) iE)))) (fun x=>Link.mk x.1 x.2.1 x.2.2.1 x.2.2.2.1) (fun _=>rfl) (fun _ _=>trivial)
theorem aby:Rd enc Tryz.prog W I L μ N 284 Mode.av (fun _=>True):=
 kP hb Tryz.underlying284 (len:=3) (by kernel_rfl) (aJ rfl (k:=1) (by kernel_rfl) (jg Tryz.underlying3) (aJ rfl (k:=1) (by kernel_rfl) (iD hb hNL hI Tryz.underlying25 (e:=3) (sz:=1) (by kernel_rfl) (by decide) (f:=(fun n=>AV.int .i64 n)) (fun _=>rfl) (jg Tryz.underlying3)) (aJ rfl (k:=1) (by kernel_rfl) (iD hb hNL hI Tryz.underlying25 (e:=3) (sz:=1) (by kernel_rfl) (by decide) (f:=(fun n=>AV.int .i64 n)) (fun _=>rfl) (jg Tryz.underlying3)) iE))) (fun x=>Mode.mk x.1 x.2.1 x.2.2.1) (fun _=>rfl) (fun _ _=>trivial)
theorem UW:Rd enc Tryz.prog W I L μ N 130 aC.av (fun x=>x.name.size≤N):=
 kP hb Tryz.underlying130 (len:=3) (by kernel_rfl) (aJ rfl (k:=1) (by kernel_rfl) (acK hb Tryz.underlying9) (aJ rfl (k:=1) (by kernel_rfl) (jg Tryz.underlying3) (aJ rfl (k:=1) (by kernel_rfl) (iD hb hNL hI Tryz.underlying128 (e:=284) (sz:=3) (by kernel_rfl) (by decide) (f:=Mode.av) (fun _=>rfl) (aby hb hNL hI)) iE))) (fun x=>aC.mk x.1 x.2.1 x.2.2.1) (fun _=>rfl) (fun _ h=>h.1)
theorem Wz:Rd enc Tryz.prog W I L μ N 27 Proj.av (fun x=>∀a∈x.acts,a.name.size≤N):=
 kP hb Tryz.underlying27 (len:=5) (by kernel_rfl) (aJ rfl (k:=1) (by kernel_rfl) (jg Tryz.underlying3) (aJ rfl (k:=1) (by kernel_rfl) (iD hb hNL hI Tryz.underlying22 (e:=130) (sz:=3) (by kernel_rfl) (by decide) (f:=aC.av) (fun _=>rfl) (UW hb hNL hI)) (aJ rfl (k:=1) (by kernel_rfl) (iD hb hNL hI Tryz.underlying23 (e:=157) (sz:=4) (by kernel_rfl) (by decide) (f:=Link.av) (fun _=>rfl) (abx hb hNL hI)) (aJ rfl (k:=1) (by kernel_rfl) (iD hb hNL hI Tryz.underlying24 (e:=134) (sz:=2) (by kernel_rfl) (by decide) (f:=aL.av) (fun _=>rfl) (UU hb hNL hI)) (aJ rfl (k:=1) (by kernel_rfl) (iD hb hNL hI Tryz.underlying25 (e:=3) (sz:=1) (by kernel_rfl) (by decide) (f:=(fun n=>AV.int .i64 n)) (fun _=>rfl) (jg Tryz.underlying3)) iE))))) (fun x=>Proj.mk x.1 x.2.1 x.2.2.1 x.2.2.2.1 x.2.2.2.2.1) (fun _=>rfl) (fun _ h=>h.2.1.2)
theorem adj:Rd enc Tryz.prog W I L μ N 59 Lg.av (fun x=>∀a∈x.proj.acts,a.name.size≤N):=
 kP hb Tryz.underlying59 (len:=10) (by kernel_rfl) (aJ rfl (k:=5) (by kernel_rfl) (Wz hb hNL hI) (aJ rfl (k:=3) (by kernel_rfl) (YG hb hNL hI) (aJ rfl (k:=1) (by kernel_rfl) (iD hb hNL hI Tryz.underlying56 (e:=210) (sz:=3) (by kernel_rfl) (by decide) (f:=Lit.av) (fun _=>rfl) (MS hb hNL hI)) (aJ rfl (k:=1) (by kernel_rfl) (iD hb hNL hI Tryz.underlying57 (e:=187) (sz:=6) (by kernel_rfl) (by decide) (f:=Lin.av) (fun _=>rfl) (abv hb hNL hI)) iE)))) (fun x=>Lg.mk x.1 x.2.1 x.2.2.1 x.2.2.2.1) (fun _=>rfl) (fun _ h=>h.1)
end
end Go.Proofs.YtglikcnmgnlejaaGreat.Abs
