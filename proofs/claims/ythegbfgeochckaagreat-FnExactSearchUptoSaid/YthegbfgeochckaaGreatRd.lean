/- Part of a proof. -/
import Derived.Test.YthegbfgeochckaaGreatPlain
import Derived.Test.YthegbfgeochckaaGreatTab
import Derived.Test.YthegbfgeochckaaGreatLayA
set_option linter.all false
set_option maxRecDepth 20000
namespace Go.Proofs.YthegbfgeochckaaGreat.Abs
open Go.Proofs Go.ChangeShapes Go.WideShapes Go.RowKit
section
variable {H:Type} {enc:TypeId×Value->H} {W:World} {I:Nat->Prop} {L:Nat} {μ:DataW H->Nat} {N:Nat}
variable (hb:adx μ) (hNL:N<=L) (hI:∀b o v,W.cell? ⟨b,o,none⟩=some v->I b)
include hb hNL hI
theorem QA:Rd enc Tryz.prog W I L μ N 127 Lit.av (fun _=>True):=
 mD hb Tryz.underlying127 (len:=3) (by kernel_rfl) (aN rfl (k:=1) (by kernel_rfl) (jW Tryz.underlying3) (aN rfl (k:=1) (by kernel_rfl) (jW Tryz.underlying3) (aN rfl (k:=1) (by kernel_rfl) (jW Tryz.underlying3) jf))) (fun x=>Lit.mk x.1 x.2.1 x.2.2.1) (fun _=>rfl) (fun _ _=>trivial)
theorem afm:Rd enc Tryz.prog W I L μ N 96 Rul.av (fun _=>True):=
 mD hb Tryz.underlying96 (len:=4) (by kernel_rfl) (aN rfl (k:=1) (by kernel_rfl) (jW Tryz.underlying3) (aN rfl (k:=1) (by kernel_rfl) (jW Tryz.underlying3) (aN rfl (k:=1) (by kernel_rfl) (jW Tryz.underlying3) (aN rfl (k:=1) (by kernel_rfl) (jW Tryz.underlying3) jf)))) (fun x=>Rul.mk x.1 x.2.1 x.2.2.1 x.2.2.2.1) (fun _=>rfl) (fun _ _=>trivial)
theorem afn:Rd enc Tryz.prog W I L μ N 98 Lin.av (fun _=>True):=
 mD hb Tryz.underlying98 (len:=6) (by kernel_rfl) (aN rfl (k:=1) (by kernel_rfl) (jW Tryz.underlying3) (aN rfl (k:=4) (by kernel_rfl) (afm hb hNL hI) (aN rfl (k:=1) (by kernel_rfl) (je hb hNL hI Tryz.underlying31 (e:=127) (sz:=3) (by kernel_rfl) (by decide) (f:=Lit.av) (fun _=>rfl) (QA hb hNL hI)) jf))) (fun x=>Lin.mk x.1 x.2.1 x.2.2.1) (fun _=>rfl) (fun _ _=>trivial)
theorem acz:Rd enc Tryz.prog W I L μ N 30 Dom.av (fun _=>True):=
 mD hb Tryz.underlying30 (len:=3) (by kernel_rfl) (aN rfl (k:=1) (by kernel_rfl) (je hb hNL hI Tryz.underlying25 (e:=3) (sz:=1) (by kernel_rfl) (by decide) (f:=(fun n=>AV.int .i64 n)) (fun _=>rfl) (jW Tryz.underlying3)) (aN rfl (k:=1) (by kernel_rfl) (je hb hNL hI Tryz.underlying25 (e:=3) (sz:=1) (by kernel_rfl) (by decide) (f:=(fun n=>AV.int .i64 n)) (fun _=>rfl) (jW Tryz.underlying3)) (aN rfl (k:=1) (by kernel_rfl) (je hb hNL hI Tryz.underlying28 (e:=25) (sz:=1) (by kernel_rfl) (by decide) (f:=(fun l=>AV.sl (l.map (fun n=>AV.int .i64 n)))) (fun _=>rfl) (je hb hNL hI Tryz.underlying25 (e:=3) (sz:=1) (by kernel_rfl) (by decide) (f:=(fun n=>AV.int .i64 n)) (fun _=>rfl) (jW Tryz.underlying3))) jf))) (fun x=>Dom.mk x.1 x.2.1 x.2.2.1) (fun _=>rfl) (fun _ _=>trivial)
theorem afo:Rd enc Tryz.prog W I L μ N 284 Step.av (fun _=>True):=
 mD hb Tryz.underlying284 (len:=2) (by kernel_rfl) (aN rfl (k:=1) (by kernel_rfl) (jW Tryz.underlying3) (aN rfl (k:=1) (by kernel_rfl) (jW Tryz.underlying3) jf)) (fun x=>Step.mk x.1 x.2.1) (fun _=>rfl) (fun _ _=>trivial)
theorem YL:Rd enc Tryz.prog W I L μ N 162 aK.av (fun _=>True):=
 mD hb Tryz.underlying162 (len:=2) (by kernel_rfl) (aN rfl (k:=1) (by kernel_rfl) (je hb hNL hI Tryz.underlying160 (e:=284) (sz:=2) (by kernel_rfl) (by decide) (f:=Step.av) (fun _=>rfl) (afo hb hNL hI)) (aN rfl (k:=1) (by kernel_rfl) (je hb hNL hI Tryz.underlying28 (e:=25) (sz:=1) (by kernel_rfl) (by decide) (f:=(fun l=>AV.sl (l.map (fun n=>AV.int .i64 n)))) (fun _=>rfl) (je hb hNL hI Tryz.underlying25 (e:=3) (sz:=1) (by kernel_rfl) (by decide) (f:=(fun n=>AV.int .i64 n)) (fun _=>rfl) (jW Tryz.underlying3))) jf)) (fun x=>aK.mk x.1 x.2.1) (fun _=>rfl) (fun _ _=>trivial)
theorem afp:Rd enc Tryz.prog W I L μ N 196 Link.av (fun _=>True):=
 mD hb Tryz.underlying196 (len:=4) (by kernel_rfl) (aN rfl (k:=1) (by kernel_rfl) (jW Tryz.underlying3) (aN rfl (k:=1) (by kernel_rfl) (jW Tryz.underlying3) (aN rfl (k:=1) (by kernel_rfl) (aeK Tryz.underlying4) (aN rfl (k:=1) (by kernel_rfl) (jW Tryz.underlying3) jf)))) (fun x=>Link.mk x.1 x.2.1 x.2.2.1 x.2.2.2.1) (fun _=>rfl) (fun _ _=>trivial)
theorem afq:Rd enc Tryz.prog W I L μ N 267 Mode.av (fun _=>True):=
 mD hb Tryz.underlying267 (len:=3) (by kernel_rfl) (aN rfl (k:=1) (by kernel_rfl) (jW Tryz.underlying3) (aN rfl (k:=1) (by kernel_rfl) (je hb hNL hI Tryz.underlying25 (e:=3) (sz:=1) (by kernel_rfl) (by decide) (f:=(fun n=>AV.int .i64 n)) (fun _=>rfl) (jW Tryz.underlying3)) (aN rfl (k:=1) (by kernel_rfl) (je hb hNL hI Tryz.underlying25 (e:=3) (sz:=1) (by kernel_rfl) (by decide) (f:=(fun n=>AV.int .i64 n)) (fun _=>rfl) (jW Tryz.underlying3)) jf))) (fun x=>Mode.mk x.1 x.2.1 x.2.2.1) (fun _=>rfl) (fun _ _=>trivial)
theorem YM:Rd enc Tryz.prog W I L μ N 158 aB.av (fun x=>x.name.size<=N):=
 mD hb Tryz.underlying158 (len:=3) (by kernel_rfl) (aN rfl (k:=1) (by kernel_rfl) (agt hb Tryz.underlying9) (aN rfl (k:=1) (by kernel_rfl) (jW Tryz.underlying3) (aN rfl (k:=1) (by kernel_rfl) (je hb hNL hI Tryz.underlying156 (e:=267) (sz:=3) (by kernel_rfl) (by decide) (f:=Mode.av) (fun _=>rfl) (afq hb hNL hI)) jf))) (fun x=>aB.mk x.1 x.2.1 x.2.2.1) (fun _=>rfl) (fun _ h=>h.1)
theorem aal:Rd enc Tryz.prog W I L μ N 27 Proj.av (fun x=>∀a∈x.acts,a.name.size<=N):=
 mD hb Tryz.underlying27 (len:=5) (by kernel_rfl) (aN rfl (k:=1) (by kernel_rfl) (jW Tryz.underlying3) (aN rfl (k:=1) (by kernel_rfl) (je hb hNL hI Tryz.underlying22 (e:=158) (sz:=3) (by kernel_rfl) (by decide) (f:=aB.av) (fun _=>rfl) (YM hb hNL hI)) (aN rfl (k:=1) (by kernel_rfl) (je hb hNL hI Tryz.underlying23 (e:=196) (sz:=4) (by kernel_rfl) (by decide) (f:=Link.av) (fun _=>rfl) (afp hb hNL hI)) (aN rfl (k:=1) (by kernel_rfl) (je hb hNL hI Tryz.underlying24 (e:=162) (sz:=2) (by kernel_rfl) (by decide) (f:=aK.av) (fun _=>rfl) (YL hb hNL hI)) (aN rfl (k:=1) (by kernel_rfl) (je hb hNL hI Tryz.underlying25 (e:=3) (sz:=1) (by kernel_rfl) (by decide) (f:=(fun n=>AV.int .i64 n)) (fun _=>rfl) (jW Tryz.underlying3)) jf))))) (fun x=>Proj.mk x.1 x.2.1 x.2.2.1 x.2.2.2.1 x.2.2.2.2.1) (fun _=>rfl) (fun _ h=>h.2.1.2)
theorem agS:Rd enc Tryz.prog W I L μ N 34 Lg.av (fun x=>∀a∈x.proj.acts,a.name.size<=N):=
 mD hb Tryz.underlying34 (len:=10) (by kernel_rfl) (aN rfl (k:=5) (by kernel_rfl) (aal hb hNL hI) (aN rfl (k:=3) (by kernel_rfl) (acz hb hNL hI) (aN rfl (k:=1) (by kernel_rfl) (je hb hNL hI Tryz.underlying31 (e:=127) (sz:=3) (by kernel_rfl) (by decide) (f:=Lit.av) (fun _=>rfl) (QA hb hNL hI)) (aN rfl (k:=1) (by kernel_rfl) (je hb hNL hI Tryz.underlying32 (e:=98) (sz:=6) (by kernel_rfl) (by decide) (f:=Lin.av) (fun _=>rfl) (afn hb hNL hI)) jf)))) (fun x=>Lg.mk x.1 x.2.1 x.2.2.1 x.2.2.2.1) (fun _=>rfl) (fun _ h=>h.1)
end
end Go.Proofs.YthegbfgeochckaaGreat.Abs
