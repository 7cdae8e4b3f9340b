/- Part of a proof. -/
import Derived.Test.YthegbfgeochckaaGreatLg
import Derived.Test.YthegbfgeochckaaGreatC15
set_option linter.all false
set_option maxRecDepth 20000
set_option maxHeartbeats 0
namespace Go.Proofs.YthegbfgeochckaaGreat.Abs
open Go.Proofs Go.RowKit
attribute [local irreducible] dS eu aO status litValue
theorem PU {g:Lg} (h:wJ g=true):g.decs.length<=20:=by
 simp only [wJ,Bool.and_eq_true,Bool.not_eq_true',decide_eq_false_iff_not] at h
 omega
def ajI (g:Lg):RV:=.agg [.d (i64 g.proj.dead),.d (.sl (g.proj.acts.map aB.av)),.d (.sl (g.proj.links.map Link.av)),.d (.sl (g.proj.aS.map aK.av)),.d (ints g.proj.aH),.d (ints g.dom.lo),.d (ints g.dom.hi),.d (.sl (g.dom.modes.map ints)),.own 102 (g.decs.map Lit.av),.d (.sl (g.lines.map Lin.av))]
theorem Rj (g:Lg):Con 20 [.d g.av] (ajI g):=by
 refine con Tryz.func20 rfl rfl Tryz.call20 rfl fun hwf=>?_
 simp only [ARs.wf,AR.wf,AV.wf,AV.wfs,lm,lim] at hwf
 (repeat' ((conv=>whnf);first|refine gAP ?_|refine gC (Jc g.proj) ?_|refine gC (mP g.dom) ?_|refine gC (FJ g.lines) ?_|intro _))<;>try (conv=>whnf)
 (repeat' ((conv=>whnf)<;>(first|exact trivial|exact VC.nod (by kernel_rfl)|refine VC.mk (by first|with_reducible rfl|(simp;done)|rfl) ?_)))
end Go.Proofs.YthegbfgeochckaaGreat.Abs
