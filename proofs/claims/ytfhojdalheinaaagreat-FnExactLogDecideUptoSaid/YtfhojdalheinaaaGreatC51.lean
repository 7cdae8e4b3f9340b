/- Contracts: logs as separate data: decisions. No statement of a claim. -/
import Derived.Test.YtfhojdalheinaaaGreatLg
import Derived.Test.YtfhojdalheinaaaGreatC15
set_option linter.all false
set_option linter.unusedVariables false
set_option linter.unusedSimpArgs false
set_option maxRecDepth 20000
set_option maxHeartbeats 40000000
namespace Go.Proofs.YtfhojdalheinaaaGreat.Abs
open Go.Proofs Go.RowKit
attribute [local irreducible] firstInf findRef checkLine status litValue
def RLogL (o:Option Lg):RV:=.tup [RLgL (o.getD noLog),.d (.bool o.isSome)]
theorem RLogL_some (h:Lg):RLogL (some h)= .tup [RLgL h,.d (.bool true)]:=rfl
theorem RLogL_none:RLogL none= .tup [RLgL noLog,.d (.bool false)]:=rfl
def decOk (g:Lg) (l:Lit):Bool:=logOk g&&(litOk g.proj l&& !decide ((g.decs.length:Int)=20))
def decLog (g:Lg) (l:Lit):Option Lg:=if decOk g l=true then some ⟨g.proj,restrict g.dom l,g.decs++[l],g.lines⟩ else none
theorem decOk_parts {g:Lg} {l:Lit} (h:decOk g l=true):logOk g=true∧litOk g.proj l=true∧¬(g.decs.length:Int)=20:=by
 simpa [decOk] using h
theorem logOk_decs {g:Lg} (h:logOk g=true):g.decs.length≤20:=by
 simp only [logOk,Bool.and_eq_true,Bool.not_eq_true',decide_eq_false_iff_not] at h
 omega
theorem logOk_form {g:Lg} (h:logOk g=true):domForm g.proj g.dom=true:=by
 simp only [logOk,Bool.and_eq_true] at h
 exact h.1.1.1.1.2
theorem impl_LogDecide (g:Lg) (l:Lit) (hp:g.proj.fine):Con 23 [.d g.av,.d l.av] (RLogL (decLog g l)):=by
 refine con Tryz.func23 rfl rfl Tryz.call23 rfl fun hwf=>?_
 simp only [ARs.wf,AR.wf,AV.wf,AV.wfs,List.length_map,lim] at hwf
 have hO:=impl_LogOk g hp
 have hT:=impl_LiteralOk g.proj l hp
 by_cases hd:decOk g l=true
 ·obtain⟨h1,h2,h3⟩:=decOk_parts hd
  have h4:=logOk_decs h1
  rw [h1] at hO
  rw [h2] at hT
  rw [decLog,if_pos hd,RLogL_some]
  (repeat' ((conv=>whnf);first | with_reducible refine Br.no (decide_eq_false (by simp only [lm];omega)) ?_ | refine gA ?_ | (refine gB ?_ ?_ <;> intro h) | refine gP ?_ | refine gC (hO) ?_ | refine gC (hT) ?_ | refine gC (impl_copiedLg g) ?_ | refine gC (impl_Restrict_lin g.dom l) ?_ | intro _)) <;> try (conv=>whnf)
  (repeat' ((conv=>whnf) <;> (first | exact trivial | exact VC.nod (by kernel_rfl) | refine VC.mk (by first | with_reducible rfl | (simp;done) | rfl) ?_)))
 ·rw [decLog,if_neg hd,RLogL_none]
  (repeat' ((conv=>whnf);first | refine gA ?_ | (refine gB ?_ ?_ <;> intro h) | refine gP ?_ | refine gC (hO) ?_ | refine gC (hT) ?_ | intro _)) <;> try (conv=>whnf)
  all_goals first
   | (exfalso;simp_all [decOk];done)
   | (repeat' ((conv=>whnf) <;> (first | exact trivial | exact VC.nod (by kernel_rfl) | refine VC.mk rfl ?_)))
def RLgQ (g:Lg):RV:=.agg [.d (i64 g.proj.dead),.d (.sl (g.proj.acts.map Activ.av)),.d (.sl (g.proj.links.map Link.av)),.d (.sl (g.proj.ress.map Resrc.av)),.d (ints g.proj.stocks),.d (ints g.dom.lo),.d (ints g.dom.hi),.d (.sl (g.dom.modes.map ints)),.own 69 (g.decs.map Lit.av),.d (.sl (g.lines.map Lin.av))]
theorem spec_l22CopyQ (g:Lg):Con 91 [.d g.av] (RLgQ g):=by
 refine con Tryz.func91 rfl rfl Tryz.call91 rfl fun hwf=>?_
 simp only [ARs.wf,AR.wf,AV.wf,AV.wfs,List.length_map,lim] at hwf
 (repeat' ((conv=>whnf);first | refine gA ?_ | (refine gB ?_ ?_ <;> intro h) | refine gP ?_ | refine gC (spec_l05Copy g.proj) ?_ | refine gC (spec_l12Copy g.dom) ?_ | refine gC (spec_l20Lines g.lines) ?_ | intro _)) <;> try (conv=>whnf)
 (repeat' ((conv=>whnf) <;> (first | exact trivial | exact VC.nod (by kernel_rfl) | refine VC.mk (by first | with_reducible rfl | (simp;done) | rfl) ?_)))
theorem spec_l22Pick (g:Lg) (l:Lit) (hp:g.proj.fine) (ho:logOk g=true):Con 70 [.d g.av,.d l.av] (RLogD (decLog g l)):=by
 refine con Tryz.func70 rfl rfl Tryz.call70 rfl fun hwf=>?_
 simp only [ARs.wf,AR.wf,AV.wf,AV.wfs,List.length_map,lim] at hwf
 have hT:=spec_LiteralOk g.proj l hp
 have hX:=spec_Restrict g.dom l (fun m h=>domForm_setOk' (logOk_form ho) h)
 by_cases hd:decOk g l=true
 ·obtain⟨h1,h2,h3⟩:=decOk_parts hd
  have h4:=logOk_decs h1
  rw [h2] at hT
  rw [decLog,if_pos hd,RLogD_some]
  (repeat' ((conv=>whnf);first | with_reducible refine Br.no (decide_eq_false (by simp only [lm];omega)) ?_ | refine gA ?_ | (refine gB ?_ ?_ <;> intro h) | refine gP ?_ | refine gC (hT) ?_ | refine gC (spec_l22CopyQ g) ?_ | refine gC (hX) ?_ | intro _)) <;> try (conv=>whnf)
  (repeat' ((conv=>whnf) <;> (first | exact trivial | exact VC.nod (by kernel_rfl) | refine VC.mk (by first | with_reducible rfl | (simp;done) | rfl) ?_)))
 ·rw [decLog,if_neg hd]
  (repeat' ((conv=>whnf);first | refine gA ?_ | (refine gB ?_ ?_ <;> intro h) | refine gP ?_ | refine gC (hT) ?_ | intro _)) <;> try (conv=>whnf)
  all_goals first
   | (exfalso;simp_all [decOk];done)
   | (repeat' ((conv=>whnf) <;> (first | exact trivial | exact VC.nod (by kernel_rfl) | refine VC.mk rfl ?_)))
theorem spec_LogDecide (g:Lg) (l:Lit) (hp:g.proj.fine):Con 20 [.d g.av,.d l.av] (RLogD (decLog g l)):=by
 refine con Tryz.func20 rfl rfl Tryz.call20 rfl fun hwf=>?_
 have hO:=spec_LogOk g hp
 cases ho:logOk g with
 | true=>
  rw [ho] at hO
  (repeat' ((conv=>whnf);first | refine gA ?_ | (refine gB ?_ ?_ <;> intro h) | refine gC (hO) ?_ | refine gC (spec_l22Pick g l hp ho) ?_ | intro _)) <;> try (conv=>whnf)
  (repeat' ((conv=>whnf) <;> (first | exact trivial | exact VC.nod (by kernel_rfl) | refine VC.mk rfl ?_)))
 | false=>
  rw [ho] at hO
  rw [decLog,if_neg (by simp [decOk,ho])]
  (repeat' ((conv=>whnf);first | refine gA ?_ | (refine gB ?_ ?_ <;> intro h) | refine gC (hO) ?_ | intro _)) <;> try (conv=>whnf)
  (repeat' ((conv=>whnf) <;> (first | exact trivial | exact VC.nod (by kernel_rfl) | refine VC.mk rfl ?_)))
end Go.Proofs.YtfhojdalheinaaaGreat.Abs
