/- The law of LogDecide, phase by phase. No statement of a claim. -/
import Derived.Test.YtfhojdalheinaaaGreatC51
import Derived.Test.YtfhojdalheinaaaGreatLh
import Derived.Test.YtfhojdalheinaaaGreatLcl
import Derived.Test.YtfhojdalheinaaaGreatLayC
set_option linter.all false
set_option linter.unusedVariables false
set_option linter.unusedSimpArgs false
set_option maxRecDepth 20000
set_option maxHeartbeats 4000000
namespace Go.Proofs.YtfhojdalheinaaaGreat.Abs
open Go.Proofs Go.RowKit
theorem decLog_cnt (g:Lg) (l:Lit):((decLog g l).getD noLog).cnt≤g.cnt+3:=by
 have h0:=g.cnt_nn
 unfold decLog
 split
 ·have h1:=restrict_cnt g.dom l
  have e1:=cnt_lits g.decs
  have e2:=cnt_lits (g.decs++[l])
  simp only [Option.getD_some,List.length_append,List.length_cons,List.length_nil] at*
  unfold Lg.cnt at*
  dsimp only at*
  omega
 ·have:noLog.cnt=0:=rfl
  simp only [Option.getD_none];omega
theorem law_LogDecide (g:Lg) (l:Lit) (hp:g.proj.fine) (z0:0≤szLog g 1048576) (x:Lg) (ok:Bool) (hx:(decLog g l).getD noLog=x) (hn:(decLog g l).isSome=ok):
  LawLinB Tryz.prog tab lim Tryz.f4 (Tryz.f4.body.getD .skip) 5 1 3 3 [g.av,l.av] [(2,true,g.av),(3,true,l.av)] [(6,true,x.av),(7,false,.bool ok)] [(8,true,g.av)] [(10,false,.bool ok)] 9 12
   [.data (i64 x.proj.dead),.own 3600012 0,.own 3600013 0,.own 3600014 0,.own 3600015 0,.own 3600016 0,.own 3600017 0,.own 3600018 0,.own 3600019 0,.own 3600020 0] [(3600012,143,x.proj.acts.map Activ.av,2),(3600013,159,x.proj.links.map Link.av,2),(3600014,149,x.proj.ress.map Resrc.av,2),(3600015,3,x.proj.stocks.map i64,2),(3600016,3,x.dom.lo.map i64,2),(3600017,3,x.dom.hi.map i64,2),(3600018,25,x.dom.modes.map ints,2),(3600019,69,x.decs.map Lit.av,2),(3600020,189,x.lines.map Lin.av,2)]
   x.cellsOf (rowF cmLog x.cellsOf 1).1 (1+x.cnt) 25 65 (rowF cmLog) (okC okLog):=by
 have s0:Sz 1048576:=by unfold Sz;omega
 have m0:=szLog_m g _ z0
 have c0:=g.cnt_nn
 have c1:=x.cnt_nn
 have hc:x.cnt≤g.cnt+3:=by have:=decLog_cnt g l;rw [hx] at this;omega
 have hI:=impl_LogDecide g l hp
 have hS:=spec_LogDecide g l hp
 rw [RLogL,hx,hn] at hI
 rw [RLogD,hx,hn] at hS
 have hM:=cnt_Log x 1
 refine⟨⟨by simp,by simp⟩,⟨_,.data rfl (.own rfl (by decide) (.own rfl (by decide) (.own rfl (by decide) (.own rfl (by decide) (.own rfl (by decide) (.own rfl (by decide) (.own rfl (by decide) (.own rfl (by decide) (.own rfl (by decide) .nil)))))))))⟩,⟨by rfl,by rfl,by rfl⟩,?_,by simp [AV.scalar],by kernel_rfl,by kernel_rfl,by kernel_rfl,by kernel_rfl,?_,?_,?_,?_,⟨sem_Log,ok_Log x,Prod.ext rfl hM,by omega⟩,?_⟩
 ·intro y hy
  simp only [List.mem_append,List.mem_cons,List.not_mem_nil,or_false] at hy
  rcases hy with (rfl | rfl) | (rfl | rfl)
  ·exact Lg_md g
  ·exact Lit_md l
  ·exact Lg_md x
  ·rfl
 ·(repeat' ((conv=>whnf);first | with_reducible refine Br.no (decide_eq_false (by omega)) ?_ | refine gA ?_ | (refine gB ?_ ?_ <;> intro h) | refine gC (laws_szLog g _ s0 hp) ?_ | refine gC (laws_toLog g) ?_ | refine gC (laws_toLiteral l) ?_ | refine gC (hS) ?_ | intro _)) <;> try (conv=>whnf)
  (refine And.intro rfl ?_ <;> (repeat' ((conv=>whnf) <;> (first | exact trivial | exact rfl | with_reducible refine And.intro ?_ ?_))))
 ·(repeat' ((conv=>whnf);first | refine gA ?_ | (refine gB ?_ ?_ <;> intro h) | refine gC (laws_otoLog g) ?_ | intro _)) <;> try (conv=>whnf)
  (refine And.intro rfl ?_ <;> (repeat' ((conv=>whnf) <;> (first | exact trivial | exact rfl | with_reducible refine And.intro ?_ ?_))))
 ·(repeat' ((conv=>whnf);first | with_reducible refine Br.yes (beq_self_eq_true _) ?_ | with_reducible refine Br.no rfl ?_ | refine gA ?_ | (refine gB ?_ ?_ <;> intro h) | refine gC (laws_toLog g) ?_ | refine gC (laws_toLiteral l) ?_ | refine gC (hI) ?_ | refine gC (laws_eqLog x) ?_ | refine gC (laws_eqLog g) ?_ | intro _)) <;> try (conv=>whnf)
  (refine And.intro rfl ?_ <;> (repeat' ((conv=>whnf) <;> (first | exact trivial | exact rfl | with_reducible refine And.intro ?_ ?_))))
 ·rw [show ([(8,true,g.av)]:List Fact).map toS= [(8,.oldref g.sh)] from by
   simp only [List.map_cons,List.map_nil,toS,cond_true]
   rw [Lg.sh_eq]]
  (repeat' ((conv=>whnf);first | with_reducible refine Br.yes (beq_self_eq_true _) ?_ | with_reducible refine Br.no (decide_eq_false (by omega)) ?_ | with_reducible refine Br.no rfl ?_ | refine gA ?_ | (refine gB ?_ ?_ <;> intro h) | refine gC (laws_markLog g 1 (by omega)) ?_ | refine gC (laws_eqLog x) ?_ | intro _)) <;> try (conv=>whnf)
  (refine And.intro rfl ?_ <;> (repeat' ((conv=>whnf) <;> (first | exact trivial | exact rfl | with_reducible refine And.intro ?_ ?_))))
 ·have hH:=laws_mheldLog x 1 (by omega)
  refine⟨_,_,_,_,68,69,70,_,rfl,⟨⟨_,rfl,rfl,rfl,rfl⟩,⟨_,_,_,_,_,rfl,rfl,rfl,rfl,rfl,rfl,rfl,rfl,rfl,rfl,rfl,rfl,rfl,rfl,rfl⟩⟩,by decide,by simp,by decide,by kernel_rfl,?_⟩
  (repeat' ((conv=>whnf);first | with_reducible refine Br.yes (decide_eq_true rfl) ?_ | with_reducible refine Br.yes (beq_self_eq_true _) ?_ | with_reducible refine Br.no (decide_eq_false (by omega)) ?_ | with_reducible refine Br.no rfl ?_ | refine gA ?_ | (refine gB ?_ ?_ <;> intro h) | refine gC (hH) ?_ | refine gC (laws_toLog g) ?_ | refine gC (laws_toLiteral l) ?_ | refine gC (hI) ?_ | refine gC (laws_eqLog x) ?_ | intro _)) <;> try (conv=>whnf)
  all_goals exact⟨rfl,rfl,trivial⟩
theorem law_LogDecide_no (g:Lg) (l:Lit) (hp:g.proj.fine) (z:¬ 0≤szLog g 1048576):
  Con 4 [.d g.av,.d l.av] (.d (.bool true)):=by
 refine con Tryz.func4 rfl rfl Tryz.call4 rfl fun hwf=>?_
 have s0:Sz 1048576:=by unfold Sz;omega
 (repeat' ((conv=>whnf);first | with_reducible refine Br.yes (decide_eq_true (by omega)) ?_ | refine gA ?_ | (refine gB ?_ ?_ <;> intro h) | refine gC (laws_szLog g _ s0 hp) ?_ | intro _)) <;> try (conv=>whnf)
 exact⟨rfl,rfl,trivial⟩
theorem law_LogDecide_calls (g:Lg) (l:Lit) (hp:g.proj.fine) {w:World} {vs:List Value} (hargs:All2 (RepV (fun b=>b < w.heap.size) w lim) [g.av,l.av] vs):
  Calls Tryz.prog 4 vs.toArray w fun e w'=>e= .returned (.bool true)∧Below w.heap.size w w':=by
 by_cases z:0≤szLog g 1048576
 ·exact law_linbox tabOk (by decide) (by decide) mixed Tryz.func4 rfl (law_LogDecide g l hp z _ _ rfl rfl) (by simp only [List.length_cons,List.length_nil];decide) hargs
 ·exact calls_of_con (args:=[g.av,l.av]) (law_LogDecide_no g l hp z) hargs
end Go.Proofs.YtfhojdalheinaaaGreat.Abs
