/- The law of LogConflict, phase by phase. No statement of a claim. -/
import Derived.Test.YtfhojdalheinaaaGreatC51
import Derived.Test.YtfhojdalheinaaaGreatLh
import Derived.Test.YtfhojdalheinaaaGreatLcl
import Derived.Test.YtfhojdalheinaaaGreatQ3
import Derived.Test.YtfhojdalheinaaaGreatLayC
set_option linter.all false
set_option linter.unusedVariables false
set_option linter.unusedSimpArgs false
set_option maxRecDepth 20000
set_option maxHeartbeats 4000000
namespace Go.Proofs.YtfhojdalheinaaaGreat.Abs
open Go.Proofs Go.RowKit
theorem check_len19 {p:Proj} {a:List Lin} {l:Lin} (h:checkLine p a l=0):l.clause.length≤24:=by
 unfold checkLine at h
 split at h
 ·rename_i hn
  have h2:=hn.2.1
  simp only [lineOk,clauseOk,Bool.and_eq_true,decide_eq_true_eq] at h2
  have:=h2.1.2
  omega
 ·cases h
theorem cntS_app {α:Type} {f:α→Int}:∀(a b:List α),cntS f (a++b)=cntS f a+cntS f b
 | [],b=>by simp [cntS]
 | x::a,b=>by simp only [List.cons_append,cntS,cntS_app a b];omega
theorem confLog_cnt (g:Lg):((confLog g).getD noLog).cnt≤g.cnt+200:=by
 have h0:=g.cnt_nn
 have hz:noLog.cnt=0:=rfl
 unfold confLog
 split
 ·cases hs:stopLog g with
  | none=>simp only [Option.getD_none];omega
  | some x=>
   rw [stopLog_eq] at hs
   split at hs
   ·cases hs
   ·split at hs
    ·rename_i r _ hk
     cases hs
     have h1:=check_len19 hk.1
     have h2:=check_len19 hk.2
     have e1:=cnt_lits (ruleLine g r).clause
     have e2:=cnt_lits (unitLine g).clause
     have e3:cntS Lin.cnt (g.lines++[ruleLine g r]++[unitLine g])=cntS Lin.cnt g.lines+(ruleLine g r).cnt+(unitLine g).cnt:=by
      rw [cntS_app,cntS_app];simp [cntS]
     have e4:(ruleLine g r).cnt=5+cntS Lit.cnt (ruleLine g r).clause:=rfl
     have e5:(unitLine g).cnt=5+cntS Lit.cnt (unitLine g).clause:=rfl
     simp only [Option.getD_some]
     unfold Lg.cnt at*
     dsimp only at*
     omega
    ·cases hs
 ·simp only [Option.getD_none];omega
theorem law_LogConflict (g:Lg) (hp:g.proj.fine) (z0:0≤szLog g 1048576) (x:Lg) (ok:Bool) (hx:(confLog g).getD noLog=x) (hn:(confLog g).isSome=ok):
  LawLinB Tryz.prog tab lim Tryz.f5 (Tryz.f5.body.getD .skip) 5 1 3 3 [g.av] [(1,true,g.av)] [(4,true,x.av),(5,false,.bool ok)] [(6,true,g.av)] [(8,false,.bool ok)] 7 10
   [.data (i64 x.proj.dead),.own 3000012 0,.own 3000013 0,.own 3000014 0,.own 3000015 0,.own 3000016 0,.own 3000017 0,.own 3000018 0,.own 3000019 0,.own 3000020 0] [(3000012,143,x.proj.acts.map Activ.av,2),(3000013,159,x.proj.links.map Link.av,2),(3000014,149,x.proj.ress.map Resrc.av,2),(3000015,3,x.proj.stocks.map i64,2),(3000016,3,x.dom.lo.map i64,2),(3000017,3,x.dom.hi.map i64,2),(3000018,25,x.dom.modes.map ints,2),(3000019,69,x.decs.map Lit.av,2),(3000020,189,x.lines.map Lin.av,2)]
   x.cellsOf (rowF cmLog x.cellsOf 1).1 (1+x.cnt) 25 65 (rowF cmLog) (okC okLog):=by
 have s0:Sz 1048576:=by unfold Sz;omega
 have m0:=szLog_m g _ z0
 have c0:=g.cnt_nn
 have c1:=x.cnt_nn
 have hc:x.cnt≤g.cnt+200:=by have:=confLog_cnt g;rw [hx] at this;omega
 have hI:=impl_LogConflict g hp
 have hS:=spec_LogConflict g hp
 rw [RLogL,hx,hn] at hI
 rw [RLogD,hx,hn] at hS
 have hM:=cnt_Log x 1
 refine⟨⟨by simp,by simp⟩,⟨_,.data rfl (.own rfl (by decide) (.own rfl (by decide) (.own rfl (by decide) (.own rfl (by decide) (.own rfl (by decide) (.own rfl (by decide) (.own rfl (by decide) (.own rfl (by decide) (.own rfl (by decide) .nil)))))))))⟩,⟨by rfl,by rfl,by rfl⟩,?_,by simp [AV.scalar],by kernel_rfl,by kernel_rfl,by kernel_rfl,by kernel_rfl,?_,?_,?_,?_,⟨sem_Log,ok_Log x,Prod.ext rfl hM,by omega⟩,?_⟩
 ·intro y hy
  simp only [List.mem_append,List.mem_cons,List.not_mem_nil,or_false] at hy
  rcases hy with rfl | (rfl | rfl)
  ·exact Lg_md g
  ·exact Lg_md x
  ·rfl
 ·(repeat' ((conv=>whnf);first | with_reducible refine Br.no (decide_eq_false (by omega)) ?_ | refine gA ?_ | (refine gB ?_ ?_ <;> intro h) | refine gC (laws_szLog g _ s0 hp) ?_ | refine gC (laws_toLog g) ?_ | refine gC (hS) ?_ | intro _)) <;> try (conv=>whnf)
  (refine And.intro rfl ?_ <;> (repeat' ((conv=>whnf) <;> (first | exact trivial | exact rfl | with_reducible refine And.intro ?_ ?_))))
 ·(repeat' ((conv=>whnf);first | refine gA ?_ | (refine gB ?_ ?_ <;> intro h) | refine gC (laws_otoLog g) ?_ | intro _)) <;> try (conv=>whnf)
  (refine And.intro rfl ?_ <;> (repeat' ((conv=>whnf) <;> (first | exact trivial | exact rfl | with_reducible refine And.intro ?_ ?_))))
 ·(repeat' ((conv=>whnf);first | with_reducible refine Br.yes (beq_self_eq_true _) ?_ | with_reducible refine Br.no rfl ?_ | refine gA ?_ | (refine gB ?_ ?_ <;> intro h) | refine gC (laws_toLog g) ?_ | refine gC (hI) ?_ | refine gC (laws_eqLog x) ?_ | refine gC (laws_eqLog g) ?_ | intro _)) <;> try (conv=>whnf)
  (refine And.intro rfl ?_ <;> (repeat' ((conv=>whnf) <;> (first | exact trivial | exact rfl | with_reducible refine And.intro ?_ ?_))))
 ·rw [show ([(6,true,g.av)]:List Fact).map toS= [(6,.oldref g.sh)] from by
   simp only [List.map_cons,List.map_nil,toS,cond_true]
   rw [Lg.sh_eq]]
  (repeat' ((conv=>whnf);first | with_reducible refine Br.yes (beq_self_eq_true _) ?_ | with_reducible refine Br.no (decide_eq_false (by omega)) ?_ | with_reducible refine Br.no rfl ?_ | refine gA ?_ | (refine gB ?_ ?_ <;> intro h) | refine gC (laws_markLog g 1 (by omega)) ?_ | refine gC (laws_eqLog x) ?_ | intro _)) <;> try (conv=>whnf)
  (refine And.intro rfl ?_ <;> (repeat' ((conv=>whnf) <;> (first | exact trivial | exact rfl | with_reducible refine And.intro ?_ ?_))))
 ·have hH:=laws_mheldLog x 1 (by omega)
  refine⟨_,_,_,_,62,63,64,_,rfl,⟨⟨_,rfl,rfl,rfl,rfl⟩,⟨_,_,_,_,_,rfl,rfl,rfl,rfl,rfl,rfl,rfl,rfl,rfl,rfl,rfl,rfl,rfl,rfl,rfl⟩⟩,by decide,by simp,by decide,by kernel_rfl,?_⟩
  (repeat' ((conv=>whnf);first | with_reducible refine Br.yes (decide_eq_true rfl) ?_ | with_reducible refine Br.yes (beq_self_eq_true _) ?_ | with_reducible refine Br.no (decide_eq_false (by omega)) ?_ | with_reducible refine Br.no rfl ?_ | refine gA ?_ | (refine gB ?_ ?_ <;> intro h) | refine gC (hH) ?_ | refine gC (laws_toLog g) ?_ | refine gC (hI) ?_ | refine gC (laws_eqLog x) ?_ | intro _)) <;> try (conv=>whnf)
  all_goals exact⟨rfl,rfl,trivial⟩
theorem law_LogConflict_no (g:Lg) (hp:g.proj.fine) (z:¬ 0≤szLog g 1048576):
  Con 5 [.d g.av] (.d (.bool true)):=by
 refine con Tryz.func5 rfl rfl Tryz.call5 rfl fun hwf=>?_
 have s0:Sz 1048576:=by unfold Sz;omega
 (repeat' ((conv=>whnf);first | with_reducible refine Br.yes (decide_eq_true (by omega)) ?_ | refine gA ?_ | (refine gB ?_ ?_ <;> intro h) | refine gC (laws_szLog g _ s0 hp) ?_ | intro _)) <;> try (conv=>whnf)
 exact⟨rfl,rfl,trivial⟩
theorem law_LogConflict_calls (g:Lg) (hp:g.proj.fine) {w:World} {vs:List Value} (hargs:All2 (RepV (fun b=>b < w.heap.size) w lim) [g.av] vs):
  Calls Tryz.prog 5 vs.toArray w fun e w'=>e= .returned (.bool true)∧Below w.heap.size w w':=by
 by_cases z:0≤szLog g 1048576
 ·exact law_linbox tabOk (by decide) (by decide) mixed Tryz.func5 rfl (law_LogConflict g hp z _ _ rfl rfl) (by simp only [List.length_cons,List.length_nil];decide) hargs
 ·exact calls_of_con (args:=[g.av]) (law_LogConflict_no g hp z) hargs
end Go.Proofs.YtfhojdalheinaaaGreat.Abs
