/- The law of schedules, phase by phase. No statement of a claim. -/
import Derived.Test.YtkiohdpapinecaaGreatC44
import Derived.Test.YtkiohdpapinecaaGreatLh
import Derived.Test.YtkiohdpapinecaaGreatLct
import Derived.Test.YtkiohdpapinecaaGreatLayC
set_option linter.all false
set_option linter.unusedVariables false
set_option linter.unusedSimpArgs false
set_option maxRecDepth 20000
set_option maxHeartbeats 4000000
namespace Go.Proofs.YtkiohdpapinecaaGreat.Abs
open Go.Proofs Go.RowKit
theorem parallel_few (p:Proj) (order:List Int) (low:Bool):(((parallel p order low).getD noSched).starts.length≤6)∧(((parallel p order low).getD noSched).modes.length≤6):=by
 cases h:parallel p order low with
 | none=>simp [noSched]
 | some s=>
  have hs:=parallel_form h
  have h1:=schedForm_parts hs
  have h2:=proj_small h1.1
  simp only [Option.getD_some]
  omega
theorem law_ParallelSchedule (p:Proj) (order:List Int) (low:Bool) (hp:p.fine) (ho:order.length≤1048576) (z0:0≤szProject p 1048576) (s:Sched) (ok:Bool) (hs:(parallel p order low).getD noSched=s) (hok:(parallel p order low).isSome=ok):
  LawLinB Tryz.prog tab lim Tryz.f3 (Tryz.f3.body.getD .skip) 6 2 4 4 [p.av,ints order,.bool low] [(1,false,ints order),(2,false,.bool low),(3,true,p.av)] [(8,true,s.av),(9,false,.bool ok)] [(10,true,p.av),(11,false,ints order)] [(13,false,.bool ok)] 12 15
   [.own 4500011 0,.own 4500012 0] [(4500011,3,s.starts.map i64,2),(4500012,3,s.modes.map i64,2)]
   s.cellsOf (rowF cmSchedule s.cellsOf 1).1 (1+s.cn) 20 30 (rowF cmSchedule) (okC okSchedule):=by
 have s0:Sz 1048576:=by unfold Sz;omega
 have s1:=szProject_ok (x:=p) s0
 have m0:=szProject_m p _ z0
 have c0:=p.cnt_nn
 have c1:=s.cn_nn
 have hc:s.cn≤12:=by have:=parallel_few p order low;rw [hs] at this;unfold Sched.cn;omega
 have hI:=impl_ParallelSchedule p order low hp
 have hS:=spec_ParallelSchedule p order low hp
 rw [RSchL,hs,hok] at hI
 rw [RSchD,hs,hok] at hS
 have hM:=cnt_Sched s 1
 refine⟨⟨by simp,by simp⟩,⟨_,.own rfl (by decide) (.own rfl (by decide) .nil)⟩,⟨by rfl,by rfl,by rfl⟩,?_,by simp [AV.scalar],by kernel_rfl,by kernel_rfl,by kernel_rfl,by kernel_rfl,?_,?_,?_,?_,⟨sem_Schedule,ok_Sched s,Prod.ext rfl hM,by omega⟩,?_⟩
 ·intro x hx
  simp only [List.mem_append,List.mem_cons,List.not_mem_nil,or_false] at hx
  rcases hx with (rfl | rfl | rfl) | (rfl | rfl)
  ·exact ints_md order
  ·rfl
  ·exact Proj_md p
  ·exact Sched_md s
  ·rfl
 ·(repeat' ((conv=>whnf);first | with_reducible refine Br.no (decide_eq_false (by first | omega | (simp only [List.length_map];omega))) ?_ | refine gA ?_ | ((with_reducible first | refine gD (fun h=>?_) (fun h=>?_) | refine gE (fun h=>?_) (fun h=>?_)) <;> (try simp only [lm] at h) <;> try have hw:=wn h) | refine gC (laws_szProject p _ s0 hp) ?_ | refine gC (laws_toProject p) ?_ | refine gC (laws_toIntS order) ?_ | refine gC (hS) ?_ | intro _)) <;> (try (conv=>whnf))
  (refine And.intro rfl ?_ <;> (repeat' ((conv=>whnf) <;> (first | exact trivial | exact rfl | with_reducible refine And.intro ?_ ?_))))
 ·(repeat' ((conv=>whnf);first | refine gA ?_ | ((with_reducible first | refine gD (fun h=>?_) (fun h=>?_) | refine gE (fun h=>?_) (fun h=>?_)) <;> (try simp only [lm] at h) <;> try have hw:=wn h) | refine gC (laws_otoProject p) ?_ | refine gC (laws_otoIntS order) ?_ | intro _)) <;> (try (conv=>whnf))
  (refine And.intro rfl ?_ <;> (repeat' ((conv=>whnf) <;> (first | exact trivial | exact rfl | with_reducible refine And.intro ?_ ?_))))
 ·(repeat' ((conv=>whnf);first | with_reducible refine Br.yes (beq_self_eq_true _) ?_ | with_reducible refine Br.no rfl ?_ | refine gA ?_ | ((with_reducible first | refine gD (fun h=>?_) (fun h=>?_) | refine gE (fun h=>?_) (fun h=>?_)) <;> (try simp only [lm] at h) <;> try have hw:=wn h) | refine gC (laws_toProject p) ?_ | refine gC (laws_toIntS order) ?_ | refine gC (hI) ?_ | refine gC (laws_eqSchedule s) ?_ | refine gC (laws_eqProject p) ?_ | refine gC (laws_eqIntS order) ?_ | intro _)) <;> (try (conv=>whnf))
  (refine And.intro rfl ?_ <;> (repeat' ((conv=>whnf) <;> (first | exact trivial | exact rfl | with_reducible refine And.intro ?_ ?_))))
 ·rw [show ([(10,true,p.av),(11,false,ints order)]:List Fact).map toS= [(10,.oldref p.sh),(11,.old (shI order))] from by
   simp only [List.map_cons,List.map_nil,toS,cond_true,cond_false]
   rw [Proj.sh_eq,show (ints order).shape=shI order from sh_eq (fun _=>rfl) order]]
  (repeat' ((conv=>whnf);first | with_reducible refine Br.yes (beq_self_eq_true _) ?_ | with_reducible refine Br.no (decide_eq_false (by omega)) ?_ | with_reducible refine Br.no rfl ?_ | refine gA ?_ | ((with_reducible first | refine gD (fun h=>?_) (fun h=>?_) | refine gE (fun h=>?_) (fun h=>?_)) <;> (try simp only [lm] at h) <;> try have hw:=wn h) | refine gC (laws_markProject p 1 (by omega)) ?_ | refine gC (laws_markIntS order _ (by omega)) ?_ | refine gC (laws_eqSchedule s) ?_ | intro _)) <;> (try (conv=>whnf))
  (refine And.intro rfl ?_ <;> (repeat' ((conv=>whnf) <;> (first | exact trivial | exact rfl | with_reducible refine And.intro ?_ ?_))))
 ·have hH:=laws_mheldSchedule s 1 (by omega)
  refine⟨_,_,_,_,85,86,87,_,rfl,⟨⟨_,rfl,rfl,rfl,rfl⟩,⟨_,_,_,_,_,rfl,rfl,rfl,rfl,rfl,rfl,rfl,rfl,rfl,rfl,rfl,rfl,rfl,rfl,rfl⟩⟩,by decide,by simp,by decide,by kernel_rfl,?_⟩
  (repeat' ((conv=>whnf);first | with_reducible refine Br.yes (decide_eq_true rfl) ?_ | with_reducible refine Br.yes (beq_self_eq_true _) ?_ | with_reducible refine Br.no (decide_eq_false (by omega)) ?_ | with_reducible refine Br.no rfl ?_ | refine gA ?_ | ((with_reducible first | refine gD (fun h=>?_) (fun h=>?_) | refine gE (fun h=>?_) (fun h=>?_)) <;> (try simp only [lm] at h) <;> try have hw:=wn h) | refine gC (hH) ?_ | refine gC (laws_toProject p) ?_ | refine gC (laws_toIntS order) ?_ | refine gC (hI) ?_ | refine gC (laws_eqSchedule s) ?_ | intro _)) <;> (try (conv=>whnf))
  all_goals exact⟨rfl,rfl,trivial⟩
theorem law_ParallelSchedule_no (p:Proj) (order:List Int) (low:Bool) (hp:p.fine) (z:¬(order.length≤1048576∧0≤szProject p 1048576)):
  Con 3 [.d p.av,.d (ints order),.d (.bool low)] (.d (.bool true)):=by
 refine con Tryz.func3 rfl rfl Tryz.call3 rfl fun hwf=>?_
 have s0:Sz 1048576:=by unfold Sz;omega
 have s1:=szProject_ok (x:=p) s0
 by_cases ho:order.length≤1048576
 ·have z0:¬ 0≤szProject p 1048576:=fun h=>z ⟨ho,h⟩
  (repeat' ((conv=>whnf);first | with_reducible refine Br.no (decide_eq_false (by first | omega | (simp only [List.length_map];omega))) ?_ | with_reducible refine Br.yes (decide_eq_true (by omega)) ?_ | refine gA ?_ | ((with_reducible first | refine gD (fun h=>?_) (fun h=>?_) | refine gE (fun h=>?_) (fun h=>?_)) <;> (try simp only [lm] at h) <;> try have hw:=wn h) | refine gC (laws_szProject p _ s0 hp) ?_ | intro _)) <;> (try (conv=>whnf))
  exact⟨rfl,rfl,trivial⟩
 ·(repeat' ((conv=>whnf);first | with_reducible refine Br.yes (decide_eq_true (by first | omega | (simp only [List.length_map];omega))) ?_ | refine gA ?_ | ((with_reducible first | refine gD (fun h=>?_) (fun h=>?_) | refine gE (fun h=>?_) (fun h=>?_)) <;> (try simp only [lm] at h) <;> try have hw:=wn h) | intro _)) <;> (try (conv=>whnf))
  exact⟨rfl,rfl,trivial⟩
theorem law_ParallelSchedule_calls (p:Proj) (order:List Int) (low:Bool) (hp:p.fine) {w:World} {vs:List Value} (hargs:All2 (RepV (fun b=>b < w.heap.size) w lim) [p.av,ints order,.bool low] vs):
  Calls Tryz.prog 3 vs.toArray w fun e w'=>e= .returned (.bool true)∧Below w.heap.size w w':=by
 by_cases z:order.length≤1048576∧0≤szProject p 1048576
 ·exact law_linbox tabOk (by decide) (by decide) mixed Tryz.func3 rfl (law_ParallelSchedule p order low hp z.1 z.2 _ _ rfl rfl) (by simp only [List.length_cons,List.length_nil];decide) hargs
 ·exact calls_of_con (args:=[p.av,ints order,.bool low]) (law_ParallelSchedule_no p order low hp z) hargs
end Go.Proofs.YtkiohdpapinecaaGreat.Abs
