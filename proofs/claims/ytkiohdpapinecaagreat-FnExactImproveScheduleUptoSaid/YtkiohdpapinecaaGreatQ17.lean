/- The law of ImproveSchedule, phase by phase. No statement of a claim. -/
import Derived.Test.YtkiohdpapinecaaGreatC49
import Derived.Test.YtkiohdpapinecaaGreatLh
import Derived.Test.YtkiohdpapinecaaGreatLct
import Derived.Test.YtkiohdpapinecaaGreatLayC
set_option linter.all false
set_option linter.unusedVariables false
set_option linter.unusedSimpArgs false
set_option maxRecDepth 20000
set_option maxHeartbeats 4000000
namespace Go.Proofs.YtkiohdpapinecaaGreat.Abs
open Go.Proofs Go.RowKit
theorem szSchedule_m2(x:Sched) (n:Int) (h:0≤szSchedule x n):x.cnt≤5*(n - szSchedule x n)∧szSchedule x n≤n:=by
 unfold szSchedule at h ⊢
 obtain⟨h1,e1⟩:=szB_nn h;rw [e1] at h ⊢;(try dsimp only at h ⊢)
 obtain⟨h2,e2⟩:=szB_nn h;rw [e2] at h ⊢;(try dsimp only at h ⊢)
 have:=szN_nn h1;have:=szN_nn h2
 unfold Sched.cnt;omega
theorem improveFrom_ok {p:Proj}:∀{f n:Nat} {o:Sched},schedOk p o=true→schedOk p (improveFrom p f n o).1=true
 | 0,_,_,h=>h
 | f+1,n,o,h=>by
  rw [improveFrom_succ]
  cases h1:swapImprove p o with
  | none=>exact h
  | some x=>exact improveFrom_ok (shifted_ok (swapImprove_ok h1))
theorem improved_cn (p:Proj) (s:Sched) (most:Int):(improved p s most).1.cn≤max 12 s.cn:=by
 unfold improved
 split
 ·rename_i h
  obtain⟨_,_,_,h6,h1,h2⟩:=schedOk_parts (improveFrom_ok (f:=most.toNat) (n:=0) (shifted_ok h.1))
  unfold Sched.cn;omega
 ·exact Int.le_max_right _ _
theorem cn_cnt17 (x:Sched):x.cn=x.cnt:=rfl
theorem law_ImproveSchedule (p:Proj) (s:Sched) (most:Int) (hp:p.fine) (z0:0≤szProject p 1048576) (z1:0≤szSchedule s (szProject p 1048576)) (x:Sched) (n:Nat) (hx:(improved p s most).1=x) (hn:(improved p s most).2=n):
  LawLinB Tryz.prog tab lim Tryz.f7 (Tryz.f7.body.getD .skip) 7 2 4 4 [p.av,s.av,i64 most] [(2,false,i64 most),(3,true,p.av),(4,true,s.av)] [(8,true,x.av),(9,false,i64 n)] [(10,true,p.av),(11,true,s.av)] [(13,false,i64 n)] 12 15
   [.own 4700011 0,.own 4700012 0] [(4700011,3,x.starts.map i64,2),(4700012,3,x.modes.map i64,2)]
   x.cellsOf (rowF cmSchedule x.cellsOf 1).1 (1+x.cn) 20 30 (rowF cmSchedule) (okC okSchedule):=by
 have s0:Sz 1048576:=by unfold Sz;omega
 have s1:=szProject_ok (x:=p) s0
 have m0:=szProject_m p _ z0
 have m1:=szSchedule_m2 s _ z1
 have c0:=p.cnt_nn
 have c1:=x.cn_nn
 have c2:=s.cn_nn
 have c3:=cn_cnt17 s
 have hc:x.cn≤max 12 s.cn:=by have:=improved_cn p s most;rw [hx] at this;omega
 have hI:=impl_ImproveSchedule p s most hp
 have hS:=spec_ImproveSchedule p s most hp
 rw [RImpL,hx,hn] at hI
 rw [RImpD,hx,hn] at hS
 have hM:=cnt_Sched x 1
 refine⟨⟨by simp,by simp⟩,⟨_,.own rfl (by decide) (.own rfl (by decide) .nil)⟩,⟨by rfl,by rfl,by rfl⟩,?_,by simp [AV.scalar],by kernel_rfl,by kernel_rfl,by kernel_rfl,by kernel_rfl,?_,?_,?_,?_,⟨sem_Schedule,ok_Sched x,Prod.ext rfl hM,by omega⟩,?_⟩
 ·intro y hy
  simp only [List.mem_append,List.mem_cons,List.not_mem_nil,or_false] at hy
  rcases hy with (rfl | rfl | rfl) | (rfl | rfl)
  ·rfl
  ·exact Proj_md p
  ·exact Sched_md s
  ·exact Sched_md x
  ·rfl
 ·(repeat' ((conv=>whnf);first | with_reducible refine Br.no (decide_eq_false (by omega)) ?_ | refine gA ?_ | ((with_reducible first | refine gD (fun h=>?_) (fun h=>?_) | refine gE (fun h=>?_) (fun h=>?_)) <;> (try simp only [lm] at h) <;> try have hw:=wn h) | refine gC (laws_szProject p _ s0 hp) ?_ | refine gC (laws_szSchedule s _ s1) ?_ | refine gC (laws_toProject p) ?_ | refine gC (laws_toSchedule s) ?_ | refine gC (hS) ?_ | intro _)) <;> (try (conv=>whnf))
  (refine And.intro rfl ?_ <;> (repeat' ((conv=>whnf) <;> (first | exact trivial | exact rfl | with_reducible refine And.intro ?_ ?_))))
 ·(repeat' ((conv=>whnf);first | refine gA ?_ | ((with_reducible first | refine gD (fun h=>?_) (fun h=>?_) | refine gE (fun h=>?_) (fun h=>?_)) <;> (try simp only [lm] at h) <;> try have hw:=wn h) | refine gC (laws_otoProject p) ?_ | refine gC (laws_otoSchedule s) ?_ | intro _)) <;> (try (conv=>whnf))
  (refine And.intro rfl ?_ <;> (repeat' ((conv=>whnf) <;> (first | exact trivial | exact rfl | with_reducible refine And.intro ?_ ?_))))
 ·(repeat' ((conv=>whnf);first | with_reducible refine Br.yes (decide_eq_true rfl) ?_ | with_reducible refine Br.no rfl ?_ | refine gA ?_ | ((with_reducible first | refine gD (fun h=>?_) (fun h=>?_) | refine gE (fun h=>?_) (fun h=>?_)) <;> (try simp only [lm] at h) <;> try have hw:=wn h) | refine gC (laws_toProject p) ?_ | refine gC (laws_toSchedule s) ?_ | refine gC (hI) ?_ | refine gC (laws_eqSchedule x) ?_ | refine gC (laws_eqProject p) ?_ | refine gC (laws_eqSchedule s) ?_ | intro _)) <;> (try (conv=>whnf))
  (refine And.intro rfl ?_ <;> (repeat' ((conv=>whnf) <;> (first | exact trivial | exact rfl | with_reducible refine And.intro ?_ ?_))))
 ·rw [show ([(10,true,p.av),(11,true,s.av)]:List Fact).map toS= [(10,.oldref p.sh),(11,.oldref s.sh)] from by
   simp only [List.map_cons,List.map_nil,toS,cond_true]
   rw [Proj.sh_eq,Sched.sh_eq]]
  (repeat' ((conv=>whnf);first | with_reducible refine Br.yes (decide_eq_true rfl) ?_ | with_reducible refine Br.no (decide_eq_false (by omega)) ?_ | with_reducible refine Br.no rfl ?_ | refine gA ?_ | ((with_reducible first | refine gD (fun h=>?_) (fun h=>?_) | refine gE (fun h=>?_) (fun h=>?_)) <;> (try simp only [lm] at h) <;> try have hw:=wn h) | refine gC (laws_markProject p 1 (by omega)) ?_ | refine gC (laws_omarkSchedule s _ (by omega)) ?_ | refine gC (laws_eqSchedule x) ?_ | intro _)) <;> (try (conv=>whnf))
  (refine And.intro rfl ?_ <;> (repeat' ((conv=>whnf) <;> (first | exact trivial | exact rfl | with_reducible refine And.intro ?_ ?_))))
 ·have hH:=laws_mheldSchedule x 1 (by omega)
  refine⟨_,_,_,_,87,88,89,_,rfl,⟨⟨_,rfl,rfl,rfl,rfl⟩,⟨_,_,_,_,_,rfl,rfl,rfl,rfl,rfl,rfl,rfl,rfl,rfl,rfl,rfl,rfl,rfl,rfl,rfl⟩⟩,by decide,by simp,by decide,by kernel_rfl,?_⟩
  (repeat' ((conv=>whnf);first | with_reducible refine Br.yes (decide_eq_true rfl) ?_ | with_reducible refine Br.yes (beq_self_eq_true _) ?_ | with_reducible refine Br.no (decide_eq_false (by omega)) ?_ | with_reducible refine Br.no rfl ?_ | refine gA ?_ | ((with_reducible first | refine gD (fun h=>?_) (fun h=>?_) | refine gE (fun h=>?_) (fun h=>?_)) <;> (try simp only [lm] at h) <;> try have hw:=wn h) | refine gC (hH) ?_ | refine gC (laws_toProject p) ?_ | refine gC (laws_toSchedule s) ?_ | refine gC (hI) ?_ | refine gC (laws_eqSchedule x) ?_ | intro _)) <;> (try (conv=>whnf))
  all_goals exact⟨rfl,rfl,trivial⟩
theorem law_ImproveSchedule_no (p:Proj) (s:Sched) (most:Int) (hp:p.fine) (z:¬(0≤szProject p 1048576∧0≤szSchedule s (szProject p 1048576))):
  Con 7 [.d p.av,.d s.av,.d (i64 most)] (.d (.bool true)):=by
 refine con Tryz.func7 rfl rfl Tryz.call7 rfl fun hwf=>?_
 have s0:Sz 1048576:=by unfold Sz;omega
 have s1:=szProject_ok (x:=p) s0
 by_cases z0:0≤szProject p 1048576
 ·have z1:¬ 0≤szSchedule s (szProject p 1048576):=fun h=>z ⟨z0,h⟩
  (repeat' ((conv=>whnf);first | with_reducible refine Br.yes (decide_eq_true (by omega)) ?_ | with_reducible refine Br.no (decide_eq_false (by omega)) ?_ | refine gA ?_ | ((with_reducible first | refine gD (fun h=>?_) (fun h=>?_) | refine gE (fun h=>?_) (fun h=>?_)) <;> (try simp only [lm] at h) <;> try have hw:=wn h) | refine gC (laws_szProject p _ s0 hp) ?_ | refine gC (laws_szSchedule s _ s1) ?_ | intro _)) <;> (try (conv=>whnf))
  exact⟨rfl,rfl,trivial⟩
 ·(repeat' ((conv=>whnf);first | with_reducible refine Br.yes (decide_eq_true (by omega)) ?_ | refine gA ?_ | ((with_reducible first | refine gD (fun h=>?_) (fun h=>?_) | refine gE (fun h=>?_) (fun h=>?_)) <;> (try simp only [lm] at h) <;> try have hw:=wn h) | refine gC (laws_szProject p _ s0 hp) ?_ | intro _)) <;> (try (conv=>whnf))
  exact⟨rfl,rfl,trivial⟩
theorem law_ImproveSchedule_calls (p:Proj) (s:Sched) (most:Int) (hp:p.fine) {w:World} {vs:List Value} (hargs:All2 (RepV (fun b=>b < w.heap.size) w lim) [p.av,s.av,i64 most] vs):
  Calls Tryz.prog 7 vs.toArray w fun e w'=>e= .returned (.bool true)∧Below w.heap.size w w':=by
 by_cases z:0≤szProject p 1048576∧0≤szSchedule s (szProject p 1048576)
 ·exact law_linbox tabOk (by decide) (by decide) mixed Tryz.func7 rfl (law_ImproveSchedule p s most hp z.1 z.2 _ _ rfl rfl) (by simp only [List.length_cons,List.length_nil];decide) hargs
 ·exact calls_of_con (args:=[p.av,s.av,i64 most]) (law_ImproveSchedule_no p s most hp z) hargs
end Go.Proofs.YtkiohdpapinecaaGreat.Abs
