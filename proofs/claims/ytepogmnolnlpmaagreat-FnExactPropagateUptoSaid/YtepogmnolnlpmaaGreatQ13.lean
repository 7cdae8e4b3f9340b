/- The law of propagation, phase by phase. No statement of a claim. -/
import Derived.Test.YtepogmnolnlpmaaGreatC40
import Derived.Test.YtepogmnolnlpmaaGreatLh
import Derived.Test.YtepogmnolnlpmaaGreatLct
import Derived.Test.YtepogmnolnlpmaaGreatLayC
set_option linter.all false
set_option linter.unusedVariables false
set_option linter.unusedSimpArgs false
set_option maxRecDepth 20000
set_option maxHeartbeats 4000000
namespace Go.Proofs.YtepogmnolnlpmaaGreat.Abs
open Go.Proofs Go.RowKit
theorem explainLit_len2 (p:Proj) (b:Dom) (r:Rul) (l:Lit):(explainLit p b r l).1.length≤1213:=by
 unfold explainLit
 split
 ·have:∀(m:List Lit) (o:List Lit),(m.foldl (shortStep p r fun x=>sameLit x l) o).length≤o.length:=by
   intro m
   induction m with
   | nil=>intro o;exact Nat.le_refl _
   | cons x m ih=>intro o;rw [List.foldl_cons];exact Nat.le_trans (ih _) shortStep_len
  refine Nat.le_trans (this _ _) (Nat.le_trans (newClause_len _) ?_)
  have:=negs_len p b
  simp only [List.length_append,List.length_cons,List.length_nil];omega
 ·simp
theorem firstInf_len {p:Proj} {b:Dom} {y:Infer} (h:firstInf p b=some y):y.clause.length≤1213:=by
 unfold firstInf at h
 split at h
 ·cases h
 ·obtain⟨r,_,h1⟩:=List.exists_of_findSome?_eq_some h
  obtain⟨a,_,h2⟩:=List.exists_of_findSome?_eq_some h1
  unfold inferOf at h2
  obtain⟨l,_,rfl⟩:=Option.map_eq_some_iff.1 h2
  exact explainLit_len2 p b r l
theorem propFrom_cnt (p:Proj) (B:Int):∀(f:Nat) (b:Dom) (l:List Infer),b.cnt≤B→(∀x∈l,x.clause.length≤1213)→(propFrom p f b l).1.cnt≤B∧(∀x∈(propFrom p f b l).2,x.clause.length≤1213)∧(propFrom p f b l).2.length≤l.length+f
 | 0,b,l,h,k=>⟨h,k,Nat.le_refl _⟩
 | f+1,b,l,h,k=>by
  rw [propFrom_succ]
  cases hf:firstInf p b with
  | none=>exact⟨h,k,by dsimp only;omega⟩
  | some s=>
   dsimp only
   obtain⟨h1,h2,h3⟩:=propFrom_cnt p B f (restrict b s.lit) (l++[s]) (Int.le_trans (restrict_cnt b s.lit) h) fun x hx=>by
    rcases List.mem_append.1 hx with hx | hx
    ·exact k x hx
    ·rw [List.mem_singleton.1 hx];exact firstInf_len hf
   exact⟨h1,h2,by simp at h3;omega⟩
theorem propagated_cnt (p:Proj) (b:Dom) (most:Int):(propagated p b most).1.cnt≤b.cnt∧0≤cntS Infer.cnt (propagated p b most).2∧cntS Infer.cnt (propagated p b most).2≤1000000:=by
 unfold propagated
 split
 ·rename_i hc
  have hw:=within_iff.1 hc.2
  obtain⟨h1,h2,h3⟩:=propFrom_cnt p b.cnt most.toNat b [] (Int.le_refl _) (fun x hx=>by simp at hx)
  refine⟨h1,cnt_nonneg fun x _=>x.cnt_nn,?_⟩
  have h4:=cnt_le (c:=Infer.cnt) (B:=4000) (l:=(propFrom p most.toNat b []).2) fun x hx=>by
   have:=h2 x hx
   have:=cnt_lits x.clause
   unfold Infer.cnt;omega
  simp only [List.length_nil] at h3
  omega
 ·exact⟨Int.le_refl _,by simp [cntS],by simp [cntS]⟩
theorem law_Propagate (p:Proj) (b:Dom) (most:Int) (hp:p.fine) (z0:0≤szProject p 1048576) (z1:0≤szDomain b (szProject p 1048576)) (d:Dom) (q:List Infer) (hd:(propagated p b most).1=d) (hq:(propagated p b most).2=q):
  LawLinP Tryz.prog tab lim Tryz.f6 (Tryz.f6.body.getD .skip) 7 2 4 4 [p.av,b.av,i64 most] [(2,false,i64 most),(3,true,p.av),(4,true,b.av)] [(8,true,d.av),(9,false,.sl (q.map Infer.av))] [(10,true,p.av),(11,true,b.av)] [] 12 15
   13 470002 122 (q.map Infer.av) (markRow (rowF cmInferenceS) (q.map Infer.av) (1+d.cnt)).1 (1+d.cnt+cntS Infer.cnt q) 35 (markRow (rowF cmInferenceS)) (fun m=>∀x∈m,seInferenceS x)
   [.own 4700011 0,.own 4700012 0,.own 4700013 0] [(4700011,3,d.lo.map i64,2),(4700012,3,d.hi.map i64,2),(4700013,25,d.modes.map ints,2),(470002,122,q.map Infer.av,2)]
   d.cellsOf (rowF cmDomain d.cellsOf 1).1 (1+d.cnt) 34 63 (rowF cmDomain) (okC okDomain):=by
 have s0:Sz 1048576:=by unfold Sz;omega
 have s1:=szProject_ok (x:=p) s0
 have m0:=szProject_m p _ z0
 have m1:=szDomain_m b _ z1
 have c0:=p.cnt_nn
 have c1:=b.cnt_nn
 have c2:=d.cnt_nn
 have hc:=propagated_cnt p b most
 rw [hd,hq] at hc
 have hI:=impl_Propagate p b most hp
 have hS:=spec_Propagate p b most hp
 rw [RPropL,hd,hq] at hI
 rw [RPropD,hd,hq] at hS
 have hM:=cnt_Dom d 1
 have hM2:=cnt_Infer q (1+d.cnt)
 refine⟨⟨by simp,by simp,by simp,by simp⟩,⟨_,.own rfl (by decide) (.own rfl (by decide) (.own rfl (by decide) .nil)),by decide,rfl⟩,⟨by rfl,by rfl,by rfl⟩,?_,by simp,by kernel_rfl,by kernel_rfl,by kernel_rfl,by kernel_rfl,?_,?_,?_,?_,⟨sem_Domain,ok_Dom d,Prod.ext rfl hM,by omega⟩,⟨sem_InferenceS,ok_Infer q,Prod.ext rfl hM2,by omega,by omega⟩,?_⟩
 ·intro x hx
  simp only [List.mem_append,List.mem_cons,List.not_mem_nil,or_false] at hx
  rcases hx with (rfl | rfl | rfl) | (rfl | rfl)
  ·rfl
  ·exact Proj_md p
  ·exact Dom_md b
  ·exact Dom_md d
  ·exact mdS Infer_md q
 ·(repeat' ((conv=>whnf);first | with_reducible refine Br.no (decide_eq_false (by omega)) ?_ | refine gA ?_ | ((with_reducible first | refine gD (fun h=>?_) (fun h=>?_) | refine gE (fun h=>?_) (fun h=>?_)) <;> (try simp only [lm] at h) <;> try have hw:=wn h) | refine gC (laws_szProject p _ s0 hp) ?_ | refine gC (laws_szDomain b _ s1) ?_ | refine gC (laws_toProject p) ?_ | refine gC (laws_toDomain b) ?_ | refine gC (hS) ?_ | intro _)) <;> (try (conv=>whnf))
  (refine And.intro rfl ?_ <;> (repeat' ((conv=>whnf) <;> (first | exact trivial | exact rfl | with_reducible refine And.intro ?_ ?_))))
 ·(repeat' ((conv=>whnf);first | refine gA ?_ | ((with_reducible first | refine gD (fun h=>?_) (fun h=>?_) | refine gE (fun h=>?_) (fun h=>?_)) <;> (try simp only [lm] at h) <;> try have hw:=wn h) | refine gC (laws_otoProject p) ?_ | refine gC (laws_otoDomain b) ?_ | intro _)) <;> (try (conv=>whnf))
  (refine And.intro rfl ?_ <;> (repeat' ((conv=>whnf) <;> (first | exact trivial | exact rfl | with_reducible refine And.intro ?_ ?_))))
 ·(repeat' ((conv=>whnf);first | with_reducible refine Br.no rfl ?_ | refine gA ?_ | ((with_reducible first | refine gD (fun h=>?_) (fun h=>?_) | refine gE (fun h=>?_) (fun h=>?_)) <;> (try simp only [lm] at h) <;> try have hw:=wn h) | refine gC (laws_toProject p) ?_ | refine gC (laws_toDomain b) ?_ | refine gC (hI) ?_ | refine gC (laws_eqDomain d) ?_ | refine gC (laws_eqInferenceS q) ?_ | refine gC (laws_eqProject p) ?_ | refine gC (laws_eqDomain b) ?_ | intro _)) <;> (try (conv=>whnf))
  (refine And.intro rfl ?_ <;> (repeat' ((conv=>whnf) <;> (first | exact trivial | exact rfl | with_reducible refine And.intro ?_ ?_))))
 ·rw [show ([(10,true,p.av),(11,true,b.av)]:List Fact).map toS= [(10,.oldref p.sh),(11,.oldref b.sh)] from by
   simp only [List.map_cons,List.map_nil,toS,cond_true]
   rw [Proj.sh_eq,Dom.sh_eq]]
  (repeat' ((conv=>whnf);first | with_reducible refine Br.no (decide_eq_false (by omega)) ?_ | with_reducible refine Br.no rfl ?_ | refine gA ?_ | ((with_reducible first | refine gD (fun h=>?_) (fun h=>?_) | refine gE (fun h=>?_) (fun h=>?_)) <;> (try simp only [lm] at h) <;> try have hw:=wn h) | refine gC (laws_markProject p 1 (by omega)) ?_ | refine gC (laws_markDomain b _ (by omega)) ?_ | refine gC (laws_eqDomain d) ?_ | refine gC (laws_eqInferenceS q) ?_ | intro _)) <;> (try (conv=>whnf))
  (refine And.intro rfl ?_ <;> (repeat' ((conv=>whnf) <;> (first | exact trivial | exact rfl | with_reducible refine And.intro ?_ ?_))))
 ·have hH:=laws_mheldDomain d 1 (by omega)
  have hH2:=laws_mheldInferenceS (q.map Infer.av) (1+d.cnt) (by omega) (ok_Infer q) (by omega)
  rw [hM2] at hH2
  refine⟨_,_,_,_,_,_,89,90,91,92,93,94,_,rfl,⟨⟨_,rfl,rfl,rfl,rfl⟩,⟨_,_,_,_,_,rfl,rfl,rfl,rfl,rfl,rfl,rfl,rfl,rfl,rfl,rfl,rfl,rfl,rfl,rfl⟩⟩,⟨⟨_,_,_,_,_,rfl,rfl,rfl,rfl,rfl,rfl,rfl,rfl,rfl,rfl,rfl,rfl,rfl,rfl,rfl⟩⟩,by decide,by decide,by simp,by simp,by decide,by decide,by kernel_rfl,?_⟩
  (repeat' ((conv=>whnf);first | with_reducible refine Br.yes (decide_eq_true rfl) ?_ | with_reducible refine Br.no (decide_eq_false (by omega)) ?_ | with_reducible refine Br.no rfl ?_ | refine gA ?_ | ((with_reducible first | refine gD (fun h=>?_) (fun h=>?_) | refine gE (fun h=>?_) (fun h=>?_)) <;> (try simp only [lm] at h) <;> try have hw:=wn h) | refine gC (hH) ?_ | refine gC (hH2) ?_ | refine gC (laws_toProject p) ?_ | refine gC (laws_toDomain b) ?_ | refine gC (hI) ?_ | refine gC (laws_eqDomain d) ?_ | refine gC (laws_eqInferenceS q) ?_ | intro _)) <;> (try (conv=>whnf))
  all_goals exact⟨rfl,rfl,trivial⟩
theorem law_Propagate_no (p:Proj) (b:Dom) (most:Int) (hp:p.fine) (z:¬(0≤szProject p 1048576∧0≤szDomain b (szProject p 1048576))):
  Con 6 [.d p.av,.d b.av,.d (i64 most)] (.d (.bool true)):=by
 refine con Tryz.func6 rfl rfl Tryz.call6 rfl fun hwf=>?_
 have s0:Sz 1048576:=by unfold Sz;omega
 have s1:=szProject_ok (x:=p) s0
 by_cases z0:0≤szProject p 1048576
 ·have z1:¬ 0≤szDomain b (szProject p 1048576):=fun h=>z ⟨z0,h⟩
  (repeat' ((conv=>whnf);first | with_reducible refine Br.yes (decide_eq_true (by omega)) ?_ | with_reducible refine Br.no (decide_eq_false (by omega)) ?_ | refine gA ?_ | ((with_reducible first | refine gD (fun h=>?_) (fun h=>?_) | refine gE (fun h=>?_) (fun h=>?_)) <;> (try simp only [lm] at h) <;> try have hw:=wn h) | refine gC (laws_szProject p _ s0 hp) ?_ | refine gC (laws_szDomain b _ s1) ?_ | intro _)) <;> (try (conv=>whnf))
  exact⟨rfl,rfl,trivial⟩
 ·(repeat' ((conv=>whnf);first | with_reducible refine Br.yes (decide_eq_true (by omega)) ?_ | refine gA ?_ | ((with_reducible first | refine gD (fun h=>?_) (fun h=>?_) | refine gE (fun h=>?_) (fun h=>?_)) <;> (try simp only [lm] at h) <;> try have hw:=wn h) | refine gC (laws_szProject p _ s0 hp) ?_ | intro _)) <;> (try (conv=>whnf))
  exact⟨rfl,rfl,trivial⟩
theorem law_Propagate_calls (p:Proj) (b:Dom) (most:Int) (hp:p.fine) {w:World} {vs:List Value} (hargs:All2 (RepV (fun b=>b < w.heap.size) w lim) [p.av,b.av,i64 most] vs):
  Calls Tryz.prog 6 vs.toArray w fun e w'=>e= .returned (.bool true)∧Below w.heap.size w w':=by
 by_cases z:0≤szProject p 1048576∧0≤szDomain b (szProject p 1048576)
 ·exact law_linpair tabOk (by decide) (by decide) mixed Tryz.func6 rfl (law_Propagate p b most hp z.1 z.2 _ _ rfl rfl) (by simp only [List.length_cons,List.length_nil];decide) hargs
 ·exact calls_of_con (args:=[p.av,b.av,i64 most]) (law_Propagate_no p b most hp z) hargs
end Go.Proofs.YtepogmnolnlpmaaGreat.Abs
