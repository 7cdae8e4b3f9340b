/- The law of what a rule infers, phase by phase. No statement of a claim. -/
import Derived.Test.YtepogmnolnlpmaaGreatC33
import Derived.Test.YtepogmnolnlpmaaGreatLh
import Derived.Test.YtepogmnolnlpmaaGreatLct
import Derived.Test.YtepogmnolnlpmaaGreatLayC
set_option linter.all false
set_option linter.unusedVariables false
set_option linter.unusedSimpArgs false
set_option maxRecDepth 20000
set_option maxHeartbeats 4000000
namespace Go.Proofs.YtepogmnolnlpmaaGreat.Abs
open Go.Proofs Go.RowKit
theorem Rul_md (x:Rul):x.av.md false=true:=rfl
theorem Dom.cnt_nn (x:Dom):0≤x.cnt:=by
 have h2:=cnt_nonneg (f:=fun x:List Int=>(x.length:Int)) (l:=x.modes) (fun x _=>by omega)
 unfold Dom.cnt;omega
theorem explainLit_len (p:Proj) (b:Dom) (r:Rul) (l:Lit):(explainLit p b r l).1.length≤1213:=by
 unfold explainLit
 split
 ·have:∀(m:List Lit) (o:List Lit),(m.foldl (shortStep p r fun x=>sameLit x l) o).length≤o.length:=by
   intro m
   induction m with
   | nil=>intro o;exact Nat.le_refl _
   | cons x m ih=>intro o;rw [List.foldl_cons];exact Nat.le_trans (ih _) shortStep_len
  refine Nat.le_trans (this _ _) (Nat.le_trans (newClause_len _) ?_)
  have:=negs_len p b
  simp only [List.length_append,List.length_cons,List.length_nil];omega
 ·simp
theorem infers_cnt (p:Proj) (b:Dom) (r:Rul):0≤cntS Infer.cnt (infers p b r)∧cntS Infer.cnt (infers p b r)≤5000000:=by
 refine⟨cnt_nonneg fun x _=>x.cnt_nn,?_⟩
 unfold infers
 split
 ·rename_i hu
  have hf:=form_of_none hu.1
  have hl:((ruleActs p r).flatMap (infersAt p b r)).length≤5*(ruleActs p r).length:=flatMap_len fun a ha=>by
   obtain⟨n,rfl,hna⟩:=ruleActs_mem ha
   rw [infersAt,List.length_map,Int.toNat_natCast]
   exact inferA_len p b r n hf hna
  have hr:=ruleActs_len p r
  have h1:=cnt_le (c:=Infer.cnt) (B:=4000) (l:=(ruleActs p r).flatMap (infersAt p b r)) fun x hx=>by
   obtain⟨a,_,hx⟩:=List.mem_flatMap.1 hx
   obtain⟨l,_,rfl⟩:=List.mem_map.1 hx
   have:=explainLit_len p b r l
   have:=cnt_lits (explainLit p b r l).1
   unfold Infer.cnt;dsimp only;omega
  omega
 ·simp [cntS]
theorem law_Infer (p:Proj) (b:Dom) (r:Rul) (hp:p.fine) (z0:0≤szProject p 1048576) (z1:0≤szDomain b (szProject p 1048576)) (q:List Infer) (hq:infers p b r=q):
  LawLin Tryz.prog tab lim Tryz.f5 (Tryz.f5.body.getD .skip) 7 2 4 4 [p.av,b.av,r.av] [(3,true,p.av),(4,true,b.av),(5,true,r.av)] [(8,false,AV.sl (q.map Infer.av))] [(9,true,p.av),(10,true,b.av)] [] 11 13
   (q.map Infer.av) (markRow (rowF cmInferenceS) (q.map Infer.av) 1).1 (1+cntS Infer.cnt q) 35 42000 122 (markRow (rowF cmInferenceS)) (fun m=>∀x∈m,seInferenceS x):=by
 have s0:Sz 1048576:=by unfold Sz;omega
 have s1:=szProject_ok (x:=p) s0
 have m0:=szProject_m p _ z0
 have m1:=szDomain_m b _ z1
 have hc:0≤cntS Infer.cnt q∧cntS Infer.cnt q≤5000000:=hq ▸ infers_cnt p b r
 have hI:=impl_Infer p b r hp
 have hS:=spec_Infer p b r hp
 rw [hq] at hI hS
 have hM:=cnt_Infer q 1
 have c0:=p.cnt_nn
 have c1:=b.cnt_nn
 refine⟨⟨by simp,by simp⟩,?_,by simp,by kernel_rfl,by kernel_rfl,by kernel_rfl,by kernel_rfl,?_,?_,?_,?_,⟨sem_InferenceS,ok_Infer q,Prod.ext rfl hM,by omega⟩,?_⟩
 ·intro x hx
  simp only [List.mem_append,List.mem_cons,List.not_mem_nil,or_false] at hx
  rcases hx with (rfl | rfl | rfl) | rfl
  ·exact Proj_md p
  ·exact Dom_md b
  ·exact Rul_md r
  ·exact mdS Infer_md q
 ·(repeat' ((conv=>whnf);first | with_reducible refine Br.no (decide_eq_false (by omega)) ?_ | refine gA ?_ | ((with_reducible first | refine gD (fun h=>?_) (fun h=>?_) | refine gE (fun h=>?_) (fun h=>?_)) <;> (try simp only [lm] at h) <;> try have hw:=wn h) | refine gC (laws_szProject p _ s0 hp) ?_ | refine gC (laws_szDomain b _ s1) ?_ | refine gC (laws_toProject p) ?_ | refine gC (laws_toRule r) ?_ | refine gC (laws_toDomain b) ?_ | refine gC (hS) ?_ | intro _)) <;> (try (conv=>whnf))
  (refine And.intro rfl ?_ <;> (repeat' ((conv=>whnf) <;> (first | exact trivial | exact rfl | with_reducible refine And.intro ?_ ?_))))
 ·(repeat' ((conv=>whnf);first | refine gA ?_ | ((with_reducible first | refine gD (fun h=>?_) (fun h=>?_) | refine gE (fun h=>?_) (fun h=>?_)) <;> (try simp only [lm] at h) <;> try have hw:=wn h) | refine gC (laws_otoProject p) ?_ | refine gC (laws_otoDomain b) ?_ | intro _)) <;> (try (conv=>whnf))
  (refine And.intro rfl ?_ <;> (repeat' ((conv=>whnf) <;> (first | exact trivial | exact rfl | with_reducible refine And.intro ?_ ?_))))
 ·(repeat' ((conv=>whnf);first | with_reducible refine Br.no rfl ?_ | refine gA ?_ | ((with_reducible first | refine gD (fun h=>?_) (fun h=>?_) | refine gE (fun h=>?_) (fun h=>?_)) <;> (try simp only [lm] at h) <;> try have hw:=wn h) | refine gC (laws_toProject p) ?_ | refine gC (laws_toRule r) ?_ | refine gC (laws_toDomain b) ?_ | refine gC (hI) ?_ | refine gC (laws_eqInferenceS q) ?_ | refine gC (laws_eqProject p) ?_ | refine gC (laws_eqDomain b) ?_ | intro _)) <;> (try (conv=>whnf))
  (refine And.intro rfl ?_ <;> (repeat' ((conv=>whnf) <;> (first | exact trivial | exact rfl | with_reducible refine And.intro ?_ ?_))))
 ·rw [show ([(9,true,p.av),(10,true,b.av)]:List Fact).map toS= [(9,.oldref p.sh),(10,.oldref b.sh)] from by
   simp only [List.map_cons,List.map_nil,toS,cond_true]
   rw [Proj.sh_eq,Dom.sh_eq]]
  (repeat' ((conv=>whnf);first | with_reducible refine Br.no (decide_eq_false (by omega)) ?_ | with_reducible refine Br.no rfl ?_ | refine gA ?_ | ((with_reducible first | refine gD (fun h=>?_) (fun h=>?_) | refine gE (fun h=>?_) (fun h=>?_)) <;> (try simp only [lm] at h) <;> try have hw:=wn h) | refine gC (laws_markProject p 1 (by omega)) ?_ | refine gC (laws_markDomain b _ (by omega)) ?_ | refine gC (laws_eqInferenceS q) ?_ | intro _)) <;> (try (conv=>whnf))
  (refine And.intro rfl ?_ <;> (repeat' ((conv=>whnf) <;> (first | exact trivial | exact rfl | with_reducible refine And.intro ?_ ?_))))
 ·have hH:=laws_mheldInferenceS (q.map Infer.av) 1 (by omega) (ok_Infer q) (by omega)
  rw [hM] at hH
  refine⟨_,_,_,_,70,71,72,_,rfl,⟨⟨_,rfl,rfl,rfl,rfl⟩,⟨_,_,_,_,_,rfl,rfl,rfl,rfl,rfl,rfl,rfl,rfl,rfl,rfl,rfl,rfl,rfl,rfl,rfl⟩⟩,by decide,by simp,by decide,by kernel_rfl,?_⟩
  (repeat' ((conv=>whnf);first | with_reducible refine Br.yes (decide_eq_true rfl) ?_ | with_reducible refine Br.no (decide_eq_false (by omega)) ?_ | with_reducible refine Br.no rfl ?_ | refine gA ?_ | ((with_reducible first | refine gD (fun h=>?_) (fun h=>?_) | refine gE (fun h=>?_) (fun h=>?_)) <;> (try simp only [lm] at h) <;> try have hw:=wn h) | refine gC (hH) ?_ | refine gC (laws_toProject p) ?_ | refine gC (laws_toRule r) ?_ | refine gC (laws_toDomain b) ?_ | refine gC (hI) ?_ | refine gC (laws_eqInferenceS q) ?_ | intro _)) <;> (try (conv=>whnf))
  all_goals exact⟨rfl,rfl,trivial⟩
theorem law_Infer_no (p:Proj) (b:Dom) (r:Rul) (hp:p.fine) (z:¬(0≤szProject p 1048576∧0≤szDomain b (szProject p 1048576))):
  Con 5 [.d p.av,.d b.av,.d r.av] (.d (.bool true)):=by
 refine con Tryz.func5 rfl rfl Tryz.call5 rfl fun hwf=>?_
 have s0:Sz 1048576:=by unfold Sz;omega
 have s1:=szProject_ok (x:=p) s0
 by_cases z0:0≤szProject p 1048576
 ·have z1:¬ 0≤szDomain b (szProject p 1048576):=fun h=>z ⟨z0,h⟩
  (repeat' ((conv=>whnf);first | with_reducible refine Br.yes (decide_eq_true (by omega)) ?_ | with_reducible refine Br.no (decide_eq_false (by omega)) ?_ | refine gA ?_ | ((with_reducible first | refine gD (fun h=>?_) (fun h=>?_) | refine gE (fun h=>?_) (fun h=>?_)) <;> (try simp only [lm] at h) <;> try have hw:=wn h) | refine gC (laws_szProject p _ s0 hp) ?_ | refine gC (laws_szDomain b _ s1) ?_ | intro _)) <;> (try (conv=>whnf))
  exact⟨rfl,rfl,trivial⟩
 ·(repeat' ((conv=>whnf);first | with_reducible refine Br.yes (decide_eq_true (by omega)) ?_ | refine gA ?_ | ((with_reducible first | refine gD (fun h=>?_) (fun h=>?_) | refine gE (fun h=>?_) (fun h=>?_)) <;> (try simp only [lm] at h) <;> try have hw:=wn h) | refine gC (laws_szProject p _ s0 hp) ?_ | intro _)) <;> (try (conv=>whnf))
  exact⟨rfl,rfl,trivial⟩
theorem law_Infer_calls (p:Proj) (b:Dom) (r:Rul) (hp:p.fine) {w:World} {vs:List Value} (hargs:All2 (RepV (fun b=>b < w.heap.size) w lim) [p.av,b.av,r.av] vs):
  Calls Tryz.prog 5 vs.toArray w fun e w'=>e= .returned (.bool true)∧Below w.heap.size w w':=by
 by_cases z:0≤szProject p 1048576∧0≤szDomain b (szProject p 1048576)
 ·exact law_lin tabOk (by decide) (by decide) mixed Tryz.func5 rfl (law_Infer p b r hp z.1 z.2 _ rfl) (by simp only [List.length_cons,List.length_nil];decide) hargs
 ·exact calls_of_con (args:=[p.av,b.av,r.av]) (law_Infer_no p b r hp z) hargs
end Go.Proofs.YtepogmnolnlpmaaGreat.Abs
