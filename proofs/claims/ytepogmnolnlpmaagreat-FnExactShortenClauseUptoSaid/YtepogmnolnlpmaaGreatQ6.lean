/- The law of shortened clauses, phase by phase. No statement of a claim. -/
import Derived.Test.YtepogmnolnlpmaaGreatC25
import Derived.Test.YtepogmnolnlpmaaGreatLh
import Derived.Test.YtepogmnolnlpmaaGreatLey
import Derived.Test.YtepogmnolnlpmaaGreatLmk
set_option linter.all false
set_option linter.unusedVariables false
set_option linter.unusedSimpArgs false
set_option maxRecDepth 20000
set_option maxHeartbeats 4000000
namespace Go.Proofs.YtepogmnolnlpmaaGreat.Abs
open Go.Proofs Go.RowKit
theorem Rul_md (x:Rul):x.av.md false=true:=rfl
theorem law_ShortenClause (p:Proj) (r:Rul) (l:List Lit) (keep:Int) (hp:p.fine) (z0:0≤szProject p 1048576) (z1:0≤szN l.length (szProject p 1048576)) (hl:l.length≤1048576):
  LawFlat Tryz.prog tab lim Tryz.f3 (Tryz.f3.body.getD .skip) 7 2 4 4 [p.av,r.av,lits l,i64 keep] [(2,false,lits l),(3,false,i64 keep),(4,true,p.av),(5,true,r.av)] [(10,false,lits (shorten p r l keep))] [(11,true,p.av),(12,false,lits l)] [] 13 15
   ((shorten p r l keep).map Lit.av) ((markL 1 (shorten p r l keep)).map Lit.av) (1+3*(shorten p r l keep).length) 19:=by
 have s0:Sz 1048576:=by unfold Sz;omega
 have s1:=szProject_ok (x:=p) s0
 have m0:=szProject_m p _ z0
 have m1:=szN_nn z1
 have hnl:=shorten_length (p:=p) (r:=r) (l:=l) (keep:=keep)
 have c0:=p.cnt_nn
 have c1:=cnt_lits l
 refine⟨⟨by simp,by simp⟩,flats_map (fun _=>rfl) _,?_,by simp,by kernel_rfl,by kernel_rfl,by kernel_rfl,by kernel_rfl,?_,?_,?_,?_,marks_lit _ (by omega),?_⟩
 ·intro x hx
  simp only [List.mem_append,List.mem_cons,List.not_mem_nil,or_false] at hx
  rcases hx with (rfl | rfl | rfl | rfl) | rfl
  ·exact lits_md l
  ·rfl
  ·exact Proj_md p
  ·exact Rul_md r
  ·exact lits_md _
 ·(repeat' ((conv=>whnf);first | with_reducible refine Br.no (decide_eq_false (by omega)) ?_ | refine gA ?_ | ((with_reducible first | refine gD (fun h=>?_) (fun h=>?_) | refine gE (fun h=>?_) (fun h=>?_)) <;> (try simp only [lm] at h) <;> try have hw:=wn h) | refine gC (laws_szProject p _ s0 hp) ?_ | refine gC (laws_szLiteralS l _ s1) ?_ | refine gC (laws_toProject p) ?_ | refine gC (laws_toRule r) ?_ | refine gC (laws_toLiteralS l) ?_ | refine gC (spec_ShortenClause p r l keep hp) ?_ | intro _)) <;> (try (conv=>whnf))
  (refine And.intro rfl ?_ <;> (repeat' ((conv=>whnf) <;> (first | exact trivial | exact rfl | with_reducible refine And.intro ?_ ?_))))
 ·(repeat' ((conv=>whnf);first | refine gA ?_ | ((with_reducible first | refine gD (fun h=>?_) (fun h=>?_) | refine gE (fun h=>?_) (fun h=>?_)) <;> (try simp only [lm] at h) <;> try have hw:=wn h) | refine gC (laws_otoProject p) ?_ | refine gC (laws_otoLiteralS l) ?_ | intro _)) <;> (try (conv=>whnf))
  (refine And.intro rfl ?_ <;> (repeat' ((conv=>whnf) <;> (first | exact trivial | exact rfl | with_reducible refine And.intro ?_ ?_))))
 ·(repeat' ((conv=>whnf);first | with_reducible refine Br.no rfl ?_ | refine gA ?_ | ((with_reducible first | refine gD (fun h=>?_) (fun h=>?_) | refine gE (fun h=>?_) (fun h=>?_)) <;> (try simp only [lm] at h) <;> try have hw:=wn h) | refine gC (laws_toProject p) ?_ | refine gC (laws_toRule r) ?_ | refine gC (laws_toLiteralS l) ?_ | refine gC (impl_ShortenClause p r l keep hp) ?_ | refine gC (laws_eqLiteralS (shorten p r l keep)) ?_ | refine gC (laws_eqProject p) ?_ | refine gC (laws_eqLiteralS l) ?_ | intro _)) <;> (try (conv=>whnf))
  (refine And.intro rfl ?_ <;> (repeat' ((conv=>whnf) <;> (first | exact trivial | exact rfl | with_reducible refine And.intro ?_ ?_))))
 ·rw [show ([(11,true,p.av),(12,false,lits l)]:List Fact).map toS= [(11,.oldref p.sh),(12,.old (.sl (l.map Lit.sh)))] from by
   simp only [List.map_cons,List.map_nil,toS,cond_true,cond_false]
   rw [Proj.sh_eq,sh_eq Lit.sh_eq]]
  (repeat' ((conv=>whnf);first | with_reducible refine Br.no (decide_eq_false (by omega)) ?_ | with_reducible refine Br.no rfl ?_ | refine gA ?_ | ((with_reducible first | refine gD (fun h=>?_) (fun h=>?_) | refine gE (fun h=>?_) (fun h=>?_)) <;> (try simp only [lm] at h) <;> try have hw:=wn h) | refine gC (laws_markProject p 1 (by omega)) ?_ | refine gC (laws_markLiteralS l _ (by omega)) ?_ | refine gC (laws_eqLiteralS (shorten p r l keep)) ?_ | intro _)) <;> (try (conv=>whnf))
  (refine And.intro rfl ?_ <;> (repeat' ((conv=>whnf) <;> (first | exact trivial | exact rfl | with_reducible refine And.intro ?_ ?_))))
 ·refine⟨_,_,_,_,74,75,76,_,rfl,⟨⟨_,rfl,rfl,rfl,rfl⟩,⟨_,_,_,_,_,rfl,rfl,rfl,rfl,rfl,rfl,rfl,rfl,rfl,rfl,rfl,rfl,rfl,rfl,rfl⟩⟩,by decide,by simp,by decide,by kernel_rfl,?_⟩
  (repeat' ((conv=>whnf);first | with_reducible refine Br.yes (decide_eq_true rfl) ?_ | with_reducible refine Br.no (decide_eq_false (by omega)) ?_ | with_reducible refine Br.no rfl ?_ | refine gA ?_ | ((with_reducible first | refine gD (fun h=>?_) (fun h=>?_) | refine gE (fun h=>?_) (fun h=>?_)) <;> (try simp only [lm] at h) <;> try have hw:=wn h) | refine gC (laws_heldLiteralS (shorten p r l keep) 1 (by omega)) ?_ | refine gC (laws_toProject p) ?_ | refine gC (laws_toRule r) ?_ | refine gC (laws_toLiteralS l) ?_ | refine gC (impl_ShortenClause p r l keep hp) ?_ | refine gC (laws_eqLiteralS (shorten p r l keep)) ?_ | intro _)) <;> (try (conv=>whnf))
  all_goals exact⟨rfl,rfl,trivial⟩
theorem law_ShortenClause_no (p:Proj) (r:Rul) (l:List Lit) (keep:Int) (hp:p.fine) (z:¬(0≤szProject p 1048576∧0≤szN l.length (szProject p 1048576))):
  Con 3 [.d p.av,.d r.av,.d (lits l),.d (i64 keep)] (.d (.bool true)):=by
 refine con Tryz.func3 rfl rfl Tryz.call3 rfl fun hwf=>?_
 have s0:Sz 1048576:=by unfold Sz;omega
 have s1:=szProject_ok (x:=p) s0
 by_cases z0:0≤szProject p 1048576
 ·have z1:¬ 0≤szN l.length (szProject p 1048576):=fun h=>z ⟨z0,h⟩
  (repeat' ((conv=>whnf);first | with_reducible refine Br.yes (decide_eq_true (by omega)) ?_ | with_reducible refine Br.no (decide_eq_false (by omega)) ?_ | refine gA ?_ | ((with_reducible first | refine gD (fun h=>?_) (fun h=>?_) | refine gE (fun h=>?_) (fun h=>?_)) <;> (try simp only [lm] at h) <;> try have hw:=wn h) | refine gC (laws_szProject p _ s0 hp) ?_ | refine gC (laws_szLiteralS l _ s1) ?_ | intro _)) <;> (try (conv=>whnf))
  exact⟨rfl,rfl,trivial⟩
 ·(repeat' ((conv=>whnf);first | with_reducible refine Br.yes (decide_eq_true (by omega)) ?_ | refine gA ?_ | ((with_reducible first | refine gD (fun h=>?_) (fun h=>?_) | refine gE (fun h=>?_) (fun h=>?_)) <;> (try simp only [lm] at h) <;> try have hw:=wn h) | refine gC (laws_szProject p _ s0 hp) ?_ | intro _)) <;> (try (conv=>whnf))
  exact⟨rfl,rfl,trivial⟩
theorem law_ShortenClause_calls (p:Proj) (r:Rul) (l:List Lit) (keep:Int) (hp:p.fine) (hl:l.length≤1048576) {w:World} {vs:List Value} (hargs:All2 (RepV (fun b=>b < w.heap.size) w lim) [p.av,r.av,lits l,i64 keep] vs):
  Calls Tryz.prog 3 vs.toArray w fun e w'=>e= .returned (.bool true)∧Below w.heap.size w w':=by
 by_cases z:0≤szProject p 1048576∧0≤szN l.length (szProject p 1048576)
 ·exact law_flat tabOk (by decide) (by decide) mixed Tryz.func3 rfl (law_ShortenClause p r l keep hp z.1 z.2 hl) (by simp only [List.length_cons,List.length_nil];decide) hargs
 ·exact calls_of_con (args:=[p.av,r.av,lits l,i64 keep]) (law_ShortenClause_no p r l keep hp z) hargs
end Go.Proofs.YtepogmnolnlpmaaGreat.Abs
