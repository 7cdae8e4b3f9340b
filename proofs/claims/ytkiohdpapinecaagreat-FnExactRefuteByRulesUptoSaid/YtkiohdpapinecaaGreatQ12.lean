/- The law of refutation by rules, phase by phase. No statement of a claim. -/
import Derived.Test.YtkiohdpapinecaaGreatLg
import Derived.Test.YtkiohdpapinecaaGreatLh
import Derived.Test.YtkiohdpapinecaaGreatLct
import Derived.Test.YtkiohdpapinecaaGreatLayC
set_option linter.all false
set_option linter.unusedVariables false
set_option linter.unusedSimpArgs false
set_option maxRecDepth 20000
set_option maxHeartbeats 4000000
namespace Go.Proofs.YtkiohdpapinecaaGreat.Abs
open Go.Proofs Go.RowKit
theorem check_len {p:Proj} {a:List Lin} {l:Lin} (h:checkLine p a l=0):l.clause.length≤24:=by
 unfold checkLine at h
 split at h
 ·rename_i hn
  have h2:=hn.2.1
  simp only [lineOk,clauseOk,Bool.and_eq_true,decide_eq_true_eq] at h2
  have:=h2.1.2
  omega
 ·cases h
def Short (n:Nat) (l:List Lin):Prop:=l.length≤n∧∀x∈l,x.clause.length≤24
theorem Short.snoc {n:Nat} {l:List Lin} {x:Lin} (h:Short n l) (hx:x.clause.length≤24):Short (n+1) (l++[x]):=by
 refine⟨by have:=h.1;simp;omega,fun y hy=>?_⟩
 rcases List.mem_append.1 hy with hy | hy
 ·exact h.2 y hy
 ·rw [List.mem_singleton.1 hy];exact hx
theorem Short.le {n m:Nat} {l:List Lin} (h:Short n l) (hm:n≤m):Short m l:=⟨Nat.le_trans h.1 hm,h.2⟩
theorem runLog_short:∀(f n k:Nat) (g:Lg),Short k g.lines→Short (k+f) (runLog f n g).1.lines
 | 0,_,_,_,h=>h
 | f+1,n,k,g,h=>by
  rw [runLog_succ]
  cases he:stepLog g with
  | none=>exact h.le (by omega)
  | some x=>
   dsimp only
   have hx:Short (k+1) x.lines:=by
    unfold stepLog at he
    split at he
    ·cases he
    ·unfold infLog at he
     split at he
     ·rename_i s _ hk
      cases he
      simp only [inferOk,Bool.and_eq_true,decide_eq_true_eq] at hk
      exact h.snoc (x:=sayLine s) (check_len hk.1)
     ·cases he
   have:=runLog_short f (n+1) (k+1) x hx
   rwa [show k+(f+1)=k+1+f by omega]
theorem refute_short (p:Proj):Short 62 (refuteRules p).1:=by
 have h0:Short 62 ([]:List Lin):=⟨by simp,fun x hx=>by simp at hx⟩
 unfold refuteRules
 split
 ·exact h0
 ·rename_i g hg
  split
  ·exact h0
  ·rename_i h hs
   have hg0:Short 0 g.lines:=by
    unfold logNew at hg
    split at hg
    ·cases hg;exact⟨Nat.le_refl _,fun x hx=>by simp at hx⟩
    ·cases hg
   have h1:=runLog_short 60 0 0 g hg0
   unfold stopLog at hs
   split at hs
   ·cases hs
   ·split at hs
    ·rename_i hk
     cases hs
     exact (h1.snoc (check_len hk.1)).snoc (check_len hk.2)
    ·cases hs
theorem short_cnt {l:List Lin} (h:Short 62 l):0≤cntS Lin.cnt l∧cntS Lin.cnt l≤100000:=by
 refine⟨cnt_nonneg fun x _=>x.cnt_nn,?_⟩
 have h1:=cnt_le (c:=Lin.cnt) (B:=100) (l:=l) fun x hx=>by
  have:=h.2 x hx
  have:=cnt_lits x.clause
  unfold Lin.cnt;omega
 have:=h.1
 omega
theorem law_RefuteByRules (p:Proj) (hp:p.fine) (z0:0≤szProject p 1048576) (r:List Lin) (ok:Bool) (hr:(refuteRules p).1=r) (hok:(refuteRules p).2=ok):
  LawLin Tryz.prog tab lim Tryz.f8 (Tryz.f8.body.getD .skip) 5 1 3 3 [p.av] [(1,true,p.av)] [(4,false,.sl (r.map Lin.av)),(5,false,.bool ok)] [(6,true,p.av)] [(8,false,.bool ok)] 7 10
   (r.map Lin.av) (markRow (rowF cmLineS) (r.map Lin.av) 1).1 (1+cntS Lin.cnt r) 36 300001 128 (markRow (rowF cmLineS)) (fun m=>∀x∈m,seLineS x):=by
 have s0:Sz 1048576:=by unfold Sz;omega
 have s1:=szProject_ok (x:=p) s0
 have m0:=szProject_m p _ z0
 have c0:=p.cnt_nn
 have hc:0≤cntS Lin.cnt r∧cntS Lin.cnt r≤100000:=hr ▸ short_cnt (refute_short p)
 have hI:=impl_RefuteByRules p hp
 have hS:=spec_RefuteByRules p hp
 rw [RLinesL,hr,hok] at hI
 rw [RLinesD,hr,hok] at hS
 have hM:=cnt_Lin r 1
 refine⟨⟨by simp,by simp⟩,?_,by simp [AV.scalar],by kernel_rfl,by kernel_rfl,by kernel_rfl,by kernel_rfl,?_,?_,?_,?_,⟨sem_LineS,ok_Lin r,Prod.ext rfl hM,by omega⟩,?_⟩
 ·intro x hx
  simp only [List.mem_append,List.mem_cons,List.not_mem_nil,or_false] at hx
  rcases hx with rfl | (rfl | rfl)
  ·exact Proj_md p
  ·exact mdS Lin_md r
  ·rfl
 ·(repeat' ((conv=>whnf);first | with_reducible refine Br.no (decide_eq_false (by omega)) ?_ | refine gA ?_ | ((with_reducible first | refine gD (fun h=>?_) (fun h=>?_) | refine gE (fun h=>?_) (fun h=>?_)) <;> (try simp only [lm] at h) <;> try have hw:=wn h) | refine gC (laws_szProject p _ s0 hp) ?_ | refine gC (laws_toProject p) ?_ | refine gC (hS) ?_ | intro _)) <;> (try (conv=>whnf))
  (refine And.intro rfl ?_ <;> (repeat' ((conv=>whnf) <;> (first | exact trivial | exact rfl | with_reducible refine And.intro ?_ ?_))))
 ·(repeat' ((conv=>whnf);first | refine gA ?_ | ((with_reducible first | refine gD (fun h=>?_) (fun h=>?_) | refine gE (fun h=>?_) (fun h=>?_)) <;> (try simp only [lm] at h) <;> try have hw:=wn h) | refine gC (laws_otoProject p) ?_ | intro _)) <;> (try (conv=>whnf))
  (refine And.intro rfl ?_ <;> (repeat' ((conv=>whnf) <;> (first | exact trivial | exact rfl | with_reducible refine And.intro ?_ ?_))))
 ·(repeat' ((conv=>whnf);first | with_reducible refine Br.yes (beq_self_eq_true _) ?_ | with_reducible refine Br.no rfl ?_ | refine gA ?_ | ((with_reducible first | refine gD (fun h=>?_) (fun h=>?_) | refine gE (fun h=>?_) (fun h=>?_)) <;> (try simp only [lm] at h) <;> try have hw:=wn h) | refine gC (laws_toProject p) ?_ | refine gC (hI) ?_ | refine gC (laws_eqLineS r) ?_ | refine gC (laws_eqProject p) ?_ | intro _)) <;> (try (conv=>whnf))
  (refine And.intro rfl ?_ <;> (repeat' ((conv=>whnf) <;> (first | exact trivial | exact rfl | with_reducible refine And.intro ?_ ?_))))
 ·rw [show ([(6,true,p.av)]:List Fact).map toS= [(6,.oldref p.sh)] from by
   simp only [List.map_cons,List.map_nil,toS,cond_true]
   rw [Proj.sh_eq]]
  (repeat' ((conv=>whnf);first | with_reducible refine Br.yes (beq_self_eq_true _) ?_ | with_reducible refine Br.no (decide_eq_false (by omega)) ?_ | with_reducible refine Br.no rfl ?_ | refine gA ?_ | ((with_reducible first | refine gD (fun h=>?_) (fun h=>?_) | refine gE (fun h=>?_) (fun h=>?_)) <;> (try simp only [lm] at h) <;> try have hw:=wn h) | refine gC (laws_markProject p 1 (by omega)) ?_ | refine gC (laws_eqLineS r) ?_ | intro _)) <;> (try (conv=>whnf))
  (refine And.intro rfl ?_ <;> (repeat' ((conv=>whnf) <;> (first | exact trivial | exact rfl | with_reducible refine And.intro ?_ ?_))))
 ·have hH:=laws_mheldLineS (r.map Lin.av) 1 (by omega) (ok_Lin r) (by omega)
  rw [hM] at hH
  refine⟨_,_,_,_,62,63,64,_,rfl,⟨⟨_,rfl,rfl,rfl,rfl⟩,⟨_,_,_,_,_,rfl,rfl,rfl,rfl,rfl,rfl,rfl,rfl,rfl,rfl,rfl,rfl,rfl,rfl,rfl⟩⟩,by decide,by simp,by decide,by kernel_rfl,?_⟩
  (repeat' ((conv=>whnf);first | with_reducible refine Br.yes (decide_eq_true rfl) ?_ | with_reducible refine Br.yes (beq_self_eq_true _) ?_ | with_reducible refine Br.no (decide_eq_false (by omega)) ?_ | with_reducible refine Br.no rfl ?_ | refine gA ?_ | ((with_reducible first | refine gD (fun h=>?_) (fun h=>?_) | refine gE (fun h=>?_) (fun h=>?_)) <;> (try simp only [lm] at h) <;> try have hw:=wn h) | refine gC (hH) ?_ | refine gC (laws_toProject p) ?_ | refine gC (hI) ?_ | refine gC (laws_eqLineS r) ?_ | intro _)) <;> (try (conv=>whnf))
  all_goals exact⟨rfl,rfl,trivial⟩
theorem law_RefuteByRules_no (p:Proj) (hp:p.fine) (z:¬ 0≤szProject p 1048576):
  Con 8 [.d p.av] (.d (.bool true)):=by
 refine con Tryz.func8 rfl rfl Tryz.call8 rfl fun hwf=>?_
 have s0:Sz 1048576:=by unfold Sz;omega
 (repeat' ((conv=>whnf);first | with_reducible refine Br.yes (decide_eq_true (by omega)) ?_ | refine gA ?_ | ((with_reducible first | refine gD (fun h=>?_) (fun h=>?_) | refine gE (fun h=>?_) (fun h=>?_)) <;> (try simp only [lm] at h) <;> try have hw:=wn h) | refine gC (laws_szProject p _ s0 hp) ?_ | intro _)) <;> (try (conv=>whnf))
 exact⟨rfl,rfl,trivial⟩
theorem law_RefuteByRules_calls (p:Proj) (hp:p.fine) {w:World} {vs:List Value} (hargs:All2 (RepV (fun b=>b < w.heap.size) w lim) [p.av] vs):
  Calls Tryz.prog 8 vs.toArray w fun e w'=>e= .returned (.bool true)∧Below w.heap.size w w':=by
 by_cases z:0≤szProject p 1048576
 ·exact law_lin tabOk (by decide) (by decide) mixed Tryz.func8 rfl (law_RefuteByRules p hp z _ _ rfl rfl) (by simp only [List.length_cons,List.length_nil];decide) hargs
 ·exact calls_of_con (args:=[p.av]) (law_RefuteByRules_no p hp z) hargs
end Go.Proofs.YtkiohdpapinecaaGreat.Abs
