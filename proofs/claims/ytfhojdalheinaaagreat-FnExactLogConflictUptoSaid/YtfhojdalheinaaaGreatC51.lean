/- Contracts: logs as separate data: decisions. No statement of a claim. -/
import Derived.Test.YtfhojdalheinaaaGreatLg
import Derived.Test.YtfhojdalheinaaaGreatC15
set_option linter.all false
set_option linter.unusedVariables false
set_option linter.unusedSimpArgs false
set_option maxRecDepth 20000
set_option maxHeartbeats 40000000
namespace Go.Proofs.YtfhojdalheinaaaGreat.Abs
open Go.Proofs Go.RowKit
attribute [local irreducible] firstInf findRef checkLine status litValue
def RLogL (o:Option Lg):RV:=.tup [RLgL (o.getD noLog),.d (.bool o.isSome)]
theorem RLogL_some (h:Lg):RLogL (some h)= .tup [RLgL h,.d (.bool true)]:=rfl
theorem RLogL_none:RLogL none= .tup [RLgL noLog,.d (.bool false)]:=rfl
def decOk (g:Lg) (l:Lit):Bool:=logOk g&&(litOk g.proj l&& !decide ((g.decs.length:Int)=20))
def decLog (g:Lg) (l:Lit):Option Lg:=if decOk g l=true then some ⟨g.proj,restrict g.dom l,g.decs++[l],g.lines⟩ else none
def RLgQ (g:Lg):RV:=.agg [.d (i64 g.proj.dead),.d (.sl (g.proj.acts.map Activ.av)),.d (.sl (g.proj.links.map Link.av)),.d (.sl (g.proj.ress.map Resrc.av)),.d (ints g.proj.stocks),.d (ints g.dom.lo),.d (ints g.dom.hi),.d (.sl (g.dom.modes.map ints)),.own 69 (g.decs.map Lit.av),.d (.sl (g.lines.map Lin.av))]
end Go.Proofs.YtfhojdalheinaaaGreat.Abs
set_option linter.unusedVariables false
set_option linter.unusedSimpArgs false
set_option maxRecDepth 20000
set_option maxHeartbeats 40000000
namespace Go.Proofs.YtfhojdalheinaaaGreat.Abs
open Go.Proofs Go.RowKit
attribute [local irreducible] firstInf findRef checkLine status litValue
def confLog (g:Lg):Option Lg:=if logOk g=true then stopLog g else none
theorem impl_conflict_lin (g:Lg) (hp:g.proj.fine):Con 89 [.d g.av] (RLogL (stopLog g)):=by
 refine con Tryz.func89 rfl rfl Tryz.call89 rfl fun hwf=>?_
 simp only [ARs.wf,AR.wf,AV.wf,AV.wfs,List.length_map,lim] at hwf
 have hR:=impl_FindRefutation g.proj g.dom hp
 cases hf:findRef g.proj g.dom with
 | none=>
  rw [RRul,hf] at hR
  dsimp only [Option.getD,Option.isSome] at hR
  rw [stopLog_eq,hf]
  (repeat' ((conv=>whnf);first | refine gA ?_ | (refine gB ?_ ?_ <;> intro h) | (refine gI ?_;intro x hx) | (refine gJ ?_;intro j x hj hx) | refine gP ?_ | refine gV ?_ | refine gC (hR) ?_ | intro _)) <;> try (conv=>whnf)
  (repeat' ((conv=>whnf) <;> (first | exact trivial | exact VC.nod (by kernel_rfl) | refine VC.mk rfl ?_)))
 | some r=>
 rw [RRul,hf] at hR
 dsimp only [Option.getD,Option.isSome] at hR
 have hE:=impl_ExplainRefutation_lin g.proj g.dom r hp
 have hN:=(impl_NewClause (g.decs.map negate)).own_lin rfl
 have hC1:=impl_CheckLine g.proj g.lines (ruleLine g r) hp
 have hC2:=impl_CheckLine g.proj (g.lines++[ruleLine g r]) (unitLine g) hp
 generalize hRR:stopLog g=R
 have hst:R=if checkLine g.proj g.lines (ruleLine g r)=0∧checkLine g.proj (g.lines++[ruleLine g r]) (unitLine g)=0 then some ⟨g.proj,g.dom,g.decs,g.lines++[ruleLine g r]++[unitLine g]⟩ else none:=by rw [← hRR,stopLog_eq,hf]
 (repeat' ((conv=>whnf);first | refine gA ?_ | (refine gB ?_ ?_ <;> intro h) | (refine gI ?_;intro x hx) | (refine gJ ?_;intro j x hj hx) | refine gP ?_ | refine gV ?_ | refine gC (hR) ?_ | refine gC (impl_copiedLg g) ?_ | intro _)) <;> try (conv=>whnf)
 refine loopF [1,2,4,6,27,28] [1,4,6] [25] ?_
 (conv=>whnf)
 refine LoopC.go ((Nat)×(List Lit)) (fun⟨k,o⟩=>(k≤g.decs.length)∧(o=(g.decs.take k).map negate)) (fun⟨k,o⟩=>[(29,.data (i64 k)),(7,.own 25 0)]) (fun⟨k,o⟩=>[(2,[.undef,.undef,.undef,.undef,.undef,.undef,.undef,.undef,.undef,.undef])]) (fun⟨k,o⟩=>[(25,69,o.map Lit.av,1)]) (fun⟨k,o⟩=>g.decs.length - k) ⟨0,[]⟩ ?_ ?_
 ·exact⟨Nat.zero_le _,rfl⟩
 rintro⟨k,o⟩ ⟨hk,ho⟩
 by_cases hlt:k < g.decs.length
 ·obtain⟨x,hx⟩:∃x,g.decs[k]? =some x:=⟨g.decs[k]'hlt,by simp⟩
  have hol:o.length≤k:=by rw [ho];simp;omega
  (repeat' ((conv=>whnf);first | with_reducible refine Idx.got hx rfl ?_ | (exfalso;omega) | refine gA ?_ | (refine gB ?_ ?_ <;> intro h) | (refine gI ?_;intro x hx) | (refine gJ ?_;intro j x hj hx) | refine gP ?_ | refine gV ?_ | refine gC (impl_Negate x) ?_ | intro _)) <;> try (conv=>whnf)
  refine nw ⟨k+1,o++[negate x]⟩ ?_ ?_
  ·(repeat' ((conv=>whnf) <;> (first | exact trivial | exact rfl | with_reducible refine And.intro ?_ ?_))) <;> ((conv=>whnf) <;> (simp))
  exact⟨by omega,by rw [ho, ← map_snoc negate hx]⟩
 obtain rfl:o=g.decs.map negate:=by rw [ho,List.take_of_length_le (by omega)]
 (repeat' ((conv=>whnf);first | (exfalso;omega) | refine gA ?_ | (refine gB ?_ ?_ <;> intro h) | (refine gI ?_;intro x hx) | (refine gJ ?_;intro j x hj hx) | refine gP ?_ | refine gV ?_ | refine gC (hE) ?_ | refine gC (hN) ?_ | intro _)) <;> try (conv=>whnf)
 refine loopF [2,6,50,51] [6] [250010,46000,49000] ?_
 (conv=>whnf)
 refine LoopC.go Nat (fun k=>k≤2∧(0 < k→checkLine g.proj g.lines (ruleLine g r)=0)∧(1 < k→checkLine g.proj (g.lines++[ruleLine g r]) (unitLine g)=0)) (fun k=>[(52,.data (i64 k))]) (fun k=>[(50,stopCells (ruleLine g r) (unitLine g) k),(2,[.undef,.undef,.undef,.undef,.undef,.undef,.undef,.undef,.undef,.undef])]) (fun k=>(250010,189,(stopLines g (ruleLine g r) (unitLine g) k).map Lin.av,1)::stopToks (ruleLine g r) (unitLine g) k) (fun k=>2 - k) 0 ?_ ?_
 ·exact⟨by omega,fun h=>by omega,fun h=>by omega⟩
 rintro k ⟨hk,h1,h2⟩
 rcases k with _ | _ | k
 ·by_cases hc:checkLine g.proj g.lines (ruleLine g r)=0
  ·rw [hc] at hC1
   have hl0:(stopLines g (ruleLine g r) (unitLine g) 0).length < 300:=check_few hc
   (repeat' ((conv=>whnf);first | (exfalso;omega) | refine gA ?_ | (refine gB ?_ ?_ <;> intro h) | (refine gI ?_;intro x hx) | (refine gJ ?_;intro j x hj hx) | refine gP ?_ | refine gV ?_ | refine gC (hC1) ?_ | intro _)) <;> try (conv=>whnf)
   all_goals first
    | (exfalso;exact absurd trivial (by assumption))
    | (refine nw ((1)) ?_ ?_
       ·(repeat' ((conv=>whnf) <;> (first | exact trivial | exact rfl | with_reducible refine And.intro ?_ ?_))) <;> ((conv=>whnf) <;> (simp [stopLines]))
       exact⟨by omega,fun _=>hc,fun h=>by omega⟩)
  ·obtain rfl:R=none:=by rw [hst,if_neg (fun h=>hc h.1)]
   (repeat' ((conv=>whnf);first | (exfalso;omega) | refine gA ?_ | (refine gB ?_ ?_ <;> intro h) | (refine gI ?_;intro x hx) | (refine gJ ?_;intro j x hj hx) | refine gP ?_ | refine gV ?_ | refine gC (hC1) ?_ | intro _)) <;> try (conv=>whnf)
   all_goals first
    | (exfalso;omega)
    | (exfalso;exact absurd trivial (by assumption))
    | (repeat' ((conv=>whnf) <;> (first | exact trivial | exact VC.nod (by kernel_rfl) | refine VC.mk rfl ?_)))
 ·by_cases hc2:checkLine g.proj (g.lines++[ruleLine g r]) (unitLine g)=0
  ·rw [hc2] at hC2
   have hl1:(stopLines g (ruleLine g r) (unitLine g) (0+1)).length < 300:=check_few hc2
   (repeat' ((conv=>whnf);first | (exfalso;omega) | refine gA ?_ | (refine gB ?_ ?_ <;> intro h) | (refine gI ?_;intro x hx) | (refine gJ ?_;intro j x hj hx) | refine gP ?_ | refine gV ?_ | refine gC (hC2) ?_ | intro _)) <;> try (conv=>whnf)
   all_goals first
    | (exfalso;exact absurd trivial (by assumption))
    | (refine nw ((2)) ?_ ?_
       ·(repeat' ((conv=>whnf) <;> (first | exact trivial | exact rfl | with_reducible refine And.intro ?_ ?_))) <;> ((conv=>whnf) <;> (simp [stopLines,unitLine,noRule]))
       exact⟨by omega,fun _=>h1 (by omega),fun _=>hc2⟩)
  ·obtain rfl:R=none:=by rw [hst,if_neg (fun h=>hc2 h.2)]
   (repeat' ((conv=>whnf);first | (exfalso;omega) | refine gA ?_ | (refine gB ?_ ?_ <;> intro h) | (refine gI ?_;intro x hx) | (refine gJ ?_;intro j x hj hx) | refine gP ?_ | refine gV ?_ | refine gC (hC2) ?_ | intro _)) <;> try (conv=>whnf)
   all_goals first
    | (exfalso;omega)
    | (exfalso;exact absurd trivial (by assumption))
    | (repeat' ((conv=>whnf) <;> (first | exact trivial | exact VC.nod (by kernel_rfl) | refine VC.mk rfl ?_)))
 ·obtain rfl:k=0:=by omega
  obtain rfl:R=some ⟨g.proj,g.dom,g.decs,g.lines++[ruleLine g r]++[unitLine g]⟩:=by rw [hst,if_pos ⟨h1 (by omega),h2 (by omega)⟩]
  (repeat' ((conv=>whnf);first | (exfalso;omega) | refine gA ?_ | (refine gB ?_ ?_ <;> intro h) | (refine gI ?_;intro x hx) | (refine gJ ?_;intro j x hj hx) | refine gP ?_ | refine gV ?_ | intro _)) <;> try (conv=>whnf)
  (repeat' ((conv=>whnf) <;> (first | exact trivial | exact VC.nod (by kernel_rfl) | refine VC.mk rfl ?_)))
theorem impl_LogConflict (g:Lg) (hp:g.proj.fine):Con 28 [.d g.av] (RLogL (confLog g)):=by
 refine con Tryz.func28 rfl rfl Tryz.call28 rfl fun hwf=>?_
 have hO:=impl_LogOk g hp
 have hC:=impl_conflict_lin g hp
 cases ho:logOk g with
 | true=>
  rw [ho] at hO
  rw [confLog,if_pos ho]
  generalize stopLog g=R at hC ⊢
  cases R with
  | none=>rw [RLogL_none] at hC ⊢;(repeat' ((conv=>whnf);first | refine gA ?_ | (refine gB ?_ ?_ <;> intro h) | refine gC (hO) ?_ | refine gC (hC) ?_ | intro _)) <;> try (conv=>whnf);(repeat' ((conv=>whnf) <;> (first | exact trivial | exact VC.nod (by kernel_rfl) | refine VC.mk rfl ?_)))
  | some h=>rw [RLogL_some] at hC ⊢;(repeat' ((conv=>whnf);first | refine gA ?_ | (refine gB ?_ ?_ <;> intro h) | refine gC (hO) ?_ | refine gC (hC) ?_ | intro _)) <;> try (conv=>whnf);(repeat' ((conv=>whnf) <;> (first | exact trivial | exact VC.nod (by kernel_rfl) | refine VC.mk rfl ?_)))
 | false=>
  rw [ho] at hO
  rw [confLog,if_neg (by simp [ho])]
  (repeat' ((conv=>whnf);first | refine gA ?_ | (refine gB ?_ ?_ <;> intro h) | refine gC (hO) ?_ | intro _)) <;> try (conv=>whnf)
  (repeat' ((conv=>whnf) <;> (first | exact trivial | exact VC.nod (by kernel_rfl) | refine VC.mk rfl ?_)))
theorem spec_LogConflict (g:Lg) (hp:g.proj.fine):Con 27 [.d g.av] (RLogD (confLog g)):=by
 refine con Tryz.func27 rfl rfl Tryz.call27 rfl fun hwf=>?_
 have hO:=spec_LogOk g hp
 have hC:=spec_l22Stop g hp
 cases ho:logOk g with
 | true=>
  rw [ho] at hO
  rw [confLog,if_pos ho]
  generalize stopLog g=R at hC ⊢
  (repeat' ((conv=>whnf);first | refine gA ?_ | (refine gB ?_ ?_ <;> intro h) | refine gC (hO) ?_ | refine gC (hC) ?_ | intro _)) <;> try (conv=>whnf)
  (repeat' ((conv=>whnf) <;> (first | exact trivial | exact VC.nod (by kernel_rfl) | refine VC.mk rfl ?_)))
 | false=>
  rw [ho] at hO
  rw [confLog,if_neg (by simp [ho])]
  (repeat' ((conv=>whnf);first | refine gA ?_ | (refine gB ?_ ?_ <;> intro h) | refine gC (hO) ?_ | intro _)) <;> try (conv=>whnf)
  (repeat' ((conv=>whnf) <;> (first | exact trivial | exact VC.nod (by kernel_rfl) | refine VC.mk rfl ?_)))
end Go.Proofs.YtfhojdalheinaaaGreat.Abs
