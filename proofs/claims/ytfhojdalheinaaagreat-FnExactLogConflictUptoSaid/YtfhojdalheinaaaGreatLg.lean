/- Contracts: logs that are made, copied, and grow. No statement of a claim. -/
import Derived.Test.YtfhojdalheinaaaGreatC35
import Derived.Test.YtfhojdalheinaaaGreatC30
import Derived.Test.YtfhojdalheinaaaGreatPlain
set_option linter.all false
set_option linter.unusedVariables false
set_option linter.unusedSimpArgs false
set_option maxRecDepth 20000
set_option maxHeartbeats 40000000
namespace Go.Proofs.YtfhojdalheinaaaGreat.Abs
open Go.Proofs Go.RowKit
attribute [local irreducible] firstInf findRef checkLine status litValue
def sayLine (s:Infer):Lin:=⟨1,s.rule,s.clause⟩
def says (g:Lg) (s:Infer):Bool:=(decide ((status g.dom s.clause).1=0)&&(!sameLit (status g.dom s.clause).2 zeroLit&&sameLit (status g.dom s.clause).2 s.lit))||(decide ((status g.dom s.clause).1=1)&&decide (litValue g.dom s.lit=1))
def inferOk (g:Lg) (s:Infer):Bool:=decide (checkLine g.proj g.lines (sayLine s)=0)&&says g s
def saidLog (g:Lg) (s:Infer):Lg:=⟨g.proj,restrict g.dom s.lit,g.decs,g.lines++[sayLine s]⟩
def infLog (g:Lg) (s:Infer):Option Lg:=if inferOk g s=true then some (saidLog g s) else none
def RLogD (o:Option Lg):RV:=.tup [.d (o.getD noLog).av,.d (.bool o.isSome)]
def RLgL (g:Lg):RV:=.agg [.d (i64 g.proj.dead),.lin 143 (g.proj.acts.map Activ.av),.lin 159 (g.proj.links.map Link.av),.lin 149 (g.proj.ress.map Resrc.av),.lin 3 (g.proj.stocks.map i64),.lin 3 (g.dom.lo.map i64),.lin 3 (g.dom.hi.map i64),.lin 25 (g.dom.modes.map ints),.lin 69 (g.decs.map Lit.av),.lin 189 (g.lines.map Lin.av)]
def logNew (p:Proj):Option Lg:=if projOk p=true then some ⟨p,initDom p,[],[]⟩ else none
theorem pickL_all (ls:List Lin):pickL ls (upTo ls.length)=ls:=by
 unfold pickL upTo
 rw [List.map_map]
 refine List.ext_getElem? fun i=>?_
 rw [List.getElem?_map]
 by_cases h:i < ls.length
 ·rw [List.getElem?_range h]
  simp [lineAt,List.getD_eq_getElem?_getD,h]
 ·rw [List.getElem?_eq_none (by simpa using h),List.getElem?_eq_none (by omega)];rfl
theorem impl_allOf (ls:List Lin):Con 155 [.d (.sl (ls.map Lin.av))] (.d (ints (upTo ls.length))):=by
 refine con Tryz.func155 rfl rfl Tryz.call155 rfl fun hwf=>?_
 simp only [ARs.wf,AR.wf,AV.wf,AV.wfs,List.length_map,lim] at hwf
 (repeat' ((conv=>whnf);first | refine gA ?_ | (refine gB ?_ ?_ <;> intro h) | refine gP ?_ | refine gV ?_ | intro _)) <;> try (conv=>whnf)
 refine loopF [7] [] [5] ?_
 (conv=>whnf)
 refine LoopC.go ((Nat)) (fun k=>(k≤ls.length)) (fun k=>[(8,.data (i64 k)),(3,.own 5 0)]) (fun _=>[]) (fun k=>[(5,3,(upTo k).map i64,0)]) (fun k=>ls.length - k) (0) ?_ ?_
 ·exact Nat.zero_le _
 rintro k hk
 by_cases hlt:k < ls.length
 ·(repeat' ((conv=>whnf);first | refine gA ?_ | (refine gB ?_ ?_ <;> intro h) | refine gP ?_ | refine gV ?_ | intro _)) <;> try (conv=>whnf)
  ·refine nw (k+1) ?_ ?_
   ·(repeat' ((conv=>whnf) <;> (first | exact trivial | exact rfl | with_reducible refine And.intro ?_ ?_))) <;> ((conv=>whnf) <;> (exact upTo_map k))
   exact (by omega:k+1≤ls.length)
  ·exfalso;omega
 ·obtain rfl:k=ls.length:=by omega
  (repeat' ((conv=>whnf);first | (exfalso;omega) | refine gA ?_ | (refine gB ?_ ?_ <;> intro h) | refine gP ?_ | refine gV ?_ | intro _)) <;> try (conv=>whnf)
  exact⟨rfl,rfl,trivial⟩
theorem impl_copiedLg (g:Lg):Con 76 [.d g.av] (RLgL g):=by
 refine con Tryz.func76 rfl rfl Tryz.call76 rfl fun hwf=>?_
 have hl:=impl_linesAt_lin g.lines (upTo g.lines.length) (fun i hi=>upTo_mem hi)
 rw [pickL_all] at hl
 (repeat' ((conv=>whnf);first | refine gA ?_ | (refine gB ?_ ?_ <;> intro h) | refine gC (impl_copiedProj_lin g.proj) ?_ | refine gC (impl_copiedDom_lin g.dom) ?_ | refine gC (cloneLit_lin g.decs) ?_ | refine gC (impl_allOf g.lines) ?_ | refine gC (hl) ?_ | intro _)) <;> try (conv=>whnf)
 (repeat' ((conv=>whnf) <;> (first | exact trivial | exact VC.nod (by kernel_rfl) | refine VC.mk rfl ?_)))
def RLgI (g:Lg):RV:=.agg [.d (i64 g.proj.dead),.d (.sl (g.proj.acts.map Activ.av)),.d (.sl (g.proj.links.map Link.av)),.d (.sl (g.proj.ress.map Resrc.av)),.d (ints g.proj.stocks),.d (ints g.dom.lo),.d (ints g.dom.hi),.d (.sl (g.dom.modes.map ints)),.d (lits g.decs),.own 189 (g.lines.map Lin.av)]
def RLgP (g:Lg):RV:=.agg [.d (i64 g.proj.dead),.lin 143 (g.proj.acts.map Activ.av),.lin 159 (g.proj.links.map Link.av),.lin 149 (g.proj.ress.map Resrc.av),.lin 3 (g.proj.stocks.map i64),.junk,.junk,.junk,.junk,.lin 189 (g.lines.map Lin.av)]
theorem check_few {p:Proj} {a:List Lin} {l:Lin} (h:checkLine p a l=0):a.length < 300:=by
 unfold checkLine at h
 split at h
 ·rename_i hn
  have:=hn.2.2
  omega
 ·cases h
def stepLog (g:Lg):Option Lg:=match firstInf g.proj g.dom with | none=>none | some s=>infLog g s
def runLog:Nat→Nat→Lg→Lg×Nat
 | 0,n,g=>(g,n)
 | f+1,n,g=>match stepLog g with | none=>(g,n) | some h=>runLog f (n+1) h
def RRun (r:Lg×Nat):RV:=.tup [.d r.1.av,.d (i64 r.2)]
end Go.Proofs.YtfhojdalheinaaaGreat.Abs
set_option linter.unusedVariables false
set_option linter.unusedSimpArgs false
set_option maxRecDepth 20000
set_option maxHeartbeats 40000000
namespace Go.Proofs.YtfhojdalheinaaaGreat.Abs
open Go.Proofs Go.RowKit
attribute [local irreducible] firstInf findRef checkLine status litValue
theorem impl_ExplainRefutation_lin (p:Proj) (b:Dom) (r:Rul) (hp:p.fine):Con 174 [.d p.av,.d b.av,.d r.av] (.lin 69 ((explain p b r).map Lit.av)):=by
 refine con Tryz.func174 rfl rfl Tryz.call174 rfl fun hwf=>?_
 (repeat' ((conv=>whnf);first | refine gA ?_ | (refine gB ?_ ?_ <;> intro h) | refine gC (impl_Refutes p b r hp) ?_ | refine gC (impl_negations p b hp) ?_ | refine gC (impl_NewClause (negs p b)) ?_ | refine gC (impl_shortened_lin p r (newClause (negs p b)) 260 [] _ hp (fun x=>impl_ExplainRefutation1 x)) ?_ | intro _)) <;> try (conv=>whnf)
 ·rw [explain,if_pos (by assumption)]
  (repeat' ((conv=>whnf) <;> (first | exact trivial | exact VC.nod (by kernel_rfl) | refine VC.mk rfl ?_)))
 ·rw [explain,if_neg (by simp [*])]
  (repeat' ((conv=>whnf) <;> (first | exact trivial | exact VC.nod (by kernel_rfl) | refine VC.mk rfl ?_)))
def ruleLine (g:Lg) (r:Rul):Lin:=⟨1,r,explain g.proj g.dom r⟩
def unitLine (g:Lg):Lin:=⟨2,noRule,newClause (g.decs.map negate)⟩
def stopLog (g:Lg):Option Lg:=match findRef g.proj g.dom with
 | none=>none
 | some r=>if checkLine g.proj g.lines (ruleLine g r)=0∧checkLine g.proj (g.lines++[ruleLine g r]) (unitLine g)=0 then some ⟨g.proj,g.dom,g.decs,g.lines++[ruleLine g r]++[unitLine g]⟩ else none
theorem stopLog_eq (g:Lg):stopLog g=(match findRef g.proj g.dom with
 | none=>none
 | some r=>if checkLine g.proj g.lines (ruleLine g r)=0∧checkLine g.proj (g.lines++[ruleLine g r]) (unitLine g)=0 then some ⟨g.proj,g.dom,g.decs,g.lines++[ruleLine g r]++[unitLine g]⟩ else none):=rfl
def RStopN (o:Option Lg):RV:=.tup [.agg [.junk,.junk,.junk,.junk,.junk,.junk,.junk,.junk,.junk,.lin 189 ((o.getD noLog).lines.map Lin.av)],.d (.bool o.isSome)]
def stopCells (a b:Lin) (k:Nat):List SV:=
 match k with
 | 0=>[.data (i64 a.kind),.data (i64 a.rule.kind),.data (i64 a.rule.a),.data (i64 a.rule.b),.data (i64 a.rule.c),.own 46000 0,.data (i64 b.kind),.data (i64 0),.data (i64 0),.data (i64 0),.data (i64 0),.own 49000 0]
 | 1=>[.data (i64 a.kind),.data (i64 a.rule.kind),.data (i64 a.rule.a),.data (i64 a.rule.b),.data (i64 a.rule.c),.data (lits a.clause),.data (i64 b.kind),.data (i64 0),.data (i64 0),.data (i64 0),.data (i64 0),.own 49000 0]
 | _=>[.data (i64 a.kind),.data (i64 a.rule.kind),.data (i64 a.rule.a),.data (i64 a.rule.b),.data (i64 a.rule.c),.data (lits a.clause),.data (i64 b.kind),.data (i64 0),.data (i64 0),.data (i64 0),.data (i64 0),.data (lits b.clause)]
def stopLines (g:Lg) (a b:Lin) (k:Nat):List Lin:=
 match k with
 | 0=>g.lines
 | 1=>g.lines++[a]
 | _=>g.lines++[a]++[b]
def stopToks (a b:Lin) (k:Nat):List (Nat×Nat×List AV×Nat):=
 match k with
 | 0=>[(46000,69,a.clause.map Lit.av,1),(49000,69,b.clause.map Lit.av,1)]
 | 1=>[(49000,69,b.clause.map Lit.av,1)]
 | _=>[]
end Go.Proofs.YtfhojdalheinaaaGreat.Abs
set_option linter.unusedVariables false
set_option linter.unusedSimpArgs false
set_option maxRecDepth 20000
set_option maxHeartbeats 40000000
namespace Go.Proofs.YtfhojdalheinaaaGreat.Abs
open Go.Proofs Go.RowKit
attribute [local irreducible] firstInf findRef checkLine status litValue
def lineLog (g:Lg) (l:Lin):Option Lg:=if checkLine g.proj g.lines l=0 then some ⟨g.proj,g.dom,g.decs,g.lines++[l]⟩ else none
def RLgO (g:Lg):RV:=.agg [.d (i64 g.proj.dead),.d (.sl (g.proj.acts.map Activ.av)),.d (.sl (g.proj.links.map Link.av)),.d (.sl (g.proj.ress.map Resrc.av)),.d (ints g.proj.stocks),.d (ints g.dom.lo),.d (ints g.dom.hi),.d (.sl (g.dom.modes.map ints)),.d (lits g.decs),.own 189 (g.lines.map Lin.av)]
theorem spec_l20Lines (ls:List Lin):Con 178 [.d (.sl (ls.map Lin.av))] (.own 189 (ls.map Lin.av)):=by
 refine con Tryz.func178 rfl rfl Tryz.call178 rfl fun hwf=>?_
 simp only [ARs.wf,AR.wf,AV.wf,AV.wfs,List.length_map,lim] at hwf
 (repeat' ((conv=>whnf);first | refine gA ?_ | (refine gB ?_ ?_ <;> intro h) | (refine gI ?_;intro x hx) | (refine gJ ?_;intro j x hj hx) | refine gP ?_ | refine gV ?_ | intro _)) <;> try (conv=>whnf)
 refine loopF [7,8] [] [6] ?_
 (conv=>whnf)
 refine LoopC.go ((Nat)) (fun k=>(k≤ls.length)) (fun k=>[(9,.data (i64 k)),(3,.own 6 0)]) (fun _=>[]) (fun k=>[(6,189,(ls.take k).map Lin.av,0)]) (fun k=>ls.length - k) (0) ?_ ?_
 ·exact Nat.zero_le _
 rintro k hk
 by_cases hlt:k < ls.length
 ·obtain⟨x,hx⟩:∃x,ls[k]? =some x:=⟨ls[k]'hlt,by simp⟩
  (repeat' ((conv=>whnf);first | with_reducible refine Idx.got hx rfl ?_ | (exfalso;omega) | refine gA ?_ | (refine gB ?_ ?_ <;> intro h) | (refine gI ?_;intro x hx) | (refine gJ ?_;intro j x hj hx) | refine gP ?_ | refine gV ?_ | refine gC (spec_l20Copy x) ?_ | intro _)) <;> try (conv=>whnf)
  refine nw (k+1) ?_ ?_
  ·(repeat' ((conv=>whnf) <;> (first | exact trivial | exact rfl | with_reducible refine And.intro ?_ ?_))) <;> ((conv=>whnf) <;> (exact map_take_succ Lin.av hx))
  exact (by omega:k+1≤ls.length)
 ·(repeat' ((conv=>whnf);first | (exfalso;omega) | refine gA ?_ | (refine gB ?_ ?_ <;> intro h) | (refine gI ?_;intro x hx) | (refine gJ ?_;intro j x hj hx) | refine gP ?_ | refine gV ?_ | intro _)) <;> try (conv=>whnf)
  refine⟨?_,rfl,trivial⟩
  dsimp only
  rw [List.take_of_length_le (by omega)]
theorem spec_l22Copy (g:Lg):Con 91 [.d g.av] (RLgO g):=by
 refine con Tryz.func91 rfl rfl Tryz.call91 rfl fun hwf=>?_
 simp only [ARs.wf,AR.wf,AV.wf,AV.wfs,List.length_map,lim] at hwf
 (repeat' ((conv=>whnf);first | refine gA ?_ | (refine gB ?_ ?_ <;> intro h) | refine gP ?_ | refine gC (spec_l05Copy g.proj) ?_ | refine gC (spec_l12Copy g.dom) ?_ | refine gC (spec_l20Lines g.lines) ?_ | intro _)) <;> try (conv=>whnf)
 (repeat' ((conv=>whnf) <;> (first | exact trivial | exact VC.nod (by kernel_rfl) | refine VC.mk (by first | with_reducible rfl | (simp;done) | rfl) ?_)))
theorem spec_l22Line (g:Lg) (l:Lin) (hp:g.proj.fine):Con 169 [.d g.av,.d l.av] (RLogD (lineLog g l)):=by
 refine con Tryz.func169 rfl rfl Tryz.call169 rfl fun hwf=>?_
 simp only [ARs.wf,AR.wf,AV.wf,AV.wfs,List.length_map,lim] at hwf
 by_cases hk:checkLine g.proj g.lines l=0
 ·have hfew:=check_few hk
  rw [lineLog,if_pos hk]
  (repeat' ((conv=>whnf);first | with_reducible refine Br.no (by simp [hk]) ?_ | refine gA ?_ | (refine gB ?_ ?_ <;> intro h) | refine gP ?_ | refine gC (spec_CheckLine g.proj g.lines l hp) ?_ | refine gC (spec_l22Copy g) ?_ | refine gC (spec_l20Copy l) ?_ | intro _)) <;> try (conv=>whnf)
  (repeat' ((conv=>whnf) <;> (first | exact trivial | exact VC.nod (by kernel_rfl) | refine VC.mk (by first | with_reducible rfl | (simp;done) | rfl) ?_)))
 ·rw [lineLog,if_neg hk]
  (repeat' ((conv=>whnf);first | with_reducible refine Br.yes (by simp [hk]) ?_ | refine gA ?_ | (refine gB ?_ ?_ <;> intro h) | refine gP ?_ | refine gC (spec_CheckLine g.proj g.lines l hp) ?_ | intro _)) <;> try (conv=>whnf)
  (repeat' ((conv=>whnf) <;> (first | exact trivial | exact VC.nod (by kernel_rfl) | refine VC.mk rfl ?_)))
theorem spec_l22Turn (g:Lg):Con 171 [.d g.av] (.d (lits (newClause (g.decs.map negate)))):=by
 refine con Tryz.func171 rfl rfl Tryz.call171 rfl fun hwf=>?_
 simp only [ARs.wf,AR.wf,AV.wf,AV.wfs,List.length_map,lim] at hwf
 (repeat' ((conv=>whnf);first | refine gA ?_ | (refine gB ?_ ?_ <;> intro h) | (refine gI ?_;intro x hx) | (refine gJ ?_;intro j x hj hx) | refine gP ?_ | refine gV ?_ | intro _)) <;> try (conv=>whnf)
 refine loopF [8,9] [] [6] ?_
 (conv=>whnf)
 refine LoopC.go ((Nat)×(List Lit)) (fun⟨k,o⟩=>(k≤g.decs.length)∧(o=(g.decs.take k).map negate)) (fun⟨k,o⟩=>[(10,.data (i64 k)),(3,.own 6 0)]) (fun _=>[]) (fun⟨k,o⟩=>[(6,69,o.map Lit.av,0)]) (fun⟨k,o⟩=>g.decs.length - k) ⟨0,[]⟩ ?_ ?_
 ·exact⟨Nat.zero_le _,rfl⟩
 rintro⟨k,o⟩ ⟨hk,ho⟩
 by_cases hlt:k < g.decs.length
 ·obtain⟨x,hx⟩:∃x,g.decs[k]? =some x:=⟨g.decs[k]'hlt,by simp⟩
  have hol:o.length≤k:=by rw [ho];simp;omega
  (repeat' ((conv=>whnf);first | with_reducible refine Idx.got hx rfl ?_ | (exfalso;omega) | refine gA ?_ | (refine gB ?_ ?_ <;> intro h) | (refine gI ?_;intro x hx) | (refine gJ ?_;intro j x hj hx) | refine gP ?_ | refine gV ?_ | refine gC (spec_Negate x) ?_ | intro _)) <;> try (conv=>whnf)
  refine nw ⟨k+1,o++[negate x]⟩ ?_ ?_
  ·(repeat' ((conv=>whnf) <;> (first | exact trivial | exact rfl | with_reducible refine And.intro ?_ ?_))) <;> ((conv=>whnf) <;> (simp))
  exact⟨by omega,by rw [ho, ← map_snoc negate hx]⟩
 obtain rfl:o=g.decs.map negate:=by rw [ho,List.take_of_length_le (by omega)]
 (repeat' ((conv=>whnf);first | (exfalso;omega) | refine gA ?_ | (refine gB ?_ ?_ <;> intro h) | (refine gI ?_;intro x hx) | (refine gJ ?_;intro j x hj hx) | refine gP ?_ | refine gV ?_ | refine gC (spec_NewClause (g.decs.map negate)) ?_ | intro _)) <;> try (conv=>whnf)
 exact⟨rfl,rfl,trivial⟩
theorem spec_l22Stop (g:Lg) (hp:g.proj.fine):Con 88 [.d g.av] (RLogD (stopLog g)):=by
 refine con Tryz.func88 rfl rfl Tryz.call88 rfl fun hwf=>?_
 have hR:=spec_FindRefutation g.proj g.dom hp
 cases hf:findRef g.proj g.dom with
 | none=>
  rw [RRul,hf] at hR
  dsimp only [Option.getD,Option.isSome] at hR
  rw [stopLog_eq,hf]
  (repeat' ((conv=>whnf);first | refine gA ?_ | (refine gB ?_ ?_ <;> intro h) | refine gC (hR) ?_ | intro _)) <;> try (conv=>whnf)
  (repeat' ((conv=>whnf) <;> (first | exact trivial | exact VC.nod (by kernel_rfl) | refine VC.mk rfl ?_)))
 | some r=>
 rw [RRul,hf] at hR
 dsimp only [Option.getD,Option.isSome] at hR
 have hL:=spec_l22Line g (ruleLine g r) hp
 have hst:stopLog g=if checkLine g.proj g.lines (ruleLine g r)=0∧checkLine g.proj (g.lines++[ruleLine g r]) (unitLine g)=0 then some ⟨g.proj,g.dom,g.decs,g.lines++[ruleLine g r]++[unitLine g]⟩ else none:=by rw [stopLog_eq,hf]
 by_cases h1:checkLine g.proj g.lines (ruleLine g r)=0
 rotate_left
 ·rw [hst,if_neg (fun h=>h1 h.1)]
  rw [RLogD,lineLog,if_neg h1] at hL
  dsimp only [Option.getD,Option.isSome] at hL
  (repeat' ((conv=>whnf);first | refine gA ?_ | (refine gB ?_ ?_ <;> intro h) | refine gC (hR) ?_ | refine gC (spec_ExplainRefutation g.proj g.dom r hp) ?_ | refine gC (hL) ?_ | intro _)) <;> try (conv=>whnf)
  (repeat' ((conv=>whnf) <;> (first | exact trivial | exact VC.nod (by kernel_rfl) | refine VC.mk rfl ?_)))
 rw [RLogD,lineLog,if_pos h1] at hL
 dsimp only [Option.getD,Option.isSome] at hL
 have hL2:=spec_l22Line ⟨g.proj,g.dom,g.decs,g.lines++[ruleLine g r]⟩ (unitLine g) hp
 by_cases h2:checkLine g.proj (g.lines++[ruleLine g r]) (unitLine g)=0
 ·rw [hst,if_pos ⟨h1,h2⟩]
  rw [RLogD,lineLog,if_pos h2] at hL2
  dsimp only [Option.getD,Option.isSome] at hL2
  (repeat' ((conv=>whnf);first | refine gA ?_ | (refine gB ?_ ?_ <;> intro h) | refine gC (hR) ?_ | refine gC (spec_ExplainRefutation g.proj g.dom r hp) ?_ | refine gC (hL) ?_ | refine gC (spec_l22Turn g) ?_ | refine gC (hL2) ?_ | intro _)) <;> try (conv=>whnf)
  (repeat' ((conv=>whnf) <;> (first | exact trivial | exact VC.nod (by kernel_rfl) | refine VC.mk rfl ?_)))
 ·rw [hst,if_neg (fun h=>h2 h.2)]
  rw [RLogD,lineLog,if_neg h2] at hL2
  dsimp only [Option.getD,Option.isSome] at hL2
  (repeat' ((conv=>whnf);first | refine gA ?_ | (refine gB ?_ ?_ <;> intro h) | refine gC (hR) ?_ | refine gC (spec_ExplainRefutation g.proj g.dom r hp) ?_ | refine gC (hL) ?_ | refine gC (spec_l22Turn g) ?_ | refine gC (hL2) ?_ | intro _)) <;> try (conv=>whnf)
  (repeat' ((conv=>whnf) <;> (first | exact trivial | exact VC.nod (by kernel_rfl) | refine VC.mk rfl ?_)))
def refuteRules (p:Proj):List Lin×Bool:=match logNew p with
 | none=>([],false)
 | some g=>match stopLog (runLog 60 0 g).1 with | none=>([],false) | some h=>(h.lines,true)
def RLinesL (r:List Lin×Bool):RV:=.tup [.lin 189 (r.1.map Lin.av),.d (.bool r.2)]
def RLinesD (r:List Lin×Bool):RV:=.tup [.d (.sl (r.1.map Lin.av)),.d (.bool r.2)]
end Go.Proofs.YtfhojdalheinaaaGreat.Abs
set_option linter.unusedVariables false
set_option linter.unusedSimpArgs false
set_option maxRecDepth 20000
set_option maxHeartbeats 40000000
namespace Go.Proofs.YtfhojdalheinaaaGreat.Abs
open Go.Proofs Go.RowKit
end Go.Proofs.YtfhojdalheinaaaGreat.Abs
