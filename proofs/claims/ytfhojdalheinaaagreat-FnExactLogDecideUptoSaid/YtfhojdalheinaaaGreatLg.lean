/- Contracts: logs that are made, copied, and grow. No statement of a claim. -/
import Derived.Test.YtfhojdalheinaaaGreatC35
import Derived.Test.YtfhojdalheinaaaGreatC30
import Derived.Test.YtfhojdalheinaaaGreatPlain
set_option linter.all false
set_option linter.unusedVariables false
set_option linter.unusedSimpArgs false
set_option maxRecDepth 20000
set_option maxHeartbeats 40000000
namespace Go.Proofs.YtfhojdalheinaaaGreat.Abs
open Go.Proofs Go.RowKit
attribute [local irreducible] firstInf findRef checkLine status litValue
def sayLine (s:Infer):Lin:=⟨1,s.rule,s.clause⟩
def says (g:Lg) (s:Infer):Bool:=(decide ((status g.dom s.clause).1=0)&&(!sameLit (status g.dom s.clause).2 zeroLit&&sameLit (status g.dom s.clause).2 s.lit))||(decide ((status g.dom s.clause).1=1)&&decide (litValue g.dom s.lit=1))
def inferOk (g:Lg) (s:Infer):Bool:=decide (checkLine g.proj g.lines (sayLine s)=0)&&says g s
def saidLog (g:Lg) (s:Infer):Lg:=⟨g.proj,restrict g.dom s.lit,g.decs,g.lines++[sayLine s]⟩
def infLog (g:Lg) (s:Infer):Option Lg:=if inferOk g s=true then some (saidLog g s) else none
def RLogD (o:Option Lg):RV:=.tup [.d (o.getD noLog).av,.d (.bool o.isSome)]
def RLgL (g:Lg):RV:=.agg [.d (i64 g.proj.dead),.lin 143 (g.proj.acts.map Activ.av),.lin 159 (g.proj.links.map Link.av),.lin 149 (g.proj.ress.map Resrc.av),.lin 3 (g.proj.stocks.map i64),.lin 3 (g.dom.lo.map i64),.lin 3 (g.dom.hi.map i64),.lin 25 (g.dom.modes.map ints),.lin 69 (g.decs.map Lit.av),.lin 189 (g.lines.map Lin.av)]
def logNew (p:Proj):Option Lg:=if projOk p=true then some ⟨p,initDom p,[],[]⟩ else none
theorem pickL_all (ls:List Lin):pickL ls (upTo ls.length)=ls:=by
 unfold pickL upTo
 rw [List.map_map]
 refine List.ext_getElem? fun i=>?_
 rw [List.getElem?_map]
 by_cases h:i < ls.length
 ·rw [List.getElem?_range h]
  simp [lineAt,List.getD_eq_getElem?_getD,h]
 ·rw [List.getElem?_eq_none (by simpa using h),List.getElem?_eq_none (by omega)];rfl
theorem impl_allOf (ls:List Lin):Con 155 [.d (.sl (ls.map Lin.av))] (.d (ints (upTo ls.length))):=by
 refine con Tryz.func155 rfl rfl Tryz.call155 rfl fun hwf=>?_
 simp only [ARs.wf,AR.wf,AV.wf,AV.wfs,List.length_map,lim] at hwf
 (repeat' ((conv=>whnf);first | refine gA ?_ | (refine gB ?_ ?_ <;> intro h) | refine gP ?_ | refine gV ?_ | intro _)) <;> try (conv=>whnf)
 refine loopF [7] [] [5] ?_
 (conv=>whnf)
 refine LoopC.go ((Nat)) (fun k=>(k≤ls.length)) (fun k=>[(8,.data (i64 k)),(3,.own 5 0)]) (fun _=>[]) (fun k=>[(5,3,(upTo k).map i64,0)]) (fun k=>ls.length - k) (0) ?_ ?_
 ·exact Nat.zero_le _
 rintro k hk
 by_cases hlt:k < ls.length
 ·(repeat' ((conv=>whnf);first | refine gA ?_ | (refine gB ?_ ?_ <;> intro h) | refine gP ?_ | refine gV ?_ | intro _)) <;> try (conv=>whnf)
  ·refine nw (k+1) ?_ ?_
   ·(repeat' ((conv=>whnf) <;> (first | exact trivial | exact rfl | with_reducible refine And.intro ?_ ?_))) <;> ((conv=>whnf) <;> (exact upTo_map k))
   exact (by omega:k+1≤ls.length)
  ·exfalso;omega
 ·obtain rfl:k=ls.length:=by omega
  (repeat' ((conv=>whnf);first | (exfalso;omega) | refine gA ?_ | (refine gB ?_ ?_ <;> intro h) | refine gP ?_ | refine gV ?_ | intro _)) <;> try (conv=>whnf)
  exact⟨rfl,rfl,trivial⟩
theorem impl_copiedLg (g:Lg):Con 76 [.d g.av] (RLgL g):=by
 refine con Tryz.func76 rfl rfl Tryz.call76 rfl fun hwf=>?_
 have hl:=impl_linesAt_lin g.lines (upTo g.lines.length) (fun i hi=>upTo_mem hi)
 rw [pickL_all] at hl
 (repeat' ((conv=>whnf);first | refine gA ?_ | (refine gB ?_ ?_ <;> intro h) | refine gC (impl_copiedProj_lin g.proj) ?_ | refine gC (impl_copiedDom_lin g.dom) ?_ | refine gC (cloneLit_lin g.decs) ?_ | refine gC (impl_allOf g.lines) ?_ | refine gC (hl) ?_ | intro _)) <;> try (conv=>whnf)
 (repeat' ((conv=>whnf) <;> (first | exact trivial | exact VC.nod (by kernel_rfl) | refine VC.mk rfl ?_)))
def RLgI (g:Lg):RV:=.agg [.d (i64 g.proj.dead),.d (.sl (g.proj.acts.map Activ.av)),.d (.sl (g.proj.links.map Link.av)),.d (.sl (g.proj.ress.map Resrc.av)),.d (ints g.proj.stocks),.d (ints g.dom.lo),.d (ints g.dom.hi),.d (.sl (g.dom.modes.map ints)),.d (lits g.decs),.own 189 (g.lines.map Lin.av)]
def RLgP (g:Lg):RV:=.agg [.d (i64 g.proj.dead),.lin 143 (g.proj.acts.map Activ.av),.lin 159 (g.proj.links.map Link.av),.lin 149 (g.proj.ress.map Resrc.av),.lin 3 (g.proj.stocks.map i64),.junk,.junk,.junk,.junk,.lin 189 (g.lines.map Lin.av)]
theorem RLogD_some (h:Lg):RLogD (some h)= .tup [.d h.av,.d (.bool true)]:=rfl
def stepLog (g:Lg):Option Lg:=match firstInf g.proj g.dom with | none=>none | some s=>infLog g s
def runLog:Nat→Nat→Lg→Lg×Nat
 | 0,n,g=>(g,n)
 | f+1,n,g=>match stepLog g with | none=>(g,n) | some h=>runLog f (n+1) h
def RRun (r:Lg×Nat):RV:=.tup [.d r.1.av,.d (i64 r.2)]
end Go.Proofs.YtfhojdalheinaaaGreat.Abs
set_option linter.unusedVariables false
set_option linter.unusedSimpArgs false
set_option maxRecDepth 20000
set_option maxHeartbeats 40000000
namespace Go.Proofs.YtfhojdalheinaaaGreat.Abs
open Go.Proofs Go.RowKit
attribute [local irreducible] firstInf findRef checkLine status litValue
def ruleLine (g:Lg) (r:Rul):Lin:=⟨1,r,explain g.proj g.dom r⟩
def unitLine (g:Lg):Lin:=⟨2,noRule,newClause (g.decs.map negate)⟩
def stopLog (g:Lg):Option Lg:=match findRef g.proj g.dom with
 | none=>none
 | some r=>if checkLine g.proj g.lines (ruleLine g r)=0∧checkLine g.proj (g.lines++[ruleLine g r]) (unitLine g)=0 then some ⟨g.proj,g.dom,g.decs,g.lines++[ruleLine g r]++[unitLine g]⟩ else none
def RStopN (o:Option Lg):RV:=.tup [.agg [.junk,.junk,.junk,.junk,.junk,.junk,.junk,.junk,.junk,.lin 189 ((o.getD noLog).lines.map Lin.av)],.d (.bool o.isSome)]
def stopCells (a b:Lin) (k:Nat):List SV:=
 match k with
 | 0=>[.data (i64 a.kind),.data (i64 a.rule.kind),.data (i64 a.rule.a),.data (i64 a.rule.b),.data (i64 a.rule.c),.own 46000 0,.data (i64 b.kind),.data (i64 0),.data (i64 0),.data (i64 0),.data (i64 0),.own 49000 0]
 | 1=>[.data (i64 a.kind),.data (i64 a.rule.kind),.data (i64 a.rule.a),.data (i64 a.rule.b),.data (i64 a.rule.c),.data (lits a.clause),.data (i64 b.kind),.data (i64 0),.data (i64 0),.data (i64 0),.data (i64 0),.own 49000 0]
 | _=>[.data (i64 a.kind),.data (i64 a.rule.kind),.data (i64 a.rule.a),.data (i64 a.rule.b),.data (i64 a.rule.c),.data (lits a.clause),.data (i64 b.kind),.data (i64 0),.data (i64 0),.data (i64 0),.data (i64 0),.data (lits b.clause)]
def stopLines (g:Lg) (a b:Lin) (k:Nat):List Lin:=
 match k with
 | 0=>g.lines
 | 1=>g.lines++[a]
 | _=>g.lines++[a]++[b]
def stopToks (a b:Lin) (k:Nat):List (Nat×Nat×List AV×Nat):=
 match k with
 | 0=>[(46000,69,a.clause.map Lit.av,1),(49000,69,b.clause.map Lit.av,1)]
 | 1=>[(49000,69,b.clause.map Lit.av,1)]
 | _=>[]
end Go.Proofs.YtfhojdalheinaaaGreat.Abs
set_option linter.unusedVariables false
set_option linter.unusedSimpArgs false
set_option maxRecDepth 20000
set_option maxHeartbeats 40000000
namespace Go.Proofs.YtfhojdalheinaaaGreat.Abs
open Go.Proofs Go.RowKit
attribute [local irreducible] firstInf findRef checkLine status litValue
def lineLog (g:Lg) (l:Lin):Option Lg:=if checkLine g.proj g.lines l=0 then some ⟨g.proj,g.dom,g.decs,g.lines++[l]⟩ else none
def RLgO (g:Lg):RV:=.agg [.d (i64 g.proj.dead),.d (.sl (g.proj.acts.map Activ.av)),.d (.sl (g.proj.links.map Link.av)),.d (.sl (g.proj.ress.map Resrc.av)),.d (ints g.proj.stocks),.d (ints g.dom.lo),.d (ints g.dom.hi),.d (.sl (g.dom.modes.map ints)),.d (lits g.decs),.own 189 (g.lines.map Lin.av)]
theorem spec_l20Lines (ls:List Lin):Con 178 [.d (.sl (ls.map Lin.av))] (.own 189 (ls.map Lin.av)):=by
 refine con Tryz.func178 rfl rfl Tryz.call178 rfl fun hwf=>?_
 simp only [ARs.wf,AR.wf,AV.wf,AV.wfs,List.length_map,lim] at hwf
 (repeat' ((conv=>whnf);first | refine gA ?_ | (refine gB ?_ ?_ <;> intro h) | (refine gI ?_;intro x hx) | (refine gJ ?_;intro j x hj hx) | refine gP ?_ | refine gV ?_ | intro _)) <;> try (conv=>whnf)
 refine loopF [7,8] [] [6] ?_
 (conv=>whnf)
 refine LoopC.go ((Nat)) (fun k=>(k≤ls.length)) (fun k=>[(9,.data (i64 k)),(3,.own 6 0)]) (fun _=>[]) (fun k=>[(6,189,(ls.take k).map Lin.av,0)]) (fun k=>ls.length - k) (0) ?_ ?_
 ·exact Nat.zero_le _
 rintro k hk
 by_cases hlt:k < ls.length
 ·obtain⟨x,hx⟩:∃x,ls[k]? =some x:=⟨ls[k]'hlt,by simp⟩
  (repeat' ((conv=>whnf);first | with_reducible refine Idx.got hx rfl ?_ | (exfalso;omega) | refine gA ?_ | (refine gB ?_ ?_ <;> intro h) | (refine gI ?_;intro x hx) | (refine gJ ?_;intro j x hj hx) | refine gP ?_ | refine gV ?_ | refine gC (spec_l20Copy x) ?_ | intro _)) <;> try (conv=>whnf)
  refine nw (k+1) ?_ ?_
  ·(repeat' ((conv=>whnf) <;> (first | exact trivial | exact rfl | with_reducible refine And.intro ?_ ?_))) <;> ((conv=>whnf) <;> (exact map_take_succ Lin.av hx))
  exact (by omega:k+1≤ls.length)
 ·(repeat' ((conv=>whnf);first | (exfalso;omega) | refine gA ?_ | (refine gB ?_ ?_ <;> intro h) | (refine gI ?_;intro x hx) | (refine gJ ?_;intro j x hj hx) | refine gP ?_ | refine gV ?_ | intro _)) <;> try (conv=>whnf)
  refine⟨?_,rfl,trivial⟩
  dsimp only
  rw [List.take_of_length_le (by omega)]
def refuteRules (p:Proj):List Lin×Bool:=match logNew p with
 | none=>([],false)
 | some g=>match stopLog (runLog 60 0 g).1 with | none=>([],false) | some h=>(h.lines,true)
def RLinesL (r:List Lin×Bool):RV:=.tup [.lin 189 (r.1.map Lin.av),.d (.bool r.2)]
def RLinesD (r:List Lin×Bool):RV:=.tup [.d (.sl (r.1.map Lin.av)),.d (.bool r.2)]
end Go.Proofs.YtfhojdalheinaaaGreat.Abs
set_option linter.unusedVariables false
set_option linter.unusedSimpArgs false
set_option maxRecDepth 20000
set_option maxHeartbeats 40000000
namespace Go.Proofs.YtfhojdalheinaaaGreat.Abs
open Go.Proofs Go.RowKit
theorem impl_kept_lin (l:List Int) (fc:Nat) (caps:List AV) (p:Int→Bool) (hc:∀n:Int,Con fc ([.d (i64 n)]++caps.map .ref) (.d (.bool (p n)))):Con 158 [.d (ints l),.fn fc caps] (.lin 3 ((l.filter p).map i64)):=by
 refine con Tryz.func158 rfl rfl Tryz.call158 rfl fun hwf=>?_
 simp only [ARs.wf,AR.wf,AV.wf,AV.wfs,List.length_map,lim] at hwf
 (repeat' ((conv=>whnf);first | refine gA ?_ | (refine gB ?_ ?_ <;> intro h) | (refine gI ?_;intro x hx) | (refine gJ ?_;intro j x hj hx) | refine gP ?_ | refine gV ?_ | intro _)) <;> try (conv=>whnf)
 refine loopF [1,9,10] [] [8] ?_
 (conv=>whnf)
 refine LoopC.go ((Nat)×(List Int)) (fun⟨k,o⟩=>(k≤l.length)∧(o.length≤k)∧(o++(l.drop k).filter p=l.filter p)) (fun⟨k,o⟩=>[(11,.data (i64 k)),(5,.own 8 0)]) (fun _=>[]) (fun⟨k,o⟩=>[(8,3,o.map i64,1)]) (fun⟨k,o⟩=>l.length - k) ⟨0,[]⟩ ?_ ?_
 ·exact⟨by omega,by simp,rfl⟩
 rintro⟨k,o⟩ ⟨hk,ho,hi⟩
 (repeat' ((conv=>whnf);first | refine gA ?_ | (refine gB ?_ ?_ <;> intro h) | (refine gI ?_;intro x hx) | (refine gJ ?_;intro j x hj hx) | refine gP ?_ | refine gV ?_ | refine gC (hc x) ?_ | intro _)) <;> try (conv=>whnf)
 ·refine nw ⟨k+1,o++[x]⟩ ?_ ?_
  ·(repeat' ((conv=>whnf) <;> (first | exact trivial | exact rfl | with_reducible refine And.intro ?_ ?_))) <;> ((conv=>whnf) <;> (simp))
  exact⟨by omega,by simp;omega,(filter_step hi hx).1 h⟩
 ·refine nx ⟨k+1,o⟩ ?_
  exact⟨by omega,by omega,(filter_step hi hx).2 h⟩
 ·refine⟨?_,rfl,trivial⟩
  rw [← hi,drop_end' (by assumption)];simp
theorem impl_SetRemove_lin (l:List Int) (n:Int):Con 160 [.d (ints l),.d (i64 n)] (.lin 3 ((without l n).map i64)):=by
 refine con Tryz.func160 rfl rfl Tryz.call160 rfl fun hwf=>?_
 (repeat' ((conv=>whnf);first | refine gA ?_ | (refine gB ?_ ?_ <;> intro h) | refine gC (impl_kept_lin l 244 [i64 n] _ fun x=>impl_SetRemove1 x n) ?_ | intro _)) <;> try (conv=>whnf)
 exact⟨rfl,rfl,trivial⟩
theorem impl_Restrict_lin (b:Dom) (l:Lit):Con 77 [.d b.av,.d l.av] (RDomL (restrict b l)):=by
 refine con Tryz.func77 rfl rfl Tryz.call77 rfl fun hwf=>?_
 cases hd:hasDom b l.act with
 | false=>
  rw [restrict,if_neg (by simp [hd])]
  (repeat' ((conv=>whnf);first | refine gA ?_ | (refine gB ?_ ?_ <;> intro h) | (refine gI ?_;intro x hx) | (refine gJ ?_;intro j x hj hx) | refine gC (impl_copiedDom_lin b) ?_ | refine gC (impl_has b _) ?_ | intro _)) <;> try (conv=>whnf)
  (repeat' ((conv=>whnf) <;> (first | exact trivial | exact VC.nod (by kernel_rfl) | refine VC.mk rfl ?_)))
 | true=>
  obtain⟨n,x,y,m,ha,hlo,hhi,hmo⟩:=hasDom_get hd
  have han:l.act.toNat=n:=by omega
  (repeat' ((conv=>whnf);first | with_reducible refine Idx.got hlo (by first | exact ha | rfl) ?_ | with_reducible refine Idx.got hhi (by first | exact ha | rfl) ?_ | with_reducible refine Idx.got hmo (by first | exact ha | rfl) ?_ | refine gA ?_ | (refine gB ?_ ?_ <;> intro h) | (refine gI ?_;intro x hx) | (refine gJ ?_;intro j x hj hx) | refine gC (impl_copiedDom_lin b) ?_ | refine gC (impl_has b _) ?_ | refine gC (impl_clamped _) ?_ | refine gC (impl_kept_lin m 159 [i64 (clamped l.val)] _ (fun y=>impl_Restrict1 y (clamped l.val))) ?_ | refine gC (impl_SetRemove_lin m _) ?_ | intro _)) <;> try (conv=>whnf)
  all_goals
   (repeat' ((conv=>whnf) <;> (first | exact trivial | exact VC.nod (by kernel_rfl) | refine VC.mk rfl ?_ | refine VC.mk (by (rw [restrict,if_pos hd];simp [*,List.map_set,List.getD_eq_getElem?_getD,setPart,without])) ?_)))
end Go.Proofs.YtfhojdalheinaaaGreat.Abs
