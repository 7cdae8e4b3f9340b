/- Contracts: a refutation is found; literals that follow from a rule are explained. No statement of a claim. -/
import Derived.Test.YtfhojdalheinaaaGreatC28
import Derived.Test.YtfhojdalheinaaaGreatC12
set_option linter.all false
set_option linter.unusedVariables false
set_option linter.unusedSimpArgs false
set_option maxRecDepth 20000
set_option maxHeartbeats 4000000
namespace Go.Proofs.YtfhojdalheinaaaGreat.Abs
open Go.Proofs
def zeroRul:Rul:=⟨0,0,0,0⟩
def findRef (p:Proj) (b:Dom):Option Rul:=if domForm p b=true∧domEmpty b=true then some zeroRul else (candRules p b).find? (refutes p b)
def RRul (o:Option Rul):RV:=.tup [.d (o.getD zeroRul).av,.d (.bool o.isSome)]
def explainLit (p:Proj) (b:Dom) (r:Rul) (l:Lit):List Lit×Bool:=
 if litOk p l=true∧refutes p (restrict b (negate l)) r=true then (shortened p r (fun x=>sameLit x l) (newClause (negs p b++[l])),true) else ([],false)
def RLits (r:List Lit×Bool):RV:=.tup [.fr (r.1.map Lit.av),.d (.bool r.2)]
def RLitsD (r:List Lit×Bool):RV:=.tup [.d (lits r.1),.d (.bool r.2)]
theorem domForm_setOk' {p:Proj} {b:Dom} (h:domForm p b=true) {n:Nat} {m:List Int} (hm:b.modes[n]? =some m):setOk m=true:=by
 have hn:=(List.getElem?_eq_some_iff.1 hm).1
 obtain⟨_,l1,l2,l3,_⟩:=domForm_parts h
 obtain⟨a,x,y,m',g⟩:=dom_get h (show n < p.acts.length by omega)
 have:=g.modes
 rw [hm] at this
 cases this
 exact g.mok
end Go.Proofs.YtfhojdalheinaaaGreat.Abs
set_option linter.unusedVariables false
set_option linter.unusedSimpArgs false
set_option maxRecDepth 20000
set_option maxHeartbeats 4000000
namespace Go.Proofs.YtfhojdalheinaaaGreat.Abs
open Go.Proofs
def refB (p:Proj) (b:Dom) (r:Rul) (k:Int) (a:Nat) (n:Int):Bool:=refutes p (restrict b ⟨k,a,n⟩) r
def goUp (f:Int→Bool) (hi:Int):Nat→Int→Int
 | 0,n=>n
 | k+1,n=>if n≤hi∧f n=true then goUp f hi k (n+1) else n
def goDn (f:Int→Bool) (lo:Int):Nat→Int→Int
 | 0,n=>n
 | k+1,n=>if n≥lo∧f n=true then goDn f lo k (n - 1) else n
def atLeast (k:Nat) (lo n:Int):List Lit:=if n > lo then [⟨1,k,n⟩] else []
def atMost (k:Nat) (up n:Int):List Lit:=if n < up then [⟨2,k,n⟩] else []
def inferAt (p:Proj) (b:Dom) (r:Rul) (k:Nat) (lo up:Int) (m:List Int):List Lit:=
 atLeast k lo (goUp (refB p b r 2 k) up (up+1 - lo).toNat lo)++atMost k up (goDn (refB p b r 1 k) lo (up+1 - lo).toNat up)++
  (m.filter fun v=>decide (m.length > 1)&&refB p b r 3 k v).map fun v=>⟨4,k,v⟩
def inferA (p:Proj) (b:Dom) (r:Rul) (k:Nat):List Lit:=
 match b.lo[k]?,b.hi[k]?,b.modes[k]? with
 | some lo,some up,some m=>inferAt p b r k lo up m
 | _,_,_=>[]
end Go.Proofs.YtfhojdalheinaaaGreat.Abs
set_option linter.unusedVariables false
set_option linter.unusedSimpArgs false
set_option maxRecDepth 20000
set_option maxHeartbeats 4000000
namespace Go.Proofs.YtfhojdalheinaaaGreat.Abs
open Go.Proofs
def inferOf (p:Proj) (b:Dom) (r:Rul) (a:Int):Option Infer:=(inferA p b r a.toNat).head?.map fun l=>⟨l,r,(explainLit p b r l).1⟩
def inferOn (p:Proj) (b:Dom) (r:Rul):Option Infer:=(ruleActs p r).findSome? (inferOf p b r)
def firstInf (p:Proj) (b:Dom):Option Infer:=if (findRef p b).isSome=true then none else (candRules p b).findSome? (inferOn p b)
def zeroInf:Infer:=⟨zeroLit,zeroRul,[]⟩
def RInf (o:Option Infer):RV:=let x:=o.getD zeroInf;.tup [.agg [.d (i64 x.lit.kind),.d (i64 x.lit.act),.d (i64 x.lit.val),.d (i64 x.rule.kind),.d (i64 x.rule.a),.d (i64 x.rule.b),.d (i64 x.rule.c),.fr (x.clause.map Lit.av)],.d (.bool o.isSome)]
def RInfD (o:Option Infer):RV:=.tup [.d (o.getD zeroInf).av,.d (.bool o.isSome)]
def isFix (p:Proj) (b:Dom):Bool:=usable p b&& !(findRef p b).isSome&& !(firstInf p b).isSome
end Go.Proofs.YtfhojdalheinaaaGreat.Abs
