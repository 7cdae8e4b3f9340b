/- Contracts: the first inference; fixpoints. No statement of a claim. -/
import Derived.Test.YtepogmnolnlpmaaGreatC31
set_option linter.all false
set_option linter.unusedVariables false
set_option linter.unusedSimpArgs false
set_option maxRecDepth 20000
set_option maxHeartbeats 4000000
namespace Go.Proofs.YtepogmnolnlpmaaGreat.Abs
open Go.Proofs
def inferOf (p:Proj) (b:Dom) (r:Rul) (a:Int):Option Infer:=(inferA p b r a.toNat).head?.map fun l=>⟨l,r,(explainLit p b r l).1⟩
def inferOn (p:Proj) (b:Dom) (r:Rul):Option Infer:=(ruleActs p r).findSome? (inferOf p b r)
def firstInf (p:Proj) (b:Dom):Option Infer:=if (findRef p b).isSome=true then none else (candRules p b).findSome? (inferOn p b)
def zeroInf:Infer:=⟨zeroLit,zeroRul,[]⟩
def RInf (o:Option Infer):RV:=let x:=o.getD zeroInf;.tup [.agg [.d (i64 x.lit.kind),.d (i64 x.lit.act),.d (i64 x.lit.val),.d (i64 x.rule.kind),.d (i64 x.rule.a),.d (i64 x.rule.b),.d (i64 x.rule.c),.fr (x.clause.map Lit.av)],.d (.bool o.isSome)]
def RInfD (o:Option Infer):RV:=.tup [.d (o.getD zeroInf).av,.d (.bool o.isSome)]
theorem form_of_none {p:Proj} {b:Dom} (h:usable p b=true):domForm p b=true:=(usable_parts h).1
theorem inferA_len (p:Proj) (b:Dom) (r:Rul) (k:Nat) (hf:domForm p b=true) (hk:k < p.acts.length):(inferA p b r k).length≤5:=by
 obtain⟨a,x,y,m,g⟩:=dom_get hf hk
 rw [inferA_eq g,inferAt]
 have h1:=atLeast_len k x (goUp (refB p b r 2 k) y (y+1 - x).toNat x)
 have h2:=atMost_len k y (goDn (refB p b r 1 k) x (y+1 - x).toNat y)
 have h3:=modes_in g
 have h4:=List.length_filter_le (fun v=>decide (m.length > 1)&&refB p b r 3 k v) m
 simp only [List.length_append,List.length_map];omega
theorem ruleActs_len (p:Proj) (r:Rul):(ruleActs p r).length≤200:=by
 unfold ruleActs
 split
 ·rename_i ho
  have hpo:projOk p=true:=by simp only [ruleOk,Bool.and_eq_true] at ho;exact ho.1
  have hna:=(projForm hpo).nact
  split
  ·have:=setOf_len [(linkOf p r.a).src,(linkOf p r.a).dst]
   simp only [List.length_cons,List.length_nil] at this;omega
  split
  ·simp
  split
  ·simp
  split
  ·exact intRange_len _
  ·unfold users
   split
   ·have:=upTo_filter_len (usesRes p r.a) p.acts.length;omega
   ·simp
 ·simp
def isFix (p:Proj) (b:Dom):Bool:=usable p b&& !(findRef p b).isSome&& !(firstInf p b).isSome
end Go.Proofs.YtepogmnolnlpmaaGreat.Abs
