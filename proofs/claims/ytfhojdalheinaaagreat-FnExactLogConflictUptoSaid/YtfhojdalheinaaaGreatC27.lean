/- Contracts: sets that grow. No statement of a claim. -/
import Derived.Test.YtfhojdalheinaaaGreatSet
import Derived.Test.YtfhojdalheinaaaGreatC9
import Derived.Test.YtfhojdalheinaaaGreatC26
set_option linter.all false
set_option linter.unusedVariables false
set_option linter.unusedSimpArgs false
set_option maxRecDepth 20000
set_option maxHeartbeats 4000000
namespace Go.Proofs.YtfhojdalheinaaaGreat.Abs
open Go.Proofs
theorem setOf_pw (l:List Int):(setOf l).Pairwise (· < ·):=(setOf_sorted (l:=l) (o:=[]) List.Pairwise.nil).1
theorem setOf_mem {l:List Int} {x:Int}:x∈setOf l↔x∈l:=by
 have:=(setOf_sorted (l:=l) (o:=[]) List.Pairwise.nil).2 x
 exact this.trans (by simp)
theorem setOf_is {l m:List Int} (hm:m.Pairwise (· < ·)) (h:∀x,x∈m↔x∈l):setOf l=m:=sorted_same (setOf_pw l) hm fun x=>setOf_mem.trans (h x).symm
theorem setOf_more (l:List Int) (n:Int):setOf (setOf l++[n])=setOf (l++[n]):=setOf_is (setOf_pw _) fun x=>by simp [setOf_mem]
theorem setOf_twice (l:List Int):setOf (setOf l)=setOf l:=setOf_is (setOf_pw _) fun x=>Iff.rfl
theorem setOf_put (l:List Int) (n:Int):putSet (setOf l) n=setOf (l++[n]):=by rw [setOf,setOf,List.foldl_append];rfl
theorem impl_SetAdd (l:List Int) (n:Int) (hl:l.length < lim):Con 125 [.d (ints l),.d (i64 n)] (.d (ints (setOf (l++[n])))):=by
 refine con Tryz.func125 rfl rfl Tryz.call125 rfl fun hwf=>?_
 unfold lim at hl
 have e:(l++[n]).map i64=l.map i64++[i64 n]:=by simp
 have hS:=impl_SetOf (l++[n])
 rw [ints,e] at hS
 (repeat' ((conv=>whnf);first | refine gA ?_ | (refine gB ?_ ?_ <;> intro h) | refine gP ?_ | refine gC (slices_Clone_int l) ?_ | refine gC (hS) ?_ | intro _)) <;> try (conv=>whnf)
 all_goals exact⟨rfl,rfl,trivial⟩
theorem spec_SetAdd (l:List Int) (n:Int) (hl:l.length < lim):Con 108 [.d (ints l),.d (i64 n)] (.d (ints (setOf (l++[n])))):=by
 refine con Tryz.func108 rfl rfl Tryz.call108 rfl fun hwf=>?_
 have h1:=setOf_len l
 rw [← setOf_put]
 (repeat' ((conv=>whnf);first | refine gA ?_ | (refine gB ?_ ?_ <;> intro h) | refine gC (spec_SetOf l) ?_ | refine gC (spec_l02Put (setOf l) n (by omega)) ?_ | intro _)) <;> try (conv=>whnf)
 exact⟨rfl,rfl,trivial⟩
end Go.Proofs.YtfhojdalheinaaaGreat.Abs
set_option linter.unusedVariables false
set_option linter.unusedSimpArgs false
set_option maxRecDepth 20000
set_option maxHeartbeats 4000000
namespace Go.Proofs.YtfhojdalheinaaaGreat.Abs
open Go.Proofs
def usesRes (p:Proj) (r:Int) (i:Int):Bool:=(actOf p i.toNat).modes.any fun m=>decide (m.use.getD r.toNat 0 > 0)
def users (p:Proj) (r:Int):List Int:=if projOk p=true∧hasRes p r=true then (upTo p.acts.length).filter (usesRes p r) else []
def someIf (b:Bool) (k:Int):List Int:=if b=true then [k] else []
def ruleActs (p:Proj) (r:Rul):List Int:=
 if ruleOk p r=true then
  if r.kind=1 then setOf [(linkOf p r.a).src,(linkOf p r.a).dst]
  else if r.kind=2 then [r.a] else if r.kind=5 then [r.b,r.c] else if r.kind=6 then intRange p.acts.length else users p r.a
 else []
end Go.Proofs.YtfhojdalheinaaaGreat.Abs
