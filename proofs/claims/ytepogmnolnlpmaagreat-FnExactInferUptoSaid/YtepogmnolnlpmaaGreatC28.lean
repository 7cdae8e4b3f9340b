/- Contracts: intervals; the rules that may refute. No statement of a claim. -/
import Derived.Test.YtepogmnolnlpmaaGreatC27
import Derived.Test.YtepogmnolnlpmaaGreatC20a
set_option linter.all false
set_option linter.unusedVariables false
set_option linter.unusedSimpArgs false
set_option maxRecDepth 20000
set_option maxHeartbeats 4000000
namespace Go.Proofs.YtepogmnolnlpmaaGreat.Abs
open Go.Proofs
def mrun:Bool→Int→List Int→Int
 | _,n,[]=>n
 | b,n,x::r=>mrun false (if b=true∨x > n then x else n) r
def maxDur (a:Activ) (ms:List Int):Int:=mrun true 0 ((chosen a ms).map Mode.dur)
def endOfA (p:Proj) (b:Dom) (i:Nat):Int:=b.hi.getD i 0+maxDur (actOf p i) (b.modes.getD i [])
def endsN (p:Proj) (b:Dom) (k:Nat):List Int:=(List.range k).map (endOfA p b)
abbrev ivEnds (p:Proj) (b:Dom):List Int:=setOf (endsN p b p.acts.length)
def okIv (x y:Int):Bool:=isTime x&&isTime y&&decide (x < y)
def ivRow (p:Proj) (b:Dom) (x:Int):List (List Int):=((ivEnds p b).filter (okIv x)).map fun y=>[x,y]
def intervals (p:Proj) (b:Dom):List (List Int):=if usable p b=true then (setOf b.lo).flatMap (ivRow p b) else []
theorem filt_step {α β:Type} {f:α→Bool} {g:α→β} {l:List α} {k:Nat} {x:α} {q o:List β} (ho:o=q++((l.take k).filter f).map g) (h:l[k]? =some x):
  (f x=true→o++[g x]=q++((l.take (k+1)).filter f).map g)∧(f x=false→o=q++((l.take (k+1)).filter f).map g):=by
 obtain⟨hk,rfl⟩:=List.getElem?_eq_some_iff.1 h
 rw [List.take_succ_eq_append_getElem hk,List.filter_append]
 exact⟨fun hf=>by rw [ho];simp [hf],fun hf=>by rw [ho];simp [hf]⟩
theorem usable_parts {p:Proj} {b:Dom} (h:usable p b=true):domForm p b=true∧domEmpty b=false:=by simpa [usable] using h
theorem spec_l14Ok (p:Proj) (b:Dom) (hp:p.fine):Con 77 [.d p.av,.d b.av] (.d (.bool (usable p b))):=by
 refine con Tryz.func77 rfl rfl Tryz.call77 rfl fun hwf=>?_
 (repeat' ((conv=>whnf);first | refine gA ?_ | ((with_reducible first | refine gD (fun h=>?_) (fun h=>?_) | refine gE (fun h=>?_) (fun h=>?_)) <;> (try simp only [lm] at h) <;> try have hw:=wn h) | refine gC (spec_DomainForm p b hp) ?_ | refine gC (spec_DomainEmpty b) ?_ | intro _)) <;> (try (conv=>whnf))
 all_goals refine⟨?_,rfl,trivial⟩
 all_goals simp [usable, *]
end Go.Proofs.YtepogmnolnlpmaaGreat.Abs
