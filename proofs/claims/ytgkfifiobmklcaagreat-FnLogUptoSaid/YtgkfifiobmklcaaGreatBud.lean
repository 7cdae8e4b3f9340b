/- Searches with more visits; the lines of a search are right. -/
import Derived.Test.YtgkfifiobmklcaaGreatVis
import Derived.Test.YtgkfifiobmklcaaGreatSnd
import Derived.Test.YtgkfifiobmklcaaGreatPlain
set_option linter.all false
set_option maxRecDepth 20000
set_option maxHeartbeats 0
namespace Go.Proofs.YtgkfifiobmklcaaGreat.Abs
open Go.Proofs
attribute [local irreducible] bq dQ aH status litValue single choice
structure More (w w':Way):Prop where
 same:w.stopped=false→w'=w
 more:w.visits≤w'.visits
 nof:w.stopped=true→w.found=none
theorem More.refl {w:Way} (h:w.stopped=true→w.found=none):More w w:=⟨fun _=>rfl,Int.le_refl _,h⟩
theorem CO {p:Proj} {all:List Lin}:∀(l:List Lin) (k:Nat),(∀j x,l[j]? =some x→aH p (all.take (k+j)) x=0)→iZ p all l k=(0,((k+l.length:Nat):Int))
 |[],k,_=>by rw [iZ];simp
 |x::l,k,h=>by
  rw [iZ,if_pos (by simpa using h 0 x rfl),CO l (k+1) (fun j y hy=>by rw [show k+1+j=k+(j+1) by omega];exact h (j+1) y (by simpa using hy))]
  simp only [List.length_cons];congr 2;omega
theorem Va {p:Proj} {ls:List Lin} (h:∀j x,ls[j]? =some x→aH p (ls.take j) x=0):wz p ls=(0,(ls.length:Int)):=by
 unfold wz;rw [CO ls 0 (fun j x hx=>by rw [Nat.zero_add];exact h j x hx),Nat.zero_add]
def Right (p:Proj) (ls:List Lin):Prop:=∀j x,ls[j]? =some x→aH p (ls.take j) x=0
theorem Right.nil (p:Proj):Right p []:=fun j x h=>by simp at h
theorem Right.snoc {p:Proj} {ls:List Lin} {l:Lin} (h:Right p ls) (hl:aH p ls l=0):Right p (ls++[l]):=by
 intro j x hx
 by_cases hj:j < ls.length
 ·rw [List.getElem?_append_left hj] at hx
  rw [List.take_append_of_le_length (by omega)]
  exact h j x hx
 ·rw [List.getElem?_append_right (by omega)] at hx
  have e:j=ls.length:=by
   by_cases e:j - ls.length=0
   ·omega
   ·rw [List.getElem?_eq_none (by simp;omega)] at hx;cases hx
  subst e
  simp at hx
  subst hx
  rw [List.take_append_of_le_length (Nat.le_refl _),List.take_length]
  exact hl
theorem Right.of {p:Proj} {ls:List Lin} (h:mE p ls=true):Right p ls:=by
 intro j x hx
 have hj:=(List.getElem?_eq_some_iff.1 hx).1
 have:=Aj h hj
 rw [List.getElem?_eq_getElem hj] at hx
 cases hx;exact this
structure Budget (g:Lg) (most:Int):Prop where
 few:(pI g most).visits≤most
 right:(wz g.proj (pI g most).log.lines).1=0
 none:¬((pI g most).stopped=true∧(pI g most).found=true)
 more:(pI g most).visits≤(pI g 60).visits
 same:(pI g most).stopped=false→pI g 60=pI g most
end Go.Proofs.YtgkfifiobmklcaaGreat.Abs
namespace Go.Proofs.YtgkfifiobmklcaaGreat.Abs
open Go.Proofs Go.ChangeShapes Go.WideShapes Go.ChangeAt Go.RowKit
variable {H:Type} {enc:TypeId×Value→H} {P:Program} {w:World} {I:Nat→Prop} {L:Nat} {μ:DataW H→Nat} {N:Nat}
theorem aag {t:Nat} (ht:P.underlying t=some (.int .u8)):Rd enc P w I L μ N t (fun n=>.int .u8 n) (fun _=>True):=by
 intro fuel cs d ps h _
 obtain⟨n,rfl,_,hw⟩:=DataW.trod_int ht h
 refine⟨n,trivial,?_⟩
 simp [AV.cells,aU,aI]
end Go.Proofs.YtgkfifiobmklcaaGreat.Abs
