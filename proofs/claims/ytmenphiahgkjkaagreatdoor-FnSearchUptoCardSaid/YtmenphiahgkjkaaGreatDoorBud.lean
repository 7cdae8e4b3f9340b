/- Searches with more visits; the lines of a search are right. -/
import Derived.Test.YtmenphiahgkjkaaGreatDoorVis
import Derived.Test.YtmenphiahgkjkaaGreatDoorSnd
import Derived.Test.YtmenphiahgkjkaaGreatDoorPlain
set_option linter.all false
set_option maxRecDepth 20000
set_option maxHeartbeats 0
namespace Go.Proofs.YtmenphiahgkjkaaGreatDoor.Abs
open Go.Proofs
attribute [local irreducible] bF fM aD status litValue single choice
theorem Mj {h:Lg} {rec:Int→Lg→Way} {most:Int} (hr:∀v g,v≤most→v≤(rec v g).visits∧(rec v g).visits≤most) (x:Lit) (ls:List Lin) (v:Int) (hv:v≤most):v≤(dH h rec x ls v).visits∧(dH h rec x ls v).visits≤most:=by
 unfold dH
 split
 ·exact⟨Int.le_refl _,hv⟩
 ·exact hr _ _ hv
structure More (w w':Way):Prop where
 same:w.stopped=false→w'=w
 more:w.visits≤w'.visits
 nof:w.stopped=true→w.found=none
theorem More.refl {w:Way} (h:w.stopped=true→w.found=none):More w w:=⟨fun _=>rfl,Int.le_refl _,h⟩
theorem Uj (h:Lg) (ls:List Lin) (v:Int):(iJ h ls v).found=none:=by unfold iJ;split<;>rfl
theorem FJ {h:Lg} {rec rec':Int→Lg→Way} {m m' lo:Int} (hmm:m≤m') (hb:∀v g,v≤m→v≤(rec v g).visits∧(rec v g).visits≤m) (hb':∀v g,v≤m'→v≤(rec' v g).visits∧(rec' v g).visits≤m')
  (hr:∀v g,lo≤v→v≤m→More (rec v g) (rec' v g)):∀(xs:List Lit) (ls:List Lin) (v:Int),lo≤v→v≤m→More (gu h rec xs ls v) (gu h rec' xs ls v)
 |[],ls,v,_,hv=>More.refl fun _=>Uj h ls v
 |x::xs,ls,v,hlo,hv=>by
  have hs:More (dH h rec x ls v) (dH h rec' x ls v):=by
   cases ht:takeLog (dw h ls) x with
   |none=>rw [iK ht,iK ht];exact More.refl fun _=>rfl
   |some n=>rw [iL ht,iL ht];exact hr v n hlo hv
  have h1:=Mj (h:=h) hb x ls v hv
  have h2:=Mj (h:=h) hb' x ls v (by omega)
  rcases hw:dH h rec x ls v with⟨a,b,_|c,_|_⟩
  ·rw [hw] at hs h1
   have e:=hs.same rfl
   rw [iC hw,iC e]
   exact FJ hmm hb hb' hr xs a b (Int.le_trans hlo h1.1) h1.2
  ·rw [hw] at hs h1
   rw [bQ hw (.inr rfl)]
   refine⟨nofun,?_,fun _=>rfl⟩
   have h3:=hs.more
   rcases hw':dH h rec' x ls v with⟨a',b',_|c',_|_⟩
   ·rw [hw'] at h2 h3
    rw [iC hw']
    have:=(qp (h:=h) hb' xs a' b' h2.2).1
    dsimp only at h3 ⊢;omega
   all_goals
    rw [bQ hw' (by simp)]
    rw [hw'] at h3;exact h3
  ·rw [hw] at hs
   have e:=hs.same rfl
   rw [bQ hw (by simp),bQ e (by simp)]
   exact More.refl nofun
  ·rw [hw] at hs
   have:=hs.nof rfl
   cases this
theorem Rj {h:Lg} {rec rec':Int→Lg→Way} {m m' lo:Int} (hmm:m≤m') (hb:∀v g,v≤m→v≤(rec v g).visits∧(rec v g).visits≤m) (hb':∀v g,v≤m'→v≤(rec' v g).visits∧(rec' v g).visits≤m')
  (hr:∀v g,lo≤v→v≤m→More (rec v g) (rec' v g)) (v:Int) (hlo:lo≤v) (hv:v≤m):More (eB h rec v) (eB h rec' v):=by
 unfold eB
 split
 ·exact More.refl nofun
 ·split
  ·exact More.refl nofun
  ·split
   ·exact More.refl fun _=>rfl
   ·exact FJ hmm hb hb' hr _ _ _ hlo hv
theorem Uk {m m':Int} (hmm:m≤m'):∀(f f':Nat) (v:Int) (g:Lg),m < v+f→m' < v+f'→v≤m→More (vis m f v g) (vis m' f' v g)
 |0,f',v,g,h,_,hv=>by omega
 |f+1,0,v,g,h,h',hv=>by omega
 |f+1,f'+1,v,g,h,h',hv=>by
  by_cases e:v=m
  ·subst e
   rw [wK]
   exact⟨nofun,(kP m' (f'+1) v g hmm).1,fun _=>rfl⟩
  ·rw [pq _ _ _ _ e,pq _ _ _ _ (by omega)]
   exact Rj (m:=m) (m':=m') (lo:=v+1) hmm (fun v g hv=>kP m f v g hv) (fun v g hv=>kP m' f' v g hv) (fun w g h1 h2=>Uk hmm f f' w g (by omega) (by omega) h2) _ (Int.le_refl _) (by omega)
theorem Ck {p:Proj} {all:List Lin}:∀(l:List Lin) (k:Nat),(∀j x,l[j]? =some x→aD p (all.take (k+j)) x=0)→jh p all l k=(0,((k+l.length:Nat):Int))
 |[],k,_=>by rw [jh];simp
 |x::l,k,h=>by
  rw [jh,if_pos (by simpa using h 0 x rfl),Ck l (k+1) (fun j y hy=>by rw [show k+1+j=k+(j+1) by omega];exact h (j+1) y (by simpa using hy))]
  simp only [List.length_cons];congr 2;omega
theorem II {p:Proj} {ls:List Lin} (h:∀j x,ls[j]? =some x→aD p (ls.take j) x=0):mW p ls=(0,(ls.length:Int)):=by
 unfold mW;rw [Ck ls 0 (fun j x hx=>by rw [Nat.zero_add];exact h j x hx),Nat.zero_add]
def Right (p:Proj) (ls:List Lin):Prop:=∀j x,ls[j]? =some x→aD p (ls.take j) x=0
theorem Right.nil (p:Proj):Right p []:=fun j x h=>by simp at h
theorem Right.snoc {p:Proj} {ls:List Lin} {l:Lin} (h:Right p ls) (hl:aD p ls l=0):Right p (ls++[l]):=by
 intro j x hx
 by_cases hj:j < ls.length
 ·rw [List.getElem?_append_left hj] at hx
  rw [List.take_append_of_le_length (by omega)]
  exact h j x hx
 ·rw [List.getElem?_append_right (by omega)] at hx
  have e:j=ls.length:=by
   by_cases e:j - ls.length=0
   ·omega
   ·rw [List.getElem?_eq_none (by simp;omega)] at hx;cases hx
  subst e
  simp at hx
  subst hx
  rw [List.take_append_of_le_length (Nat.le_refl _),List.take_length]
  exact hl
theorem Right.of {p:Proj} {ls:List Lin} (h:jT p ls=true):Right p ls:=by
 intro j x hx
 have hj:=(List.getElem?_eq_some_iff.1 hx).1
 have:=Ab h hj
 rw [List.getElem?_eq_getElem hj] at hx
 cases hx;exact this
theorem Rk {g h:Lg} {s:Infer} (e:oP g s=some h) (hr:Right g.proj g.lines):h.proj=g.proj∧Right h.proj h.lines:=by
 unfold oP at e
 split at e
 ·rename_i hk
  cases e
  simp only [Fa,Bool.and_eq_true,decide_eq_true_eq] at hk
  exact⟨rfl,hr.snoc hk.1⟩
 ·cases e
theorem FK:∀(f n:Nat) (g:Lg),Right g.proj g.lines→(dB f n g).1.proj=g.proj∧Right g.proj (dB f n g).1.lines
 |0,n,g,h=>by rw [zW];exact⟨rfl,h⟩
 |f+1,n,g,h=>by
  rw [nX]
  cases hs:oQ g with
  |none=>exact⟨rfl,h⟩
  |some k=>
   dsimp only
   have h2:k.proj=g.proj∧Right k.proj k.lines:=by
    unfold oQ at hs
    split at hs
    ·cases hs
    ·exact Rk hs h
   have h1:=FK f (n+1) k h2.2
   rw [h2.1] at h1
   exact h1
theorem Nr {h k:Lg} (e:jC h=some k) (hr:Right h.proj h.lines):Right h.proj k.lines:=by
 rw [xX] at e
 split at e
 ·cases e
 ·split at e
  ·rename_i hk
   cases e
   exact (hr.snoc hk.1).snoc hk.2
  ·cases e
theorem Rl (h:Lg) (ls:List Lin) (v:Int) (hr:Right h.proj ls):Right h.proj (iJ h ls v).lines:=by
 unfold iJ
 split
 ·rename_i hk;exact hr.snoc hk
 ·exact hr
theorem Cm {h:Lg} {rec:Int→Lg→Way} (hrec:∀v g,Right g.proj g.lines→Right g.proj (rec v g).lines):∀(xs:List Lit) (ls:List Lin) (v:Int),Right h.proj ls→Right h.proj (gu h rec xs ls v).lines
 |[],ls,v,hr=>Rl h ls v hr
 |x::xs,ls,v,hr=>by
  have hs:Right h.proj (dH h rec x ls v).lines:=by
   cases ht:takeLog (dw h ls) x with
   |none=>rw [iK ht];exact hr
   |some n=>
    rw [iL ht]
    have hp:=jK ht
    have h1:n.proj=h.proj:=hp.1
    have h2:n.lines=ls:=hp.2.2.2
    have:=hrec v n (by rw [h1,h2];exact hr)
    rw [h1] at this;exact this
  rcases hw:dH h rec x ls v with⟨a,b,_|c,_|_⟩
  ·rw [hw] at hs
   rw [iC hw]
   exact Cm hrec xs a b hs
  all_goals
   rw [bQ hw (by simp)]
   rw [hw] at hs;exact hs
theorem GY (most:Int):∀(f:Nat) (v:Int) (g:Lg),Right g.proj g.lines→Right g.proj (vis most f v g).lines
 |0,v,g,h=>h
 |f+1,v,g,h=>by
  by_cases e:v=most
  ·subst e;rw [wK];exact h
  ·rw [pq _ _ _ _ e]
   obtain⟨h1,h2⟩:=FK 40 0 g h
   generalize (dB 40 0 g).1=k at h1 h2 ⊢
   rw [← h1] at h2 ⊢
   unfold eB
   split
   ·rename_i k' hk;exact Nr hk h2
   ·split
    ·exact h2
    ·split
     ·exact h2
     ·exact Cm (fun v g hr=>GY most f v g hr) _ _ _ h2
structure Budget (g:Lg) (most:Int):Prop where
 few:(dQ g most).visits≤most
 right:(mW g.proj (dQ g most).log.lines).1=0
 none:¬((dQ g most).stopped=true∧(dQ g most).found=true)
 more:(dQ g most).visits≤(dQ g 60).visits
 same:(dQ g most).stopped=false→dQ g 60=dQ g most
theorem budget (g:Lg) (most:Int) (hm:1≤most∧most≤60):Budget g most:=by
 have w1:within most 1 60=true:=within_iff.2 hm
 have w2:within 60 1 60=true:=by decide
 by_cases hk:tu g=true
 ·have e1:dQ g most=Dt (dB 40 0 g).1 (vis most (most.toNat+1) 0 g):=by unfold dQ;rw [if_pos ⟨hk,w1⟩]
  have e2:dQ g 60=Dt (dB 40 0 g).1 (vis 60 ((60:Int).toNat+1) 0 g):=by unfold dQ;rw [if_pos ⟨hk,w2⟩]
  have hmore:=Uk (m:=most) (m':=60) hm.2 (most.toNat+1) ((60:Int).toNat+1) 0 g (by omega) (by omega) (by omega)
  have hr:Right g.proj g.lines:=Right.of (by simp only [tu,Bool.and_eq_true] at hk;first|exact hk.1.2|exact hk.2.1)
  have hvr:=GY most (most.toNat+1) 0 g hr
  have hvb:=kP most (most.toNat+1) 0 g (by omega)
  generalize vis most (most.toNat+1) 0 g=w at*
  generalize vis 60 ((60:Int).toNat+1) 0 g=w' at*
  refine⟨by rw [e1];exact hvb.2,?_,?_,by rw [e1,e2];exact hmore.more,fun hs=>?_⟩
  ·rw [e1]
   show (mW g.proj w.lines).1=0
   rw [II hvr]
  ·rw [e1]
   rintro⟨h1,h2⟩
   have h1:w.stopped=true:=h1
   have h2:w.found.isSome=true:=h2
   rw [hmore.nof h1] at h2
   cases h2
  ·rw [e1] at hs
   rw [e1,e2,hmore.same hs]
 ·have e1:∀m,dQ g m=⟨WI,⟨[],[]⟩,false,0,false⟩:=fun m=>by unfold dQ;rw [if_neg (fun h=>hk h.1)]
  refine⟨by rw [e1];dsimp only;omega,by rw [e1];rfl,by rw [e1];simp,by rw [e1,e1];exact Int.le_refl _,fun _=>by rw [e1,e1]⟩
end Go.Proofs.YtmenphiahgkjkaaGreatDoor.Abs
namespace Go.Proofs.YtmenphiahgkjkaaGreatDoor.Abs
open Go.Proofs Go.ChangeShapes Go.WideShapes Go.ChangeAt Go.RowKit
variable {H:Type} {enc:TypeId×Value→H} {P:Program} {w:World} {I:Nat→Prop} {L:Nat} {μ:DataW H→Nat} {N:Nat}
theorem ada {t:Nat} (ht:P.underlying t=some (.int .u8)):Rd enc P w I L μ N t (fun n=>.int .u8 n) (fun _=>True):=by
 intro fuel cs d ps h _
 obtain⟨n,rfl,_,hw⟩:=DataW.trod_int ht h
 refine⟨n,trivial,?_⟩
 simp [AV.cells,aR,aG]
end Go.Proofs.YtmenphiahgkjkaaGreatDoor.Abs
