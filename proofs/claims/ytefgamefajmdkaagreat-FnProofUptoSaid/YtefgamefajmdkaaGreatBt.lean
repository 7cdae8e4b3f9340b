/- Explanations follow: the clause that explains a literal, or a refutation, in a domain within the first one. -/
import Derived.Test.YtefgamefajmdkaaGreatLg
import Derived.Test.YtefgamefajmdkaaGreatSnd
import Derived.Test.YtefgamefajmdkaaGreatPlain
set_option linter.all false
set_option maxRecDepth 20000
set_option maxHeartbeats 0
namespace Go.Proofs.YtefgamefajmdkaaGreat.Abs
open Go.Proofs
attribute [local irreducible] refutes
theorem OB {l:Lit} (hk:l.kind=1∨l.kind=2∨l.kind=3∨l.kind=4) (hv: -90000≤l.val∧l.val≤90000):negate (negate l)=l:=by
 obtain⟨k,a,v⟩:=l
 dsimp only at hk hv
 have w1:within v (-100000) 100000=true:=within_iff.2 (by omega)
 rcases hk with rfl|rfl|rfl|rfl
 ·have e:negate ⟨1,a,v⟩=⟨2,a,v - 1⟩:=by unfold negate;rw [if_pos w1];rfl
  rw [e];unfold negate;rw [if_pos (within_iff.2 (by dsimp only;omega))]
  show (⟨1,a,v - 1+1⟩:Lit)=_;congr 1;omega
 ·have e:negate ⟨2,a,v⟩=⟨1,a,v+1⟩:=by unfold negate;rw [if_pos w1];rfl
  rw [e];unfold negate;rw [if_pos (within_iff.2 (by dsimp only;omega))]
  show (⟨2,a,v+1 - 1⟩:Lit)=_;congr 1;omega
 ·have e:negate ⟨3,a,v⟩=⟨4,a,v⟩:=by unfold negate;rw [if_pos w1];rfl
  rw [e];unfold negate;rw [if_pos w1];rfl
 ·have e:negate ⟨4,a,v⟩=⟨3,a,v⟩:=by unfold negate;rw [if_pos w1];rfl
  rw [e];unfold negate;rw [if_pos w1];rfl
theorem Gn {p:Proj} {b:Dom} {k:Nat} {x:Lit} (hx:x∈mQ p b k):∀{n:Nat},k < n→x∈dh p b n
 |0,h=>by omega
 |n+1,h=>by
  rw [dh,List.mem_append]
  by_cases e:k=n
  ·subst e;exact .inr hx
  ·exact .inl (Gn hx (by omega))
theorem SK {p:Proj} {b:Dom} (hf:aC p b=true) {k:Nat} (hk:k < p.acts.length) {x:Lit} (hx:x∈mQ p b k):x∈jN p b:=by
 unfold jN;rw [if_pos hf];exact Gn hx hk
theorem getD_some {α:Type} {l:List α} {k:Nat} {x d:α} (h:l[k]? =some x):l.getD k d=x:=by rw [List.getD_eq_getElem?_getD,h];rfl
theorem yC {p:Proj} (hp:aF p=true) {k:Nat} (hk:k < p.acts.length):(bM p).lo.getD k 0=0∧(bM p).hi.getD k 0=p.dead - 1∧(bM p).modes.getD k []=aK (aY p k).modes.length:=by
 have ea:p.acts[k]=aY p k:=by
  have:=fJ hk
  rw [List.getElem?_eq_getElem hk] at this
  exact Option.some.inj this
 unfold bM;rw [if_pos hp]
 unfold fF
 dsimp only
 rw [jI hk,jI hk,jI hk,ea]
 exact⟨rfl,rfl,rfl⟩
theorem yD {c:Dom} {n k:Nat} (hc:tT c n) (hk:k < n) (v:Int):
  (restrict c ⟨1,k,v⟩).lo.getD k 0=max (c.lo.getD k 0) (clamped v)∧(restrict c ⟨2,k,v⟩).hi.getD k 0=min (c.hi.getD k 0) (clamped v)∧(restrict c ⟨4,k,v⟩).modes.getD k []=(c.modes.getD k []).filter fun n=>decide (n≠clamped v):=by
 obtain⟨h1,h2,h3⟩:=hc
 have hd:fT c (k:Int)=true:=by simp [fT];omega
 refine⟨?_,?_,?_⟩
 ·unfold restrict;dsimp only;rw [if_pos hd,if_pos rfl];dsimp only;rw [Int.toNat_natCast,dG (by omega)]
 ·unfold restrict;dsimp only;rw [if_pos hd,if_neg (by decide),if_pos rfl];dsimp only;rw [Int.toNat_natCast,dG (by omega)]
 ·unfold restrict;dsimp only;rw [if_pos hd,if_neg (by decide),if_neg (by decide),if_neg (by decide),if_pos rfl];dsimp only;rw [Int.toNat_natCast,dG (by omega)]
theorem SL {p:Proj} {b:Dom} (hf:aC p b=true) {L:List Lit} (hL:∀x∈pV p b,x∈L):gX (fH p L) b p.acts.length:=by
 have hp:=(iA hf).1
 have hi:=uL hp
 have h0:=(sN L (bM p) hi).2
 have he:=wo L (bM p) hi
 intro k hk
 obtain⟨a,x,y,m,g⟩:=eu hf hk
 obtain⟨i1,i2,i3⟩:=yC hp hk
 obtain⟨j1,j2,j3⟩:=h0 k hk
 have e1:=getD_some (d:=0) g.lo
 have e2:=getD_some (d:=0) g.hi
 have e3:=getD_some (d:=[]) g.modes
 have hb:=kU hf hk
 have ea:aY p k=a:=by unfold aY;exact getD_some g.act
 have hat:=ql g
 have use:∀l:Lit,l∈mQ p b k→(l.kind=1∨l.kind=2∨l.kind=3∨l.kind=4)→(-90000≤l.val∧l.val≤90000)→gX (fH p L) (restrict (bM p) l) p.acts.length:=by
  intro l hl hlk hlv
  have:=he (negate l) (hL _ (List.mem_map.2 ⟨l,SK hf hk hl,rfl⟩))
  rw [OB hlk hlv] at this
  exact this
 rw [e1,e2,e3]
 have b1:=hb.l1;have b2:=hb.l2;have b3:=hb.h1;have b4:=hb.h2
 rw [e1] at b1 b2
 rw [e2] at b3 b4
 refine⟨?_,?_,fun v hv=>?_⟩
 ·by_cases hx:x > 0
  ·have:=(use ⟨1,k,x⟩ (by rw [hat,uH,if_pos hx];simp) (.inl rfl) ⟨by dsimp only;omega,by dsimp only;omega⟩ k hk).1
   rw [(yD hi hk x).1,i1,vW ⟨b1,b2⟩] at this
   show x≤(fH p L).lo.getD k 0
   omega
  ·show x≤(fH p L).lo.getD k 0
   unfold fH
   omega
 ·by_cases hy:y < p.dead - 1
  ·have:=(use ⟨2,k,y⟩ (by rw [hat,uI,if_pos hy];simp) (.inr (.inl rfl)) ⟨by dsimp only;omega,by dsimp only;omega⟩ k hk).2.1
   rw [(yD hi hk y).2.1,i2,vW ⟨b3,b4⟩] at this
   show (fH p L).hi.getD k 0≤y
   omega
  ·show (fH p L).hi.getD k 0≤y
   unfold fH
   omega
 ·have hv0:=j3 v hv
  rw [i3,ea] at hv0
  by_cases hm:v∈m
  ·exact hm
  ·exfalso
   obtain⟨v0,v1⟩:=tQ hv0
   have hp3:=jo hp hk
   rw [ea] at hp3
   have hmem:v∈eO (aK a.modes.length) m:=by
    unfold eO
    rw [uJ]
    exact List.mem_filter.2 ⟨hv0,by simpa using hm⟩
   have:=(use ⟨4,k,v⟩ (by rw [hat];exact List.mem_append_right _ (List.mem_map.2 ⟨v,hmem,rfl⟩)) (.inr (.inr (.inr rfl))) ⟨by dsimp only;omega,by dsimp only;omega⟩ k hk).2.2 v hv
   rw [(yD hi hk v).2.2,vW ⟨by omega,by omega⟩] at this
   have:=(List.mem_filter.1 this).2
   simp at this
theorem Ec {p:Proj}:∀(l:List Lit) (b:Dom),aC p b=true→aC p (against b l)=true
 |[],b,h=>h
 |x::l,b,h=>Ec l _ (jm h _)
theorem QY (n:Nat):iX (aK n)=true:=by
 unfold iX aK
 split
 ·rw [bE]
  intro i hi
  unfold setAt
  simp only [Bool.or_eq_true,decide_eq_true_eq]
  by_cases h0:i=0
  ·exact .inl h0
  ·right
   simp only [List.length_map,List.length_range] at hi
   have e:∀j,j < (n:Int).toNat→((List.range (n:Int).toNat).map Int.ofNat).getD j 0=(j:Int):=fun j hj=>by
    rw [List.getD_eq_getElem?_getD,List.getElem?_map,List.getElem?_range hj];rfl
   rw [e (i - 1) (by omega),e i hi]
   omega
 ·rfl
theorem qp {p:Proj} (hp:aF p=true):aC p (bM p)=true:=by
 have hl:=uL hp
 have hh:=kS hp
 refine JH hp hl.lo hl.hi hl.ms fun k hk=>?_
 obtain⟨i1,i2,i3⟩:=yC hp hk
 have h1:(bM p).lo[k]? =some 0:=by rw [List.getElem?_eq_getElem (by rw [hl.lo];exact hk)];rw [List.getD_eq_getElem?_getD,List.getElem?_eq_getElem (by rw [hl.lo];exact hk)] at i1;exact congrArg some i1
 have h2:(bM p).hi[k]? =some (p.dead - 1):=by rw [List.getElem?_eq_getElem (by rw [hl.hi];exact hk)];rw [List.getD_eq_getElem?_getD,List.getElem?_eq_getElem (by rw [hl.hi];exact hk)] at i2;exact congrArg some i2
 have h3:(bM p).modes[k]? =some (aK (aY p k).modes.length):=by rw [List.getElem?_eq_getElem (by rw [hl.ms];exact hk)];rw [List.getD_eq_getElem?_getD,List.getElem?_eq_getElem (by rw [hl.ms];exact hk)] at i3;exact congrArg some i3
 unfold nG
 rw [h1,h2,h3,fJ hk]
 simp only [Bool.and_eq_true,lq,within_iff,subset,List.all_eq_true,List.contains_iff_mem]
 exact⟨⟨⟨by omega,by omega⟩,QY _⟩,fun x hx=>hx⟩
theorem QZ {p:Proj} (hp:aF p=true) (L:List Lit):aC p (fH p L)=true:=Ec L _ (qp hp)
theorem Gp {p:Proj} {b:Dom} (hf:aC p b=true):tT b p.acts.length:=by
 obtain⟨_,h1,h2,h3⟩:=iA hf;exact⟨h1,h2,h3⟩
theorem WS {p:Proj} {b:Dom} {r:Rul} {L:List Lit} {l:Lit} (hf:aC p b=true) (hL:∀x∈pV p b,x∈L) (hl:l∈L) (h:refutes p (restrict b (negate l)) r=true):refutes p (fH p L) r=true:=by
 have hp:=(iA hf).1
 refine OA (QZ hp L) (Eb (Gp hf) (uL hp) (SL hf hL) ?_) h
 exact wo L (bM p) (uL hp) l hl
theorem Ra {p:Proj} {l:List Lit} (hs:l.Pairwise kI) (hok:∀x∈l,fQ p x=true) (hn:l.length≤24):eZ p l=true:=by
 simp only [eZ,Bool.and_eq_true,decide_eq_true_eq]
 refine⟨bE.2 fun i hi=>?_,by omega⟩
 unfold clauseAt
 rw [List.getElem?_eq_getElem hi]
 simp only [Bool.and_eq_true]
 refine⟨hok _ (List.getElem_mem hi),?_⟩
 by_cases h0:i=0
 ·subst h0;simp
 ·simp only [Bool.or_eq_true,Bool.not_eq_true',decide_eq_false_iff_not]
  right
  rw [List.getElem?_eq_getElem (by omega:i - 1 < l.length)]
  simp only [Bool.not_eq_true',decide_eq_false_iff_not]
  have:=List.pairwise_iff_getElem.1 hs (i - 1) i (by omega) hi (by omega)
  have:=Fe.2 this
  omega
theorem sO {p:Proj} {r:Rul} {keeps:Lit→Bool}:∀(xs:List Lit) (o:List Lit),o.Pairwise kI→(∀x∈o,fQ p x=true)→o.length≤24→refutes p (fH p o) r=true→
  follows p r (xs.foldl (lF p r keeps) o)=true
 |[],o,h1,h2,h3,h4=>by
  simp only [List.foldl_nil,follows,Bool.and_eq_true]
  exact⟨Ra h1 h2 h3,h4⟩
 |x::xs,o,h1,h2,h3,h4=>by
  rw [List.foldl_cons]
  unfold lF
  split
  ·exact sO xs o h1 h2 h3 h4
  ·split
   ·rename_i hr
    refine sO xs (fV o x) ?_ ?_ ?_ hr
    ·exact h1.sublist List.filter_sublist
    ·exact fun y hy=>h2 y (List.mem_filter.1 hy).1
    ·exact Nat.le_trans (List.length_filter_le _ _) h3
   ·exact sO xs o h1 h2 h3 h4
theorem Ed {p:Proj} {r:Rul} {keeps:Lit→Bool} {l:List Lit} (h1:l.Pairwise kI) (h2:∀x∈l,fQ p x=true) (h3:l.length≤24) (h4:refutes p (fH p l) r=true):follows p r (mP p r keeps l)=true:=
 sO l l h1 h2 h3 h4
def Bu (p:Proj) (b:Dom):Prop:=gX b (bM p) p.acts.length
theorem Bu.restrict {p:Proj} {b:Dom} (hf:aC p b=true) (h:Bu p b) (l:Lit):Bu p (restrict b l):=gX.trans (wh b l (Gp hf)) h
theorem XP {p:Proj} {b:Dom} (hf:aC p b=true):∀x∈pV p b,fQ p x=true:=by
 intro x hx
 have hp:=(iA hf).1
 have hh:=kS hp
 obtain⟨l,hl,rfl⟩:=List.mem_map.1 hx
 unfold jN at hl
 rw [if_pos hf] at hl
 have key:∀n,n≤p.acts.length→l∈dh p b n→fQ p (negate l)=true:=by
  intro n
  induction n with
  |zero=>intro _ h;simp [dh] at h
  |succ k ih=>
   intro hn h
   rw [dh,List.mem_append] at h
   rcases h with h|h
   ·exact ih (by omega) h
   ·have hk:k < p.acts.length:=by omega
    obtain⟨a,x,y,m,g⟩:=eu hf hk
    have hb:=kU hf hk
    have e1:=getD_some (d:=0) g.lo
    have e2:=getD_some (d:=0) g.hi
    have b1:=hb.l2;have b2:=hb.h1
    rw [e1] at b1
    rw [e2] at b2
    have hact:aZ p (k:Int)=true:=by simp only [aZ,within_iff];omega
    have few:=jo hp hk
    rw [ql g,List.mem_append,List.mem_append] at h
    rcases h with (h|h)|h
    ·unfold uH at h
     split at h
     ·rename_i hx
      obtain rfl:=List.mem_singleton.1 h
      have:negate ⟨1,(k:Int),x⟩=⟨2,k,x - 1⟩:=by unfold negate;rw [if_pos (within_iff.2 (by dsimp only;omega))];rfl
      rw [this]
      unfold fQ;rw [hp,hact,if_pos (.inr rfl)]
      simp only [Bool.true_and]
      exact within_iff.2 (by omega)
     ·cases h
    ·unfold uI at h
     split at h
     ·rename_i hy
      obtain rfl:=List.mem_singleton.1 h
      have:negate ⟨2,(k:Int),y⟩=⟨1,k,y+1⟩:=by unfold negate;rw [if_pos (within_iff.2 (by dsimp only;omega))];rfl
      rw [this]
      unfold fQ;rw [hp,hact,if_pos (.inl rfl)]
      simp only [Bool.true_and]
      exact within_iff.2 (by omega)
     ·cases h
    ·simp only [iI,List.mem_map] at h
     obtain⟨v,hv,rfl⟩:=h
     unfold eO at hv
     rw [uJ] at hv
     obtain⟨v0,v1⟩:=tQ (List.mem_filter.1 hv).1
     have ea:aY p k=a:=by unfold aY;exact getD_some g.act
     rw [ea] at few
     have:negate ⟨4,(k:Int),v⟩=⟨3,k,v⟩:=by unfold negate;rw [if_pos (within_iff.2 (by dsimp only;omega))];rfl
     rw [this]
     unfold fQ
     rw [hp,hact,if_neg (by simp),if_pos (.inl rfl),Int.toNat_natCast,g.act]
     simp only [Bool.true_and]
     exact within_iff.2 (by omega)
 exact key _ (Nat.le_refl _) hl
theorem Ee {p:Proj} {b:Dom} (hf:aC p b=true) (hm:∀k,k < p.acts.length→(aY p k).modes.length≤2):∀n,n≤p.acts.length→(dh p b n).length≤4*n
 |0,_=>by simp [dh]
 |k+1,hn=>by
  have ih:=Ee hf hm k (by omega)
  have hk:k < p.acts.length:=by omega
  obtain⟨a,x,y,m,g⟩:=eu hf hk
  have ea:aY p k=a:=by unfold aY;exact getD_some g.act
  have hmk:=hm k hk
  rw [ea] at hmk
  rw [dh,List.length_append,ql g,List.length_append,List.length_append]
  have h1:(uH k x).length≤1:=by unfold uH;split<;>simp
  have h2:(uI p.dead k y).length≤1:=by unfold uI;split<;>simp
  have h3:(iI k (eO (aK a.modes.length) m)).length≤2:=by
   unfold iI eO
   rw [List.length_map]
   have q1:=iT ((aK a.modes.length).filter fun n=> !m.contains n)
   have q2:=List.length_filter_le (fun n=> !m.contains n) (aK a.modes.length)
   have q3:(aK a.modes.length).length≤a.modes.length:=by
    unfold aK;split
    ·simp
    ·simp
   omega
  omega
theorem WT {p:Proj} {b:Dom} (hf:aC p b=true) (hm:∀k,k < p.acts.length→(aY p k).modes.length≤2):(pV p b).length≤4*p.acts.length:=by
 unfold pV jN
 rw [if_pos hf,List.length_map]
 exact Ee hf hm _ (Nat.le_refl _)
structure Small (p:Proj):Prop where
 ok:aF p=true
 few:p.acts.length≤5
 two:∀k,k < p.acts.length→(aY p k).modes.length≤2
theorem Bv {p:Proj} {b:Dom} {r:Rul} {l:Lit} (hs:Small p) (hf:aC p b=true) (hl:fQ p l=true) (h:refutes p (restrict b (negate l)) r=true):follows p r (iJ p b r l).1=true:=by
 have hn:=WT hf hs.two
 have abv:=hs.few
 unfold iJ
 rw [if_pos ⟨hl,h⟩]
 obtain⟨s1,s2⟩:=uG (pV p b++[l])
 refine Ed s1 (fun x hx=>?_) ?_ ?_
 ·rcases List.mem_append.1 ((s2 x).1 hx) with hx|hx
  ·exact XP hf x hx
  ·rw [List.mem_singleton.1 hx];exact hl
 ·have:=Ad (pV p b++[l])
  simp at this;omega
 ·exact WS hf (fun x hx=>(s2 x).2 (List.mem_append_left _ hx)) ((s2 l).2 (by simp)) h
end Go.Proofs.YtefgamefajmdkaaGreat.Abs
namespace Go.Proofs.YtefgamefajmdkaaGreat.Abs
open Go.Proofs
attribute [local irreducible] refutes iJ
theorem Mt {f:Int→Bool} {hi:Int}:∀(k:Nat) (n:Int),n≤goUp f hi k n∧∀v,n≤v→v < goUp f hi k n→f v=true∧v≤hi
 |0,n=>⟨Int.le_refl _,fun v h1 h2=>by simp only [goUp] at h2;omega⟩
 |k+1,n=>by
  rw [goUp]
  split
  ·rename_i h
   obtain⟨h1,h2⟩:=Mt (f:=f) (hi:=hi) k (n+1)
   refine⟨by omega,fun v h3 h4=>?_⟩
   by_cases e:v=n
   ·subst e;exact⟨h.2,h.1⟩
   ·exact h2 v (by omega) h4
  ·exact⟨Int.le_refl _,fun v h1 h2=>by omega⟩
theorem Mv {f:Int→Bool} {lo:Int}:∀(k:Nat) (n:Int),Bn f lo k n≤n∧∀v,v≤n→Bn f lo k n < v→f v=true∧lo≤v
 |0,n=>⟨Int.le_refl _,fun v h1 h2=>by simp only [Bn] at h2;omega⟩
 |k+1,n=>by
  rw [Bn]
  split
  ·rename_i h
   obtain⟨h1,h2⟩:=Mv (f:=f) (lo:=lo) k (n - 1)
   refine⟨by omega,fun v h3 h4=>?_⟩
   by_cases e:v=n
   ·subst e;exact⟨h.2,h.1⟩
   ·exact h2 v (by omega) h4
  ·exact⟨Int.le_refl _,fun v h1 h2=>by omega⟩
theorem Kc {p:Proj} {b:Dom} {r:Rul} {k:Nat} {l:Lit} (hf:aC p b=true) (hin:Bu p b) (hk:k < p.acts.length) (h:l∈nY p b r k):fQ p l=true∧refutes p (restrict b (negate l)) r=true:=by
 have hp:=(iA hf).1
 have hh:=kS hp
 obtain⟨a,x,y,m,g⟩:=eu hf hk
 obtain⟨i1,i2,i3⟩:=yC hp hk
 obtain⟨j1,j2,j3⟩:=hin k hk
 have e1:=getD_some (d:=0) g.lo
 have e2:=getD_some (d:=0) g.hi
 have e3:=getD_some (d:=[]) g.modes
 have hb:=kU hf hk
 have b3:=hb.h1;have b2:=hb.l2
 rw [e1] at j1 b2
 rw [e2] at j2 b3
 have hact:aZ p (k:Int)=true:=by simp only [aZ,within_iff];omega
 have few:=jo hp hk
 have ea:aY p k=a:=by unfold aY;exact getD_some g.act
 rw [Fp g] at h
 unfold zi at h
 rw [List.mem_append,List.mem_append] at h
 rcases h with (h|h)|h
 ·unfold atLeast at h
  split at h
  ·rename_i hn
   obtain rfl:=List.mem_singleton.1 h
   obtain⟨u1,u2⟩:=Mt (f:=qo p b r 2 k) (hi:=y) (y+1 - x).toNat x
   generalize goUp (qo p b r 2 k) y (y+1 - x).toNat x=n at hn u1 u2
   obtain⟨v1,v2⟩:=u2 (n - 1) (by omega) (by omega)
   have en:negate ⟨1,(k:Int),n⟩=⟨2,k,n - 1⟩:=by unfold negate;rw [if_pos (within_iff.2 (by dsimp only;omega))];rfl
   rw [en]
   refine⟨?_,v1⟩
   unfold fQ;rw [hp,hact,if_pos (.inl rfl)]
   simp only [Bool.true_and]
   exact within_iff.2 (by omega)
  ·cases h
 ·unfold yj at h
  split at h
  ·rename_i hn
   obtain rfl:=List.mem_singleton.1 h
   obtain⟨u1,u2⟩:=Mv (f:=qo p b r 1 k) (lo:=x) (y+1 - x).toNat y
   generalize Bn (qo p b r 1 k) x (y+1 - x).toNat y=n at hn u1 u2
   obtain⟨v1,v2⟩:=u2 (n+1) (by omega) (by omega)
   have en:negate ⟨2,(k:Int),n⟩=⟨1,k,n+1⟩:=by unfold negate;rw [if_pos (within_iff.2 (by dsimp only;omega))];rfl
   rw [en]
   refine⟨?_,v1⟩
   unfold fQ;rw [hp,hact,if_pos (.inr rfl)]
   simp only [Bool.true_and]
   exact within_iff.2 (by omega)
  ·cases h
 ·obtain⟨v,hv,rfl⟩:=List.mem_map.1 h
  obtain⟨hv,hr⟩:=List.mem_filter.1 hv
  simp only [Bool.and_eq_true] at hr
  have hvm:=hb.ms v (by rw [e3];exact hv)
  rw [ea] at hvm few
  have en:negate ⟨4,(k:Int),v⟩=⟨3,k,v⟩:=by unfold negate;rw [if_pos (within_iff.2 (by dsimp only;omega))];rfl
  rw [en]
  refine⟨?_,hr.2⟩
  unfold fQ
  rw [hp,hact,if_neg (by simp),if_pos (.inr rfl),Int.toNat_natCast,g.act]
  simp only [Bool.true_and]
  exact within_iff.2 (by omega)
structure aao (p:Proj) (b:Dom) (s:Infer):Prop where
 fol:follows p s.rule s.clause=true
 lit:fQ p s.lit=true
 ref:refutes p (restrict b (negate s.lit)) s.rule=true
theorem Gq {p:Proj} {b:Dom} {s:Infer} (hs:Small p) (hin:Bu p b) (h:bG p b=some s):aao p b s:=by
 have hf:=DV (JX h).1
 unfold bG at h
 split at h
 ·cases h
 ·obtain⟨r,hr,h1⟩:=List.exists_of_findSome?_eq_some h
  unfold vS at h1
  obtain⟨a,ha,h2⟩:=List.exists_of_findSome?_eq_some h1
  obtain⟨k,rfl,hk⟩:=DT ha
  unfold DU at h2
  rw [Int.toNat_natCast] at h2
  obtain⟨l,hl,rfl⟩:=Option.map_eq_some_iff.1 h2
  have hm:l∈nY p b r k:=List.mem_of_mem_head? hl
  obtain⟨q1,q2⟩:=Kc hf hin hk hm
  exact⟨Bv hs hf q1 q2,q1,q2⟩
theorem TU {p:Proj} {ahead:List Lin} {r:Rul} {c:List Lit} (hp:aF p=true) (hn:ahead.length < 300) (h:follows p r c=true):aL p ahead ⟨1,r,c⟩=0:=by
 have hc:eZ p c=true:=by simp only [follows,Bool.and_eq_true] at h;exact h.1
 unfold aL
 rw [if_pos ⟨hp,by simp only [tu,HZ,Bool.and_eq_true,Bool.or_eq_true];exact⟨hc,.inl rfl⟩,by omega⟩,if_pos rfl,if_pos h]
def dN (p:Proj) (c:Cur):Lit×Cur:=
 let a:=below c p.acts.length
 let o:=below a.2 4
 let k:=below o.2 2
 if o.1=0 then (⟨3+k.1,a.1,(below k.2 (aY p a.1.toNat).modes.length).1⟩,(below k.2 (aY p a.1.toNat).modes.length).2)
 else (⟨1+k.1,a.1,(below k.2 10).1⟩,(below k.2 10).2)
theorem wu {p:Proj} (hp:aF p=true) {c:Cur} (h:c.ok):fQ p (dN p c).1=true∧(dN p c).2.ok:=by
 obtain⟨a,c1,e1,h1,a0,a1⟩:=ak h p.acts.length
 obtain⟨o,c2,e2,h2,o0,o1⟩:=ak h1 4
 obtain⟨k,c3,e3,h3,k0,k1⟩:=ak h2 2
 have hh:=kS hp
 have a1:=a1 (by omega)
 have k1:=k1 (by decide)
 unfold dN
 rw [e1];dsimp only;rw [e2];dsimp only;rw [e3];dsimp only
 have hact:aZ p a=true:=by simp only [aZ,within_iff];omega
 split
 ·obtain⟨v,c4,e4,h4,v0,v1⟩:=ak h3 (aY p a.toNat).modes.length
  have few:=jo hp (k:=a.toNat) (by omega)
  have v1:=v1 (by omega)
  rw [e4]
  refine⟨?_,h4⟩
  unfold fQ
  dsimp only
  rw [hp,hact,if_neg (by omega),if_pos (by omega),fJ (by omega)]
  simp only [Bool.true_and]
  exact within_iff.2 (by omega)
 ·obtain⟨v,c4,e4,h4,v0,v1⟩:=ak h3 10
  have v1:=v1 (by decide)
  rw [e4]
  refine⟨?_,h4⟩
  unfold fQ
  dsimp only
  rw [hp,hact,if_pos (by omega)]
  simp only [Bool.true_and]
  exact within_iff.2 (by omega)
def jV (p:Proj) (l:List Lit) (c:Cur):List Lit×Cur:=(l++[(dN p c).1],(dN p c).2)
def kV (p:Proj) (most:Int) (c:Cur):List Lit×Cur:=
 let k:=below c (most+1)
 let l:=itN (jV p) k.1.toNat [] k.2
 (bW l.1,l.2)
theorem yE {p:Proj} (hp:aF p=true) {c:Cur} (h:c.ok) (most:Int):(kV p most c).2.ok:=by
 unfold kV
 exact (jA (f:=jV p) (fun _ _=>True) (fun k l c hc _=>⟨trivial,(wu hp hc).2⟩) _ _ _ (aO h _) trivial).2
def jW (p:Proj) (c:Cur):Rul×Cur:=
 let k:=below c 7
 let n:Int:=p.acts.length
 let d:Rul×Cur:=(⟨2,(below k.2 (max n 1)).1,0,0⟩,(below k.2 (max n 1)).2)
 if k.1=0 then (if 0 < p.links.length then (⟨1,(below k.2 p.links.length).1,0,0⟩,(below k.2 p.links.length).2) else d)
 else if k.1=1 then (if 0 < p.aX.length then (⟨6,(below k.2 p.aX.length).1,0,0⟩,(below k.2 p.aX.length).2) else d)
 else if k.1=2∨k.1=3 then
  let x:=below k.2 8
  let e:=below x.2 8
  let a:=below e.2 (p.bg.length+e.1 / 7)
  let q:=below a.2 6
  (⟨4,a.1,x.1,x.1+1+q.1⟩,q.2)
 else if k.1=4 then (if 1 < n then
  let b:=below k.2 (n - 1)
  let a:=below b.2 (p.bg.length+1)
  let q:=below a.2 (n - 1 - b.1)
  (⟨5,a.1,b.1,b.1+1+q.1⟩,q.2) else d)
 else if k.1=5 then
  let e:=below k.2 8
  let a:=below e.2 (p.bg.length+e.1 / 7)
  let t:=below a.2 12
  (⟨3,a.1,t.1,0⟩,t.2)
 else d
theorem OC (p:Proj) {c:Cur} (h:c.ok):(jW p c).2.ok:=by
 have hk:=aO h 7
 unfold jW
 dsimp only
 split
 ·split
  ·exact aO hk _
  ·exact aO hk _
 split
 ·split
  ·exact aO hk _
  ·exact aO hk _
 split
 ·exact aO (aO (aO (aO hk _) _) _) _
 split
 ·split
  ·exact aO (aO (aO hk _) _) _
  ·exact aO hk _
 split
 ·exact aO (aO (aO hk _) _) _
 ·exact aO hk _
def resolve (a b:List Lit) (l:Lit):List Lit:=bW (fV a l++fV b (negate l))
def TV (a b:List Lit) (c:Cur):List Lit×Cur:=if 0 < a.length then (resolve a b (a.getD (below c a.length).1.toNat bf),(below c a.length).2) else (bW (a++b),c)
def wz (p:Proj) (ls:List Lin) (c:Cur):List Lit×Cur:=
 let x:=kV p 3 c
 if 1 < ls.length then
  let o:=below x.2 2
  if o.1=0 then
   let i:=below o.2 ls.length
   let j:=below i.2 ls.length
   TV (ls.getD i.1.toNat ⟨0,NP,[]⟩).clause (ls.getD j.1.toNat ⟨0,NP,[]⟩).clause j.2
  else (x.1,o.2)
 else x
def iK (p:Proj) (ls:List Lin) (c:Cur):Lin×Cur:=
 let x:=wz p ls c
 let o:=below x.2 5
 if o.1=0 then (⟨1,(jW p o.2).1,x.1⟩,(jW p o.2).2) else (⟨2,NP,x.1⟩,o.2)
theorem Ve (a b:List Lit) {c:Cur} (h:c.ok):(TV a b c).2.ok:=by
 unfold TV;split
 ·exact aO h _
 ·exact h
theorem Ke {p:Proj} (hp:aF p=true) (ls:List Lin) {c:Cur} (h:c.ok):(wz p ls c).2.ok:=by
 have hx:=yE hp h 3
 unfold wz
 dsimp only
 split
 ·split
  ·exact Ve _ _ (aO (aO (aO hx _) _) _)
  ·exact aO hx _
 ·exact hx
theorem Ef {p:Proj} (hp:aF p=true) (ls:List Lin) {c:Cur} (h:c.ok):(iK p ls c).2.ok:=by
 have hx:=Ke hp ls h
 unfold iK
 dsimp only
 split
 ·exact OC p (aO hx _)
 ·exact aO hx _
def gG (p:Proj):Nat→Dom→List Lin→Cur→List Lin×Cur
 |0,_,out,c=>(out,c)
 |k+1,b,out,c=>match bG p b with
  |none=>if bF (restrict b (dN p c).1)=true then (out,(dN p c).2) else gG p k (restrict b (dN p c).1) out (dN p c).2
  |some s=>gG p k (restrict b s.lit) (out++[⟨1,s.rule,s.clause⟩]) c
section
attribute [local irreducible] bG dN bF restrict
theorem yF (p:Proj) (b:Dom) (out:List Lin) (c:Cur):gG p 0 b out c=(out,c):=rfl
theorem yG (p:Proj) (k:Nat) (b:Dom) (out:List Lin) (c:Cur):gG p (k+1) b out c=(match bG p b with
  |none=>if bF (restrict b (dN p c).1)=true then (out,(dN p c).2) else gG p k (restrict b (dN p c).1) out (dN p c).2
  |some s=>gG p k (restrict b s.lit) (out++[⟨1,s.rule,s.clause⟩]) c):=rfl
end
def bX (p:Proj) (out:List Lin) (c:Cur):List Lin×Cur:=
 (if aL p out (iK p out c).1=0 then out++[(iK p out c).1] else out,(iK p out c).2)
def qw (p:Proj) (code:List Int):List Lin:=
 let k:=below (NQ (tF code) 19) 5
 let x:=gG p (2+k.1).toNat (bM p) [] k.2
 let m:=below x.2 3
 (itN (bX p) m.1.toNat x.1 m.2).1
end Go.Proofs.YtefgamefajmdkaaGreat.Abs
