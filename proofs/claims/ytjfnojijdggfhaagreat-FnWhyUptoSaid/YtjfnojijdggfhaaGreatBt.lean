/- Explanations follow: the clause that explains a literal, or a refutation, in a domain within the first one. -/
import Derived.Test.YtjfnojijdggfhaaGreatLg
import Derived.Test.YtjfnojijdggfhaaGreatSnd
import Derived.Test.YtjfnojijdggfhaaGreatPlain
set_option linter.all false
set_option maxRecDepth 20000
set_option maxHeartbeats 0
namespace Go.Proofs.YtjfnojijdggfhaaGreat.Abs
open Go.Proofs
attribute [local irreducible] refutes
theorem NY {l:Lit} (hk:l.kind=1∨l.kind=2∨l.kind=3∨l.kind=4) (hv: -90000≤l.val∧l.val≤90000):negate (negate l)=l:=by
 obtain⟨k,a,v⟩:=l
 dsimp only at hk hv
 have w1:within v (-100000) 100000=true:=within_iff.2 (by omega)
 rcases hk with rfl|rfl|rfl|rfl
 ·have e:negate ⟨1,a,v⟩=⟨2,a,v - 1⟩:=by unfold negate;rw [if_pos w1];rfl
  rw [e];unfold negate;rw [if_pos (within_iff.2 (by dsimp only;omega))]
  show (⟨1,a,v - 1+1⟩:Lit)=_;congr 1;omega
 ·have e:negate ⟨2,a,v⟩=⟨1,a,v+1⟩:=by unfold negate;rw [if_pos w1];rfl
  rw [e];unfold negate;rw [if_pos (within_iff.2 (by dsimp only;omega))]
  show (⟨2,a,v+1 - 1⟩:Lit)=_;congr 1;omega
 ·have e:negate ⟨3,a,v⟩=⟨4,a,v⟩:=by unfold negate;rw [if_pos w1];rfl
  rw [e];unfold negate;rw [if_pos w1];rfl
 ·have e:negate ⟨4,a,v⟩=⟨3,a,v⟩:=by unfold negate;rw [if_pos w1];rfl
  rw [e];unfold negate;rw [if_pos w1];rfl
theorem FE {p:Proj} {b:Dom} {k:Nat} {x:Lit} (hx:x∈mh p b k):∀{n:Nat},k < n→x∈bR p b n
 |0,h=>by omega
 |n+1,h=>by
  rw [bR,List.mem_append]
  by_cases e:k=n
  ·subst e;exact .inr hx
  ·exact .inl (FE hx (by omega))
theorem Sd {p:Proj} {b:Dom} (hf:ay p b=true) {k:Nat} (hk:k < p.acts.length) {x:Lit} (hx:x∈mh p b k):x∈jc p b:=by
 unfold jc;rw [if_pos hf];exact FE hx hk
theorem getD_some {α:Type} {l:List α} {k:Nat} {x d:α} (h:l[k]? =some x):l.getD k d=x:=by rw [List.getD_eq_getElem?_getD,h];rfl
theorem mE {p:Proj} (hp:aL p=true) {k:Nat} (hk:k < p.acts.length):(aW p).lo.getD k 0=0∧(aW p).hi.getD k 0=p.dead - 1∧(aW p).modes.getD k []=aH (aV p k).modes.length:=by
 have ea:p.acts[k]=aV p k:=by
  have:=gZ hk
  rw [List.getElem?_eq_getElem hk] at this
  exact Option.some.inj this
 unfold aW;rw [if_pos hp]
 unfold lC
 dsimp only
 rw [jr hk,jr hk,jr hk,ea]
 exact⟨rfl,rfl,rfl⟩
theorem xQ {c:Dom} {n k:Nat} (hc:yR c n) (hk:k < n) (v:Int):
  (restrict c ⟨1,k,v⟩).lo.getD k 0=max (c.lo.getD k 0) (clamped v)∧(restrict c ⟨2,k,v⟩).hi.getD k 0=min (c.hi.getD k 0) (clamped v)∧(restrict c ⟨4,k,v⟩).modes.getD k []=(c.modes.getD k []).filter fun n=>decide (n≠clamped v):=by
 obtain⟨h1,h2,h3⟩:=hc
 have hd:fq c (k:Int)=true:=by simp [fq];omega
 refine⟨?_,?_,?_⟩
 ·unfold restrict;dsimp only;rw [if_pos hd,if_pos rfl];dsimp only;rw [Int.toNat_natCast,aZ (by omega)]
 ·unfold restrict;dsimp only;rw [if_pos hd,if_neg (by decide),if_pos rfl];dsimp only;rw [Int.toNat_natCast,aZ (by omega)]
 ·unfold restrict;dsimp only;rw [if_pos hd,if_neg (by decide),if_neg (by decide),if_neg (by decide),if_pos rfl];dsimp only;rw [Int.toNat_natCast,aZ (by omega)]
theorem Sg {p:Proj} {b:Dom} (hf:ay p b=true) {L:List Lit} (hL:∀x∈mY p b,x∈L):dR (fu p L) b p.acts.length:=by
 have hp:=(bN hf).1
 have hi:=oC hp
 have h0:=(oF L (aW p) hi).2
 have he:=vH L (aW p) hi
 intro k hk
 obtain⟨a,x,y,m,g⟩:=eP hf hk
 obtain⟨i1,i2,i3⟩:=mE hp hk
 obtain⟨j1,j2,j3⟩:=h0 k hk
 have e1:=getD_some (d:=0) g.lo
 have e2:=getD_some (d:=0) g.hi
 have e3:=getD_some (d:=[]) g.modes
 have hb:=kJ hf hk
 have ea:aV p k=a:=by unfold aV;exact getD_some g.act
 have hat:=mR g
 have use:∀l:Lit,l∈mh p b k→(l.kind=1∨l.kind=2∨l.kind=3∨l.kind=4)→(-90000≤l.val∧l.val≤90000)→dR (fu p L) (restrict (aW p) l) p.acts.length:=by
  intro l hl hlk hlv
  have:=he (negate l) (hL _ (List.mem_map.2 ⟨l,Sd hf hk hl,rfl⟩))
  rw [NY hlk hlv] at this
  exact this
 rw [e1,e2,e3]
 have b1:=hb.l1;have b2:=hb.l2;have b3:=hb.h1;have b4:=hb.h2
 rw [e1] at b1 b2
 rw [e2] at b3 b4
 refine⟨?_,?_,fun v hv=>?_⟩
 ·by_cases hx:x > 0
  ·have:=(use ⟨1,k,x⟩ (by rw [hat,rH,if_pos hx];simp) (.inl rfl) ⟨by dsimp only;omega,by dsimp only;omega⟩ k hk).1
   rw [(xQ hi hk x).1,i1,lY ⟨b1,b2⟩] at this
   show x≤(fu p L).lo.getD k 0
   omega
  ·show x≤(fu p L).lo.getD k 0
   unfold fu
   omega
 ·by_cases hy:y < p.dead - 1
  ·have:=(use ⟨2,k,y⟩ (by rw [hat,rJ,if_pos hy];simp) (.inr (.inl rfl)) ⟨by dsimp only;omega,by dsimp only;omega⟩ k hk).2.1
   rw [(xQ hi hk y).2.1,i2,lY ⟨b3,b4⟩] at this
   show (fu p L).hi.getD k 0≤y
   omega
  ·show (fu p L).hi.getD k 0≤y
   unfold fu
   omega
 ·have hv0:=j3 v hv
  rw [i3,ea] at hv0
  by_cases hm:v∈m
  ·exact hm
  ·exfalso
   obtain⟨v0,v1⟩:=nP hv0
   have hp3:=iT hp hk
   rw [ea] at hp3
   have hmem:v∈eT (aH a.modes.length) m:=by
    unfold eT
    rw [pU]
    exact List.mem_filter.2 ⟨hv0,by simpa using hm⟩
   have:=(use ⟨4,k,v⟩ (by rw [hat];exact List.mem_append_right _ (List.mem_map.2 ⟨v,hmem,rfl⟩)) (.inr (.inr (.inr rfl))) ⟨by dsimp only;omega,by dsimp only;omega⟩ k hk).2.2 v hv
   rw [(xQ hi hk v).2.2,lY ⟨by omega,by omega⟩] at this
   have:=(List.mem_filter.1 this).2
   simp at this
theorem Di {p:Proj}:∀(l:List Lit) (b:Dom),ay p b=true→ay p (against b l)=true
 |[],b,h=>h
 |x::l,b,h=>Di l _ (nO h _)
theorem QB (n:Nat):nV (aH n)=true:=by
 unfold nV aH
 split
 ·rw [aX]
  intro i hi
  unfold setAt
  simp only [Bool.or_eq_true,decide_eq_true_eq]
  by_cases h0:i=0
  ·exact .inl h0
  ·right
   simp only [List.length_map,List.length_range] at hi
   have e:∀j,j < (n:Int).toNat→((List.range (n:Int).toNat).map Int.ofNat).getD j 0=(j:Int):=fun j hj=>by
    rw [List.getD_eq_getElem?_getD,List.getElem?_map,List.getElem?_range hj];rfl
   rw [e (i - 1) (by omega),e i hi]
   omega
 ·rfl
theorem vI {p:Proj} (hp:aL p=true):ay p (aW p)=true:=by
 have hl:=oC hp
 have hh:=jC hp
 refine IY hp hl.lo hl.hi hl.ms fun k hk=>?_
 obtain⟨i1,i2,i3⟩:=mE hp hk
 have h1:(aW p).lo[k]? =some 0:=by rw [List.getElem?_eq_getElem (by rw [hl.lo];exact hk)];rw [List.getD_eq_getElem?_getD,List.getElem?_eq_getElem (by rw [hl.lo];exact hk)] at i1;exact congrArg some i1
 have h2:(aW p).hi[k]? =some (p.dead - 1):=by rw [List.getElem?_eq_getElem (by rw [hl.hi];exact hk)];rw [List.getD_eq_getElem?_getD,List.getElem?_eq_getElem (by rw [hl.hi];exact hk)] at i2;exact congrArg some i2
 have h3:(aW p).modes[k]? =some (aH (aV p k).modes.length):=by rw [List.getElem?_eq_getElem (by rw [hl.ms];exact hk)];rw [List.getD_eq_getElem?_getD,List.getElem?_eq_getElem (by rw [hl.ms];exact hk)] at i3;exact congrArg some i3
 unfold oQ
 rw [h1,h2,h3,gZ hk]
 simp only [Bool.and_eq_true,mM,within_iff,subset,List.all_eq_true,List.contains_iff_mem]
 exact⟨⟨⟨by omega,by omega⟩,QB _⟩,fun x hx=>hx⟩
theorem FH {p:Proj} (hp:aL p=true) (L:List Lit):ay p (fu p L)=true:=Di L _ (vI hp)
theorem NZ {p:Proj} {b:Dom} {r:Rul} {L:List Lit} (hf:ay p b=true) (hL:∀x∈mY p b,x∈L) (h:refutes p b r=true):refutes p (fu p L) r=true:=
 Df (FH (bN hf).1 L) (Sg hf hL) h
theorem rQ {p:Proj} {b:Dom} (hf:ay p b=true):yR b p.acts.length:=by
 obtain⟨_,h1,h2,h3⟩:=bN hf;exact⟨h1,h2,h3⟩
theorem QC {p:Proj} {l:List Lit} (hs:l.Pairwise dV) (hok:∀x∈l,jA p x=true) (hn:l.length≤24):lu p l=true:=by
 simp only [lu,Bool.and_eq_true,decide_eq_true_eq]
 refine⟨aX.2 fun i hi=>?_,by omega⟩
 unfold clauseAt
 rw [List.getElem?_eq_getElem hi]
 simp only [Bool.and_eq_true]
 refine⟨hok _ (List.getElem_mem hi),?_⟩
 by_cases h0:i=0
 ·subst h0;simp
 ·simp only [Bool.or_eq_true,Bool.not_eq_true',decide_eq_false_iff_not]
  right
  rw [List.getElem?_eq_getElem (by omega:i - 1 < l.length)]
  simp only [Bool.not_eq_true',decide_eq_false_iff_not]
  have:=List.pairwise_iff_getElem.1 hs (i - 1) i (by omega) hi (by omega)
  have:=ny.2 this
  omega
theorem rR {p:Proj} {r:Rul} {keeps:Lit→Bool}:∀(xs:List Lit) (o:List Lit),o.Pairwise dV→(∀x∈o,jA p x=true)→o.length≤24→refutes p (fu p o) r=true→
  follows p r (xs.foldl (dh p r keeps) o)=true
 |[],o,h1,h2,h3,h4=>by
  simp only [List.foldl_nil,follows,Bool.and_eq_true]
  exact⟨QC h1 h2 h3,h4⟩
 |x::xs,o,h1,h2,h3,h4=>by
  rw [List.foldl_cons]
  unfold dh
  split
  ·exact rR xs o h1 h2 h3 h4
  ·split
   ·rename_i hr
    refine rR xs (jo o x) ?_ ?_ ?_ hr
    ·exact h1.sublist List.filter_sublist
    ·exact fun y hy=>h2 y (List.mem_filter.1 hy).1
    ·exact Nat.le_trans (List.length_filter_le _ _) h3
   ·exact rR xs o h1 h2 h3 h4
theorem Dj {p:Proj} {r:Rul} {keeps:Lit→Bool} {l:List Lit} (h1:l.Pairwise dV) (h2:∀x∈l,jA p x=true) (h3:l.length≤24) (h4:refutes p (fu p l) r=true):follows p r (mg p r keeps l)=true:=
 rR l l h1 h2 h3 h4
def qO (p:Proj) (b:Dom):Prop:=dR b (aW p) p.acts.length
theorem qO.restrict {p:Proj} {b:Dom} (hf:ay p b=true) (h:qO p b) (l:Lit):qO p (restrict b l):=dR.trans (pO b l (rQ hf)) h
theorem Xk {p:Proj} {b:Dom} (hf:ay p b=true):∀x∈mY p b,jA p x=true:=by
 intro x hx
 have hp:=(bN hf).1
 have hh:=jC hp
 obtain⟨l,hl,rfl⟩:=List.mem_map.1 hx
 unfold jc at hl
 rw [if_pos hf] at hl
 have key:∀n,n≤p.acts.length→l∈bR p b n→jA p (negate l)=true:=by
  intro n
  induction n with
  |zero=>intro _ h;simp [bR] at h
  |succ k ih=>
   intro hn h
   rw [bR,List.mem_append] at h
   rcases h with h|h
   ·exact ih (by omega) h
   ·have hk:k < p.acts.length:=by omega
    obtain⟨a,x,y,m,g⟩:=eP hf hk
    have hb:=kJ hf hk
    have e1:=getD_some (d:=0) g.lo
    have e2:=getD_some (d:=0) g.hi
    have b1:=hb.l2;have b2:=hb.h1
    rw [e1] at b1
    rw [e2] at b2
    have hact:bg p (k:Int)=true:=by simp only [bg,within_iff];omega
    have few:=iT hp hk
    rw [mR g,List.mem_append,List.mem_append] at h
    rcases h with (h|h)|h
    ·unfold rH at h
     split at h
     ·rename_i hx
      obtain rfl:=List.mem_singleton.1 h
      have:negate ⟨1,(k:Int),x⟩=⟨2,k,x - 1⟩:=by unfold negate;rw [if_pos (within_iff.2 (by dsimp only;omega))];rfl
      rw [this]
      unfold jA;rw [hp,hact,if_pos (.inr rfl)]
      simp only [Bool.true_and]
      exact within_iff.2 (by omega)
     ·cases h
    ·unfold rJ at h
     split at h
     ·rename_i hy
      obtain rfl:=List.mem_singleton.1 h
      have:negate ⟨2,(k:Int),y⟩=⟨1,k,y+1⟩:=by unfold negate;rw [if_pos (within_iff.2 (by dsimp only;omega))];rfl
      rw [this]
      unfold jA;rw [hp,hact,if_pos (.inl rfl)]
      simp only [Bool.true_and]
      exact within_iff.2 (by omega)
     ·cases h
    ·simp only [gD,List.mem_map] at h
     obtain⟨v,hv,rfl⟩:=h
     unfold eT at hv
     rw [pU] at hv
     obtain⟨v0,v1⟩:=nP (List.mem_filter.1 hv).1
     have ea:aV p k=a:=by unfold aV;exact getD_some g.act
     rw [ea] at few
     have:negate ⟨4,(k:Int),v⟩=⟨3,k,v⟩:=by unfold negate;rw [if_pos (within_iff.2 (by dsimp only;omega))];rfl
     rw [this]
     unfold jA
     rw [hp,hact,if_neg (by simp),if_pos (.inl rfl),Int.toNat_natCast,g.act]
     simp only [Bool.true_and]
     exact within_iff.2 (by omega)
 exact key _ (Nat.le_refl _) hl
theorem Dk {p:Proj} {b:Dom} (hf:ay p b=true) (hm:∀k,k < p.acts.length→(aV p k).modes.length≤2):∀n,n≤p.acts.length→(bR p b n).length≤4*n
 |0,_=>by simp [bR]
 |k+1,hn=>by
  have ih:=Dk hf hm k (by omega)
  have hk:k < p.acts.length:=by omega
  obtain⟨a,x,y,m,g⟩:=eP hf hk
  have ea:aV p k=a:=by unfold aV;exact getD_some g.act
  have hmk:=hm k hk
  rw [ea] at hmk
  rw [bR,List.length_append,mR g,List.length_append,List.length_append]
  have h1:(rH k x).length≤1:=by unfold rH;split<;>simp
  have h2:(rJ p.dead k y).length≤1:=by unfold rJ;split<;>simp
  have h3:(gD k (eT (aH a.modes.length) m)).length≤2:=by
   unfold gD eT
   rw [List.length_map]
   have q1:=jq ((aH a.modes.length).filter fun n=> !m.contains n)
   have q2:=List.length_filter_le (fun n=> !m.contains n) (aH a.modes.length)
   have q3:(aH a.modes.length).length≤a.modes.length:=by
    unfold aH;split
    ·simp
    ·simp
   omega
  omega
theorem VY {p:Proj} {b:Dom} (hf:ay p b=true) (hm:∀k,k < p.acts.length→(aV p k).modes.length≤2):(mY p b).length≤4*p.acts.length:=by
 unfold mY jc
 rw [if_pos hf,List.length_map]
 exact Dk hf hm _ (Nat.le_refl _)
structure Small (p:Proj):Prop where
 ok:aL p=true
 few:p.acts.length≤5
 two:∀k,k < p.acts.length→(aV p k).modes.length≤2
theorem Gn {p:Proj} {b:Dom} {r:Rul} (hs:Small p) (h:refutes p b r=true):follows p r (explain p b r)=true:=by
 have hf:=vB h
 have hn:=VY hf hs.two
 have ZI:=hs.few
 unfold explain
 rw [if_pos h]
 obtain⟨s1,s2⟩:=kT (mY p b)
 refine Dj s1 (fun x hx=>Xk hf x ((s2 x).1 hx)) ?_ (NZ hf (fun x hx=>(s2 x).2 hx) h)
 have:=zA (mY p b)
 omega
end Go.Proofs.YtjfnojijdggfhaaGreat.Abs
namespace Go.Proofs.YtjfnojijdggfhaaGreat.Abs
open Go.Proofs
attribute [local irreducible] refutes dw
theorem Ma {f:Int→Bool} {hi:Int}:∀(k:Nat) (n:Int),n≤goUp f hi k n∧∀v,n≤v→v < goUp f hi k n→f v=true∧v≤hi
 |0,n=>⟨Int.le_refl _,fun v h1 h2=>by simp only [goUp] at h2;omega⟩
 |k+1,n=>by
  rw [goUp]
  split
  ·rename_i h
   obtain⟨h1,h2⟩:=Ma (f:=f) (hi:=hi) k (n+1)
   refine⟨by omega,fun v h3 h4=>?_⟩
   by_cases e:v=n
   ·subst e;exact⟨h.2,h.1⟩
   ·exact h2 v (by omega) h4
  ·exact⟨Int.le_refl _,fun v h1 h2=>by omega⟩
theorem Mc {f:Int→Bool} {lo:Int}:∀(k:Nat) (n:Int),xK f lo k n≤n∧∀v,v≤n→xK f lo k n < v→f v=true∧lo≤v
 |0,n=>⟨Int.le_refl _,fun v h1 h2=>by simp only [xK] at h2;omega⟩
 |k+1,n=>by
  rw [xK]
  split
  ·rename_i h
   obtain⟨h1,h2⟩:=Mc (f:=f) (lo:=lo) k (n - 1)
   refine⟨by omega,fun v h3 h4=>?_⟩
   by_cases e:v=n
   ·subst e;exact⟨h.2,h.1⟩
   ·exact h2 v (by omega) h4
  ·exact⟨Int.le_refl _,fun v h1 h2=>by omega⟩
theorem xR {p:Proj} {b:Dom} {r:Rul} {k:Nat} {l:Lit} (hf:ay p b=true) (hin:qO p b) (hk:k < p.acts.length) (h:l∈iR p b r k):jA p l=true∧refutes p (restrict b (negate l)) r=true:=by
 have hp:=(bN hf).1
 have hh:=jC hp
 obtain⟨a,x,y,m,g⟩:=eP hf hk
 obtain⟨i1,i2,i3⟩:=mE hp hk
 obtain⟨j1,j2,j3⟩:=hin k hk
 have e1:=getD_some (d:=0) g.lo
 have e2:=getD_some (d:=0) g.hi
 have e3:=getD_some (d:=[]) g.modes
 have hb:=kJ hf hk
 have b3:=hb.h1;have b2:=hb.l2
 rw [e1] at j1 b2
 rw [e2] at j2 b3
 have hact:bg p (k:Int)=true:=by simp only [bg,within_iff];omega
 have few:=iT hp hk
 have ea:aV p k=a:=by unfold aV;exact getD_some g.act
 rw [tY g] at h
 unfold rO at h
 rw [List.mem_append,List.mem_append] at h
 rcases h with (h|h)|h
 ·unfold atLeast at h
  split at h
  ·rename_i hn
   obtain rfl:=List.mem_singleton.1 h
   obtain⟨u1,u2⟩:=Ma (f:=ou p b r 2 k) (hi:=y) (y+1 - x).toNat x
   generalize goUp (ou p b r 2 k) y (y+1 - x).toNat x=n at hn u1 u2
   obtain⟨v1,v2⟩:=u2 (n - 1) (by omega) (by omega)
   have en:negate ⟨1,(k:Int),n⟩=⟨2,k,n - 1⟩:=by unfold negate;rw [if_pos (within_iff.2 (by dsimp only;omega))];rfl
   rw [en]
   refine⟨?_,v1⟩
   unfold jA;rw [hp,hact,if_pos (.inl rfl)]
   simp only [Bool.true_and]
   exact within_iff.2 (by omega)
  ·cases h
 ·unfold sN at h
  split at h
  ·rename_i hn
   obtain rfl:=List.mem_singleton.1 h
   obtain⟨u1,u2⟩:=Mc (f:=ou p b r 1 k) (lo:=x) (y+1 - x).toNat y
   generalize xK (ou p b r 1 k) x (y+1 - x).toNat y=n at hn u1 u2
   obtain⟨v1,v2⟩:=u2 (n+1) (by omega) (by omega)
   have en:negate ⟨2,(k:Int),n⟩=⟨1,k,n+1⟩:=by unfold negate;rw [if_pos (within_iff.2 (by dsimp only;omega))];rfl
   rw [en]
   refine⟨?_,v1⟩
   unfold jA;rw [hp,hact,if_pos (.inr rfl)]
   simp only [Bool.true_and]
   exact within_iff.2 (by omega)
  ·cases h
 ·obtain⟨v,hv,rfl⟩:=List.mem_map.1 h
  obtain⟨hv,hr⟩:=List.mem_filter.1 hv
  simp only [Bool.and_eq_true] at hr
  have hvm:=hb.ms v (by rw [e3];exact hv)
  rw [ea] at hvm few
  have en:negate ⟨4,(k:Int),v⟩=⟨3,k,v⟩:=by unfold negate;rw [if_pos (within_iff.2 (by dsimp only;omega))];rfl
  rw [en]
  refine⟨?_,hr.2⟩
  unfold jA
  rw [hp,hact,if_neg (by simp),if_pos (.inr rfl),Int.toNat_natCast,g.act]
  simp only [Bool.true_and]
  exact within_iff.2 (by omega)
structure aaH (p:Proj) (b:Dom) (s:Infer):Prop where
 fol:follows p s.rule s.clause=true
 lit:jA p s.lit=true
 ref:refutes p (restrict b (negate s.lit)) s.rule=true
def Xl (p:Proj) (c:Cur):Lit×Cur:=
 let a:=below c p.acts.length
 let o:=below a.2 4
 let k:=below o.2 2
 if o.1=0 then (⟨3+k.1,a.1,(below k.2 (aV p a.1.toNat).modes.length).1⟩,(below k.2 (aV p a.1.toNat).modes.length).2)
 else (⟨1+k.1,a.1,(below k.2 10).1⟩,(below k.2 10).2)
def fV (p:Proj) (b:Dom) (c:Cur):Dom×Cur:=
 let k:=below c 2
 let a:=below k.2 p.acts.length
 let v:=below a.2 p.dead
 (if aR (restrict b ⟨1+k.1,a.1,v.1⟩)=true then b else restrict b ⟨1+k.1,a.1,v.1⟩,v.2)
def xS (p:Proj) (code:List Int):Dom:=
 let k:=below (Nq (sF code) 17) 4
 (itN (fV p) k.1.toNat (aW p) k.2).1
theorem Dl {p:Proj} {b:Dom} {c:Cur} (h:c.ok):(fV p b c).2.ok:=cO (cO (cO h _) _) _
theorem Oa {p:Proj} (hp:aL p=true):aR (aW p)=false:=by
 have hl:=oC hp
 have hh:=jC hp
 simp only [aR,Bool.or_eq_false_iff,List.any_eq_false,List.mem_range]
 refine⟨fun i hi=>?_,fun m hm=>?_⟩
 ·have hk:i < p.acts.length:=by rw [hl.lo] at hi;exact hi
  obtain⟨i1,i2,_⟩:=mE hp hk
  unfold jW
  rw [List.getElem?_eq_getElem hi,List.getElem?_eq_getElem (by rw [hl.hi];exact hk:i < (aW p).hi.length)]
  rw [List.getD_eq_getElem?_getD,List.getElem?_eq_getElem hi] at i1
  rw [List.getD_eq_getElem?_getD,List.getElem?_eq_getElem (by rw [hl.hi];exact hk:i < (aW p).hi.length)] at i2
  simp only [Option.getD_some] at i1 i2
  rw [i1,i2]
  simp;omega
 ·obtain⟨i,hi,rfl⟩:=List.getElem_of_mem hm
  have hk:i < p.acts.length:=by rw [hl.ms] at hi;exact hi
  obtain⟨_,_,i3⟩:=mE hp hk
  have few:=iT hp hk
  rw [List.getD_eq_getElem?_getD,List.getElem?_eq_getElem hi] at i3
  simp only [Option.getD_some] at i3
  rw [i3]
  have:((aV p i).modes.length:Int).toNat=(aV p i).modes.length:=rfl
  unfold aH
  rw [if_pos (within_iff.2 (by omega))]
  intro h
  have h:=of_decide_eq_true h
  simp only [List.length_map,List.length_range] at h
  omega
theorem QD {p:Proj} (hp:aL p=true) (code:List Int):ay p (xS p code)=true∧qO p (xS p code)∧aR (xS p code)=false:=by
 unfold xS
 exact (jE (f:=fV p) (fun _ b=>ay p b=true∧qO p b∧aR b=false) (fun k b c hc h=>⟨by
  unfold fV
  dsimp only
  split
  ·exact h
  ·rename_i he
   exact⟨nO h.1 _,h.2.1.restrict h.1 _,by simpa using he⟩,Dl hc⟩) _ _ _ (cO (Iw (tL code) _) _) ⟨vI hp,dR.refl _ _,Oa hp⟩).1
def resolve (a b:List Lit) (l:Lit):List Lit:=dB (jo a l++jo b (negate l))
section
attribute [local irreducible] bL Xl aR restrict
end
end Go.Proofs.YtjfnojijdggfhaaGreat.Abs
