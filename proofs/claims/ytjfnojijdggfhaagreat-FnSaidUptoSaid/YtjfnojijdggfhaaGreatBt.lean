/- Explanations follow: the clause that explains a literal, or a refutation, in a domain within the first one. -/
import Derived.Test.YtjfnojijdggfhaaGreatLg
import Derived.Test.YtjfnojijdggfhaaGreatSnd
import Derived.Test.YtjfnojijdggfhaaGreatPlain
set_option linter.all false
set_option maxRecDepth 20000
set_option maxHeartbeats 0
namespace Go.Proofs.YtjfnojijdggfhaaGreat.Abs
open Go.Proofs
attribute [local irreducible] refutes
theorem Mi {l:Lit} (hk:l.kind=1∨l.kind=2∨l.kind=3∨l.kind=4) (hv: -90000≤l.val∧l.val≤90000):negate (negate l)=l:=by
 obtain⟨k,a,v⟩:=l
 dsimp only at hk hv
 have w1:within v (-100000) 100000=true:=within_iff.2 (by omega)
 rcases hk with rfl|rfl|rfl|rfl
 ·have e:negate ⟨1,a,v⟩=⟨2,a,v - 1⟩:=by unfold negate;rw [if_pos w1];rfl
  rw [e];unfold negate;rw [if_pos (within_iff.2 (by dsimp only;omega))]
  show (⟨1,a,v - 1+1⟩:Lit)=_;congr 1;omega
 ·have e:negate ⟨2,a,v⟩=⟨1,a,v+1⟩:=by unfold negate;rw [if_pos w1];rfl
  rw [e];unfold negate;rw [if_pos (within_iff.2 (by dsimp only;omega))]
  show (⟨2,a,v+1 - 1⟩:Lit)=_;congr 1;omega
 ·have e:negate ⟨3,a,v⟩=⟨4,a,v⟩:=by unfold negate;rw [if_pos w1];rfl
  rw [e];unfold negate;rw [if_pos w1];rfl
 ·have e:negate ⟨4,a,v⟩=⟨3,a,v⟩:=by unfold negate;rw [if_pos w1];rfl
  rw [e];unfold negate;rw [if_pos w1];rfl
theorem DZ {p:Proj} {b:Dom} {k:Nat} {x:Lit} (hx:x∈lC p b k):∀{n:Nat},k < n→x∈bJ p b n
 |0,h=>by omega
 |n+1,h=>by
  rw [bJ,List.mem_append]
  by_cases e:k=n
  ·subst e;exact .inr hx
  ·exact .inl (DZ hx (by omega))
theorem Qo {p:Proj} {b:Dom} (hf:aA p b=true) {k:Nat} (hk:k < p.acts.length) {x:Lit} (hx:x∈lC p b k):x∈iJ p b:=by
 unfold iJ;rw [if_pos hf];exact DZ hx hk
theorem getD_some {α:Type} {l:List α} {k:Nat} {x d:α} (h:l[k]? =some x):l.getD k d=x:=by rw [List.getD_eq_getElem?_getD,h];rfl
theorem nP {p:Proj} (hp:aK p=true) {k:Nat} (hk:k < p.acts.length):(aV p).lo.getD k 0=0∧(aV p).hi.getD k 0=p.dead - 1∧(aV p).modes.getD k []=aH (aT p k).modes.length:=by
 have ea:p.acts[k]=aT p k:=by
  have:=gF hk
  rw [List.getElem?_eq_getElem hk] at this
  exact Option.some.inj this
 unfold aV;rw [if_pos hp]
 unfold kL
 dsimp only
 rw [iT hk,iT hk,iT hk,ea]
 exact⟨rfl,rfl,rfl⟩
theorem vZ {c:Dom} {n k:Nat} (hc:xw c n) (hk:k < n) (v:Int):
  (restrict c ⟨1,k,v⟩).lo.getD k 0=max (c.lo.getD k 0) (clamped v)∧(restrict c ⟨2,k,v⟩).hi.getD k 0=min (c.hi.getD k 0) (clamped v)∧(restrict c ⟨4,k,v⟩).modes.getD k []=(c.modes.getD k []).filter fun n=>decide (n≠clamped v):=by
 obtain⟨h1,h2,h3⟩:=hc
 have hd:fu c (k:Int)=true:=by simp [fu];omega
 refine⟨?_,?_,?_⟩
 ·unfold restrict;dsimp only;rw [if_pos hd,if_pos rfl];dsimp only;rw [Int.toNat_natCast,dh (by omega)]
 ·unfold restrict;dsimp only;rw [if_pos hd,if_neg (by decide),if_pos rfl];dsimp only;rw [Int.toNat_natCast,dh (by omega)]
 ·unfold restrict;dsimp only;rw [if_pos hd,if_neg (by decide),if_neg (by decide),if_neg (by decide),if_pos rfl];dsimp only;rw [Int.toNat_natCast,dh (by omega)]
theorem Qp {p:Proj} {b:Dom} (hf:aA p b=true) {L:List Lit} (hL:∀x∈qb p b,x∈L):eG (fA p L) b p.acts.length:=by
 have hp:=(bU hf).1
 have hi:=kS hp
 have h0:=(nO L (aV p) hi).2
 have he:=oG L (aV p) hi
 intro k hk
 obtain⟨a,x,y,m,g⟩:=fF hf hk
 obtain⟨i1,i2,i3⟩:=nP hp hk
 obtain⟨j1,j2,j3⟩:=h0 k hk
 have e1:=getD_some (d:=0) g.lo
 have e2:=getD_some (d:=0) g.hi
 have e3:=getD_some (d:=[]) g.modes
 have hb:=jS hf hk
 have ea:aT p k=a:=by unfold aT;exact getD_some g.act
 have hat:=mg g
 have use:∀l:Lit,l∈lC p b k→(l.kind=1∨l.kind=2∨l.kind=3∨l.kind=4)→(-90000≤l.val∧l.val≤90000)→eG (fA p L) (restrict (aV p) l) p.acts.length:=by
  intro l hl hlk hlv
  have:=he (negate l) (hL _ (List.mem_map.2 ⟨l,Qo hf hk hl,rfl⟩))
  rw [Mi hlk hlv] at this
  exact this
 rw [e1,e2,e3]
 have b1:=hb.l1;have b2:=hb.l2;have b3:=hb.h1;have b4:=hb.h2
 rw [e1] at b1 b2
 rw [e2] at b3 b4
 refine⟨?_,?_,fun v hv=>?_⟩
 ·by_cases hx:x > 0
  ·have:=(use ⟨1,k,x⟩ (by rw [hat,qM,if_pos hx];simp) (.inl rfl) ⟨by dsimp only;omega,by dsimp only;omega⟩ k hk).1
   rw [(vZ hi hk x).1,i1,ug ⟨b1,b2⟩] at this
   show x≤(fA p L).lo.getD k 0
   omega
  ·show x≤(fA p L).lo.getD k 0
   unfold fA
   omega
 ·by_cases hy:y < p.dead - 1
  ·have:=(use ⟨2,k,y⟩ (by rw [hat,qN,if_pos hy];simp) (.inr (.inl rfl)) ⟨by dsimp only;omega,by dsimp only;omega⟩ k hk).2.1
   rw [(vZ hi hk y).2.1,i2,ug ⟨b3,b4⟩] at this
   show (fA p L).hi.getD k 0≤y
   omega
  ·show (fA p L).hi.getD k 0≤y
   unfold fA
   omega
 ·have hv0:=j3 v hv
  rw [i3,ea] at hv0
  by_cases hm:v∈m
  ·exact hm
  ·exfalso
   obtain⟨v0,v1⟩:=mX hv0
   have hp3:=iC hp hk
   rw [ea] at hp3
   have hmem:v∈dY (aH a.modes.length) m:=by
    unfold dY
    rw [oL]
    exact List.mem_filter.2 ⟨hv0,by simpa using hm⟩
   have:=(use ⟨4,k,v⟩ (by rw [hat];exact List.mem_append_right _ (List.mem_map.2 ⟨v,hmem,rfl⟩)) (.inr (.inr (.inr rfl))) ⟨by dsimp only;omega,by dsimp only;omega⟩ k hk).2.2 v hv
   rw [(vZ hi hk v).2.2,ug ⟨by omega,by omega⟩] at this
   have:=(List.mem_filter.1 this).2
   simp at this
theorem Bg {p:Proj}:∀(l:List Lit) (b:Dom),aA p b=true→aA p (against b l)=true
 |[],b,h=>h
 |x::l,b,h=>Bg l _ (rH h _)
theorem Ea (n:Nat):lN (aH n)=true:=by
 unfold lN aH
 split
 ·rw [bf]
  intro i hi
  unfold setAt
  simp only [Bool.or_eq_true,decide_eq_true_eq]
  by_cases h0:i=0
  ·exact .inl h0
  ·right
   simp only [List.length_map,List.length_range] at hi
   have e:∀j,j < (n:Int).toNat→((List.range (n:Int).toNat).map Int.ofNat).getD j 0=(j:Int):=fun j hj=>by
    rw [List.getD_eq_getElem?_getD,List.getElem?_map,List.getElem?_range hj];rfl
   rw [e (i - 1) (by omega),e i hi]
   omega
 ·rfl
theorem uo {p:Proj} (hp:aK p=true):aA p (aV p)=true:=by
 have hl:=kS hp
 have hh:=jQ hp
 refine GH hp hl.lo hl.hi hl.ms fun k hk=>?_
 obtain⟨i1,i2,i3⟩:=nP hp hk
 have h1:(aV p).lo[k]? =some 0:=by rw [List.getElem?_eq_getElem (by rw [hl.lo];exact hk)];rw [List.getD_eq_getElem?_getD,List.getElem?_eq_getElem (by rw [hl.lo];exact hk)] at i1;exact congrArg some i1
 have h2:(aV p).hi[k]? =some (p.dead - 1):=by rw [List.getElem?_eq_getElem (by rw [hl.hi];exact hk)];rw [List.getD_eq_getElem?_getD,List.getElem?_eq_getElem (by rw [hl.hi];exact hk)] at i2;exact congrArg some i2
 have h3:(aV p).modes[k]? =some (aH (aT p k).modes.length):=by rw [List.getElem?_eq_getElem (by rw [hl.ms];exact hk)];rw [List.getD_eq_getElem?_getD,List.getElem?_eq_getElem (by rw [hl.ms];exact hk)] at i3;exact congrArg some i3
 unfold oh
 rw [h1,h2,h3,gF hk]
 simp only [Bool.and_eq_true,lU,within_iff,subset,List.all_eq_true,List.contains_iff_mem]
 exact⟨⟨⟨by omega,by omega⟩,Ea _⟩,fun x hx=>hx⟩
theorem Eb {p:Proj} (hp:aK p=true) (L:List Lit):aA p (fA p L)=true:=Bg L _ (uo hp)
theorem wh {p:Proj} {b:Dom} (hf:aA p b=true):xw b p.acts.length:=by
 obtain⟨_,h1,h2,h3⟩:=bU hf;exact⟨h1,h2,h3⟩
theorem Uh {p:Proj} {b:Dom} {r:Rul} {L:List Lit} {l:Lit} (hf:aA p b=true) (hL:∀x∈qb p b,x∈L) (hl:l∈L) (h:refutes p (restrict b (negate l)) r=true):refutes p (fA p L) r=true:=by
 have hp:=(bU hf).1
 refine Bf (Eb hp L) (um (wh hf) (kS hp) (Qp hf hL) ?_) h
 exact oG L (aV p) (kS hp) l hl
theorem OL {p:Proj} {l:List Lit} (hs:l.Pairwise dN) (hok:∀x∈l,iV p x=true) (hn:l.length≤24):lT p l=true:=by
 simp only [lT,Bool.and_eq_true,decide_eq_true_eq]
 refine⟨bf.2 fun i hi=>?_,by omega⟩
 unfold clauseAt
 rw [List.getElem?_eq_getElem hi]
 simp only [Bool.and_eq_true]
 refine⟨hok _ (List.getElem_mem hi),?_⟩
 by_cases h0:i=0
 ·subst h0;simp
 ·simp only [Bool.or_eq_true,Bool.not_eq_true',decide_eq_false_iff_not]
  right
  rw [List.getElem?_eq_getElem (by omega:i - 1 < l.length)]
  simp only [Bool.not_eq_true',decide_eq_false_iff_not]
  have:=List.pairwise_iff_getElem.1 hs (i - 1) i (by omega) hi (by omega)
  have:=mJ.2 this
  omega
theorem qQ {p:Proj} {r:Rul} {keeps:Lit→Bool}:∀(xs:List Lit) (o:List Lit),o.Pairwise dN→(∀x∈o,iV p x=true)→o.length≤24→refutes p (fA p o) r=true→
  follows p r (xs.foldl (dP p r keeps) o)=true
 |[],o,h1,h2,h3,h4=>by
  simp only [List.foldl_nil,follows,Bool.and_eq_true]
  exact⟨OL h1 h2 h3,h4⟩
 |x::xs,o,h1,h2,h3,h4=>by
  rw [List.foldl_cons]
  unfold dP
  split
  ·exact qQ xs o h1 h2 h3 h4
  ·split
   ·rename_i hr
    refine qQ xs (kQ o x) ?_ ?_ ?_ hr
    ·exact h1.sublist List.filter_sublist
    ·exact fun y hy=>h2 y (List.mem_filter.1 hy).1
    ·exact Nat.le_trans (List.length_filter_le _ _) h3
   ·exact qQ xs o h1 h2 h3 h4
theorem Bh {p:Proj} {r:Rul} {keeps:Lit→Bool} {l:List Lit} (h1:l.Pairwise dN) (h2:∀x∈l,iV p x=true) (h3:l.length≤24) (h4:refutes p (fA p l) r=true):follows p r (oJ p r keeps l)=true:=
 qQ l l h1 h2 h3 h4
def yX (p:Proj) (b:Dom):Prop:=eG b (aV p) p.acts.length
theorem yX.restrict {p:Proj} {b:Dom} (hf:aA p b=true) (h:yX p b) (l:Lit):yX p (restrict b l):=eG.trans (uj b l (wh hf)) h
theorem Vq {p:Proj} {b:Dom} (hf:aA p b=true):∀x∈qb p b,iV p x=true:=by
 intro x hx
 have hp:=(bU hf).1
 have hh:=jQ hp
 obtain⟨l,hl,rfl⟩:=List.mem_map.1 hx
 unfold iJ at hl
 rw [if_pos hf] at hl
 have key:∀n,n≤p.acts.length→l∈bJ p b n→iV p (negate l)=true:=by
  intro n
  induction n with
  |zero=>intro _ h;simp [bJ] at h
  |succ k ih=>
   intro hn h
   rw [bJ,List.mem_append] at h
   rcases h with h|h
   ·exact ih (by omega) h
   ·have hk:k < p.acts.length:=by omega
    obtain⟨a,x,y,m,g⟩:=fF hf hk
    have hb:=jS hf hk
    have e1:=getD_some (d:=0) g.lo
    have e2:=getD_some (d:=0) g.hi
    have b1:=hb.l2;have b2:=hb.h1
    rw [e1] at b1
    rw [e2] at b2
    have hact:bA p (k:Int)=true:=by simp only [bA,within_iff];omega
    have few:=iC hp hk
    rw [mg g,List.mem_append,List.mem_append] at h
    rcases h with (h|h)|h
    ·unfold qM at h
     split at h
     ·rename_i hx
      obtain rfl:=List.mem_singleton.1 h
      have:negate ⟨1,(k:Int),x⟩=⟨2,k,x - 1⟩:=by unfold negate;rw [if_pos (within_iff.2 (by dsimp only;omega))];rfl
      rw [this]
      unfold iV;rw [hp,hact,if_pos (.inr rfl)]
      simp only [Bool.true_and]
      exact within_iff.2 (by omega)
     ·cases h
    ·unfold qN at h
     split at h
     ·rename_i hy
      obtain rfl:=List.mem_singleton.1 h
      have:negate ⟨2,(k:Int),y⟩=⟨1,k,y+1⟩:=by unfold negate;rw [if_pos (within_iff.2 (by dsimp only;omega))];rfl
      rw [this]
      unfold iV;rw [hp,hact,if_pos (.inl rfl)]
      simp only [Bool.true_and]
      exact within_iff.2 (by omega)
     ·cases h
    ·simp only [fQ,List.mem_map] at h
     obtain⟨v,hv,rfl⟩:=h
     unfold dY at hv
     rw [oL] at hv
     obtain⟨v0,v1⟩:=mX (List.mem_filter.1 hv).1
     have ea:aT p k=a:=by unfold aT;exact getD_some g.act
     rw [ea] at few
     have:negate ⟨4,(k:Int),v⟩=⟨3,k,v⟩:=by unfold negate;rw [if_pos (within_iff.2 (by dsimp only;omega))];rfl
     rw [this]
     unfold iV
     rw [hp,hact,if_neg (by simp),if_pos (.inl rfl),Int.toNat_natCast,g.act]
     simp only [Bool.true_and]
     exact within_iff.2 (by omega)
 exact key _ (Nat.le_refl _) hl
theorem Bj {p:Proj} {b:Dom} (hf:aA p b=true) (hm:∀k,k < p.acts.length→(aT p k).modes.length≤2):∀n,n≤p.acts.length→(bJ p b n).length≤4*n
 |0,_=>by simp [bJ]
 |k+1,hn=>by
  have ih:=Bj hf hm k (by omega)
  have hk:k < p.acts.length:=by omega
  obtain⟨a,x,y,m,g⟩:=fF hf hk
  have ea:aT p k=a:=by unfold aT;exact getD_some g.act
  have hmk:=hm k hk
  rw [ea] at hmk
  rw [bJ,List.length_append,mg g,List.length_append,List.length_append]
  have h1:(qM k x).length≤1:=by unfold qM;split<;>simp
  have h2:(qN p.dead k y).length≤1:=by unfold qN;split<;>simp
  have h3:(fQ k (dY (aH a.modes.length) m)).length≤2:=by
   unfold fQ dY
   rw [List.length_map]
   have q1:=iQ ((aH a.modes.length).filter fun n=> !m.contains n)
   have q2:=List.length_filter_le (fun n=> !m.contains n) (aH a.modes.length)
   have q3:(aH a.modes.length).length≤a.modes.length:=by
    unfold aH;split
    ·simp
    ·simp
   omega
  omega
theorem Ui {p:Proj} {b:Dom} (hf:aA p b=true) (hm:∀k,k < p.acts.length→(aT p k).modes.length≤2):(qb p b).length≤4*p.acts.length:=by
 unfold qb iJ
 rw [if_pos hf,List.length_map]
 exact Bj hf hm _ (Nat.le_refl _)
structure Small (p:Proj):Prop where
 ok:aK p=true
 few:p.acts.length≤5
 two:∀k,k < p.acts.length→(aT p k).modes.length≤2
theorem yY {p:Proj} {b:Dom} {r:Rul} {l:Lit} (hs:Small p) (hf:aA p b=true) (hl:iV p l=true) (h:refutes p (restrict b (negate l)) r=true):follows p r (aU p b r l).1=true:=by
 have hn:=Ui hf hs.two
 have Zd:=hs.few
 unfold aU
 rw [if_pos ⟨hl,h⟩]
 obtain⟨s1,s2⟩:=kg (qb p b++[l])
 refine Bh s1 (fun x hx=>?_) ?_ ?_
 ·rcases List.mem_append.1 ((s2 x).1 hx) with hx|hx
  ·exact Vq hf x hx
  ·rw [List.mem_singleton.1 hx];exact hl
 ·have:=xX (qb p b++[l])
  simp at this;omega
 ·exact Uh hf (fun x hx=>(s2 x).2 (List.mem_append_left _ hx)) ((s2 l).2 (by simp)) h
end Go.Proofs.YtjfnojijdggfhaaGreat.Abs
namespace Go.Proofs.YtjfnojijdggfhaaGreat.Abs
open Go.Proofs
attribute [local irreducible] refutes aU
theorem Km {f:Int→Bool} {hi:Int}:∀(k:Nat) (n:Int),n≤goUp f hi k n∧∀v,n≤v→v < goUp f hi k n→f v=true∧v≤hi
 |0,n=>⟨Int.le_refl _,fun v h1 h2=>by simp only [goUp] at h2;omega⟩
 |k+1,n=>by
  rw [goUp]
  split
  ·rename_i h
   obtain⟨h1,h2⟩:=Km (f:=f) (hi:=hi) k (n+1)
   refine⟨by omega,fun v h3 h4=>?_⟩
   by_cases e:v=n
   ·subst e;exact⟨h.2,h.1⟩
   ·exact h2 v (by omega) h4
  ·exact⟨Int.le_refl _,fun v h1 h2=>by omega⟩
theorem Kn {f:Int→Bool} {lo:Int}:∀(k:Nat) (n:Int),yU f lo k n≤n∧∀v,v≤n→yU f lo k n < v→f v=true∧lo≤v
 |0,n=>⟨Int.le_refl _,fun v h1 h2=>by simp only [yU] at h2;omega⟩
 |k+1,n=>by
  rw [yU]
  split
  ·rename_i h
   obtain⟨h1,h2⟩:=Kn (f:=f) (lo:=lo) k (n - 1)
   refine⟨by omega,fun v h3 h4=>?_⟩
   by_cases e:v=n
   ·subst e;exact⟨h.2,h.1⟩
   ·exact h2 v (by omega) h4
  ·exact⟨Int.le_refl _,fun v h1 h2=>by omega⟩
theorem Ie {p:Proj} {b:Dom} {r:Rul} {k:Nat} {l:Lit} (hf:aA p b=true) (hin:yX p b) (hk:k < p.acts.length) (h:l∈mE p b r k):iV p l=true∧refutes p (restrict b (negate l)) r=true:=by
 have hp:=(bU hf).1
 have hh:=jQ hp
 obtain⟨a,x,y,m,g⟩:=fF hf hk
 obtain⟨i1,i2,i3⟩:=nP hp hk
 obtain⟨j1,j2,j3⟩:=hin k hk
 have e1:=getD_some (d:=0) g.lo
 have e2:=getD_some (d:=0) g.hi
 have e3:=getD_some (d:=[]) g.modes
 have hb:=jS hf hk
 have b3:=hb.h1;have b2:=hb.l2
 rw [e1] at j1 b2
 rw [e2] at j2 b3
 have hact:bA p (k:Int)=true:=by simp only [bA,within_iff];omega
 have few:=iC hp hk
 have ea:aT p k=a:=by unfold aT;exact getD_some g.act
 rw [wT g] at h
 unfold wS at h
 rw [List.mem_append,List.mem_append] at h
 rcases h with (h|h)|h
 ·unfold atLeast at h
  split at h
  ·rename_i hn
   obtain rfl:=List.mem_singleton.1 h
   obtain⟨u1,u2⟩:=Km (f:=qy p b r 2 k) (hi:=y) (y+1 - x).toNat x
   generalize goUp (qy p b r 2 k) y (y+1 - x).toNat x=n at hn u1 u2
   obtain⟨v1,v2⟩:=u2 (n - 1) (by omega) (by omega)
   have en:negate ⟨1,(k:Int),n⟩=⟨2,k,n - 1⟩:=by unfold negate;rw [if_pos (within_iff.2 (by dsimp only;omega))];rfl
   rw [en]
   refine⟨?_,v1⟩
   unfold iV;rw [hp,hact,if_pos (.inl rfl)]
   simp only [Bool.true_and]
   exact within_iff.2 (by omega)
  ·cases h
 ·unfold vU at h
  split at h
  ·rename_i hn
   obtain rfl:=List.mem_singleton.1 h
   obtain⟨u1,u2⟩:=Kn (f:=qy p b r 1 k) (lo:=x) (y+1 - x).toNat y
   generalize yU (qy p b r 1 k) x (y+1 - x).toNat y=n at hn u1 u2
   obtain⟨v1,v2⟩:=u2 (n+1) (by omega) (by omega)
   have en:negate ⟨2,(k:Int),n⟩=⟨1,k,n+1⟩:=by unfold negate;rw [if_pos (within_iff.2 (by dsimp only;omega))];rfl
   rw [en]
   refine⟨?_,v1⟩
   unfold iV;rw [hp,hact,if_pos (.inr rfl)]
   simp only [Bool.true_and]
   exact within_iff.2 (by omega)
  ·cases h
 ·obtain⟨v,hv,rfl⟩:=List.mem_map.1 h
  obtain⟨hv,hr⟩:=List.mem_filter.1 hv
  simp only [Bool.and_eq_true] at hr
  have hvm:=hb.ms v (by rw [e3];exact hv)
  rw [ea] at hvm few
  have en:negate ⟨4,(k:Int),v⟩=⟨3,k,v⟩:=by unfold negate;rw [if_pos (within_iff.2 (by dsimp only;omega))];rfl
  rw [en]
  refine⟨?_,hr.2⟩
  unfold iV
  rw [hp,hact,if_neg (by simp),if_pos (.inr rfl),Int.toNat_natCast,g.act]
  simp only [Bool.true_and]
  exact within_iff.2 (by omega)
structure YX (p:Proj) (b:Dom) (s:Infer):Prop where
 fol:follows p s.rule s.clause=true
 lit:iV p s.lit=true
 ref:refutes p (restrict b (negate s.lit)) s.rule=true
def Vr (p:Proj) (c:Cur):Lit×Cur:=
 let a:=below c p.acts.length
 let o:=below a.2 4
 let k:=below o.2 2
 if o.1=0 then (⟨3+k.1,a.1,(below k.2 (aT p a.1.toNat).modes.length).1⟩,(below k.2 (aT p a.1.toNat).modes.length).2)
 else (⟨1+k.1,a.1,(below k.2 10).1⟩,(below k.2 10).2)
def fH (p:Proj) (b:Dom) (c:Cur):Dom×Cur:=
 let k:=below c 2
 let a:=below k.2 p.acts.length
 let v:=below a.2 p.dead
 (if aS (restrict b ⟨1+k.1,a.1,v.1⟩)=true then b else restrict b ⟨1+k.1,a.1,v.1⟩,v.2)
def Ec (p:Proj) (code:List Int):Dom:=
 let k:=below (Lv (rD code) 17) 4
 (itN (fH p) k.1.toNat (aV p) k.2).1
theorem Bl {p:Proj} {b:Dom} {c:Cur} (h:c.ok):(fH p b c).2.ok:=bS (bS (bS h _) _) _
theorem Mj {p:Proj} (hp:aK p=true):aS (aV p)=false:=by
 have hl:=kS hp
 have hh:=jQ hp
 simp only [aS,Bool.or_eq_false_iff,List.any_eq_false,List.mem_range]
 refine⟨fun i hi=>?_,fun m hm=>?_⟩
 ·have hk:i < p.acts.length:=by rw [hl.lo] at hi;exact hi
  obtain⟨i1,i2,_⟩:=nP hp hk
  unfold jG
  rw [List.getElem?_eq_getElem hi,List.getElem?_eq_getElem (by rw [hl.hi];exact hk:i < (aV p).hi.length)]
  rw [List.getD_eq_getElem?_getD,List.getElem?_eq_getElem hi] at i1
  rw [List.getD_eq_getElem?_getD,List.getElem?_eq_getElem (by rw [hl.hi];exact hk:i < (aV p).hi.length)] at i2
  simp only [Option.getD_some] at i1 i2
  rw [i1,i2]
  simp;omega
 ·obtain⟨i,hi,rfl⟩:=List.getElem_of_mem hm
  have hk:i < p.acts.length:=by rw [hl.ms] at hi;exact hi
  obtain⟨_,_,i3⟩:=nP hp hk
  have few:=iC hp hk
  rw [List.getD_eq_getElem?_getD,List.getElem?_eq_getElem hi] at i3
  simp only [Option.getD_some] at i3
  rw [i3]
  have:((aT p i).modes.length:Int).toNat=(aT p i).modes.length:=rfl
  unfold aH
  rw [if_pos (within_iff.2 (by omega))]
  intro h
  have h:=of_decide_eq_true h
  simp only [List.length_map,List.length_range] at h
  omega
theorem Uj {p:Proj} (hp:aK p=true) (code:List Int):aA p (Ec p code)=true∧yX p (Ec p code)∧aS (Ec p code)=false:=by
 unfold Ec
 exact (iZ (f:=fH p) (fun _ b=>aA p b=true∧yX p b∧aS b=false) (fun k b c hc h=>⟨by
  unfold fH
  dsimp only
  split
  ·exact h
  ·rename_i he
   exact⟨rH h.1 _,h.2.1.restrict h.1 _,by simpa using he⟩,Bl hc⟩) _ _ _ (bS (Gf (sj code) _) _) ⟨uo hp,eG.refl _ _,Mj hp⟩).1
def resolve (a b:List Lit) (l:Lit):List Lit:=dW (kQ a l++kQ b (negate l))
section
attribute [local irreducible] nL Vr aS restrict
end
end Go.Proofs.YtjfnojijdggfhaaGreat.Abs
