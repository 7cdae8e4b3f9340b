/- Explanations follow: the clause that explains a literal, or a refutation, in a domain within the first one. -/
import Derived.Test.YtefgamefajmdkaaGreatLg
import Derived.Test.YtefgamefajmdkaaGreatSnd
import Derived.Test.YtefgamefajmdkaaGreatPlain
set_option linter.all false
set_option maxRecDepth 20000
set_option maxHeartbeats 0
namespace Go.Proofs.YtefgamefajmdkaaGreat.Abs
open Go.Proofs
attribute [local irreducible] refutes
theorem Px {l:Lit} (hk:l.kind=1∨l.kind=2∨l.kind=3∨l.kind=4) (hv: -90000≤l.val∧l.val≤90000):negate (negate l)=l:=by
 obtain⟨k,a,v⟩:=l
 dsimp only at hk hv
 have w1:within v (-100000) 100000=true:=within_iff.2 (by omega)
 rcases hk with rfl|rfl|rfl|rfl
 ·have e:negate ⟨1,a,v⟩=⟨2,a,v - 1⟩:=by unfold negate;rw [if_pos w1];rfl
  rw [e];unfold negate;rw [if_pos (within_iff.2 (by dsimp only;omega))]
  show (⟨1,a,v - 1+1⟩:Lit)=_;congr 1;omega
 ·have e:negate ⟨2,a,v⟩=⟨1,a,v+1⟩:=by unfold negate;rw [if_pos w1];rfl
  rw [e];unfold negate;rw [if_pos (within_iff.2 (by dsimp only;omega))]
  show (⟨2,a,v+1 - 1⟩:Lit)=_;congr 1;omega
 ·have e:negate ⟨3,a,v⟩=⟨4,a,v⟩:=by unfold negate;rw [if_pos w1];rfl
  rw [e];unfold negate;rw [if_pos w1];rfl
 ·have e:negate ⟨4,a,v⟩=⟨3,a,v⟩:=by unfold negate;rw [if_pos w1];rfl
  rw [e];unfold negate;rw [if_pos w1];rfl
theorem Ie {p:Proj} {b:Dom} {k:Nat} {x:Lit} (hx:x∈ni p b k):∀{n:Nat},k < n→x∈dz p b n
 |0,h=>by omega
 |n+1,h=>by
  rw [dz,List.mem_append]
  by_cases e:k=n
  ·subst e;exact .inr hx
  ·exact .inl (Ie hx (by omega))
theorem TP {p:Proj} {b:Dom} (hf:aC p b=true) {k:Nat} (hk:k < p.acts.length) {x:Lit} (hx:x∈ni p b k):x∈jW p b:=by
 unfold jW;rw [if_pos hf];exact Ie hx hk
theorem getD_some {α:Type} {l:List α} {k:Nat} {x d:α} (h:l[k]? =some x):l.getD k d=x:=by rw [List.getD_eq_getElem?_getD,h];rfl
theorem pQ {p:Proj} (hp:aF p=true) {k:Nat} (hk:k < p.acts.length):(aT p).lo.getD k 0=0∧(aT p).hi.getD k 0=p.dead - 1∧(aT p).modes.getD k []=aK (bf p k).modes.length:=by
 have ea:p.acts[k]=bf p k:=by
  have:=fV hk
  rw [List.getElem?_eq_getElem hk] at this
  exact Option.some.inj this
 unfold aT;rw [if_pos hp]
 unfold fP
 dsimp only
 rw [jP hk,jP hk,jP hk,ea]
 exact⟨rfl,rfl,rfl⟩
theorem zo {c:Dom} {n k:Nat} (hc:uG c n) (hk:k < n) (v:Int):
  (restrict c ⟨1,k,v⟩).lo.getD k 0=max (c.lo.getD k 0) (clamped v)∧(restrict c ⟨2,k,v⟩).hi.getD k 0=min (c.hi.getD k 0) (clamped v)∧(restrict c ⟨4,k,v⟩).modes.getD k []=(c.modes.getD k []).filter fun n=>decide (n≠clamped v):=by
 obtain⟨h1,h2,h3⟩:=hc
 have hd:gH c (k:Int)=true:=by simp [gH];omega
 refine⟨?_,?_,?_⟩
 ·unfold restrict;dsimp only;rw [if_pos hd,if_pos rfl];dsimp only;rw [Int.toNat_natCast,dJ (by omega)]
 ·unfold restrict;dsimp only;rw [if_pos hd,if_neg (by decide),if_pos rfl];dsimp only;rw [Int.toNat_natCast,dJ (by omega)]
 ·unfold restrict;dsimp only;rw [if_pos hd,if_neg (by decide),if_neg (by decide),if_neg (by decide),if_pos rfl];dsimp only;rw [Int.toNat_natCast,dJ (by omega)]
theorem TQ {p:Proj} {b:Dom} (hf:aC p b=true) {L:List Lit} (hL:∀x∈qm p b,x∈L):fB (fT p L) b p.acts.length:=by
 have hp:=(eX hf).1
 have hi:=sj hp
 have h0:=(tN L (aT p) hi).2
 have he:=wT L (aT p) hi
 intro k hk
 obtain⟨a,x,y,m,g⟩:=dR hf hk
 obtain⟨i1,i2,i3⟩:=pQ hp hk
 obtain⟨j1,j2,j3⟩:=h0 k hk
 have e1:=getD_some (d:=0) g.lo
 have e2:=getD_some (d:=0) g.hi
 have e3:=getD_some (d:=[]) g.modes
 have hb:=lq hf hk
 have ea:bf p k=a:=by unfold bf;exact getD_some g.act
 have hat:=qH g
 have use:∀l:Lit,l∈ni p b k→(l.kind=1∨l.kind=2∨l.kind=3∨l.kind=4)→(-90000≤l.val∧l.val≤90000)→fB (fT p L) (restrict (aT p) l) p.acts.length:=by
  intro l hl hlk hlv
  have:=he (negate l) (hL _ (List.mem_map.2 ⟨l,TP hf hk hl,rfl⟩))
  rw [Px hlk hlv] at this
  exact this
 rw [e1,e2,e3]
 have b1:=hb.l1;have b2:=hb.l2;have b3:=hb.h1;have b4:=hb.h2
 rw [e1] at b1 b2
 rw [e2] at b3 b4
 refine⟨?_,?_,fun v hv=>?_⟩
 ·by_cases hx:x > 0
  ·have:=(use ⟨1,k,x⟩ (by rw [hat,vg,if_pos hx];simp) (.inl rfl) ⟨by dsimp only;omega,by dsimp only;omega⟩ k hk).1
   rw [(zo hi hk x).1,i1,wQ ⟨b1,b2⟩] at this
   show x≤(fT p L).lo.getD k 0
   omega
  ·show x≤(fT p L).lo.getD k 0
   unfold fT
   omega
 ·by_cases hy:y < p.dead - 1
  ·have:=(use ⟨2,k,y⟩ (by rw [hat,vk,if_pos hy];simp) (.inr (.inl rfl)) ⟨by dsimp only;omega,by dsimp only;omega⟩ k hk).2.1
   rw [(zo hi hk y).2.1,i2,wQ ⟨b3,b4⟩] at this
   show (fT p L).hi.getD k 0≤y
   omega
  ·show (fT p L).hi.getD k 0≤y
   unfold fT
   omega
 ·have hv0:=j3 v hv
  rw [i3,ea] at hv0
  by_cases hm:v∈m
  ·exact hm
  ·exfalso
   obtain⟨v0,v1⟩:=uF hv0
   have hp3:=iT hp hk
   rw [ea] at hp3
   have hmem:v∈fq (aK a.modes.length) m:=by
    unfold fq
    rw [vo]
    exact List.mem_filter.2 ⟨hv0,by simpa using hm⟩
   have:=(use ⟨4,k,v⟩ (by rw [hat];exact List.mem_append_right _ (List.mem_map.2 ⟨v,hmem,rfl⟩)) (.inr (.inr (.inr rfl))) ⟨by dsimp only;omega,by dsimp only;omega⟩ k hk).2.2 v hv
   rw [(zo hi hk v).2.2,wQ ⟨by omega,by omega⟩] at this
   have:=(List.mem_filter.1 this).2
   simp at this
theorem EX {p:Proj}:∀(l:List Lit) (b:Dom),aC p b=true→aC p (against b l)=true
 |[],b,h=>h
 |x::l,b,h=>EX l _ (gu h _)
theorem RX (n:Nat):jk (aK n)=true:=by
 unfold jk aK
 split
 ·rw [bg]
  intro i hi
  unfold setAt
  simp only [Bool.or_eq_true,decide_eq_true_eq]
  by_cases h0:i=0
  ·exact .inl h0
  ·right
   simp only [List.length_map,List.length_range] at hi
   have e:∀j,j < (n:Int).toNat→((List.range (n:Int).toNat).map Int.ofNat).getD j 0=(j:Int):=fun j hj=>by
    rw [List.getD_eq_getElem?_getD,List.getElem?_map,List.getElem?_range hj];rfl
   rw [e (i - 1) (by omega),e i hi]
   omega
 ·rfl
theorem lV {p:Proj} (hp:aF p=true):aC p (aT p)=true:=by
 have hl:=sj hp
 have hh:=jw hp
 refine KA hp hl.lo hl.hi hl.ms fun k hk=>?_
 obtain⟨i1,i2,i3⟩:=pQ hp hk
 have h1:(aT p).lo[k]? =some 0:=by rw [List.getElem?_eq_getElem (by rw [hl.lo];exact hk)];rw [List.getD_eq_getElem?_getD,List.getElem?_eq_getElem (by rw [hl.lo];exact hk)] at i1;exact congrArg some i1
 have h2:(aT p).hi[k]? =some (p.dead - 1):=by rw [List.getElem?_eq_getElem (by rw [hl.hi];exact hk)];rw [List.getD_eq_getElem?_getD,List.getElem?_eq_getElem (by rw [hl.hi];exact hk)] at i2;exact congrArg some i2
 have h3:(aT p).modes[k]? =some (aK (bf p k).modes.length):=by rw [List.getElem?_eq_getElem (by rw [hl.ms];exact hk)];rw [List.getD_eq_getElem?_getD,List.getElem?_eq_getElem (by rw [hl.ms];exact hk)] at i3;exact congrArg some i3
 unfold nO
 rw [h1,h2,h3,fV hk]
 simp only [Bool.and_eq_true,lH,within_iff,subset,List.all_eq_true,List.contains_iff_mem]
 exact⟨⟨⟨by omega,by omega⟩,RX _⟩,fun x hx=>hx⟩
theorem RY {p:Proj} (hp:aF p=true) (L:List Lit):aC p (fT p L)=true:=EX L _ (lV hp)
theorem tO {p:Proj} {b:Dom} (hf:aC p b=true):uG b p.acts.length:=by
 obtain⟨_,h1,h2,h3⟩:=eX hf;exact⟨h1,h2,h3⟩
theorem Xx {p:Proj} {b:Dom} {r:Rul} {L:List Lit} {l:Lit} (hf:aC p b=true) (hL:∀x∈qm p b,x∈L) (hl:l∈L) (h:refutes p (restrict b (negate l)) r=true):refutes p (fT p L) r=true:=by
 have hp:=(eX hf).1
 refine Pw (RY hp L) (EW (tO hf) (sj hp) (TQ hf hL) ?_) h
 exact wT L (aT p) (sj hp) l hl
theorem RZ {p:Proj} {l:List Lit} (hs:l.Pairwise kQ) (hok:∀x∈l,gG p x=true) (hn:l.length≤24):fF p l=true:=by
 simp only [fF,Bool.and_eq_true,decide_eq_true_eq]
 refine⟨bg.2 fun i hi=>?_,by omega⟩
 unfold clauseAt
 rw [List.getElem?_eq_getElem hi]
 simp only [Bool.and_eq_true]
 refine⟨hok _ (List.getElem_mem hi),?_⟩
 by_cases h0:i=0
 ·subst h0;simp
 ·simp only [Bool.or_eq_true,Bool.not_eq_true',decide_eq_false_iff_not]
  right
  rw [List.getElem?_eq_getElem (by omega:i - 1 < l.length)]
  simp only [Bool.not_eq_true',decide_eq_false_iff_not]
  have:=List.pairwise_iff_getElem.1 hs (i - 1) i (by omega) hi (by omega)
  have:=Gn.2 this
  omega
theorem tQ {p:Proj} {r:Rul} {keeps:Lit→Bool}:∀(xs:List Lit) (o:List Lit),o.Pairwise kQ→(∀x∈o,gG p x=true)→o.length≤24→refutes p (fT p o) r=true→
  follows p r (xs.foldl (lN p r keeps) o)=true
 |[],o,h1,h2,h3,h4=>by
  simp only [List.foldl_nil,follows,Bool.and_eq_true]
  exact⟨RZ h1 h2 h3,h4⟩
 |x::xs,o,h1,h2,h3,h4=>by
  rw [List.foldl_cons]
  unfold lN
  split
  ·exact tQ xs o h1 h2 h3 h4
  ·split
   ·rename_i hr
    refine tQ xs (gT o x) ?_ ?_ ?_ hr
    ·exact h1.sublist List.filter_sublist
    ·exact fun y hy=>h2 y (List.mem_filter.1 hy).1
    ·exact Nat.le_trans (List.length_filter_le _ _) h3
   ·exact tQ xs o h1 h2 h3 h4
theorem EY {p:Proj} {r:Rul} {keeps:Lit→Bool} {l:List Lit} (h1:l.Pairwise kQ) (h2:∀x∈l,gG p x=true) (h3:l.length≤24) (h4:refutes p (fT p l) r=true):follows p r (ng p r keeps l)=true:=
 tQ l l h1 h2 h3 h4
def wU (p:Proj) (b:Dom):Prop:=fB b (aT p) p.acts.length
theorem wU.restrict {p:Proj} {b:Dom} (hf:aC p b=true) (h:wU p b) (l:Lit):wU p (restrict b l):=fB.trans (qL b l (tO hf)) h
theorem YA {p:Proj} {b:Dom} (hf:aC p b=true):∀x∈qm p b,gG p x=true:=by
 intro x hx
 have hp:=(eX hf).1
 have hh:=jw hp
 obtain⟨l,hl,rfl⟩:=List.mem_map.1 hx
 unfold jW at hl
 rw [if_pos hf] at hl
 have key:∀n,n≤p.acts.length→l∈dz p b n→gG p (negate l)=true:=by
  intro n
  induction n with
  |zero=>intro _ h;simp [dz] at h
  |succ k ih=>
   intro hn h
   rw [dz,List.mem_append] at h
   rcases h with h|h
   ·exact ih (by omega) h
   ·have hk:k < p.acts.length:=by omega
    obtain⟨a,x,y,m,g⟩:=dR hf hk
    have hb:=lq hf hk
    have e1:=getD_some (d:=0) g.lo
    have e2:=getD_some (d:=0) g.hi
    have b1:=hb.l2;have b2:=hb.h1
    rw [e1] at b1
    rw [e2] at b2
    have hact:bn p (k:Int)=true:=by simp only [bn,within_iff];omega
    have few:=iT hp hk
    rw [qH g,List.mem_append,List.mem_append] at h
    rcases h with (h|h)|h
    ·unfold vg at h
     split at h
     ·rename_i hx
      obtain rfl:=List.mem_singleton.1 h
      have:negate ⟨1,(k:Int),x⟩=⟨2,k,x - 1⟩:=by unfold negate;rw [if_pos (within_iff.2 (by dsimp only;omega))];rfl
      rw [this]
      unfold gG;rw [hp,hact,if_pos (.inr rfl)]
      simp only [Bool.true_and]
      exact within_iff.2 (by omega)
     ·cases h
    ·unfold vk at h
     split at h
     ·rename_i hy
      obtain rfl:=List.mem_singleton.1 h
      have:negate ⟨2,(k:Int),y⟩=⟨1,k,y+1⟩:=by unfold negate;rw [if_pos (within_iff.2 (by dsimp only;omega))];rfl
      rw [this]
      unfold gG;rw [hp,hact,if_pos (.inl rfl)]
      simp only [Bool.true_and]
      exact within_iff.2 (by omega)
     ·cases h
    ·simp only [iQ,List.mem_map] at h
     obtain⟨v,hv,rfl⟩:=h
     unfold fq at hv
     rw [vo] at hv
     obtain⟨v0,v1⟩:=uF (List.mem_filter.1 hv).1
     have ea:bf p k=a:=by unfold bf;exact getD_some g.act
     rw [ea] at few
     have:negate ⟨4,(k:Int),v⟩=⟨3,k,v⟩:=by unfold negate;rw [if_pos (within_iff.2 (by dsimp only;omega))];rfl
     rw [this]
     unfold gG
     rw [hp,hact,if_neg (by simp),if_pos (.inl rfl),Int.toNat_natCast,g.act]
     simp only [Bool.true_and]
     exact within_iff.2 (by omega)
 exact key _ (Nat.le_refl _) hl
theorem EZ {p:Proj} {b:Dom} (hf:aC p b=true) (hm:∀k,k < p.acts.length→(bf p k).modes.length≤2):∀n,n≤p.acts.length→(dz p b n).length≤4*n
 |0,_=>by simp [dz]
 |k+1,hn=>by
  have ih:=EZ hf hm k (by omega)
  have hk:k < p.acts.length:=by omega
  obtain⟨a,x,y,m,g⟩:=dR hf hk
  have ea:bf p k=a:=by unfold bf;exact getD_some g.act
  have hmk:=hm k hk
  rw [ea] at hmk
  rw [dz,List.length_append,qH g,List.length_append,List.length_append]
  have h1:(vg k x).length≤1:=by unfold vg;split<;>simp
  have h2:(vk p.dead k y).length≤1:=by unfold vk;split<;>simp
  have h3:(iQ k (fq (aK a.modes.length) m)).length≤2:=by
   unfold iQ fq
   rw [List.length_map]
   have q1:=jf ((aK a.modes.length).filter fun n=> !m.contains n)
   have q2:=List.length_filter_le (fun n=> !m.contains n) (aK a.modes.length)
   have q3:(aK a.modes.length).length≤a.modes.length:=by
    unfold aK;split
    ·simp
    ·simp
   omega
  omega
theorem Xy {p:Proj} {b:Dom} (hf:aC p b=true) (hm:∀k,k < p.acts.length→(bf p k).modes.length≤2):(qm p b).length≤4*p.acts.length:=by
 unfold qm jW
 rw [if_pos hf,List.length_map]
 exact EZ hf hm _ (Nat.le_refl _)
structure Small (p:Proj):Prop where
 ok:aF p=true
 few:p.acts.length≤5
 two:∀k,k < p.acts.length→(bf p k).modes.length≤2
theorem CY {p:Proj} {b:Dom} {r:Rul} {l:Lit} (hs:Small p) (hf:aC p b=true) (hl:gG p l=true) (h:refutes p (restrict b (negate l)) r=true):follows p r (iR p b r l).1=true:=by
 have hn:=Xy hf hs.two
 have abX:=hs.few
 unfold iR
 rw [if_pos ⟨hl,h⟩]
 obtain⟨s1,s2⟩:=uZ (qm p b++[l])
 refine EY s1 (fun x hx=>?_) ?_ ?_
 ·rcases List.mem_append.1 ((s2 x).1 hx) with hx|hx
  ·exact YA hf x hx
  ·rw [List.mem_singleton.1 hx];exact hl
 ·have:=Bn (qm p b++[l])
  simp at this;omega
 ·exact Xx hf (fun x hx=>(s2 x).2 (List.mem_append_left _ hx)) ((s2 l).2 (by simp)) h
end Go.Proofs.YtefgamefajmdkaaGreat.Abs
namespace Go.Proofs.YtefgamefajmdkaaGreat.Abs
open Go.Proofs
attribute [local irreducible] refutes iR
theorem Nr {f:Int→Bool} {hi:Int}:∀(k:Nat) (n:Int),n≤goUp f hi k n∧∀v,n≤v→v < goUp f hi k n→f v=true∧v≤hi
 |0,n=>⟨Int.le_refl _,fun v h1 h2=>by simp only [goUp] at h2;omega⟩
 |k+1,n=>by
  rw [goUp]
  split
  ·rename_i h
   obtain⟨h1,h2⟩:=Nr (f:=f) (hi:=hi) k (n+1)
   refine⟨by omega,fun v h3 h4=>?_⟩
   by_cases e:v=n
   ·subst e;exact⟨h.2,h.1⟩
   ·exact h2 v (by omega) h4
  ·exact⟨Int.le_refl _,fun v h1 h2=>by omega⟩
theorem Ns {f:Int→Bool} {lo:Int}:∀(k:Nat) (n:Int),CQ f lo k n≤n∧∀v,v≤n→CQ f lo k n < v→f v=true∧lo≤v
 |0,n=>⟨Int.le_refl _,fun v h1 h2=>by simp only [CQ] at h2;omega⟩
 |k+1,n=>by
  rw [CQ]
  split
  ·rename_i h
   obtain⟨h1,h2⟩:=Ns (f:=f) (lo:=lo) k (n - 1)
   refine⟨by omega,fun v h3 h4=>?_⟩
   by_cases e:v=n
   ·subst e;exact⟨h.2,h.1⟩
   ·exact h2 v (by omega) h4
  ·exact⟨Int.le_refl _,fun v h1 h2=>by omega⟩
theorem KT {p:Proj} {b:Dom} {r:Rul} {k:Nat} {l:Lit} (hf:aC p b=true) (hin:wU p b) (hk:k < p.acts.length) (h:l∈oF p b r k):gG p l=true∧refutes p (restrict b (negate l)) r=true:=by
 have hp:=(eX hf).1
 have hh:=jw hp
 obtain⟨a,x,y,m,g⟩:=dR hf hk
 obtain⟨i1,i2,i3⟩:=pQ hp hk
 obtain⟨j1,j2,j3⟩:=hin k hk
 have e1:=getD_some (d:=0) g.lo
 have e2:=getD_some (d:=0) g.hi
 have e3:=getD_some (d:=[]) g.modes
 have hb:=lq hf hk
 have b3:=hb.h1;have b2:=hb.l2
 rw [e1] at j1 b2
 rw [e2] at j2 b3
 have hact:bn p (k:Int)=true:=by simp only [bn,within_iff];omega
 have few:=iT hp hk
 have ea:bf p k=a:=by unfold bf;exact getD_some g.act
 rw [Gu g] at h
 unfold Aa at h
 rw [List.mem_append,List.mem_append] at h
 rcases h with (h|h)|h
 ·unfold atLeast at h
  split at h
  ·rename_i hn
   obtain rfl:=List.mem_singleton.1 h
   obtain⟨u1,u2⟩:=Nr (f:=qJ p b r 2 k) (hi:=y) (y+1 - x).toNat x
   generalize goUp (qJ p b r 2 k) y (y+1 - x).toNat x=n at hn u1 u2
   obtain⟨v1,v2⟩:=u2 (n - 1) (by omega) (by omega)
   have en:negate ⟨1,(k:Int),n⟩=⟨2,k,n - 1⟩:=by unfold negate;rw [if_pos (within_iff.2 (by dsimp only;omega))];rfl
   rw [en]
   refine⟨?_,v1⟩
   unfold gG;rw [hp,hact,if_pos (.inl rfl)]
   simp only [Bool.true_and]
   exact within_iff.2 (by omega)
  ·cases h
 ·unfold ze at h
  split at h
  ·rename_i hn
   obtain rfl:=List.mem_singleton.1 h
   obtain⟨u1,u2⟩:=Ns (f:=qJ p b r 1 k) (lo:=x) (y+1 - x).toNat y
   generalize CQ (qJ p b r 1 k) x (y+1 - x).toNat y=n at hn u1 u2
   obtain⟨v1,v2⟩:=u2 (n+1) (by omega) (by omega)
   have en:negate ⟨2,(k:Int),n⟩=⟨1,k,n+1⟩:=by unfold negate;rw [if_pos (within_iff.2 (by dsimp only;omega))];rfl
   rw [en]
   refine⟨?_,v1⟩
   unfold gG;rw [hp,hact,if_pos (.inr rfl)]
   simp only [Bool.true_and]
   exact within_iff.2 (by omega)
  ·cases h
 ·obtain⟨v,hv,rfl⟩:=List.mem_map.1 h
  obtain⟨hv,hr⟩:=List.mem_filter.1 hv
  simp only [Bool.and_eq_true] at hr
  have hvm:=hb.ms v (by rw [e3];exact hv)
  rw [ea] at hvm few
  have en:negate ⟨4,(k:Int),v⟩=⟨3,k,v⟩:=by unfold negate;rw [if_pos (within_iff.2 (by dsimp only;omega))];rfl
  rw [en]
  refine⟨?_,hr.2⟩
  unfold gG
  rw [hp,hact,if_neg (by simp),if_pos (.inr rfl),Int.toNat_natCast,g.act]
  simp only [Bool.true_and]
  exact within_iff.2 (by omega)
structure aaV (p:Proj) (b:Dom) (s:Infer):Prop where
 fol:follows p s.rule s.clause=true
 lit:gG p s.lit=true
 ref:refutes p (restrict b (negate s.lit)) s.rule=true
theorem Ig {p:Proj} {b:Dom} {s:Infer} (hs:Small p) (hin:wU p b) (h:bJ p b=some s):aaV p b s:=by
 have hf:=EP (KQ h).1
 unfold bJ at h
 split at h
 ·cases h
 ·obtain⟨r,hr,h1⟩:=List.exists_of_findSome?_eq_some h
  unfold wM at h1
  obtain⟨a,ha,h2⟩:=List.exists_of_findSome?_eq_some h1
  obtain⟨k,rfl,hk⟩:=EN ha
  unfold EO at h2
  rw [Int.toNat_natCast] at h2
  obtain⟨l,hl,rfl⟩:=Option.map_eq_some_iff.1 h2
  have hm:l∈oF p b r k:=List.mem_of_mem_head? hl
  obtain⟨q1,q2⟩:=KT hf hin hk hm
  exact⟨CY hs hf q1 q2,q1,q2⟩
theorem UF {p:Proj} {ahead:List Lin} {r:Rul} {c:List Lit} (hp:aF p=true) (hn:ahead.length < 300) (h:follows p r c=true):aM p ahead ⟨1,r,c⟩=0:=by
 have hc:fF p c=true:=by simp only [follows,Bool.and_eq_true] at h;exact h.1
 unfold aM
 rw [if_pos ⟨hp,by simp only [rF,Jd,Bool.and_eq_true,Bool.or_eq_true];exact⟨hc,.inl rfl⟩,by omega⟩,if_pos rfl,if_pos h]
def dS (p:Proj) (c:Cur):Lit×Cur:=
 let a:=below c p.acts.length
 let o:=below a.2 4
 let k:=below o.2 2
 if o.1=0 then (⟨3+k.1,a.1,(below k.2 (bf p a.1.toNat).modes.length).1⟩,(below k.2 (bf p a.1.toNat).modes.length).2)
 else (⟨1+k.1,a.1,(below k.2 10).1⟩,(below k.2 10).2)
theorem wV {p:Proj} (hp:aF p=true) {c:Cur} (h:c.ok):gG p (dS p c).1=true∧(dS p c).2.ok:=by
 obtain⟨a,c1,e1,h1,a0,a1⟩:=ak h p.acts.length
 obtain⟨o,c2,e2,h2,o0,o1⟩:=ak h1 4
 obtain⟨k,c3,e3,h3,k0,k1⟩:=ak h2 2
 have hh:=jw hp
 have a1:=a1 (by omega)
 have k1:=k1 (by decide)
 unfold dS
 rw [e1];dsimp only;rw [e2];dsimp only;rw [e3];dsimp only
 have hact:bn p a=true:=by simp only [bn,within_iff];omega
 split
 ·obtain⟨v,c4,e4,h4,v0,v1⟩:=ak h3 (bf p a.toNat).modes.length
  have few:=iT hp (k:=a.toNat) (by omega)
  have v1:=v1 (by omega)
  rw [e4]
  refine⟨?_,h4⟩
  unfold gG
  dsimp only
  rw [hp,hact,if_neg (by omega),if_pos (by omega),fV (by omega)]
  simp only [Bool.true_and]
  exact within_iff.2 (by omega)
 ·obtain⟨v,c4,e4,h4,v0,v1⟩:=ak h3 10
  have v1:=v1 (by decide)
  rw [e4]
  refine⟨?_,h4⟩
  unfold gG
  dsimp only
  rw [hp,hact,if_pos (by omega)]
  simp only [Bool.true_and]
  exact within_iff.2 (by omega)
def iC (p:Proj) (b:Dom) (c:Cur):Dom×Cur:=
 let k:=below c 2
 let a:=below k.2 p.acts.length
 let v:=below a.2 p.dead
 (if aZ (restrict b ⟨1+k.1,a.1,v.1⟩)=true then b else restrict b ⟨1+k.1,a.1,v.1⟩,v.2)
def Ih (p:Proj) (code:List Int):Dom:=
 let k:=below (qD (mh code) 17) 4
 (itN (iC p) k.1.toNat (aT p) k.2).1
theorem Fa {p:Proj} {b:Dom} {c:Cur} (h:c.ok):(iC p b c).2.ok:=aO (aO (aO h _) _) _
theorem Py {p:Proj} (hp:aF p=true):aZ (aT p)=false:=by
 have hl:=sj hp
 have hh:=jw hp
 simp only [aZ,Bool.or_eq_false_iff,List.any_eq_false,List.mem_range]
 refine⟨fun i hi=>?_,fun m hm=>?_⟩
 ·have hk:i < p.acts.length:=by rw [hl.lo] at hi;exact hi
  obtain⟨i1,i2,_⟩:=pQ hp hk
  unfold jS
  rw [List.getElem?_eq_getElem hi,List.getElem?_eq_getElem (by rw [hl.hi];exact hk:i < (aT p).hi.length)]
  rw [List.getD_eq_getElem?_getD,List.getElem?_eq_getElem hi] at i1
  rw [List.getD_eq_getElem?_getD,List.getElem?_eq_getElem (by rw [hl.hi];exact hk:i < (aT p).hi.length)] at i2
  simp only [Option.getD_some] at i1 i2
  rw [i1,i2]
  simp;omega
 ·obtain⟨i,hi,rfl⟩:=List.getElem_of_mem hm
  have hk:i < p.acts.length:=by rw [hl.ms] at hi;exact hi
  obtain⟨_,_,i3⟩:=pQ hp hk
  have few:=iT hp hk
  rw [List.getD_eq_getElem?_getD,List.getElem?_eq_getElem hi] at i3
  simp only [Option.getD_some] at i3
  rw [i3]
  have:((bf p i).modes.length:Int).toNat=(bf p i).modes.length:=rfl
  unfold aK
  rw [if_pos (within_iff.2 (by omega))]
  intro h
  have h:=of_decide_eq_true h
  simp only [List.length_map,List.length_range] at h
  omega
theorem Xz {p:Proj} (hp:aF p=true) (code:List Int):aC p (Ih p code)=true∧wU p (Ih p code)∧aZ (Ih p code)=false:=by
 unfold Ih
 exact (iW (f:=iC p) (fun _ b=>aC p b=true∧wU p b∧aZ b=false) (fun k b c hc h=>⟨by
  unfold iC
  dsimp only
  split
  ·exact h
  ·rename_i he
   exact⟨gu h.1 _,h.2.1.restrict h.1 _,by simpa using he⟩,Fa hc⟩) _ _ _ (aO (ou (lI code) _) _) ⟨lV hp,fB.refl _ _,Py hp⟩).1
def kE (p:Proj) (l:List Lit) (c:Cur):List Lit×Cur:=(l++[(dS p c).1],(dS p c).2)
def jG (p:Proj) (most:Int) (c:Cur):List Lit×Cur:=
 let k:=below c (most+1)
 let l:=itN (kE p) k.1.toNat [] k.2
 (cB l.1,l.2)
def zq (p:Proj) (code:List Int) (turn:Int):List Lit:=(jG p 3 (qD (mh code) (100*turn))).1
theorem zu {p:Proj} (hp:aF p=true) {c:Cur} (h:c.ok) (most:Int):(jG p most c).2.ok:=by
 unfold jG
 exact (iW (f:=kE p) (fun _ _=>True) (fun k l c hc _=>⟨trivial,(wV hp hc).2⟩) _ _ _ (aO h _) trivial).2
def jy (p:Proj) (c:Cur):Rul×Cur:=
 let k:=below c 7
 let n:Int:=p.acts.length
 let d:Rul×Cur:=(⟨2,(below k.2 (max n 1)).1,0,0⟩,(below k.2 (max n 1)).2)
 if k.1=0 then (if 0 < p.links.length then (⟨1,(below k.2 p.links.length).1,0,0⟩,(below k.2 p.links.length).2) else d)
 else if k.1=1 then (if 0 < p.aY.length then (⟨6,(below k.2 p.aY.length).1,0,0⟩,(below k.2 p.aY.length).2) else d)
 else if k.1=2∨k.1=3 then
  let x:=below k.2 8
  let e:=below x.2 8
  let a:=below e.2 (p.bB.length+e.1 / 7)
  let q:=below a.2 6
  (⟨4,a.1,x.1,x.1+1+q.1⟩,q.2)
 else if k.1=4 then (if 1 < n then
  let b:=below k.2 (n - 1)
  let a:=below b.2 (p.bB.length+1)
  let q:=below a.2 (n - 1 - b.1)
  (⟨5,a.1,b.1,b.1+1+q.1⟩,q.2) else d)
 else if k.1=5 then
  let e:=below k.2 8
  let a:=below e.2 (p.bB.length+e.1 / 7)
  let t:=below a.2 12
  (⟨3,a.1,t.1,0⟩,t.2)
 else d
theorem Pz (p:Proj) {c:Cur} (h:c.ok):(jy p c).2.ok:=by
 have hk:=aO h 7
 unfold jy
 dsimp only
 split
 ·split
  ·exact aO hk _
  ·exact aO hk _
 split
 ·split
  ·exact aO hk _
  ·exact aO hk _
 split
 ·exact aO (aO (aO (aO hk _) _) _) _
 split
 ·split
  ·exact aO (aO (aO hk _) _) _
  ·exact aO hk _
 split
 ·exact aO (aO (aO hk _) _) _
 ·exact aO hk _
def resolve (a b:List Lit) (l:Lit):List Lit:=cB (gT a l++gT b (negate l))
def UG (a b:List Lit) (c:Cur):List Lit×Cur:=if 0 < a.length then (resolve a b (a.getD (below c a.length).1.toNat bq),(below c a.length).2) else (cB (a++b),c)
def wW (p:Proj) (ls:List Lin) (c:Cur):List Lit×Cur:=
 let x:=jG p 3 c
 if 1 < ls.length then
  let o:=below x.2 2
  if o.1=0 then
   let i:=below o.2 ls.length
   let j:=below i.2 ls.length
   UG (ls.getD i.1.toNat ⟨0,OJ,[]⟩).clause (ls.getD j.1.toNat ⟨0,OJ,[]⟩).clause j.2
  else (x.1,o.2)
 else x
def iU (p:Proj) (ls:List Lin) (c:Cur):Lin×Cur:=
 let x:=wW p ls c
 let o:=below x.2 5
 if o.1=0 then (⟨1,(jy p o.2).1,x.1⟩,(jy p o.2).2) else (⟨2,OJ,x.1⟩,o.2)
theorem VL (a b:List Lit) {c:Cur} (h:c.ok):(UG a b c).2.ok:=by
 unfold UG;split
 ·exact aO h _
 ·exact h
theorem KU {p:Proj} (hp:aF p=true) (ls:List Lin) {c:Cur} (h:c.ok):(wW p ls c).2.ok:=by
 have hx:=zu hp h 3
 unfold wW
 dsimp only
 split
 ·split
  ·exact VL _ _ (aO (aO (aO hx _) _) _)
  ·exact aO hx _
 ·exact hx
theorem Fb {p:Proj} (hp:aF p=true) (ls:List Lin) {c:Cur} (h:c.ok):(iU p ls c).2.ok:=by
 have hx:=KU hp ls h
 unfold iU
 dsimp only
 split
 ·exact Pz p (aO hx _)
 ·exact aO hx _
def iw (p:Proj):Nat→Dom→List Lin→Cur→List Lin×Cur
 |0,_,out,c=>(out,c)
 |k+1,b,out,c=>match bJ p b with
  |none=>if aZ (restrict b (dS p c).1)=true then (out,(dS p c).2) else iw p k (restrict b (dS p c).1) out (dS p c).2
  |some s=>iw p k (restrict b s.lit) (out++[⟨1,s.rule,s.clause⟩]) c
section
attribute [local irreducible] bJ dS aZ restrict
theorem zw (p:Proj) (b:Dom) (out:List Lin) (c:Cur):iw p 0 b out c=(out,c):=rfl
theorem zx (p:Proj) (k:Nat) (b:Dom) (out:List Lin) (c:Cur):iw p (k+1) b out c=(match bJ p b with
  |none=>if aZ (restrict b (dS p c).1)=true then (out,(dS p c).2) else iw p k (restrict b (dS p c).1) out (dS p c).2
  |some s=>iw p k (restrict b s.lit) (out++[⟨1,s.rule,s.clause⟩]) c):=rfl
end
def cK (p:Proj) (out:List Lin) (c:Cur):List Lin×Cur:=
 (if aM p out (iU p out c).1=0 then out++[(iU p out c).1] else out,(iU p out c).2)
def nV (p:Proj) (code:List Int):List Lin:=
 let k:=below (qD (mh code) 19) 5
 let x:=iw p (2+k.1).toNat (aT p) [] k.2
 let m:=below x.2 3
 (itN (cK p) m.1.toNat x.1 m.2).1
end Go.Proofs.YtefgamefajmdkaaGreat.Abs
