/- Explanations follow: the clause that explains a literal, or a refutation, in a domain within the first one. -/
import Derived.Test.YtmenphiahgkjkaaGreatDoorLg
import Derived.Test.YtmenphiahgkjkaaGreatDoorSnd
import Derived.Test.YtmenphiahgkjkaaGreatDoorPlain
set_option linter.all false
set_option maxRecDepth 20000
set_option maxHeartbeats 0
namespace Go.Proofs.YtmenphiahgkjkaaGreatDoor.Abs
open Go.Proofs
attribute [local irreducible] refutes
theorem QX {l:Lit} (hk:l.kind=1∨l.kind=2∨l.kind=3∨l.kind=4) (hv: -90000≤l.val∧l.val≤90000):negate (negate l)=l:=by
 obtain⟨k,a,v⟩:=l
 dsimp only at hk hv
 have w1:within v (-100000) 100000=true:=within_iff.2 (by omega)
 rcases hk with rfl|rfl|rfl|rfl
 ·have e:negate ⟨1,a,v⟩=⟨2,a,v - 1⟩:=by unfold negate;rw [if_pos w1];rfl
  rw [e];unfold negate;rw [if_pos (within_iff.2 (by dsimp only;omega))]
  show (⟨1,a,v - 1+1⟩:Lit)=_;congr 1;omega
 ·have e:negate ⟨2,a,v⟩=⟨1,a,v+1⟩:=by unfold negate;rw [if_pos w1];rfl
  rw [e];unfold negate;rw [if_pos (within_iff.2 (by dsimp only;omega))]
  show (⟨2,a,v+1 - 1⟩:Lit)=_;congr 1;omega
 ·have e:negate ⟨3,a,v⟩=⟨4,a,v⟩:=by unfold negate;rw [if_pos w1];rfl
  rw [e];unfold negate;rw [if_pos w1];rfl
 ·have e:negate ⟨4,a,v⟩=⟨3,a,v⟩:=by unfold negate;rw [if_pos w1];rfl
  rw [e];unfold negate;rw [if_pos w1];rfl
theorem IB {p:Proj} {b:Dom} {k:Nat} {x:Lit} (hx:x∈nU p b k):∀{n:Nat},k < n→x∈bV p b n
 |0,h=>by omega
 |n+1,h=>by
  rw [bV,List.mem_append]
  by_cases e:k=n
  ·subst e;exact .inr hx
  ·exact .inl (IB hx (by omega))
theorem VH {p:Proj} {b:Dom} (hf:ak p b=true) {k:Nat} (hk:k < p.acts.length) {x:Lit} (hx:x∈nU p b k):x∈jO p b:=by
 unfold jO;rw [if_pos hf];exact IB hx hk
theorem getD_some {α:Type} {l:List α} {k:Nat} {x d:α} (h:l[k]? =some x):l.getD k d=x:=by rw [List.getD_eq_getElem?_getD,h];rfl
theorem lI {p:Proj} (hp:aL p=true) {k:Nat} (hk:k < p.acts.length):(bf p).lo.getD k 0=0∧(bf p).hi.getD k 0=p.dead - 1∧(bf p).modes.getD k []=aO (aZ p k).modes.length:=by
 have ea:p.acts[k]=aZ p k:=by
  have:=iB hk
  rw [List.getElem?_eq_getElem hk] at this
  exact Option.some.inj this
 unfold bf;rw [if_pos hp]
 unfold qD
 dsimp only
 rw [jX hk,jX hk,jX hk,ea]
 exact⟨rfl,rfl,rfl⟩
theorem Ae {c:Dom} {n k:Nat} (hc:rz c n) (hk:k < n) (v:Int):
  (restrict c ⟨1,k,v⟩).lo.getD k 0=max (c.lo.getD k 0) (clamped v)∧(restrict c ⟨2,k,v⟩).hi.getD k 0=min (c.hi.getD k 0) (clamped v)∧(restrict c ⟨4,k,v⟩).modes.getD k []=(c.modes.getD k []).filter fun n=>decide (n≠clamped v):=by
 obtain⟨h1,h2,h3⟩:=hc
 have hd:eF c (k:Int)=true:=by simp [eF];omega
 refine⟨?_,?_,?_⟩
 ·unfold restrict;dsimp only;rw [if_pos hd,if_pos rfl];dsimp only;rw [Int.toNat_natCast,aM (by omega)]
 ·unfold restrict;dsimp only;rw [if_pos hd,if_neg (by decide),if_pos rfl];dsimp only;rw [Int.toNat_natCast,aM (by omega)]
 ·unfold restrict;dsimp only;rw [if_pos hd,if_neg (by decide),if_neg (by decide),if_neg (by decide),if_pos rfl];dsimp only;rw [Int.toNat_natCast,aM (by omega)]
theorem VI {p:Proj} {b:Dom} (hf:ak p b=true) {L:List Lit} (hL:∀x∈rV p b,x∈L):bA (fP p L) b p.acts.length:=by
 have hp:=(bq hf).1
 have hi:=jW hp
 have h0:=(qP L (bf p) hi).2
 have he:=rX L (bf p) hi
 intro k hk
 obtain⟨a,x,y,m,g⟩:=dL hf hk
 obtain⟨i1,i2,i3⟩:=lI hp hk
 obtain⟨j1,j2,j3⟩:=h0 k hk
 have e1:=getD_some (d:=0) g.lo
 have e2:=getD_some (d:=0) g.hi
 have e3:=getD_some (d:=[]) g.modes
 have hb:=lH hf hk
 have ea:aZ p k=a:=by unfold aZ;exact getD_some g.act
 have hat:=oM g
 have use:∀l:Lit,l∈nU p b k→(l.kind=1∨l.kind=2∨l.kind=3∨l.kind=4)→(-90000≤l.val∧l.val≤90000)→bA (fP p L) (restrict (bf p) l) p.acts.length:=by
  intro l hl hlk hlv
  have:=he (negate l) (hL _ (List.mem_map.2 ⟨l,VH hf hk hl,rfl⟩))
  rw [QX hlk hlv] at this
  exact this
 rw [e1,e2,e3]
 have b1:=hb.l1;have b2:=hb.l2;have b3:=hb.h1;have b4:=hb.h2
 rw [e1] at b1 b2
 rw [e2] at b3 b4
 refine⟨?_,?_,fun v hv=>?_⟩
 ·by_cases hx:x > 0
  ·have:=(use ⟨1,k,x⟩ (by rw [hat,uO,if_pos hx];simp) (.inl rfl) ⟨by dsimp only;omega,by dsimp only;omega⟩ k hk).1
   rw [(Ae hi hk x).1,i1,gU ⟨b1,b2⟩] at this
   show x≤(fP p L).lo.getD k 0
   omega
  ·show x≤(fP p L).lo.getD k 0
   unfold fP
   omega
 ·by_cases hy:y < p.dead - 1
  ·have:=(use ⟨2,k,y⟩ (by rw [hat,uP,if_pos hy];simp) (.inr (.inl rfl)) ⟨by dsimp only;omega,by dsimp only;omega⟩ k hk).2.1
   rw [(Ae hi hk y).2.1,i2,gU ⟨b3,b4⟩] at this
   show (fP p L).hi.getD k 0≤y
   omega
  ·show (fP p L).hi.getD k 0≤y
   unfold fP
   omega
 ·have hv0:=j3 v hv
  rw [i3,ea] at hv0
  by_cases hm:v∈m
  ·exact hm
  ·exfalso
   obtain⟨v0,v1⟩:=qm hv0
   have hp3:=jH hp hk
   rw [ea] at hp3
   have hmem:v∈fJ (aO a.modes.length) m:=by
    unfold fJ
    rw [sj]
    exact List.mem_filter.2 ⟨hv0,by simpa using hm⟩
   have:=(use ⟨4,k,v⟩ (by rw [hat];exact List.mem_append_right _ (List.mem_map.2 ⟨v,hmem,rfl⟩)) (.inr (.inr (.inr rfl))) ⟨by dsimp only;omega,by dsimp only;omega⟩ k hk).2.2 v hv
   rw [(Ae hi hk v).2.2,gU ⟨by omega,by omega⟩] at this
   have:=(List.mem_filter.1 this).2
   simp at this
theorem Fj {p:Proj}:∀(l:List Lit) (b:Dom),ak p b=true→ak p (against b l)=true
 |[],b,h=>h
 |x::l,b,h=>Fj l _ (ni h _)
theorem TY (n:Nat):uE (aO n)=true:=by
 unfold uE aO
 split
 ·rw [bX]
  intro i hi
  unfold setAt
  simp only [Bool.or_eq_true,decide_eq_true_eq]
  by_cases h0:i=0
  ·exact .inl h0
  ·right
   simp only [List.length_map,List.length_range] at hi
   have e:∀j,j < (n:Int).toNat→((List.range (n:Int).toNat).map Int.ofNat).getD j 0=(j:Int):=fun j hj=>by
    rw [List.getD_eq_getElem?_getD,List.getElem?_map,List.getElem?_range hj];rfl
   rw [e (i - 1) (by omega),e i hi]
   omega
 ·rfl
theorem Fp {p:Proj} (hp:aL p=true):ak p (bf p)=true:=by
 have hl:=jW hp
 have hh:=uT hp
 refine KZ hp hl.lo hl.hi hl.ms fun k hk=>?_
 obtain⟨i1,i2,i3⟩:=lI hp hk
 have h1:(bf p).lo[k]? =some 0:=by rw [List.getElem?_eq_getElem (by rw [hl.lo];exact hk)];rw [List.getD_eq_getElem?_getD,List.getElem?_eq_getElem (by rw [hl.lo];exact hk)] at i1;exact congrArg some i1
 have h2:(bf p).hi[k]? =some (p.dead - 1):=by rw [List.getElem?_eq_getElem (by rw [hl.hi];exact hk)];rw [List.getD_eq_getElem?_getD,List.getElem?_eq_getElem (by rw [hl.hi];exact hk)] at i2;exact congrArg some i2
 have h3:(bf p).modes[k]? =some (aO (aZ p k).modes.length):=by rw [List.getElem?_eq_getElem (by rw [hl.ms];exact hk)];rw [List.getD_eq_getElem?_getD,List.getElem?_eq_getElem (by rw [hl.ms];exact hk)] at i3;exact congrArg some i3
 unfold rD
 rw [h1,h2,h3,iB hk]
 simp only [Bool.and_eq_true,oG,within_iff,subset,List.all_eq_true,List.contains_iff_mem]
 exact⟨⟨⟨by omega,by omega⟩,TY _⟩,fun x hx=>hx⟩
theorem IC {p:Proj} (hp:aL p=true) (L:List Lit):ak p (fP p L)=true:=Fj L _ (Fp hp)
theorem jD {p:Proj} {b:Dom} (hf:ak p b=true):rz b p.acts.length:=by
 obtain⟨_,h1,h2,h3⟩:=bq hf;exact⟨h1,h2,h3⟩
theorem Zn {p:Proj} {b:Dom} {r:Rul} {L:List Lit} {l:Lit} (hf:ak p b=true) (hL:∀x∈rV p b,x∈L) (hl:l∈L) (h:refutes p (restrict b (negate l)) r=true):refutes p (fP p L) r=true:=by
 have hp:=(bq hf).1
 refine rW (IC hp L) (oZ (jD hf) (jW hp) (VI hf hL) ?_) h
 exact rX L (bf p) (jW hp) l hl
theorem Ua {p:Proj} {l:List Lit} (hs:l.Pairwise eD) (hok:∀x∈l,dI p x=true) (hn:l.length≤24):jw p l=true:=by
 simp only [jw,Bool.and_eq_true,decide_eq_true_eq]
 refine⟨bX.2 fun i hi=>?_,by omega⟩
 unfold clauseAt
 rw [List.getElem?_eq_getElem hi]
 simp only [Bool.and_eq_true]
 refine⟨hok _ (List.getElem_mem hi),?_⟩
 by_cases h0:i=0
 ·subst h0;simp
 ·simp only [Bool.or_eq_true,Bool.not_eq_true',decide_eq_false_iff_not]
  right
  rw [List.getElem?_eq_getElem (by omega:i - 1 < l.length)]
  simp only [Bool.not_eq_true',decide_eq_false_iff_not]
  have:=List.pairwise_iff_getElem.1 hs (i - 1) i (by omega) hi (by omega)
  have:=pJ.2 this
  omega
theorem uV {p:Proj} {r:Rul} {keeps:Lit→Bool}:∀(xs:List Lit) (o:List Lit),o.Pairwise eD→(∀x∈o,dI p x=true)→o.length≤24→refutes p (fP p o) r=true→
  follows p r (xs.foldl (eP p r keeps) o)=true
 |[],o,h1,h2,h3,h4=>by
  simp only [List.foldl_nil,follows,Bool.and_eq_true]
  exact⟨Ua h1 h2 h3,h4⟩
 |x::xs,o,h1,h2,h3,h4=>by
  rw [List.foldl_cons]
  unfold eP
  split
  ·exact uV xs o h1 h2 h3 h4
  ·split
   ·rename_i hr
    refine uV xs (nk o x) ?_ ?_ ?_ hr
    ·exact h1.sublist List.filter_sublist
    ·exact fun y hy=>h2 y (List.mem_filter.1 hy).1
    ·exact Nat.le_trans (List.length_filter_le _ _) h3
   ·exact uV xs o h1 h2 h3 h4
theorem Fq {p:Proj} {r:Rul} {keeps:Lit→Bool} {l:List Lit} (h1:l.Pairwise eD) (h2:∀x∈l,dI p x=true) (h3:l.length≤24) (h4:refutes p (fP p l) r=true):follows p r (pR p r keeps l)=true:=
 uV l l h1 h2 h3 h4
def yg (p:Proj) (b:Dom):Prop:=bA b (bf p) p.acts.length
theorem yg.restrict {p:Proj} {b:Dom} (hf:ak p b=true) (h:yg p b) (l:Lit):yg p (restrict b l):=bA.trans (mI b l (jD hf)) h
theorem aav {p:Proj} {b:Dom} (hf:ak p b=true):∀x∈rV p b,dI p x=true:=by
 intro x hx
 have hp:=(bq hf).1
 have hh:=uT hp
 obtain⟨l,hl,rfl⟩:=List.mem_map.1 hx
 unfold jO at hl
 rw [if_pos hf] at hl
 have key:∀n,n≤p.acts.length→l∈bV p b n→dI p (negate l)=true:=by
  intro n
  induction n with
  |zero=>intro _ h;simp [bV] at h
  |succ k ih=>
   intro hn h
   rw [bV,List.mem_append] at h
   rcases h with h|h
   ·exact ih (by omega) h
   ·have hk:k < p.acts.length:=by omega
    obtain⟨a,x,y,m,g⟩:=dL hf hk
    have hb:=lH hf hk
    have e1:=getD_some (d:=0) g.lo
    have e2:=getD_some (d:=0) g.hi
    have b1:=hb.l2;have b2:=hb.h1
    rw [e1] at b1
    rw [e2] at b2
    have hact:bJ p (k:Int)=true:=by simp only [bJ,within_iff];omega
    have few:=jH hp hk
    rw [oM g,List.mem_append,List.mem_append] at h
    rcases h with (h|h)|h
    ·unfold uO at h
     split at h
     ·rename_i hx
      obtain rfl:=List.mem_singleton.1 h
      have:negate ⟨1,(k:Int),x⟩=⟨2,k,x - 1⟩:=by unfold negate;rw [if_pos (within_iff.2 (by dsimp only;omega))];rfl
      rw [this]
      unfold dI;rw [hp,hact,if_pos (.inr rfl)]
      simp only [Bool.true_and]
      exact within_iff.2 (by omega)
     ·cases h
    ·unfold uP at h
     split at h
     ·rename_i hy
      obtain rfl:=List.mem_singleton.1 h
      have:negate ⟨2,(k:Int),y⟩=⟨1,k,y+1⟩:=by unfold negate;rw [if_pos (within_iff.2 (by dsimp only;omega))];rfl
      rw [this]
      unfold dI;rw [hp,hact,if_pos (.inl rfl)]
      simp only [Bool.true_and]
      exact within_iff.2 (by omega)
     ·cases h
    ·simp only [iH,List.mem_map] at h
     obtain⟨v,hv,rfl⟩:=h
     unfold fJ at hv
     rw [sj] at hv
     obtain⟨v0,v1⟩:=qm (List.mem_filter.1 hv).1
     have ea:aZ p k=a:=by unfold aZ;exact getD_some g.act
     rw [ea] at few
     have:negate ⟨4,(k:Int),v⟩=⟨3,k,v⟩:=by unfold negate;rw [if_pos (within_iff.2 (by dsimp only;omega))];rfl
     rw [this]
     unfold dI
     rw [hp,hact,if_neg (by simp),if_pos (.inl rfl),Int.toNat_natCast,g.act]
     simp only [Bool.true_and]
     exact within_iff.2 (by omega)
 exact key _ (Nat.le_refl _) hl
theorem Fu {p:Proj} {b:Dom} (hf:ak p b=true) (hm:∀k,k < p.acts.length→(aZ p k).modes.length≤2):∀n,n≤p.acts.length→(bV p b n).length≤4*n
 |0,_=>by simp [bV]
 |k+1,hn=>by
  have ih:=Fu hf hm k (by omega)
  have hk:k < p.acts.length:=by omega
  obtain⟨a,x,y,m,g⟩:=dL hf hk
  have ea:aZ p k=a:=by unfold aZ;exact getD_some g.act
  have hmk:=hm k hk
  rw [ea] at hmk
  rw [bV,List.length_append,oM g,List.length_append,List.length_append]
  have h1:(uO k x).length≤1:=by unfold uO;split<;>simp
  have h2:(uP p.dead k y).length≤1:=by unfold uP;split<;>simp
  have h3:(iH k (fJ (aO a.modes.length) m)).length≤2:=by
   unfold iH fJ
   rw [List.length_map]
   have q1:=jV ((aO a.modes.length).filter fun n=> !m.contains n)
   have q2:=List.length_filter_le (fun n=> !m.contains n) (aO a.modes.length)
   have q3:(aO a.modes.length).length≤a.modes.length:=by
    unfold aO;split
    ·simp
    ·simp
   omega
  omega
theorem Zo {p:Proj} {b:Dom} (hf:ak p b=true) (hm:∀k,k < p.acts.length→(aZ p k).modes.length≤2):(rV p b).length≤4*p.acts.length:=by
 unfold rV jO
 rw [if_pos hf,List.length_map]
 exact Fu hf hm _ (Nat.le_refl _)
structure Small (p:Proj):Prop where
 ok:aL p=true
 few:p.acts.length≤5
 two:∀k,k < p.acts.length→(aZ p k).modes.length≤2
theorem Dp {p:Proj} {b:Dom} {r:Rul} {l:Lit} (hs:Small p) (hf:ak p b=true) (hl:dI p l=true) (h:refutes p (restrict b (negate l)) r=true):follows p r (dO p b r l).1=true:=by
 have hn:=Zo hf hs.two
 have Zk:=hs.few
 unfold dO
 rw [if_pos ⟨hl,h⟩]
 obtain⟨s1,s2⟩:=lY (rV p b++[l])
 refine Fq s1 (fun x hx=>?_) ?_ ?_
 ·rcases List.mem_append.1 ((s2 x).1 hx) with hx|hx
  ·exact aav hf x hx
  ·rw [List.mem_singleton.1 hx];exact hl
 ·have:=Bz (rV p b++[l])
  simp at this;omega
 ·exact Zn hf (fun x hx=>(s2 x).2 (List.mem_append_left _ hx)) ((s2 l).2 (by simp)) h
end Go.Proofs.YtmenphiahgkjkaaGreatDoor.Abs
namespace Go.Proofs.YtmenphiahgkjkaaGreatDoor.Abs
open Go.Proofs
attribute [local irreducible] refutes dO
theorem OO {f:Int→Bool} {hi:Int}:∀(k:Nat) (n:Int),n≤goUp f hi k n∧∀v,n≤v→v < goUp f hi k n→f v=true∧v≤hi
 |0,n=>⟨Int.le_refl _,fun v h1 h2=>by simp only [goUp] at h2;omega⟩
 |k+1,n=>by
  rw [goUp]
  split
  ·rename_i h
   obtain⟨h1,h2⟩:=OO (f:=f) (hi:=hi) k (n+1)
   refine⟨by omega,fun v h3 h4=>?_⟩
   by_cases e:v=n
   ·subst e;exact⟨h.2,h.1⟩
   ·exact h2 v (by omega) h4
  ·exact⟨Int.le_refl _,fun v h1 h2=>by omega⟩
theorem OP {f:Int→Bool} {lo:Int}:∀(k:Nat) (n:Int),zT f lo k n≤n∧∀v,v≤n→zT f lo k n < v→f v=true∧lo≤v
 |0,n=>⟨Int.le_refl _,fun v h1 h2=>by simp only [zT] at h2;omega⟩
 |k+1,n=>by
  rw [zT]
  split
  ·rename_i h
   obtain⟨h1,h2⟩:=OP (f:=f) (lo:=lo) k (n - 1)
   refine⟨by omega,fun v h3 h4=>?_⟩
   by_cases e:v=n
   ·subst e;exact⟨h.2,h.1⟩
   ·exact h2 v (by omega) h4
  ·exact⟨Int.le_refl _,fun v h1 h2=>by omega⟩
theorem tZ {p:Proj} {b:Dom} {r:Rul} {k:Nat} {l:Lit} (hf:ak p b=true) (hin:yg p b) (hk:k < p.acts.length) (h:l∈mQ p b r k):dI p l=true∧refutes p (restrict b (negate l)) r=true:=by
 have hp:=(bq hf).1
 have hh:=uT hp
 obtain⟨a,x,y,m,g⟩:=dL hf hk
 obtain⟨i1,i2,i3⟩:=lI hp hk
 obtain⟨j1,j2,j3⟩:=hin k hk
 have e1:=getD_some (d:=0) g.lo
 have e2:=getD_some (d:=0) g.hi
 have e3:=getD_some (d:=[]) g.modes
 have hb:=lH hf hk
 have b3:=hb.h1;have b2:=hb.l2
 rw [e1] at j1 b2
 rw [e2] at j2 b3
 have hact:bJ p (k:Int)=true:=by simp only [bJ,within_iff];omega
 have few:=jH hp hk
 have ea:aZ p k=a:=by unfold aZ;exact getD_some g.act
 rw [wG g] at h
 unfold uR at h
 rw [List.mem_append,List.mem_append] at h
 rcases h with (h|h)|h
 ·unfold atLeast at h
  split at h
  ·rename_i hn
   obtain rfl:=List.mem_singleton.1 h
   obtain⟨u1,u2⟩:=OO (f:=qL p b r 2 k) (hi:=y) (y+1 - x).toNat x
   generalize goUp (qL p b r 2 k) y (y+1 - x).toNat x=n at hn u1 u2
   obtain⟨v1,v2⟩:=u2 (n - 1) (by omega) (by omega)
   have en:negate ⟨1,(k:Int),n⟩=⟨2,k,n - 1⟩:=by unfold negate;rw [if_pos (within_iff.2 (by dsimp only;omega))];rfl
   rw [en]
   refine⟨?_,v1⟩
   unfold dI;rw [hp,hact,if_pos (.inl rfl)]
   simp only [Bool.true_and]
   exact within_iff.2 (by omega)
  ·cases h
 ·unfold vM at h
  split at h
  ·rename_i hn
   obtain rfl:=List.mem_singleton.1 h
   obtain⟨u1,u2⟩:=OP (f:=qL p b r 1 k) (lo:=x) (y+1 - x).toNat y
   generalize zT (qL p b r 1 k) x (y+1 - x).toNat y=n at hn u1 u2
   obtain⟨v1,v2⟩:=u2 (n+1) (by omega) (by omega)
   have en:negate ⟨2,(k:Int),n⟩=⟨1,k,n+1⟩:=by unfold negate;rw [if_pos (within_iff.2 (by dsimp only;omega))];rfl
   rw [en]
   refine⟨?_,v1⟩
   unfold dI;rw [hp,hact,if_pos (.inr rfl)]
   simp only [Bool.true_and]
   exact within_iff.2 (by omega)
  ·cases h
 ·obtain⟨v,hv,rfl⟩:=List.mem_map.1 h
  obtain⟨hv,hr⟩:=List.mem_filter.1 hv
  simp only [Bool.and_eq_true] at hr
  have hvm:=hb.ms v (by rw [e3];exact hv)
  rw [ea] at hvm few
  have en:negate ⟨4,(k:Int),v⟩=⟨3,k,v⟩:=by unfold negate;rw [if_pos (within_iff.2 (by dsimp only;omega))];rfl
  rw [en]
  refine⟨?_,hr.2⟩
  unfold dI
  rw [hp,hact,if_neg (by simp),if_pos (.inr rfl),Int.toNat_natCast,g.act]
  simp only [Bool.true_and]
  exact within_iff.2 (by omega)
structure aeu (p:Proj) (b:Dom) (s:Infer):Prop where
 fol:follows p s.rule s.clause=true
 lit:dI p s.lit=true
 ref:refutes p (restrict b (negate s.lit)) s.rule=true
theorem aaw {p:Proj} {ahead:List Lin} {r:Rul} {c:List Lit} (hp:aL p=true) (hn:ahead.length < 300) (h:follows p r c=true):aD p ahead ⟨1,r,c⟩=0:=by
 have hc:jw p c=true:=by simp only [follows,Bool.and_eq_true] at h;exact h.1
 unfold aD
 rw [if_pos ⟨hp,by simp only [KD,Qr,Bool.and_eq_true,Bool.or_eq_true];exact⟨hc,.inl rfl⟩,by omega⟩,if_pos rfl,if_pos h]
def aax (p:Proj) (c:Cur):Lit×Cur:=
 let a:=below c p.acts.length
 let o:=below a.2 4
 let k:=below o.2 2
 if o.1=0 then (⟨3+k.1,a.1,(below k.2 (aZ p a.1.toNat).modes.length).1⟩,(below k.2 (aZ p a.1.toNat).modes.length).2)
 else (⟨1+k.1,a.1,(below k.2 10).1⟩,(below k.2 10).2)
theorem QY {p:Proj} (hp:aL p=true):aP (bf p)=false:=by
 have hl:=jW hp
 have hh:=uT hp
 simp only [aP,Bool.or_eq_false_iff,List.any_eq_false,List.mem_range]
 refine⟨fun i hi=>?_,fun m hm=>?_⟩
 ·have hk:i < p.acts.length:=by rw [hl.lo] at hi;exact hi
  obtain⟨i1,i2,_⟩:=lI hp hk
  unfold nE
  rw [List.getElem?_eq_getElem hi,List.getElem?_eq_getElem (by rw [hl.hi];exact hk:i < (bf p).hi.length)]
  rw [List.getD_eq_getElem?_getD,List.getElem?_eq_getElem hi] at i1
  rw [List.getD_eq_getElem?_getD,List.getElem?_eq_getElem (by rw [hl.hi];exact hk:i < (bf p).hi.length)] at i2
  simp only [Option.getD_some] at i1 i2
  rw [i1,i2]
  simp;omega
 ·obtain⟨i,hi,rfl⟩:=List.getElem_of_mem hm
  have hk:i < p.acts.length:=by rw [hl.ms] at hi;exact hi
  obtain⟨_,_,i3⟩:=lI hp hk
  have few:=jH hp hk
  rw [List.getD_eq_getElem?_getD,List.getElem?_eq_getElem hi] at i3
  simp only [Option.getD_some] at i3
  rw [i3]
  have:((aZ p i).modes.length:Int).toNat=(aZ p i).modes.length:=rfl
  unfold aO
  rw [if_pos (within_iff.2 (by omega))]
  intro h
  have h:=of_decide_eq_true h
  simp only [List.length_map,List.length_range] at h
  omega
def resolve (a b:List Lit) (l:Lit):List Lit:=dh (nk a l++nk b (negate l))
section
attribute [local irreducible] bF aax aP restrict
end
end Go.Proofs.YtmenphiahgkjkaaGreatDoor.Abs
