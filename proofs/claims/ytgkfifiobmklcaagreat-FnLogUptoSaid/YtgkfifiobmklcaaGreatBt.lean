/- Explanations follow: the clause that explains a literal, or a refutation, in a domain within the first one. -/
import Derived.Test.YtgkfifiobmklcaaGreatLg
import Derived.Test.YtgkfifiobmklcaaGreatSnd
import Derived.Test.YtgkfifiobmklcaaGreatPlain
set_option linter.all false
set_option maxRecDepth 20000
set_option maxHeartbeats 0
namespace Go.Proofs.YtgkfifiobmklcaaGreat.Abs
open Go.Proofs
attribute [local irreducible] refutes
theorem FV {l:Lit} (hk:l.kind=1∨l.kind=2∨l.kind=3∨l.kind=4) (hv: -90000≤l.val∧l.val≤90000):negate (negate l)=l:=by
 obtain⟨k,a,v⟩:=l
 dsimp only at hk hv
 have w1:within v (-100000) 100000=true:=within_iff.2 (by omega)
 rcases hk with rfl|rfl|rfl|rfl
 ·have e:negate ⟨1,a,v⟩=⟨2,a,v - 1⟩:=by unfold negate;rw [if_pos w1];rfl
  rw [e];unfold negate;rw [if_pos (within_iff.2 (by dsimp only;omega))]
  show (⟨1,a,v - 1+1⟩:Lit)=_;congr 1;omega
 ·have e:negate ⟨2,a,v⟩=⟨1,a,v+1⟩:=by unfold negate;rw [if_pos w1];rfl
  rw [e];unfold negate;rw [if_pos (within_iff.2 (by dsimp only;omega))]
  show (⟨2,a,v+1 - 1⟩:Lit)=_;congr 1;omega
 ·have e:negate ⟨3,a,v⟩=⟨4,a,v⟩:=by unfold negate;rw [if_pos w1];rfl
  rw [e];unfold negate;rw [if_pos w1];rfl
 ·have e:negate ⟨4,a,v⟩=⟨3,a,v⟩:=by unfold negate;rw [if_pos w1];rfl
  rw [e];unfold negate;rw [if_pos w1];rfl
theorem Jw {p:Proj} {b:Dom} {k:Nat} {x:Lit} (hx:x∈nU p b k):∀{n:Nat},k < n→x∈dB p b n
 |0,h=>by omega
 |n+1,h=>by
  rw [dB,List.mem_append]
  by_cases e:k=n
  ·subst e;exact .inr hx
  ·exact .inl (Jw hx (by omega))
theorem WB {p:Proj} {b:Dom} (hf:ak p b=true) {k:Nat} (hk:k < p.acts.length) {x:Lit} (hx:x∈nU p b k):x∈jK p b:=by
 unfold jK;rw [if_pos hf];exact Jw hx hk
theorem getD_some {α:Type} {l:List α} {k:Nat} {x d:α} (h:l[k]? =some x):l.getD k d=x:=by rw [List.getD_eq_getElem?_getD,h];rfl
theorem nY {p:Proj} (hp:aG p=true) {k:Nat} (hk:k < p.acts.length):(aW p).lo.getD k 0=0∧(aW p).hi.getD k 0=p.dead - 1∧(aW p).modes.getD k []=aN (bg p k).modes.length:=by
 have ea:p.acts[k]=bg p k:=by
  have:=gM hk
  rw [List.getElem?_eq_getElem hk] at this
  exact Option.some.inj this
 unfold aW;rw [if_pos hp]
 unfold mZ
 dsimp only
 rw [jV hk,jV hk,jV hk,ea]
 exact⟨rfl,rfl,rfl⟩
theorem Am {c:Dom} {n k:Nat} (hc:pK c n) (hk:k < n) (v:Int):
  (restrict c ⟨1,k,v⟩).lo.getD k 0=max (c.lo.getD k 0) (clamped v)∧(restrict c ⟨2,k,v⟩).hi.getD k 0=min (c.hi.getD k 0) (clamped v)∧(restrict c ⟨4,k,v⟩).modes.getD k []=(c.modes.getD k []).filter fun n=>decide (n≠clamped v):=by
 obtain⟨h1,h2,h3⟩:=hc
 have hd:dO c (k:Int)=true:=by simp [dO];omega
 refine⟨?_,?_,?_⟩
 ·unfold restrict;dsimp only;rw [if_pos hd,if_pos rfl];dsimp only;rw [Int.toNat_natCast,aR (by omega)]
 ·unfold restrict;dsimp only;rw [if_pos hd,if_neg (by decide),if_pos rfl];dsimp only;rw [Int.toNat_natCast,aR (by omega)]
 ·unfold restrict;dsimp only;rw [if_pos hd,if_neg (by decide),if_neg (by decide),if_neg (by decide),if_pos rfl];dsimp only;rw [Int.toNat_natCast,aR (by omega)]
theorem Ni {p:Proj} {b:Dom} (hf:ak p b=true) {L:List Lit} (hL:∀x∈nN p b,x∈L):bn (fq p L) b p.acts.length:=by
 have hp:=(aT hf).1
 have hi:=jo hp
 have h0:=(nX L (aW p) hi).2
 have he:=pG L (aW p) hi
 intro k hk
 obtain⟨a,x,y,m,g⟩:=dL hf hk
 obtain⟨i1,i2,i3⟩:=nY hp hk
 obtain⟨j1,j2,j3⟩:=h0 k hk
 have e1:=getD_some (d:=0) g.lo
 have e2:=getD_some (d:=0) g.hi
 have e3:=getD_some (d:=[]) g.modes
 have hb:=lU hf hk
 have ea:bg p k=a:=by unfold bg;exact getD_some g.act
 have hat:=oP g
 have use:∀l:Lit,l∈nU p b k→(l.kind=1∨l.kind=2∨l.kind=3∨l.kind=4)→(-90000≤l.val∧l.val≤90000)→bn (fq p L) (restrict (aW p) l) p.acts.length:=by
  intro l hl hlk hlv
  have:=he (negate l) (hL _ (List.mem_map.2 ⟨l,WB hf hk hl,rfl⟩))
  rw [FV hlk hlv] at this
  exact this
 rw [e1,e2,e3]
 have b1:=hb.l1;have b2:=hb.l2;have b3:=hb.h1;have b4:=hb.h2
 rw [e1] at b1 b2
 rw [e2] at b3 b4
 refine⟨?_,?_,fun v hv=>?_⟩
 ·by_cases hx:x > 0
  ·have:=(use ⟨1,k,x⟩ (by rw [hat,uM,if_pos hx];simp) (.inl rfl) ⟨by dsimp only;omega,by dsimp only;omega⟩ k hk).1
   rw [(Am hi hk x).1,i1,gT ⟨b1,b2⟩] at this
   show x≤(fq p L).lo.getD k 0
   omega
  ·show x≤(fq p L).lo.getD k 0
   unfold fq
   omega
 ·by_cases hy:y < p.dead - 1
  ·have:=(use ⟨2,k,y⟩ (by rw [hat,uN,if_pos hy];simp) (.inr (.inl rfl)) ⟨by dsimp only;omega,by dsimp only;omega⟩ k hk).2.1
   rw [(Am hi hk y).2.1,i2,gT ⟨b3,b4⟩] at this
   show (fq p L).hi.getD k 0≤y
   omega
  ·show (fq p L).hi.getD k 0≤y
   unfold fq
   omega
 ·have hv0:=j3 v hv
  rw [i3,ea] at hv0
  by_cases hm:v∈m
  ·exact hm
  ·exfalso
   obtain⟨v0,v1⟩:=qy hv0
   have hp3:=iA hp hk
   rw [ea] at hp3
   have hmem:v∈fI (aN a.modes.length) m:=by
    unfold fI
    rw [rX]
    exact List.mem_filter.2 ⟨hv0,by simpa using hm⟩
   have:=(use ⟨4,k,v⟩ (by rw [hat];exact List.mem_append_right _ (List.mem_map.2 ⟨v,hmem,rfl⟩)) (.inr (.inr (.inr rfl))) ⟨by dsimp only;omega,by dsimp only;omega⟩ k hk).2.2 v hv
   rw [(Am hi hk v).2.2,gT ⟨by omega,by omega⟩] at this
   have:=(List.mem_filter.1 this).2
   simp at this
theorem FW {p:Proj}:∀(l:List Lit) (b:Dom),ak p b=true→ak p (against b l)=true
 |[],b,h=>h
 |x::l,b,h=>FW l _ (nE h _)
theorem UL (n:Nat):nT (aN n)=true:=by
 unfold nT aN
 split
 ·rw [bL]
  intro i hi
  unfold setAt
  simp only [Bool.or_eq_true,decide_eq_true_eq]
  by_cases h0:i=0
  ·exact .inl h0
  ·right
   simp only [List.length_map,List.length_range] at hi
   have e:∀j,j < (n:Int).toNat→((List.range (n:Int).toNat).map Int.ofNat).getD j 0=(j:Int):=fun j hj=>by
    rw [List.getD_eq_getElem?_getD,List.getElem?_map,List.getElem?_range hj];rfl
   rw [e (i - 1) (by omega),e i hi]
   omega
 ·rfl
theorem FX {p:Proj} (hp:aG p=true):ak p (aW p)=true:=by
 have hl:=jo hp
 have hh:=kg hp
 refine Mi hp hl.lo hl.hi hl.ms fun k hk=>?_
 obtain⟨i1,i2,i3⟩:=nY hp hk
 have h1:(aW p).lo[k]? =some 0:=by rw [List.getElem?_eq_getElem (by rw [hl.lo];exact hk)];rw [List.getD_eq_getElem?_getD,List.getElem?_eq_getElem (by rw [hl.lo];exact hk)] at i1;exact congrArg some i1
 have h2:(aW p).hi[k]? =some (p.dead - 1):=by rw [List.getElem?_eq_getElem (by rw [hl.hi];exact hk)];rw [List.getD_eq_getElem?_getD,List.getElem?_eq_getElem (by rw [hl.hi];exact hk)] at i2;exact congrArg some i2
 have h3:(aW p).modes[k]? =some (aN (bg p k).modes.length):=by rw [List.getElem?_eq_getElem (by rw [hl.ms];exact hk)];rw [List.getD_eq_getElem?_getD,List.getElem?_eq_getElem (by rw [hl.ms];exact hk)] at i3;exact congrArg some i3
 unfold rE
 rw [h1,h2,h3,gM hk]
 simp only [Bool.and_eq_true,oG,within_iff,subset,List.all_eq_true,List.contains_iff_mem]
 exact⟨⟨⟨by omega,by omega⟩,UL _⟩,fun x hx=>hx⟩
theorem uS {p:Proj} (hp:aG p=true) (L:List Lit):ak p (fq p L)=true:=FW L _ (FX hp)
theorem RP {p:Proj} {b:Dom} {r:Rul} {L:List Lit} (hf:ak p b=true) (hL:∀x∈nN p b,x∈L) (h:refutes p b r=true):refutes p (fq p L) r=true:=
 pF (uS (aT hf).1 L) (Ni hf hL) h
theorem jq {p:Proj} {b:Dom} (hf:ak p b=true):pK b p.acts.length:=by
 obtain⟨_,h1,h2,h3⟩:=aT hf;exact⟨h1,h2,h3⟩
theorem aad {p:Proj} {b:Dom} {r:Rul} {L:List Lit} {l:Lit} (hf:ak p b=true) (hL:∀x∈nN p b,x∈L) (hl:l∈L) (h:refutes p (restrict b (negate l)) r=true):refutes p (fq p L) r=true:=by
 have hp:=(aT hf).1
 refine pF (uS hp L) (kJ (jq hf) (jo hp) (Ni hf hL) ?_) h
 exact pG L (aW p) (jo hp) l hl
theorem Jy {p:Proj} {l:List Lit} (hs:l.Pairwise eH) (hok:∀x∈l,bJ p x=true) (hn:l.length≤24):iO p l=true:=by
 simp only [iO,Bool.and_eq_true,decide_eq_true_eq]
 refine⟨bL.2 fun i hi=>?_,by omega⟩
 unfold clauseAt
 rw [List.getElem?_eq_getElem hi]
 simp only [Bool.and_eq_true]
 refine⟨hok _ (List.getElem_mem hi),?_⟩
 by_cases h0:i=0
 ·subst h0;simp
 ·simp only [Bool.or_eq_true,Bool.not_eq_true',decide_eq_false_iff_not]
  right
  rw [List.getElem?_eq_getElem (by omega:i - 1 < l.length)]
  simp only [Bool.not_eq_true',decide_eq_false_iff_not]
  have:=List.pairwise_iff_getElem.1 hs (i - 1) i (by omega) hi (by omega)
  have:=pV.2 this
  omega
theorem uT {p:Proj} {r:Rul} {keeps:Lit→Bool}:∀(xs:List Lit) (o:List Lit),o.Pairwise eH→(∀x∈o,bJ p x=true)→o.length≤24→refutes p (fq p o) r=true→
  follows p r (xs.foldl (eY p r keeps) o)=true
 |[],o,h1,h2,h3,h4=>by
  simp only [List.foldl_nil,follows,Bool.and_eq_true]
  exact⟨Jy h1 h2 h3,h4⟩
 |x::xs,o,h1,h2,h3,h4=>by
  rw [List.foldl_cons]
  unfold eY
  split
  ·exact uT xs o h1 h2 h3 h4
  ·split
   ·rename_i hr
    refine uT xs (nG o x) ?_ ?_ ?_ hr
    ·exact h1.sublist List.filter_sublist
    ·exact fun y hy=>h2 y (List.mem_filter.1 hy).1
    ·exact Nat.le_trans (List.length_filter_le _ _) h3
   ·exact uT xs o h1 h2 h3 h4
theorem uU {p:Proj} {r:Rul} {keeps:Lit→Bool} {l:List Lit} (h1:l.Pairwise eH) (h2:∀x∈l,bJ p x=true) (h3:l.length≤24) (h4:refutes p (fq p l) r=true):follows p r (qc p r keeps l)=true:=
 uT l l h1 h2 h3 h4
def vP (p:Proj) (b:Dom):Prop:=bn b (aW p) p.acts.length
theorem vP.restrict {p:Proj} {b:Dom} (hf:ak p b=true) (h:vP p b) (l:Lit):vP p (restrict b l):=bn.trans (kI b l (jq hf)) h
theorem XC {p:Proj} {b:Dom} (hf:ak p b=true):∀x∈nN p b,bJ p x=true:=by
 intro x hx
 have hp:=(aT hf).1
 have hh:=kg hp
 obtain⟨l,hl,rfl⟩:=List.mem_map.1 hx
 unfold jK at hl
 rw [if_pos hf] at hl
 have key:∀n,n≤p.acts.length→l∈dB p b n→bJ p (negate l)=true:=by
  intro n
  induction n with
  |zero=>intro _ h;simp [dB] at h
  |succ k ih=>
   intro hn h
   rw [dB,List.mem_append] at h
   rcases h with h|h
   ·exact ih (by omega) h
   ·have hk:k < p.acts.length:=by omega
    obtain⟨a,x,y,m,g⟩:=dL hf hk
    have hb:=lU hf hk
    have e1:=getD_some (d:=0) g.lo
    have e2:=getD_some (d:=0) g.hi
    have b1:=hb.l2;have b2:=hb.h1
    rw [e1] at b1
    rw [e2] at b2
    have hact:bG p (k:Int)=true:=by simp only [bG,within_iff];omega
    have few:=iA hp hk
    rw [oP g,List.mem_append,List.mem_append] at h
    rcases h with (h|h)|h
    ·unfold uM at h
     split at h
     ·rename_i hx
      obtain rfl:=List.mem_singleton.1 h
      have:negate ⟨1,(k:Int),x⟩=⟨2,k,x - 1⟩:=by unfold negate;rw [if_pos (within_iff.2 (by dsimp only;omega))];rfl
      rw [this]
      unfold bJ;rw [hp,hact,if_pos (.inr rfl)]
      simp only [Bool.true_and]
      exact within_iff.2 (by omega)
     ·cases h
    ·unfold uN at h
     split at h
     ·rename_i hy
      obtain rfl:=List.mem_singleton.1 h
      have:negate ⟨2,(k:Int),y⟩=⟨1,k,y+1⟩:=by unfold negate;rw [if_pos (within_iff.2 (by dsimp only;omega))];rfl
      rw [this]
      unfold bJ;rw [hp,hact,if_pos (.inl rfl)]
      simp only [Bool.true_and]
      exact within_iff.2 (by omega)
     ·cases h
    ·simp only [iG,List.mem_map] at h
     obtain⟨v,hv,rfl⟩:=h
     unfold fI at hv
     rw [rX] at hv
     obtain⟨v0,v1⟩:=qy (List.mem_filter.1 hv).1
     have ea:bg p k=a:=by unfold bg;exact getD_some g.act
     rw [ea] at few
     have:negate ⟨4,(k:Int),v⟩=⟨3,k,v⟩:=by unfold negate;rw [if_pos (within_iff.2 (by dsimp only;omega))];rfl
     rw [this]
     unfold bJ
     rw [hp,hact,if_neg (by simp),if_pos (.inl rfl),Int.toNat_natCast,g.act]
     simp only [Bool.true_and]
     exact within_iff.2 (by omega)
 exact key _ (Nat.le_refl _) hl
theorem FY {p:Proj} {b:Dom} (hf:ak p b=true) (hm:∀k,k < p.acts.length→(bg p k).modes.length≤2):∀n,n≤p.acts.length→(dB p b n).length≤4*n
 |0,_=>by simp [dB]
 |k+1,hn=>by
  have ih:=FY hf hm k (by omega)
  have hk:k < p.acts.length:=by omega
  obtain⟨a,x,y,m,g⟩:=dL hf hk
  have ea:bg p k=a:=by unfold bg;exact getD_some g.act
  have hmk:=hm k hk
  rw [ea] at hmk
  rw [dB,List.length_append,oP g,List.length_append,List.length_append]
  have h1:(uM k x).length≤1:=by unfold uM;split<;>simp
  have h2:(uN p.dead k y).length≤1:=by unfold uN;split<;>simp
  have h3:(iG k (fI (aN a.modes.length) m)).length≤2:=by
   unfold iG fI
   rw [List.length_map]
   have q1:=jU ((aN a.modes.length).filter fun n=> !m.contains n)
   have q2:=List.length_filter_le (fun n=> !m.contains n) (aN a.modes.length)
   have q3:(aN a.modes.length).length≤a.modes.length:=by
    unfold aN;split
    ·simp
    ·simp
   omega
  omega
theorem UM {p:Proj} {b:Dom} (hf:ak p b=true) (hm:∀k,k < p.acts.length→(bg p k).modes.length≤2):(nN p b).length≤4*p.acts.length:=by
 unfold nN jK
 rw [if_pos hf,List.length_map]
 exact FY hf hm _ (Nat.le_refl _)
structure Small (p:Proj):Prop where
 ok:aG p=true
 few:p.acts.length≤5
 two:∀k,k < p.acts.length→(bg p k).modes.length≤2
theorem DJ {p:Proj} {b:Dom} {r:Rul} {l:Lit} (hs:Small p) (hf:ak p b=true) (hl:bJ p l=true) (h:refutes p (restrict b (negate l)) r=true):follows p r (dW p b r l).1=true:=by
 have hn:=UM hf hs.two
 have aed:=hs.few
 unfold dW
 rw [if_pos ⟨hl,h⟩]
 obtain⟨s1,s2⟩:=eB (nN p b++[l])
 refine uU s1 (fun x hx=>?_) ?_ ?_
 ·rcases List.mem_append.1 ((s2 x).1 hx) with hx|hx
  ·exact XC hf x hx
  ·rw [List.mem_singleton.1 hx];exact hl
 ·have:=qo (nN p b++[l])
  simp at this;omega
 ·exact aad hf (fun x hx=>(s2 x).2 (List.mem_append_left _ hx)) ((s2 l).2 (by simp)) h
theorem Kc {p:Proj} {b:Dom} {r:Rul} (hs:Small p) (h:refutes p b r=true):follows p r (explain p b r)=true:=by
 have hf:=FL h
 have hn:=UM hf hs.two
 have aed:=hs.few
 unfold explain
 rw [if_pos h]
 obtain⟨s1,s2⟩:=eB (nN p b)
 refine uU s1 (fun x hx=>XC hf x ((s2 x).1 hx)) ?_ (RP hf (fun x hx=>(s2 x).2 hx) h)
 have:=qo (nN p b)
 omega
end Go.Proofs.YtgkfifiobmklcaaGreat.Abs
namespace Go.Proofs.YtgkfifiobmklcaaGreat.Abs
open Go.Proofs
attribute [local irreducible] refutes dW
theorem PV {f:Int→Bool} {hi:Int}:∀(k:Nat) (n:Int),n≤goUp f hi k n∧∀v,n≤v→v < goUp f hi k n→f v=true∧v≤hi
 |0,n=>⟨Int.le_refl _,fun v h1 h2=>by simp only [goUp] at h2;omega⟩
 |k+1,n=>by
  rw [goUp]
  split
  ·rename_i h
   obtain⟨h1,h2⟩:=PV (f:=f) (hi:=hi) k (n+1)
   refine⟨by omega,fun v h3 h4=>?_⟩
   by_cases e:v=n
   ·subst e;exact⟨h.2,h.1⟩
   ·exact h2 v (by omega) h4
  ·exact⟨Int.le_refl _,fun v h1 h2=>by omega⟩
theorem PW {f:Int→Bool} {lo:Int}:∀(k:Nat) (n:Int),Ad f lo k n≤n∧∀v,v≤n→Ad f lo k n < v→f v=true∧lo≤v
 |0,n=>⟨Int.le_refl _,fun v h1 h2=>by simp only [Ad] at h2;omega⟩
 |k+1,n=>by
  rw [Ad]
  split
  ·rename_i h
   obtain⟨h1,h2⟩:=PW (f:=f) (lo:=lo) k (n - 1)
   refine⟨by omega,fun v h3 h4=>?_⟩
   by_cases e:v=n
   ·subst e;exact⟨h.2,h.1⟩
   ·exact h2 v (by omega) h4
  ·exact⟨Int.le_refl _,fun v h1 h2=>by omega⟩
theorem tZ {p:Proj} {b:Dom} {r:Rul} {k:Nat} {l:Lit} (hf:ak p b=true) (hin:vP p b) (hk:k < p.acts.length) (h:l∈mW p b r k):bJ p l=true∧refutes p (restrict b (negate l)) r=true:=by
 have hp:=(aT hf).1
 have hh:=kg hp
 obtain⟨a,x,y,m,g⟩:=dL hf hk
 obtain⟨i1,i2,i3⟩:=nY hp hk
 obtain⟨j1,j2,j3⟩:=hin k hk
 have e1:=getD_some (d:=0) g.lo
 have e2:=getD_some (d:=0) g.hi
 have e3:=getD_some (d:=[]) g.modes
 have hb:=lU hf hk
 have b3:=hb.h1;have b2:=hb.l2
 rw [e1] at j1 b2
 rw [e2] at j2 b3
 have hact:bG p (k:Int)=true:=by simp only [bG,within_iff];omega
 have few:=iA hp hk
 have ea:bg p k=a:=by unfold bg;exact getD_some g.act
 rw [wK g] at h
 unfold uP at h
 rw [List.mem_append,List.mem_append] at h
 rcases h with (h|h)|h
 ·unfold atLeast at h
  split at h
  ·rename_i hn
   obtain rfl:=List.mem_singleton.1 h
   obtain⟨u1,u2⟩:=PV (f:=qN p b r 2 k) (hi:=y) (y+1 - x).toNat x
   generalize goUp (qN p b r 2 k) y (y+1 - x).toNat x=n at hn u1 u2
   obtain⟨v1,v2⟩:=u2 (n - 1) (by omega) (by omega)
   have en:negate ⟨1,(k:Int),n⟩=⟨2,k,n - 1⟩:=by unfold negate;rw [if_pos (within_iff.2 (by dsimp only;omega))];rfl
   rw [en]
   refine⟨?_,v1⟩
   unfold bJ;rw [hp,hact,if_pos (.inl rfl)]
   simp only [Bool.true_and]
   exact within_iff.2 (by omega)
  ·cases h
 ·unfold vN at h
  split at h
  ·rename_i hn
   obtain rfl:=List.mem_singleton.1 h
   obtain⟨u1,u2⟩:=PW (f:=qN p b r 1 k) (lo:=x) (y+1 - x).toNat y
   generalize Ad (qN p b r 1 k) x (y+1 - x).toNat y=n at hn u1 u2
   obtain⟨v1,v2⟩:=u2 (n+1) (by omega) (by omega)
   have en:negate ⟨2,(k:Int),n⟩=⟨1,k,n+1⟩:=by unfold negate;rw [if_pos (within_iff.2 (by dsimp only;omega))];rfl
   rw [en]
   refine⟨?_,v1⟩
   unfold bJ;rw [hp,hact,if_pos (.inr rfl)]
   simp only [Bool.true_and]
   exact within_iff.2 (by omega)
  ·cases h
 ·obtain⟨v,hv,rfl⟩:=List.mem_map.1 h
  obtain⟨hv,hr⟩:=List.mem_filter.1 hv
  simp only [Bool.and_eq_true] at hr
  have hvm:=hb.ms v (by rw [e3];exact hv)
  rw [ea] at hvm few
  have en:negate ⟨4,(k:Int),v⟩=⟨3,k,v⟩:=by unfold negate;rw [if_pos (within_iff.2 (by dsimp only;omega))];rfl
  rw [en]
  refine⟨?_,hr.2⟩
  unfold bJ
  rw [hp,hact,if_neg (by simp),if_pos (.inr rfl),Int.toNat_natCast,g.act]
  simp only [Bool.true_and]
  exact within_iff.2 (by omega)
structure afi (p:Proj) (b:Dom) (s:Infer):Prop where
 fol:follows p s.rule s.clause=true
 lit:bJ p s.lit=true
 ref:refutes p (restrict b (negate s.lit)) s.rule=true
theorem XD {p:Proj} {ahead:List Lin} {r:Rul} {c:List Lit} (hp:aG p=true) (hn:ahead.length < 300) (h:follows p r c=true):aH p ahead ⟨1,r,c⟩=0:=by
 have hc:iO p c=true:=by simp only [follows,Bool.and_eq_true] at h;exact h.1
 unfold aH
 rw [if_pos ⟨hp,by simp only [Dl,Kr,Bool.and_eq_true,Bool.or_eq_true];exact⟨hc,.inl rfl⟩,by omega⟩,if_pos rfl,if_pos h]
def fJ (p:Proj) (c:Cur):Lit×Cur:=
 let a:=below c p.acts.length
 let o:=below a.2 4
 let k:=below o.2 2
 if o.1=0 then (⟨3+k.1,a.1,(below k.2 (bg p a.1.toNat).modes.length).1⟩,(below k.2 (bg p a.1.toNat).modes.length).2)
 else (⟨1+k.1,a.1,(below k.2 10).1⟩,(below k.2 10).2)
theorem yw {p:Proj} (hp:aG p=true) {c:Cur} (h:c.ok):bJ p (fJ p c).1=true∧(fJ p c).2.ok:=by
 obtain⟨a,c1,e1,h1,a0,a1⟩:=aC h p.acts.length
 obtain⟨o,c2,e2,h2,o0,o1⟩:=aC h1 4
 obtain⟨k,c3,e3,h3,k0,k1⟩:=aC h2 2
 have hh:=kg hp
 have a1:=a1 (by omega)
 have k1:=k1 (by decide)
 unfold fJ
 rw [e1];dsimp only;rw [e2];dsimp only;rw [e3];dsimp only
 have hact:bG p a=true:=by simp only [bG,within_iff];omega
 split
 ·obtain⟨v,c4,e4,h4,v0,v1⟩:=aC h3 (bg p a.toNat).modes.length
  have few:=iA hp (k:=a.toNat) (by omega)
  have v1:=v1 (by omega)
  rw [e4]
  refine⟨?_,h4⟩
  unfold bJ
  dsimp only
  rw [hp,hact,if_neg (by omega),if_pos (by omega),gM (by omega)]
  simp only [Bool.true_and]
  exact within_iff.2 (by omega)
 ·obtain⟨v,c4,e4,h4,v0,v1⟩:=aC h3 10
  have v1:=v1 (by decide)
  rw [e4]
  refine⟨?_,h4⟩
  unfold bJ
  dsimp only
  rw [hp,hact,if_pos (by omega)]
  simp only [Bool.true_and]
  exact within_iff.2 (by omega)
theorem RQ {p:Proj} (hp:aG p=true):aL (aW p)=false:=by
 have hl:=jo hp
 have hh:=kg hp
 simp only [aL,Bool.or_eq_false_iff,List.any_eq_false,List.mem_range]
 refine⟨fun i hi=>?_,fun m hm=>?_⟩
 ·have hk:i < p.acts.length:=by rw [hl.lo] at hi;exact hi
  obtain⟨i1,i2,_⟩:=nY hp hk
  unfold jI
  rw [List.getElem?_eq_getElem hi,List.getElem?_eq_getElem (by rw [hl.hi];exact hk:i < (aW p).hi.length)]
  rw [List.getD_eq_getElem?_getD,List.getElem?_eq_getElem hi] at i1
  rw [List.getD_eq_getElem?_getD,List.getElem?_eq_getElem (by rw [hl.hi];exact hk:i < (aW p).hi.length)] at i2
  simp only [Option.getD_some] at i1 i2
  rw [i1,i2]
  simp;omega
 ·obtain⟨i,hi,rfl⟩:=List.getElem_of_mem hm
  have hk:i < p.acts.length:=by rw [hl.ms] at hi;exact hi
  obtain⟨_,_,i3⟩:=nY hp hk
  have few:=iA hp hk
  rw [List.getD_eq_getElem?_getD,List.getElem?_eq_getElem hi] at i3
  simp only [Option.getD_some] at i3
  rw [i3]
  have:((bg p i).modes.length:Int).toNat=(bg p i).modes.length:=rfl
  unfold aN
  rw [if_pos (within_iff.2 (by omega))]
  intro h
  have h:=of_decide_eq_true h
  simp only [List.length_map,List.length_range] at h
  omega
def resolve (a b:List Lit) (l:Lit):List Lit:=bH (nG a l++nG b (negate l))
section
attribute [local irreducible] bq fJ aL restrict
end
end Go.Proofs.YtgkfifiobmklcaaGreat.Abs
