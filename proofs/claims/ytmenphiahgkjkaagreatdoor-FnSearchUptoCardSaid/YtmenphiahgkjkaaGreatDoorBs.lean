/- Explanations of refutations: false in the domain, and none of their literals can be left out. -/
import Derived.Test.YtmenphiahgkjkaaGreatDoorBt
import Derived.Test.YtmenphiahgkjkaaGreatDoorC33
import Derived.Test.YtmenphiahgkjkaaGreatDoorC35
import Derived.Test.YtmenphiahgkjkaaGreatDoorCz
set_option linter.all false
set_option maxRecDepth 20000
set_option maxHeartbeats 0
namespace Go.Proofs.YtmenphiahgkjkaaGreatDoor.Abs
open Go.Proofs
attribute [local irreducible] refutes
theorem yu {n:Nat} {a b0:Dom} (h0:rz b0 n):∀(L:List Lit) (b:Dom),rz b n→bA a b n→(∀x∈L,bA a (restrict b0 (negate x)) n)→bA a (against b L) n
 |[],b,_,h,_=>h
 |x::L,b,hb,h,hx=>yu h0 L (restrict b (negate x)) (iI hb _) (oZ hb h0 h (hx x (List.mem_cons_self ..))) fun y hy=>hx y (List.mem_cons_of_mem _ hy)
theorem Ut {p:Proj} (hp:aL p=true) {L L':List Lit} (h:∀x∈L,x∈L'):bA (fP p L') (fP p L) p.acts.length:=
 yu (jW hp) L (bf p) (jW hp) (qP L' _ (jW hp)).2 fun x hx=>rX L' _ (jW hp) x (h x hx)
theorem Ro {p:Proj} {r:Rul} {L L':List Lit} (h:∀x∈L,x∈L') (hr:refutes p (fP p L) r=true):refutes p (fP p L') r=true:=by
 have hp:=(bq (QI hr)).1
 exact rW (IC hp L') (Ut hp h) hr
theorem wN {o:List Lit} {x y:Lit}:y∈nk o x↔y∈o∧y≠x:=by
 unfold nk
 rw [List.mem_filter]
 have:∀b:Bool,(!b)=true↔¬ b=true:=fun b=>by cases b<;>simp
 rw [this,iN]
theorem Uu {p:Proj} {r:Rul} {keeps:Lit→Bool} {o:List Lit} {x y:Lit} (h:y∈eP p r keeps o x):y∈o:=by
 unfold eP at h
 split at h
 ·exact h
 ·split at h
  ·exact (wN.1 h).1
  ·exact h
theorem OX {p:Proj} {r:Rul} {keeps:Lit→Bool}:∀(xs o:List Lit),(∀y∈xs.foldl (eP p r keeps) o,y∈o)∧
  ∀x∈xs,x∈xs.foldl (eP p r keeps) o→keeps x=false→refutes p (fP p (nk (xs.foldl (eP p r keeps) o) x)) r=false
 |[],o=>⟨fun _ h=>h,fun x hx=>by cases hx⟩
 |x::xs,o=>by
  rw [List.foldl_cons]
  obtain⟨h1,h2⟩:=OX xs (eP p r keeps o x) (p:=p) (r:=r) (keeps:=keeps)
  refine⟨fun y hy=>Uu (h1 y hy),fun y hy hm hk=>?_⟩
  rcases List.mem_cons.1 hy with rfl|hy
  ·have hm':=h1 y hm
   generalize hres:xs.foldl (eP p r keeps) (eP p r keeps o y)=res at h1 hm
   have hin:∀z∈res,z∈o:=fun z hz=>Uu (h1 z hz)
   unfold eP at hm'
   rw [hk,if_neg (by decide)] at hm'
   by_cases hr:refutes p (fP p (nk o y)) r=true
   ·rw [if_pos hr] at hm'
    exact absurd rfl (wN.1 hm').2
   ·cases e:refutes p (fP p (nk res y)) r
    ·rfl
    ·exact absurd (Ro (fun z hz=>wN.2 ⟨hin z (wN.1 hz).1,(wN.1 hz).2⟩) e) hr
  ·exact h2 y hy hm hk
theorem VP {p:Proj} {b:Dom} (hf:ak p b=true) (he:aP b=false):∀x∈rV p b,litValue b x= -1:=by
 intro x hx
 have hp:=(bq hf).1
 obtain⟨l1,l2,l3⟩:=(bq hf).2
 obtain⟨l,hl,rfl⟩:=List.mem_map.1 hx
 unfold jO at hl
 rw [if_pos hf] at hl
 have key:∀n,n≤p.acts.length→l∈bV p b n→litValue b (negate l)= -1:=by
  intro n
  induction n with
  |zero=>intro _ h;simp [bV] at h
  |succ k ih=>
   intro hn h
   rw [bV,List.mem_append] at h
   rcases h with h|h
   ·exact ih (by omega) h
   ·have hk:k < p.acts.length:=by omega
    obtain⟨a,x,y,m,g⟩:=dL hf hk
    obtain⟨⟨⟨m0,hm0,_⟩,_⟩,hxy⟩:=iA hf he (bA.refl _ _) hk
    have e1:=getD_some (d:=0) g.lo
    have e2:=getD_some (d:=0) g.hi
    have e3:=getD_some (d:=[]) g.modes
    rw [e1,e2] at hxy
    rw [e3] at hm0
    have hd:eF b (k:Int)=true:=by simp [eF];omega
    have hb1:=g.lob
    have hb2:=g.hib
    rw [oM g] at h
    simp only [List.mem_append] at h
    rcases h with (h|h)|h
    ·unfold uO at h
     split at h
     ·obtain rfl:=List.mem_singleton.1 h
      have:negate ⟨1,(k:Int),x⟩=⟨2,k,x - 1⟩:=by unfold negate;rw [if_pos (within_iff.2 (by dsimp only;omega))];rfl
      rw [this]
      unfold litValue
      dsimp only
      rw [if_pos hd,if_neg (by decide),if_pos rfl,Int.toNat_natCast,e1,e2,valueOf,if_neg (by simp;omega),if_pos (by simp;omega)]
     ·cases h
    ·unfold uP at h
     split at h
     ·obtain rfl:=List.mem_singleton.1 h
      have:negate ⟨2,(k:Int),y⟩=⟨1,k,y+1⟩:=by unfold negate;rw [if_pos (within_iff.2 (by dsimp only;omega))];rfl
      rw [this]
      unfold litValue
      dsimp only
      rw [if_pos hd,if_pos rfl,Int.toNat_natCast,e1,e2,valueOf,if_neg (by simp;omega),if_pos (by simp;omega)]
     ·cases h
    ·simp only [iH,List.mem_map] at h
     obtain⟨v,hv,rfl⟩:=h
     unfold fJ at hv
     rw [sj] at hv
     have hnm:=(List.mem_filter.1 hv).2
     obtain⟨v0,v1⟩:=qm (List.mem_filter.1 hv).1
     have few:=jH hp hk
     have ea:aZ p k=a:=by unfold aZ;exact getD_some g.act
     rw [ea] at few
     have:negate ⟨4,(k:Int),v⟩=⟨3,k,v⟩:=by unfold negate;rw [if_pos (within_iff.2 (by dsimp only;omega))];rfl
     rw [this]
     unfold litValue
     dsimp only
     have hnm':v∉m:=by simpa using hnm
     rw [if_pos hd,if_neg (by decide),if_neg (by decide),if_pos rfl,Int.toNat_natCast,e3,valueOf,if_neg (by
      simp only [decide_eq_true_eq]
      intro e
      rw [e] at hnm'
      exact hnm' (List.mem_singleton.2 rfl)),if_pos (by simpa using hnm')]
 exact key _ (Nat.le_refl _) hl
theorem IL {p:Proj} {r:Rul} {keeps:Lit→Bool}:∀(xs o:List Lit),o.Pairwise eD→(xs.foldl (eP p r keeps) o).Pairwise eD
 |[],_,h=>h
 |x::xs,o,h=>by
  rw [List.foldl_cons]
  refine IL xs _ ?_
  unfold eP
  split
  ·exact h
  ·split
   ·exact h.sublist List.filter_sublist
   ·exact h
end Go.Proofs.YtmenphiahgkjkaaGreatDoor.Abs
namespace Go.Proofs.YtmenphiahgkjkaaGreatDoor.Abs
open Go.Proofs
attribute [local irreducible] refutes
theorem IK {p:Proj} {b:Dom} {r:Rul} (hf:ak p b=true) {k:Nat} (hk:k < p.acts.length) {l:Lit} (h:l∈mQ p b r k):litValue b l≠1:=by
 obtain⟨l1,l2,l3⟩:=(bq hf).2
 obtain⟨a,x,y,m,g⟩:=dL hf hk
 have e1:=getD_some (d:=0) g.lo
 have e2:=getD_some (d:=0) g.hi
 have e3:=getD_some (d:=[]) g.modes
 have hd:eF b (k:Int)=true:=by simp [eF];omega
 have V:∀(u v:Bool),u=false→valueOf u v≠1:=by
  rintro u v rfl
  unfold valueOf
  rw [if_neg (by decide)]
  split<;>decide
 rw [wG g] at h
 unfold uR at h
 rw [List.mem_append,List.mem_append] at h
 rcases h with (h|h)|h
 ·unfold atLeast at h
  split at h
  ·rename_i hn
   obtain rfl:=List.mem_singleton.1 h
   unfold litValue
   dsimp only
   rw [if_pos hd,if_pos rfl,Int.toNat_natCast,e1]
   exact V _ _ (decide_eq_false (by omega))
  ·cases h
 ·unfold vM at h
  split at h
  ·rename_i hn
   obtain rfl:=List.mem_singleton.1 h
   unfold litValue
   dsimp only
   rw [if_pos hd,if_neg (by decide),if_pos rfl,Int.toNat_natCast,e2]
   exact V _ _ (decide_eq_false (by omega))
  ·cases h
 ·obtain⟨v,hv,rfl⟩:=List.mem_map.1 h
  obtain⟨hv,hr⟩:=List.mem_filter.1 hv
  unfold litValue
  dsimp only
  rw [if_pos hd,if_neg (by decide),if_neg (by decide),if_neg (by decide),if_pos rfl,Int.toNat_natCast,e3]
  exact V _ _ (by simpa using hv)
theorem yt {b:Dom} {l:Lit} (hl:litValue b l≠1):∀(w:List Lit) (n:Int) (x:Lit),(∀y∈w,y=l∨litValue b y= -1)→w.Pairwise (· ≠ ·)→(n=0∨(n=1∧x=l∧l∉w))→
  (aN b w n x).1≠1∧((aN b w n x).1=0→(aN b w n x).2=l)
 |[],n,x,_,_,hn=>by
  rcases hn with rfl|⟨rfl,rfl,_⟩
  ·exact⟨show (-1:Int)≠1 by decide,fun h=>absurd (show (-1:Int)=0 from h) (by decide)⟩
  ·exact⟨show (0:Int)≠1 by decide,fun _=>rfl⟩
 |y::w,n,x,hw,hp,hn=>by
  rw [List.pairwise_cons] at hp
  have hw':∀z∈w,z=l∨litValue b z= -1:=fun z hz=>hw z (List.mem_cons_of_mem _ hz)
  have hy1:litValue b y≠1:=by
   rcases hw y (List.mem_cons_self ..) with rfl|h
   ·exact hl
   ·rw [h];decide
  rw [aN,if_neg hy1]
  split
  ·rename_i h0
   have hyl:y=l:=by
    rcases hw y (List.mem_cons_self ..) with h|h
    ·exact h
    ·rw [h] at h0;exact absurd h0 (by decide)
   subst hyl
   rcases hn with rfl|⟨_,_,hm⟩
   ·exact yt hl w (0+1) y hw' hp.2 (.inr ⟨rfl,rfl,fun h=>hp.1 y h rfl⟩)
   ·exact absurd (List.mem_cons_self ..) hm
  ·refine yt hl w n x hw' hp.2 ?_
   rcases hn with h|⟨h1,h2,h3⟩
   ·exact .inl h
   ·exact .inr ⟨h1,h2,fun h=>h3 (List.mem_cons_of_mem _ h)⟩
theorem Uo {w:List Lit} (hs:w.Pairwise eD):w.Pairwise (· ≠ ·):=hs.imp fun h e=>by subst e;exact absurd h (by rw [← pJ];simp [kg,KA,orI])
structure aen (p:Proj) (b:Dom) (r:Rul) (x:Infer):Prop where
 exp:dO p b r x.lit=(x.clause,true)
 fol:follows p r x.clause=true
 opn:litValue b x.lit≠1
 st1:(status b x.clause).1≠1
 st0:(status b x.clause).1=0→(status b x.clause).2=x.lit
 all:∀s,bg p s=true→dA x.clause s=true
 one:∀s,bg p s=true→mK b s p.acts.length→dG x.lit s=true
theorem XW {p:Proj} {b:Dom} {r:Rul} {l:Lit} {s:aJ} (hf:ak p b=true) (hl:dI p l=true) (h:refutes p (restrict b (negate l)) r=true) (hs:bg p s=true) (hin:mK b s p.acts.length):dG l s=true:=by
 cases e:dG l s with
 |true=>rfl
 |false=>
  have hfo:=oV hs
  have hn:=Fe hl hfo
  rw [e] at hn
  have:=Ch h hfo (oU (jD hf) hin (OL hl).1 hn)
  rw [hs] at this
  cases this
end Go.Proofs.YtmenphiahgkjkaaGreatDoor.Abs
namespace Go.Proofs.YtmenphiahgkjkaaGreatDoor.Abs
open Go.Proofs Go.RowKit
attribute [local irreducible] bF ak within
end Go.Proofs.YtmenphiahgkjkaaGreatDoor.Abs
namespace Go.Proofs.YtmenphiahgkjkaaGreatDoor.Abs
open Go.Proofs
attribute [local irreducible] refutes
theorem yw {f g:Nat→Int} {k:Nat}:∀{n:Nat},k < n→(∀j,j < n→f j≤g j)→f k+1≤g k→sumTo f n+1≤sumTo g n
 |0,h,_,_=>by omega
 |n+1,h,hle,hk=>by
  rw [sumTo,sumTo]
  by_cases e:k=n
  ·subst e
   have:=sumTo_le (f:=f) (g:=g) (n:=k) fun j hj=>hle j (by omega)
   omega
  ·have:=yw (n:=n) (by omega) (fun j hj=>hle j (by omega)) hk
   have:=hle n (by omega)
   omega
def pz (b:Dom) (k:Nat):Int:=b.hi.getD k 0 - b.lo.getD k 0+((b.modes.getD k []).length:Nat)
theorem VT {p:Proj} {b:Dom} {r:Rul} (hf:ak p b=true) (hin:yg p b) {k:Nat} (hk:k < p.acts.length) {l:Lit} (h:l∈mQ p b r k):
  sumTo (pz (restrict b l)) p.acts.length+1≤sumTo (pz b) p.acts.length:=by
 have hok:=(tZ hf hin hk h).1
 have hfit:=GU hok
 obtain⟨l1,l2,l3⟩:=(bq hf).2
 obtain⟨a,x,y,m,g⟩:=dL hf hk
 have e1:=getD_some (d:=0) g.lo
 have e2:=getD_some (d:=0) g.hi
 have e3:=getD_some (d:=[]) g.modes
 have hd:eF b (k:Int)=true:=by simp [eF];omega
 rw [wG g] at h
 unfold uR at h
 rw [List.mem_append,List.mem_append] at h
 rcases h with (h|h)|h
 ·unfold atLeast at h
  split at h
  ·rename_i hn
   obtain rfl:=List.mem_singleton.1 h
   have hr:restrict b ⟨1,(k:Int),goUp (qL p b r 2 k) y (y+1 - x).toNat x⟩= { b with lo:=b.lo.set k (max (b.lo.getD k 0) (goUp (qL p b r 2 k) y (y+1 - x).toNat x)) }:=by
    unfold restrict;dsimp only;rw [if_pos hd,if_pos rfl,gU hfit];rfl
   rw [hr]
   refine yw hk (fun j hj=>?_) ?_
   ·unfold pz
    dsimp only
    by_cases e:k=j
    ·subst e;rw [aM (by omega)];omega
    ·rw [getD_set_ne e];omega
   ·unfold pz
    dsimp only
    rw [aM (by omega),e1]
    omega
  ·cases h
 ·unfold vM at h
  split at h
  ·rename_i hn
   obtain rfl:=List.mem_singleton.1 h
   have hr:restrict b ⟨2,(k:Int),zT (qL p b r 1 k) x (y+1 - x).toNat y⟩= { b with hi:=b.hi.set k (min (b.hi.getD k 0) (zT (qL p b r 1 k) x (y+1 - x).toNat y)) }:=by
    unfold restrict;dsimp only;rw [if_pos hd,if_neg (by decide),if_pos rfl,gU hfit];rfl
   rw [hr]
   refine yw hk (fun j hj=>?_) ?_
   ·unfold pz
    dsimp only
    by_cases e:k=j
    ·subst e;rw [aM (by omega)];omega
    ·rw [getD_set_ne e];omega
   ·unfold pz
    dsimp only
    rw [aM (by omega),e2]
    omega
  ·cases h
 ·obtain⟨v,hv,rfl⟩:=List.mem_map.1 h
  have hvm:=(List.mem_filter.1 hv).1
  have hr:restrict b ⟨4,(k:Int),v⟩= { b with modes:=b.modes.set k ((b.modes.getD k []).filter fun n=>decide (n≠v)) }:=by
   unfold restrict;dsimp only;rw [if_pos hd,if_neg (by decide),if_neg (by decide),if_neg (by decide),if_pos rfl,gU hfit];rfl
  have hlen:(m.filter fun n=>decide (n≠v)).length+1≤m.length:=by
   have:∀m:List Int,v∈m→(m.filter fun n=>decide (n≠v)).length+1≤m.length:=by
    intro m
    induction m with
    |nil=>intro h;cases h
    |cons z m ih=>
     intro h
     rw [List.filter_cons]
     by_cases e:z=v
     ·rw [if_neg (by simp [e])]
      have:=List.length_filter_le (fun n=>decide (n≠v)) m
      rw [List.length_cons];omega
     ·rw [if_pos (by simp [e]),List.length_cons,List.length_cons]
      rcases List.mem_cons.1 h with h|h
      ·exact absurd h.symm e
      ·have:=ih h;omega
   exact this m hvm
  rw [hr]
  refine yw hk (fun j hj=>?_) ?_
  ·unfold pz
   dsimp only
   by_cases e:k=j
   ·subst e;rw [aM (by omega),e3];omega
   ·rw [getD_set_ne e];omega
  ·unfold pz
   dsimp only
   rw [aM (by omega),e3]
   omega
structure abP (p:Proj) (b:Dom) (s:Infer):Prop where
 opn:litValue b s.lit≠1
 down:sumTo (pz (restrict b s.lit)) p.acts.length+1≤sumTo (pz b) p.acts.length
 full:aP b=false
 keep:∀c,bg p c=true→mK b c p.acts.length→mK (restrict b s.lit) c p.acts.length
theorem Nt {p:Proj} {b:Dom} {s:Infer} (hin:yg p b) (h:bF p b=some s):abP p b s:=by
 have hu:=(tT h).1
 have hf:=xU hu
 have he:aP b=false:=by
  simp only [usable,Bool.and_eq_true,Bool.not_eq_true'] at hu;exact hu.2
 unfold bF at h
 split at h
 ·cases h
 ·obtain⟨r,hr,h1⟩:=List.exists_of_findSome?_eq_some h
  unfold uS at h1
  obtain⟨a,ha,h2⟩:=List.exists_of_findSome?_eq_some h1
  obtain⟨k,rfl,hk⟩:=xS ha
  unfold AP at h2
  rw [Int.toNat_natCast] at h2
  obtain⟨l,hl,rfl⟩:=Option.map_eq_some_iff.1 h2
  have hm:l∈mQ p b r k:=List.mem_of_mem_head? hl
  obtain⟨q1,q2⟩:=tZ hf hin hk hm
  refine⟨IK hf hk hm,VT hf hin hk hm,he,fun c hc hi=>?_⟩
  exact oU (jD hf) hi (GU q1) (XW hf q1 q2 hc hi)
def replay (p:Proj):List Infer→Dom→Dom→Prop
 |[],b,x=>b=x
 |s::l,b,x=>bF p b=some s∧replay p l (restrict b s.lit) x
structure aeo (p:Proj) (b x:Dom) (said:List Infer):Prop where
 form:ak p x=true
 sub:bA x b p.acts.length
 rep:replay p said b x
 keep:∀c,bg p c=true→mK b c p.acts.length→mK x c p.acts.length
 few:(said.length:Int)≤if aP b=true then 0 else sumTo (pz b) p.acts.length
section
attribute [local irreducible] bF restrict aP ak sumTo
end
theorem VQ {p:Proj} {x b:Dom} (hx:ak p x=true) (hb:ak p b=true) (h:bA x b p.acts.length):kM x b=true:=by
 obtain⟨l1,l2,l3⟩:=(bq hx).2
 obtain⟨k1,k2,k3⟩:=(bq hb).2
 unfold kM
 rw [Bool.and_eq_true,bX]
 refine⟨?_,fun i hi=>?_⟩
 ·unfold wo zy
  rw [List.all_eq_true]
  intro n hn
  simp only [List.mem_cons,List.not_mem_nil,or_false] at hn
  rw [decide_eq_true_eq]
  omega
 have hk:i < p.acts.length:=by omega
 obtain⟨a,u,v,m,g⟩:=dL hx hk
 obtain⟨a',u',v',m',g'⟩:=dL hb hk
 obtain⟨h1,h2,h3⟩:=h i hk
 rw [getD_some g.lo,getD_some g'.lo] at h1
 rw [getD_some g.hi,getD_some g'.hi] at h2
 rw [getD_some g.modes,getD_some g'.modes] at h3
 unfold SY
 simp only [g.lo,g'.lo,g.hi,g'.hi,g.modes,g'.modes,subset]
 simp
 exact⟨by omega,by omega,h3⟩
end Go.Proofs.YtmenphiahgkjkaaGreatDoor.Abs
