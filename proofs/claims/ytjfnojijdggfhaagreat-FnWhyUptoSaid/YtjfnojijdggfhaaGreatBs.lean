/- Explanations of refutations: false in the domain, and none of their literals can be left out. -/
import Derived.Test.YtjfnojijdggfhaaGreatBt
import Derived.Test.YtjfnojijdggfhaaGreatC33
import Derived.Test.YtjfnojijdggfhaaGreatC40
import Derived.Test.YtjfnojijdggfhaaGreatCz
set_option linter.all false
set_option maxRecDepth 20000
set_option maxHeartbeats 0
namespace Go.Proofs.YtjfnojijdggfhaaGreat.Abs
open Go.Proofs
attribute [local irreducible] refutes
theorem Dm {n:Nat} {a b0:Dom} (h0:yR b0 n):∀(L:List Lit) (b:Dom),yR b n→dR a b n→(∀x∈L,dR a (restrict b0 (negate x)) n)→dR a (against b L) n
 |[],b,_,h,_=>h
 |x::L,b,hb,h,hx=>Dm h0 L (restrict b (negate x)) (jI hb _) (Dh hb h0 h (hx x (List.mem_cons_self ..))) fun y hy=>hx y (List.mem_cons_of_mem _ hy)
theorem QE {p:Proj} (hp:aL p=true) {L L':List Lit} (h:∀x∈L,x∈L'):dR (fu p L') (fu p L) p.acts.length:=
 Dm (oC hp) L (aW p) (oC hp) (oF L' _ (oC hp)).2 fun x hx=>vH L' _ (oC hp) x (h x hx)
theorem Ob {p:Proj} {r:Rul} {L L':List Lit} (h:∀x∈L,x∈L') (hr:refutes p (fu p L) r=true):refutes p (fu p L') r=true:=by
 have hp:=(bN (vB hr)).1
 exact Df (FH hp L') (QE hp h) hr
theorem tZ {o:List Lit} {x y:Lit}:y∈jo o x↔y∈o∧y≠x:=by
 unfold jo
 rw [List.mem_filter]
 have:∀b:Bool,(!b)=true↔¬ b=true:=fun b=>by cases b<;>simp
 rw [this,gG]
theorem QF {p:Proj} {r:Rul} {keeps:Lit→Bool} {o:List Lit} {x y:Lit} (h:y∈dh p r keeps o x):y∈o:=by
 unfold dh at h
 split at h
 ·exact h
 ·split at h
  ·exact (tZ.1 h).1
  ·exact h
theorem Ey {p:Proj} {r:Rul} {keeps:Lit→Bool}:∀(xs o:List Lit),(∀y∈xs.foldl (dh p r keeps) o,y∈o)∧
  ∀x∈xs,x∈xs.foldl (dh p r keeps) o→keeps x=false→refutes p (fu p (jo (xs.foldl (dh p r keeps) o) x)) r=false
 |[],o=>⟨fun _ h=>h,fun x hx=>by cases hx⟩
 |x::xs,o=>by
  rw [List.foldl_cons]
  obtain⟨h1,h2⟩:=Ey xs (dh p r keeps o x) (p:=p) (r:=r) (keeps:=keeps)
  refine⟨fun y hy=>QF (h1 y hy),fun y hy hm hk=>?_⟩
  rcases List.mem_cons.1 hy with rfl|hy
  ·have hm':=h1 y hm
   generalize hres:xs.foldl (dh p r keeps) (dh p r keeps o y)=res at h1 hm
   have hin:∀z∈res,z∈o:=fun z hz=>QF (h1 z hz)
   unfold dh at hm'
   rw [hk,if_neg (by decide)] at hm'
   by_cases hr:refutes p (fu p (jo o y)) r=true
   ·rw [if_pos hr] at hm'
    exact absurd rfl (tZ.1 hm').2
   ·cases e:refutes p (fu p (jo res y)) r
    ·rfl
    ·exact absurd (Ob (fun z hz=>tZ.2 ⟨hin z (tZ.1 hz).1,(tZ.1 hz).2⟩) e) hr
  ·exact h2 y hy hm hk
theorem FI {p:Proj} {b:Dom} {r:Rul} {x:Lit} (h:x∈explain p b r):refutes p (fu p (jo (explain p b r) x)) r=false:=by
 unfold explain at h ⊢
 split at h
 ·rename_i hr
  rw [if_pos hr]
  unfold mg at h ⊢
  obtain⟨h1,h2⟩:=Ey (p:=p) (r:=r) (keeps:=fun _=>false) (dB (mY p b)) (dB (mY p b))
  exact h2 x (h1 x h) h rfl
 ·cases h
theorem JF {p:Proj} {r:Rul} {keeps:Lit→Bool} {w:List Lit} (h:∀x∈w,refutes p (fu p (jo w x)) r=false):∀xs:List Lit,(∀x∈xs,x∈w)→xs.foldl (dh p r keeps) w=w
 |[],_=>rfl
 |x::xs,hx=>by
  rw [List.foldl_cons]
  have:dh p r keeps w x=w:=by
   unfold dh
   rw [if_neg (c:=refutes p (fu p (jo w x)) r=true) (by rw [h x (hx x (List.mem_cons_self ..))];decide)]
   exact ite_self _
  rw [this]
  exact JF h xs fun y hy=>hx y (List.mem_cons_of_mem _ hy)
theorem Kz {p:Proj} {b:Dom} {r:Rul} (k:Int):shorten p r (explain p b r) k=explain p b r:=by
 unfold shorten
 split
 ·exact JF (fun x hx=>FI hx) _ fun x hx=>hx
 ·rfl
theorem Si {p:Proj} {b:Dom} {r:Rul} {x:Lit} (h:x∈explain p b r):x∈mY p b:=by
 unfold explain at h
 split at h
 ·obtain⟨h1,_⟩:=Ey (p:=p) (r:=r) (keeps:=fun _=>false) (dB (mY p b)) (dB (mY p b))
  exact ((kT (mY p b)).2 x).1 (h1 x h)
 ·cases h
theorem Sj {b:Dom} {l:List Lit} (h:∀x∈l,litValue b x= -1):status b l=(-1,iJ):=by
 have:∀(l:List Lit),(∀x∈l,litValue b x= -1)→iO b l 0 iJ=(-1,iJ):=by
  intro l
  induction l with
  |nil=>intro _;rfl
  |cons x l ih=>
   intro h
   have hx:=h x (List.mem_cons_self ..)
   rw [iO,if_neg (by rw [hx];decide),if_neg (by rw [hx];decide)]
   exact ih fun y hy=>h y (List.mem_cons_of_mem _ hy)
 exact this l h
theorem Sk {p:Proj} {b:Dom} (hf:ay p b=true) (he:aR b=false):∀x∈mY p b,litValue b x= -1:=by
 intro x hx
 have hp:=(bN hf).1
 obtain⟨l1,l2,l3⟩:=(bN hf).2
 obtain⟨l,hl,rfl⟩:=List.mem_map.1 hx
 unfold jc at hl
 rw [if_pos hf] at hl
 have key:∀n,n≤p.acts.length→l∈bR p b n→litValue b (negate l)= -1:=by
  intro n
  induction n with
  |zero=>intro _ h;simp [bR] at h
  |succ k ih=>
   intro hn h
   rw [bR,List.mem_append] at h
   rcases h with h|h
   ·exact ih (by omega) h
   ·have hk:k < p.acts.length:=by omega
    obtain⟨a,x,y,m,g⟩:=eP hf hk
    obtain⟨⟨⟨m0,hm0,_⟩,_⟩,hxy⟩:=jv hf he (dR.refl _ _) hk
    have e1:=getD_some (d:=0) g.lo
    have e2:=getD_some (d:=0) g.hi
    have e3:=getD_some (d:=[]) g.modes
    rw [e1,e2] at hxy
    rw [e3] at hm0
    have hd:fq b (k:Int)=true:=by simp [fq];omega
    have hb1:=g.lob
    have hb2:=g.hib
    rw [mR g] at h
    simp only [List.mem_append] at h
    rcases h with (h|h)|h
    ·unfold rH at h
     split at h
     ·obtain rfl:=List.mem_singleton.1 h
      have:negate ⟨1,(k:Int),x⟩=⟨2,k,x - 1⟩:=by unfold negate;rw [if_pos (within_iff.2 (by dsimp only;omega))];rfl
      rw [this]
      unfold litValue
      dsimp only
      rw [if_pos hd,if_neg (by decide),if_pos rfl,Int.toNat_natCast,e1,e2,valueOf,if_neg (by simp;omega),if_pos (by simp;omega)]
     ·cases h
    ·unfold rJ at h
     split at h
     ·obtain rfl:=List.mem_singleton.1 h
      have:negate ⟨2,(k:Int),y⟩=⟨1,k,y+1⟩:=by unfold negate;rw [if_pos (within_iff.2 (by dsimp only;omega))];rfl
      rw [this]
      unfold litValue
      dsimp only
      rw [if_pos hd,if_pos rfl,Int.toNat_natCast,e1,e2,valueOf,if_neg (by simp;omega),if_pos (by simp;omega)]
     ·cases h
    ·simp only [gD,List.mem_map] at h
     obtain⟨v,hv,rfl⟩:=h
     unfold eT at hv
     rw [pU] at hv
     have hnm:=(List.mem_filter.1 hv).2
     obtain⟨v0,v1⟩:=nP (List.mem_filter.1 hv).1
     have few:=iT hp hk
     have ea:aV p k=a:=by unfold aV;exact getD_some g.act
     rw [ea] at few
     have:negate ⟨4,(k:Int),v⟩=⟨3,k,v⟩:=by unfold negate;rw [if_pos (within_iff.2 (by dsimp only;omega))];rfl
     rw [this]
     unfold litValue
     dsimp only
     have hnm':v∉m:=by simpa using hnm
     rw [if_pos hd,if_neg (by decide),if_neg (by decide),if_pos rfl,Int.toNat_natCast,e3,valueOf,if_neg (by
      simp only [decide_eq_true_eq]
      intro e
      rw [e] at hnm'
      exact hnm' (List.mem_singleton.2 rfl)),if_pos (by simpa using hnm')]
 exact key _ (Nat.le_refl _) hl
theorem KA {p:Proj} {b:Dom} {r:Rul} (hf:ay p b=true) (he:aR b=false):status b (explain p b r)=(-1,iJ):=
 Sj fun x hx=>Sk hf he x (Si hx)
theorem Sl {w:List Lit} (hs:w.Pairwise dV):∀{i:Nat} {x:Lit},w[i]? =some x→w.eraseIdx i=jo w x:=by
 have hn:w.Pairwise (· ≠ ·):=hs.imp fun h e=>by subst e;exact absurd h (by rw [← ny];simp [jD,Ip,orI])
 intro i x h
 induction w generalizing i with
 |nil=>simp at h
 |cons y w ih=>
  rw [List.pairwise_cons] at hn hs
  cases i with
  |zero=>
   simp only [List.getElem?_cons_zero,Option.some.injEq] at h
   subst h
   rw [List.eraseIdx_cons_zero]
   unfold jo
   rw [List.filter_cons,if_neg (by simp [gG.2 rfl])]
   symm
   rw [List.filter_eq_self]
   intro z hz
   have:=hn.1 z hz
   cases e:bT z y with
   |false=>rfl
   |true=>exact absurd (gG.1 e).symm this
  |succ i=>
   rw [List.getElem?_cons_succ] at h
   rw [List.eraseIdx_cons_succ,ih hs.2 hn.2 h]
   unfold jo
   rw [List.filter_cons,if_pos]
   have:=hn.1 x (List.mem_of_getElem? h)
   cases e:bT y x with
   |false=>rfl
   |true=>exact absurd (gG.1 e) this
theorem FJ {p:Proj} {r:Rul} {keeps:Lit→Bool}:∀(xs o:List Lit),o.Pairwise dV→(xs.foldl (dh p r keeps) o).Pairwise dV
 |[],_,h=>h
 |x::xs,o,h=>by
  rw [List.foldl_cons]
  refine FJ xs _ ?_
  unfold dh
  split
  ·exact h
  ·split
   ·exact h.sublist List.filter_sublist
   ·exact h
theorem JG {p:Proj} {b:Dom} {r:Rul}:(explain p b r).Pairwise dV:=by
 unfold explain
 split
 ·exact FJ _ _ (kT (mY p b)).1
 ·exact List.Pairwise.nil
theorem Oc {p:Proj} {b:Dom} {r:Rul} {i:Nat} (h:i < (explain p b r).length):follows p r ((explain p b r).eraseIdx i)=false:=by
 rw [Sl JG (List.getElem?_eq_getElem h),follows,FI (List.getElem_mem h),Bool.and_false]
end Go.Proofs.YtjfnojijdggfhaaGreat.Abs
namespace Go.Proofs.YtjfnojijdggfhaaGreat.Abs
open Go.Proofs
attribute [local irreducible] refutes
theorem QG {p:Proj} {b:Dom} {r:Rul} (hf:ay p b=true) {k:Nat} (hk:k < p.acts.length) {l:Lit} (h:l∈iR p b r k):litValue b l≠1:=by
 obtain⟨l1,l2,l3⟩:=(bN hf).2
 obtain⟨a,x,y,m,g⟩:=eP hf hk
 have e1:=getD_some (d:=0) g.lo
 have e2:=getD_some (d:=0) g.hi
 have e3:=getD_some (d:=[]) g.modes
 have hd:fq b (k:Int)=true:=by simp [fq];omega
 have V:∀(u v:Bool),u=false→valueOf u v≠1:=by
  rintro u v rfl
  unfold valueOf
  rw [if_neg (by decide)]
  split<;>decide
 rw [tY g] at h
 unfold rO at h
 rw [List.mem_append,List.mem_append] at h
 rcases h with (h|h)|h
 ·unfold atLeast at h
  split at h
  ·rename_i hn
   obtain rfl:=List.mem_singleton.1 h
   unfold litValue
   dsimp only
   rw [if_pos hd,if_pos rfl,Int.toNat_natCast,e1]
   exact V _ _ (decide_eq_false (by omega))
  ·cases h
 ·unfold sN at h
  split at h
  ·rename_i hn
   obtain rfl:=List.mem_singleton.1 h
   unfold litValue
   dsimp only
   rw [if_pos hd,if_neg (by decide),if_pos rfl,Int.toNat_natCast,e2]
   exact V _ _ (decide_eq_false (by omega))
  ·cases h
 ·obtain⟨v,hv,rfl⟩:=List.mem_map.1 h
  obtain⟨hv,hr⟩:=List.mem_filter.1 hv
  unfold litValue
  dsimp only
  rw [if_pos hd,if_neg (by decide),if_neg (by decide),if_neg (by decide),if_pos rfl,Int.toNat_natCast,e3]
  exact V _ _ (by simpa using hv)
structure aaF (p:Proj) (b:Dom) (r:Rul) (x:Infer):Prop where
 exp:dw p b r x.lit=(x.clause,true)
 fol:follows p r x.clause=true
 opn:litValue b x.lit≠1
 st1:(status b x.clause).1≠1
 st0:(status b x.clause).1=0→(status b x.clause).2=x.lit
 all:∀s,dN p s=true→fD x.clause s=true
 one:∀s,dN p s=true→ow b s p.acts.length→bM x.lit s=true
theorem UC {p:Proj} {b:Dom} {r:Rul} {l:Lit} {s:aM} (hf:ay p b=true) (hl:jA p l=true) (h:refutes p (restrict b (negate l)) r=true) (hs:dN p s=true) (hin:ow b s p.acts.length):bM l s=true:=by
 cases e:bM l s with
 |true=>rfl
 |false=>
  have hfo:=mX hs
  have hn:=Db hl hfo
  rw [e] at hn
  have:=sO h hfo (qM (rQ hf) hin (LY hl).1 hn)
  rw [hs] at this
  cases this
end Go.Proofs.YtjfnojijdggfhaaGreat.Abs
namespace Go.Proofs.YtjfnojijdggfhaaGreat.Abs
open Go.Proofs
attribute [local irreducible] refutes
theorem vJ {f g:Nat→Int} {k:Nat}:∀{n:Nat},k < n→(∀j,j < n→f j≤g j)→f k+1≤g k→sumTo f n+1≤sumTo g n
 |0,h,_,_=>by omega
 |n+1,h,hle,hk=>by
  rw [sumTo,sumTo]
  by_cases e:k=n
  ·subst e
   have:=sumTo_le (f:=f) (g:=g) (n:=k) fun j hj=>hle j (by omega)
   omega
  ·have:=vJ (n:=n) (by omega) (fun j hj=>hle j (by omega)) hk
   have:=hle n (by omega)
   omega
theorem Md {f:Nat→Int} {c:Int}:∀{n:Nat},(∀j,j < n→f j≤c)→sumTo f n≤c*n
 |0,_=>by simp [sumTo]
 |n+1,h=>by
  rw [sumTo]
  have:=Md (f:=f) (c:=c) (n:=n) fun j hj=>h j (by omega)
  have:=h n (by omega)
  rw [Int.natCast_add,Int.mul_add]
  omega
theorem JH {f:Nat→Int}:∀{n:Nat},(∀j,j < n→1≤f j)→(n:Int)≤sumTo f n
 |0,_=>by simp [sumTo]
 |n+1,h=>by
  rw [sumTo]
  have:=JH (f:=f) (n:=n) fun j hj=>h j (by omega)
  have:=h n (by omega)
  omega
def kZ (b:Dom) (k:Nat):Int:=b.hi.getD k 0 - b.lo.getD k 0+((b.modes.getD k []).length:Nat)
theorem Sn {p:Proj} {b:Dom} {r:Rul} (hf:ay p b=true) (hin:qO p b) {k:Nat} (hk:k < p.acts.length) {l:Lit} (h:l∈iR p b r k):
  sumTo (kZ (restrict b l)) p.acts.length+1≤sumTo (kZ b) p.acts.length:=by
 have hok:=(xR hf hin hk h).1
 have hfit:=LX hok
 obtain⟨l1,l2,l3⟩:=(bN hf).2
 obtain⟨a,x,y,m,g⟩:=eP hf hk
 have e1:=getD_some (d:=0) g.lo
 have e2:=getD_some (d:=0) g.hi
 have e3:=getD_some (d:=[]) g.modes
 have hd:fq b (k:Int)=true:=by simp [fq];omega
 rw [tY g] at h
 unfold rO at h
 rw [List.mem_append,List.mem_append] at h
 rcases h with (h|h)|h
 ·unfold atLeast at h
  split at h
  ·rename_i hn
   obtain rfl:=List.mem_singleton.1 h
   have hr:restrict b ⟨1,(k:Int),goUp (ou p b r 2 k) y (y+1 - x).toNat x⟩= { b with lo:=b.lo.set k (max (b.lo.getD k 0) (goUp (ou p b r 2 k) y (y+1 - x).toNat x)) }:=by
    unfold restrict;dsimp only;rw [if_pos hd,if_pos rfl,lY hfit];rfl
   rw [hr]
   refine vJ hk (fun j hj=>?_) ?_
   ·unfold kZ
    dsimp only
    by_cases e:k=j
    ·subst e;rw [aZ (by omega)];omega
    ·rw [getD_set_ne e];omega
   ·unfold kZ
    dsimp only
    rw [aZ (by omega),e1]
    omega
  ·cases h
 ·unfold sN at h
  split at h
  ·rename_i hn
   obtain rfl:=List.mem_singleton.1 h
   have hr:restrict b ⟨2,(k:Int),xK (ou p b r 1 k) x (y+1 - x).toNat y⟩= { b with hi:=b.hi.set k (min (b.hi.getD k 0) (xK (ou p b r 1 k) x (y+1 - x).toNat y)) }:=by
    unfold restrict;dsimp only;rw [if_pos hd,if_neg (by decide),if_pos rfl,lY hfit];rfl
   rw [hr]
   refine vJ hk (fun j hj=>?_) ?_
   ·unfold kZ
    dsimp only
    by_cases e:k=j
    ·subst e;rw [aZ (by omega)];omega
    ·rw [getD_set_ne e];omega
   ·unfold kZ
    dsimp only
    rw [aZ (by omega),e2]
    omega
  ·cases h
 ·obtain⟨v,hv,rfl⟩:=List.mem_map.1 h
  have hvm:=(List.mem_filter.1 hv).1
  have hr:restrict b ⟨4,(k:Int),v⟩= { b with modes:=b.modes.set k ((b.modes.getD k []).filter fun n=>decide (n≠v)) }:=by
   unfold restrict;dsimp only;rw [if_pos hd,if_neg (by decide),if_neg (by decide),if_neg (by decide),if_pos rfl,lY hfit];rfl
  have hlen:(m.filter fun n=>decide (n≠v)).length+1≤m.length:=by
   have:∀m:List Int,v∈m→(m.filter fun n=>decide (n≠v)).length+1≤m.length:=by
    intro m
    induction m with
    |nil=>intro h;cases h
    |cons z m ih=>
     intro h
     rw [List.filter_cons]
     by_cases e:z=v
     ·rw [if_neg (by simp [e])]
      have:=List.length_filter_le (fun n=>decide (n≠v)) m
      rw [List.length_cons];omega
     ·rw [if_pos (by simp [e]),List.length_cons,List.length_cons]
      rcases List.mem_cons.1 h with h|h
      ·exact absurd h.symm e
      ·have:=ih h;omega
   exact this m hvm
  rw [hr]
  refine vJ hk (fun j hj=>?_) ?_
  ·unfold kZ
   dsimp only
   by_cases e:k=j
   ·subst e;rw [aZ (by omega),e3];omega
   ·rw [getD_set_ne e];omega
  ·unfold kZ
   dsimp only
   rw [aZ (by omega),e3]
   omega
theorem Ez {p:Proj} {b:Dom} (hf:ay p b=true) (he:aR b=false):(p.acts.length:Int)≤sumTo (kZ b) p.acts.length:=by
 refine JH fun j hj=>?_
 obtain⟨⟨⟨m0,hm0,_⟩,_⟩,hxy⟩:=jv hf he (dR.refl _ _) hj
 unfold kZ
 have:=List.length_pos_of_mem hm0
 omega
structure YC (p:Proj) (b:Dom) (s:Infer):Prop where
 opn:litValue b s.lit≠1
 down:sumTo (kZ (restrict b s.lit)) p.acts.length+1≤sumTo (kZ b) p.acts.length
 full:aR b=false
 keep:∀c,dN p c=true→ow b c p.acts.length→ow (restrict b s.lit) c p.acts.length
theorem zG {p:Proj} {b:Dom} {s:Infer} (hin:qO p b) (h:bL p b=some s):YC p b s:=by
 have hu:=(xL h).1
 have hf:=pK hu
 have he:aR b=false:=by
  simp only [usable,Bool.and_eq_true,Bool.not_eq_true'] at hu;exact hu.2
 unfold bL at h
 split at h
 ·cases h
 ·obtain⟨r,hr,h1⟩:=List.exists_of_findSome?_eq_some h
  unfold lN at h1
  obtain⟨a,ha,h2⟩:=List.exists_of_findSome?_eq_some h1
  obtain⟨k,rfl,hk⟩:=vD ha
  unfold vE at h2
  rw [Int.toNat_natCast] at h2
  obtain⟨l,hl,rfl⟩:=Option.map_eq_some_iff.1 h2
  have hm:l∈iR p b r k:=List.mem_of_mem_head? hl
  obtain⟨q1,q2⟩:=xR hf hin hk hm
  refine⟨QG hf hk hm,Sn hf hin hk hm,he,fun c hc hi=>?_⟩
  exact qM (rQ hf) hi (LX q1) (UC hf q1 q2 hc hi)
def replay (p:Proj):List Infer→Dom→Dom→Prop
 |[],b,x=>b=x
 |s::l,b,x=>bL p b=some s∧replay p l (restrict b s.lit) x
structure VZ (p:Proj) (b x:Dom) (said:List Infer):Prop where
 form:ay p x=true
 sub:dR x b p.acts.length
 rep:replay p said b x
 keep:∀c,dN p c=true→ow b c p.acts.length→ow x c p.acts.length
 few:(said.length:Int)≤if aR b=true then 0 else sumTo (kZ b) p.acts.length
section
attribute [local irreducible] bL restrict aR ay sumTo
theorem Sq (p:Proj) (b:Dom) (l:List Infer):jw p 0 b l=(b,l):=rfl
theorem Sr (p:Proj) (f:Nat) (b:Dom) (l:List Infer):jw p (f+1) b l=match bL p b with|none=>(b,l)|some s=>jw p f (restrict b s.lit) (l++[s]):=rfl
theorem FK {p:Proj} (hp:aL p=true):∀(f:Nat) (b:Dom) (l:List Infer),ay p b=true→qO p b→
  ∃said x,jw p f b l=(x,l++said)∧VZ p b x said∧(said.length=f∨bL p x=none)
 |0,b,l,hf,hin=>by
  refine⟨[],b,by rw [Sq,List.append_nil],⟨hf,dR.refl _ _,rfl,fun _ _ h=>h,?_⟩,.inl rfl⟩
  split
  ·exact Int.le_refl _
  ·rename_i he
   have:=Ez hf (by simpa using he)
   simp only [List.length_nil];omega
 |f+1,b,l,hf,hin=>by
  rw [Sr]
  cases h:bL p b with
  |none=>
   refine⟨[],b,by rw [List.append_nil],⟨hf,dR.refl _ _,rfl,fun _ _ h=>h,?_⟩,.inr h⟩
   split
   ·exact Int.le_refl _
   ·rename_i he
    have:=Ez hf (by simpa using he)
    simp only [List.length_nil];omega
  |some s=>
   have st:=zG hin h
   obtain⟨said,x,h1,h2,h3⟩:=FK hp f (restrict b s.lit) (l++[s]) (nO hf _) (hin.restrict hf _)
   refine⟨s::said,x,by dsimp only;rw [h1,List.append_assoc];rfl,⟨h2.form,h2.sub.trans (pO b _ (rQ hf)),⟨h,h2.rep⟩,fun c hc hi=>h2.keep c hc (st.keep c hc hi),?_⟩,?_⟩
   ·have h4:=h2.few
    have h5:=st.down
    have h6:=Ez hf st.full
    have h7:=jC hp
    rw [if_neg (by rw [st.full];decide),List.length_cons]
    split at h4<;>omega
   ·rcases h3 with h3|h3
    ·exact .inl (by rw [List.length_cons,h3])
    ·exact .inr h3
end
theorem Sv {p:Proj} {b:Dom} (hf:ay p b=true) (hin:qO p b) (hd:p.dead≤6) (h2:∀k,k < p.acts.length→(aV p k).modes.length≤2) (hn:p.acts.length≤2):sumTo (kZ b) p.acts.length≤20:=by
 have hp:=(bN hf).1
 have hh:=jC hp
 have:sumTo (kZ b) p.acts.length≤10*(p.acts.length:Nat):=by
  refine Md fun j hj=>?_
  obtain⟨a,x,y,m,g⟩:=eP hf hj
  obtain⟨i1,i2,i3⟩:=mE hp hj
  obtain⟨j1,j2,j3⟩:=hin j hj
  have hm:=Jz g
  have e3:=getD_some (d:=[]) g.modes
  unfold kZ
  rw [e3]
  omega
 omega
def sP (p:Proj) (b:Dom) (m:Nat):Int:=((gU p m).filter (contains b)).length
theorem contains_iff {p:Proj} {b:Dom} {s:aM} (hf:ay p b=true) (hs:dN p s=true):contains b s=true↔ow b s p.acts.length:=by
 obtain⟨l1,l2,l3⟩:=(bN hf).2
 obtain⟨_,s1,s2⟩:=jQ (mX hs)
 rw [QH,s1]
 constructor
 ·exact fun h=>h.2.2.2.2
 ·exact fun h=>⟨by omega,by omega,by omega,by omega,h⟩
theorem UD {b x:Dom} {s:aM} {n:Nat} (hs:dR x b n) (h:ow x s n):ow b s n:=fun k hk=>by
 obtain⟨h1,h2,h3⟩:=hs k hk
 obtain⟨g1,g2,g3⟩:=h k hk
 exact⟨by omega,by omega,h3 _ g3⟩
theorem JI {p:Proj} {b x:Dom} {said:List Infer} (hf:ay p b=true) (h:VZ p b x said) (m:Nat):sP p x m=sP p b m:=by
 unfold sP
 congr 2
 refine List.filter_congr fun s hs=>?_
 have ho:=vK s hs
 rw [Bool.eq_iff_iff,contains_iff h.form ho,contains_iff hf ho]
 exact⟨UD h.sub,h.keep s ho⟩
theorem Sw {p:Proj} {x:Dom} {r:Rul} (h:refutes p x r=true) (m:Nat):sP p x m=0:=by
 unfold sP
 rw [List.filter_eq_nil_iff.2,List.length_nil]
 ·rfl
 intro s hs
 have ho:=vK s hs
 rw [contains_iff (vB h) ho]
 intro hi
 have:=sO h (mX ho) hi
 rw [ho] at this
 cases this
theorem Sy {p:Proj} {x b:Dom} (hx:ay p x=true) (hb:ay p b=true) (h:dR x b p.acts.length):kP x b=true:=by
 obtain⟨l1,l2,l3⟩:=(bN hx).2
 obtain⟨k1,k2,k3⟩:=(bN hb).2
 unfold kP
 rw [Bool.and_eq_true,aX]
 refine⟨?_,fun i hi=>?_⟩
 ·unfold tH wZ
  rw [List.all_eq_true]
  intro n hn
  simp only [List.mem_cons,List.not_mem_nil,or_false] at hn
  rw [decide_eq_true_eq]
  omega
 have hk:i < p.acts.length:=by omega
 obtain⟨a,u,v,m,g⟩:=eP hx hk
 obtain⟨a',u',v',m',g'⟩:=eP hb hk
 obtain⟨h1,h2,h3⟩:=h i hk
 rw [getD_some g.lo,getD_some g'.lo] at h1
 rw [getD_some g.hi,getD_some g'.hi] at h2
 rw [getD_some g.modes,getD_some g'.modes] at h3
 unfold PD
 simp only [g.lo,g'.lo,g.hi,g'.hi,g.modes,g'.modes,subset]
 simp
 exact⟨by omega,by omega,h3⟩
end Go.Proofs.YtjfnojijdggfhaaGreat.Abs
