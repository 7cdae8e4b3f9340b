/- Explanations of refutations: false in the domain, and none of their literals can be left out. -/
import Derived.Test.YtgkfifiobmklcaaGreatBt
import Derived.Test.YtgkfifiobmklcaaGreatC33
import Derived.Test.YtgkfifiobmklcaaGreatC35
import Derived.Test.YtgkfifiobmklcaaGreatCz
set_option linter.all false
set_option maxRecDepth 20000
set_option maxHeartbeats 0
namespace Go.Proofs.YtgkfifiobmklcaaGreat.Abs
open Go.Proofs
attribute [local irreducible] refutes
theorem rU {n:Nat} {a b0:Dom} (h0:pK b0 n):∀(L:List Lit) (b:Dom),pK b n→bn a b n→(∀x∈L,bn a (restrict b0 (negate x)) n)→bn a (against b L) n
 |[],b,_,h,_=>h
 |x::L,b,hb,h,hx=>rU h0 L (restrict b (negate x)) (fV hb _) (kJ hb h0 h (hx x (List.mem_cons_self ..))) fun y hy=>hx y (List.mem_cons_of_mem _ hy)
theorem Vg {p:Proj} (hp:aG p=true) {L L':List Lit} (h:∀x∈L,x∈L'):bn (fq p L') (fq p L) p.acts.length:=
 rU (jo hp) L (aW p) (jo hp) (nX L' _ (jo hp)).2 fun x hx=>pG L' _ (jo hp) x (h x hx)
theorem RZ {p:Proj} {r:Rul} {L L':List Lit} (h:∀x∈L,x∈L') (hr:refutes p (fq p L) r=true):refutes p (fq p L') r=true:=by
 have hp:=(aT (FL hr)).1
 exact pF (uS hp L') (Vg hp h) hr
theorem wQ {o:List Lit} {x y:Lit}:y∈nG o x↔y∈o∧y≠x:=by
 unfold nG
 rw [List.mem_filter]
 have:∀b:Bool,(!b)=true↔¬ b=true:=fun b=>by cases b<;>simp
 rw [this,iI]
theorem Vh {p:Proj} {r:Rul} {keeps:Lit→Bool} {o:List Lit} {x y:Lit} (h:y∈eY p r keeps o x):y∈o:=by
 unfold eY at h
 split at h
 ·exact h
 ·split at h
  ·exact (wQ.1 h).1
  ·exact h
theorem Il {p:Proj} {r:Rul} {keeps:Lit→Bool}:∀(xs o:List Lit),(∀y∈xs.foldl (eY p r keeps) o,y∈o)∧
  ∀x∈xs,x∈xs.foldl (eY p r keeps) o→keeps x=false→refutes p (fq p (nG (xs.foldl (eY p r keeps) o) x)) r=false
 |[],o=>⟨fun _ h=>h,fun x hx=>by cases hx⟩
 |x::xs,o=>by
  rw [List.foldl_cons]
  obtain⟨h1,h2⟩:=Il xs (eY p r keeps o x) (p:=p) (r:=r) (keeps:=keeps)
  refine⟨fun y hy=>Vh (h1 y hy),fun y hy hm hk=>?_⟩
  rcases List.mem_cons.1 hy with rfl|hy
  ·have hm':=h1 y hm
   generalize hres:xs.foldl (eY p r keeps) (eY p r keeps o y)=res at h1 hm
   have hin:∀z∈res,z∈o:=fun z hz=>Vh (h1 z hz)
   unfold eY at hm'
   rw [hk,if_neg (by decide)] at hm'
   by_cases hr:refutes p (fq p (nG o y)) r=true
   ·rw [if_pos hr] at hm'
    exact absurd rfl (wQ.1 hm').2
   ·cases e:refutes p (fq p (nG res y)) r
    ·rfl
    ·exact absurd (RZ (fun z hz=>wQ.2 ⟨hin z (wQ.1 hz).1,(wQ.1 hz).2⟩) e) hr
  ·exact h2 y hy hm hk
theorem WL {p:Proj} {b:Dom} {r:Rul} {x:Lit} (h:x∈explain p b r):x∈nN p b:=by
 unfold explain at h
 split at h
 ·obtain⟨h1,_⟩:=Il (p:=p) (r:=r) (keeps:=fun _=>false) (bH (nN p b)) (bH (nN p b))
  exact ((eB (nN p b)).2 x).1 (h1 x h)
 ·cases h
theorem WJ {b:Dom} {l:List Lit} (h:∀x∈l,litValue b x= -1):status b l=(-1,bV):=by
 have:∀(l:List Lit),(∀x∈l,litValue b x= -1)→aO b l 0 bV=(-1,bV):=by
  intro l
  induction l with
  |nil=>intro _;rfl
  |cons x l ih=>
   intro h
   have hx:=h x (List.mem_cons_self ..)
   rw [aO,if_neg (by rw [hx];decide),if_neg (by rw [hx];decide)]
   exact ih fun y hy=>h y (List.mem_cons_of_mem _ hy)
 exact this l h
theorem Ns {p:Proj} {b:Dom} (hf:ak p b=true) (he:aL b=false):∀x∈nN p b,litValue b x= -1:=by
 intro x hx
 have hp:=(aT hf).1
 obtain⟨l1,l2,l3⟩:=(aT hf).2
 obtain⟨l,hl,rfl⟩:=List.mem_map.1 hx
 unfold jK at hl
 rw [if_pos hf] at hl
 have key:∀n,n≤p.acts.length→l∈dB p b n→litValue b (negate l)= -1:=by
  intro n
  induction n with
  |zero=>intro _ h;simp [dB] at h
  |succ k ih=>
   intro hn h
   rw [dB,List.mem_append] at h
   rcases h with h|h
   ·exact ih (by omega) h
   ·have hk:k < p.acts.length:=by omega
    obtain⟨a,x,y,m,g⟩:=dL hf hk
    obtain⟨⟨⟨m0,hm0,_⟩,_⟩,hxy⟩:=gU hf he (bn.refl _ _) hk
    have e1:=getD_some (d:=0) g.lo
    have e2:=getD_some (d:=0) g.hi
    have e3:=getD_some (d:=[]) g.modes
    rw [e1,e2] at hxy
    rw [e3] at hm0
    have hd:dO b (k:Int)=true:=by simp [dO];omega
    have hb1:=g.lob
    have hb2:=g.hib
    rw [oP g] at h
    simp only [List.mem_append] at h
    rcases h with (h|h)|h
    ·unfold uM at h
     split at h
     ·obtain rfl:=List.mem_singleton.1 h
      have:negate ⟨1,(k:Int),x⟩=⟨2,k,x - 1⟩:=by unfold negate;rw [if_pos (within_iff.2 (by dsimp only;omega))];rfl
      rw [this]
      unfold litValue
      dsimp only
      rw [if_pos hd,if_neg (by decide),if_pos rfl,Int.toNat_natCast,e1,e2,valueOf,if_neg (by simp;omega),if_pos (by simp;omega)]
     ·cases h
    ·unfold uN at h
     split at h
     ·obtain rfl:=List.mem_singleton.1 h
      have:negate ⟨2,(k:Int),y⟩=⟨1,k,y+1⟩:=by unfold negate;rw [if_pos (within_iff.2 (by dsimp only;omega))];rfl
      rw [this]
      unfold litValue
      dsimp only
      rw [if_pos hd,if_pos rfl,Int.toNat_natCast,e1,e2,valueOf,if_neg (by simp;omega),if_pos (by simp;omega)]
     ·cases h
    ·simp only [iG,List.mem_map] at h
     obtain⟨v,hv,rfl⟩:=h
     unfold fI at hv
     rw [rX] at hv
     have hnm:=(List.mem_filter.1 hv).2
     obtain⟨v0,v1⟩:=qy (List.mem_filter.1 hv).1
     have few:=iA hp hk
     have ea:bg p k=a:=by unfold bg;exact getD_some g.act
     rw [ea] at few
     have:negate ⟨4,(k:Int),v⟩=⟨3,k,v⟩:=by unfold negate;rw [if_pos (within_iff.2 (by dsimp only;omega))];rfl
     rw [this]
     unfold litValue
     dsimp only
     have hnm':v∉m:=by simpa using hnm
     rw [if_pos hd,if_neg (by decide),if_neg (by decide),if_pos rfl,Int.toNat_natCast,e3,valueOf,if_neg (by
      simp only [decide_eq_true_eq]
      intro e
      rw [e] at hnm'
      exact hnm' (List.mem_singleton.2 rfl)),if_pos (by simpa using hnm')]
 exact key _ (Nat.le_refl _) hl
theorem JC {p:Proj} {r:Rul} {keeps:Lit→Bool}:∀(xs o:List Lit),o.Pairwise eH→(xs.foldl (eY p r keeps) o).Pairwise eH
 |[],_,h=>h
 |x::xs,o,h=>by
  rw [List.foldl_cons]
  refine JC xs _ ?_
  unfold eY
  split
  ·exact h
  ·split
   ·exact h.sublist List.filter_sublist
   ·exact h
end Go.Proofs.YtgkfifiobmklcaaGreat.Abs
namespace Go.Proofs.YtgkfifiobmklcaaGreat.Abs
open Go.Proofs
attribute [local irreducible] refutes
theorem JB {p:Proj} {b:Dom} {r:Rul} (hf:ak p b=true) {k:Nat} (hk:k < p.acts.length) {l:Lit} (h:l∈mW p b r k):litValue b l≠1:=by
 obtain⟨l1,l2,l3⟩:=(aT hf).2
 obtain⟨a,x,y,m,g⟩:=dL hf hk
 have e1:=getD_some (d:=0) g.lo
 have e2:=getD_some (d:=0) g.hi
 have e3:=getD_some (d:=[]) g.modes
 have hd:dO b (k:Int)=true:=by simp [dO];omega
 have V:∀(u v:Bool),u=false→valueOf u v≠1:=by
  rintro u v rfl
  unfold valueOf
  rw [if_neg (by decide)]
  split<;>decide
 rw [wK g] at h
 unfold uP at h
 rw [List.mem_append,List.mem_append] at h
 rcases h with (h|h)|h
 ·unfold atLeast at h
  split at h
  ·rename_i hn
   obtain rfl:=List.mem_singleton.1 h
   unfold litValue
   dsimp only
   rw [if_pos hd,if_pos rfl,Int.toNat_natCast,e1]
   exact V _ _ (decide_eq_false (by omega))
  ·cases h
 ·unfold vN at h
  split at h
  ·rename_i hn
   obtain rfl:=List.mem_singleton.1 h
   unfold litValue
   dsimp only
   rw [if_pos hd,if_neg (by decide),if_pos rfl,Int.toNat_natCast,e2]
   exact V _ _ (decide_eq_false (by omega))
  ·cases h
 ·obtain⟨v,hv,rfl⟩:=List.mem_map.1 h
  obtain⟨hv,hr⟩:=List.mem_filter.1 hv
  unfold litValue
  dsimp only
  rw [if_pos hd,if_neg (by decide),if_neg (by decide),if_neg (by decide),if_pos rfl,Int.toNat_natCast,e3]
  exact V _ _ (by simpa using hv)
theorem yB {b:Dom} {l:Lit} (hl:litValue b l≠1):∀(w:List Lit) (n:Int) (x:Lit),(∀y∈w,y=l∨litValue b y= -1)→w.Pairwise (· ≠ ·)→(n=0∨(n=1∧x=l∧l∉w))→
  (aO b w n x).1≠1∧((aO b w n x).1=0→(aO b w n x).2=l)
 |[],n,x,_,_,hn=>by
  rcases hn with rfl|⟨rfl,rfl,_⟩
  ·exact⟨show (-1:Int)≠1 by decide,fun h=>absurd (show (-1:Int)=0 from h) (by decide)⟩
  ·exact⟨show (0:Int)≠1 by decide,fun _=>rfl⟩
 |y::w,n,x,hw,hp,hn=>by
  rw [List.pairwise_cons] at hp
  have hw':∀z∈w,z=l∨litValue b z= -1:=fun z hz=>hw z (List.mem_cons_of_mem _ hz)
  have hy1:litValue b y≠1:=by
   rcases hw y (List.mem_cons_self ..) with rfl|h
   ·exact hl
   ·rw [h];decide
  rw [aO,if_neg hy1]
  split
  ·rename_i h0
   have hyl:y=l:=by
    rcases hw y (List.mem_cons_self ..) with h|h
    ·exact h
    ·rw [h] at h0;exact absurd h0 (by decide)
   subst hyl
   rcases hn with rfl|⟨_,_,hm⟩
   ·exact yB hl w (0+1) y hw' hp.2 (.inr ⟨rfl,rfl,fun h=>hp.1 y h rfl⟩)
   ·exact absurd (List.mem_cons_self ..) hm
  ·refine yB hl w n x hw' hp.2 ?_
   rcases hn with h|⟨h1,h2,h3⟩
   ·exact .inl h
   ·exact .inr ⟨h1,h2,fun h=>h3 (List.mem_cons_of_mem _ h)⟩
theorem Vd {w:List Lit} (hs:w.Pairwise eH):w.Pairwise (· ≠ ·):=hs.imp fun h e=>by subst e;exact absurd h (by rw [← pV];simp [ku,LB,orI])
structure afg (p:Proj) (b:Dom) (r:Rul) (x:Infer):Prop where
 exp:dW p b r x.lit=(x.clause,true)
 fol:follows p r x.clause=true
 opn:litValue b x.lit≠1
 st1:(status b x.clause).1≠1
 st0:(status b x.clause).1=0→(status b x.clause).2=x.lit
 all:∀s,dF p s=true→bN x.clause s=true
 one:∀s,dF p s=true→jZ b s p.acts.length→bR x.lit s=true
theorem YL {p:Proj} {b:Dom} {r:Rul} {l:Lit} {s:aK} (hf:ak p b=true) (hl:bJ p l=true) (h:refutes p (restrict b (negate l)) r=true) (hs:dF p s=true) (hin:jZ b s p.acts.length):bR l s=true:=by
 cases e:bR l s with
 |true=>rfl
 |false=>
  have hfo:=pq hs
  have hn:=FR hl hfo
  rw [e] at hn
  have:=CG h hfo (oZ (jq hf) hin (PS hl).1 hn)
  rw [hs] at this
  cases this
end Go.Proofs.YtgkfifiobmklcaaGreat.Abs
namespace Go.Proofs.YtgkfifiobmklcaaGreat.Abs
open Go.Proofs Go.RowKit
attribute [local irreducible] bq ak within
end Go.Proofs.YtgkfifiobmklcaaGreat.Abs
namespace Go.Proofs.YtgkfifiobmklcaaGreat.Abs
open Go.Proofs
attribute [local irreducible] refutes
theorem yC {f g:Nat→Int} {k:Nat}:∀{n:Nat},k < n→(∀j,j < n→f j≤g j)→f k+1≤g k→sumTo f n+1≤sumTo g n
 |0,h,_,_=>by omega
 |n+1,h,hle,hk=>by
  rw [sumTo,sumTo]
  by_cases e:k=n
  ·subst e
   have:=sumTo_le (f:=f) (g:=g) (n:=k) fun j hj=>hle j (by omega)
   omega
  ·have:=yC (n:=n) (by omega) (fun j hj=>hle j (by omega)) hk
   have:=hle n (by omega)
   omega
theorem Qd {f:Nat→Int} {c:Int}:∀{n:Nat},(∀j,j < n→f j≤c)→sumTo f n≤c*n
 |0,_=>by simp [sumTo]
 |n+1,h=>by
  rw [sumTo]
  have:=Qd (f:=f) (c:=c) (n:=n) fun j hj=>h j (by omega)
  have:=h n (by omega)
  rw [Int.natCast_add,Int.mul_add]
  omega
theorem Nv {f:Nat→Int}:∀{n:Nat},(∀j,j < n→1≤f j)→(n:Int)≤sumTo f n
 |0,_=>by simp [sumTo]
 |n+1,h=>by
  rw [sumTo]
  have:=Nv (f:=f) (n:=n) fun j hj=>h j (by omega)
  have:=h n (by omega)
  omega
def kK (b:Dom) (k:Nat):Int:=b.hi.getD k 0 - b.lo.getD k 0+((b.modes.getD k []).length:Nat)
theorem WO {p:Proj} {b:Dom} {r:Rul} (hf:ak p b=true) (hin:vP p b) {k:Nat} (hk:k < p.acts.length) {l:Lit} (h:l∈mW p b r k):
  sumTo (kK (restrict b l)) p.acts.length+1≤sumTo (kK b) p.acts.length:=by
 have hok:=(tZ hf hin hk h).1
 have hfit:=Ij hok
 obtain⟨l1,l2,l3⟩:=(aT hf).2
 obtain⟨a,x,y,m,g⟩:=dL hf hk
 have e1:=getD_some (d:=0) g.lo
 have e2:=getD_some (d:=0) g.hi
 have e3:=getD_some (d:=[]) g.modes
 have hd:dO b (k:Int)=true:=by simp [dO];omega
 rw [wK g] at h
 unfold uP at h
 rw [List.mem_append,List.mem_append] at h
 rcases h with (h|h)|h
 ·unfold atLeast at h
  split at h
  ·rename_i hn
   obtain rfl:=List.mem_singleton.1 h
   have hr:restrict b ⟨1,(k:Int),goUp (qN p b r 2 k) y (y+1 - x).toNat x⟩= { b with lo:=b.lo.set k (max (b.lo.getD k 0) (goUp (qN p b r 2 k) y (y+1 - x).toNat x)) }:=by
    unfold restrict;dsimp only;rw [if_pos hd,if_pos rfl,gT hfit];rfl
   rw [hr]
   refine yC hk (fun j hj=>?_) ?_
   ·unfold kK
    dsimp only
    by_cases e:k=j
    ·subst e;rw [aR (by omega)];omega
    ·rw [getD_set_ne e];omega
   ·unfold kK
    dsimp only
    rw [aR (by omega),e1]
    omega
  ·cases h
 ·unfold vN at h
  split at h
  ·rename_i hn
   obtain rfl:=List.mem_singleton.1 h
   have hr:restrict b ⟨2,(k:Int),Ad (qN p b r 1 k) x (y+1 - x).toNat y⟩= { b with hi:=b.hi.set k (min (b.hi.getD k 0) (Ad (qN p b r 1 k) x (y+1 - x).toNat y)) }:=by
    unfold restrict;dsimp only;rw [if_pos hd,if_neg (by decide),if_pos rfl,gT hfit];rfl
   rw [hr]
   refine yC hk (fun j hj=>?_) ?_
   ·unfold kK
    dsimp only
    by_cases e:k=j
    ·subst e;rw [aR (by omega)];omega
    ·rw [getD_set_ne e];omega
   ·unfold kK
    dsimp only
    rw [aR (by omega),e2]
    omega
  ·cases h
 ·obtain⟨v,hv,rfl⟩:=List.mem_map.1 h
  have hvm:=(List.mem_filter.1 hv).1
  have hr:restrict b ⟨4,(k:Int),v⟩= { b with modes:=b.modes.set k ((b.modes.getD k []).filter fun n=>decide (n≠v)) }:=by
   unfold restrict;dsimp only;rw [if_pos hd,if_neg (by decide),if_neg (by decide),if_neg (by decide),if_pos rfl,gT hfit];rfl
  have hlen:(m.filter fun n=>decide (n≠v)).length+1≤m.length:=by
   have:∀m:List Int,v∈m→(m.filter fun n=>decide (n≠v)).length+1≤m.length:=by
    intro m
    induction m with
    |nil=>intro h;cases h
    |cons z m ih=>
     intro h
     rw [List.filter_cons]
     by_cases e:z=v
     ·rw [if_neg (by simp [e])]
      have:=List.length_filter_le (fun n=>decide (n≠v)) m
      rw [List.length_cons];omega
     ·rw [if_pos (by simp [e]),List.length_cons,List.length_cons]
      rcases List.mem_cons.1 h with h|h
      ·exact absurd h.symm e
      ·have:=ih h;omega
   exact this m hvm
  rw [hr]
  refine yC hk (fun j hj=>?_) ?_
  ·unfold kK
   dsimp only
   by_cases e:k=j
   ·subst e;rw [aR (by omega),e3];omega
   ·rw [getD_set_ne e];omega
  ·unfold kK
   dsimp only
   rw [aR (by omega),e3]
   omega
theorem YI {p:Proj} {b:Dom} (hf:ak p b=true) (he:aL b=false):(p.acts.length:Int)≤sumTo (kK b) p.acts.length:=by
 refine Nv fun j hj=>?_
 obtain⟨⟨⟨m0,hm0,_⟩,_⟩,hxy⟩:=gU hf he (bn.refl _ _) hj
 unfold kK
 have:=List.length_pos_of_mem hm0
 omega
structure acX (p:Proj) (b:Dom) (s:Infer):Prop where
 opn:litValue b s.lit≠1
 down:sumTo (kK (restrict b s.lit)) p.acts.length+1≤sumTo (kK b) p.acts.length
 full:aL b=false
 keep:∀c,dF p c=true→jZ b c p.acts.length→jZ (restrict b s.lit) c p.acts.length
theorem Ov {p:Proj} {b:Dom} {s:Infer} (hin:vP p b) (h:bq p b=some s):acX p b s:=by
 have hu:=(tT h).1
 have hf:=xZ hu
 have he:aL b=false:=by
  simp only [usable,Bool.and_eq_true,Bool.not_eq_true'] at hu;exact hu.2
 unfold bq at h
 split at h
 ·cases h
 ·obtain⟨r,hr,h1⟩:=List.exists_of_findSome?_eq_some h
  unfold uQ at h1
  obtain⟨a,ha,h2⟩:=List.exists_of_findSome?_eq_some h1
  obtain⟨k,rfl,hk⟩:=xY ha
  unfold Bg at h2
  rw [Int.toNat_natCast] at h2
  obtain⟨l,hl,rfl⟩:=Option.map_eq_some_iff.1 h2
  have hm:l∈mW p b r k:=List.mem_of_mem_head? hl
  obtain⟨q1,q2⟩:=tZ hf hin hk hm
  refine⟨JB hf hk hm,WO hf hin hk hm,he,fun c hc hi=>?_⟩
  exact oZ (jq hf) hi (Ij q1) (YL hf q1 q2 hc hi)
def replay (p:Proj):List Infer→Dom→Dom→Prop
 |[],b,x=>b=x
 |s::l,b,x=>bq p b=some s∧replay p l (restrict b s.lit) x
structure afh (p:Proj) (b x:Dom) (said:List Infer):Prop where
 form:ak p x=true
 sub:bn x b p.acts.length
 rep:replay p said b x
 keep:∀c,dF p c=true→jZ b c p.acts.length→jZ x c p.acts.length
 few:(said.length:Int)≤if aL b=true then 0 else sumTo (kK b) p.acts.length
section
attribute [local irreducible] bq restrict aL ak sumTo
end
theorem WM {p:Proj} {b:Dom} (hf:ak p b=true) (hin:vP p b) (hd:p.dead≤6) (h2:∀k,k < p.acts.length→(bg p k).modes.length≤2) (hn:p.acts.length≤2):sumTo (kK b) p.acts.length≤20:=by
 have hp:=(aT hf).1
 have hh:=kg hp
 have:sumTo (kK b) p.acts.length≤10*(p.acts.length:Nat):=by
  refine Qd fun j hj=>?_
  obtain⟨a,x,y,m,g⟩:=dL hf hj
  obtain⟨i1,i2,i3⟩:=nY hp hj
  obtain⟨j1,j2,j3⟩:=hin j hj
  have hm:=MZ g
  have e3:=getD_some (d:=[]) g.modes
  unfold kK
  rw [e3]
  omega
 omega
def DU (p:Proj) (b:Dom) (m:Nat):Int:=((jW p m).filter (contains b)).length
theorem contains_iff {p:Proj} {b:Dom} {s:aK} (hf:ak p b=true) (hs:dF p s=true):contains b s=true↔jZ b s p.acts.length:=by
 obtain⟨l1,l2,l3⟩:=(aT hf).2
 obtain⟨_,s1,s2⟩:=jC (pq hs)
 rw [Vi,s1]
 constructor
 ·exact fun h=>h.2.2.2.2
 ·exact fun h=>⟨by omega,by omega,by omega,by omega,h⟩
theorem YK {b x:Dom} {s:aK} {n:Nat} (hs:bn x b n) (h:jZ x s n):jZ b s n:=fun k hk=>by
 obtain⟨h1,h2,h3⟩:=hs k hk
 obtain⟨g1,g2,g3⟩:=h k hk
 exact⟨by omega,by omega,h3 _ g3⟩
theorem DT {p:Proj} {x b:Dom} (hx:ak p x=true) (hb:ak p b=true) (h:bn x b p.acts.length):jS x b=true:=by
 obtain⟨l1,l2,l3⟩:=(aT hx).2
 obtain⟨k1,k2,k3⟩:=(aT hb).2
 unfold jS
 rw [Bool.and_eq_true,bL]
 refine⟨?_,fun i hi=>?_⟩
 ·unfold wB zM
  rw [List.all_eq_true]
  intro n hn
  simp only [List.mem_cons,List.not_mem_nil,or_false] at hn
  rw [decide_eq_true_eq]
  omega
 have hk:i < p.acts.length:=by omega
 obtain⟨a,u,v,m,g⟩:=dL hx hk
 obtain⟨a',u',v',m',g'⟩:=dL hb hk
 obtain⟨h1,h2,h3⟩:=h i hk
 rw [getD_some g.lo,getD_some g'.lo] at h1
 rw [getD_some g.hi,getD_some g'.hi] at h2
 rw [getD_some g.modes,getD_some g'.modes] at h3
 unfold TJ
 simp only [g.lo,g'.lo,g.hi,g'.hi,g.modes,g'.modes,subset]
 simp
 exact⟨by omega,by omega,h3⟩
end Go.Proofs.YtgkfifiobmklcaaGreat.Abs
