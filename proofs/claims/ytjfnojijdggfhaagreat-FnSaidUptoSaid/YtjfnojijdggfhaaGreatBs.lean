/- Explanations of refutations: false in the domain, and none of their literals can be left out. -/
import Derived.Test.YtjfnojijdggfhaaGreatBt
import Derived.Test.YtjfnojijdggfhaaGreatC33
import Derived.Test.YtjfnojijdggfhaaGreatC40
import Derived.Test.YtjfnojijdggfhaaGreatCz
set_option linter.all false
set_option maxRecDepth 20000
set_option maxHeartbeats 0
namespace Go.Proofs.YtjfnojijdggfhaaGreat.Abs
open Go.Proofs
attribute [local irreducible] refutes
theorem Bn {n:Nat} {a b0:Dom} (h0:xw b0 n):∀(L:List Lit) (b:Dom),xw b n→eG a b n→(∀x∈L,eG a (restrict b0 (negate x)) n)→eG a (against b L) n
 |[],b,_,h,_=>h
 |x::L,b,hb,h,hx=>Bn h0 L (restrict b (negate x)) (je hb _) (um hb h0 h (hx x (List.mem_cons_self ..))) fun y hy=>hx y (List.mem_cons_of_mem _ hy)
theorem OM {p:Proj} (hp:aK p=true) {L L':List Lit} (h:∀x∈L,x∈L'):eG (fA p L') (fA p L) p.acts.length:=
 Bn (kS hp) L (aV p) (kS hp) (nO L' _ (kS hp)).2 fun x hx=>oG L' _ (kS hp) x (h x hx)
theorem Mk {p:Proj} {r:Rul} {L L':List Lit} (h:∀x∈L,x∈L') (hr:refutes p (fA p L) r=true):refutes p (fA p L') r=true:=by
 have hp:=(bU (LZ hr)).1
 exact Bf (Eb hp L') (OM hp h) hr
theorem sF {o:List Lit} {x y:Lit}:y∈kQ o x↔y∈o∧y≠x:=by
 unfold kQ
 rw [List.mem_filter]
 have:∀b:Bool,(!b)=true↔¬ b=true:=fun b=>by cases b<;>simp
 rw [this,jK]
theorem OO {p:Proj} {r:Rul} {keeps:Lit→Bool} {o:List Lit} {x y:Lit} (h:y∈dP p r keeps o x):y∈o:=by
 unfold dP at h
 split at h
 ·exact h
 ·split at h
  ·exact (sF.1 h).1
  ·exact h
theorem Ko {p:Proj} {r:Rul} {keeps:Lit→Bool}:∀(xs o:List Lit),(∀y∈xs.foldl (dP p r keeps) o,y∈o)∧
  ∀x∈xs,x∈xs.foldl (dP p r keeps) o→keeps x=false→refutes p (fA p (kQ (xs.foldl (dP p r keeps) o) x)) r=false
 |[],o=>⟨fun _ h=>h,fun x hx=>by cases hx⟩
 |x::xs,o=>by
  rw [List.foldl_cons]
  obtain⟨h1,h2⟩:=Ko xs (dP p r keeps o x) (p:=p) (r:=r) (keeps:=keeps)
  refine⟨fun y hy=>OO (h1 y hy),fun y hy hm hk=>?_⟩
  rcases List.mem_cons.1 hy with rfl|hy
  ·have hm':=h1 y hm
   generalize hres:xs.foldl (dP p r keeps) (dP p r keeps o y)=res at h1 hm
   have hin:∀z∈res,z∈o:=fun z hz=>OO (h1 z hz)
   unfold dP at hm'
   rw [hk,if_neg (by decide)] at hm'
   by_cases hr:refutes p (fA p (kQ o y)) r=true
   ·rw [if_pos hr] at hm'
    exact absurd rfl (sF.1 hm').2
   ·cases e:refutes p (fA p (kQ res y)) r
    ·rfl
    ·exact absurd (Mk (fun z hz=>sF.2 ⟨hin z (sF.1 hz).1,(sF.1 hz).2⟩) e) hr
  ·exact h2 y hy hm hk
theorem Qq {p:Proj} {b:Dom} (hf:aA p b=true) (he:aS b=false):∀x∈qb p b,litValue b x= -1:=by
 intro x hx
 have hp:=(bU hf).1
 obtain⟨l1,l2,l3⟩:=(bU hf).2
 obtain⟨l,hl,rfl⟩:=List.mem_map.1 hx
 unfold iJ at hl
 rw [if_pos hf] at hl
 have key:∀n,n≤p.acts.length→l∈bJ p b n→litValue b (negate l)= -1:=by
  intro n
  induction n with
  |zero=>intro _ h;simp [bJ] at h
  |succ k ih=>
   intro hn h
   rw [bJ,List.mem_append] at h
   rcases h with h|h
   ·exact ih (by omega) h
   ·have hk:k < p.acts.length:=by omega
    obtain⟨a,x,y,m,g⟩:=fF hf hk
    obtain⟨⟨⟨m0,hm0,_⟩,_⟩,hxy⟩:=jy hf he (eG.refl _ _) hk
    have e1:=getD_some (d:=0) g.lo
    have e2:=getD_some (d:=0) g.hi
    have e3:=getD_some (d:=[]) g.modes
    rw [e1,e2] at hxy
    rw [e3] at hm0
    have hd:fu b (k:Int)=true:=by simp [fu];omega
    have hb1:=g.lob
    have hb2:=g.hib
    rw [mg g] at h
    simp only [List.mem_append] at h
    rcases h with (h|h)|h
    ·unfold qM at h
     split at h
     ·obtain rfl:=List.mem_singleton.1 h
      have:negate ⟨1,(k:Int),x⟩=⟨2,k,x - 1⟩:=by unfold negate;rw [if_pos (within_iff.2 (by dsimp only;omega))];rfl
      rw [this]
      unfold litValue
      dsimp only
      rw [if_pos hd,if_neg (by decide),if_pos rfl,Int.toNat_natCast,e1,e2,valueOf,if_neg (by simp;omega),if_pos (by simp;omega)]
     ·cases h
    ·unfold qN at h
     split at h
     ·obtain rfl:=List.mem_singleton.1 h
      have:negate ⟨2,(k:Int),y⟩=⟨1,k,y+1⟩:=by unfold negate;rw [if_pos (within_iff.2 (by dsimp only;omega))];rfl
      rw [this]
      unfold litValue
      dsimp only
      rw [if_pos hd,if_pos rfl,Int.toNat_natCast,e1,e2,valueOf,if_neg (by simp;omega),if_pos (by simp;omega)]
     ·cases h
    ·simp only [fQ,List.mem_map] at h
     obtain⟨v,hv,rfl⟩:=h
     unfold dY at hv
     rw [oL] at hv
     have hnm:=(List.mem_filter.1 hv).2
     obtain⟨v0,v1⟩:=mX (List.mem_filter.1 hv).1
     have few:=iC hp hk
     have ea:aT p k=a:=by unfold aT;exact getD_some g.act
     rw [ea] at few
     have:negate ⟨4,(k:Int),v⟩=⟨3,k,v⟩:=by unfold negate;rw [if_pos (within_iff.2 (by dsimp only;omega))];rfl
     rw [this]
     unfold litValue
     dsimp only
     have hnm':v∉m:=by simpa using hnm
     rw [if_pos hd,if_neg (by decide),if_neg (by decide),if_pos rfl,Int.toNat_natCast,e3,valueOf,if_neg (by
      simp only [decide_eq_true_eq]
      intro e
      rw [e] at hnm'
      exact hnm' (List.mem_singleton.2 rfl)),if_pos (by simpa using hnm')]
 exact key _ (Nat.le_refl _) hl
theorem Ed {p:Proj} {r:Rul} {keeps:Lit→Bool}:∀(xs o:List Lit),o.Pairwise dN→(xs.foldl (dP p r keeps) o).Pairwise dN
 |[],_,h=>h
 |x::xs,o,h=>by
  rw [List.foldl_cons]
  refine Ed xs _ ?_
  unfold dP
  split
  ·exact h
  ·split
   ·exact h.sublist List.filter_sublist
   ·exact h
end Go.Proofs.YtjfnojijdggfhaaGreat.Abs
namespace Go.Proofs.YtjfnojijdggfhaaGreat.Abs
open Go.Proofs
attribute [local irreducible] refutes
theorem qR {l:List Int} (h:l.Pairwise (· < ·)):lN l=true:=
 Cw.2 fun i hi=>List.pairwise_iff_getElem.1 h i (i+1) (by omega) hi (by omega)
theorem Ig (p:Proj) (r:Rul):lN (cZ p r)=true:=by
 unfold cZ
 split
 ·rename_i ho
  cases AL ho with
  |link hk k l e1 hl=>rw [if_pos hk];exact qR (AY _)
  |fin hk ha=>simp [hk];rfl
  |time hk ha hb=>
   simp [hk]
   unfold users
   split
   ·exact qR (Rk _ _)
   ·rfl
  |work hk ha hb hc hlt=>
   simp [hk]
   unfold users
   split
   ·exact qR (Rk _ _)
   ·rfl
  |pair hk ha hb hc hlt=>
   simp [hk]
   exact qR (List.pairwise_cons.2 ⟨fun x hx=>by rw [List.mem_singleton.1 hx];exact hlt,List.pairwise_singleton _ _⟩)
  |Aq hk ha=>simp [hk];exact Ea _
 ·rfl
theorem Ih {p:Proj} {b:Dom} (h:usable p b=true):(iR p b).length > 0:=by
 have hp:=(bU (mD h).1).1
 have hh:=jQ hp
 unfold iR
 rw [if_pos h]
 unfold EU jd
 simp only [List.length_append,List.length_map,List.length_range]
 omega
theorem OP {p:Proj} {b:Dom} {r:Rul} (hf:aA p b=true) {k:Nat} (hk:k < p.acts.length) {l:Lit} (h:l∈mE p b r k):litValue b l≠1:=by
 obtain⟨l1,l2,l3⟩:=(bU hf).2
 obtain⟨a,x,y,m,g⟩:=fF hf hk
 have e1:=getD_some (d:=0) g.lo
 have e2:=getD_some (d:=0) g.hi
 have e3:=getD_some (d:=[]) g.modes
 have hd:fu b (k:Int)=true:=by simp [fu];omega
 have V:∀(u v:Bool),u=false→valueOf u v≠1:=by
  rintro u v rfl
  unfold valueOf
  rw [if_neg (by decide)]
  split<;>decide
 rw [wT g] at h
 unfold wS at h
 rw [List.mem_append,List.mem_append] at h
 rcases h with (h|h)|h
 ·unfold atLeast at h
  split at h
  ·rename_i hn
   obtain rfl:=List.mem_singleton.1 h
   unfold litValue
   dsimp only
   rw [if_pos hd,if_pos rfl,Int.toNat_natCast,e1]
   exact V _ _ (decide_eq_false (by omega))
  ·cases h
 ·unfold vU at h
  split at h
  ·rename_i hn
   obtain rfl:=List.mem_singleton.1 h
   unfold litValue
   dsimp only
   rw [if_pos hd,if_neg (by decide),if_pos rfl,Int.toNat_natCast,e2]
   exact V _ _ (decide_eq_false (by omega))
  ·cases h
 ·obtain⟨v,hv,rfl⟩:=List.mem_map.1 h
  obtain⟨hv,hr⟩:=List.mem_filter.1 hv
  unfold litValue
  dsimp only
  rw [if_pos hd,if_neg (by decide),if_neg (by decide),if_neg (by decide),if_pos rfl,Int.toNat_natCast,e3]
  exact V _ _ (by simpa using hv)
theorem yZ {b:Dom} {l:Lit} (hl:litValue b l≠1):∀(w:List Lit) (n:Int) (x:Lit),(∀y∈w,y=l∨litValue b y= -1)→w.Pairwise (· ≠ ·)→(n=0∨(n=1∧x=l∧l∉w))→
  (fG b w n x).1≠1∧((fG b w n x).1=0→(fG b w n x).2=l)
 |[],n,x,_,_,hn=>by
  rcases hn with rfl|⟨rfl,rfl,_⟩
  ·exact⟨show (-1:Int)≠1 by decide,fun h=>absurd (show (-1:Int)=0 from h) (by decide)⟩
  ·exact⟨show (0:Int)≠1 by decide,fun _=>rfl⟩
 |y::w,n,x,hw,hp,hn=>by
  rw [List.pairwise_cons] at hp
  have hw':∀z∈w,z=l∨litValue b z= -1:=fun z hz=>hw z (List.mem_cons_of_mem _ hz)
  have hy1:litValue b y≠1:=by
   rcases hw y (List.mem_cons_self ..) with rfl|h
   ·exact hl
   ·rw [h];decide
  rw [fG,if_neg hy1]
  split
  ·rename_i h0
   have hyl:y=l:=by
    rcases hw y (List.mem_cons_self ..) with h|h
    ·exact h
    ·rw [h] at h0;exact absurd h0 (by decide)
   subst hyl
   rcases hn with rfl|⟨_,_,hm⟩
   ·exact yZ hl w (0+1) y hw' hp.2 (.inr ⟨rfl,rfl,fun h=>hp.1 y h rfl⟩)
   ·exact absurd (List.mem_cons_self ..) hm
  ·refine yZ hl w n x hw' hp.2 ?_
   rcases hn with h|⟨h1,h2,h3⟩
   ·exact .inl h
   ·exact .inr ⟨h1,h2,fun h=>h3 (List.mem_cons_of_mem _ h)⟩
theorem Uk {w:List Lit} (hs:w.Pairwise dN):w.Pairwise (· ≠ ·):=hs.imp fun h e=>by subst e;exact absurd h (by rw [← mJ];simp [iY,Ga,orI])
structure Ul (p:Proj) (b:Dom) (r:Rul) (x:Infer):Prop where
 exp:aU p b r x.lit=(x.clause,true)
 fol:follows p r x.clause=true
 opn:litValue b x.lit≠1
 st1:(status b x.clause).1≠1
 st0:(status b x.clause).1=0→(status b x.clause).2=x.lit
 all:∀s,dM p s=true→iw x.clause s=true
 one:∀s,dM p s=true→qd b s p.acts.length→bL x.lit s=true
theorem Sw {p:Proj} {b:Dom} {r:Rul} {l:Lit} {s:aL} (hf:aA p b=true) (hl:iV p l=true) (h:refutes p (restrict b (negate l)) r=true) (hs:dM p s=true) (hin:qd b s p.acts.length):bL l s=true:=by
 cases e:bL l s with
 |true=>rfl
 |false=>
  have hfo:=oF hs
  have hn:=Bc hl hfo
  rw [e] at hn
  have:=xZ h hfo (vW (wh hf) hin (Kk hl).1 hn)
  rw [hs] at this
  cases this
theorem Vs {p:Proj} {b:Dom} {r:Rul} {x:Infer} (hs:Small p) (hf:aA p b=true) (he:aS b=false) (hin:yX p b) (h:x∈infers p b r):Ul p b r x:=by
 unfold infers at h
 split at h
 ·obtain⟨a,ha,h1⟩:=List.mem_flatMap.1 h
  obtain⟨k,rfl,hk⟩:=tZ ha
  unfold nQ at h1
  rw [Int.toNat_natCast] at h1
  obtain⟨l,hl,rfl⟩:=List.mem_map.1 h1
  obtain⟨q1,q2⟩:=Ie hf hin hk hl
  have ho:=OP hf hk hl
  have hfo:=yY hs hf q1 q2
  have hx:(aU p b r l).1=oJ p r (fun x=>dD x l) (dW (qb p b++[l])):=by unfold aU;rw [if_pos ⟨q1,q2⟩]
  have hmem:∀y∈(aU p b r l).1,y=l∨litValue b y= -1:=by
   intro y hy
   rw [hx] at hy
   have h2:=(Ko (p:=p) (r:=r) (keeps:=fun x=>dD x l) (dW (qb p b++[l])) (dW (qb p b++[l]))).1 y hy
   rcases List.mem_append.1 (((kg (qb p b++[l])).2 y).1 h2) with h3|h3
   ·exact .inr (Qq hf he y h3)
   ·exact .inl (List.mem_singleton.1 h3)
  have hpw:(aU p b r l).1.Pairwise dN:=by
   rw [hx];exact Ed _ _ (kg (qb p b++[l])).1
  obtain⟨t1,t2⟩:=yZ ho (aU p b r l).1 0 lS hmem (Uk hpw) (.inl rfl)
  refine⟨?_,hfo,ho,t1,t2,fun s hss=>Jf hfo hss,fun s hss hi=>Sw hf q1 q2 hss hi⟩
  show aU p b r l=((aU p b r l).1,true)
  have:(aU p b r l).2=true:=by unfold aU;rw [if_pos ⟨q1,q2⟩]
  rw [← this]
 ·cases h
end Go.Proofs.YtjfnojijdggfhaaGreat.Abs
namespace Go.Proofs.YtjfnojijdggfhaaGreat.Abs
open Go.Proofs
attribute [local irreducible] refutes
def Qr (b:Dom) (k:Nat):Int:=b.hi.getD k 0 - b.lo.getD k 0+((b.modes.getD k []).length:Nat)
structure YR (p:Proj) (b:Dom) (s:Infer):Prop where
 opn:litValue b s.lit≠1
 down:sumTo (Qr (restrict b s.lit)) p.acts.length+1≤sumTo (Qr b) p.acts.length
 full:aS b=false
 keep:∀c,dM p c=true→qd b c p.acts.length→qd (restrict b s.lit) c p.acts.length
def replay (p:Proj):List Infer→Dom→Dom→Prop
 |[],b,x=>b=x
 |s::l,b,x=>nL p b=some s∧replay p l (restrict b s.lit) x
structure YS (p:Proj) (b x:Dom) (said:List Infer):Prop where
 form:aA p x=true
 sub:eG x b p.acts.length
 rep:replay p said b x
 keep:∀c,dM p c=true→qd b c p.acts.length→qd x c p.acts.length
 few:(said.length:Int)≤if aS b=true then 0 else sumTo (Qr b) p.acts.length
section
attribute [local irreducible] nL restrict aS aA sumTo
end
theorem contains_iff {p:Proj} {b:Dom} {s:aL} (hf:aA p b=true) (hs:dM p s=true):contains b s=true↔qd b s p.acts.length:=by
 obtain⟨l1,l2,l3⟩:=(bU hf).2
 obtain⟨_,s1,s2⟩:=jw (oF hs)
 rw [OQ,s1]
 constructor
 ·exact fun h=>h.2.2.2.2
 ·exact fun h=>⟨by omega,by omega,by omega,by omega,h⟩
end Go.Proofs.YtjfnojijdggfhaaGreat.Abs
