/- Contracts: literals, domains, clauses, rules that are drawn. -/
import Derived.Test.YtjfnojijdggfhaaGreatDr
import Derived.Test.YtjfnojijdggfhaaGreatBt
set_option linter.all false
set_option maxRecDepth 20000
set_option maxHeartbeats 0
namespace Go.Proofs.YtjfnojijdggfhaaGreat.Abs
open Go.Proofs
attribute [local irreducible] below bL yC
theorem SB {p:Proj} {b:Dom} (hf:ay p b=true) {i:Nat} {m:List Int} (h:b.modes[i]? =some m):nV m=true:=Jw hf h
theorem Ar (p:Proj) (hp:aL p=true) (hpf:p.fine):Con 36 [.d p.av] (.d (aW p).av):=by
 refine con Tryz.func36 rfl rfl Tryz.call36 rfl fun hwf=>?_
 have hh:=jC hp
 have B1:=IE p hpf
 rw [hp] at B1
 have e:aW p=lC p:=by rw [aW,if_pos hp]
 rw [e]
 (repeat' ((conv=>whnf);first|refine gA ?_|(refine gB ?_ ?_<;>intro h)|refine gC (B1) ?_|refine gC (RD p ⟨by omega,by omega⟩) ?_|intro _))<;>try (conv=>whnf)
 exact fv
def TN (p:Proj) (q:Dom×Cur):Dom×Cur:=(if aR (restrict q.1 ⟨1+(below q.2 2).1,(below (below q.2 2).2 p.acts.length).1,(below (below (below q.2 2).2 p.acts.length).2 p.dead).1⟩)=true then q.1 else restrict q.1 ⟨1+(below q.2 2).1,(below (below q.2 2).2 p.acts.length).1,(below (below (below q.2 2).2 p.acts.length).2 p.dead).1⟩,(below (below (below q.2 2).2 p.acts.length).2 p.dead).2)
theorem DF (p:Proj) (hp:aL p=true) (hpf:p.fine) (code:List Int):Con 7 [.d (u8s code),.d p.av] (.d (xS p code).av):=by
 refine con Tryz.func7 rfl rfl Tryz.call7 rfl fun hwf=>?_
 clear hwf
 have hh:=jC hp
 have hc:=Iw (tL code) 17
 have BI:=Ar p hp hpf
 unfold xS
 generalize hcc:Nq (sF code) 17=cc at hc ⊢
 obtain⟨n,c1,e1,h1,n0,n1⟩:=aD hc 4
 have n1:=n1 (by decide)
 have D1:=dA e1 hc (by decide)
 rw [← hcc] at D1
 dsimp only
 rw [e1]
 dsimp only
 have hinv:=fun j=>jE (f:=fV p) (fun _ b=>ay p b=true) (fun k b c hc h=>⟨by
  unfold fV
  dsimp only
  split
  ·exact h
  ·exact nO h _,Dl hc⟩) j (aW p) c1 h1 (vI hp)
 (repeat' ((conv=>whnf);first|refine gA ?_|refine Arith.raw ?_|refine gA ?_|(refine gB ?_ ?_<;>intro h)|refine gV ?_|refine gC (FU code) ?_|refine gC (BI) ?_|refine gC (D1) ?_|intro _))<;>try (conv=>whnf)
 refine aB [3,4,5,6] [3,4] [] ?_
 (conv=>whnf)
 refine aA.mk ((Nat)) (fun j=>((j:Int)≤n)) (fun j=>[(7,.data (i64 (n - j)))]) (fun j=>[(6,[.data (ints (itN (fV p) j (aW p) c1).1.lo),.data (ints (itN (fV p) j (aW p) c1).1.hi),.data (.sl ((itN (fV p) j (aW p) c1).1.modes.map ints))]),(10,[.data (u8s (itN (fV p) j (aW p) c1).2.b),.data (i64 (itN (fV p) j (aW p) c1).2.i),.data (i64 (itN (fV p) j (aW p) c1).2.h)])]) (fun _=>[]) (fun j=>n.toNat - j) (0) ?_ ?_ ?_
 rotate_left
 ·(repeat' ((conv=>whnf)<;>(first|exact trivial|exact rfl|with_reducible refine And.intro ?_ ?_)))<;>((conv=>whnf)<;>(exact congrArg (AV.int .i64) (by omega)))
 rotate_left
 ·omega
 rintro j hj
 obtain⟨g1,g2⟩:=hinv j
 by_cases hlt:(j:Int) < n
 ·have e3:itN (fV p) (j+1) (aW p) c1=TN p (itN (fV p) j (aW p) c1):=rfl
  generalize hq:itN (fV p) j (aW p) c1=q at g1 g2 e3 ⊢
  obtain⟨b,cu⟩:=q
  dsimp only at g1 g2 e3 ⊢
  unfold TN at e3
  dsimp only at e3
  obtain⟨k,d1,f1,m1,k0,k1⟩:=aD g2 2
  obtain⟨a,d2,f2,m2,a0,a1⟩:=aD m1 p.acts.length
  obtain⟨v,d3,f3,m3,v0,v1⟩:=aD m2 p.dead
  have k1:=k1 (by decide)
  have a1:=a1 (by omega)
  have v1:=v1 (by omega)
  have D2:=dA f1 g2 (by decide)
  have D3:=dA f2 m1 (by omega)
  have D4:=dA f3 m2 (by omega)
  have hml:((p.acts.map aK.av).length:Int)=p.acts.length:=by rw [List.length_map]
  rw [← hml] at D3
  rw [f1] at e3;dsimp only at e3;rw [f2] at e3;dsimp only at e3;rw [f3] at e3;dsimp only at e3
  have BR:=Kl b ⟨1+k,a,v⟩ (fun m hm=>SB g1 hm)
  have BE:=Ej (restrict b ⟨1+k,a,v⟩)
  generalize restrict b ⟨1+k,a,v⟩=x at BR BE e3
  cases he:aR x with
  |true=>
   rw [he] at BE e3
   rw [if_pos rfl] at e3
   (repeat' ((conv=>whnf);first|refine gA ?_|(refine gB ?_ ?_<;>intro h)|refine gV ?_|refine gC (D2) ?_|refine gC (D3) ?_|refine gC (D4) ?_|refine gC (BR) ?_|refine gC (BE) ?_|intro _))<;>try (conv=>whnf)
   all_goals first
    |(exfalso;omega)
    |skip
   refine nw (j+1) ?_ ?_
   ·(repeat' ((conv=>whnf)<;>(first|exact trivial|exact rfl|with_reducible refine And.intro ?_ ?_)))<;>((conv=>whnf)<;>(first|exact congrArg (AV.int .i64) (by omega)|(simp only [e3];done)))
   omega
  |false=>
   rw [he] at BE e3
   rw [if_neg (by decide)] at e3
   (repeat' ((conv=>whnf);first|refine gA ?_|(refine gB ?_ ?_<;>intro h)|refine gV ?_|refine gC (D2) ?_|refine gC (D3) ?_|refine gC (D4) ?_|refine gC (BR) ?_|refine gC (BE) ?_|intro _))<;>try (conv=>whnf)
   all_goals first
    |(exfalso;omega)
    |skip
   refine nw (j+1) ?_ ?_
   ·(repeat' ((conv=>whnf)<;>(first|exact trivial|exact rfl|with_reducible refine And.intro ?_ ?_)))<;>((conv=>whnf)<;>(first|exact congrArg (AV.int .i64) (by omega)|(simp only [e3];done)))
   omega
 ·have ej:j=n.toNat:=by omega
  subst ej
  generalize itN (fV p) n.toNat (aW p) c1=q
  obtain⟨b,cu⟩:=q
  dsimp only
  (repeat' ((conv=>whnf);first|refine gA ?_|(refine gB ?_ ?_<;>intro h)|refine gV ?_|intro _))<;>try (conv=>whnf)
  all_goals first
   |(exfalso;omega)
   |exact fv
end Go.Proofs.YtjfnojijdggfhaaGreat.Abs
