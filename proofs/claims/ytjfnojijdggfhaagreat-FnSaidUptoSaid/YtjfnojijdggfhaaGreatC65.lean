/- Contracts: literals, domains, clauses, rules that are drawn. -/
import Derived.Test.YtjfnojijdggfhaaGreatDr
import Derived.Test.YtjfnojijdggfhaaGreatBt
set_option linter.all false
set_option maxRecDepth 20000
set_option maxHeartbeats 0
namespace Go.Proofs.YtjfnojijdggfhaaGreat.Abs
open Go.Proofs
attribute [local irreducible] below nL wN
theorem Qv {p:Proj} {b:Dom} (hf:aA p b=true) {i:Nat} {m:List Int} (h:b.modes[i]? =some m):lN m=true:=Hy hf h
theorem zk (p:Proj) (hp:aK p=true) (hpf:p.fine):Con 36 [.d p.av] (.d (aV p).av):=by
 refine con Tryz.func36 rfl rfl Tryz.call36 rfl fun hwf=>?_
 have hh:=jQ hp
 have B1:=Gn p hpf
 rw [hp] at B1
 have e:aV p=kL p:=by rw [aV,if_pos hp]
 rw [e]
 (repeat' ((conv=>whnf);first|refine gA ?_|(refine gB ?_ ?_<;>intro h)|refine gC (B1) ?_|refine gC (PV p ⟨by omega,by omega⟩) ?_|intro _))<;>try (conv=>whnf)
 exact fv
def Rq (p:Proj) (q:Dom×Cur):Dom×Cur:=(if aS (restrict q.1 ⟨1+(below q.2 2).1,(below (below q.2 2).2 p.acts.length).1,(below (below (below q.2 2).2 p.acts.length).2 p.dead).1⟩)=true then q.1 else restrict q.1 ⟨1+(below q.2 2).1,(below (below q.2 2).2 p.acts.length).1,(below (below (below q.2 2).2 p.acts.length).2 p.dead).1⟩,(below (below (below q.2 2).2 p.acts.length).2 p.dead).2)
theorem MC (p:Proj) (hp:aK p=true) (hpf:p.fine) (code:List Int):Con 7 [.d (u8s code),.d p.av] (.d (Ec p code).av):=by
 refine con Tryz.func7 rfl rfl Tryz.call7 rfl fun hwf=>?_
 clear hwf
 have hh:=jQ hp
 have hc:=Gf (sj code) 17
 have BI:=zk p hp hpf
 unfold Ec
 generalize hcc:Lv (rD code) 17=cc at hc ⊢
 obtain⟨n,c1,e1,h1,n0,n1⟩:=aD hc 4
 have n1:=n1 (by decide)
 have D1:=bW e1 hc (by decide)
 rw [← hcc] at D1
 dsimp only
 rw [e1]
 dsimp only
 have hinv:=fun j=>iZ (f:=fH p) (fun _ b=>aA p b=true) (fun k b c hc h=>⟨by
  unfold fH
  dsimp only
  split
  ·exact h
  ·exact rH h _,Bl hc⟩) j (aV p) c1 h1 (uo hp)
 (repeat' ((conv=>whnf);first|refine gA ?_|refine Arith.raw ?_|refine gA ?_|(refine gB ?_ ?_<;>intro h)|refine gV ?_|refine gC (En code) ?_|refine gC (BI) ?_|refine gC (D1) ?_|intro _))<;>try (conv=>whnf)
 refine aC [3,4,5,6] [3,4] [] ?_
 (conv=>whnf)
 refine aB.mk ((Nat)) (fun j=>((j:Int)≤n)) (fun j=>[(7,.data (i64 (n - j)))]) (fun j=>[(6,[.data (ints (itN (fH p) j (aV p) c1).1.lo),.data (ints (itN (fH p) j (aV p) c1).1.hi),.data (.sl ((itN (fH p) j (aV p) c1).1.modes.map ints))]),(10,[.data (u8s (itN (fH p) j (aV p) c1).2.b),.data (i64 (itN (fH p) j (aV p) c1).2.i),.data (i64 (itN (fH p) j (aV p) c1).2.h)])]) (fun _=>[]) (fun j=>n.toNat - j) (0) ?_ ?_ ?_
 rotate_left
 ·(repeat' ((conv=>whnf)<;>(first|exact trivial|exact rfl|with_reducible refine And.intro ?_ ?_)))<;>((conv=>whnf)<;>(exact congrArg (AV.int .i64) (by omega)))
 rotate_left
 ·omega
 rintro j hj
 obtain⟨g1,g2⟩:=hinv j
 by_cases hlt:(j:Int) < n
 ·have e3:itN (fH p) (j+1) (aV p) c1=Rq p (itN (fH p) j (aV p) c1):=rfl
  generalize hq:itN (fH p) j (aV p) c1=q at g1 g2 e3 ⊢
  obtain⟨b,cu⟩:=q
  dsimp only at g1 g2 e3 ⊢
  unfold Rq at e3
  dsimp only at e3
  obtain⟨k,d1,f1,m1,k0,k1⟩:=aD g2 2
  obtain⟨a,d2,f2,m2,a0,a1⟩:=aD m1 p.acts.length
  obtain⟨v,d3,f3,m3,v0,v1⟩:=aD m2 p.dead
  have k1:=k1 (by decide)
  have a1:=a1 (by omega)
  have v1:=v1 (by omega)
  have D2:=bW f1 g2 (by decide)
  have D3:=bW f2 m1 (by omega)
  have D4:=bW f3 m2 (by omega)
  have hml:((p.acts.map aJ.av).length:Int)=p.acts.length:=by rw [List.length_map]
  rw [← hml] at D3
  rw [f1] at e3;dsimp only at e3;rw [f2] at e3;dsimp only at e3;rw [f3] at e3;dsimp only at e3
  have BR:=IL b ⟨1+k,a,v⟩ (fun m hm=>Qv g1 hm)
  have BE:=Cy (restrict b ⟨1+k,a,v⟩)
  generalize restrict b ⟨1+k,a,v⟩=x at BR BE e3
  cases he:aS x with
  |true=>
   rw [he] at BE e3
   rw [if_pos rfl] at e3
   (repeat' ((conv=>whnf);first|refine gA ?_|(refine gB ?_ ?_<;>intro h)|refine gV ?_|refine gC (D2) ?_|refine gC (D3) ?_|refine gC (D4) ?_|refine gC (BR) ?_|refine gC (BE) ?_|intro _))<;>try (conv=>whnf)
   all_goals first
    |(exfalso;omega)
    |skip
   refine nw (j+1) ?_ ?_
   ·(repeat' ((conv=>whnf)<;>(first|exact trivial|exact rfl|with_reducible refine And.intro ?_ ?_)))<;>((conv=>whnf)<;>(first|exact congrArg (AV.int .i64) (by omega)|(simp only [e3];done)))
   omega
  |false=>
   rw [he] at BE e3
   rw [if_neg (by decide)] at e3
   (repeat' ((conv=>whnf);first|refine gA ?_|(refine gB ?_ ?_<;>intro h)|refine gV ?_|refine gC (D2) ?_|refine gC (D3) ?_|refine gC (D4) ?_|refine gC (BR) ?_|refine gC (BE) ?_|intro _))<;>try (conv=>whnf)
   all_goals first
    |(exfalso;omega)
    |skip
   refine nw (j+1) ?_ ?_
   ·(repeat' ((conv=>whnf)<;>(first|exact trivial|exact rfl|with_reducible refine And.intro ?_ ?_)))<;>((conv=>whnf)<;>(first|exact congrArg (AV.int .i64) (by omega)|(simp only [e3];done)))
   omega
 ·have ej:j=n.toNat:=by omega
  subst ej
  generalize itN (fH p) n.toNat (aV p) c1=q
  obtain⟨b,cu⟩:=q
  dsimp only
  (repeat' ((conv=>whnf);first|refine gA ?_|(refine gB ?_ ?_<;>intro h)|refine gV ?_|intro _))<;>try (conv=>whnf)
  all_goals first
   |(exfalso;omega)
   |exact fv
end Go.Proofs.YtjfnojijdggfhaaGreat.Abs
