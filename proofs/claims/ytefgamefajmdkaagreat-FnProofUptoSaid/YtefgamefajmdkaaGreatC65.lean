/- Contracts: literals, domains, clauses, rules that are drawn. -/
import Derived.Test.YtefgamefajmdkaaGreatDr
import Derived.Test.YtefgamefajmdkaaGreatBt
set_option linter.all false
set_option maxRecDepth 20000
set_option maxHeartbeats 0
namespace Go.Proofs.YtefgamefajmdkaaGreat.Abs
open Go.Proofs
attribute [local irreducible] below bG aL
def Ud (p:Proj) (q:List Lit×Cur):List Lit×Cur:=(q.1++[(dN p q.2).1],(dN p q.2).2)
theorem Ez (p:Proj) (hp:aF p=true) (c:Cur) (hc:c.ok):Con 37 [.bx c.cells,.d p.av] (RDr (.d (dN p c).1.av) (dN p c).2):=by
 refine con Tryz.func37 rfl rfl Tryz.call37 rfl fun hwf=>?_
 clear hwf
 obtain⟨a,c1,e1,h1,a0,a1⟩:=ak hc p.acts.length
 obtain⟨o,c2,e2,h2,o0,o1⟩:=ak h1 4
 obtain⟨k,c3,e3,h3,k0,k1⟩:=ak h2 2
 have hh:=kS hp
 have a1:=a1 (by omega)
 have k1:=k1 (by decide)
 have D1:=aT e1 hc (by omega)
 have D2:=qy e2 h1 (by decide)
 have D3:=aT e3 h2 (by decide)
 have hml:((p.acts.map aG.av).length:Int)=p.acts.length:=by rw [List.length_map]
 rw [← hml] at D1
 have hact:(p.acts.map aG.av)[a.toNat]? =some (aY p a.toNat).av:=by rw [List.getElem?_map,fJ (by omega)];rfl
 have ha:a=((a.toNat:Nat):Int):=by omega
 have few:=jo hp (k:=a.toNat) (by omega)
 by_cases ho:o=0
 ·obtain⟨v,c4,e4,h4,v0,v1⟩:=ak h3 (aY p a.toNat).modes.length
  have D4:=aT e4 h3 (by omega)
  have e:dN p c=(⟨3+k,a,v⟩,c4):=by
   unfold dN
   rw [e1];dsimp only;rw [e2];dsimp only;rw [e3];dsimp only;rw [if_pos ho,e4]
  rw [e]
  have hmm:(((aY p a.toNat).modes.map Mode.av).length:Int)=(aY p a.toNat).modes.length:=by rw [List.length_map]
  rw [← hmm] at D4
  (repeat' ((conv=>whnf);first|with_reducible refine Br.yes (decide_eq_true ho) ?_|refine Idx.Fx hact ha ?_|refine gA ?_|(refine gB ?_ ?_<;>intro h)|(refine gI ?_;intro x hx)|(refine gJ ?_;intro j x hj hx)|refine gV ?_|refine gC (D1) ?_|refine gC (D2) ?_|refine gC (D3) ?_|refine gC (D4) ?_|intro _))<;>try (conv=>whnf)
  all_goals first
   |(exfalso;omega)
   |exact fv
 ·obtain⟨v,c4,e4,h4,v0,v1⟩:=ak h3 10
  have D4:=aT e4 h3 (by decide)
  have e:dN p c=(⟨1+k,a,v⟩,c4):=by
   unfold dN
   rw [e1];dsimp only;rw [e2];dsimp only;rw [e3];dsimp only;rw [if_neg ho,e4]
  rw [e]
  (repeat' ((conv=>whnf);first|with_reducible refine Br.no (decide_eq_false ho) ?_|refine gA ?_|(refine gB ?_ ?_<;>intro h)|(refine gI ?_;intro x hx)|(refine gJ ?_;intro j x hj hx)|refine gV ?_|refine gC (D1) ?_|refine gC (D2) ?_|refine gC (D3) ?_|refine gC (D4) ?_|intro _))<;>try (conv=>whnf)
  all_goals first
   |(exfalso;omega)
   |exact fv
theorem Kr {p:Proj} {b:Dom} (hf:aC p b=true) {i:Nat} {m:List Int} (h:b.modes[i]? =some m):iX m=true:=rE hf h
theorem Ca (p:Proj) (hp:aF p=true) (hpf:p.fine):Con 35 [.d p.av] (.d (bM p).av):=by
 refine con Tryz.func35 rfl rfl Tryz.call35 rfl fun hwf=>?_
 have hh:=kS hp
 have B1:=dF p hpf
 rw [hp] at B1
 have e:bM p=fF p:=by rw [bM,if_pos hp]
 rw [e]
 (repeat' ((conv=>whnf);first|refine gA ?_|(refine gB ?_ ?_<;>intro h)|refine gC (B1) ?_|refine gC (vF p ⟨by omega,by omega⟩) ?_|intro _))<;>try (conv=>whnf)
 exact fv
theorem OU (p:Proj) (hp:aF p=true) (c:Cur) (hc:c.ok) (most:Int) (hm:0≤most∧most≤20):Con 61 [.bx c.cells,.d p.av,.d (i64 most)] (RDr (.d (lits (kV p most c).1)) (kV p most c).2):=by
 refine con Tryz.func61 rfl rfl Tryz.call61 rfl fun hwf=>?_
 clear hwf
 obtain⟨n,c1,e1,h1,n0,n1⟩:=ak hc (most+1)
 have n1:=n1 (by omega)
 have D1:=aT e1 hc (by omega)
 unfold kV
 dsimp only
 rw [e1]
 dsimp only
 have hinv:=fun j=>jA (f:=jV p) (fun j l=>l.length=j) (fun k l c hc h=>⟨by simp [jV,h],(wu hp hc).2⟩) j [] c1 h1 rfl
 (repeat' ((conv=>whnf);first|refine gA ?_|(refine gB ?_ ?_<;>intro h)|refine gP ?_|refine gV ?_|refine gC (D1) ?_|intro _))<;>try (conv=>whnf)
 refine aB [0,4] [4] [9] ?_
 (conv=>whnf)
 refine aA.mk ((Nat)) (fun j=>((j:Int)≤n)) (fun j=>[(8,.data (i64 (n - j))),(7,.own 9 0)]) (fun j=>[(1000000,[.data (u8s (itN (jV p) j [] c1).2.b),.data (i64 (itN (jV p) j [] c1).2.i),.data (i64 (itN (jV p) j [] c1).2.h)])]) (fun j=>[(9,82,(itN (jV p) j [] c1).1.map Lit.av,0)]) (fun j=>n.toNat - j) (0) ?_ ?_ ?_
 rotate_left
 ·(repeat' ((conv=>whnf)<;>(first|exact trivial|exact rfl|with_reducible refine And.intro ?_ ?_)))<;>((conv=>whnf)<;>(exact congrArg (AV.int .i64) (by omega)))
 rotate_left
 ·omega
 rintro j hj
 obtain⟨g1,g2⟩:=hinv j
 by_cases hlt:(j:Int) < n
 ·have e3:itN (jV p) (j+1) [] c1=Ud p (itN (jV p) j [] c1):=rfl
  generalize hq:itN (jV p) j [] c1=q at g1 g2 e3 ⊢
  obtain⟨l,cu⟩:=q
  dsimp only at g1 g2 e3 ⊢
  have BD:=Ez p hp cu g2
  unfold Ud at e3
  dsimp only at e3
  generalize dN p cu=y at BD e3
  obtain⟨y,cv⟩:=y
  dsimp only at BD e3
  (repeat' ((conv=>whnf);first|refine gA ?_|(refine gB ?_ ?_<;>intro h)|refine gP ?_|refine gV ?_|refine gC (BD) ?_|intro _))<;>try (conv=>whnf)
  all_goals first
   |(exfalso;omega)
   |skip
  refine nw (j+1) ?_ ?_
  ·(repeat' ((conv=>whnf)<;>(first|exact trivial|exact rfl|with_reducible refine And.intro ?_ ?_)))<;>((conv=>whnf)<;>(first|exact congrArg (AV.int .i64) (by omega)|(simp only [e3];done)|(simp only [e3,List.map_append,List.map_cons,List.map_nil];done)))
  omega
 ·have ej:j=n.toNat:=by omega
  subst ej
  generalize itN (jV p) n.toNat [] c1=q
  obtain⟨l,cu⟩:=q
  dsimp only
  (repeat' ((conv=>whnf);first|refine gA ?_|(refine gB ?_ ?_<;>intro h)|refine gP ?_|refine gV ?_|refine gC (nL l) ?_|intro _))<;>try (conv=>whnf)
  all_goals first
   |(exfalso;omega)
   |exact fv
end Go.Proofs.YtefgamefajmdkaaGreat.Abs
