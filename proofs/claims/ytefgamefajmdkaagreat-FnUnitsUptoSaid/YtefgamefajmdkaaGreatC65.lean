/- Contracts: literals, domains, clauses, rules that are drawn. -/
import Derived.Test.YtefgamefajmdkaaGreatDr
import Derived.Test.YtefgamefajmdkaaGreatBt
set_option linter.all false
set_option maxRecDepth 20000
set_option maxHeartbeats 0
namespace Go.Proofs.YtefgamefajmdkaaGreat.Abs
open Go.Proofs
attribute [local irreducible] below bJ aM
def UO (p:Proj) (q:List Lit×Cur):List Lit×Cur:=(q.1++[(dS p q.2).1],(dS p q.2).2)
theorem FJ (p:Proj) (hp:aF p=true) (c:Cur) (hc:c.ok):Con 37 [.bx c.cells,.d p.av] (RDr (.d (dS p c).1.av) (dS p c).2):=by
 refine con Tryz.func37 rfl rfl Tryz.call37 rfl fun hwf=>?_
 clear hwf
 obtain⟨a,c1,e1,h1,a0,a1⟩:=ak hc p.acts.length
 obtain⟨o,c2,e2,h2,o0,o1⟩:=ak h1 4
 obtain⟨k,c3,e3,h3,k0,k1⟩:=ak h2 2
 have hh:=jw hp
 have a1:=a1 (by omega)
 have k1:=k1 (by decide)
 have D1:=aP e1 hc (by omega)
 have D2:=qM e2 h1 (by decide)
 have D3:=aP e3 h2 (by decide)
 have hml:((p.acts.map aH.av).length:Int)=p.acts.length:=by rw [List.length_map]
 rw [← hml] at D1
 have hact:(p.acts.map aH.av)[a.toNat]? =some (bf p a.toNat).av:=by rw [List.getElem?_map,fV (by omega)];rfl
 have ha:a=((a.toNat:Nat):Int):=by omega
 have few:=iT hp (k:=a.toNat) (by omega)
 by_cases ho:o=0
 ·obtain⟨v,c4,e4,h4,v0,v1⟩:=ak h3 (bf p a.toNat).modes.length
  have D4:=aP e4 h3 (by omega)
  have e:dS p c=(⟨3+k,a,v⟩,c4):=by
   unfold dS
   rw [e1];dsimp only;rw [e2];dsimp only;rw [e3];dsimp only;rw [if_pos ho,e4]
  rw [e]
  have hmm:(((bf p a.toNat).modes.map Mode.av).length:Int)=(bf p a.toNat).modes.length:=by rw [List.length_map]
  rw [← hmm] at D4
  (repeat' ((conv=>whnf);first|with_reducible refine Br.yes (decide_eq_true ho) ?_|refine Idx.Gz hact ha ?_|refine gA ?_|(refine gB ?_ ?_<;>intro h)|(refine gI ?_;intro x hx)|(refine gJ ?_;intro j x hj hx)|refine gV ?_|refine gC (D1) ?_|refine gC (D2) ?_|refine gC (D3) ?_|refine gC (D4) ?_|intro _))<;>try (conv=>whnf)
  all_goals first
   |(exfalso;omega)
   |exact fv
 ·obtain⟨v,c4,e4,h4,v0,v1⟩:=ak h3 10
  have D4:=aP e4 h3 (by decide)
  have e:dS p c=(⟨1+k,a,v⟩,c4):=by
   unfold dS
   rw [e1];dsimp only;rw [e2];dsimp only;rw [e3];dsimp only;rw [if_neg ho,e4]
  rw [e]
  (repeat' ((conv=>whnf);first|with_reducible refine Br.no (decide_eq_false ho) ?_|refine gA ?_|(refine gB ?_ ?_<;>intro h)|(refine gI ?_;intro x hx)|(refine gJ ?_;intro j x hj hx)|refine gV ?_|refine gC (D1) ?_|refine gC (D2) ?_|refine gC (D3) ?_|refine gC (D4) ?_|intro _))<;>try (conv=>whnf)
  all_goals first
   |(exfalso;omega)
   |exact fv
theorem Di {p:Proj} {b:Dom} (hf:aC p b=true) {i:Nat} {m:List Int} (h:b.modes[i]? =some m):jk m=true:=rX hf h
theorem sF (p:Proj) (hp:aF p=true) (hpf:p.fine):Con 35 [.d p.av] (.d (aT p).av):=by
 refine con Tryz.func35 rfl rfl Tryz.call35 rfl fun hwf=>?_
 have hh:=jw hp
 have B1:=dI p hpf
 rw [hp] at B1
 have e:aT p=fP p:=by rw [aT,if_pos hp]
 rw [e]
 (repeat' ((conv=>whnf);first|refine gA ?_|(refine gB ?_ ?_<;>intro h)|refine gC (B1) ?_|refine gC (wo p ⟨by omega,by omega⟩) ?_|intro _))<;>try (conv=>whnf)
 exact fv
def UQ (p:Proj) (q:Dom×Cur):Dom×Cur:=(if aZ (restrict q.1 ⟨1+(below q.2 2).1,(below (below q.2 2).2 p.acts.length).1,(below (below (below q.2 2).2 p.acts.length).2 p.dead).1⟩)=true then q.1 else restrict q.1 ⟨1+(below q.2 2).1,(below (below q.2 2).2 p.acts.length).1,(below (below (below q.2 2).2 p.acts.length).2 p.dead).1⟩,(below (below (below q.2 2).2 p.acts.length).2 p.dead).2)
theorem PY (p:Proj) (hp:aF p=true) (hpf:p.fine) (code:List Int):Con 10 [.d (u8s code),.d p.av] (.d (Ih p code).av):=by
 refine con Tryz.func10 rfl rfl Tryz.call10 rfl fun hwf=>?_
 clear hwf
 have hh:=jw hp
 have hc:=ou (lI code) 17
 have BI:=sF p hp hpf
 unfold Ih
 generalize hcc:qD (mh code) 17=cc at hc ⊢
 obtain⟨n,c1,e1,h1,n0,n1⟩:=ak hc 4
 have n1:=n1 (by decide)
 have D1:=aP e1 hc (by decide)
 rw [← hcc] at D1
 dsimp only
 rw [e1]
 dsimp only
 have hinv:=fun j=>iW (f:=iC p) (fun _ b=>aC p b=true) (fun k b c hc h=>⟨by
  unfold iC
  dsimp only
  split
  ·exact h
  ·exact gu h _,Fa hc⟩) j (aT p) c1 h1 (lV hp)
 (repeat' ((conv=>whnf);first|refine gA ?_|refine Arith.raw ?_|refine gA ?_|(refine gB ?_ ?_<;>intro h)|refine gV ?_|refine gC (pR code) ?_|refine gC (BI) ?_|refine gC (D1) ?_|intro _))<;>try (conv=>whnf)
 refine aB [3,4,5,6] [3,4] [] ?_
 (conv=>whnf)
 refine aA.mk ((Nat)) (fun j=>((j:Int)≤n)) (fun j=>[(7,.data (i64 (n - j)))]) (fun j=>[(6,[.data (ints (itN (iC p) j (aT p) c1).1.lo),.data (ints (itN (iC p) j (aT p) c1).1.hi),.data (.sl ((itN (iC p) j (aT p) c1).1.modes.map ints))]),(10,[.data (u8s (itN (iC p) j (aT p) c1).2.b),.data (i64 (itN (iC p) j (aT p) c1).2.i),.data (i64 (itN (iC p) j (aT p) c1).2.h)])]) (fun _=>[]) (fun j=>n.toNat - j) (0) ?_ ?_ ?_
 rotate_left
 ·(repeat' ((conv=>whnf)<;>(first|exact trivial|exact rfl|with_reducible refine And.intro ?_ ?_)))<;>((conv=>whnf)<;>(exact congrArg (AV.int .i64) (by omega)))
 rotate_left
 ·omega
 rintro j hj
 obtain⟨g1,g2⟩:=hinv j
 by_cases hlt:(j:Int) < n
 ·have e3:itN (iC p) (j+1) (aT p) c1=UQ p (itN (iC p) j (aT p) c1):=rfl
  generalize hq:itN (iC p) j (aT p) c1=q at g1 g2 e3 ⊢
  obtain⟨b,cu⟩:=q
  dsimp only at g1 g2 e3 ⊢
  unfold UQ at e3
  dsimp only at e3
  obtain⟨k,d1,f1,m1,k0,k1⟩:=ak g2 2
  obtain⟨a,d2,f2,m2,a0,a1⟩:=ak m1 p.acts.length
  obtain⟨v,d3,f3,m3,v0,v1⟩:=ak m2 p.dead
  have k1:=k1 (by decide)
  have a1:=a1 (by omega)
  have v1:=v1 (by omega)
  have D2:=aP f1 g2 (by decide)
  have D3:=aP f2 m1 (by omega)
  have D4:=aP f3 m2 (by omega)
  have hml:((p.acts.map aH.av).length:Int)=p.acts.length:=by rw [List.length_map]
  rw [← hml] at D3
  rw [f1] at e3;dsimp only at e3;rw [f2] at e3;dsimp only at e3;rw [f3] at e3;dsimp only at e3
  have BR:=iH b ⟨1+k,a,v⟩ (fun m hm=>Di g1 hm)
  have BE:=bZ (restrict b ⟨1+k,a,v⟩)
  generalize restrict b ⟨1+k,a,v⟩=x at BR BE e3
  cases he:aZ x with
  |true=>
   rw [he] at BE e3
   rw [if_pos rfl] at e3
   (repeat' ((conv=>whnf);first|refine gA ?_|(refine gB ?_ ?_<;>intro h)|refine gV ?_|refine gC (D2) ?_|refine gC (D3) ?_|refine gC (D4) ?_|refine gC (BR) ?_|refine gC (BE) ?_|intro _))<;>try (conv=>whnf)
   all_goals first
    |(exfalso;omega)
    |skip
   refine nw (j+1) ?_ ?_
   ·(repeat' ((conv=>whnf)<;>(first|exact trivial|exact rfl|with_reducible refine And.intro ?_ ?_)))<;>((conv=>whnf)<;>(first|exact congrArg (AV.int .i64) (by omega)|(simp only [e3];done)))
   omega
  |false=>
   rw [he] at BE e3
   rw [if_neg (by decide)] at e3
   (repeat' ((conv=>whnf);first|refine gA ?_|(refine gB ?_ ?_<;>intro h)|refine gV ?_|refine gC (D2) ?_|refine gC (D3) ?_|refine gC (D4) ?_|refine gC (BR) ?_|refine gC (BE) ?_|intro _))<;>try (conv=>whnf)
   all_goals first
    |(exfalso;omega)
    |skip
   refine nw (j+1) ?_ ?_
   ·(repeat' ((conv=>whnf)<;>(first|exact trivial|exact rfl|with_reducible refine And.intro ?_ ?_)))<;>((conv=>whnf)<;>(first|exact congrArg (AV.int .i64) (by omega)|(simp only [e3];done)))
   omega
 ·have ej:j=n.toNat:=by omega
  subst ej
  generalize itN (iC p) n.toNat (aT p) c1=q
  obtain⟨b,cu⟩:=q
  dsimp only
  (repeat' ((conv=>whnf);first|refine gA ?_|(refine gB ?_ ?_<;>intro h)|refine gV ?_|intro _))<;>try (conv=>whnf)
  all_goals first
   |(exfalso;omega)
   |exact fv
theorem FH (p:Proj) (hp:aF p=true) (c:Cur) (hc:c.ok) (most:Int) (hm:0≤most∧most≤20):Con 61 [.bx c.cells,.d p.av,.d (i64 most)] (RDr (.d (lits (jG p most c).1)) (jG p most c).2):=by
 refine con Tryz.func61 rfl rfl Tryz.call61 rfl fun hwf=>?_
 clear hwf
 obtain⟨n,c1,e1,h1,n0,n1⟩:=ak hc (most+1)
 have n1:=n1 (by omega)
 have D1:=aP e1 hc (by omega)
 unfold jG
 dsimp only
 rw [e1]
 dsimp only
 have hinv:=fun j=>iW (f:=kE p) (fun j l=>l.length=j) (fun k l c hc h=>⟨by simp [kE,h],(wV hp hc).2⟩) j [] c1 h1 rfl
 (repeat' ((conv=>whnf);first|refine gA ?_|(refine gB ?_ ?_<;>intro h)|refine gP ?_|refine gV ?_|refine gC (D1) ?_|intro _))<;>try (conv=>whnf)
 refine aB [0,4] [4] [9] ?_
 (conv=>whnf)
 refine aA.mk ((Nat)) (fun j=>((j:Int)≤n)) (fun j=>[(8,.data (i64 (n - j))),(7,.own 9 0)]) (fun j=>[(1000000,[.data (u8s (itN (kE p) j [] c1).2.b),.data (i64 (itN (kE p) j [] c1).2.i),.data (i64 (itN (kE p) j [] c1).2.h)])]) (fun j=>[(9,82,(itN (kE p) j [] c1).1.map Lit.av,0)]) (fun j=>n.toNat - j) (0) ?_ ?_ ?_
 rotate_left
 ·(repeat' ((conv=>whnf)<;>(first|exact trivial|exact rfl|with_reducible refine And.intro ?_ ?_)))<;>((conv=>whnf)<;>(exact congrArg (AV.int .i64) (by omega)))
 rotate_left
 ·omega
 rintro j hj
 obtain⟨g1,g2⟩:=hinv j
 by_cases hlt:(j:Int) < n
 ·have e3:itN (kE p) (j+1) [] c1=UO p (itN (kE p) j [] c1):=rfl
  generalize hq:itN (kE p) j [] c1=q at g1 g2 e3 ⊢
  obtain⟨l,cu⟩:=q
  dsimp only at g1 g2 e3 ⊢
  have BD:=FJ p hp cu g2
  unfold UO at e3
  dsimp only at e3
  generalize dS p cu=y at BD e3
  obtain⟨y,cv⟩:=y
  dsimp only at BD e3
  (repeat' ((conv=>whnf);first|refine gA ?_|(refine gB ?_ ?_<;>intro h)|refine gP ?_|refine gV ?_|refine gC (BD) ?_|intro _))<;>try (conv=>whnf)
  all_goals first
   |(exfalso;omega)
   |skip
  refine nw (j+1) ?_ ?_
  ·(repeat' ((conv=>whnf)<;>(first|exact trivial|exact rfl|with_reducible refine And.intro ?_ ?_)))<;>((conv=>whnf)<;>(first|exact congrArg (AV.int .i64) (by omega)|(simp only [e3];done)|(simp only [e3,List.map_append,List.map_cons,List.map_nil];done)))
  omega
 ·have ej:j=n.toNat:=by omega
  subst ej
  generalize itN (kE p) n.toNat [] c1=q
  obtain⟨l,cu⟩:=q
  dsimp only
  (repeat' ((conv=>whnf);first|refine gA ?_|(refine gB ?_ ?_<;>intro h)|refine gP ?_|refine gV ?_|refine gC (nU l) ?_|intro _))<;>try (conv=>whnf)
  all_goals first
   |(exfalso;omega)
   |exact fv
end Go.Proofs.YtefgamefajmdkaaGreat.Abs
