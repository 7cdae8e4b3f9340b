/- Contracts: logs that are made, copied, and grow. -/
import Derived.Test.YtefgamefajmdkaaGreatC35
import Derived.Test.YtefgamefajmdkaaGreatC30
import Derived.Test.YtefgamefajmdkaaGreatPlain
set_option linter.all false
set_option maxRecDepth 20000
set_option maxHeartbeats 0
namespace Go.Proofs.YtefgamefajmdkaaGreat.Abs
open Go.Proofs Go.RowKit
attribute [local irreducible] bG fP aL status litValue
def TQ (s:Infer):Lin:=⟨1,s.rule,s.clause⟩
def says (g:Lg) (s:Infer):Bool:=(decide ((status g.dom s.clause).1=0)&&(!dA (status g.dom s.clause).2 bf&&dA (status g.dom s.clause).2 s.lit))||(decide ((status g.dom s.clause).1=1)&&decide (litValue g.dom s.lit=1))
def XK (g:Lg) (s:Infer):Bool:=decide (aL g.proj g.lines (TQ s)=0)&&says g s
def XL (g:Lg) (s:Infer):Lg:=⟨g.proj,restrict g.dom s.lit,g.decs,g.lines++[TQ s]⟩
def YU (g:Lg) (s:Infer):Option Lg:=if XK g s=true then some (XL g s) else none
def XM (g:Lg):Option Lg:=match bG g.proj g.dom with|none=>none|some s=>YU g s
def vT:Nat→Nat→Lg→Lg×Nat
 |0,n,g=>(g,n)
 |f+1,n,g=>match XM g with|none=>(g,n)|some h=>vT f (n+1) h
end Go.Proofs.YtefgamefajmdkaaGreat.Abs
namespace Go.Proofs.YtefgamefajmdkaaGreat.Abs
open Go.Proofs Go.RowKit
attribute [local irreducible] bG fP aL status litValue
def JW (g:Lg) (r:Rul):Lin:=⟨1,r,explain g.proj g.dom r⟩
def DX (g:Lg):Lin:=⟨2,NP,bW (g.decs.map negate)⟩
def vU (g:Lg):Option Lg:=match fP g.proj g.dom with
 |none=>none
 |some r=>if aL g.proj g.lines (JW g r)=0∧aL g.proj (g.lines++[JW g r]) (DX g)=0 then some ⟨g.proj,g.dom,g.decs,g.lines++[JW g r]++[DX g]⟩ else none
end Go.Proofs.YtefgamefajmdkaaGreat.Abs
namespace Go.Proofs.YtefgamefajmdkaaGreat.Abs
open Go.Proofs Go.RowKit
attribute [local irreducible] bG fP aL status litValue
theorem JX {p:Proj} {b:Dom} {s:Infer} (h:bG p b=some s):usable p b=true∧dA s.lit bf=false:=by
 unfold bG at h
 split at h
 ·cases h
 ·obtain⟨r,hr,h1⟩:=List.exists_of_findSome?_eq_some h
  obtain⟨a,_,h2⟩:=List.exists_of_findSome?_eq_some h1
  refine⟨(Ou hr).1,?_⟩
  unfold DU at h2
  obtain⟨l,hl,rfl⟩:=Option.map_eq_some_iff.1 h2
  have hm:=List.mem_of_head? hl
  have:l.kind=1∨l.kind=2∨l.kind=4:=by
   unfold nY at hm
   split at hm
   ·simp only [zi,List.mem_append] at hm
    rcases hm with (hm|hm)|hm
    ·unfold atLeast at hm;split at hm
     ·rw [List.mem_singleton.1 hm];exact .inl rfl
     ·simp at hm
    ·unfold yj at hm;split at hm
     ·rw [List.mem_singleton.1 hm];exact .inr (.inl rfl)
     ·simp at hm
    ·obtain⟨v,_,rfl⟩:=List.mem_map.1 hm;exact .inr (.inr rfl)
   ·simp at hm
  simp only [dA,bf]
  rcases this with h|h|h<;>simp [h]
end Go.Proofs.YtefgamefajmdkaaGreat.Abs
namespace Go.Proofs.YtefgamefajmdkaaGreat.Abs
open Go.Proofs Go.RowKit
end Go.Proofs.YtefgamefajmdkaaGreat.Abs
