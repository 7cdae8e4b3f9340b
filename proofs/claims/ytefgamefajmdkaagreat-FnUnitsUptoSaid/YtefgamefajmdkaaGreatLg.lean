/- Contracts: logs that are made, copied, and grow. -/
import Derived.Test.YtefgamefajmdkaaGreatC35
import Derived.Test.YtefgamefajmdkaaGreatC30
import Derived.Test.YtefgamefajmdkaaGreatPlain
set_option linter.all false
set_option maxRecDepth 20000
set_option maxHeartbeats 0
namespace Go.Proofs.YtefgamefajmdkaaGreat.Abs
open Go.Proofs Go.RowKit
attribute [local irreducible] bJ gF aM status litValue
def UA (s:Infer):Lin:=⟨1,s.rule,s.clause⟩
def says (g:Lg) (s:Infer):Bool:=(decide ((status g.dom s.clause).1=0)&&(!dD (status g.dom s.clause).2 bq&&dD (status g.dom s.clause).2 s.lit))||(decide ((status g.dom s.clause).1=1)&&decide (litValue g.dom s.lit=1))
def Yw (g:Lg) (s:Infer):Bool:=decide (aM g.proj g.lines (UA s)=0)&&says g s
def Yx (g:Lg) (s:Infer):Lg:=⟨g.proj,restrict g.dom s.lit,g.decs,g.lines++[UA s]⟩
def ZH (g:Lg) (s:Infer):Option Lg:=if Yw g s=true then some (Yx g s) else none
def Yy (g:Lg):Option Lg:=match bJ g.proj g.dom with|none=>none|some s=>ZH g s
def wN:Nat→Nat→Lg→Lg×Nat
 |0,n,g=>(g,n)
 |f+1,n,g=>match Yy g with|none=>(g,n)|some h=>wN f (n+1) h
end Go.Proofs.YtefgamefajmdkaaGreat.Abs
namespace Go.Proofs.YtefgamefajmdkaaGreat.Abs
open Go.Proofs Go.RowKit
attribute [local irreducible] bJ gF aM status litValue
def KP (g:Lg) (r:Rul):Lin:=⟨1,r,explain g.proj g.dom r⟩
def ER (g:Lg):Lin:=⟨2,OJ,cB (g.decs.map negate)⟩
def wO (g:Lg):Option Lg:=match gF g.proj g.dom with
 |none=>none
 |some r=>if aM g.proj g.lines (KP g r)=0∧aM g.proj (g.lines++[KP g r]) (ER g)=0 then some ⟨g.proj,g.dom,g.decs,g.lines++[KP g r]++[ER g]⟩ else none
end Go.Proofs.YtefgamefajmdkaaGreat.Abs
namespace Go.Proofs.YtefgamefajmdkaaGreat.Abs
open Go.Proofs Go.RowKit
attribute [local irreducible] bJ gF aM status litValue
theorem KQ {p:Proj} {b:Dom} {s:Infer} (h:bJ p b=some s):usable p b=true∧dD s.lit bq=false:=by
 unfold bJ at h
 split at h
 ·cases h
 ·obtain⟨r,hr,h1⟩:=List.exists_of_findSome?_eq_some h
  obtain⟨a,_,h2⟩:=List.exists_of_findSome?_eq_some h1
  refine⟨(Pn hr).1,?_⟩
  unfold EO at h2
  obtain⟨l,hl,rfl⟩:=Option.map_eq_some_iff.1 h2
  have hm:=List.mem_of_head? hl
  have:l.kind=1∨l.kind=2∨l.kind=4:=by
   unfold oF at hm
   split at hm
   ·simp only [Aa,List.mem_append] at hm
    rcases hm with (hm|hm)|hm
    ·unfold atLeast at hm;split at hm
     ·rw [List.mem_singleton.1 hm];exact .inl rfl
     ·simp at hm
    ·unfold ze at hm;split at hm
     ·rw [List.mem_singleton.1 hm];exact .inr (.inl rfl)
     ·simp at hm
    ·obtain⟨v,_,rfl⟩:=List.mem_map.1 hm;exact .inr (.inr rfl)
   ·simp at hm
  simp only [dD,bq]
  rcases this with h|h|h<;>simp [h]
end Go.Proofs.YtefgamefajmdkaaGreat.Abs
namespace Go.Proofs.YtefgamefajmdkaaGreat.Abs
open Go.Proofs Go.RowKit
end Go.Proofs.YtefgamefajmdkaaGreat.Abs
