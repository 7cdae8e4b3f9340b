/- Contracts: logs that are made, copied, and grow. -/
import Derived.Test.YtjfnojijdggfhaaGreatC35
import Derived.Test.YtjfnojijdggfhaaGreatC30
import Derived.Test.YtjfnojijdggfhaaGreatPlain
set_option linter.all false
set_option maxRecDepth 20000
set_option maxHeartbeats 0
namespace Go.Proofs.YtjfnojijdggfhaaGreat.Abs
open Go.Proofs Go.RowKit
attribute [local irreducible] bL eX yC status litValue
end Go.Proofs.YtjfnojijdggfhaaGreat.Abs
namespace Go.Proofs.YtjfnojijdggfhaaGreat.Abs
open Go.Proofs Go.RowKit
attribute [local irreducible] bL eX yC status litValue
end Go.Proofs.YtjfnojijdggfhaaGreat.Abs
namespace Go.Proofs.YtjfnojijdggfhaaGreat.Abs
open Go.Proofs Go.RowKit
attribute [local irreducible] bL eX yC status litValue
theorem xL {p:Proj} {b:Dom} {s:Infer} (h:bL p b=some s):usable p b=true∧bT s.lit iJ=false:=by
 unfold bL at h
 split at h
 ·cases h
 ·obtain⟨r,hr,h1⟩:=List.exists_of_findSome?_eq_some h
  obtain⟨a,_,h2⟩:=List.exists_of_findSome?_eq_some h1
  refine⟨(vC hr).1,?_⟩
  unfold vE at h2
  obtain⟨l,hl,rfl⟩:=Option.map_eq_some_iff.1 h2
  have hm:=List.mem_of_head? hl
  have:l.kind=1∨l.kind=2∨l.kind=4:=by
   unfold iR at hm
   split at hm
   ·simp only [rO,List.mem_append] at hm
    rcases hm with (hm|hm)|hm
    ·unfold atLeast at hm;split at hm
     ·rw [List.mem_singleton.1 hm];exact .inl rfl
     ·simp at hm
    ·unfold sN at hm;split at hm
     ·rw [List.mem_singleton.1 hm];exact .inr (.inl rfl)
     ·simp at hm
    ·obtain⟨v,_,rfl⟩:=List.mem_map.1 hm;exact .inr (.inr rfl)
   ·simp at hm
  simp only [bT,iJ]
  rcases this with h|h|h<;>simp [h]
end Go.Proofs.YtjfnojijdggfhaaGreat.Abs
