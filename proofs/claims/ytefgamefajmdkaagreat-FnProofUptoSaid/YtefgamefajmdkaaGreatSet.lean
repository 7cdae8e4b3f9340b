/- Sets of numbers: sorted, each once. -/
import Derived.Shelf.SortM.Plain
import Derived.Shelf.SortM.SortNone
import Derived.Test.YtefgamefajmdkaaGreatSh
import Derived.Test.YtefgamefajmdkaaGreatCmp
import Derived.Test.YtefgamefajmdkaaGreatWo
set_option linter.all false
set_option maxRecDepth 100000
set_option maxHeartbeats 4000000
namespace Go.Proofs.YtefgamefajmdkaaGreat.Abs
open Go.Proofs Go.RowKit Go.Sort
theorem Gc:∀{l m:List Int},l.Pairwise (· < ·)→m.Pairwise (· < ·)→(∀x,x∈l↔x∈m)→l=m
 |[],[],_,_,_=>rfl
 |[],y::m,_,_,h=>by have:=(h y).2 (by simp);simp at this
 |x::l,[],_,_,h=>by have:=(h x).1 (by simp);simp at this
 |x::l,y::m,hl,hm,h=>by
  rw [List.pairwise_cons] at hl hm
  have hxy:x=y:=by
   rcases List.mem_cons.1 ((h x).1 (by simp)) with e|e
   ·exact e
   ·rcases List.mem_cons.1 ((h y).2 (by simp)) with e'|e'
    ·exact e'.symm
    ·have h1:=hm.1 x e;have h2:=hl.1 y e';omega
  subst hxy
  rw [Gc hl.2 hm.2 fun z=>⟨fun hz=>?_,fun hz=>?_⟩]
  ·rcases List.mem_cons.1 ((h z).1 (by simp [hz])) with e|e
   ·have:=hl.1 z hz;omega
   ·exact e
  ·rcases List.mem_cons.1 ((h z).2 (by simp [hz])) with e|e
   ·have:=hm.1 z hz;omega
   ·exact e
theorem JK:∀{l:List Int} {n:Int},l.Pairwise (· < ·)→n∉l→(l.take (lN l n)++[n]++l.drop (lN l n)).Pairwise (· < ·)∧∀x,x∈l.take (lN l n)++[n]++l.drop (lN l n)↔x∈l∨x=n
 |[],n,_,_=>by simp [lN]
 |y::r,n,h,hn=>by
  rw [List.pairwise_cons] at h
  simp only [List.mem_cons,not_or] at hn
  by_cases hy:y < n
  ·have e:lN (y::r) n=lN r n+1:=by rw [lN,List.takeWhile_cons,if_pos (by simpa using hy)];rfl
   obtain⟨h1,h2⟩:=JK h.2 hn.2
   rw [e,List.take_succ_cons,List.drop_succ_cons,List.cons_append,List.cons_append]
   refine⟨List.pairwise_cons.2 ⟨fun z hz=>?_,h1⟩,fun x=>?_⟩
   ·rcases (h2 z).1 hz with e'|rfl
    ·exact h.1 z e'
    ·exact hy
   ·rw [List.mem_cons,h2 x,List.mem_cons]
    constructor
    ·rintro (h|h|h)<;>simp [h]
    ·rintro ((h|h)|h)<;>simp [h]
  ·have e:lN (y::r) n=0:=by rw [lN,List.takeWhile_cons,if_neg (by simpa using hy)];rfl
   rw [e,List.take_zero,List.drop_zero,List.nil_append,List.singleton_append]
   refine⟨List.pairwise_cons.2 ⟨fun z hz=>?_,List.pairwise_cons.2 h⟩,fun x=>by rw [List.mem_cons];exact or_comm⟩
   rcases List.mem_cons.1 hz with rfl|hz
   ·omega
   ·have:=h.1 z hz;omega
theorem KP {l:List Int} {n:Int} (h:l.Pairwise (· < ·)):(kg l n).Pairwise (· < ·)∧∀x,x∈kg l n↔x∈l∨x=n:=by
 unfold kg
 split
 ·rename_i hc
  have hc':n∈l:=by simpa using hc
  exact⟨h,fun x=>⟨.inl,by rintro (hx|rfl)<;>assumption⟩⟩
 ·rename_i hc
  exact JK h (by simpa using hc)
theorem vO:∀{l o:List Int},o.Pairwise (· < ·)→(l.foldl kg o).Pairwise (· < ·)∧∀x,x∈l.foldl kg o↔x∈o∨x∈l
 |[],o,h=>⟨h,by simp⟩
 |y::l,o,h=>by
  rw [List.foldl_cons]
  obtain⟨h1,h2⟩:=KP (n:=y) h
  obtain⟨h3,h4⟩:=vO (l:=l) h1
  refine⟨h3,fun x=>?_⟩
  rw [h4,h2,List.mem_cons,or_assoc]
theorem iT (l:List Int):(setOf l).length≤l.length:=by
 have:∀(l o:List Int),(l.foldl kg o).length≤o.length+l.length:=by
  intro l
  induction l with
  |nil=>simp
  |cons x l ih=>
   intro o
   rw [List.foldl_cons]
   have h1:=ih (kg o x)
   have h2:=Jz o x
   simp only [List.length_cons];omega
 have:=this l []
 simpa [setOf] using this
end Go.Proofs.YtefgamefajmdkaaGreat.Abs
