/- Sets of numbers: sorted, each once. -/
import Derived.Shelf.SortM.Plain
import Derived.Shelf.SortM.SortNone
import Derived.Test.YtefgamefajmdkaaGreatSh
import Derived.Test.YtefgamefajmdkaaGreatCmp
import Derived.Test.YtefgamefajmdkaaGreatWo
set_option linter.all false
set_option maxRecDepth 100000
set_option maxHeartbeats 4000000
namespace Go.Proofs.YtefgamefajmdkaaGreat.Abs
open Go.Proofs Go.RowKit Go.Sort
theorem Hw:∀{l m:List Int},l.Pairwise (· < ·)→m.Pairwise (· < ·)→(∀x,x∈l↔x∈m)→l=m
 |[],[],_,_,_=>rfl
 |[],y::m,_,_,h=>by have:=(h y).2 (by simp);simp at this
 |x::l,[],_,_,h=>by have:=(h x).1 (by simp);simp at this
 |x::l,y::m,hl,hm,h=>by
  rw [List.pairwise_cons] at hl hm
  have hxy:x=y:=by
   rcases List.mem_cons.1 ((h x).1 (by simp)) with e|e
   ·exact e
   ·rcases List.mem_cons.1 ((h y).2 (by simp)) with e'|e'
    ·exact e'.symm
    ·have h1:=hm.1 x e;have h2:=hl.1 y e';omega
  subst hxy
  rw [Hw hl.2 hm.2 fun z=>⟨fun hz=>?_,fun hz=>?_⟩]
  ·rcases List.mem_cons.1 ((h z).1 (by simp [hz])) with e|e
   ·have:=hl.1 z hz;omega
   ·exact e
  ·rcases List.mem_cons.1 ((h z).2 (by simp [hz])) with e|e
   ·have:=hm.1 z hz;omega
   ·exact e
theorem KF:∀{l:List Int} {n:Int},l.Pairwise (· < ·)→n∉l→(l.take (lY l n)++[n]++l.drop (lY l n)).Pairwise (· < ·)∧∀x,x∈l.take (lY l n)++[n]++l.drop (lY l n)↔x∈l∨x=n
 |[],n,_,_=>by simp [lY]
 |y::r,n,h,hn=>by
  rw [List.pairwise_cons] at h
  simp only [List.mem_cons,not_or] at hn
  by_cases hy:y < n
  ·have e:lY (y::r) n=lY r n+1:=by rw [lY,List.takeWhile_cons,if_pos (by simpa using hy)];rfl
   obtain⟨h1,h2⟩:=KF h.2 hn.2
   rw [e,List.take_succ_cons,List.drop_succ_cons,List.cons_append,List.cons_append]
   refine⟨List.pairwise_cons.2 ⟨fun z hz=>?_,h1⟩,fun x=>?_⟩
   ·rcases (h2 z).1 hz with e'|rfl
    ·exact h.1 z e'
    ·exact hy
   ·rw [List.mem_cons,h2 x,List.mem_cons]
    constructor
    ·rintro (h|h|h)<;>simp [h]
    ·rintro ((h|h)|h)<;>simp [h]
  ·have e:lY (y::r) n=0:=by rw [lY,List.takeWhile_cons,if_neg (by simpa using hy)];rfl
   rw [e,List.take_zero,List.drop_zero,List.nil_append,List.singleton_append]
   refine⟨List.pairwise_cons.2 ⟨fun z hz=>?_,List.pairwise_cons.2 h⟩,fun x=>by rw [List.mem_cons];exact or_comm⟩
   rcases List.mem_cons.1 hz with rfl|hz
   ·omega
   ·have:=h.1 z hz;omega
theorem LP {l:List Int} {n:Int} (h:l.Pairwise (· < ·)):(kJ l n).Pairwise (· < ·)∧∀x,x∈kJ l n↔x∈l∨x=n:=by
 unfold kJ
 split
 ·rename_i hc
  have hc':n∈l:=by simpa using hc
  exact⟨h,fun x=>⟨.inl,by rintro (hx|rfl)<;>assumption⟩⟩
 ·rename_i hc
  exact KF h (by simpa using hc)
theorem wI:∀{l o:List Int},o.Pairwise (· < ·)→(l.foldl kJ o).Pairwise (· < ·)∧∀x,x∈l.foldl kJ o↔x∈o∨x∈l
 |[],o,h=>⟨h,by simp⟩
 |y::l,o,h=>by
  rw [List.foldl_cons]
  obtain⟨h1,h2⟩:=LP (n:=y) h
  obtain⟨h3,h4⟩:=wI (l:=l) h1
  refine⟨h3,fun x=>?_⟩
  rw [h4,h2,List.mem_cons,or_assoc]
theorem jf (l:List Int):(setOf l).length≤l.length:=by
 have:∀(l o:List Int),(l.foldl kJ o).length≤o.length+l.length:=by
  intro l
  induction l with
  |nil=>simp
  |cons x l ih=>
   intro o
   rw [List.foldl_cons]
   have h1:=ih (kJ o x)
   have h2:=Kq o x
   simp only [List.length_cons];omega
 have:=this l []
 simpa [setOf] using this
end Go.Proofs.YtefgamefajmdkaaGreat.Abs
