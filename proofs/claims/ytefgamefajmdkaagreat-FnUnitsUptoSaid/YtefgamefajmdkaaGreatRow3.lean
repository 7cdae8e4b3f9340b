/- A row of numbers in a block of one's own, while other blocks are made: what stands through calls and stores. -/
import Derived.Test.YtefgamefajmdkaaGreatLayC
import Derived.Sort.Row
import Derived.Laws.IdiomCopy
import Derived.Laws.Tables
set_option linter.all false
namespace Go.Proofs.YtefgamefajmdkaaGreat.Abs
open Go.RowKit
structure DW (E sz:Nat) (w W:World) (b cap:Nat) (F:List Int):Prop where
 os:W.os=w.os
 tape:W.tape=w.tape
 output:W.output=w.output
 size:w.heap.size≤W.heap.size
 drawn:w.drawn≤W.drawn
 lt:b < w.heap.size
 other:∀k,k < w.heap.size→k≠b→W.heap[k]? =w.heap[k]?
 row:∃cur,W.heap[b]? =some (.cells cur E (0,0))∧cur.size=cap*sz∧F.length≤cap*sz∧∀(j:Nat) (x:Int),F[j]? =some x→cur[j]? =some (.int .i64 x)
section
variable {E sz:Nat} {w W W':World} {b cap:Nat} {F:List Int}
theorem DW.cell (h:DW E sz w W b cap F) {j:Nat} {x:Int} (hj:F[j]? =some x):W.cell? ⟨b,j,none⟩=some (.int .i64 x):=by
 obtain⟨cur,h1,h2,h3,h4⟩:=h.row
 rw [cell_of_row W b j cur E _ h1];exact h4 j x hj
theorem DW.frozen (h:DW E sz w W b cap F) (j:Nat):W.frozen? ⟨b,j,none⟩=false:=by
 obtain⟨cur,h1,_⟩:=h.row
 simp [World.frozen?,h1]
theorem DW.ltW (h:DW E sz w W b cap F):b < W.heap.size:=Nat.lt_of_lt_of_le h.lt h.size
theorem DW.below (h:DW E sz w W b cap F) (k:Quiet W W'):DW E sz w W' b cap F:=by
 refine⟨k.os.trans h.os,k.tape.trans h.tape,k.output.trans h.output,Nat.le_trans h.size k.size,Nat.le_trans h.drawn k.drawn,h.lt,fun i hi hb=>(k.block i (Nat.lt_of_lt_of_le hi h.size) id).trans (h.other i hi hb),?_⟩
 obtain⟨cur,h1,h2⟩:=h.row
 exact⟨cur,by rw [k.block b h.ltW id];exact h1,h2⟩
theorem DW.set (h:DW E sz w W b cap F) {j:Nat} {x:Int} (hj:j < F.length):DW E sz w (W.setCell ⟨b,j,none⟩ (.int .i64 x)) b cap (F.set j x):=by
 obtain⟨cur,h1,h2,h3,h4⟩:=h.row
 rw [setCell_eq_setRow W b j cur E _ _ h1]
 have hsz:(W.setRow b (cur.setIfInBounds j (.int .i64 x))).heap.size=W.heap.size:=by simp [World.setRow]
 refine⟨h.os,h.tape,h.output,by rw [hsz];exact h.size,h.drawn,h.lt,fun i hi hb=>?_,_,setRow_heap W b cur _ E _ h1,by simpa using h2,by simpa using h3,fun i y hi=>?_⟩
 ·rw [← h.other i hi hb]
  simp only [World.setRow,Array.getElem?_modify,if_neg (Ne.symm hb)]
 ·rw [Array.getElem?_setIfInBounds]
  rw [List.getElem?_set] at hi
  by_cases e:j=i
  ·subst e
   have hlt:j < cur.size:=by omega
   simp only [if_true,hlt,hj] at hi ⊢
   cases hi;rfl
  ·simp only [e,if_false] at hi ⊢
   exact h4 i y hi
theorem DW.alloc (h:DW E sz w W b cap F) (o:Obj):DW E sz w (W.alloc o) b cap F:=h.below (Quiet.alloc _ _)
end
theorem DW.quiet {E sz:Nat} {w0 w W:World} {b cap:Nat} {F:List Int} (h:DW E sz w W b cap F) (q:Quiet w0 w) (hb:w0.heap.size≤b):Quiet w0 W:=
 ⟨h.os.trans q.os,h.tape.trans q.tape,h.output.trans q.output,Nat.le_trans q.size h.size,fun k hk _ _=>(h.other k (Nat.lt_of_lt_of_le hk q.size) (by omega)).trans (q.block k hk id),fun _ _ _ hb=>hb.elim,fun _ hb=>hb.elim,Nat.le_trans q.drawn h.drawn⟩
end Go.Proofs.YtefgamefajmdkaaGreat.Abs
