/- A row of numbers in a block of one's own, while other blocks are made: what stands through calls and stores. -/
import Derived.Test.YtjfnojijdggfhaaGreatLayC
import Derived.Sort.Row
import Derived.Laws.IdiomCopy
import Derived.Laws.Tables
set_option linter.all false
namespace Go.Proofs.YtjfnojijdggfhaaGreat.Abs
open Go.RowKit
structure DW (E sz:Nat) (w W:World) (b cap:Nat) (F:List Int):Prop where
 os:W.os=w.os
 tape:W.tape=w.tape
 output:W.output=w.output
 size:w.heap.size≤W.heap.size
 drawn:w.drawn≤W.drawn
 lt:b < w.heap.size
 other:∀k,k < w.heap.size→k≠b→W.heap[k]? =w.heap[k]?
 row:∃cur,W.heap[b]? =some (.cells cur E (0,0))∧cur.size=cap*sz∧F.length≤cap*sz∧∀(j:Nat) (x:Int),F[j]? =some x→cur[j]? =some (.int .i64 x)
section
variable {E sz:Nat} {w W W':World} {b cap:Nat} {F:List Int}
theorem DW.cell (h:DW E sz w W b cap F) {j:Nat} {x:Int} (hj:F[j]? =some x):W.cell? ⟨b,j,none⟩=some (.int .i64 x):=by
 obtain⟨cur,h1,h2,h3,h4⟩:=h.row
 rw [cell_of_row W b j cur E _ h1];exact h4 j x hj
theorem DW.frozen (h:DW E sz w W b cap F) (j:Nat):W.frozen? ⟨b,j,none⟩=false:=by
 obtain⟨cur,h1,_⟩:=h.row
 simp [World.frozen?,h1]
theorem DW.ltW (h:DW E sz w W b cap F):b < W.heap.size:=Nat.lt_of_lt_of_le h.lt h.size
theorem DW.below (h:DW E sz w W b cap F) (k:Quiet W W'):DW E sz w W' b cap F:=by
 refine⟨k.os.trans h.os,k.tape.trans h.tape,k.output.trans h.output,Nat.le_trans h.size k.size,Nat.le_trans h.drawn k.drawn,h.lt,fun i hi hb=>(k.block i (Nat.lt_of_lt_of_le hi h.size) id).trans (h.other i hi hb),?_⟩
 obtain⟨cur,h1,h2⟩:=h.row
 exact⟨cur,by rw [k.block b h.ltW id];exact h1,h2⟩
theorem DW.set (h:DW E sz w W b cap F) {j:Nat} {x:Int} (hj:j < F.length):DW E sz w (W.setCell ⟨b,j,none⟩ (.int .i64 x)) b cap (F.set j x):=by
 obtain⟨cur,h1,h2,h3,h4⟩:=h.row
 rw [setCell_eq_setRow W b j cur E _ _ h1]
 have hsz:(W.setRow b (cur.setIfInBounds j (.int .i64 x))).heap.size=W.heap.size:=by simp [World.setRow]
 refine⟨h.os,h.tape,h.output,by rw [hsz];exact h.size,h.drawn,h.lt,fun i hi hb=>?_,_,setRow_heap W b cur _ E _ h1,by simpa using h2,by simpa using h3,fun i y hi=>?_⟩
 ·rw [← h.other i hi hb]
  simp only [World.setRow,Array.getElem?_modify,if_neg (Ne.symm hb)]
 ·rw [Array.getElem?_setIfInBounds]
  rw [List.getElem?_set] at hi
  by_cases e:j=i
  ·subst e
   have hlt:j < cur.size:=by omega
   simp only [if_true,hlt,hj] at hi ⊢
   cases hi;rfl
  ·simp only [e,if_false] at hi ⊢
   exact h4 i y hi
theorem DW.alloc (h:DW E sz w W b cap F) (o:Obj):DW E sz w (W.alloc o) b cap F:=h.below (Quiet.alloc _ _)
theorem DW.sets:∀{vs:List Int} {j:Nat} {W:World} {F:List Int},DW E sz w W b cap F→j+vs.length≤F.length→DW E sz w (W.setCells b j (vs.map (Value.int .i64))) b cap (F.take j++vs++F.drop (j+vs.length))
 |[],j,W,F,h,_=>by simpa [World.setCells] using h
 |x::vs,j,W,F,h,hl=>by
  simp only [List.length_cons] at hl
  simp only [List.map_cons,World.setCells]
  have h1:=h.set (j:=j) (x:=x) (by omega)
  have h2:=DW.sets (vs:=vs) (j:=j+1) h1 (by simp;omega)
  have e:(F.set j x).take (j+1)++vs++(F.set j x).drop (j+1+vs.length)=F.take j++(x::vs)++F.drop (j+(x::vs).length):=by
   rw [List.take_succ_eq_append_getElem (by simp;omega),List.take_set_of_le (Nat.le_refl _),List.drop_set_of_lt (by omega)]
   simp [List.getElem_set_self,show j+1+vs.length=j+(vs.length+1) by omega]
  rw [e] at h2
  exact h2
theorem DW.pfx (h:DW E sz w W b cap F) {G:List Int} (hG:∃r,F=G++r):DW E sz w W b cap G:=by
 obtain⟨r,rfl⟩:=hG
 obtain⟨cur,h1,h2,h3,h4⟩:=h.row
 refine⟨h.os,h.tape,h.output,h.size,h.drawn,h.lt,h.other,cur,h1,h2,by simp at h3;omega,fun j x hj=>h4 j x ?_⟩
 rw [List.getElem?_append_left (List.getElem?_eq_some_iff.1 hj).1];exact hj
theorem DW.owns (h:DW E sz w W b cap F) {n base:Nat} (hn:F.length=n*sz) (hb:base≤b) (hc:n≤cap) (hm:cap≤maxLen):W.ownsRow base E sz (.slice (some ⟨b,0,none⟩) n cap) n (F.map (Value.int .i64)):=by
 obtain⟨cur,h1,h2,h3,h4⟩:=h.row
 refine⟨by simpa using hn,.inr ⟨b,cap,cur,rfl,hb,h1,hc,hm,h2,?_⟩⟩
 apply List.ext_getElem?
 intro j
 rw [List.getElem?_take,List.getElem?_map]
 by_cases hj:j < n*sz
 ·rw [if_pos hj]
  obtain⟨x,hx⟩:∃x,F[j]? =some x:=⟨F[j]'(by omega),by simp⟩
  rw [hx,Array.getElem?_toList,h4 j x hx];rfl
 ·rw [if_neg hj,List.getElem?_eq_none (by omega)];rfl
end
theorem CQ {E sz n cap:Nat} {w:World} {b:Nat} {F:List Int} {base:Nat} (h:w.ownsRow base E sz (.slice (some ⟨b,0,none⟩) n cap) n (F.map (Value.int .i64))):DW E sz w w b cap F∧n≤cap∧cap≤maxLen∧F.length=n*sz∧base≤b:=by
 have hl:=h.1
 rcases h.2 with⟨h0,_⟩|⟨g,c,cur,h0,hb,h1,h2,h3,h4,h5⟩
 ·cases h0
 cases h0
 have hlen:F.length=n*sz:=by simpa using hl
 have hle:n*sz≤cap*sz:=Nat.mul_le_mul_right _ h2
 refine⟨⟨rfl,rfl,rfl,Nat.le_refl _,Nat.le_refl _,?_,fun _ _ _=>rfl,cur,h1,h4,by omega,fun j x hj=>?_⟩,h2,h3,hlen,hb⟩
 ·exact (Array.getElem?_eq_some_iff.1 h1).1
 ·have hj':=(List.getElem?_eq_some_iff.1 hj).1
  have:(F.map (Value.int .i64))[j]? =some (.int .i64 x):=by rw [List.getElem?_map,hj];rfl
  rw [← h5,List.getElem?_take,if_pos (by omega),Array.getElem?_toList] at this
  exact this
theorem DW.quiet {E sz:Nat} {w0 w W:World} {b cap:Nat} {F:List Int} (h:DW E sz w W b cap F) (q:Quiet w0 w) (hb:w0.heap.size≤b):Quiet w0 W:=
 ⟨h.os.trans q.os,h.tape.trans q.tape,h.output.trans q.output,Nat.le_trans q.size h.size,fun k hk _ _=>(h.other k (Nat.lt_of_lt_of_le hk q.size) (by omega)).trans (q.block k hk id),fun _ _ _ hb=>hb.elim,fun _ hb=>hb.elim,Nat.le_trans q.drawn h.drawn⟩
theorem RN (k n:Nat):(Builtin.zeroCells (Array.replicate k (Value.int .i64 0)) n).toList=(List.replicate (n*k) (0:Int)).map (Value.int .i64):=by
 simp only [Builtin.zeroCells,Array.size_replicate,Array.toList_map,Array.toList_range,List.map_replicate]
 apply List.ext_getElem
 ·simp
 ·intro i h1 h2
  simp only [List.length_map,List.length_range] at h1
  have hk:0 < k:=Nat.pos_of_ne_zero fun e=>by subst e;simp at h1
  simp only [List.getElem_map,List.getElem_range,List.getElem_replicate]
  rw [getElem!_pos _ _ (by simpa using Nat.mod_lt _ hk)]
  simp
end Go.Proofs.YtjfnojijdggfhaaGreat.Abs
