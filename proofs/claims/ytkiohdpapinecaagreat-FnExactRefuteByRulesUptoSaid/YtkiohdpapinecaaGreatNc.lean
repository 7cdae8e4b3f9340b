/- Clauses: sorted, each literal once. No statement of a claim. -/
import Derived.WalkKit
import Derived.Deep.LoopGhost
import Derived.Lib.Hide
import Derived.Shelf.SlSortCmp.NoneTotal
import Derived.Test.YtkiohdpapinecaaGreatSh
import Derived.Test.YtkiohdpapinecaaGreatSet
import Derived.Test.YtkiohdpapinecaaGreatC25
set_option linter.all false
set_option linter.unusedVariables false
set_option linter.unusedSimpArgs false
set_option maxRecDepth 100000
set_option maxHeartbeats 4000000
namespace Go.Proofs.YtkiohdpapinecaaGreat.Abs
open Go.Proofs Go.RowKit Go.Sort
instance:Inhabited Lit:=⟨zeroLit⟩
theorem quiet_grow {W w':World} (q:Quiet W w'):∃n os,w'=grow (W.drewN n) os:=by
 refine⟨w'.drawn - W.drawn,w'.heap.extract W.heap.size w'.heap.size,?_⟩
 have hh:w'.heap=W.heap++w'.heap.extract W.heap.size w'.heap.size:=by
  apply Array.ext_getElem?
  intro k
  by_cases hk:k < W.heap.size
  ·rw [Array.getElem?_append_left hk];exact q.block k hk id
  ·rw [Array.getElem?_append_right (by omega),Array.getElem?_extract]
   split
   ·congr 1;omega
   ·rw [Array.getElem?_eq_none (by omega)]
 have h1:=q.os
 have h2:=q.tape
 have h3:=q.output
 have h4:=q.drawn
 cases w'
 cases W
 simp only at h1 h2 h3 h4 hh
 subst h1 h2 h3
 simp only [grow,World.drewN,World.mk.injEq,and_true,true_and]
 exact⟨hh,by omega⟩
abbrev encL (x:Lit):List Value:=[.int .i64 x.kind,.int .i64 x.act,.int .i64 x.val]
theorem flatK_lits (l:List Lit):flatK encL 3 l.toArray=((flatL l).map (Value.int .i64)).toArray:=by
 apply Array.ext
 ·simp [flatL_length];omega
 ·intro i h1 h2
  have hi:i < l.length*3:=by simpa using h1
  rw [← getElem!_pos _ i h1,get_flatK _ _ _ _ (by simpa using hi)]
  have hj:i / 3 < l.length:=by omega
  rw [getElem!_pos l.toArray (i / 3) (by simpa using hj)]
  obtain⟨f1,f2,f3⟩:=flatL_get (l:=l) (j:=i / 3) (x:=l[i / 3]) (by simp [hj])
  have e:∀(k:Nat) (y:Int),i=k→(flatL l)[k]? =some y→((flatL l).map (Value.int .i64)).toArray[i]= .int .i64 y:=by
   rintro k y rfl hy
   obtain⟨_,rfl⟩:=List.getElem?_eq_some_iff.1 hy
   simp
  rcases (by omega:i % 3=0∨i % 3=1∨i % 3=2) with h | h | h
  ·rw [e _ _ (by omega) f1,h];simp
  ·rw [e _ _ (by omega) f2,h];simp
  ·rw [e _ _ (by omega) f3,h];simp
theorem putRow_ints (w:World) (b o:Nat) (F:List Int):putRow id w b o (F.map (Value.int .i64)).toArray=putRow (Value.int .i64) w b o F.toArray:=by
 have:putCells id o (F.map (Value.int .i64)).toArray=putCells (Value.int .i64) o F.toArray:=by
  funext c
  simp only [putCells]
  congr 1
  funext k x
  simp only [List.size_toArray,List.length_map,id]
  split
  ·rename_i h
   rw [getElem!_pos _ _ (by simp;omega),getElem!_pos _ _ (by simp;omega)];simp
  ·rfl
 simp only [putRow,this]
theorem ltLit (x y:Lit):ltOf cmpLit x y=true↔x.act < y.act∨(x.act=y.act∧(x.kind < y.kind∨(x.kind=y.kind∧x.val < y.val))):=by
 rw [ltOf,decide_eq_true_eq,cmpLit_lt]
theorem ltLit_no (x y:Lit):ltOf cmpLit x y=false↔¬(x.act < y.act∨(x.act=y.act∧(x.kind < y.kind∨(x.kind=y.kind∧x.val < y.val)))):=by
 rw [← ltLit];simp
theorem swoLit:SWO (ltOf cmpLit) where
 irrefl x:=by rw [ltLit_no];omega
 trans x y z h k:=by rw [ltLit] at*;omega
 ntrans x y z h k:=by rw [ltLit_no] at*;omega
theorem totLit (x y:Lit) (h:ltOf cmpLit x y=false) (k:ltOf cmpLit y x=false):x=y:=by
 rw [ltLit_no] at h k
 cases x;cases y
 simp only at h k
 simp only [Lit.mk.injEq];omega
def sortL (l:List Lit):List Lit:=l.mergeSort fun x y=> !(ltOf cmpLit) y x
theorem sort_lit {l:List Lit} {b cap:Nat} {w:World} (hD:DW 184 3 w w b cap (flatL l)) (hl:l.length≤274877906944):
  Calls Tryz.prog 271 #[.slice (some ⟨b,0,none⟩) l.length cap,.func (.func 272) #[] #[]] w fun e w'=>e= .returned (.tuple #[])∧DW 184 3 w w' b cap (flatL (sortL l)):=by
 have hH:HoldsK encL 3 w b 0 l.toArray:=by
  rw [HoldsK,flatK_lits]
  intro i hi
  have hi':i < (flatL l).length:=by simpa using hi
  refine⟨?_,hD.frozen _⟩
  rw [Nat.zero_add,hD.cell (x:=(flatL l)[i]) (by simp [hi']),getElem!_pos _ i hi];simp
 have hcmp:CmpLays Tryz.prog 272 #[] encL 3 cmpLit b 0 l.toArray.size w:=fun m os dk hdk x y=>by
  have h:=int_calls (impl_CompareLiterals x y) (w:=sortWorldK encL 3 w b 0 m dk os) (vs:=[litV x,litV y]) ⟨lit_agg x,lit_agg y,trivial⟩
  refine Calls.mono (args:= #[litV x,litV y]) h ?_
  rintro e w' ⟨rfl,hq⟩
  exact⟨rfl,quiet_grow hq⟩
 refine (AnyQ.slices_SortFunc_total Tryz.sortLit 3 (fun w=>by kernel_rfl) (fun w=>by kernel_rfl) encL (fun _=>rfl) (fun x v hv=>by simp [encL] at hv;rcases hv with rfl | rfl | rfl <;> rfl) cmpLit swoLit 272 #[] b 0 cap l.toArray w (fun _ _=>rfl) hcmp hH hD.lt (by simp;omega) totLit).mono ?_
 rintro e w' ⟨rfl,n,os,rfl⟩
 refine⟨rfl,?_⟩
 rw [sortWorldK,putRowK,show l.toArray.toList=l by simp,flatK_lits,putRow_ints]
 exact hD.sorted (by rw [flatL_length,flatL_length,List.length_mergeSort])
end Go.Proofs.YtkiohdpapinecaaGreat.Abs
