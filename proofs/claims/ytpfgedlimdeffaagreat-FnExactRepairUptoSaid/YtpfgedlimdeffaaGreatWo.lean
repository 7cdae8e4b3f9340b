/- slices.DeleteFunc over literals; the clause without one of its literals. -/
import Derived.WalkKit
import Derived.Deep.LoopGhost
import Derived.Lib.Hide
import Derived.Sort.WalkB12
import Derived.Lib.SliceRun
import Derived.Test.YtpfgedlimdeffaaGreatLayC
import Derived.Test.YtpfgedlimdeffaaGreatLex
import Derived.Test.YtpfgedlimdeffaaGreatC11
set_option linter.all false
set_option maxRecDepth 1000000
set_option maxHeartbeats 4000000
namespace Go.Proofs.YtpfgedlimdeffaaGreat.Abs
open Go.Proofs Go.RowKit Go.Sort
structure xD (p:Lit→Bool) (l:List Lit) (i j:Nat) (dk:List Lit):Prop where
 ij:i < j
 jl:j≤l.length
 len:dk.length=l.length
 kept:dk.take i=(l.take j).filter fun x=> !p x
 rest:dk.drop j=l.drop j
theorem xD.start {p:Lit→Bool} {l:List Lit} {k:Nat} {x:Lit} (hx:l[k]? =some x) (hp:p x=true) (ha:∀y∈l.take k,p y=false):xD p l k (k+1) l:=by
 obtain⟨hk,rfl⟩:=List.getElem?_eq_some_iff.1 hx
 refine⟨by omega,by omega,rfl,?_,rfl⟩
 rw [List.take_succ_eq_append_getElem hk,List.filter_append,List.filter_eq_self.2 (fun y hy=>by simp [ha y hy])]
 simp [hp]
theorem xD.at {p:Lit→Bool} {l dk:List Lit} {i j:Nat} (h:xD p l i j dk) {x:Lit} (hx:l[j]? =some x):dk[j]? =some x:=by
 have:(dk.drop j)[0]? =(l.drop j)[0]? :=by rw [h.rest]
 simpa [hx] using this
theorem xD.skip {p:Lit→Bool} {l dk:List Lit} {i j:Nat} (h:xD p l i j dk) {x:Lit} (hx:l[j]? =some x) (hp:p x=true):xD p l i (j+1) dk:=by
 obtain⟨hj,rfl⟩:=List.getElem?_eq_some_iff.1 hx
 refine⟨by have:=h.ij;omega,by omega,h.len,?_,?_⟩
 ·rw [List.take_succ_eq_append_getElem hj,List.filter_append,h.kept];simp [hp]
 ·rw [← List.drop_drop, ← List.drop_drop,h.rest]
theorem xD.keep {p:Lit→Bool} {l dk:List Lit} {i j:Nat} (h:xD p l i j dk) {x:Lit} (hx:l[j]? =some x) (hp:p x=false):xD p l (i+1) (j+1) (dk.set i x):=by
 obtain⟨hj,rfl⟩:=List.getElem?_eq_some_iff.1 hx
 have hi:=h.ij
 have hlen:=h.len
 refine⟨by omega,by omega,by simpa using h.len,?_,?_⟩
 ·rw [List.take_succ_eq_append_getElem hj,List.filter_append,List.take_succ_eq_append_getElem (by simp;omega),List.take_set_of_le (Nat.le_refl _),h.kept]
  simp [hp]
 ·rw [List.drop_set_of_lt (by omega), ← List.drop_drop, ← List.drop_drop,h.rest]
theorem FB {P:Program} (w:World) (t e ty:TypeId) (z:Value) (k:Nat) (ht:P.underlying t=some (.slice e)) (hv:∀w,(zeroValue e).run P w= .ok z w) (hz:z.cells=Array.replicate k (.int .i64 0)) (b o n c:Nat) (hn:0 < n)
  (hc:∀j,j < n*k→(w.cell? ⟨b,o+j,none⟩).isSome=true) (hf:∀j,j < n*k→w.frozen? ⟨b,o+j,none⟩=false):
  (Builtin.clear_ #[t] ty #[.slice (some ⟨b,o,none⟩) n c]).run P w= .ok (.tuple #[]) (w.setCells b o ((List.replicate (n*k) (0:Int)).map (Value.int .i64))):=by
 have hst:=run_storeCells_cells (P:=P) b o ((List.replicate (n*k) (0:Int)).map (Value.int .i64)) 0 w (by simpa using hc) (by simpa using hf) (by intro v hv';rw [List.map_replicate] at hv';rw [List.eq_of_mem_replicate hv'];rfl)
 simp only [Nat.add_zero] at hst
 obtain⟨m,rfl⟩:∃m,n=m+1:=⟨n - 1,by omega⟩
 simp [Builtin.clear_,run_underlying ht,hv,hz,OT,hst, -List.map_replicate]
set_option maxRecDepth 100000
open Go.Proofs Go.RowKit Go.Sort
theorem qD {P:Program} {T:Nat→Ty} {L f:Nat} {args:List AR} {c:Bool} (h:Contract P T L f args (.d (.bool c))) {w:World} {vs:List Value}
  (ha:aN (lN (fun b=>b < w.heap.size) (fun _=>False) (fun _=>False) false w L) args vs):Calls P f vs.toArray w fun e w'=>e= .returned (.bool c)∧Quiet w w':=by
 refine (h.2 _ _ _ false w vs (fun b h=>h) (fun b h=>h.elim) (fun b h=>h.elim) nofun nofun ha).mono ?_
 rintro e w' ⟨v,rfl,hb,_,_,_,_,_,_,hr⟩
 obtain⟨_,rfl⟩:=hr
 exact⟨rfl,hb.quiet⟩
theorem Rs {P:Program} {T:Nat→Ty} {L f:Nat} {args:List AR} {c:Int} (h:Contract P T L f args (.d (i64 c))) {w:World} {vs:List Value}
  (ha:aN (lN (fun b=>b < w.heap.size) (fun _=>False) (fun _=>False) false w L) args vs):Calls P f vs.toArray w fun e w'=>e= .returned (.int .i64 c)∧Quiet w w':=by
 refine (h.2 _ _ _ false w vs (fun b h=>h) (fun b h=>h.elim) (fun b h=>h.elim) nofun nofun ha).mono ?_
 rintro e w' ⟨v,rfl,hb,_,_,_,_,_,_,hr⟩
 obtain⟨_,rfl⟩:=hr
 exact⟨rfl,hb.quiet⟩
end Go.Proofs.YtpfgedlimdeffaaGreat.Abs
