/- How far the laws' mark..S count on rows of the program's data; sizes. No statement of a claim. -/
import Derived.Test.YtkiohdpapinecaaGreatMki
import Derived.Test.YtkiohdpapinecaaGreatLmk
set_option linter.all false
set_option linter.unusedVariables false
set_option linter.unusedSimpArgs false
set_option maxRecDepth 20000
set_option maxHeartbeats 4000000
namespace Go.Proofs.YtkiohdpapinecaaGreat.Abs
open Go.Proofs
theorem markRow_cnt {α:Type} {f:α→AV} {g:MF} {c:α→Int} (h:∀x k,(g (f x).cells k).2=k+c x):∀(l:List α) (k:Int),(markRow g (l.map f) k).2=k+cntS c l
 | [],k=>by simp [markRow,cntS]
 | x::l,k=>by simp only [List.map_cons,markRow,cntS,markRow_cnt h l,h x k];omega
theorem cnt_le {α:Type} {c:α→Int} {B:Int}:∀{l:List α},(∀x∈l,c x≤B)→cntS c l≤B*l.length
 | [],_=>by simp [cntS]
 | x::l,h=>by
  have h1:=h x (by simp)
  have h2:=cnt_le (l:=l) fun y hy=>h y (by simp [hy])
  simp only [cntS,List.length_cons,Int.natCast_add,Int.mul_add];omega
theorem cnt_Lit (l:List Lit) (k:Int):(markRow (rowF cmLiteralS) (l.map Lit.av) k).2=k+3*l.length:=by
 rw [markRow_cnt (c:=Lit.cnt) (fun x k=>by simp [rowF,cmLiteralS,AV.cells,Lit.cnt];omega),cnt_lits]
theorem ok_Lit (l:List Lit):∀x∈l.map Lit.av,seLiteralS x:=by
 intro x hx
 obtain⟨y,_,rfl⟩:=List.mem_map.1 hx
 exact⟨_,rfl,⟨_,_,rfl,_,_,rfl,_,_,rfl,rfl⟩⟩
theorem cnt_Lin (l:List Lin) (k:Int):(markRow (rowF cmLineS) (l.map Lin.av) k).2=k+cntS Lin.cnt l:=
 markRow_cnt (fun x k=>by
  simp only [rowF,cmLineS,AV.cells,List.set,List.getElem?_cons_zero,List.getElem?_cons_succ,cnt_Lit,Lin.cnt,cnt_lits];omega) l k
theorem ok_Lin (l:List Lin):∀x∈l.map Lin.av,seLineS x:=by
 intro x hx
 obtain⟨y,_,rfl⟩:=List.mem_map.1 hx
 exact⟨_,rfl,⟨_,_,rfl,_,_,rfl,_,_,rfl,_,_,rfl,_,_,rfl,_,_,rfl,ok_Lit _,rfl⟩⟩
end Go.Proofs.YtkiohdpapinecaaGreat.Abs
