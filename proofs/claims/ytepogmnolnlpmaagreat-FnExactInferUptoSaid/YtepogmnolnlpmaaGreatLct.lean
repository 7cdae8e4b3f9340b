/- How far the laws' mark..S count on rows of the program's data; sizes. No statement of a claim. -/
import Derived.Test.YtepogmnolnlpmaaGreatMki
import Derived.Test.YtepogmnolnlpmaaGreatLmk
set_option linter.all false
set_option linter.unusedVariables false
set_option linter.unusedSimpArgs false
set_option maxRecDepth 20000
set_option maxHeartbeats 4000000
namespace Go.Proofs.YtepogmnolnlpmaaGreat.Abs
open Go.Proofs
theorem markRow_cnt {α:Type} {f:α→AV} {g:MF} {c:α→Int} (h:∀x k,(g (f x).cells k).2=k+c x):∀(l:List α) (k:Int),(markRow g (l.map f) k).2=k+cntS c l
 | [],k=>by simp [markRow,cntS]
 | x::l,k=>by simp only [List.map_cons,markRow,cntS,markRow_cnt h l,h x k];omega
theorem cnt_le {α:Type} {c:α→Int} {B:Int}:∀{l:List α},(∀x∈l,c x≤B)→cntS c l≤B*l.length
 | [],_=>by simp [cntS]
 | x::l,h=>by
  have h1:=h x (by simp)
  have h2:=cnt_le (l:=l) fun y hy=>h y (by simp [hy])
  simp only [cntS,List.length_cons,Int.natCast_add,Int.mul_add];omega
theorem cnt_Lit (l:List Lit) (k:Int):(markRow (rowF cmLiteralS) (l.map Lit.av) k).2=k+3*l.length:=by
 rw [markRow_cnt (c:=Lit.cnt) (fun x k=>by simp [rowF,cmLiteralS,AV.cells,Lit.cnt];omega),cnt_lits]
theorem ok_Lit (l:List Lit):∀x∈l.map Lit.av,seLiteralS x:=by
 intro x hx
 obtain⟨y,_,rfl⟩:=List.mem_map.1 hx
 exact⟨_,rfl,⟨_,_,rfl,_,_,rfl,_,_,rfl,rfl⟩⟩
end Go.Proofs.YtepogmnolnlpmaaGreat.Abs
set_option linter.unusedVariables false
set_option linter.unusedSimpArgs false
set_option maxRecDepth 20000
set_option maxHeartbeats 4000000
namespace Go.Proofs.YtepogmnolnlpmaaGreat.Abs
open Go.Proofs
def Infer.cnt (x:Infer):Int:=7+cntS Lit.cnt x.clause
theorem Infer.cnt_nn (x:Infer):0≤x.cnt:=by have h1:=cnt_nonneg (f:=Lit.cnt) (l:=x.clause) (fun x _=>x.cnt_nn);unfold Infer.cnt;omega
theorem cnt_Infer (l:List Infer) (k:Int):(markRow (rowF cmInferenceS) (l.map Infer.av) k).2=k+cntS Infer.cnt l:=
 markRow_cnt (fun x k=>by
  simp only [rowF,cmInferenceS,AV.cells,List.set,List.getElem?_cons_zero,List.getElem?_cons_succ,cnt_Lit,Infer.cnt,cnt_lits];omega) l k
theorem ok_Infer (l:List Infer):∀x∈l.map Infer.av,seInferenceS x:=by
 intro x hx
 obtain⟨y,_,rfl⟩:=List.mem_map.1 hx
 exact⟨_,rfl,⟨_,_,rfl,_,_,rfl,_,_,rfl,_,_,rfl,_,_,rfl,_,_,rfl,_,_,rfl,_,_,rfl,ok_Lit _,rfl⟩⟩
theorem Infer_md (x:Infer):x.av.md false=true:=by simp only [AV.md,AV.mds];exact and2 rfl (and2 rfl (and2 rfl (and2 rfl (and2 rfl (and2 rfl (and2 rfl (and2 (lits_md x.clause) rfl)))))))
end Go.Proofs.YtepogmnolnlpmaaGreat.Abs
