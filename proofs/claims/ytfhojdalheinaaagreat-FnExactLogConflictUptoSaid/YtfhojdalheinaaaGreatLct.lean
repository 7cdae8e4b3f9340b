/- How far the laws' mark..S count on rows of the program's data; sizes. No statement of a claim. -/
import Derived.Test.YtfhojdalheinaaaGreatMki
import Derived.Test.YtfhojdalheinaaaGreatLmk
set_option linter.all false
set_option linter.unusedVariables false
set_option linter.unusedSimpArgs false
set_option maxRecDepth 20000
set_option maxHeartbeats 4000000
namespace Go.Proofs.YtfhojdalheinaaaGreat.Abs
open Go.Proofs
theorem markRow_cnt {α:Type} {f:α→AV} {g:MF} {c:α→Int} (h:∀x k,(g (f x).cells k).2=k+c x):∀(l:List α) (k:Int),(markRow g (l.map f) k).2=k+cntS c l
 | [],k=>by simp [markRow,cntS]
 | x::l,k=>by simp only [List.map_cons,markRow,cntS,markRow_cnt h l,h x k];omega
theorem cnt_Lit (l:List Lit) (k:Int):(markRow (rowF cmLiteralS) (l.map Lit.av) k).2=k+3*l.length:=by
 rw [markRow_cnt (c:=Lit.cnt) (fun x k=>by simp [rowF,cmLiteralS,AV.cells,Lit.cnt];omega),cnt_lits]
theorem ok_Lit (l:List Lit):∀x∈l.map Lit.av,seLiteralS x:=by
 intro x hx
 obtain⟨y,_,rfl⟩:=List.mem_map.1 hx
 exact⟨_,rfl,⟨_,_,rfl,_,_,rfl,_,_,rfl,rfl⟩⟩
theorem cnt_Lin (l:List Lin) (k:Int):(markRow (rowF cmLineS) (l.map Lin.av) k).2=k+cntS Lin.cnt l:=
 markRow_cnt (fun x k=>by
  simp only [rowF,cmLineS,AV.cells,List.set,List.getElem?_cons_zero,List.getElem?_cons_succ,cnt_Lit,Lin.cnt,cnt_lits];omega) l k
theorem ok_Lin (l:List Lin):∀x∈l.map Lin.av,seLineS x:=by
 intro x hx
 obtain⟨y,_,rfl⟩:=List.mem_map.1 hx
 exact⟨_,rfl,⟨_,_,rfl,_,_,rfl,_,_,rfl,_,_,rfl,_,_,rfl,_,_,rfl,ok_Lit _,rfl⟩⟩
end Go.Proofs.YtfhojdalheinaaaGreat.Abs
set_option linter.unusedVariables false
set_option linter.unusedSimpArgs false
set_option maxRecDepth 20000
set_option maxHeartbeats 4000000
namespace Go.Proofs.YtfhojdalheinaaaGreat.Abs
open Go.Proofs
theorem cnt_Int (l:List Int) (k:Int):(markRow (rowF cmIntS) (l.map i64) k).2=k+l.length:=by
 rw [markRow_cnt (c:=fun _=>1) (fun x k=>by simp [rowF,cmIntS,AV.cells])]
 have:∀l:List Int,cntS (fun _=>(1:Int)) l=l.length:=fun l=>by
  induction l with
  | nil=>rfl
  | cons x l ih=>simp only [cntS,ih,List.length_cons];omega
 rw [this]
theorem ok_Int (l:List Int):∀x∈l.map i64,seIntS x:=by
 intro x hx
 obtain⟨y,_,rfl⟩:=List.mem_map.1 hx
 exact⟨y,rfl⟩
theorem cnt_Ints (l:List (List Int)) (k:Int):(markRow (rowF cmIntSS) (l.map ints) k).2=k+cntS (fun x=>(x.length:Int)) l:=
 markRow_cnt (fun x k=>by
  simp only [rowF,cmIntSS,AV.cells,List.set,List.getElem?_cons_zero,cnt_Int]) l k
theorem ok_Ints (l:List (List Int)):∀x∈l.map ints,seIntSS x:=by
 intro x hx
 obtain⟨y,_,rfl⟩:=List.mem_map.1 hx
 exact⟨_,rfl,ok_Int y⟩
abbrev Dom.cellsOf (x:Dom):List AV:=[ints x.lo,ints x.hi,.sl (x.modes.map ints)]
theorem Dom.cnt_nn (x:Dom):0≤x.cnt:=by
 have h2:=cnt_nonneg (f:=fun x:List Int=>(x.length:Int)) (l:=x.modes) (fun x _=>by omega)
 unfold Dom.cnt;omega
theorem laws_mheldDomain (x:Dom) (n:Int) (hn:0≤n∧n+x.cnt≤4611686018427387904):Con 85 [.d (.agg (rowF cmDomain x.cellsOf n).1),.d (i64 n)] (.d (i64 (n+x.cnt))):=by
 refine con Tryz.func85 rfl rfl Tryz.call85 rfl fun hwf=>?_
 have h3:=cnt_nonneg (f:=fun x:List Int=>(x.length:Int)) (l:=x.modes) (fun x _=>by omega)
 have he:x.cnt=x.lo.length+x.hi.length+cntS (fun x=>(x.length:Int)) x.modes:=rfl
 have e1:=cnt_Int x.lo n
 have e2:=cnt_Int x.hi (n+x.lo.length)
 have e3:=cnt_Ints x.modes (n+x.lo.length+x.hi.length)
 have H1:=laws_mheldIntS (x.lo.map i64) n (by omega) (ok_Int _) (by omega)
 have H2:=laws_mheldIntS (x.hi.map i64) (n+x.lo.length) (by omega) (ok_Int _) (by omega)
 have H3:=laws_mheldIntSS (x.modes.map ints) (n+x.lo.length+x.hi.length) (by omega) (ok_Ints _) (by omega)
 have ee:(rowF cmDomain x.cellsOf n).1= [.sl (markRow (rowF cmIntS) (x.lo.map i64) n).1,.sl (markRow (rowF cmIntS) (x.hi.map i64) (n+x.lo.length)).1,.sl (markRow (rowF cmIntSS) (x.modes.map ints) (n+x.lo.length+x.hi.length)).1]:=by
  simp only [rowF,cmDomain,List.set,List.getElem?_cons_zero,List.getElem?_cons_succ,e1,e2]
 rw [ee]
 rw [e1] at H1
 rw [e2] at H2
 rw [e3] at H3
 (repeat' ((conv=>whnf);first | with_reducible refine Br.no (decide_eq_false (by omega)) ?_ | refine gA ?_ | (refine gB ?_ ?_ <;> intro h) | refine gC (H1) ?_ | refine gC (H2) ?_ | refine gC (H3) ?_ | intro _)) <;> try (conv=>whnf)
 refine⟨?_,rfl,trivial⟩
 exact congrArg (AV.int .i64) (by omega)
end Go.Proofs.YtfhojdalheinaaaGreat.Abs
