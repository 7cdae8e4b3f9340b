/- How far the laws' mark..S count on rows of the program's data; sizes. No statement of a claim. -/
import Derived.Test.YtkiohdpapinecaaGreatMki
import Derived.Test.YtkiohdpapinecaaGreatLmk
set_option linter.all false
set_option linter.unusedVariables false
set_option linter.unusedSimpArgs false
set_option maxRecDepth 20000
set_option maxHeartbeats 4000000
namespace Go.Proofs.YtkiohdpapinecaaGreat.Abs
open Go.Proofs
theorem markRow_cnt {α:Type} {f:α→AV} {g:MF} {c:α→Int} (h:∀x k,(g (f x).cells k).2=k+c x):∀(l:List α) (k:Int),(markRow g (l.map f) k).2=k+cntS c l
 | [],k=>by simp [markRow,cntS]
 | x::l,k=>by simp only [List.map_cons,markRow,cntS,markRow_cnt h l,h x k];omega
end Go.Proofs.YtkiohdpapinecaaGreat.Abs
set_option linter.unusedVariables false
set_option linter.unusedSimpArgs false
set_option maxRecDepth 20000
set_option maxHeartbeats 4000000
namespace Go.Proofs.YtkiohdpapinecaaGreat.Abs
open Go.Proofs
theorem cnt_Int (l:List Int) (k:Int):(markRow (rowF cmIntS) (l.map i64) k).2=k+l.length:=by
 rw [markRow_cnt (c:=fun _=>1) (fun x k=>by simp [rowF,cmIntS,AV.cells])]
 have:∀l:List Int,cntS (fun _=>(1:Int)) l=l.length:=fun l=>by
  induction l with
  | nil=>rfl
  | cons x l ih=>simp only [cntS,ih,List.length_cons];omega
 rw [this]
theorem ok_Int (l:List Int):∀x∈l.map i64,seIntS x:=by
 intro x hx
 obtain⟨y,_,rfl⟩:=List.mem_map.1 hx
 exact⟨y,rfl⟩
abbrev Dom.cellsOf (x:Dom):List AV:=[ints x.lo,ints x.hi,.sl (x.modes.map ints)]
theorem Dom.cnt_nn (x:Dom):0≤x.cnt:=by
 have h2:=cnt_nonneg (f:=fun x:List Int=>(x.length:Int)) (l:=x.modes) (fun x _=>by omega)
 unfold Dom.cnt;omega
end Go.Proofs.YtkiohdpapinecaaGreat.Abs
set_option linter.unusedVariables false
set_option linter.unusedSimpArgs false
set_option maxRecDepth 20000
set_option maxHeartbeats 4000000
namespace Go.Proofs.YtkiohdpapinecaaGreat.Abs
open Go.Proofs
abbrev Sched.cellsOf (x:Sched):List AV:=[ints x.starts,ints x.modes]
def Sched.cn (x:Sched):Int:=x.starts.length+x.modes.length
theorem Sched.cn_nn (x:Sched):0≤x.cn:=by unfold Sched.cn;omega
theorem cnt_Sched (x:Sched) (k:Int):(rowF cmSchedule x.cellsOf k).2=k+x.cn:=by
 simp only [rowF,cmSchedule,List.set,List.getElem?_cons_zero,List.getElem?_cons_succ,cnt_Int,Sched.cn]
 omega
theorem ok_Sched (x:Sched):okC okSchedule x.cellsOf:=⟨_,_,rfl,ok_Int _,_,_,rfl,ok_Int _,rfl⟩
theorem Sched_md (x:Sched):x.av.md false=true:=by simp only [AV.md,AV.mds];exact and2 (ints_md x.starts) (and2 (ints_md x.modes) rfl)
theorem laws_mheldSchedule (x:Sched) (n:Int) (hn:0≤n∧n+x.cn≤4611686018427387904):Con 21 [.d (.agg (rowF cmSchedule x.cellsOf n).1),.d (i64 n)] (.d (i64 (n+x.cn))):=by
 refine con Tryz.func21 rfl rfl Tryz.call21 rfl fun hwf=>?_
 have he:x.cn=x.starts.length+x.modes.length:=rfl
 have e1:=cnt_Int x.starts n
 have e2:=cnt_Int x.modes (n+x.starts.length)
 have H1:=laws_mheldIntS (x.starts.map i64) n (by omega) (ok_Int _) (by omega)
 have H2:=laws_mheldIntS (x.modes.map i64) (n+x.starts.length) (by omega) (ok_Int _) (by omega)
 have ee:(rowF cmSchedule x.cellsOf n).1= [.sl (markRow (rowF cmIntS) (x.starts.map i64) n).1,.sl (markRow (rowF cmIntS) (x.modes.map i64) (n+x.starts.length)).1]:=by
  simp only [rowF,cmSchedule,List.set,List.getElem?_cons_zero,List.getElem?_cons_succ,e1]
 rw [ee]
 rw [e1] at H1
 rw [e2] at H2
 (repeat' ((conv=>whnf);first | with_reducible refine Br.no (decide_eq_false (by omega)) ?_ | refine gA ?_ | ((with_reducible first | refine gD (fun h=>?_) (fun h=>?_) | refine gE (fun h=>?_) (fun h=>?_)) <;> (try simp only [lm] at h) <;> try have hw:=wn h) | refine gC (H1) ?_ | refine gC (H2) ?_ | intro _)) <;> (try (conv=>whnf))
 refine⟨?_,rfl,trivial⟩
 exact congrArg (AV.int .i64) (by omega)
end Go.Proofs.YtkiohdpapinecaaGreat.Abs
