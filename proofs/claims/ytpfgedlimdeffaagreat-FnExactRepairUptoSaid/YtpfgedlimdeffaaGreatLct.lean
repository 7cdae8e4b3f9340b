/- How far the laws' mark..S count on rows of the program's data; sizes. -/
import Derived.Test.YtpfgedlimdeffaaGreatMki
import Derived.Test.YtpfgedlimdeffaaGreatLmk
set_option linter.all false
set_option maxRecDepth 20000
set_option maxHeartbeats 0
namespace Go.Proofs.YtpfgedlimdeffaaGreat.Abs
open Go.Proofs
theorem Dc {α:Type} {f:α→AV} {g:MF} {c:α→Int} (h:∀x k,(g (f x).cells k).2=k+c x):∀(l:List α) (k:Int),(aI g (l.map f) k).2=k+dA c l
 |[],k=>by simp [aI,dA]
 |x::l,k=>by simp only [List.map_cons,aI,dA,Dc h l,h x k];omega
open Go.Proofs
theorem Lp (l:List Int) (k:Int):(aI (fF gF) (l.map i64) k).2=k+l.length:=by
 rw [Dc (c:=fun _=>1) (fun x k=>by simp [fF,gF,AV.cells])]
 have:∀l:List Int,dA (fun _=>(1:Int)) l=l.length:=fun l=>by
  induction l with
  |nil=>rfl
  |cons x l ih=>simp only [dA,ih,List.length_cons];omega
 rw [this]
theorem Lr (l:List Int):∀x∈l.map i64,BR x:=by
 intro x hx
 obtain⟨y,_,rfl⟩:=List.mem_map.1 hx
 exact⟨y,rfl⟩
abbrev Dom.cellsOf (x:Dom):List AV:=[ints x.lo,ints x.hi,.sl (x.modes.map ints)]
theorem Dom.dU (x:Dom):0≤x.cnt:=by
 have h2:=bE (f:=fun x:List Int=>(x.length:Int)) (l:=x.modes) (fun x _=>by omega)
 unfold Dom.cnt;omega
end Go.Proofs.YtpfgedlimdeffaaGreat.Abs
namespace Go.Proofs.YtpfgedlimdeffaaGreat.Abs
open Go.Proofs
abbrev aA.cellsOf (x:aA):List AV:=[ints x.starts,ints x.modes]
def aA.cn (x:aA):Int:=x.starts.length+x.modes.length
theorem aA.Wo (x:aA):0≤x.cn:=by unfold aA.cn;omega
theorem RH (x:aA) (k:Int):(fF iK x.cellsOf k).2=k+x.cn:=by
 simp only [fF,iK,List.set,List.getElem?_cons_zero,List.getElem?_cons_succ,Lp,aA.cn]
 omega
theorem Uv (x:aA):okC uH x.cellsOf:=⟨_,_,rfl,Lr _,_,_,rfl,Lr _,rfl⟩
theorem Ob (x:aA):x.av.md false=true:=by simp only [AV.md,AV.mds];exact gq (wQ x.starts) (gq (wQ x.modes) rfl)
theorem yS (x:aA) (n:Int) (hn:0≤n∧n+x.cn≤4611686018427387904):Con 15 [.d (.agg (fF iK x.cellsOf n).1),.d (i64 n)] (.d (i64 (n+x.cn))):=by
 refine con Tryz.func15 rfl rfl Tryz.call15 rfl fun hwf=>?_
 have he:x.cn=x.starts.length+x.modes.length:=rfl
 have e1:=Lp x.starts n
 have e2:=Lp x.modes (n+x.starts.length)
 have H1:=vZ (x.starts.map i64) n (by omega) (Lr _) (by omega)
 have H2:=vZ (x.modes.map i64) (n+x.starts.length) (by omega) (Lr _) (by omega)
 have ee:(fF iK x.cellsOf n).1= [.sl (aI (fF gF) (x.starts.map i64) n).1,.sl (aI (fF gF) (x.modes.map i64) (n+x.starts.length)).1]:=by
  simp only [fF,iK,List.set,List.getElem?_cons_zero,List.getElem?_cons_succ,e1]
 rw [ee]
 rw [e1] at H1
 rw [e2] at H2
 (repeat' ((conv=>whnf);first|with_reducible refine Br.no (decide_eq_false (by omega)) ?_|refine gA ?_|(refine gB ?_ ?_<;>intro h)|refine gC (H1) ?_|refine gC (H2) ?_|intro _))<;>try (conv=>whnf)
 refine⟨?_,rfl,trivial⟩
 exact congrArg (AV.int .i64) (by omega)
end Go.Proofs.YtpfgedlimdeffaaGreat.Abs
