/- How far the laws' mark..S count on rows of the program's data; sizes. -/
import Derived.Test.YtglikcnmgnlejaaGreatMki
import Derived.Test.YtglikcnmgnlejaaGreatLmk
set_option linter.all false
set_option maxRecDepth 20000
set_option maxHeartbeats 0
namespace Go.Proofs.YtglikcnmgnlejaaGreat.Abs
open Go.Proofs
theorem iY {α:Type} {f:α→AV} {g:MF} {c:α→Int} (h:∀x k,(g (f x).cells k).2=k+c x):∀(l:List α) (k:Int),(ah g (l.map f) k).2=k+aR c l
 |[],k=>by simp [ah,aR]
 |x::l,k=>by simp only [List.map_cons,ah,aR,iY h l,h x k];omega
theorem RN (l:List Lit) (k:Int):(ah (aB bQ) (l.map Lit.av) k).2=k+3*l.length:=by
 rw [iY (c:=Lit.cnt) (fun x k=>by simp [aB,bQ,AV.cells,Lit.cnt];omega),uE]
theorem Wx (l:List Lit):∀x∈l.map Lit.av,ou x:=by
 intro x hx
 obtain⟨y,_,rfl⟩:=List.mem_map.1 hx
 exact⟨_,rfl,⟨_,_,rfl,_,_,rfl,_,_,rfl,rfl⟩⟩
theorem XK (l:List Lin) (k:Int):(ah (aB iT) (l.map Lin.av) k).2=k+aR Lin.cnt l:=
 iY (fun x k=>by
  simp only [aB,iT,AV.cells,List.set,List.getElem?_cons_zero,List.getElem?_cons_succ,RN,Lin.cnt,uE];omega) l k
theorem aas (l:List Lin):∀x∈l.map Lin.av,FE x:=by
 intro x hx
 obtain⟨y,_,rfl⟩:=List.mem_map.1 hx
 exact⟨_,rfl,⟨_,_,rfl,_,_,rfl,_,_,rfl,_,_,rfl,_,_,rfl,_,_,rfl,Wx _,rfl⟩⟩
end Go.Proofs.YtglikcnmgnlejaaGreat.Abs
namespace Go.Proofs.YtglikcnmgnlejaaGreat.Abs
open Go.Proofs
theorem sJ (l:List Int) (k:Int):(ah (aB bF) (l.map i64) k).2=k+l.length:=by
 rw [iY (c:=fun _=>1) (fun x k=>by simp [aB,bF,AV.cells])]
 have:∀l:List Int,aR (fun _=>(1:Int)) l=l.length:=fun l=>by
  induction l with
  |nil=>rfl
  |cons x l ih=>simp only [aR,ih,List.length_cons];omega
 rw [this]
theorem yH (l:List Int):∀x∈l.map i64,mH x:=by
 intro x hx
 obtain⟨y,_,rfl⟩:=List.mem_map.1 hx
 exact⟨y,rfl⟩
theorem FJ (l:List (List Int)) (k:Int):(ah (aB eZ) (l.map ints) k).2=k+aR (fun x=>(x.length:Int)) l:=
 iY (fun x k=>by
  simp only [aB,eZ,AV.cells,List.set,List.getElem?_cons_zero,sJ]) l k
theorem RO (l:List (List Int)):∀x∈l.map ints,vD x:=by
 intro x hx
 obtain⟨y,_,rfl⟩:=List.mem_map.1 hx
 exact⟨_,rfl,yH y⟩
abbrev Dom.cellsOf (x:Dom):List AV:=[ints x.lo,ints x.hi,.sl (x.modes.map ints)]
theorem Dom.bH (x:Dom):0≤x.cnt:=by
 have h2:=aT (f:=fun x:List Int=>(x.length:Int)) (l:=x.modes) (fun x _=>by omega)
 unfold Dom.cnt;omega
theorem Hu (x:Dom) (n:Int) (hn:0≤n∧n+x.cnt≤4611686018427387904):Con 97 [.d (.agg (aB jU x.cellsOf n).1),.d (i64 n)] (.d (i64 (n+x.cnt))):=by
 refine con Tryz.func97 rfl rfl Tryz.call97 rfl fun hwf=>?_
 have h3:=aT (f:=fun x:List Int=>(x.length:Int)) (l:=x.modes) (fun x _=>by omega)
 have he:x.cnt=x.lo.length+x.hi.length+aR (fun x=>(x.length:Int)) x.modes:=rfl
 have e1:=sJ x.lo n
 have e2:=sJ x.hi (n+x.lo.length)
 have e3:=FJ x.modes (n+x.lo.length+x.hi.length)
 have H1:=kS (x.lo.map i64) n (by omega) (yH _) (by omega)
 have H2:=kS (x.hi.map i64) (n+x.lo.length) (by omega) (yH _) (by omega)
 have H3:=yY (x.modes.map ints) (n+x.lo.length+x.hi.length) (by omega) (RO _) (by omega)
 have ee:(aB jU x.cellsOf n).1= [.sl (ah (aB bF) (x.lo.map i64) n).1,.sl (ah (aB bF) (x.hi.map i64) (n+x.lo.length)).1,.sl (ah (aB eZ) (x.modes.map ints) (n+x.lo.length+x.hi.length)).1]:=by
  simp only [aB,jU,List.set,List.getElem?_cons_zero,List.getElem?_cons_succ,e1,e2]
 rw [ee]
 rw [e1] at H1
 rw [e2] at H2
 rw [e3] at H3
 (repeat' ((conv=>whnf);first|with_reducible refine Br.no (decide_eq_false (by omega)) ?_|refine gA ?_|(refine gB ?_ ?_<;>intro h)|refine gC (H1) ?_|refine gC (H2) ?_|refine gC (H3) ?_|intro _))<;>try (conv=>whnf)
 refine⟨?_,rfl,trivial⟩
 exact congrArg (AV.int .i64) (by omega)
theorem XL {α:Type} {c:α→Int} {y:α}:∀{l:List α} {k:Nat},(∀x,l[k]? =some x→c y≤c x)→aR c (l.set k y)≤aR c l
 |[],_,_=>by simp [aR]
 |x::l,0,h=>by have:=h x rfl;simp only [List.set_cons_zero,aR];omega
 |x::l,k+1,h=>by have:=XL (l:=l) (k:=k) fun z hz=>h z (by simpa using hz);simp only [List.set_cons_succ,aR];omega
theorem RP (b:Dom) (l:Lit):(restrict b l).cnt≤b.cnt:=by
 have hf:∀(p:Int→Bool) (k:Nat),aR (fun x:List Int=>(x.length:Int)) (b.modes.set k ((b.modes.getD k []).filter p))≤aR (fun x:List Int=>(x.length:Int)) b.modes:=fun p k=>XL fun x hx=>by
  rw [List.getD_eq_getElem?_getD,hx]
  have:=List.length_filter_le p x
  simp only [Option.getD_some];omega
 unfold restrict
 split
 ·dsimp only
  split
  ·simp [Dom.cnt]
  split
  ·simp [Dom.cnt]
  split
  ·have:=hf (fun n=>decide (n=clamped l.val)) l.act.toNat
   simp only [Dom.cnt] at*;omega
  split
  ·have:=hf (fun n=>decide (n≠clamped l.val)) l.act.toNat
   simp only [Dom.cnt] at*;omega
  ·exact Int.le_refl _
 ·exact Int.le_refl _
end Go.Proofs.YtglikcnmgnlejaaGreat.Abs
