/- Part of a proof. -/
import Derived.Test.YthegbfgeochckaaGreatMki
import Derived.Test.YthegbfgeochckaaGreatLmk
set_option linter.all false
set_option maxRecDepth 20000
set_option maxHeartbeats 0
namespace Go.Proofs.YthegbfgeochckaaGreat.Abs
open Go.Proofs
theorem jP {α:Type} {f:α->AV} {g:MF} {c:α->Int} (h:∀x k,(g (f x).cells k).2=k+c x):∀(l:List α) (k:Int),(ah g (l.map f) k).2=k+aU c l
 |[],k=>by simp [ah,aU]
 |x::l,k=>by simp only [List.map_cons,ah,aU,jP h l,h x k];omega
theorem Nq (l:List Lit) (k:Int):(ah (ak bM) (l.map Lit.av) k).2=k+3*l.length:=by
 rw [jP (c:=Lit.cnt) (fun x k=>by simp [ak,bM,AV.cells,Lit.cnt];omega),uM]
theorem aai (l:List Lit):∀x∈l.map Lit.av,oN x:=by
 intro x hx
 obtain⟨y,_,rfl⟩:=List.mem_map.1 hx
 exact⟨_,rfl,⟨_,_,rfl,_,_,rfl,_,_,rfl,rfl⟩⟩
theorem VQ (l:List Lin) (k:Int):(ah (ak iG) (l.map Lin.av) k).2=k+aU Lin.cnt l:=
 jP (fun x k=>by
  simp only [ak,iG,AV.cells,List.set,List.getElem?_cons_zero,List.getElem?_cons_succ,Nq,Lin.cnt,uM];omega) l k
theorem aek (l:List Lin):∀x∈l.map Lin.av,En x:=by
 intro x hx
 obtain⟨y,_,rfl⟩:=List.mem_map.1 hx
 exact⟨_,rfl,⟨_,_,rfl,_,_,rfl,_,_,rfl,_,_,rfl,_,_,rfl,_,_,rfl,aai _,rfl⟩⟩
open Go.Proofs
theorem ni (l:List Int) (k:Int):(ah (ak aP) (l.map i64) k).2=k+l.length:=by
 rw [jP (c:=fun _=>1) (fun x k=>by simp [ak,aP,AV.cells])]
 have:∀l:List Int,aU (fun _=>(1:Int)) l=l.length:=fun l=>by
  induction l with
  |nil=>rfl
  |cons x l ih=>simp only [aU,ih,List.length_cons];omega
 rw [this]
theorem tO (l:List Int):∀x∈l.map i64,jA x:=by
 intro x hx
 obtain⟨y,_,rfl⟩:=List.mem_map.1 hx
 exact⟨y,rfl⟩
theorem Dy (l:List (List Int)) (k:Int):(ah (ak dO) (l.map ints) k).2=k+aU (fun x=>(x.length:Int)) l:=
 jP (fun x k=>by
  simp only [ak,dO,AV.cells,List.set,List.getElem?_cons_zero,ni]) l k
theorem VR (l:List (List Int)):∀x∈l.map ints,vQ x:=by
 intro x hx
 obtain⟨y,_,rfl⟩:=List.mem_map.1 hx
 exact⟨_,rfl,tO y⟩
abbrev Dom.cellsOf (x:Dom):List AV:=[ints x.lo,ints x.hi,.sl (x.modes.map ints)]
theorem Dom.bE (x:Dom):0<=x.cnt:=by
 have h2:=aX (f:=fun x:List Int=>(x.length:Int)) (l:=x.modes) (fun x _=>by omega)
 unfold Dom.cnt;omega
theorem La (x:Dom) (n:Int) (hn:0<=n/\n+x.cnt<=4611686018427387904):Con 107 [.d (.agg (ak lH x.cellsOf n).1),.d (i64 n)] (.d (i64 (n+x.cnt))):=by
 refine con Tryz.func107 rfl rfl Tryz.call107 rfl fun hwf=>?_
 have h3:=aX (f:=fun x:List Int=>(x.length:Int)) (l:=x.modes) (fun x _=>by omega)
 have he:x.cnt=x.lo.length+x.hi.length+aU (fun x=>(x.length:Int)) x.modes:=rfl
 have e1:=ni x.lo n
 have e2:=ni x.hi (n+x.lo.length)
 have e3:=Dy x.modes (n+x.lo.length+x.hi.length)
 have H1:=jh (x.lo.map i64) n (by omega) (tO _) (by omega)
 have H2:=jh (x.hi.map i64) (n+x.lo.length) (by omega) (tO _) (by omega)
 have H3:=BD (x.modes.map ints) (n+x.lo.length+x.hi.length) (by omega) (VR _) (by omega)
 have ee:(ak lH x.cellsOf n).1= [.sl (ah (ak aP) (x.lo.map i64) n).1,.sl (ah (ak aP) (x.hi.map i64) (n+x.lo.length)).1,.sl (ah (ak dO) (x.modes.map ints) (n+x.lo.length+x.hi.length)).1]:=by
  simp only [ak,lH,List.set,List.getElem?_cons_zero,List.getElem?_cons_succ,e1,e2]
 rw [ee]
 rw [e1] at H1
 rw [e2] at H2
 rw [e3] at H3
 (repeat' ((conv=>whnf);first|with_reducible refine Br.no (decide_eq_false (by omega)) ?_|refine gA ?_|refine gC H1 ?_|refine gC H2 ?_|refine gC H3 ?_|intro _))
 refine⟨?_,rfl,trivial⟩
 exact congrArg (AV.int .i64) (by omega)
theorem abw {α:Type} {c:α->Int} {y:α}:∀{l:List α} {k:Nat},(∀x,l[k]? =some x->c y<=c x)->aU c (l.set k y)<=aU c l
 |[],_,_=>by simp [aU]
 |x::l,0,h=>by have:=h x rfl;simp only [List.set_cons_zero,aU];omega
 |x::l,k+1,h=>by have:=abw (l:=l) (k:=k) fun z hz=>h z (by simpa using hz);simp only [List.set_cons_succ,aU];omega
theorem VT (b:Dom) (l:Lit):(restrict b l).cnt<=b.cnt:=by
 have hf:∀(p:Int->Bool) (k:Nat),aU (fun x:List Int=>(x.length:Int)) (b.modes.set k ((b.modes.getD k []).filter p))<=aU (fun x:List Int=>(x.length:Int)) b.modes:=fun p k=>abw fun x hx=>by
  rw [List.getD_eq_getElem?_getD,hx]
  have:=List.length_filter_le p x
  simp only [Option.getD_some];omega
 unfold restrict
 split
 ·dsimp only
  split
  ·simp [Dom.cnt]
  split
  ·simp [Dom.cnt]
  split
  ·have:=hf (fun n=>decide (n=clamped l.val)) l.act.toNat
   simp only [Dom.cnt] at*;omega
  split
  ·have:=hf (fun n=>decide (n≠clamped l.val)) l.act.toNat
   simp only [Dom.cnt] at*;omega
  ·exact Int.le_refl _
 ·exact Int.le_refl _
end Go.Proofs.YthegbfgeochckaaGreat.Abs
namespace Go.Proofs.YthegbfgeochckaaGreat.Abs
open Go.Proofs
abbrev bB.cellsOf (x:bB):List AV:=[ints x.starts,ints x.modes]
def bB.cn (x:bB):Int:=x.starts.length+x.modes.length
theorem bB.afJ (x:bB):0<=x.cn:=by unfold bB.cn;omega
theorem GX (x:bB) (n:Int) (hn:0<=n/\n+x.cn<=4611686018427387904):Con 42 [.d (.agg (ak iH x.cellsOf n).1),.d (i64 n)] (.d (i64 (n+x.cn))):=by
 refine con Tryz.func42 rfl rfl Tryz.call42 rfl fun hwf=>?_
 have he:x.cn=x.starts.length+x.modes.length:=rfl
 have e1:=ni x.starts n
 have e2:=ni x.modes (n+x.starts.length)
 have H1:=jh (x.starts.map i64) n (by omega) (tO _) (by omega)
 have H2:=jh (x.modes.map i64) (n+x.starts.length) (by omega) (tO _) (by omega)
 have ee:(ak iH x.cellsOf n).1= [.sl (ah (ak aP) (x.starts.map i64) n).1,.sl (ah (ak aP) (x.modes.map i64) (n+x.starts.length)).1]:=by
  simp only [ak,iH,List.set,List.getElem?_cons_zero,List.getElem?_cons_succ,e1]
 rw [ee]
 rw [e1] at H1
 rw [e2] at H2
 (repeat' ((conv=>whnf);first|with_reducible refine Br.no (decide_eq_false (by omega)) ?_|refine gA ?_|refine gC H1 ?_|refine gC H2 ?_|intro _))
 refine⟨?_,rfl,trivial⟩
 exact congrArg (AV.int .i64) (by omega)
end Go.Proofs.YthegbfgeochckaaGreat.Abs
