/- The law of LogPropagate, phase by phase. -/
import Derived.Test.YtglikcnmgnlejaaGreatC53
import Derived.Test.YtglikcnmgnlejaaGreatLh
import Derived.Test.YtglikcnmgnlejaaGreatLcl
import Derived.Test.YtglikcnmgnlejaaGreatLayC
set_option linter.all false
set_option maxRecDepth 20000
set_option maxHeartbeats 0
namespace Go.Proofs.YtglikcnmgnlejaaGreat.Abs
open Go.Proofs Go.RowKit
theorem UR {p:Proj} {a:List Lin} {l:Lin} (h:bV p a l=0):l.clause.length≤24:=by
 unfold bV at h
 split at h
 ·rename_i hn
  have h2:=hn.2.1
  simp only [Gj,pq,Bool.and_eq_true,decide_eq_true_eq] at h2
  have:=h2.1.2
  omega
 ·cases h
theorem MQ {α:Type} {f:α→Int}:∀(a b:List α),aR f (a++b)=aR f a+aR f b
 |[],b=>by simp [aR]
 |x::a,b=>by simp only [List.cons_append,aR,MQ a b];omega
theorem Wy {g h:Lg} {s:Infer} (e:mF g s=some h):h.cnt≤g.cnt+80:=by
 unfold mF at e
 split at e
 ·rename_i hk
  cases e
  simp only [EZ,Bool.and_eq_true,decide_eq_true_eq] at hk
  have h1:=UR hk.1
  have h2:=RP g.dom s.lit
  have e1:=uE (jm s).clause
  have e3:aR Lin.cnt (g.lines++[jm s])=aR Lin.cnt g.lines+(jm s).cnt:=by rw [MQ];simp [aR]
  have e4:(jm s).cnt=5+aR Lit.cnt (jm s).clause:=rfl
  unfold sI
  unfold Lg.cnt
  dsimp only
  omega
 ·cases e
theorem MR:∀(f n:Nat) (g:Lg),(lJ f n g).1.cnt≤g.cnt+80*f
 |0,n,g=>by rw [Al];simp
 |f+1,n,g=>by
  rw [rE]
  cases hs:ng g with
  |none=>dsimp only;push_cast;omega
  |some h=>
   dsimp only
   have h1:=MR f (n+1) h
   have h2:h.cnt≤g.cnt+80:=by
    unfold ng at hs
    split at hs
    ·cases hs
    ·exact Wy hs
   push_cast;omega
theorem YF (g:Lg) (most:Int):(Cu g most).1.cnt≤g.cnt+4800:=by
 unfold Cu
 split
 ·rename_i h
  have hb:=within_iff.1 h.2
  have:=MR most.toNat 0 g
  omega
 ·dsimp only;omega
theorem Hz (g:Lg) (most:Int) (hp:g.proj.fine) (z0:0≤FK g 1048576) (x:Lg) (n:Nat) (hx:(Cu g most).1=x) (hn:(Cu g most).2=n):
  Xn Tryz.prog tab lim Tryz.f6 (Tryz.f6.body.getD .skip) 5 1 3 3 [g.av,i64 most] [(1,false,i64 most),(2,true,g.av)] [(6,true,x.av),(7,false,i64 n)] [(8,true,g.av)] [(10,false,i64 n)] 9 12
   [.data (i64 x.proj.dead),.own 3400012 0,.own 3400013 0,.own 3400014 0,.own 3400015 0,.own 3400016 0,.own 3400017 0,.own 3400018 0,.own 3400019 0,.own 3400020 0] [(3400012,139,x.proj.acts.map aC.av,2),(3400013,155,x.proj.links.map Link.av,2),(3400014,145,x.proj.aU.map aL.av,2),(3400015,3,x.proj.aO.map i64,2),(3400016,3,x.dom.lo.map i64,2),(3400017,3,x.dom.hi.map i64,2),(3400018,25,x.dom.modes.map ints,2),(3400019,190,x.decs.map Lit.av,2),(3400020,212,x.lines.map Lin.av,2)]
   x.cellsOf (aB Cw x.cellsOf 1).1 (1+x.cnt) 28 65 (aB Cw) (okC XJ):=by
 have s0:Sz 1048576:=by unfold Sz;omega
 have m0:=abr g _ z0
 have c0:=g.bH
 have c1:=x.bH
 have hc:x.cnt≤g.cnt+4800:=by have:=YF g most;rw [hx] at this;omega
 have hI:=Fp g most hp
 have hS:=Fq g most hp
 rw [aaj,hx,hn] at hI
 rw [abO,hx,hn] at hS
 have hM:=abt x 1
 refine⟨⟨by simp,by simp⟩,⟨_,.data rfl (.own rfl (by decide) (.own rfl (by decide) (.own rfl (by decide) (.own rfl (by decide) (.own rfl (by decide) (.own rfl (by decide) (.own rfl (by decide) (.own rfl (by decide) (.own rfl (by decide) .nil)))))))))⟩,⟨by rfl,by rfl,by rfl⟩,?_,by simp [AV.scalar],by kernel_rfl,by kernel_rfl,by kernel_rfl,by kernel_rfl,?_,?_,?_,?_,⟨abo,adi x,Prod.ext rfl hM,by omega⟩,?_⟩
 ·intro y hy
  simp only [List.mem_append,List.mem_cons,List.not_mem_nil,or_false] at hy
  rcases hy with (rfl|rfl)|(rfl|rfl)
  ·rfl
  ·exact abR g
  ·exact abR x
  ·rfl
 ·(repeat' ((conv=>whnf);first|with_reducible refine Br.no (decide_eq_false (by omega)) ?_|refine gA ?_|(refine gB ?_ ?_<;>intro h)|refine gC (MO g _ s0 hp) ?_|refine gC (Dw g) ?_|refine gC (hS) ?_|intro _))<;>try (conv=>whnf)
  (refine And.intro rfl ?_<;>(repeat' ((conv=>whnf)<;>(first|exact trivial|exact rfl|with_reducible refine And.intro ?_ ?_))))
 ·(repeat' ((conv=>whnf);first|refine gA ?_|(refine gB ?_ ?_<;>intro h)|refine gC (UQ g) ?_|intro _))<;>try (conv=>whnf)
  (refine And.intro rfl ?_<;>(repeat' ((conv=>whnf)<;>(first|exact trivial|exact rfl|with_reducible refine And.intro ?_ ?_))))
 ·(repeat' ((conv=>whnf);first|with_reducible refine Br.yes (decide_eq_true rfl) ?_|with_reducible refine Br.no rfl ?_|refine gA ?_|(refine gB ?_ ?_<;>intro h)|refine gC (Dw g) ?_|refine gC (hI) ?_|refine gC (yI x) ?_|refine gC (yI g) ?_|intro _))<;>try (conv=>whnf)
  (refine And.intro rfl ?_<;>(repeat' ((conv=>whnf)<;>(first|exact trivial|exact rfl|with_reducible refine And.intro ?_ ?_))))
 ·rw [show ([(8,true,g.av)]:List Fact).map toS= [(8,.dM g.sh)] from by
   simp only [List.map_cons,List.map_nil,toS,cond_true]
   rw [Lg.gL]]
  (repeat' ((conv=>whnf);first|with_reducible refine Br.yes (decide_eq_true rfl) ?_|with_reducible refine Br.no (decide_eq_false (by omega)) ?_|with_reducible refine Br.no rfl ?_|refine gA ?_|(refine gB ?_ ?_<;>intro h)|refine gC (RQ g 1 (by omega)) ?_|refine gC (yI x) ?_|intro _))<;>try (conv=>whnf)
  (refine And.intro rfl ?_<;>(repeat' ((conv=>whnf)<;>(first|exact trivial|exact rfl|with_reducible refine And.intro ?_ ?_))))
 ·have hH:=NZ x 1 (by omega)
  refine⟨_,_,_,_,66,67,68,_,rfl,⟨⟨_,rfl,rfl,rfl,rfl⟩,⟨_,_,_,_,_,rfl,rfl,rfl,rfl,rfl,rfl,rfl,rfl,rfl,rfl,rfl,rfl,rfl,rfl,rfl⟩⟩,by decide,by simp,by decide,by kernel_rfl,?_⟩
  (repeat' ((conv=>whnf);first|with_reducible refine Br.yes (decide_eq_true rfl) ?_|with_reducible refine Br.yes (beq_self_eq_true _) ?_|with_reducible refine Br.no (decide_eq_false (by omega)) ?_|with_reducible refine Br.no rfl ?_|refine gA ?_|(refine gB ?_ ?_<;>intro h)|refine gC (hH) ?_|refine gC (Dw g) ?_|refine gC (hI) ?_|refine gC (yI x) ?_|intro _))<;>try (conv=>whnf)
  all_goals exact⟨rfl,rfl,trivial⟩
theorem BI (g:Lg) (most:Int) (hp:g.proj.fine) (z:¬ 0≤FK g 1048576):
  Con 6 [.d g.av,.d (i64 most)] (.d (.bool true)):=by
 refine con Tryz.func6 rfl rfl Tryz.call6 rfl fun hwf=>?_
 have s0:Sz 1048576:=by unfold Sz;omega
 (repeat' ((conv=>whnf);first|with_reducible refine Br.yes (decide_eq_true (by omega)) ?_|refine gA ?_|(refine gB ?_ ?_<;>intro h)|refine gC (MO g _ s0 hp) ?_|intro _))<;>try (conv=>whnf)
 exact⟨rfl,rfl,trivial⟩
theorem yJ (g:Lg) (most:Int) (hp:g.proj.fine) {w:World} {vs:List Value} (hargs:aY (aK (fun b=>b < w.heap.size) w lim) [g.av,i64 most] vs):
  Calls Tryz.prog 6 vs.toArray w fun e w'=>e= .returned (.bool true)∧Below w.heap.size w w':=by
 by_cases z:0≤FK g 1048576
 ·exact VR rW (by decide) (by decide) mixed Tryz.func6 rfl (Hz g most hp z _ _ rfl rfl) (by simp only [List.length_cons,List.length_nil];decide) hargs
 ·exact QW (args:=[g.av,i64 most]) (BI g most hp z) hargs
end Go.Proofs.YtglikcnmgnlejaaGreat.Abs
