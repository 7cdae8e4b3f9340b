/- The law of Repair, phase by phase. -/
import Derived.Test.YtpfgedlimdeffaaGreatRp
import Derived.Test.YtpfgedlimdeffaaGreatLg2
import Derived.Test.YtpfgedlimdeffaaGreatLh
import Derived.Test.YtpfgedlimdeffaaGreatLct
import Derived.Test.YtpfgedlimdeffaaGreatLayC
set_option linter.all false
set_option maxRecDepth 20000
set_option maxHeartbeats 0
namespace Go.Proofs.YtpfgedlimdeffaaGreat.Abs
open Go.Proofs Go.RowKit
theorem Ls(x:aA) (n:Int) (h:0≤iJ x n):x.cnt≤5*(n - iJ x n)∧iJ x n≤n:=by
 unfold iJ at h ⊢
 obtain⟨h1,e1⟩:=mJ h;rw [e1] at h ⊢;(try dsimp only at h ⊢)
 obtain⟨h2,e2⟩:=mJ h;rw [e2] at h ⊢;(try dsimp only at h ⊢)
 have:=rV h1;have:=rV h2
 unfold aA.cnt;omega
theorem qK {q:Proj} {s:aA} {d:Dly} {st:List Int} {y:aA}:∀{l:List Nat} {x:Pln},gU q s d st l x=some y→aK q y=true
 |[],x,h=>FN h
 |a::r,x,h=>by
  rw [qG] at h
  split at h
  ·exact qK h
  ·split at h
   ·cases h
   ·exact qK h
theorem RI (p:Proj) (s:aA) (d:Dly):((jS p s d).getD wP).cn≤12:=by
 cases h:jS p s d with
 |none=>simp [wP,aA.cn]
 |some x=>
  unfold jS at h
  split at h
  ·have hf:=qK h
   have h1:=aJ hf
   have h2:=jf h1.1
   simp only [Option.getD_some]
   unfold aA.cn;omega
  ·cases h
theorem uI (d:Dly):Con 9 [.d d.av] (.d d.av):=by
 refine con Tryz.func9 rfl rfl Tryz.call9 rfl fun hwf=>?_
 (repeat' ((conv=>whnf);first|refine gA ?_|(refine gB ?_ ?_<;>intro h)|intro _))<;>try (conv=>whnf)
 exact fv
theorem Uw (x:aA):x.cn=x.cnt:=rfl
theorem PI (p:Proj) (s:aA) (d:Dly) (hp:p.fine) (z0:0≤eH p 1048576) (z1:0≤iJ s (eH p 1048576)) (x:aA) (ok:Bool) (hx:(jS p s d).getD wP=x) (hn:(jS p s d).isSome=ok):
  Qz Tryz.prog tab lim Tryz.f3 (Tryz.f3.body.getD .skip) 7 2 4 4 [p.av,s.av,d.av] [(3,true,p.av),(4,true,s.av),(5,true,d.av)] [(8,true,x.av),(9,false,.bool ok)] [(10,true,p.av),(11,true,s.av)] [(13,false,.bool ok)] 12 15
   [.own 4800011 0,.own 4800012 0] [(4800011,3,x.starts.map i64,2),(4800012,3,x.modes.map i64,2)]
   x.cellsOf (fF iK x.cellsOf 1).1 (1+x.cn) 14 34 (fF iK) (okC uH):=by
 have s0:Sz 1048576:=by unfold Sz;omega
 have s1:=Av (x:=p) s0
 have m0:=NZ p _ z0
 have m1:=Ls s _ z1
 have c0:=p.dU
 have c1:=x.Wo
 have c2:=s.Wo
 have c3:=Uw s
 have hc:x.cn≤max 12 s.cn:=by have:=RI p s d;rw [hx] at this;omega
 have hI:=Gb p s d hp (Dw p d hp)
 have hS:=Gd p s d hp (Dx p d hp)
 rw [QB,hx,hn] at hI
 rw [QE,hx,hn] at hS
 have hM:=RH x 1
 refine⟨⟨by simp,by simp⟩,⟨_,.own rfl (by decide) (.own rfl (by decide) .nil)⟩,⟨by rfl,by rfl,by rfl⟩,?_,by simp [AV.scalar],by kernel_rfl,by kernel_rfl,by kernel_rfl,by kernel_rfl,?_,?_,?_,?_,⟨Lm,Uv x,Prod.ext rfl hM,by omega⟩,?_⟩
 ·intro y hy
  simp only [List.mem_append,List.mem_cons,List.not_mem_nil,or_false] at hy
  rcases hy with (rfl|rfl|rfl)|(rfl|rfl)
  ·exact VJ p
  ·exact Ob s
  ·rfl
  ·exact Ob x
  ·rfl
 ·(repeat' ((conv=>whnf);first|with_reducible refine Br.no (decide_eq_false (by omega)) ?_|refine gA ?_|(refine gB ?_ ?_<;>intro h)|refine gC (qI p _ s0 hp) ?_|refine gC (uU s _ s1) ?_|refine gC (qH p) ?_|refine gC (oF s) ?_|refine gC (uI d) ?_|refine gC (hS) ?_|intro _))<;>try (conv=>whnf)
  (refine And.intro rfl ?_<;>(repeat' ((conv=>whnf)<;>(first|exact trivial|exact rfl|with_reducible refine And.intro ?_ ?_))))
 ·(repeat' ((conv=>whnf);first|refine gA ?_|(refine gB ?_ ?_<;>intro h)|refine gC (DC p) ?_|refine gC (BK s) ?_|intro _))<;>try (conv=>whnf)
  (refine And.intro rfl ?_<;>(repeat' ((conv=>whnf)<;>(first|exact trivial|exact rfl|with_reducible refine And.intro ?_ ?_))))
 ·(repeat' ((conv=>whnf);first|with_reducible refine Br.yes (beq_self_eq_true _) ?_|with_reducible refine Br.no rfl ?_|refine gA ?_|(refine gB ?_ ?_<;>intro h)|refine gC (qH p) ?_|refine gC (oF s) ?_|refine gC (uI d) ?_|refine gC (hI) ?_|refine gC (kS x) ?_|refine gC (Gi p) ?_|refine gC (kS s) ?_|intro _))<;>try (conv=>whnf)
  (refine And.intro rfl ?_<;>(repeat' ((conv=>whnf)<;>(first|exact trivial|exact rfl|with_reducible refine And.intro ?_ ?_))))
 ·rw [show ([(10,true,p.av),(11,true,s.av)]:List Fact).map toS= [(10,.bQ p.sh),(11,.bQ s.sh)] from by
   simp only [List.map_cons,List.map_nil,toS,cond_true]
   rw [Proj.jd,aA.jd]]
  (repeat' ((conv=>whnf);first|with_reducible refine Br.yes (beq_self_eq_true _) ?_|with_reducible refine Br.no (decide_eq_false (by omega)) ?_|with_reducible refine Br.no rfl ?_|refine gA ?_|(refine gB ?_ ?_<;>intro h)|refine gC (BP p 1 (by omega)) ?_|refine gC (yR s _ (by omega)) ?_|refine gC (kS x) ?_|intro _))<;>try (conv=>whnf)
  (refine And.intro rfl ?_<;>(repeat' ((conv=>whnf)<;>(first|exact trivial|exact rfl|with_reducible refine And.intro ?_ ?_))))
 ·have hH:=yS x 1 (by omega)
  refine⟨_,_,_,_,89,90,91,_,rfl,⟨⟨_,rfl,rfl,rfl,rfl⟩,⟨_,_,_,_,_,rfl,rfl,rfl,rfl,rfl,rfl,rfl,rfl,rfl,rfl,rfl,rfl,rfl,rfl,rfl⟩⟩,by decide,by simp,by decide,by kernel_rfl,?_⟩
  (repeat' ((conv=>whnf);first|with_reducible refine Br.yes (decide_eq_true rfl) ?_|with_reducible refine Br.yes (beq_self_eq_true _) ?_|with_reducible refine Br.no (decide_eq_false (by omega)) ?_|with_reducible refine Br.no rfl ?_|refine gA ?_|(refine gB ?_ ?_<;>intro h)|refine gC (hH) ?_|refine gC (qH p) ?_|refine gC (oF s) ?_|refine gC (uI d) ?_|refine gC (hI) ?_|refine gC (kS x) ?_|intro _))<;>try (conv=>whnf)
  all_goals exact⟨rfl,rfl,trivial⟩
theorem Hu (p:Proj) (s:aA) (d:Dly) (hp:p.fine) (z:¬(0≤eH p 1048576∧0≤iJ s (eH p 1048576))):
  Con 3 [.d p.av,.d s.av,.d d.av] (.d (.bool true)):=by
 refine con Tryz.func3 rfl rfl Tryz.call3 rfl fun hwf=>?_
 have s0:Sz 1048576:=by unfold Sz;omega
 have s1:=Av (x:=p) s0
 by_cases z0:0≤eH p 1048576
 ·have z1:¬ 0≤iJ s (eH p 1048576):=fun h=>z ⟨z0,h⟩
  (repeat' ((conv=>whnf);first|with_reducible refine Br.yes (decide_eq_true (by omega)) ?_|with_reducible refine Br.no (decide_eq_false (by omega)) ?_|refine gA ?_|(refine gB ?_ ?_<;>intro h)|refine gC (qI p _ s0 hp) ?_|refine gC (uU s _ s1) ?_|intro _))<;>try (conv=>whnf)
  exact⟨rfl,rfl,trivial⟩
 ·(repeat' ((conv=>whnf);first|with_reducible refine Br.yes (decide_eq_true (by omega)) ?_|refine gA ?_|(refine gB ?_ ?_<;>intro h)|refine gC (qI p _ s0 hp) ?_|intro _))<;>try (conv=>whnf)
  exact⟨rfl,rfl,trivial⟩
theorem BS (p:Proj) (s:aA) (d:Dly) (hp:p.fine) {w:World} {vs:List Value} (hargs:aN (aF (fun b=>b < w.heap.size) w lim) [p.av,s.av,d.av] vs):
  Calls Tryz.prog 3 vs.toArray w fun e w'=>e= .returned (.bool true)∧Below w.heap.size w w':=by
 by_cases z:0≤eH p 1048576∧0≤iJ s (eH p 1048576)
 ·exact Pf MN (by decide) (by decide) mixed Tryz.func3 rfl (PI p s d hp z.1 z.2 _ _ rfl rfl) (by simp only [List.length_cons,List.length_nil];decide) hargs
 ·exact Kt (args:=[p.av,s.av,d.av]) (Hu p s d hp z) hargs
end Go.Proofs.YtpfgedlimdeffaaGreat.Abs
