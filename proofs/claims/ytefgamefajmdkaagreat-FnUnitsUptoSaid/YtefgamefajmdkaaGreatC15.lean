/- Contracts: domains within others, logs. -/
import Derived.Test.YtefgamefajmdkaaGreatC12
import Derived.Test.YtefgamefajmdkaaGreatPlain
set_option linter.all false
set_option maxRecDepth 20000
set_option maxHeartbeats 0
namespace Go.Proofs.YtefgamefajmdkaaGreat.Abs
open Go.Proofs
theorem PD {a b:Dom}:uT a b=true↔a.hi.length=a.lo.length∧a.modes.length=a.lo.length∧b.lo.length=a.lo.length∧b.hi.length=a.lo.length∧b.modes.length=a.lo.length:=by
 simp only [uT,yE,List.all_cons,List.all_nil,Bool.and_true,Bool.and_eq_true,decide_eq_true_eq]
 omega
theorem Fe (a b:Dom):Con 13 [.d a.av,.d b.av] (.d (.bool (kH a b))):=by
 refine con Tryz.func13 rfl rfl Tryz.call13 rfl fun hwf=>?_
 simp only [ARs.wf,AR.wf,AV.wf,AV.wfs,lm,lim] at hwf
 (repeat' ((conv=>whnf);first|refine gA ?_|(refine gB ?_ ?_<;>intro h)|(refine gI ?_;intro x hx)|(refine gJ ?_;intro j x hj hx)|refine gV ?_|intro _))<;>try (conv=>whnf)
 refine aB [2,3,5,27,28] [2,3] [] ?_
 (conv=>whnf)
 refine aA.go ((Nat)) (fun k=>(k≤5)∧(((yE a b).drop k).all (fun n=>decide (n=a.lo.length))=uT a b)) (fun k=>[(29,.data (i64 k))]) (fun _=>[]) (fun _=>[]) (fun k=>5 - k) (0) ?_ ?_
 ·exact⟨by omega,rfl⟩
 rintro k ⟨hk,hi⟩
 by_cases hlt:k < (yE a b).length
 ·obtain⟨n,hn⟩:∃n,(yE a b)[k]? =some n:=⟨(yE a b)[k]'hlt,by simp⟩
  rw [au hn,List.all_cons] at hi
  have e5:yE a b= [((a.hi.map i64).length:Int),((a.modes.map ints).length:Int),((b.lo.map i64).length:Int),((b.hi.map i64).length:Int),((b.modes.map ints).length:Int)]:=by simp [yE]
  have hn':=hn
  rw [e5] at hn'
  have h5:(yE a b).length=5:=rfl
  (repeat' ((conv=>whnf);first|(refine Idx.got (f:=i64) hn' rfl ?_)|refine gA ?_|(refine gB ?_ ?_<;>intro h)|(refine gI ?_;intro x hx)|(refine gJ ?_;intro j x hj hx)|refine gV ?_|intro _))<;>try (conv=>whnf)
  ·refine nx (k+1) ?_
   rw [decide_eq_true h,Bool.true_and] at hi
   exact⟨by omega,hi⟩
  ·refine⟨?_,rfl,trivial⟩
   rw [decide_eq_false h,Bool.false_and] at hi
   rw [kH, ← hi];rfl
  ·exfalso
   simp only [List.length_cons,List.length_nil] at*
   omega
 ·have h5:(yE a b).length=5:=rfl
  have hs:uT a b=true:=by rw [← hi,List.drop_eq_nil_of_le (by omega)];rfl
  have hl:=PD.1 hs
  obtain rfl:k=5:=by omega
  clear hi
  (repeat' ((conv=>whnf);first|refine gA ?_|(refine gB ?_ ?_<;>intro h)|(refine gI ?_;intro x hx)|(refine gJ ?_;intro j x hj hx)|refine gV ?_|intro _))<;>try (conv=>whnf)
  ·exfalso
   simp only [List.length_cons,List.length_nil] at h
   omega
  refine aB [2,3,37] [2,3] [] ?_
  (conv=>whnf)
  refine aA.go ((Nat)) (fun k=>(k≤a.lo.length)∧(∀i,i < k→Rb a b i=true)) (fun k=>[(38,.data (i64 k))]) (fun _=>[]) (fun _=>[]) (fun k=>a.lo.length - k) (0) ?_ ?_
  ·exact⟨by omega,by omega⟩
  rintro k ⟨hk,hi⟩
  by_cases hlt:k < a.lo.length
  ·obtain⟨x,h1⟩:∃x,a.lo[k]? =some x:=⟨a.lo[k]'(by omega),by simp⟩
   obtain⟨x',h2⟩:∃x,b.lo[k]? =some x:=⟨b.lo[k]'(by omega),by simp⟩
   obtain⟨y,h3⟩:∃x,a.hi[k]? =some x:=⟨a.hi[k]'(by omega),by simp⟩
   obtain⟨y',h4⟩:∃x,b.hi[k]? =some x:=⟨b.hi[k]'(by omega),by simp⟩
   obtain⟨m,g5⟩:∃x,a.modes[k]? =some x:=⟨a.modes[k]'(by omega),by simp⟩
   obtain⟨m',g6⟩:∃x,b.modes[k]? =some x:=⟨b.modes[k]'(by omega),by simp⟩
   have e:Rb a b k=(!decide (x < x')&&(!decide (y > y')&&subset m m')):=by simp only [Rb,h1,h2,h3,h4,g5,g6]
   (repeat' ((conv=>whnf);first|with_reducible refine Idx.got h1 rfl ?_|with_reducible refine Idx.got h2 rfl ?_|with_reducible refine Idx.got h3 rfl ?_|with_reducible refine Idx.got h4 rfl ?_|with_reducible refine Idx.got g5 rfl ?_|with_reducible refine Idx.got g6 rfl ?_|refine gA ?_|(refine gB ?_ ?_<;>intro h)|(refine gI ?_;intro x hx)|(refine gJ ?_;intro j x hj hx)|refine gV ?_|refine gC (yF m m') ?_|intro _))<;>try (conv=>whnf)
   ·refine⟨?_,rfl,trivial⟩
    rw [kH,gX k hlt (by rw [e,decide_eq_true h];rfl),Bool.and_false]
   ·refine⟨?_,rfl,trivial⟩
    rw [kH,gX k hlt (by rw [e,decide_eq_true h];simp),Bool.and_false]
   ·refine nx (k+1) ?_
    exact⟨by omega,fJ hi (by rw [e,h];simp;omega)⟩
   ·refine⟨?_,rfl,trivial⟩
    rw [kH,gX k hlt (by rw [e,h];simp),Bool.and_false]
   all_goals (exfalso;omega)
  ·(repeat' ((conv=>whnf);first|(exfalso;omega)|refine gA ?_|(refine gB ?_ ?_<;>intro h)|(refine gI ?_;intro x hx)|(refine gJ ?_;intro j x hj hx)|refine gV ?_|intro _))<;>try (conv=>whnf)
   refine⟨?_,rfl,trivial⟩
   rw [kH,hs,bg.2 fun i hh=>hi i (by omega)];rfl
open Go.Proofs
end Go.Proofs.YtefgamefajmdkaaGreat.Abs
namespace Go.Proofs.YtefgamefajmdkaaGreat.Abs
open Go.Proofs
end Go.Proofs.YtefgamefajmdkaaGreat.Abs
