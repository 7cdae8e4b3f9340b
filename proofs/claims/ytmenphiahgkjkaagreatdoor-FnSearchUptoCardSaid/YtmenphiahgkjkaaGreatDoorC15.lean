/- Contracts: domains within others, logs. -/
import Derived.Test.YtmenphiahgkjkaaGreatDoorC12
import Derived.Test.YtmenphiahgkjkaaGreatDoorPlain
set_option linter.all false
set_option maxRecDepth 20000
set_option maxHeartbeats 0
namespace Go.Proofs.YtmenphiahgkjkaaGreatDoor.Abs
open Go.Proofs
theorem QZ {a b:Dom}:wo a b=true↔a.hi.length=a.lo.length∧a.modes.length=a.lo.length∧b.lo.length=a.lo.length∧b.hi.length=a.lo.length∧b.modes.length=a.lo.length:=by
 simp only [wo,zy,List.all_cons,List.all_nil,Bool.and_true,Bool.and_eq_true,decide_eq_true_eq]
 omega
theorem Fv (a b:Dom):Con 35 [.d a.av,.d b.av] (.d (.bool (kM a b))):=by
 refine con Tryz.func35 rfl rfl Tryz.call35 rfl fun hwf=>?_
 simp only [ARs.wf,AR.wf,AV.wf,AV.wfs,lm,lim] at hwf
 (repeat' ((conv=>whnf);first|refine gA ?_|(refine gB ?_ ?_<;>intro h)|(refine gI ?_;intro x hx)|(refine gJ ?_;intro j x hj hx)|refine gV ?_|intro _))<;>try (conv=>whnf)
 refine aB [2,3,5,27,28] [2,3] [] ?_
 (conv=>whnf)
 refine aA.go ((Nat)) (fun k=>(k≤5)∧(((zy a b).drop k).all (fun n=>decide (n=a.lo.length))=wo a b)) (fun k=>[(29,.data (i64 k))]) (fun _=>[]) (fun _=>[]) (fun k=>5 - k) (0) ?_ ?_
 ·exact⟨by omega,rfl⟩
 rintro k ⟨hk,hi⟩
 by_cases hlt:k < (zy a b).length
 ·obtain⟨n,hn⟩:∃n,(zy a b)[k]? =some n:=⟨(zy a b)[k]'hlt,by simp⟩
  rw [aF hn,List.all_cons] at hi
  have e5:zy a b= [((a.hi.map i64).length:Int),((a.modes.map ints).length:Int),((b.lo.map i64).length:Int),((b.hi.map i64).length:Int),((b.modes.map ints).length:Int)]:=by simp [zy]
  have hn':=hn
  rw [e5] at hn'
  have h5:(zy a b).length=5:=rfl
  (repeat' ((conv=>whnf);first|(refine Idx.got (f:=i64) hn' rfl ?_)|refine gA ?_|(refine gB ?_ ?_<;>intro h)|(refine gI ?_;intro x hx)|(refine gJ ?_;intro j x hj hx)|refine gV ?_|intro _))<;>try (conv=>whnf)
  ·refine nx (k+1) ?_
   rw [decide_eq_true h,Bool.true_and] at hi
   exact⟨by omega,hi⟩
  ·refine⟨?_,rfl,trivial⟩
   rw [decide_eq_false h,Bool.false_and] at hi
   rw [kM, ← hi];rfl
  ·exfalso
   simp only [List.length_cons,List.length_nil] at*
   omega
 ·have h5:(zy a b).length=5:=rfl
  have hs:wo a b=true:=by rw [← hi,List.drop_eq_nil_of_le (by omega)];rfl
  have hl:=QZ.1 hs
  obtain rfl:k=5:=by omega
  clear hi
  (repeat' ((conv=>whnf);first|refine gA ?_|(refine gB ?_ ?_<;>intro h)|(refine gI ?_;intro x hx)|(refine gJ ?_;intro j x hj hx)|refine gV ?_|intro _))<;>try (conv=>whnf)
  ·exfalso
   simp only [List.length_cons,List.length_nil] at h
   omega
  refine aB [2,3,37] [2,3] [] ?_
  (conv=>whnf)
  refine aA.go ((Nat)) (fun k=>(k≤a.lo.length)∧(∀i,i < k→SY a b i=true)) (fun k=>[(38,.data (i64 k))]) (fun _=>[]) (fun _=>[]) (fun k=>a.lo.length - k) (0) ?_ ?_
  ·exact⟨by omega,by omega⟩
  rintro k ⟨hk,hi⟩
  by_cases hlt:k < a.lo.length
  ·obtain⟨x,h1⟩:∃x,a.lo[k]? =some x:=⟨a.lo[k]'(by omega),by simp⟩
   obtain⟨x',h2⟩:∃x,b.lo[k]? =some x:=⟨b.lo[k]'(by omega),by simp⟩
   obtain⟨y,h3⟩:∃x,a.hi[k]? =some x:=⟨a.hi[k]'(by omega),by simp⟩
   obtain⟨y',h4⟩:∃x,b.hi[k]? =some x:=⟨b.hi[k]'(by omega),by simp⟩
   obtain⟨m,g5⟩:∃x,a.modes[k]? =some x:=⟨a.modes[k]'(by omega),by simp⟩
   obtain⟨m',g6⟩:∃x,b.modes[k]? =some x:=⟨b.modes[k]'(by omega),by simp⟩
   have e:SY a b k=(!decide (x < x')&&(!decide (y > y')&&subset m m')):=by simp only [SY,h1,h2,h3,h4,g5,g6]
   (repeat' ((conv=>whnf);first|with_reducible refine Idx.got h1 rfl ?_|with_reducible refine Idx.got h2 rfl ?_|with_reducible refine Idx.got h3 rfl ?_|with_reducible refine Idx.got h4 rfl ?_|with_reducible refine Idx.got g5 rfl ?_|with_reducible refine Idx.got g6 rfl ?_|refine gA ?_|(refine gB ?_ ?_<;>intro h)|(refine gI ?_;intro x hx)|(refine gJ ?_;intro j x hj hx)|refine gV ?_|refine gC (zD m m') ?_|intro _))<;>try (conv=>whnf)
   ·refine⟨?_,rfl,trivial⟩
    rw [kM,lT k hlt (by rw [e,decide_eq_true h];rfl),Bool.and_false]
   ·refine⟨?_,rfl,trivial⟩
    rw [kM,lT k hlt (by rw [e,decide_eq_true h];simp),Bool.and_false]
   ·refine nx (k+1) ?_
    exact⟨by omega,lU hi (by rw [e,h];simp;omega)⟩
   ·refine⟨?_,rfl,trivial⟩
    rw [kM,lT k hlt (by rw [e,h];simp),Bool.and_false]
   all_goals (exfalso;omega)
  ·(repeat' ((conv=>whnf);first|(exfalso;omega)|refine gA ?_|(refine gB ?_ ?_<;>intro h)|(refine gI ?_;intro x hx)|(refine gJ ?_;intro j x hj hx)|refine gV ?_|intro _))<;>try (conv=>whnf)
   refine⟨?_,rfl,trivial⟩
   rw [kM,hs,bX.2 fun i hh=>hi i (by omega)];rfl
open Go.Proofs
end Go.Proofs.YtmenphiahgkjkaaGreatDoor.Abs
namespace Go.Proofs.YtmenphiahgkjkaaGreatDoor.Abs
open Go.Proofs
theorem Ma (g:Lg) (hp:g.proj.fine):Con 10 [.d g.av] (.d (.bool (tu g))):=by
 refine con Tryz.func10 rfl rfl Tryz.call10 rfl fun hwf=>?_
 simp only [ARs.wf,AR.wf,AV.wf,AV.wfs,lm,lim] at hwf
 (repeat' ((conv=>whnf);first|refine gA ?_|(refine gB ?_ ?_<;>intro h)|(refine gI ?_;intro x hx)|(refine gJ ?_;intro j x hj hx)|refine gV ?_|refine gC (bn g.proj hp) ?_|refine gC (aT g.proj g.dom hp) ?_|refine gC (nK g.proj hp) ?_|intro _))<;>try (conv=>whnf)
 all_goals try (refine⟨?_,rfl,trivial⟩;simp [tu, *];done)
 have ho:aL g.proj=true:=by assumption
 have hf:ak g.proj g.dom=true:=by assumption
 refine aB [1,3,30,31] [1] [] ?_
 (conv=>whnf)
 refine aA.go ((Nat)×(Dom)) (fun⟨k,d⟩=>(k≤g.decs.length)∧((g.decs.drop k).all (dI g.proj)=g.decs.all (dI g.proj))∧((g.decs.drop k).foldl restrict d=xD g)) (fun⟨k,d⟩=>[(32,.data (i64 k))]) (fun⟨k,d⟩=>[(3,(AV.cells d.av).map SV.data)]) (fun _=>[]) (fun⟨k,d⟩=>g.decs.length - k) ⟨0,bf g.proj⟩ ?_ ?_
 ·exact⟨by omega,rfl,by rw [bf,if_pos ho];rfl⟩
 rintro⟨k,d⟩ ⟨hk,ha,hi⟩
 by_cases hlt:k < g.decs.length
 ·obtain⟨x,hx⟩:∃x,g.decs[k]? =some x:=⟨g.decs[k]'hlt,by simp⟩
  rw [aF hx,List.all_cons] at ha
  rw [aF hx,List.foldl_cons] at hi
  (repeat' ((conv=>whnf);first|with_reducible refine Idx.got hx rfl ?_|refine gA ?_|(refine gB ?_ ?_<;>intro h)|(refine gI ?_;intro x hx)|(refine gJ ?_;intro j x hj hx)|refine gV ?_|refine gC (oJ g.proj x hp) ?_|refine gC (fu d x) ?_|intro _))<;>try (conv=>whnf)
  ·refine nx ⟨k+1,restrict d x⟩ ?_
   rw [h,Bool.true_and] at ha
   exact⟨by omega,ha,hi⟩
  ·refine⟨?_,rfl,trivial⟩
   rw [h,Bool.false_and] at ha
   rw [tu, ← ha];simp
  ·exfalso;omega
 ·rw [sW hlt] at ha hi
  have hd:d=xD g:=hi
  subst hd
  have e:tu g=(jT g.proj g.lines&&((jy g.proj (g.lines.map Lin.clause) (xD g)).2||kM (jy g.proj (g.lines.map Lin.clause) (xD g)).1 g.dom)):=by
   have ha':g.decs.all (dI g.proj)=true:=by rw [← ha];rfl
   have hn:decide ((g.decs.length:Int) > 20)=false:=decide_eq_false (by assumption)
   rw [tu,ho,hf,ha',hn];rfl
  rw [e]
  (repeat' ((conv=>whnf);first|(exfalso;omega)|refine gA ?_|(refine gB ?_ ?_<;>intro h)|(refine gI ?_;intro x hx)|(refine gJ ?_;intro j x hj hx)|refine gV ?_|refine gC (zM g.proj g.lines hp) ?_|refine gC (ES g.lines) ?_|refine gC (tK g.proj (g.lines.map Lin.clause) (xD g) hp) ?_|refine gC (Fv _ g.dom) ?_|intro _))<;>try (conv=>whnf)
  all_goals (refine⟨?_,rfl,trivial⟩;simp [*])
end Go.Proofs.YtmenphiahgkjkaaGreatDoor.Abs
