/- Contracts: domains within others, logs. -/
import Derived.Test.YtglikcnmgnlejaaGreatC12
import Derived.Test.YtglikcnmgnlejaaGreatPlain
set_option linter.all false
set_option maxRecDepth 20000
set_option maxHeartbeats 0
namespace Go.Proofs.YtglikcnmgnlejaaGreat.Abs
open Go.Proofs
theorem yC {a b:Dom}:wH a b=true↔a.hi.length=a.lo.length∧a.modes.length=a.lo.length∧b.lo.length=a.lo.length∧b.hi.length=a.lo.length∧b.modes.length=a.lo.length:=by
 simp only [wH,BO,List.all_cons,List.all_nil,Bool.and_true,Bool.and_eq_true,decide_eq_true_eq]
 omega
theorem Fg (a b:Dom):Con 189 [.d a.av,.d b.av] (.d (.bool (gW a b))):=by
 refine con Tryz.func189 rfl rfl Tryz.call189 rfl fun hwf=>?_
 simp only [ARs.wf,AR.wf,AV.wf,AV.wfs,lm,lim] at hwf
 (repeat' ((conv=>whnf);first|refine gA ?_|(refine gB ?_ ?_<;>intro h)|(refine gI ?_;intro x hx)|(refine gJ ?_;intro j x hj hx)|refine gV ?_|intro _))<;>try (conv=>whnf)
 refine au [2,3,5,27,28] [2,3] [] ?_
 (conv=>whnf)
 refine ak.go ((Nat)) (fun k=>(k≤5)∧(((BO a b).drop k).all (fun n=>decide (n=a.lo.length))=wH a b)) (fun k=>[(29,.data (i64 k))]) (fun _=>[]) (fun _=>[]) (fun k=>5 - k) (0) ?_ ?_
 ·exact⟨by omega,rfl⟩
 rintro k ⟨hk,hi⟩
 by_cases hlt:k < (BO a b).length
 ·obtain⟨n,hn⟩:∃n,(BO a b)[k]? =some n:=⟨(BO a b)[k]'hlt,by simp⟩
  rw [ay hn,List.all_cons] at hi
  have e5:BO a b= [((a.hi.map i64).length:Int),((a.modes.map ints).length:Int),((b.lo.map i64).length:Int),((b.hi.map i64).length:Int),((b.modes.map ints).length:Int)]:=by simp [BO]
  have hn':=hn
  rw [e5] at hn'
  have h5:(BO a b).length=5:=rfl
  (repeat' ((conv=>whnf);first|(refine Idx.got (f:=i64) hn' rfl ?_)|refine gA ?_|(refine gB ?_ ?_<;>intro h)|(refine gI ?_;intro x hx)|(refine gJ ?_;intro j x hj hx)|refine gV ?_|intro _))<;>try (conv=>whnf)
  ·refine nx (k+1) ?_
   rw [decide_eq_true h,Bool.true_and] at hi
   exact⟨by omega,hi⟩
  ·refine⟨?_,rfl,trivial⟩
   rw [decide_eq_false h,Bool.false_and] at hi
   rw [gW, ← hi];rfl
  ·exfalso
   simp only [List.length_cons,List.length_nil] at*
   omega
 ·have h5:(BO a b).length=5:=rfl
  have hs:wH a b=true:=by rw [← hi,List.drop_eq_nil_of_le (by omega)];rfl
  have hl:=yC.1 hs
  obtain rfl:k=5:=by omega
  clear hi
  (repeat' ((conv=>whnf);first|refine gA ?_|(refine gB ?_ ?_<;>intro h)|(refine gI ?_;intro x hx)|(refine gJ ?_;intro j x hj hx)|refine gV ?_|intro _))<;>try (conv=>whnf)
  ·exfalso
   simp only [List.length_cons,List.length_nil] at h
   omega
  refine au [2,3,37] [2,3] [] ?_
  (conv=>whnf)
  refine ak.go ((Nat)) (fun k=>(k≤a.lo.length)∧(∀i,i < k→KI a b i=true)) (fun k=>[(38,.data (i64 k))]) (fun _=>[]) (fun _=>[]) (fun k=>a.lo.length - k) (0) ?_ ?_
  ·exact⟨by omega,by omega⟩
  rintro k ⟨hk,hi⟩
  by_cases hlt:k < a.lo.length
  ·obtain⟨x,h1⟩:∃x,a.lo[k]? =some x:=⟨a.lo[k]'(by omega),by simp⟩
   obtain⟨x',h2⟩:∃x,b.lo[k]? =some x:=⟨b.lo[k]'(by omega),by simp⟩
   obtain⟨y,h3⟩:∃x,a.hi[k]? =some x:=⟨a.hi[k]'(by omega),by simp⟩
   obtain⟨y',h4⟩:∃x,b.hi[k]? =some x:=⟨b.hi[k]'(by omega),by simp⟩
   obtain⟨m,g5⟩:∃x,a.modes[k]? =some x:=⟨a.modes[k]'(by omega),by simp⟩
   obtain⟨m',g6⟩:∃x,b.modes[k]? =some x:=⟨b.modes[k]'(by omega),by simp⟩
   have e:KI a b k=(!decide (x < x')&&(!decide (y > y')&&subset m m')):=by simp only [KI,h1,h2,h3,h4,g5,g6]
   (repeat' ((conv=>whnf);first|with_reducible refine Idx.got h1 rfl ?_|with_reducible refine Idx.got h2 rfl ?_|with_reducible refine Idx.got h3 rfl ?_|with_reducible refine Idx.got h4 rfl ?_|with_reducible refine Idx.got g5 rfl ?_|with_reducible refine Idx.got g6 rfl ?_|refine gA ?_|(refine gB ?_ ?_<;>intro h)|(refine gI ?_;intro x hx)|(refine gJ ?_;intro j x hj hx)|refine gV ?_|refine gC (zJ m m') ?_|intro _))<;>try (conv=>whnf)
   ·refine⟨?_,rfl,trivial⟩
    rw [gW,iw k hlt (by rw [e,decide_eq_true h];rfl),Bool.and_false]
   ·refine⟨?_,rfl,trivial⟩
    rw [gW,iw k hlt (by rw [e,decide_eq_true h];simp),Bool.and_false]
   ·refine nx (k+1) ?_
    exact⟨by omega,gU hi (by rw [e,h];simp;omega)⟩
   ·refine⟨?_,rfl,trivial⟩
    rw [gW,iw k hlt (by rw [e,h];simp),Bool.and_false]
   all_goals (exfalso;omega)
  ·(repeat' ((conv=>whnf);first|(exfalso;omega)|refine gA ?_|(refine gB ?_ ?_<;>intro h)|(refine gI ?_;intro x hx)|(refine gJ ?_;intro j x hj hx)|refine gV ?_|intro _))<;>try (conv=>whnf)
   refine⟨?_,rfl,trivial⟩
   rw [gW,hs,dN.2 fun i hh=>hi i (by omega)];rfl
end Go.Proofs.YtglikcnmgnlejaaGreat.Abs
namespace Go.Proofs.YtglikcnmgnlejaaGreat.Abs
open Go.Proofs
theorem Fh (a b:Dom):Con 174 [.d a.av,.d b.av] (.d (.bool (gW a b))):=by
 refine con Tryz.func174 rfl rfl Tryz.call174 rfl fun hwf=>?_
 simp only [ARs.wf,AR.wf,AV.wf,AV.wfs,lm,lim] at hwf
 cases hs:wH a b with
 |false=>
  (repeat' ((conv=>whnf);first|refine gA ?_|(refine gB ?_ ?_<;>intro h)|(refine gI ?_;intro x hx)|(refine gJ ?_;intro j x hj hx)|refine gV ?_|intro _))<;>try (conv=>whnf)
  all_goals first
   |(refine⟨?_,rfl,trivial⟩;simp [gW,hs];done)
   |(exfalso;rw [← Bool.not_eq_true,yC] at hs;omega)
 |true=>
  have hl:=yC.1 hs
  (repeat' ((conv=>whnf);first|refine gA ?_|(refine gB ?_ ?_<;>intro h)|(refine gI ?_;intro x hx)|(refine gJ ?_;intro j x hj hx)|refine gV ?_|intro _))<;>try (conv=>whnf)
  all_goals try (exfalso;omega)
  refine au [2,3,45] [2,3] [] ?_
  (conv=>whnf)
  refine ak.go ((Nat)) (fun k=>(k≤a.lo.length)∧(∀i,i < k→KI a b i=true)) (fun k=>[(46,.data (i64 k))]) (fun _=>[]) (fun _=>[]) (fun k=>a.lo.length - k) (0) ?_ ?_
  ·exact⟨by omega,by omega⟩
  rintro k ⟨hk,hi⟩
  by_cases hlt:k < a.lo.length
  ·obtain⟨x,h1⟩:∃x,a.lo[k]? =some x:=⟨a.lo[k]'(by omega),by simp⟩
   obtain⟨x',h2⟩:∃x,b.lo[k]? =some x:=⟨b.lo[k]'(by omega),by simp⟩
   obtain⟨y,h3⟩:∃x,a.hi[k]? =some x:=⟨a.hi[k]'(by omega),by simp⟩
   obtain⟨y',h4⟩:∃x,b.hi[k]? =some x:=⟨b.hi[k]'(by omega),by simp⟩
   obtain⟨m,g5⟩:∃x,a.modes[k]? =some x:=⟨a.modes[k]'(by omega),by simp⟩
   obtain⟨m',g6⟩:∃x,b.modes[k]? =some x:=⟨b.modes[k]'(by omega),by simp⟩
   have e:KI a b k=(!decide (x < x')&&(!decide (y > y')&&subset m m')):=by simp only [KI,h1,h2,h3,h4,g5,g6]
   (repeat' ((conv=>whnf);first|with_reducible refine Idx.got h1 rfl ?_|with_reducible refine Idx.got h2 rfl ?_|with_reducible refine Idx.got h3 rfl ?_|with_reducible refine Idx.got h4 rfl ?_|with_reducible refine Idx.got g5 rfl ?_|with_reducible refine Idx.got g6 rfl ?_|refine gA ?_|(refine gB ?_ ?_<;>intro h)|(refine gI ?_;intro x hx)|(refine gJ ?_;intro j x hj hx)|refine gV ?_|refine gC (zK m m') ?_|intro _))<;>try (conv=>whnf)
   ·refine⟨?_,rfl,trivial⟩
    rw [gW,iw k hlt (by rw [e,decide_eq_true h];rfl),Bool.and_false]
   ·refine⟨?_,rfl,trivial⟩
    rw [gW,iw k hlt (by rw [e,decide_eq_true h];simp),Bool.and_false]
   ·refine nx (k+1) ?_
    exact⟨by omega,gU hi (by rw [e,h];simp;omega)⟩
   ·refine⟨?_,rfl,trivial⟩
    rw [gW,iw k hlt (by rw [e,h];simp),Bool.and_false]
   all_goals (exfalso;omega)
  ·(repeat' ((conv=>whnf);first|(exfalso;omega)|refine gA ?_|(refine gB ?_ ?_<;>intro h)|(refine gI ?_;intro x hx)|(refine gJ ?_;intro j x hj hx)|refine gV ?_|intro _))<;>try (conv=>whnf)
   refine⟨?_,rfl,trivial⟩
   rw [gW,hs,dN.2 fun i hh=>hi i (by omega)];rfl
end Go.Proofs.YtglikcnmgnlejaaGreat.Abs
namespace Go.Proofs.YtglikcnmgnlejaaGreat.Abs
open Go.Proofs
theorem Wj (g:Lg) (hp:g.proj.fine):Con 86 [.d g.av] (.d (.bool (wI g))):=by
 refine con Tryz.func86 rfl rfl Tryz.call86 rfl fun hwf=>?_
 simp only [ARs.wf,AR.wf,AV.wf,AV.wfs,lm,lim] at hwf
 (repeat' ((conv=>whnf);first|refine gA ?_|(refine gB ?_ ?_<;>intro h)|(refine gI ?_;intro x hx)|(refine gJ ?_;intro j x hj hx)|refine gV ?_|refine gC (dA g.proj hp) ?_|refine gC (bn g.proj g.dom hp) ?_|refine gC (tV g.proj hp) ?_|intro _))<;>try (conv=>whnf)
 all_goals try (refine⟨?_,rfl,trivial⟩;simp [wI, *];done)
 have ho:bE g.proj=true:=by assumption
 have hf:aQ g.proj g.dom=true:=by assumption
 refine au [1,3,30,31] [1] [] ?_
 (conv=>whnf)
 refine ak.go ((Nat)×(Dom)) (fun⟨k,d⟩=>(k≤g.decs.length)∧((g.decs.drop k).all (rX g.proj)=g.decs.all (rX g.proj))∧((g.decs.drop k).foldl restrict d=vM g)) (fun⟨k,d⟩=>[(32,.data (i64 k))]) (fun⟨k,d⟩=>[(3,(AV.cells d.av).map SV.data)]) (fun _=>[]) (fun⟨k,d⟩=>g.decs.length - k) ⟨0,pF g.proj⟩ ?_ ?_
 ·exact⟨by omega,rfl,by rw [pF,if_pos ho];rfl⟩
 rintro⟨k,d⟩ ⟨hk,ha,hi⟩
 by_cases hlt:k < g.decs.length
 ·obtain⟨x,hx⟩:∃x,g.decs[k]? =some x:=⟨g.decs[k]'hlt,by simp⟩
  rw [ay hx,List.all_cons] at ha
  rw [ay hx,List.foldl_cons] at hi
  (repeat' ((conv=>whnf);first|with_reducible refine Idx.got hx rfl ?_|refine gA ?_|(refine gB ?_ ?_<;>intro h)|(refine gI ?_;intro x hx)|(refine gJ ?_;intro j x hj hx)|refine gV ?_|refine gC (tT g.proj x hp) ?_|refine gC (fJ d x) ?_|intro _))<;>try (conv=>whnf)
  ·refine nx ⟨k+1,restrict d x⟩ ?_
   rw [h,Bool.true_and] at ha
   exact⟨by omega,ha,hi⟩
  ·refine⟨?_,rfl,trivial⟩
   rw [h,Bool.false_and] at ha
   rw [wI, ← ha];simp
  ·exfalso;omega
 ·rw [oW hlt] at ha hi
  have hd:d=vM g:=hi
  subst hd
  have e:wI g=(wG g.proj g.lines&&((kN g.proj (g.lines.map Lin.clause) (vM g)).2||gW (kN g.proj (g.lines.map Lin.clause) (vM g)).1 g.dom)):=by
   have ha':g.decs.all (rX g.proj)=true:=by rw [← ha];rfl
   have hn:decide ((g.decs.length:Int) > 20)=false:=decide_eq_false (by assumption)
   rw [wI,ho,hf,ha',hn];rfl
  rw [e]
  (repeat' ((conv=>whnf);first|(exfalso;omega)|refine gA ?_|(refine gB ?_ ?_<;>intro h)|(refine gI ?_;intro x hx)|(refine gJ ?_;intro j x hj hx)|refine gV ?_|refine gC (Ld g.proj g.lines hp) ?_|refine gC (EK g.lines) ?_|refine gC (uj g.proj (g.lines.map Lin.clause) (vM g) hp) ?_|refine gC (Fg _ g.dom) ?_|intro _))<;>try (conv=>whnf)
  all_goals (refine⟨?_,rfl,trivial⟩;simp [*])
theorem Uq (p:Proj) (l:List Lit) (hd:1≤p.dead∧p.dead≤60):Con 173 [.d p.av,.d (lits l)] (.d (l.foldl restrict (je p)).av):=by
 refine con Tryz.func173 rfl rfl Tryz.call173 rfl fun hwf=>?_
 simp only [ARs.wf,AR.wf,AV.wf,AV.wfs,lm,lim] at hwf
 (repeat' ((conv=>whnf);first|refine gA ?_|(refine gB ?_ ?_<;>intro h)|(refine gI ?_;intro x hx)|(refine gJ ?_;intro j x hj hx)|refine gV ?_|refine gC (xM p hd) ?_|intro _))<;>try (conv=>whnf)
 refine au [4,5,10,11] [4] [] ?_
 (conv=>whnf)
 refine ak.go ((Nat)×(Dom)) (fun⟨k,d⟩=>(k≤l.length)∧(∀m∈d.modes,kr m=true)∧((l.drop k).foldl restrict d=l.foldl restrict (je p))) (fun⟨k,d⟩=>[(12,.data (i64 k))]) (fun⟨k,d⟩=>[(5,(AV.cells d.av).map SV.data)]) (fun _=>[]) (fun⟨k,d⟩=>l.length - k) ⟨0,je p⟩ ?_ ?_
 ·exact⟨by omega,uS p,rfl⟩
 rintro⟨k,d⟩ ⟨hk,hd,hi⟩
 (repeat' ((conv=>whnf);first|refine gA ?_|(refine gB ?_ ?_<;>intro h)|(refine gI ?_;intro x hx)|(refine gJ ?_;intro j x hj hx)|refine gV ?_|refine gC (jY d x (fun m hm=>hd m (List.mem_of_getElem? hm))) ?_|intro _))<;>try (conv=>whnf)
 ·refine nx ⟨k+1,restrict d x⟩ ?_
  rw [ay hx] at hi
  exact⟨by omega,Iz hd _,hi⟩
 ·refine⟨?_,rfl,trivial⟩
  rw [aG (by assumption)] at hi
  rw [← hi];rfl
theorem Wm (g:Lg) (hp:g.proj.fine):Con 79 [.d g.av] (.d (.bool (wI g))):=by
 refine con Tryz.func79 rfl rfl Tryz.call79 rfl fun hwf=>?_
 simp only [ARs.wf,AR.wf,AV.wf,AV.wfs,lm,lim] at hwf
 (repeat' ((conv=>whnf);first|refine gA ?_|(refine gB ?_ ?_<;>intro h)|(refine gI ?_;intro x hx)|(refine gJ ?_;intro j x hj hx)|refine gV ?_|refine gC (dO g.proj hp) ?_|refine gC (bX g.proj g.dom hp) ?_|intro _))<;>try (conv=>whnf)
 all_goals try (refine⟨?_,rfl,trivial⟩;simp [wI, *];done)
 have ho:bE g.proj=true:=by assumption
 have hf:aQ g.proj g.dom=true:=by assumption
 refine au [1,28,29] [1] [] ?_
 (conv=>whnf)
 refine ak.go ((Nat)) (fun k=>(k≤g.decs.length)∧((g.decs.drop k).all (rX g.proj)=g.decs.all (rX g.proj))) (fun k=>[(30,.data (i64 k))]) (fun _=>[]) (fun _=>[]) (fun k=>g.decs.length - k) (0) ?_ ?_
 ·exact⟨by omega,rfl⟩
 rintro k ⟨hk,ha⟩
 by_cases hlt:k < g.decs.length
 ·obtain⟨x,hx⟩:∃x,g.decs[k]? =some x:=⟨g.decs[k]'hlt,by simp⟩
  rw [ay hx,List.all_cons] at ha
  (repeat' ((conv=>whnf);first|with_reducible refine Idx.got hx rfl ?_|refine gA ?_|(refine gB ?_ ?_<;>intro h)|(refine gI ?_;intro x hx)|(refine gJ ?_;intro j x hj hx)|refine gV ?_|refine gC (pK g.proj x hp) ?_|intro _))<;>try (conv=>whnf)
  ·refine nx (k+1) ?_
   rw [h,Bool.true_and] at ha
   exact⟨by omega,ha⟩
  ·refine⟨?_,rfl,trivial⟩
   rw [h,Bool.false_and] at ha
   rw [wI, ← ha];simp
  ·exfalso;omega
 ·rw [oW hlt] at ha
  have e:wI g=(wG g.proj g.lines&&((kN g.proj (g.lines.map Lin.clause) (vM g)).2||gW (kN g.proj (g.lines.map Lin.clause) (vM g)).1 g.dom)):=by
   have ha':g.decs.all (rX g.proj)=true:=by rw [← ha];rfl
   have hn:decide ((g.decs.length:Int) > 20)=false:=decide_eq_false (by assumption)
   rw [wI,ho,hf,ha',hn];rfl
  rw [e]
  (repeat' ((conv=>whnf);first|(exfalso;omega)|refine gA ?_|(refine gB ?_ ?_<;>intro h)|(refine gI ?_;intro x hx)|(refine gJ ?_;intro j x hj hx)|refine gV ?_|refine gC (Nu g.proj g.lines hp) ?_|refine gC (EL g.lines) ?_|refine gC (Uq g.proj g.decs (uT ho)) ?_|refine gC (um g.proj (g.lines.map Lin.clause) (vM g) hp) ?_|refine gC (Fh _ g.dom) ?_|intro _))<;>try (conv=>whnf)
  all_goals (refine⟨?_,rfl,trivial⟩;simp [wG, *])
end Go.Proofs.YtglikcnmgnlejaaGreat.Abs
