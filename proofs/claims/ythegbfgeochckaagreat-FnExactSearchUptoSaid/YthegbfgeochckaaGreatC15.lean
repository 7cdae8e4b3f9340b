/- Part of a proof. -/
import Derived.Test.YthegbfgeochckaaGreatC12
import Derived.Test.YthegbfgeochckaaGreatPlain
set_option linter.all false
set_option maxRecDepth 20000
set_option maxHeartbeats 0
namespace Go.Proofs.YthegbfgeochckaaGreat.Abs
open Go.Proofs
theorem AY {a b:Dom}:zu a b=true↔a.hi.length=a.lo.length/\a.modes.length=a.lo.length/\b.lo.length=a.lo.length/\b.hi.length=a.lo.length/\b.modes.length=a.lo.length:=by
 simp only [zu,EX,List.all_cons,List.all_nil,Bool.and_true,Bool.and_eq_true,decide_eq_true_eq]
 omega
theorem Ju (a b:Dom):Con 80 [.d a.av,.d b.av] (.d (.bool (iP a b))):=by
 refine con Tryz.func80 rfl rfl Tryz.call80 rfl fun hwf=>?_
 simp only [ARs.wf,AR.wf,AV.wf,AV.wfs,lm,lim] at hwf
 try (conv=>whnf)
 refine ay [2,3,5,27,28] [2,3] [] ?_
 (conv=>whnf)
 refine au.go ((Nat)) (fun k=>(k<=5)/\(((EX a b).drop k).all (fun n=>decide (n=a.lo.length))=zu a b)) (fun k=>[(29,.data (i64 k))]) lE lE (fun k=>5 - k) (0) ?_ ?_
 ·exact⟨by omega,rfl⟩
 rintro k ⟨hk,hi⟩
 by_cases hlt:k < (EX a b).length
 ·obtain⟨n,hn⟩:∃n,(EX a b)[k]? =some n:=⟨(EX a b)[k]'hlt,by simp⟩
  rw [aA hn,List.all_cons] at hi
  have e5:EX a b= [((a.hi.map i64).length:Int),((a.modes.map ints).length:Int),((b.lo.map i64).length:Int),((b.hi.map i64).length:Int),((b.modes.map ints).length:Int)]:=by simp [EX]
  have hn':=hn
  rw [e5] at hn'
  have h5:(EX a b).length=5:=rfl
  (repeat' ((conv=>whnf);first|(refine Idx.got (f:=i64) hn' rfl ?_)|refine gA ?_|(refine gB ?_ ?_<;>intro h)))<;>try (conv=>whnf)
  ·refine nx (k+1) ?_
   rw [decide_eq_true h,Bool.true_and] at hi
   exact⟨by omega,hi⟩
  ·refine⟨?_,rfl,trivial⟩
   rw [decide_eq_false h,Bool.false_and] at hi
   rw [iP, <- hi];rfl
  ·exfalso
   simp only [List.length_cons,List.length_nil] at*
   omega
 ·have h5:(EX a b).length=5:=rfl
  have hs:zu a b=true:=by rw [<- hi,List.drop_eq_nil_of_le (by omega)];rfl
  have hl:=AY.1 hs
  obtain rfl:k=5:=by omega
  clear hi
  (repeat' ((conv=>whnf);first|(refine gB ?_ ?_<;>intro h)))<;>try (conv=>whnf)
  ·exfalso
   simp only [List.length_cons,List.length_nil] at h
   omega
  refine ay [2,3,37] [2,3] [] ?_
  (conv=>whnf)
  refine au.go ((Nat)) (fun k=>(k<=a.lo.length)/\(∀i,i < k->Ol a b i=true)) (fun k=>[(38,.data (i64 k))]) lE lE (fun k=>a.lo.length - k) (0) ?_ ?_
  ·exact⟨by omega,by omega⟩
  rintro k ⟨hk,hi⟩
  by_cases hlt:k < a.lo.length
  ·obtain⟨x,h1⟩:∃x,a.lo[k]? =some x:=⟨a.lo[k]'(by omega),by simp⟩
   obtain⟨x',h2⟩:∃x,b.lo[k]? =some x:=⟨b.lo[k]'(by omega),by simp⟩
   obtain⟨y,h3⟩:∃x,a.hi[k]? =some x:=⟨a.hi[k]'(by omega),by simp⟩
   obtain⟨y',h4⟩:∃x,b.hi[k]? =some x:=⟨b.hi[k]'(by omega),by simp⟩
   obtain⟨m,g5⟩:∃x,a.modes[k]? =some x:=⟨a.modes[k]'(by omega),by simp⟩
   obtain⟨m',g6⟩:∃x,b.modes[k]? =some x:=⟨b.modes[k]'(by omega),by simp⟩
   have e:Ol a b k=(!decide (x < x')&&(!decide (y > y')&&subset m m')):=by simp only [Ol,h1,h2,h3,h4,g5,g6]
   (repeat' ((conv=>whnf);first|(with_reducible first|refine Idx.got h1 rfl ?_|refine Idx.got h2 rfl ?_|refine Idx.got h3 rfl ?_|refine Idx.got h4 rfl ?_|refine Idx.got g5 rfl ?_|refine Idx.got g6 rfl ?_)|refine gAV ?_|(refine gB ?_ ?_<;>intro h)|refine gC (Cr m m') ?_|intro _))<;>try (conv=>whnf)
   ·refine⟨?_,rfl,trivial⟩
    rw [iP,fT k hlt (by rw [e,decide_eq_true h];rfl),Bool.and_false]
   ·refine⟨?_,rfl,trivial⟩
    rw [iP,fT k hlt (by rw [e,decide_eq_true h];simp),Bool.and_false]
   ·refine nx (k+1) ?_
    exact⟨by omega,eY hi (by rw [e,h];simp;omega)⟩
   ·refine⟨?_,rfl,trivial⟩
    rw [iP,fT k hlt (by rw [e,h];simp),Bool.and_false]
   all_goals (exfalso;omega)
  ·(repeat' ((conv=>whnf);first|(exfalso;omega)|(refine gB ?_ ?_<;>intro h)))<;>try (conv=>whnf)
   refine⟨?_,rfl,trivial⟩
   rw [iP,hs,dB.2 fun i hh=>hi i (by omega)];rfl
open Go.Proofs
theorem Jv (a b:Dom):Con 56 [.d a.av,.d b.av] (.d (.bool (iP a b))):=by
 refine con Tryz.func56 rfl rfl Tryz.call56 rfl fun hwf=>?_
 simp only [ARs.wf,AR.wf,AV.wf,AV.wfs,lm,lim] at hwf
 cases hs:zu a b with
 |false=>
  (repeat' ((conv=>whnf);first|refine gA ?_|(refine gB ?_ ?_<;>intro h)))<;>try (conv=>whnf)
  all_goals first
   |(refine⟨?_,rfl,trivial⟩;simp [iP,hs];done)
   |(exfalso;rw [<- Bool.not_eq_true,AY] at hs;omega)
 |true=>
  have hl:=AY.1 hs
  (repeat' ((conv=>whnf);first|refine gAV ?_|(refine gB ?_ ?_<;>intro h)))<;>try (conv=>whnf)
  all_goals try (exfalso;omega)
  refine ay [2,3,45] [2,3] [] ?_
  (conv=>whnf)
  refine au.go ((Nat)) (fun k=>(k<=a.lo.length)/\(∀i,i < k->Ol a b i=true)) (fun k=>[(46,.data (i64 k))]) lE lE (fun k=>a.lo.length - k) (0) ?_ ?_
  ·exact⟨by omega,by omega⟩
  rintro k ⟨hk,hi⟩
  by_cases hlt:k < a.lo.length
  ·obtain⟨x,h1⟩:∃x,a.lo[k]? =some x:=⟨a.lo[k]'(by omega),by simp⟩
   obtain⟨x',h2⟩:∃x,b.lo[k]? =some x:=⟨b.lo[k]'(by omega),by simp⟩
   obtain⟨y,h3⟩:∃x,a.hi[k]? =some x:=⟨a.hi[k]'(by omega),by simp⟩
   obtain⟨y',h4⟩:∃x,b.hi[k]? =some x:=⟨b.hi[k]'(by omega),by simp⟩
   obtain⟨m,g5⟩:∃x,a.modes[k]? =some x:=⟨a.modes[k]'(by omega),by simp⟩
   obtain⟨m',g6⟩:∃x,b.modes[k]? =some x:=⟨b.modes[k]'(by omega),by simp⟩
   have e:Ol a b k=(!decide (x < x')&&(!decide (y > y')&&subset m m')):=by simp only [Ol,h1,h2,h3,h4,g5,g6]
   (repeat' ((conv=>whnf);first|(with_reducible first|refine Idx.got h1 rfl ?_|refine Idx.got h2 rfl ?_|refine Idx.got h3 rfl ?_|refine Idx.got h4 rfl ?_|refine Idx.got g5 rfl ?_|refine Idx.got g6 rfl ?_)|refine gAV ?_|(refine gB ?_ ?_<;>intro h)|refine gC (Ct m m') ?_|intro _))<;>try (conv=>whnf)
   ·refine⟨?_,rfl,trivial⟩
    rw [iP,fT k hlt (by rw [e,decide_eq_true h];rfl),Bool.and_false]
   ·refine⟨?_,rfl,trivial⟩
    rw [iP,fT k hlt (by rw [e,decide_eq_true h];simp),Bool.and_false]
   ·refine nx (k+1) ?_
    exact⟨by omega,eY hi (by rw [e,h];simp;omega)⟩
   ·refine⟨?_,rfl,trivial⟩
    rw [iP,fT k hlt (by rw [e,h];simp),Bool.and_false]
   all_goals (exfalso;omega)
  ·(repeat' ((conv=>whnf);first|(exfalso;omega)|(refine gB ?_ ?_<;>intro h)))<;>try (conv=>whnf)
   refine⟨?_,rfl,trivial⟩
   rw [iP,hs,dB.2 fun i hh=>hi i (by omega)];rfl
end Go.Proofs.YthegbfgeochckaaGreat.Abs
namespace Go.Proofs.YthegbfgeochckaaGreat.Abs
open Go.Proofs
theorem ZT (g:Lg) (hp:g.proj.fine):Con 26 [.d g.av] (.d (.bool (wJ g))):=by
 refine con Tryz.func26 rfl rfl Tryz.call26 rfl fun hwf=>?_
 (repeat' ((conv=>whnf);first|refine gA ?_|(refine gB ?_ ?_<;>intro h)|refine gC (dJ g.proj hp) ?_|refine gC (bD g.proj g.dom hp) ?_|refine gC (wK g.proj hp) ?_|intro _))
 all_goals try (refine⟨?_,rfl,trivial⟩;simp [wJ, *];done)
 have ho:bI g.proj=true:=by assumption
 have hf:aW g.proj g.dom=true:=by assumption
 refine ay [1,3,30,31] [1] [] ?_
 (conv=>whnf)
 refine au.go ((Nat)×(Dom)) (fun⟨k,d⟩=>(k<=g.decs.length)/\((g.decs.drop k).all (qZ g.proj)=g.decs.all (qZ g.proj))/\((g.decs.drop k).foldl restrict d=yJ g)) (fun⟨k,d⟩=>[(32,.data (i64 k))]) (fun⟨k,d⟩=>[(3,(AV.cells d.av).map SV.data)]) lE (fun⟨k,d⟩=>g.decs.length - k) ⟨0,rA g.proj⟩ ?_ ?_
 ·exact⟨by omega,rfl,by rw [rA,if_pos ho];rfl⟩
 rintro⟨k,d⟩ ⟨hk,ha,hi⟩
 by_cases hlt:k < g.decs.length
 ·obtain⟨x,hx⟩:∃x,g.decs[k]? =some x:=⟨g.decs[k]'hlt,by simp⟩
  rw [aA hx,List.all_cons] at ha
  rw [aA hx,List.foldl_cons] at hi
  (repeat' ((conv=>whnf);first|with_reducible refine Idx.got hx rfl ?_|refine gA ?_|(refine gB ?_ ?_<;>intro h)|refine gC (rF g.proj x hp) ?_|refine gC (fP d x) ?_|intro _))
  ·refine nx ⟨k+1,restrict d x⟩ ?_
   rw [h,Bool.true_and] at ha
   exact⟨by omega,ha,hi⟩
  ·refine⟨?_,rfl,trivial⟩
   rw [h,Bool.false_and] at ha
   rw [wJ, <- ha];simp
  ·exfalso;omega
 ·rw [mg hlt] at ha hi
  have hd:d=yJ g:=hi
  subst hd
  have e:wJ g=(zo g.proj g.lines&&((mh g.proj (g.lines.map Lin.clause) (yJ g)).2||iP (mh g.proj (g.lines.map Lin.clause) (yJ g)).1 g.dom)):=by
   have ha':g.decs.all (qZ g.proj)=true:=by rw [<- ha];rfl
   have hn:decide ((g.decs.length:Int) > 20)=false:=decide_eq_false (by assumption)
   rw [wJ,ho,hf,ha',hn];rfl
  rw [e]
  (repeat' ((conv=>whnf);first|(exfalso;omega)|refine gA ?_|(refine gB ?_ ?_<;>intro h)|refine gC (OE g.proj g.lines hp) ?_|refine gC (IZ g.lines) ?_|refine gC (wR g.proj (g.lines.map Lin.clause) (yJ g) hp) ?_|refine gC (Ju _ g.dom) ?_|intro _))
  all_goals (refine⟨?_,rfl,trivial⟩;simp [*])
theorem XZ (p:Proj) (l:List Lit) (hd:1<=p.dead/\p.dead<=60):Con 55 [.d p.av,.d (lits l)] (.d (l.foldl restrict (jV p)).av):=by
 refine con Tryz.func55 rfl rfl Tryz.call55 rfl fun hwf=>?_
 simp only [ARs.wf,AR.wf,AV.wf,AV.wfs,lm,lim] at hwf
 (repeat' ((conv=>whnf);first|refine gA ?_|refine gC (Ag p hd) ?_|intro _))<;>try (conv=>whnf)
 refine ay [4,5,10,11] [4] [] ?_
 (conv=>whnf)
 refine au.go ((Nat)×(Dom)) (fun⟨k,d⟩=>(k<=l.length)/\(∀m∈d.modes,jU m=true)/\((l.drop k).foldl restrict d=l.foldl restrict (jV p))) (fun⟨k,d⟩=>[(12,.data (i64 k))]) (fun⟨k,d⟩=>[(5,(AV.cells d.av).map SV.data)]) lE (fun⟨k,d⟩=>l.length - k) ⟨0,jV p⟩ ?_ ?_
 ·exact⟨by omega,xO p,rfl⟩
 rintro⟨k,d⟩ ⟨hk,hd,hi⟩
 (repeat' ((conv=>whnf);first|refine gA ?_|(refine gB ?_ ?_<;>intro h)|(refine gI ?_;intro x hx)|refine gC (jL d x (fun m hm=>hd m (List.mem_of_getElem? hm))) ?_|intro _))<;>try (conv=>whnf)
 ·refine nx ⟨k+1,restrict d x⟩ ?_
  rw [aA hx] at hi
  exact⟨by omega,LH hd _,hi⟩
 ·refine⟨?_,rfl,trivial⟩
  rw [aG (by assumption)] at hi
  rw [<- hi];rfl
theorem ZU (g:Lg) (hp:g.proj.fine):Con 17 [.d g.av] (.d (.bool (wJ g))):=by
 refine con Tryz.func17 rfl rfl Tryz.call17 rfl fun hwf=>?_
 (repeat' ((conv=>whnf);first|refine gA ?_|(refine gB ?_ ?_<;>intro h)|refine gC (dP g.proj hp) ?_|refine gC (dH g.proj g.dom hp) ?_|intro _))
 all_goals try (refine⟨?_,rfl,trivial⟩;simp [wJ, *];done)
 have ho:bI g.proj=true:=by assumption
 have hf:aW g.proj g.dom=true:=by assumption
 refine ay [1,28,29] [1] [] ?_
 (conv=>whnf)
 refine au.go ((Nat)) (fun k=>(k<=g.decs.length)/\((g.decs.drop k).all (qZ g.proj)=g.decs.all (qZ g.proj))) (fun k=>[(30,.data (i64 k))]) lE lE (fun k=>g.decs.length - k) (0) ?_ ?_
 ·exact⟨by omega,rfl⟩
 rintro k ⟨hk,ha⟩
 by_cases hlt:k < g.decs.length
 ·obtain⟨x,hx⟩:∃x,g.decs[k]? =some x:=⟨g.decs[k]'hlt,by simp⟩
  rw [aA hx,List.all_cons] at ha
  (repeat' ((conv=>whnf);first|with_reducible refine Idx.got hx rfl ?_|refine gA ?_|(refine gB ?_ ?_<;>intro h)|refine gC (oh g.proj x hp) ?_|intro _))
  ·refine nx (k+1) ?_
   rw [h,Bool.true_and] at ha
   exact⟨by omega,ha⟩
  ·refine⟨?_,rfl,trivial⟩
   rw [h,Bool.false_and] at ha
   rw [wJ, <- ha];simp
  ·exfalso;omega
 ·rw [mg hlt] at ha
  have e:wJ g=(zo g.proj g.lines&&((mh g.proj (g.lines.map Lin.clause) (yJ g)).2||iP (mh g.proj (g.lines.map Lin.clause) (yJ g)).1 g.dom)):=by
   have ha':g.decs.all (qZ g.proj)=true:=by rw [<- ha];rfl
   have hn:decide ((g.decs.length:Int) > 20)=false:=decide_eq_false (by assumption)
   rw [wJ,ho,hf,ha',hn];rfl
  rw [e]
  (repeat' ((conv=>whnf);first|(exfalso;omega)|refine gA ?_|(refine gB ?_ ?_<;>intro h)|refine gC (QX g.proj g.lines hp) ?_|refine gC (Ja g.lines) ?_|refine gC (XZ g.proj g.decs (xP ho)) ?_|refine gC (wS g.proj (g.lines.map Lin.clause) (yJ g) hp) ?_|refine gC (Jv _ g.dom) ?_|intro _))
  all_goals (refine⟨?_,rfl,trivial⟩;simp [zo, *])
end Go.Proofs.YthegbfgeochckaaGreat.Abs
