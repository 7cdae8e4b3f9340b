/- Contracts: domains within others, logs. No statement of a claim. -/
import Derived.Test.YtfhojdalheinaaaGreatC12
import Derived.Test.YtfhojdalheinaaaGreatPlain
set_option linter.all false
set_option linter.unusedVariables false
set_option linter.unusedSimpArgs false
set_option maxRecDepth 20000
set_option maxHeartbeats 4000000
namespace Go.Proofs.YtfhojdalheinaaaGreat.Abs
open Go.Proofs
theorem sameLens_iff {a b:Dom}:sameLens a b=true↔a.hi.length=a.lo.length∧a.modes.length=a.lo.length∧b.lo.length=a.lo.length∧b.hi.length=a.lo.length∧b.modes.length=a.lo.length:=by
 simp only [sameLens,lens5,List.all_cons,List.all_nil,Bool.and_true,Bool.and_eq_true,decide_eq_true_eq]
 omega
theorem impl_DomainSubset (a b:Dom):Con 150 [.d a.av,.d b.av] (.d (.bool (domSubset a b))):=by
 refine con Tryz.func150 rfl rfl Tryz.call150 rfl fun hwf=>?_
 simp only [ARs.wf,AR.wf,AV.wf,AV.wfs,List.length_map,lim] at hwf
 (repeat' ((conv=>whnf);first | refine gA ?_ | (refine gB ?_ ?_ <;> intro h) | (refine gI ?_;intro x hx) | (refine gJ ?_;intro j x hj hx) | refine gV ?_ | intro _)) <;> try (conv=>whnf)
 refine loopF [2,3,5,27,28] [2,3] [] ?_
 (conv=>whnf)
 refine LoopC.go ((Nat)) (fun k=>(k≤5)∧(((lens5 a b).drop k).all (fun n=>decide (n=a.lo.length))=sameLens a b)) (fun k=>[(29,.data (i64 k))]) (fun _=>[]) (fun _=>[]) (fun k=>5 - k) (0) ?_ ?_
 ·exact⟨by omega,rfl⟩
 rintro k ⟨hk,hi⟩
 by_cases hlt:k < (lens5 a b).length
 ·obtain⟨n,hn⟩:∃n,(lens5 a b)[k]? =some n:=⟨(lens5 a b)[k]'hlt,by simp⟩
  rw [drop_get hn,List.all_cons] at hi
  have e5:lens5 a b= [((a.hi.map i64).length:Int),((a.modes.map ints).length:Int),((b.lo.map i64).length:Int),((b.hi.map i64).length:Int),((b.modes.map ints).length:Int)]:=by simp [lens5]
  have hn':=hn
  rw [e5] at hn'
  have h5:(lens5 a b).length=5:=rfl
  (repeat' ((conv=>whnf);first | (refine Idx.got (f:=i64) hn' rfl ?_) | refine gA ?_ | (refine gB ?_ ?_ <;> intro h) | (refine gI ?_;intro x hx) | (refine gJ ?_;intro j x hj hx) | refine gV ?_ | intro _)) <;> try (conv=>whnf)
  ·refine nx (k+1) ?_
   rw [decide_eq_true h,Bool.true_and] at hi
   exact⟨by omega,hi⟩
  ·refine⟨?_,rfl,trivial⟩
   rw [decide_eq_false h,Bool.false_and] at hi
   rw [domSubset, ← hi];rfl
  ·exfalso
   simp only [List.length_cons,List.length_nil] at*
   omega
 ·have h5:(lens5 a b).length=5:=rfl
  have hs:sameLens a b=true:=by rw [← hi,List.drop_eq_nil_of_le (by omega)];rfl
  have hl:=sameLens_iff.1 hs
  obtain rfl:k=5:=by omega
  clear hi
  (repeat' ((conv=>whnf);first | refine gA ?_ | (refine gB ?_ ?_ <;> intro h) | (refine gI ?_;intro x hx) | (refine gJ ?_;intro j x hj hx) | refine gV ?_ | intro _)) <;> try (conv=>whnf)
  ·exfalso
   simp only [List.length_cons,List.length_nil] at h
   omega
  refine loopF [2,3,37] [2,3] [] ?_
  (conv=>whnf)
  refine LoopC.go ((Nat)) (fun k=>(k≤a.lo.length)∧(∀i,i < k→subAt a b i=true)) (fun k=>[(38,.data (i64 k))]) (fun _=>[]) (fun _=>[]) (fun k=>a.lo.length - k) (0) ?_ ?_
  ·exact⟨by omega,by omega⟩
  rintro k ⟨hk,hi⟩
  by_cases hlt:k < a.lo.length
  ·obtain⟨x,h1⟩:∃x,a.lo[k]? =some x:=⟨a.lo[k]'(by omega),by simp⟩
   obtain⟨x',h2⟩:∃x,b.lo[k]? =some x:=⟨b.lo[k]'(by omega),by simp⟩
   obtain⟨y,h3⟩:∃x,a.hi[k]? =some x:=⟨a.hi[k]'(by omega),by simp⟩
   obtain⟨y',h4⟩:∃x,b.hi[k]? =some x:=⟨b.hi[k]'(by omega),by simp⟩
   obtain⟨m,g5⟩:∃x,a.modes[k]? =some x:=⟨a.modes[k]'(by omega),by simp⟩
   obtain⟨m',g6⟩:∃x,b.modes[k]? =some x:=⟨b.modes[k]'(by omega),by simp⟩
   have e:subAt a b k=(!decide (x < x')&&(!decide (y > y')&&subset m m')):=by simp only [subAt,h1,h2,h3,h4,g5,g6]
   (repeat' ((conv=>whnf);first | with_reducible refine Idx.got h1 rfl ?_ | with_reducible refine Idx.got h2 rfl ?_ | with_reducible refine Idx.got h3 rfl ?_ | with_reducible refine Idx.got h4 rfl ?_ | with_reducible refine Idx.got g5 rfl ?_ | with_reducible refine Idx.got g6 rfl ?_ | refine gA ?_ | (refine gB ?_ ?_ <;> intro h) | (refine gI ?_;intro x hx) | (refine gJ ?_;intro j x hj hx) | refine gV ?_ | refine gC (impl_SetSubset m m') ?_ | intro _)) <;> try (conv=>whnf)
   ·refine⟨?_,rfl,trivial⟩
    rw [domSubset,allN_no k hlt (by rw [e,decide_eq_true h];rfl),Bool.and_false]
   ·refine⟨?_,rfl,trivial⟩
    rw [domSubset,allN_no k hlt (by rw [e,decide_eq_true h];simp),Bool.and_false]
   ·refine nx (k+1) ?_
    exact⟨by omega,allN_step hi (by rw [e,h];simp;omega)⟩
   ·refine⟨?_,rfl,trivial⟩
    rw [domSubset,allN_no k hlt (by rw [e,h];simp),Bool.and_false]
   all_goals (exfalso;omega)
  ·(repeat' ((conv=>whnf);first | (exfalso;omega) | refine gA ?_ | (refine gB ?_ ?_ <;> intro h) | (refine gI ?_;intro x hx) | (refine gJ ?_;intro j x hj hx) | refine gV ?_ | intro _)) <;> try (conv=>whnf)
   refine⟨?_,rfl,trivial⟩
   rw [domSubset,hs,allN_iff.2 fun i hh=>hi i (by omega)];rfl
end Go.Proofs.YtfhojdalheinaaaGreat.Abs
set_option linter.unusedVariables false
set_option linter.unusedSimpArgs false
set_option maxRecDepth 20000
set_option maxHeartbeats 4000000
namespace Go.Proofs.YtfhojdalheinaaaGreat.Abs
open Go.Proofs
theorem spec_DomainSubset (a b:Dom):Con 141 [.d a.av,.d b.av] (.d (.bool (domSubset a b))):=by
 refine con Tryz.func141 rfl rfl Tryz.call141 rfl fun hwf=>?_
 simp only [ARs.wf,AR.wf,AV.wf,AV.wfs,List.length_map,lim] at hwf
 cases hs:sameLens a b with
 | false=>
  (repeat' ((conv=>whnf);first | refine gA ?_ | (refine gB ?_ ?_ <;> intro h) | (refine gI ?_;intro x hx) | (refine gJ ?_;intro j x hj hx) | refine gV ?_ | intro _)) <;> try (conv=>whnf)
  all_goals first
   | (refine⟨?_,rfl,trivial⟩;simp [domSubset,hs];done)
   | (exfalso;rw [← Bool.not_eq_true,sameLens_iff] at hs;omega)
 | true=>
  have hl:=sameLens_iff.1 hs
  (repeat' ((conv=>whnf);first | refine gA ?_ | (refine gB ?_ ?_ <;> intro h) | (refine gI ?_;intro x hx) | (refine gJ ?_;intro j x hj hx) | refine gV ?_ | intro _)) <;> try (conv=>whnf)
  all_goals try (exfalso;omega)
  refine loopF [2,3,45] [2,3] [] ?_
  (conv=>whnf)
  refine LoopC.go ((Nat)) (fun k=>(k≤a.lo.length)∧(∀i,i < k→subAt a b i=true)) (fun k=>[(46,.data (i64 k))]) (fun _=>[]) (fun _=>[]) (fun k=>a.lo.length - k) (0) ?_ ?_
  ·exact⟨by omega,by omega⟩
  rintro k ⟨hk,hi⟩
  by_cases hlt:k < a.lo.length
  ·obtain⟨x,h1⟩:∃x,a.lo[k]? =some x:=⟨a.lo[k]'(by omega),by simp⟩
   obtain⟨x',h2⟩:∃x,b.lo[k]? =some x:=⟨b.lo[k]'(by omega),by simp⟩
   obtain⟨y,h3⟩:∃x,a.hi[k]? =some x:=⟨a.hi[k]'(by omega),by simp⟩
   obtain⟨y',h4⟩:∃x,b.hi[k]? =some x:=⟨b.hi[k]'(by omega),by simp⟩
   obtain⟨m,g5⟩:∃x,a.modes[k]? =some x:=⟨a.modes[k]'(by omega),by simp⟩
   obtain⟨m',g6⟩:∃x,b.modes[k]? =some x:=⟨b.modes[k]'(by omega),by simp⟩
   have e:subAt a b k=(!decide (x < x')&&(!decide (y > y')&&subset m m')):=by simp only [subAt,h1,h2,h3,h4,g5,g6]
   (repeat' ((conv=>whnf);first | with_reducible refine Idx.got h1 rfl ?_ | with_reducible refine Idx.got h2 rfl ?_ | with_reducible refine Idx.got h3 rfl ?_ | with_reducible refine Idx.got h4 rfl ?_ | with_reducible refine Idx.got g5 rfl ?_ | with_reducible refine Idx.got g6 rfl ?_ | refine gA ?_ | (refine gB ?_ ?_ <;> intro h) | (refine gI ?_;intro x hx) | (refine gJ ?_;intro j x hj hx) | refine gV ?_ | refine gC (spec_SetSubset m m') ?_ | intro _)) <;> try (conv=>whnf)
   ·refine⟨?_,rfl,trivial⟩
    rw [domSubset,allN_no k hlt (by rw [e,decide_eq_true h];rfl),Bool.and_false]
   ·refine⟨?_,rfl,trivial⟩
    rw [domSubset,allN_no k hlt (by rw [e,decide_eq_true h];simp),Bool.and_false]
   ·refine nx (k+1) ?_
    exact⟨by omega,allN_step hi (by rw [e,h];simp;omega)⟩
   ·refine⟨?_,rfl,trivial⟩
    rw [domSubset,allN_no k hlt (by rw [e,h];simp),Bool.and_false]
   all_goals (exfalso;omega)
  ·(repeat' ((conv=>whnf);first | (exfalso;omega) | refine gA ?_ | (refine gB ?_ ?_ <;> intro h) | (refine gI ?_;intro x hx) | (refine gJ ?_;intro j x hj hx) | refine gV ?_ | intro _)) <;> try (conv=>whnf)
   refine⟨?_,rfl,trivial⟩
   rw [domSubset,hs,allN_iff.2 fun i hh=>hi i (by omega)];rfl
end Go.Proofs.YtfhojdalheinaaaGreat.Abs
set_option linter.unusedVariables false
set_option linter.unusedSimpArgs false
set_option maxRecDepth 20000
set_option maxHeartbeats 4000000
namespace Go.Proofs.YtfhojdalheinaaaGreat.Abs
open Go.Proofs
theorem impl_LogOk (g:Lg) (hp:g.proj.fine):Con 74 [.d g.av] (.d (.bool (logOk g))):=by
 refine con Tryz.func74 rfl rfl Tryz.call74 rfl fun hwf=>?_
 simp only [ARs.wf,AR.wf,AV.wf,AV.wfs,List.length_map,lim] at hwf
 (repeat' ((conv=>whnf);first | refine gA ?_ | (refine gB ?_ ?_ <;> intro h) | (refine gI ?_;intro x hx) | (refine gJ ?_;intro j x hj hx) | refine gV ?_ | refine gC (impl_ProjectOk g.proj hp) ?_ | refine gC (impl_DomainForm g.proj g.dom hp) ?_ | refine gC (impl_InitialDomain g.proj hp) ?_ | intro _)) <;> try (conv=>whnf)
 all_goals try (refine⟨?_,rfl,trivial⟩;simp [logOk, *];done)
 have ho:projOk g.proj=true:=by assumption
 have hf:domForm g.proj g.dom=true:=by assumption
 refine loopF [1,3,30,31] [1] [] ?_
 (conv=>whnf)
 refine LoopC.go ((Nat)×(Dom)) (fun⟨k,d⟩=>(k≤g.decs.length)∧((g.decs.drop k).all (litOk g.proj)=g.decs.all (litOk g.proj))∧((g.decs.drop k).foldl restrict d=logDom g)) (fun⟨k,d⟩=>[(32,.data (i64 k))]) (fun⟨k,d⟩=>[(3,(AV.cells d.av).map SV.data)]) (fun _=>[]) (fun⟨k,d⟩=>g.decs.length - k) ⟨0,initDom g.proj⟩ ?_ ?_
 ·exact⟨by omega,rfl,by rw [initDom,if_pos ho];rfl⟩
 rintro⟨k,d⟩ ⟨hk,ha,hi⟩
 by_cases hlt:k < g.decs.length
 ·obtain⟨x,hx⟩:∃x,g.decs[k]? =some x:=⟨g.decs[k]'hlt,by simp⟩
  rw [drop_get hx,List.all_cons] at ha
  rw [drop_get hx,List.foldl_cons] at hi
  (repeat' ((conv=>whnf);first | with_reducible refine Idx.got hx rfl ?_ | refine gA ?_ | (refine gB ?_ ?_ <;> intro h) | (refine gI ?_;intro x hx) | (refine gJ ?_;intro j x hj hx) | refine gV ?_ | refine gC (impl_LiteralOk g.proj x hp) ?_ | refine gC (impl_Restrict d x) ?_ | intro _)) <;> try (conv=>whnf)
  ·refine nx ⟨k+1,restrict d x⟩ ?_
   rw [h,Bool.true_and] at ha
   exact⟨by omega,ha,hi⟩
  ·refine⟨?_,rfl,trivial⟩
   rw [h,Bool.false_and] at ha
   rw [logOk, ← ha];simp
  ·exfalso;omega
 ·rw [drop_end hlt] at ha hi
  have hd:d=logDom g:=hi
  subst hd
  have e:logOk g=(isChecked g.proj g.lines&&((unitProp g.proj (g.lines.map Lin.clause) (logDom g)).2||domSubset (unitProp g.proj (g.lines.map Lin.clause) (logDom g)).1 g.dom)):=by
   have ha':g.decs.all (litOk g.proj)=true:=by rw [← ha];rfl
   have hn:decide ((g.decs.length:Int) > 20)=false:=decide_eq_false (by assumption)
   rw [logOk,ho,hf,ha',hn];rfl
  rw [e]
  (repeat' ((conv=>whnf);first | (exfalso;omega) | refine gA ?_ | (refine gB ?_ ?_ <;> intro h) | (refine gI ?_;intro x hx) | (refine gJ ?_;intro j x hj hx) | refine gV ?_ | refine gC (impl_isChecked g.proj g.lines hp) ?_ | refine gC (impl_Clauses g.lines) ?_ | refine gC (impl_UnitPropagate g.proj (g.lines.map Lin.clause) (logDom g) hp) ?_ | refine gC (impl_DomainSubset _ g.dom) ?_ | intro _)) <;> try (conv=>whnf)
  all_goals (refine⟨?_,rfl,trivial⟩;simp [*])
theorem spec_l22Box (p:Proj) (l:List Lit) (hd:1≤p.dead∧p.dead≤60):Con 140 [.d p.av,.d (lits l)] (.d (l.foldl restrict (initDom' p)).av):=by
 refine con Tryz.func140 rfl rfl Tryz.call140 rfl fun hwf=>?_
 simp only [ARs.wf,AR.wf,AV.wf,AV.wfs,List.length_map,lim] at hwf
 (repeat' ((conv=>whnf);first | refine gA ?_ | (refine gB ?_ ?_ <;> intro h) | (refine gI ?_;intro x hx) | (refine gJ ?_;intro j x hj hx) | refine gV ?_ | refine gC (spec_l12Of p hd) ?_ | intro _)) <;> try (conv=>whnf)
 refine loopF [4,5,10,11] [4] [] ?_
 (conv=>whnf)
 refine LoopC.go ((Nat)×(Dom)) (fun⟨k,d⟩=>(k≤l.length)∧(∀m∈d.modes,setOk m=true)∧((l.drop k).foldl restrict d=l.foldl restrict (initDom' p))) (fun⟨k,d⟩=>[(12,.data (i64 k))]) (fun⟨k,d⟩=>[(5,(AV.cells d.av).map SV.data)]) (fun _=>[]) (fun⟨k,d⟩=>l.length - k) ⟨0,initDom' p⟩ ?_ ?_
 ·exact⟨by omega,initDom'_ok p,rfl⟩
 rintro⟨k,d⟩ ⟨hk,hd,hi⟩
 (repeat' ((conv=>whnf);first | refine gA ?_ | (refine gB ?_ ?_ <;> intro h) | (refine gI ?_;intro x hx) | (refine gJ ?_;intro j x hj hx) | refine gV ?_ | refine gC (spec_Restrict d x (fun m hm=>hd m (List.mem_of_getElem? hm))) ?_ | intro _)) <;> try (conv=>whnf)
 ·refine nx ⟨k+1,restrict d x⟩ ?_
  rw [drop_get hx] at hi
  exact⟨by omega,restrict_ok hd _,hi⟩
 ·refine⟨?_,rfl,trivial⟩
  rw [drop_end' (by assumption)] at hi
  rw [← hi];rfl
theorem spec_LogOk (g:Lg) (hp:g.proj.fine):Con 69 [.d g.av] (.d (.bool (logOk g))):=by
 refine con Tryz.func69 rfl rfl Tryz.call69 rfl fun hwf=>?_
 simp only [ARs.wf,AR.wf,AV.wf,AV.wfs,List.length_map,lim] at hwf
 (repeat' ((conv=>whnf);first | refine gA ?_ | (refine gB ?_ ?_ <;> intro h) | (refine gI ?_;intro x hx) | (refine gJ ?_;intro j x hj hx) | refine gV ?_ | refine gC (spec_ProjectOk g.proj hp) ?_ | refine gC (spec_DomainForm g.proj g.dom hp) ?_ | intro _)) <;> try (conv=>whnf)
 all_goals try (refine⟨?_,rfl,trivial⟩;simp [logOk, *];done)
 have ho:projOk g.proj=true:=by assumption
 have hf:domForm g.proj g.dom=true:=by assumption
 refine loopF [1,28,29] [1] [] ?_
 (conv=>whnf)
 refine LoopC.go ((Nat)) (fun k=>(k≤g.decs.length)∧((g.decs.drop k).all (litOk g.proj)=g.decs.all (litOk g.proj))) (fun k=>[(30,.data (i64 k))]) (fun _=>[]) (fun _=>[]) (fun k=>g.decs.length - k) (0) ?_ ?_
 ·exact⟨by omega,rfl⟩
 rintro k ⟨hk,ha⟩
 by_cases hlt:k < g.decs.length
 ·obtain⟨x,hx⟩:∃x,g.decs[k]? =some x:=⟨g.decs[k]'hlt,by simp⟩
  rw [drop_get hx,List.all_cons] at ha
  (repeat' ((conv=>whnf);first | with_reducible refine Idx.got hx rfl ?_ | refine gA ?_ | (refine gB ?_ ?_ <;> intro h) | (refine gI ?_;intro x hx) | (refine gJ ?_;intro j x hj hx) | refine gV ?_ | refine gC (spec_LiteralOk g.proj x hp) ?_ | intro _)) <;> try (conv=>whnf)
  ·refine nx (k+1) ?_
   rw [h,Bool.true_and] at ha
   exact⟨by omega,ha⟩
  ·refine⟨?_,rfl,trivial⟩
   rw [h,Bool.false_and] at ha
   rw [logOk, ← ha];simp
  ·exfalso;omega
 ·rw [drop_end hlt] at ha
  have e:logOk g=(isChecked g.proj g.lines&&((unitProp g.proj (g.lines.map Lin.clause) (logDom g)).2||domSubset (unitProp g.proj (g.lines.map Lin.clause) (logDom g)).1 g.dom)):=by
   have ha':g.decs.all (litOk g.proj)=true:=by rw [← ha];rfl
   have hn:decide ((g.decs.length:Int) > 20)=false:=decide_eq_false (by assumption)
   rw [logOk,ho,hf,ha',hn];rfl
  rw [e]
  (repeat' ((conv=>whnf);first | (exfalso;omega) | refine gA ?_ | (refine gB ?_ ?_ <;> intro h) | (refine gI ?_;intro x hx) | (refine gJ ?_;intro j x hj hx) | refine gV ?_ | refine gC (spec_CheckAll g.proj g.lines hp) ?_ | refine gC (spec_Clauses g.lines) ?_ | refine gC (spec_l22Box g.proj g.decs (projOk_dead ho)) ?_ | refine gC (spec_UnitPropagate g.proj (g.lines.map Lin.clause) (logDom g) hp) ?_ | refine gC (spec_DomainSubset _ g.dom) ?_ | intro _)) <;> try (conv=>whnf)
  all_goals (refine⟨?_,rfl,trivial⟩;simp [isChecked, *])
end Go.Proofs.YtfhojdalheinaaaGreat.Abs
