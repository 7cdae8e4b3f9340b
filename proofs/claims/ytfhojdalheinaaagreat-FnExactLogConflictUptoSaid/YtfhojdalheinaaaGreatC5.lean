/- Contracts: literals, domains' form, clauses. No statement of a claim. -/
import Derived.Test.YtfhojdalheinaaaGreatC4
set_option linter.all false
set_option linter.unusedVariables false
set_option linter.unusedSimpArgs false
set_option maxRecDepth 20000
set_option maxHeartbeats 4000000
namespace Go.Proofs.YtfhojdalheinaaaGreat.Abs
open Go.Proofs
theorem hasAct_get {p:Proj} {a:Int} (h:hasAct p a=true):∃(n:Nat) (x:Activ),a=n∧p.acts[n]? =some x:=by
 have hn:=within_iff.1 h
 exact⟨a.toNat,p.acts[a.toNat]'(by omega),by omega,by simp⟩
theorem impl_LiteralOk (p:Proj) (l:Lit) (hp:p.fine):Con 75 [.d p.av,.d l.av] (.d (.bool (litOk p l))):=by
 refine con Tryz.func75 rfl rfl Tryz.call75 rfl fun hwf=>?_
 simp only [ARs.wf,AR.wf,AV.wf,AV.wfs,List.length_map,lim] at hwf
 cases h2:hasAct p l.act with
 | false=>
  (repeat' ((conv=>whnf);first | refine gA ?_ | (refine gN ?_ ?_ <;> intro h hw) | (refine gB ?_ ?_ <;> intro h) | (refine gI ?_;intro x hx) | (refine gJ ?_;intro j x hj hx) | refine gV ?_ | refine gC (impl_ProjectOk p hp) ?_ | refine gC (impl_hasActivity p _) ?_ | refine gC (impl_within _ _ _) ?_ | intro _)) <;> try (conv=>whnf)
  all_goals first
   | (refine⟨?_,rfl,trivial⟩;simp [litOk, *];done)
   | (exfalso;simp [hasAct, *] at h2;done)
 | true=>
  obtain⟨n,x,ha,hx⟩:=hasAct_get h2
  have hm:=wfs_get hwf.1.2.1.2 hx
  have e:l.act.toNat=n:=by omega
  simp only [AV.wf,AV.wfs,List.length_map] at hm
  (repeat' ((conv=>whnf);first | with_reducible refine Idx.got hx (by first | exact ha | rfl) ?_ | refine gA ?_ | (refine gN ?_ ?_ <;> intro h hw) | (refine gB ?_ ?_ <;> intro h) | (refine gI ?_;intro x hx) | (refine gJ ?_;intro j x hj hx) | refine gV ?_ | refine gC (impl_ProjectOk p hp) ?_ | refine gC (impl_hasActivity p _) ?_ | refine gC (impl_within _ _ _) ?_ | intro _)) <;> try (conv=>whnf)
  all_goals first
   | (refine⟨?_,rfl,trivial⟩;simp [litOk, *, -ha];done)
   | (exfalso;simp [hasAct, *] at h2;done)
theorem spec_LiteralOk (p:Proj) (l:Lit) (hp:p.fine):Con 136 [.d p.av,.d l.av] (.d (.bool (litOk p l))):=by
 refine con Tryz.func136 rfl rfl Tryz.call136 rfl fun hwf=>?_
 simp only [ARs.wf,AR.wf,AV.wf,AV.wfs,List.length_map,lim] at hwf
 cases h2:hasAct p l.act with
 | false=>
  have h2':within l.act 0 (((p.acts.map Activ.av).length:Int) - 1)=false:=by rw [List.length_map];exact h2
  (repeat' ((conv=>whnf);first | refine gA ?_ | (refine gN ?_ ?_ <;> intro h hw) | (refine gB ?_ ?_ <;> intro h) | (refine gI ?_;intro x hx) | (refine gJ ?_;intro j x hj hx) | refine gV ?_ | refine gC (spec_ProjectOk p hp) ?_ | refine gC (spec_in _ _ _) ?_ | intro _)) <;> try (conv=>whnf)
  all_goals (refine⟨?_,rfl,trivial⟩;simp [litOk,h2])
 | true=>
  have h2':within l.act 0 (((p.acts.map Activ.av).length:Int) - 1)=true:=by rw [List.length_map];exact h2
  obtain⟨n,x,ha,hx⟩:=hasAct_get h2
  have hm:=wfs_get hwf.1.2.1.2 hx
  have e:l.act.toNat=n:=by omega
  simp only [AV.wf,AV.wfs,List.length_map] at hm
  (repeat' ((conv=>whnf);first | with_reducible refine Idx.got hx (by first | exact ha | rfl) ?_ | refine gA ?_ | (refine gN ?_ ?_ <;> intro h hw) | (refine gB ?_ ?_ <;> intro h) | (refine gI ?_;intro x hx) | (refine gJ ?_;intro j x hj hx) | refine gV ?_ | refine gC (spec_ProjectOk p hp) ?_ | refine gC (spec_in _ _ _) ?_ | intro _)) <;> try (conv=>whnf)
  all_goals first
   | (refine⟨?_,rfl,trivial⟩;simp [litOk, *, -ha, -h2'];done)
   | (exfalso;simp [hasAct, *] at h2;done)
theorem cmp_isNaN (n:Int):Con 217 [.d (i64 n)] (.d (.bool false)):=by
 refine con Tryz.func217 rfl rfl Tryz.call217 rfl fun hwf=>?_
 (repeat' ((conv=>whnf);first | refine gA ?_ | (refine gB ?_ ?_ <;> intro h) | intro _)) <;> try (conv=>whnf)
 refine⟨?_,rfl,trivial⟩
 simp
theorem cmp_Compare (x y:Int):Con 122 [.d (i64 x),.d (i64 y)] (.d (i64 (cmpI x y))):=by
 refine con Tryz.func122 rfl rfl Tryz.call122 rfl fun hwf=>?_
 (repeat' ((conv=>whnf);first | refine gA ?_ | (refine gN ?_ ?_ <;> intro h hw) | (refine gB ?_ ?_ <;> intro h) | refine gC (cmp_isNaN _) ?_ | intro _)) <;> try (conv=>whnf)
 all_goals refine⟨?_,rfl,trivial⟩
 all_goals (simp only [cmpI,i64,AV.int.injEq,true_and];split <;> (try split) <;> omega)
theorem cmp_Or (l:List Int):Con 342 [.d (ints l)] (.d (i64 (orI l))):=by
 refine con Tryz.func342 rfl rfl Tryz.call342 rfl fun hwf=>?_
 simp only [ARs.wf,AR.wf,AV.wf,AV.wfs,List.length_map,lim] at hwf
 (repeat' ((conv=>whnf);first | refine gA ?_ | (refine gB ?_ ?_ <;> intro h) | (refine gI ?_;intro x hx) | (refine gJ ?_;intro j x hj hx) | refine gV ?_ | intro _)) <;> try (conv=>whnf)
 refine loopF [3,6,7] [] [] ?_
 (conv=>whnf)
 refine LoopC.go ((Nat)) (fun k=>(k≤l.length)∧(orI (l.drop k)=orI l)) (fun k=>[(8,.data (i64 k))]) (fun _=>[]) (fun _=>[]) (fun k=>l.length - k) (0) ?_ ?_
 ·exact⟨by omega,rfl⟩
 rintro k ⟨hk,hi⟩
 (repeat' ((conv=>whnf);first | refine gA ?_ | (refine gB ?_ ?_ <;> intro h) | (refine gI ?_;intro x hx) | (refine gJ ?_;intro j x hj hx) | refine gV ?_ | intro _)) <;> try (conv=>whnf)
 all_goals first
  | exact trivial
  | (refine⟨?_,rfl,trivial⟩;rw [drop_end' (l:=l) (by assumption)] at hi;first | (simp_all [orI];done) | (simp only [orI, ← hi];clear hi;simp_all [orI];done))
  | (refine⟨?_,rfl,trivial⟩;rw [drop_get (l:=l) (by assumption)] at hi;first | (simp_all [orI];done) | (simp only [orI, ← hi];clear hi;simp_all [orI];done))
  | (refine nx (k+1) ?_
     rw [drop_get (l:=l) (by assumption)] at hi;refine⟨by omega,?_⟩;simp_all [orI];done)
theorem impl_CompareLiterals (a b:Lit):Con 262 [.d a.av,.d b.av] (.d (i64 (cmpLit a b))):=by
 refine con Tryz.func262 rfl rfl Tryz.call262 rfl fun hwf=>?_
 (repeat' ((conv=>whnf);first | refine gA ?_ | (refine gB ?_ ?_ <;> intro h) | refine gC (cmp_Compare _ _) ?_ | refine gC (cmp_Or [cmpI a.act b.act,cmpI a.kind b.kind,cmpI a.val b.val]) ?_ | intro _)) <;> try (conv=>whnf)
 exact⟨rfl,rfl,trivial⟩
theorem spec_l11Sign (x y:Int):Con 369 [.d (i64 x),.d (i64 y)] (.d (i64 (cmpI x y))):=by
 refine con Tryz.func369 rfl rfl Tryz.call369 rfl fun hwf=>?_
 (repeat' ((conv=>whnf);first | refine gA ?_ | (refine gB ?_ ?_ <;> intro h) | intro _)) <;> try (conv=>whnf)
 all_goals refine⟨?_,rfl,trivial⟩
 all_goals (simp only [cmpI,i64,AV.int.injEq,true_and];split <;> (try split) <;> omega)
theorem cmpI_self (x:Int):cmpI x x=0:=by simp [cmpI]
theorem cmpI_ne {x y:Int} (h:x≠y):cmpI x y≠0:=by
 unfold cmpI;split
 ·omega
 ·split <;> omega
theorem spec_CompareLiterals (a b:Lit):Con 327 [.d a.av,.d b.av] (.d (i64 (cmpLit a b))):=by
 refine con Tryz.func327 rfl rfl Tryz.call327 rfl fun hwf=>?_
 (repeat' ((conv=>whnf);first | refine gA ?_ | (refine gB ?_ ?_ <;> intro h) | refine gC (spec_l11Sign _ _) ?_ | intro _)) <;> try (conv=>whnf)
 all_goals refine⟨?_,rfl,trivial⟩
 ·by_cases e:cmpI a.val b.val=0 <;> simp [cmpLit,orI, *,cmpI_self]
 ·simp [cmpLit,orI, *,cmpI_self,cmpI_ne]
 ·simp [cmpLit,orI, *,cmpI_self,cmpI_ne]
theorem impl_ClauseOk (p:Proj) (l:List Lit) (hp:p.fine):Con 343 [.d p.av,.d (lits l)] (.d (.bool (clauseOk p l))):=by
 refine con Tryz.func343 rfl rfl Tryz.call343 rfl fun hwf=>?_
 simp only [ARs.wf,AR.wf,AV.wf,AV.wfs,List.length_map,lim] at hwf
 (repeat' ((conv=>whnf);first | refine gA ?_ | (refine gB ?_ ?_ <;> intro h) | (refine gI ?_;intro x hx) | (refine gJ ?_;intro j x hj hx) | refine gV ?_ | intro _)) <;> try (conv=>whnf)
 refine loopF [1,2,7,8] [2] [] ?_
 (conv=>whnf)
 refine LoopC.go ((Nat)) (fun k=>(k≤l.length)∧(∀i,i < k→clauseAt p l i=true)) (fun k=>[(9,.data (i64 k))]) (fun _=>[]) (fun _=>[]) (fun k=>l.length - k) (0) ?_ ?_
 ·exact⟨by omega,by omega⟩
 rintro k ⟨hk,hi⟩
 (repeat' ((conv=>whnf);first | refine gA ?_ | (refine gB ?_ ?_ <;> intro h) | (refine gI ?_;intro x hx) | (refine gJ ?_;intro j x hj hx) | refine gV ?_ | refine gC (impl_LiteralOk p _ hp) ?_ | refine gC (impl_CompareLiterals _ _) ?_ | intro _)) <;> try (conv=>whnf)
 all_goals first
  | (refine⟨?_,rfl,trivial⟩;rw [clauseOk,allN_no k (by omega) (by (try (obtain rfl:j=k - 1:=by omega));simp [clauseAt, *];try omega)];rfl)
  | (refine nx (k+1) ?_
     exact⟨by omega,allN_step hi (by (try (obtain rfl:j=k - 1:=by omega));simp [clauseAt, *];try omega)⟩)
  | (refine⟨?_,rfl,trivial⟩;rw [clauseOk,allN_iff.2 fun i hh=>hi i (by omega)];simp)
theorem spec_ClauseOk (p:Proj) (l:List Lit) (hp:p.fine):Con 361 [.d p.av,.d (lits l)] (.d (.bool (clauseOk p l))):=by
 refine con Tryz.func361 rfl rfl Tryz.call361 rfl fun hwf=>?_
 simp only [ARs.wf,AR.wf,AV.wf,AV.wfs,List.length_map,lim] at hwf
 (repeat' ((conv=>whnf);first | refine gA ?_ | (refine gB ?_ ?_ <;> intro h) | (refine gI ?_;intro x hx) | (refine gJ ?_;intro j x hj hx) | refine gV ?_ | intro _)) <;> try (conv=>whnf)
 refine loopF [1,2,7,8] [2] [] ?_
 (conv=>whnf)
 refine LoopC.go ((Nat)) (fun k=>(k≤l.length)∧(∀i,i < k→clauseAt p l i=true)) (fun k=>[(9,.data (i64 k))]) (fun _=>[]) (fun _=>[]) (fun k=>l.length - k) (0) ?_ ?_
 ·exact⟨by omega,by omega⟩
 rintro k ⟨hk,hi⟩
 (repeat' ((conv=>whnf);first | refine gA ?_ | (refine gB ?_ ?_ <;> intro h) | (refine gI ?_;intro x hx) | (refine gJ ?_;intro j x hj hx) | refine gV ?_ | refine gC (spec_LiteralOk p _ hp) ?_ | refine gC (spec_CompareLiterals _ _) ?_ | intro _)) <;> try (conv=>whnf)
 all_goals first
  | (refine⟨?_,rfl,trivial⟩;rw [clauseOk,allN_no k (by omega) (by (try (obtain rfl:j=k - 1:=by omega));simp [clauseAt, *];try omega)];rfl)
  | (refine nx (k+1) ?_
     exact⟨by omega,allN_step hi (by (try (obtain rfl:j=k - 1:=by omega));simp [clauseAt, *];try omega)⟩)
  | (refine⟨?_,rfl,trivial⟩;rw [clauseOk,allN_iff.2 fun i hh=>hi i (by omega)];simp)
theorem impl_InitialDomain (p:Proj) (hp:p.fine):Con 146 [.d p.av] (.d (initDom p).av):=by
 refine con Tryz.func146 rfl rfl Tryz.call146 rfl fun hwf=>?_
 simp only [ARs.wf,AR.wf,AV.wf,AV.wfs,List.length_map,lim] at hwf
 cases ho:projOk p with
 | false=>
  (repeat' ((conv=>whnf);first | refine gA ?_ | (refine gB ?_ ?_ <;> intro h) | (refine gI ?_;intro x hx) | (refine gJ ?_;intro j x hj hx) | refine gP ?_ | refine gV ?_ | refine gC (impl_ProjectOk p hp) ?_ | intro _)) <;> try (conv=>whnf)
  refine⟨?_,rfl,trivial⟩
  rw [initDom,if_neg (by simp [ho])];rfl
 | true=>
 have hd:within p.dead 1 60=true:=by simp [projOk,headOk] at ho;simp [ho]
 have hd:=within_iff.1 hd
 (repeat' ((conv=>whnf);first | refine gA ?_ | (refine gB ?_ ?_ <;> intro h) | (refine gI ?_;intro x hx) | (refine gJ ?_;intro j x hj hx) | refine gP ?_ | refine gV ?_ | refine gC (impl_ProjectOk p hp) ?_ | intro _)) <;> try (conv=>whnf)
 refine loopF [1,2,3,12,13] [1,2] [21,28,34] ?_
 (conv=>whnf)
 refine LoopC.go ((Nat)) (fun k=>(k≤p.acts.length)) (fun k=>[(14,.data (i64 k))]) (fun k=>[(3,[.own 21 0,.own 28 0,.own 34 0])]) (fun k=>[(21,3,(p.acts.take k).map (fun _=>i64 0),0),(28,3,(p.acts.take k).map (fun _=>i64 (p.dead - 1)),0),(34,25,(p.acts.take k).map (fun a=>ints (intRange a.modes.length)),0)]) (fun k=>p.acts.length - k) (0) ?_ ?_
 ·exact Nat.zero_le _
 rintro k hk
 (repeat' ((conv=>whnf);first | refine gA ?_ | (refine gB ?_ ?_ <;> intro h) | (refine gI ?_;intro x hx) | (refine gJ ?_;intro j x hj hx) | refine gP ?_ | refine gV ?_ | refine gC (impl_ModeIndexes x) ?_ | intro _)) <;> try (conv=>whnf)
 ·refine nw (k+1) ?_ ?_
  ·(repeat' ((conv=>whnf) <;> (first | exact trivial | exact rfl | with_reducible refine And.intro ?_ ?_))) <;> ((conv=>whnf) <;> (exact map_take_succ _ hx))
  exact (by omega:k+1≤p.acts.length)
 ·refine⟨?_,rfl,trivial⟩
  rw [initDom,if_pos ho,initDom']
  dsimp only
  rw [List.take_of_length_le (by omega)]
  simp [List.map_map,Function.comp_def]
theorem spec_l12Of (p:Proj) (hd:1≤p.dead∧p.dead≤60):Con 229 [.d p.av] (.d (initDom' p).av):=by
 refine con Tryz.func229 rfl rfl Tryz.call229 rfl fun hwf=>?_
 simp only [ARs.wf,AR.wf,AV.wf,AV.wfs,List.length_map,lim] at hwf
 (repeat' ((conv=>whnf);first | refine gA ?_ | (refine gB ?_ ?_ <;> intro h) | (refine gI ?_;intro x hx) | (refine gJ ?_;intro j x hj hx) | refine gP ?_ | refine gV ?_ | intro _)) <;> try (conv=>whnf)
 refine loopF [1,2,3,8,9] [1,2] [17,25,32] ?_
 (conv=>whnf)
 refine LoopC.go ((Nat)) (fun k=>(k≤p.acts.length)) (fun k=>[(10,.data (i64 k))]) (fun k=>[(3,[.own 17 0,.own 25 0,.own 32 0])]) (fun k=>[(17,3,(p.acts.take k).map (fun _=>i64 0),0),(25,3,(p.acts.take k).map (fun _=>i64 (p.dead - 1)),0),(32,25,(p.acts.take k).map (fun a=>ints (intRange a.modes.length)),0)]) (fun k=>p.acts.length - k) (0) ?_ ?_
 ·exact Nat.zero_le _
 rintro k hk
 (repeat' ((conv=>whnf);first | refine gA ?_ | (refine gB ?_ ?_ <;> intro h) | (refine gI ?_;intro x hx) | (refine gJ ?_;intro j x hj hx) | refine gP ?_ | refine gV ?_ | refine gC (spec_ModeIndexes x) ?_ | intro _)) <;> try (conv=>whnf)
 ·refine nw (k+1) ?_ ?_
  ·(repeat' ((conv=>whnf) <;> (first | exact trivial | exact rfl | with_reducible refine And.intro ?_ ?_))) <;> ((conv=>whnf) <;> (exact map_take_succ _ hx))
  exact (by omega:k+1≤p.acts.length)
 ·refine⟨?_,rfl,trivial⟩
  rw [initDom']
  dsimp only
  rw [List.take_of_length_le (by omega)]
  simp [List.map_map,Function.comp_def]
theorem impl_DomainForm (p:Proj) (b:Dom) (hp:p.fine):Con 145 [.d p.av,.d b.av] (.d (.bool (domForm p b))):=by
 refine con Tryz.func145 rfl rfl Tryz.call145 rfl fun hwf=>?_
 simp only [ARs.wf,AR.wf,AV.wf,AV.wfs,List.length_map,lim] at hwf
 (repeat' ((conv=>whnf);first | refine gA ?_ | (refine gN ?_ ?_ <;> intro h hw) | (refine gB ?_ ?_ <;> intro h) | (refine gI ?_;intro x hx) | (refine gJ ?_;intro j x hj hx) | refine gV ?_ | refine gC (impl_ProjectOk p hp) ?_ | intro _)) <;> try (conv=>whnf)
 all_goals try (refine⟨?_,rfl,trivial⟩;simp [domForm, *];done)
 refine loopF [2,3,36,37] [2,3] [] ?_
 (conv=>whnf)
 refine LoopC.go ((Nat)) (fun k=>(k≤p.acts.length)∧(∀i,i < k→domAt p b i=true)) (fun k=>[(38,.data (i64 k))]) (fun _=>[]) (fun _=>[]) (fun k=>p.acts.length - k) (0) ?_ ?_
 ·exact⟨by omega,by omega⟩
 rintro k ⟨hk,hi⟩
 by_cases hlt:k < p.acts.length
 ·obtain⟨lo,e1⟩:∃x,b.lo[k]? =some x:=⟨b.lo[k]'(by omega),by simp⟩
  obtain⟨hi',e2⟩:∃x,b.hi[k]? =some x:=⟨b.hi[k]'(by omega),by simp⟩
  obtain⟨mo,e3⟩:∃x,b.modes[k]? =some x:=⟨b.modes[k]'(by omega),by simp⟩
  obtain⟨ac,e4⟩:∃x,p.acts[k]? =some x:=⟨p.acts[k]'(by omega),by simp⟩
  (repeat' ((conv=>whnf);first | with_reducible refine Idx.got e1 rfl ?_ | with_reducible refine Idx.got e2 rfl ?_ | with_reducible refine Idx.got e3 rfl ?_ | with_reducible refine Idx.got e4 rfl ?_ | refine gA ?_ | (refine gN ?_ ?_ <;> intro h hw) | (refine gB ?_ ?_ <;> intro h) | (refine gI ?_;intro x hx) | (refine gJ ?_;intro j x hj hx) | refine gV ?_ | refine gC (impl_isStart _) ?_ | refine gC (impl_SetOk _) ?_ | refine gC (impl_SetSubset _ _) ?_ | refine gC (impl_ModeIndexes ac) ?_ | intro _)) <;> try (conv=>whnf)
  all_goals first
   | (exfalso;omega)
   | (refine⟨?_,rfl,trivial⟩;rw [domForm,allN_no k hlt (by simp only [domAt,e1,e2,e3,e4];simp [*])];simp;done)
   | (refine nx (k+1) ?_
      exact⟨by omega,allN_step hi (by simp only [domAt,e1,e2,e3,e4];simp [*])⟩)
 ·(repeat' ((conv=>whnf);first | (exfalso;omega) | refine gA ?_ | (refine gN ?_ ?_ <;> intro h hw) | (refine gB ?_ ?_ <;> intro h) | (refine gI ?_;intro x hx) | (refine gJ ?_;intro j x hj hx) | refine gV ?_ | intro _)) <;> try (conv=>whnf)
  refine⟨?_,rfl,trivial⟩
  rw [domForm,allN_iff.2 fun i hh=>hi i (by omega)];simp [*]
theorem spec_DomainForm (p:Proj) (b:Dom) (hp:p.fine):Con 135 [.d p.av,.d b.av] (.d (.bool (domForm p b))):=by
 refine con Tryz.func135 rfl rfl Tryz.call135 rfl fun hwf=>?_
 simp only [ARs.wf,AR.wf,AV.wf,AV.wfs,List.length_map,lim] at hwf
 (repeat' ((conv=>whnf);first | refine gA ?_ | (refine gN ?_ ?_ <;> intro h hw) | (refine gB ?_ ?_ <;> intro h) | (refine gI ?_;intro x hx) | (refine gJ ?_;intro j x hj hx) | refine gV ?_ | refine gC (spec_ProjectOk p hp) ?_ | intro _)) <;> try (conv=>whnf)
 all_goals try (refine⟨?_,rfl,trivial⟩;simp [domForm, *];done)
 refine loopF [3,38,39] [3] [] ?_
 (conv=>whnf)
 refine LoopC.go ((Nat)) (fun k=>(k≤p.acts.length)∧(∀i,i < k→domAt p b i=true)) (fun k=>[(40,.data (i64 k))]) (fun _=>[]) (fun _=>[]) (fun k=>p.acts.length - k) (0) ?_ ?_
 ·exact⟨by omega,by omega⟩
 rintro k ⟨hk,hi⟩
 by_cases hlt:k < p.acts.length
 ·obtain⟨lo,e1⟩:∃x,b.lo[k]? =some x:=⟨b.lo[k]'(by omega),by simp⟩
  obtain⟨hi',e2⟩:∃x,b.hi[k]? =some x:=⟨b.hi[k]'(by omega),by simp⟩
  obtain⟨mo,e3⟩:∃x,b.modes[k]? =some x:=⟨b.modes[k]'(by omega),by simp⟩
  obtain⟨ac,e4⟩:∃x,p.acts[k]? =some x:=⟨p.acts[k]'(by omega),by simp⟩
  (repeat' ((conv=>whnf);first | with_reducible refine Idx.got e1 rfl ?_ | with_reducible refine Idx.got e2 rfl ?_ | with_reducible refine Idx.got e3 rfl ?_ | with_reducible refine Idx.got e4 rfl ?_ | refine gA ?_ | (refine gN ?_ ?_ <;> intro h hw) | (refine gB ?_ ?_ <;> intro h) | (refine gI ?_;intro x hx) | (refine gJ ?_;intro j x hj hx) | refine gV ?_ | refine gC (spec_in _ _ _) ?_ | refine gC (spec_SetOk _) ?_ | refine gC (spec_SetSubset _ _) ?_ | refine gC (spec_ModeIndexes ac) ?_ | intro _)) <;> try (conv=>whnf)
  all_goals first
   | (exfalso;omega)
   | (refine⟨?_,rfl,trivial⟩;rw [domForm,allN_no k hlt (by simp only [domAt,e1,e2,e3,e4];simp [isStart, *])];simp;done)
   | (refine nx (k+1) ?_
      exact⟨by omega,allN_step hi (by simp only [domAt,e1,e2,e3,e4];simp [isStart, *])⟩)
 ·(repeat' ((conv=>whnf);first | (exfalso;omega) | refine gA ?_ | (refine gN ?_ ?_ <;> intro h hw) | (refine gB ?_ ?_ <;> intro h) | (refine gI ?_;intro x hx) | (refine gJ ?_;intro j x hj hx) | refine gV ?_ | intro _)) <;> try (conv=>whnf)
  refine⟨?_,rfl,trivial⟩
  rw [domForm,allN_iff.2 fun i hh=>hi i (by omega)];simp [*]
theorem impl_DomainEmpty1 (l:List Int):Con 318 [.d (ints l)] (.d (.bool (decide ((l.length:Int)=0)))):=by
 refine con Tryz.func318 rfl rfl Tryz.call318 rfl fun hwf=>?_
 (repeat' ((conv=>whnf);first | refine gA ?_ | (refine gB ?_ ?_ <;> intro h) | intro _)) <;> try (conv=>whnf)
 all_goals refine⟨?_,rfl,trivial⟩
 all_goals simp
theorem slices_IndexFunc_ints (l:List (List Int)) (fc:Nat) (caps:List AV) (p:List Int→Bool) (hc:∀x:List Int,Con fc ([.d (ints x)]++caps.map .ref) (.d (.bool (p x)))):
  Con 362 [.d (.sl (l.map ints)),.fn fc caps] (.d (i64 (findI p l 0))):=by
 refine con Tryz.func362 rfl rfl Tryz.call362 rfl fun hwf=>?_
 simp only [ARs.wf,AR.wf,AV.wf,AV.wfs,List.length_map,lim] at hwf
 (conv=>whnf)
 refine loopF [0,1,7] [] [] ?_
 (conv=>whnf)
 refine LoopC.go ((Nat)) (fun k=>(k≤l.length)∧(findI p (l.drop k) k=findI p l 0)) (fun k=>[(8,.data (i64 k))]) (fun _=>[]) (fun _=>[]) (fun k=>l.length - k) (0) ?_ ?_
 ·exact⟨by omega,rfl⟩
 rintro k ⟨hk,hi⟩
 (repeat' ((conv=>whnf);first | refine gA ?_ | (refine gB ?_ ?_ <;> intro h) | (refine gI ?_;intro x hx) | (refine gJ ?_;intro j x hj hx) | refine gV ?_ | refine gC (hc x) ?_ | intro _)) <;> try (conv=>whnf)
 all_goals first
  | exact trivial
  | (refine⟨?_,rfl,trivial⟩;rw [drop_end' (l:=l) (by assumption)] at hi;first | (simp_all [findI];done) | (simp only [findI, ← hi];clear hi;simp_all [findI];done))
  | (refine⟨?_,rfl,trivial⟩;rw [drop_get (l:=l) (by assumption)] at hi;first | (simp_all [findI];done) | (simp only [findI, ← hi];clear hi;simp_all [findI];done))
  | (refine nx (k+1) ?_
     rw [drop_get (l:=l) (by assumption)] at hi;refine⟨by omega,?_⟩;simp_all [findI];done)
theorem slices_ContainsFunc_ints (l:List (List Int)) (fc:Nat) (caps:List AV) (p:List Int→Bool) (hc:∀x:List Int,Con fc ([.d (ints x)]++caps.map .ref) (.d (.bool (p x)))):
  Con 317 [.d (.sl (l.map ints)),.fn fc caps] (.d (.bool (l.any p))):=by
 refine con Tryz.func317 rfl rfl Tryz.call317 rfl fun hwf=>?_
 (repeat' ((conv=>whnf);first | refine gA ?_ | (refine gB ?_ ?_ <;> intro h) | refine gC (slices_IndexFunc_ints l fc caps p hc) ?_ | intro _)) <;> try (conv=>whnf)
 refine⟨?_,rfl,trivial⟩
 rw [← findI_ge l 0]
theorem anyN_no {n:Nat} {f:Nat→Bool}:(List.range n).any f=false↔∀i,i < n→f i=false:=by simp
theorem anyN_yes {n:Nat} {f:Nat→Bool} (k:Nat) (hk:k < n) (h:f k=true):(List.range n).any f=true:=by simp;exact⟨k,hk,h⟩
theorem noN_step {f:Nat→Bool} {k:Nat} (h:∀i,i < k→f i=false) (hf:f k=false):∀i,i < k+1→f i=false:=by
 intro i hi
 by_cases e:i=k
 ·rw [e];exact hf
 ·exact h i (by omega)
theorem impl_DomainEmpty (b:Dom):Con 240 [.d b.av] (.d (.bool (domEmpty b))):=by
 refine con Tryz.func240 rfl rfl Tryz.call240 rfl fun hwf=>?_
 simp only [ARs.wf,AR.wf,AV.wf,AV.wfs,List.length_map,lim] at hwf
 (repeat' ((conv=>whnf);first | refine gA ?_ | (refine gB ?_ ?_ <;> intro h) | (refine gI ?_;intro x hx) | (refine gJ ?_;intro j x hj hx) | refine gV ?_ | intro _)) <;> try (conv=>whnf)
 refine loopF [1,6,7] [1] [] ?_
 (conv=>whnf)
 refine LoopC.go ((Nat)) (fun k=>(k≤b.lo.length)∧(∀i,i < k→crossAt b i=false)) (fun k=>[(8,.data (i64 k))]) (fun _=>[]) (fun _=>[]) (fun k=>b.lo.length - k) (0) ?_ ?_
 ·exact⟨by omega,by omega⟩
 rintro k ⟨hk,hi⟩
 (repeat' ((conv=>whnf);first | refine gA ?_ | (refine gB ?_ ?_ <;> intro h) | (refine gI ?_;intro x hx) | (refine gJ ?_;intro j x hj hx) | refine gV ?_ | refine gC (slices_ContainsFunc_ints b.modes 318 [] _ fun x=>impl_DomainEmpty1 x) ?_ | intro _)) <;> try (conv=>whnf)
 all_goals first
  | (refine⟨?_,rfl,trivial⟩;rw [domEmpty,anyN_yes k (by omega) (by simp [crossAt, *])];rfl)
  | (refine nx (k+1) ?_
     exact⟨by omega,noN_step hi (by first | (simp [crossAt, *];done) | simp [crossAt,hx,List.getElem?_eq_none (show b.hi.length≤k by omega)])⟩)
  | (refine⟨?_,rfl,trivial⟩;rw [domEmpty,anyN_no.2 fun i hh=>hi i (by omega)];rfl)
theorem spec_DomainEmpty (b:Dom):Con 227 [.d b.av] (.d (.bool (domEmpty b))):=by
 refine con Tryz.func227 rfl rfl Tryz.call227 rfl fun hwf=>?_
 simp only [ARs.wf,AR.wf,AV.wf,AV.wfs,List.length_map,lim] at hwf
 (repeat' ((conv=>whnf);first | refine gA ?_ | (refine gB ?_ ?_ <;> intro h) | (refine gI ?_;intro x hx) | (refine gJ ?_;intro j x hj hx) | refine gV ?_ | intro _)) <;> try (conv=>whnf)
 refine loopF [1,8,9] [1] [] ?_
 (conv=>whnf)
 refine LoopC.go ((Nat)) (fun k=>(k≤b.lo.length)∧(∀i,i < k→crossAt b i=false)) (fun k=>[(10,.data (i64 k))]) (fun _=>[]) (fun _=>[]) (fun k=>b.lo.length - k) (0) ?_ ?_
 ·exact⟨by omega,by omega⟩
 rintro k ⟨hk,hi⟩
 (repeat' ((conv=>whnf);first | refine gA ?_ | (refine gB ?_ ?_ <;> intro h) | (refine gI ?_;intro x hx) | (refine gJ ?_;intro j x hj hx) | refine gV ?_ | intro _)) <;> try (conv=>whnf)
 all_goals first
  | (refine⟨?_,rfl,trivial⟩;rw [domEmpty,anyN_yes k (by omega) (by simp [crossAt, *])];rfl)
  | (refine nx (k+1) ?_
     exact⟨by omega,noN_step hi (by first | (simp [crossAt, *];done) | simp [crossAt,hx,List.getElem?_eq_none (show b.hi.length≤k by omega)])⟩)
  | skip
 have e:(List.range b.lo.length).any (crossAt b)=false:=anyN_no.2 fun i hh=>hi i (by omega)
 clear hi
 refine loopF [31,32] [] [] ?_
 (conv=>whnf)
 refine LoopC.go ((Nat)) (fun m=>(m≤b.modes.length)∧((b.modes.drop m).any (fun m=>decide ((m.length:Int)=0))=b.modes.any (fun m=>decide ((m.length:Int)=0)))) (fun m=>[(33,.data (i64 m))]) (fun _=>[]) (fun _=>[]) (fun m=>b.modes.length - m) (0) ?_ ?_
 ·exact⟨by omega,rfl⟩
 rintro m ⟨hm,hi⟩
 (repeat' ((conv=>whnf);first | refine gA ?_ | (refine gB ?_ ?_ <;> intro h) | (refine gI ?_;intro x hx) | (refine gJ ?_;intro j x hj hx) | refine gV ?_ | intro _)) <;> try (conv=>whnf)
 ·refine⟨?_,rfl,trivial⟩
  rw [drop_get hx,List.any_cons] at hi
  rw [domEmpty,e, ← hi];simp only [decide_eq_true h];simp
 ·refine nx (m+1) ?_
  rw [drop_get hx,List.any_cons,decide_eq_false h,Bool.false_or] at hi
  exact⟨by omega,hi⟩
 ·refine⟨?_,rfl,trivial⟩
  rw [drop_end' (by assumption)] at hi
  rw [domEmpty,e, ← hi];rfl
def DomOk (p:Proj) (b:Dom):Prop:=∀m∈b.modes,setOk m=true
theorem filter_setOk {m:List Int} {f:Int→Bool} (h:setOk m=true):setOk (m.filter f)=true:=by
 have hp:=(setOk_pw h).filter f
 rw [setOk_iff]
 intro i hi
 exact (List.pairwise_iff_getElem.1 hp) i (i+1) (by omega) hi (by omega)
theorem intRange_setOk (n:Int):setOk (intRange n)=true:=by
 unfold intRange
 split
 ·rw [setOk_iff];intro i hi;simp;omega
 ·rfl
theorem initDom'_ok (p:Proj):∀m∈(initDom' p).modes,setOk m=true:=by
 intro m hm
 simp only [initDom',List.mem_map] at hm
 obtain⟨a,_,rfl⟩:=hm
 exact intRange_setOk _
theorem restrict_ok {b:Dom} (h:∀m∈b.modes,setOk m=true) (l:Lit):∀m∈(restrict b l).modes,setOk m=true:=by
 have key:∀(n:Nat) (f:Int→Bool),∀m∈b.modes.set n ((b.modes.getD n []).filter f),setOk m=true:=by
  intro n f m hm
  rcases List.mem_or_eq_of_mem_set hm with hm | rfl
  ·exact h m hm
  ·refine filter_setOk ?_
   rw [List.getD_eq_getElem?_getD]
   cases hg:b.modes[n]? with
   | none=>rfl
   | some x=>exact h x (List.mem_of_getElem? hg)
 unfold restrict
 split
 ·dsimp only;split
  ·exact h
  ·split
   ·exact h
   ·split
    ·exact key _ _
    ·split
     ·exact key _ _
     ·exact h
 ·exact h
theorem impl_NegatedDomain (p:Proj) (l:List Lit) (hp:p.fine):Con 266 [.d p.av,.d (lits l)] (.d (negDom p l).av):=by
 refine con Tryz.func266 rfl rfl Tryz.call266 rfl fun hwf=>?_
 simp only [ARs.wf,AR.wf,AV.wf,AV.wfs,List.length_map,lim] at hwf
 (repeat' ((conv=>whnf);first | refine gA ?_ | (refine gB ?_ ?_ <;> intro h) | (refine gI ?_;intro x hx) | (refine gJ ?_;intro j x hj hx) | refine gV ?_ | refine gC (impl_InitialDomain p hp) ?_ | intro _)) <;> try (conv=>whnf)
 refine loopF [4,5,10,11] [4] [] ?_
 (conv=>whnf)
 refine LoopC.go ((Nat)×(Dom)) (fun⟨k,d⟩=>(k≤l.length)∧(against d (l.drop k)=negDom p l)) (fun⟨k,d⟩=>[(12,.data (i64 k))]) (fun⟨k,d⟩=>[(5,(AV.cells d.av).map SV.data)]) (fun _=>[]) (fun⟨k,d⟩=>l.length - k) ⟨0,initDom p⟩ ?_ ?_
 ·exact⟨by omega,rfl⟩
 rintro⟨k,d⟩ ⟨hk,hi⟩
 (repeat' ((conv=>whnf);first | refine gA ?_ | (refine gB ?_ ?_ <;> intro h) | (refine gI ?_;intro x hx) | (refine gJ ?_;intro j x hj hx) | refine gV ?_ | refine gC (impl_Negate _) ?_ | refine gC (impl_Restrict d (negate x)) ?_ | intro _)) <;> try (conv=>whnf)
 ·refine nx ⟨k+1,restrict d (negate x)⟩ ?_
  rw [drop_get hx] at hi
  exact⟨by omega,hi⟩
 ·refine⟨?_,rfl,trivial⟩
  rw [drop_end' (by assumption)] at hi
  rw [← hi];rfl
theorem spec_l13Against (b:Dom) (l:List Lit) (hb:∀m∈b.modes,setOk m=true):Con 326 [.d b.av,.d (lits l)] (.d (against b l).av):=by
 refine con Tryz.func326 rfl rfl Tryz.call326 rfl fun hwf=>?_
 simp only [ARs.wf,AR.wf,AV.wf,AV.wfs,List.length_map,lim] at hwf
 (repeat' ((conv=>whnf);first | refine gA ?_ | (refine gB ?_ ?_ <;> intro h) | (refine gI ?_;intro x hx) | (refine gJ ?_;intro j x hj hx) | refine gV ?_ | refine gC (spec_l12Copy b) ?_ | intro _)) <;> try (conv=>whnf)
 refine loopF [4,5,10,11] [4] [] ?_
 (conv=>whnf)
 refine LoopC.go ((Nat)×(Dom)) (fun⟨k,d⟩=>(k≤l.length)∧(∀m∈d.modes,setOk m=true)∧(against d (l.drop k)=against b l)) (fun⟨k,d⟩=>[(12,.data (i64 k))]) (fun⟨k,d⟩=>[(5,(AV.cells d.av).map SV.data)]) (fun _=>[]) (fun⟨k,d⟩=>l.length - k) ⟨0,b⟩ ?_ ?_
 ·exact⟨by omega,hb,rfl⟩
 rintro⟨k,d⟩ ⟨hk,hd,hi⟩
 (repeat' ((conv=>whnf);first | refine gA ?_ | (refine gB ?_ ?_ <;> intro h) | (refine gI ?_;intro x hx) | (refine gJ ?_;intro j x hj hx) | refine gV ?_ | refine gC (spec_Negate _) ?_ | refine gC (spec_Restrict d (negate x) (fun m hm=>hd m (List.mem_of_getElem? hm))) ?_ | intro _)) <;> try (conv=>whnf)
 ·refine nx ⟨k+1,restrict d (negate x)⟩ ?_
  rw [drop_get hx] at hi
  exact⟨by omega,restrict_ok hd _,hi⟩
 ·refine⟨?_,rfl,trivial⟩
  rw [drop_end' (by assumption)] at hi
  rw [← hi];rfl
theorem projOk_dead {p:Proj} (h:projOk p=true):1≤p.dead∧p.dead≤60:=by
 have:within p.dead 1 60=true:=by simp [projOk,headOk] at h;simp [h]
 exact within_iff.1 this
end Go.Proofs.YtfhojdalheinaaaGreat.Abs
