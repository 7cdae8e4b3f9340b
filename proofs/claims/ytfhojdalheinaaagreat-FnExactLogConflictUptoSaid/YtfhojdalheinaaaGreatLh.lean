/- Contracts of the laws' own helpers. No statement of a claim. -/
import Derived.Test.YtfhojdalheinaaaGreatC1
import Derived.Test.YtfhojdalheinaaaGreatPlain
set_option linter.all false
set_option linter.unusedVariables false
set_option linter.unusedSimpArgs false
set_option maxRecDepth 20000
set_option maxHeartbeats 4000000
namespace Go.Proofs.YtfhojdalheinaaaGreat.Abs
open Go.Proofs
theorem laws_toIntS (l:List Int):Con 47 [.d (.sl (l.map i64))] (.d (.sl (l.map i64))):=by
 refine con Tryz.func47 rfl rfl Tryz.call47 rfl fun hwf=>?_
 simp only [ARs.wf,AR.wf,AV.wf,AV.wfs,List.length_map,lim] at hwf
 (repeat' ((conv=>whnf);first | refine gA ?_ | (refine gB ?_ ?_ <;> intro h) | (refine gI ?_;intro x hx) | (refine gJ ?_;intro j x hj hx) | refine gV ?_ | refine gM ?_ | intro _)) <;> try (conv=>whnf)
 refine loopF [0,3] [] [7] ?_
 (conv=>whnf)
 refine LoopC.go ((Nat)) (fun k=>(k≤l.length)) (fun k=>[(4,.data (i64 k))]) (fun _=>[]) (fun k=>[(7,3,filled i64 (i64 0) l k,0)]) (fun k=>l.length - k) (0) ?_ ?_
 ·exact Nat.zero_le _
 rintro k hk
 (repeat' ((conv=>whnf);first | with_reducible refine Idx.mk k (i64 0) rfl (filled_get (by omega)) ?_ | refine gA ?_ | (refine gB ?_ ?_ <;> intro h) | (refine gI ?_;intro x hx) | (refine gJ ?_;intro j x hj hx) | refine gV ?_ | refine gM ?_ | intro _)) <;> try (conv=>whnf)
 ·refine nw (k+1) ?_ ?_
  ·(repeat' ((conv=>whnf) <;> (first | exact trivial | exact rfl | with_reducible refine And.intro ?_ ?_))) <;> ((conv=>whnf) <;> (exact filled_set hx rfl))
  exact (by omega:k+1≤l.length)
 ·refine⟨?_,rfl,trivial⟩
  dsimp only
  rw [filled_end (by omega)]
theorem laws_toIntSS (l:List (List Int)):Con 143 [.d (.sl (l.map ints))] (.d (.sl (l.map ints))):=by
 refine con Tryz.func143 rfl rfl Tryz.call143 rfl fun hwf=>?_
 simp only [ARs.wf,AR.wf,AV.wf,AV.wfs,List.length_map,lim] at hwf
 (repeat' ((conv=>whnf);first | refine gA ?_ | (refine gB ?_ ?_ <;> intro h) | (refine gI ?_;intro x hx) | (refine gJ ?_;intro j x hj hx) | refine gV ?_ | refine gM ?_ | intro _)) <;> try (conv=>whnf)
 refine loopF [0,3] [] [7] ?_
 (conv=>whnf)
 refine LoopC.go ((Nat)) (fun k=>(k≤l.length)) (fun k=>[(4,.data (i64 k))]) (fun _=>[]) (fun k=>[(7,25,filled ints (.sl []) l k,0)]) (fun k=>l.length - k) (0) ?_ ?_
 ·exact Nat.zero_le _
 rintro k hk
 (repeat' ((conv=>whnf);first | with_reducible refine Idx.mk k (.sl []) rfl (filled_get (by omega)) ?_ | refine gA ?_ | (refine gB ?_ ?_ <;> intro h) | (refine gI ?_;intro x hx) | (refine gJ ?_;intro j x hj hx) | refine gV ?_ | refine gM ?_ | refine gC (laws_toIntS x) ?_ | intro _)) <;> try (conv=>whnf)
 ·refine nw (k+1) ?_ ?_
  ·(repeat' ((conv=>whnf) <;> (first | exact trivial | exact rfl | with_reducible refine And.intro ?_ ?_))) <;> ((conv=>whnf) <;> (exact filled_set hx rfl))
  exact (by omega:k+1≤l.length)
 ·refine⟨?_,rfl,trivial⟩
  dsimp only
  rw [filled_end (by omega)]
theorem laws_toStep (x:Step):Con 290 [.d x.av] (.d x.av):=by
 refine con Tryz.func290 rfl rfl Tryz.call290 rfl fun hwf=>?_
 (repeat' ((conv=>whnf);first | refine gA ?_ | (refine gB ?_ ?_ <;> intro h) | intro _)) <;> try (conv=>whnf)
 exact⟨rfl,rfl,trivial⟩
theorem laws_toStepS (l:List Step):Con 201 [.d (.sl (l.map Step.av))] (.d (.sl (l.map Step.av))):=by
 refine con Tryz.func201 rfl rfl Tryz.call201 rfl fun hwf=>?_
 simp only [ARs.wf,AR.wf,AV.wf,AV.wfs,List.length_map,lim] at hwf
 (repeat' ((conv=>whnf);first | refine gA ?_ | (refine gB ?_ ?_ <;> intro h) | (refine gI ?_;intro x hx) | (refine gJ ?_;intro j x hj hx) | refine gV ?_ | refine gM ?_ | intro _)) <;> try (conv=>whnf)
 refine loopF [0,3] [] [7] ?_
 (conv=>whnf)
 refine LoopC.go ((Nat)) (fun k=>(k≤l.length)) (fun k=>[(4,.data (i64 k))]) (fun _=>[]) (fun k=>[(7,222,filled Step.av (.agg [i64 0,i64 0]) l k,0)]) (fun k=>l.length - k) (0) ?_ ?_
 ·exact Nat.zero_le _
 rintro k hk
 (repeat' ((conv=>whnf);first | with_reducible refine Idx.mk k (.agg [i64 0,i64 0]) rfl (filled_get (by omega)) ?_ | refine gA ?_ | (refine gB ?_ ?_ <;> intro h) | (refine gI ?_;intro x hx) | (refine gJ ?_;intro j x hj hx) | refine gV ?_ | refine gM ?_ | refine gC (laws_toStep x) ?_ | intro _)) <;> try (conv=>whnf)
 ·refine nw (k+1) ?_ ?_
  ·(repeat' ((conv=>whnf) <;> (first | exact trivial | exact rfl | with_reducible refine And.intro ?_ ?_))) <;> ((conv=>whnf) <;> (exact filled_set hx rfl))
  exact (by omega:k+1≤l.length)
 ·refine⟨?_,rfl,trivial⟩
  dsimp only
  rw [filled_end (by omega)]
theorem laws_toMode (x:Mode):Con 289 [.d x.av] (.d x.av):=by
 refine con Tryz.func289 rfl rfl Tryz.call289 rfl fun hwf=>?_
 (repeat' ((conv=>whnf);first | refine gA ?_ | (refine gB ?_ ?_ <;> intro h) | refine gC (laws_toIntS x.use) ?_ | refine gC (laws_toIntS x.con) ?_ | intro _)) <;> try (conv=>whnf)
 exact⟨rfl,rfl,trivial⟩
theorem laws_toModeS (l:List Mode):Con 200 [.d (.sl (l.map Mode.av))] (.d (.sl (l.map Mode.av))):=by
 refine con Tryz.func200 rfl rfl Tryz.call200 rfl fun hwf=>?_
 simp only [ARs.wf,AR.wf,AV.wf,AV.wfs,List.length_map,lim] at hwf
 (repeat' ((conv=>whnf);first | refine gA ?_ | (refine gB ?_ ?_ <;> intro h) | (refine gI ?_;intro x hx) | (refine gJ ?_;intro j x hj hx) | refine gV ?_ | refine gM ?_ | intro _)) <;> try (conv=>whnf)
 refine loopF [0,3] [] [7] ?_
 (conv=>whnf)
 refine LoopC.go ((Nat)) (fun k=>(k≤l.length)) (fun k=>[(4,.data (i64 k))]) (fun _=>[]) (fun k=>[(7,145,filled Mode.av (.agg [i64 0,.sl [],.sl []]) l k,0)]) (fun k=>l.length - k) (0) ?_ ?_
 ·exact Nat.zero_le _
 rintro k hk
 (repeat' ((conv=>whnf);first | with_reducible refine Idx.mk k (.agg [i64 0,.sl [],.sl []]) rfl (filled_get (by omega)) ?_ | refine gA ?_ | (refine gB ?_ ?_ <;> intro h) | (refine gI ?_;intro x hx) | (refine gJ ?_;intro j x hj hx) | refine gV ?_ | refine gM ?_ | refine gC (laws_toMode x) ?_ | intro _)) <;> try (conv=>whnf)
 ·refine nw (k+1) ?_ ?_
  ·(repeat' ((conv=>whnf) <;> (first | exact trivial | exact rfl | with_reducible refine And.intro ?_ ?_))) <;> ((conv=>whnf) <;> (exact filled_set hx rfl))
  exact (by omega:k+1≤l.length)
 ·refine⟨?_,rfl,trivial⟩
  dsimp only
  rw [filled_end (by omega)]
theorem laws_toActivity (x:Activ):Con 109 [.d x.av] (.d x.av):=by
 refine con Tryz.func109 rfl rfl Tryz.call109 rfl fun hwf=>?_
 (repeat' ((conv=>whnf);first | refine gA ?_ | (refine gB ?_ ?_ <;> intro h) | refine gC (laws_toModeS x.modes) ?_ | intro _)) <;> try (conv=>whnf)
 exact⟨rfl,rfl,trivial⟩
theorem laws_toActivityS (l:List Activ):Con 44 [.d (.sl (l.map Activ.av))] (.d (.sl (l.map Activ.av))):=by
 refine con Tryz.func44 rfl rfl Tryz.call44 rfl fun hwf=>?_
 simp only [ARs.wf,AR.wf,AV.wf,AV.wfs,List.length_map,lim] at hwf
 (repeat' ((conv=>whnf);first | refine gA ?_ | (refine gB ?_ ?_ <;> intro h) | (refine gI ?_;intro x hx) | (refine gJ ?_;intro j x hj hx) | refine gV ?_ | refine gM ?_ | intro _)) <;> try (conv=>whnf)
 refine loopF [0,3] [] [7] ?_
 (conv=>whnf)
 refine LoopC.go ((Nat)) (fun k=>(k≤l.length)) (fun k=>[(4,.data (i64 k))]) (fun _=>[]) (fun k=>[(7,143,filled Activ.av (.agg [.str ⟨#[]⟩,i64 0,.sl []]) l k,0)]) (fun k=>l.length - k) (0) ?_ ?_
 ·exact Nat.zero_le _
 rintro k hk
 (repeat' ((conv=>whnf);first | with_reducible refine Idx.mk k (.agg [.str ⟨#[]⟩,i64 0,.sl []]) rfl (filled_get (by omega)) ?_ | refine gA ?_ | (refine gB ?_ ?_ <;> intro h) | (refine gI ?_;intro x hx) | (refine gJ ?_;intro j x hj hx) | refine gV ?_ | refine gM ?_ | refine gC (laws_toActivity x) ?_ | intro _)) <;> try (conv=>whnf)
 ·refine nw (k+1) ?_ ?_
  ·(repeat' ((conv=>whnf) <;> (first | exact trivial | exact rfl | with_reducible refine And.intro ?_ ?_))) <;> ((conv=>whnf) <;> (exact filled_set hx rfl))
  exact (by omega:k+1≤l.length)
 ·refine⟨?_,rfl,trivial⟩
  dsimp only
  rw [filled_end (by omega)]
theorem laws_toLink (x:Link):Con 110 [.d x.av] (.d x.av):=by
 refine con Tryz.func110 rfl rfl Tryz.call110 rfl fun hwf=>?_
 (repeat' ((conv=>whnf);first | refine gA ?_ | (refine gB ?_ ?_ <;> intro h) | intro _)) <;> try (conv=>whnf)
 exact⟨rfl,rfl,trivial⟩
theorem laws_toLinkS (l:List Link):Con 45 [.d (.sl (l.map Link.av))] (.d (.sl (l.map Link.av))):=by
 refine con Tryz.func45 rfl rfl Tryz.call45 rfl fun hwf=>?_
 simp only [ARs.wf,AR.wf,AV.wf,AV.wfs,List.length_map,lim] at hwf
 (repeat' ((conv=>whnf);first | refine gA ?_ | (refine gB ?_ ?_ <;> intro h) | (refine gI ?_;intro x hx) | (refine gJ ?_;intro j x hj hx) | refine gV ?_ | refine gM ?_ | intro _)) <;> try (conv=>whnf)
 refine loopF [0,3] [] [7] ?_
 (conv=>whnf)
 refine LoopC.go ((Nat)) (fun k=>(k≤l.length)) (fun k=>[(4,.data (i64 k))]) (fun _=>[]) (fun k=>[(7,159,filled Link.av (.agg [i64 0,i64 0,.bool false,i64 0]) l k,0)]) (fun k=>l.length - k) (0) ?_ ?_
 ·exact Nat.zero_le _
 rintro k hk
 (repeat' ((conv=>whnf);first | with_reducible refine Idx.mk k (.agg [i64 0,i64 0,.bool false,i64 0]) rfl (filled_get (by omega)) ?_ | refine gA ?_ | (refine gB ?_ ?_ <;> intro h) | (refine gI ?_;intro x hx) | (refine gJ ?_;intro j x hj hx) | refine gV ?_ | refine gM ?_ | refine gC (laws_toLink x) ?_ | intro _)) <;> try (conv=>whnf)
 ·refine nw (k+1) ?_ ?_
  ·(repeat' ((conv=>whnf) <;> (first | exact trivial | exact rfl | with_reducible refine And.intro ?_ ?_))) <;> ((conv=>whnf) <;> (exact filled_set hx rfl))
  exact (by omega:k+1≤l.length)
 ·refine⟨?_,rfl,trivial⟩
  dsimp only
  rw [filled_end (by omega)]
theorem laws_toResource (x:Resrc):Con 111 [.d x.av] (.d x.av):=by
 refine con Tryz.func111 rfl rfl Tryz.call111 rfl fun hwf=>?_
 (repeat' ((conv=>whnf);first | refine gA ?_ | (refine gB ?_ ?_ <;> intro h) | refine gC (laws_toStepS x.steps) ?_ | refine gC (laws_toIntSS x.setup) ?_ | intro _)) <;> try (conv=>whnf)
 exact⟨rfl,rfl,trivial⟩
theorem laws_toResourceS (l:List Resrc):Con 46 [.d (.sl (l.map Resrc.av))] (.d (.sl (l.map Resrc.av))):=by
 refine con Tryz.func46 rfl rfl Tryz.call46 rfl fun hwf=>?_
 simp only [ARs.wf,AR.wf,AV.wf,AV.wfs,List.length_map,lim] at hwf
 (repeat' ((conv=>whnf);first | refine gA ?_ | (refine gB ?_ ?_ <;> intro h) | (refine gI ?_;intro x hx) | (refine gJ ?_;intro j x hj hx) | refine gV ?_ | refine gM ?_ | intro _)) <;> try (conv=>whnf)
 refine loopF [0,3] [] [7] ?_
 (conv=>whnf)
 refine LoopC.go ((Nat)) (fun k=>(k≤l.length)) (fun k=>[(4,.data (i64 k))]) (fun _=>[]) (fun k=>[(7,149,filled Resrc.av (.agg [.sl [],.sl []]) l k,0)]) (fun k=>l.length - k) (0) ?_ ?_
 ·exact Nat.zero_le _
 rintro k hk
 (repeat' ((conv=>whnf);first | with_reducible refine Idx.mk k (.agg [.sl [],.sl []]) rfl (filled_get (by omega)) ?_ | refine gA ?_ | (refine gB ?_ ?_ <;> intro h) | (refine gI ?_;intro x hx) | (refine gJ ?_;intro j x hj hx) | refine gV ?_ | refine gM ?_ | refine gC (laws_toResource x) ?_ | intro _)) <;> try (conv=>whnf)
 ·refine nw (k+1) ?_ ?_
  ·(repeat' ((conv=>whnf) <;> (first | exact trivial | exact rfl | with_reducible refine And.intro ?_ ?_))) <;> ((conv=>whnf) <;> (exact filled_set hx rfl))
  exact (by omega:k+1≤l.length)
 ·refine⟨?_,rfl,trivial⟩
  dsimp only
  rw [filled_end (by omega)]
theorem laws_toProject (x:Proj):Con 10 [.d x.av] (.d x.av):=by
 refine con Tryz.func10 rfl rfl Tryz.call10 rfl fun hwf=>?_
 (repeat' ((conv=>whnf);first | refine gA ?_ | (refine gB ?_ ?_ <;> intro h) | refine gC (laws_toActivityS x.acts) ?_ | refine gC (laws_toLinkS x.links) ?_ | refine gC (laws_toResourceS x.ress) ?_ | refine gC (laws_toIntS x.stocks) ?_ | intro _)) <;> try (conv=>whnf)
 exact⟨rfl,rfl,trivial⟩
theorem laws_toRule (x:Rul):Con 234 [.d x.av] (.d x.av):=by
 refine con Tryz.func234 rfl rfl Tryz.call234 rfl fun hwf=>?_
 (repeat' ((conv=>whnf);first | refine gA ?_ | (refine gB ?_ ?_ <;> intro h) | intro _)) <;> try (conv=>whnf)
 exact⟨rfl,rfl,trivial⟩
theorem laws_toLiteral (x:Lit):Con 22 [.d x.av] (.d x.av):=by
 refine con Tryz.func22 rfl rfl Tryz.call22 rfl fun hwf=>?_
 (repeat' ((conv=>whnf);first | refine gA ?_ | (refine gB ?_ ?_ <;> intro h) | intro _)) <;> try (conv=>whnf)
 exact⟨rfl,rfl,trivial⟩
theorem laws_toLiteralS (l:List Lit):Con 72 [.d (.sl (l.map Lit.av))] (.d (.sl (l.map Lit.av))):=by
 refine con Tryz.func72 rfl rfl Tryz.call72 rfl fun hwf=>?_
 simp only [ARs.wf,AR.wf,AV.wf,AV.wfs,List.length_map,lim] at hwf
 (repeat' ((conv=>whnf);first | refine gA ?_ | (refine gB ?_ ?_ <;> intro h) | (refine gI ?_;intro x hx) | (refine gJ ?_;intro j x hj hx) | refine gV ?_ | refine gM ?_ | intro _)) <;> try (conv=>whnf)
 refine loopF [0,3] [] [7] ?_
 (conv=>whnf)
 refine LoopC.go ((Nat)) (fun k=>(k≤l.length)) (fun k=>[(4,.data (i64 k))]) (fun _=>[]) (fun k=>[(7,69,filled Lit.av (.agg [i64 0,i64 0,i64 0]) l k,0)]) (fun k=>l.length - k) (0) ?_ ?_
 ·exact Nat.zero_le _
 rintro k hk
 (repeat' ((conv=>whnf);first | with_reducible refine Idx.mk k (.agg [i64 0,i64 0,i64 0]) rfl (filled_get (by omega)) ?_ | refine gA ?_ | (refine gB ?_ ?_ <;> intro h) | (refine gI ?_;intro x hx) | (refine gJ ?_;intro j x hj hx) | refine gV ?_ | refine gM ?_ | refine gC (laws_toLiteral x) ?_ | intro _)) <;> try (conv=>whnf)
 ·refine nw (k+1) ?_ ?_
  ·(repeat' ((conv=>whnf) <;> (first | exact trivial | exact rfl | with_reducible refine And.intro ?_ ?_))) <;> ((conv=>whnf) <;> (exact filled_set hx rfl))
  exact (by omega:k+1≤l.length)
 ·refine⟨?_,rfl,trivial⟩
  dsimp only
  rw [filled_end (by omega)]
theorem laws_toDomain (x:Dom):Con 71 [.d x.av] (.d x.av):=by
 refine con Tryz.func71 rfl rfl Tryz.call71 rfl fun hwf=>?_
 (repeat' ((conv=>whnf);first | refine gA ?_ | (refine gB ?_ ?_ <;> intro h) | refine gC (laws_toIntS x.lo) ?_ | refine gC (laws_toIntS x.hi) ?_ | refine gC (laws_toIntSS x.modes) ?_ | intro _)) <;> try (conv=>whnf)
 exact⟨rfl,rfl,trivial⟩
theorem laws_toLine (x:Lin):Con 144 [.d x.av] (.d x.av):=by
 refine con Tryz.func144 rfl rfl Tryz.call144 rfl fun hwf=>?_
 (repeat' ((conv=>whnf);first | refine gA ?_ | (refine gB ?_ ?_ <;> intro h) | refine gC (laws_toRule x.rule) ?_ | refine gC (laws_toLiteralS x.clause) ?_ | intro _)) <;> try (conv=>whnf)
 exact⟨rfl,rfl,trivial⟩
theorem laws_toLineS (l:List Lin):Con 73 [.d (.sl (l.map Lin.av))] (.d (.sl (l.map Lin.av))):=by
 refine con Tryz.func73 rfl rfl Tryz.call73 rfl fun hwf=>?_
 simp only [ARs.wf,AR.wf,AV.wf,AV.wfs,List.length_map,lim] at hwf
 (repeat' ((conv=>whnf);first | refine gA ?_ | (refine gB ?_ ?_ <;> intro h) | (refine gI ?_;intro x hx) | (refine gJ ?_;intro j x hj hx) | refine gV ?_ | refine gM ?_ | intro _)) <;> try (conv=>whnf)
 refine loopF [0,3] [] [7] ?_
 (conv=>whnf)
 refine LoopC.go ((Nat)) (fun k=>(k≤l.length)) (fun k=>[(4,.data (i64 k))]) (fun _=>[]) (fun k=>[(7,189,filled Lin.av (.agg [i64 0,i64 0,i64 0,i64 0,i64 0,.sl []]) l k,0)]) (fun k=>l.length - k) (0) ?_ ?_
 ·exact Nat.zero_le _
 rintro k hk
 (repeat' ((conv=>whnf);first | with_reducible refine Idx.mk k (.agg [i64 0,i64 0,i64 0,i64 0,i64 0,.sl []]) rfl (filled_get (by omega)) ?_ | refine gA ?_ | (refine gB ?_ ?_ <;> intro h) | (refine gI ?_;intro x hx) | (refine gJ ?_;intro j x hj hx) | refine gV ?_ | refine gM ?_ | refine gC (laws_toLine x) ?_ | intro _)) <;> try (conv=>whnf)
 ·refine nw (k+1) ?_ ?_
  ·(repeat' ((conv=>whnf) <;> (first | exact trivial | exact rfl | with_reducible refine And.intro ?_ ?_))) <;> ((conv=>whnf) <;> (exact filled_set hx rfl))
  exact (by omega:k+1≤l.length)
 ·refine⟨?_,rfl,trivial⟩
  dsimp only
  rw [filled_end (by omega)]
end Go.Proofs.YtfhojdalheinaaaGreat.Abs
set_option linter.unusedVariables false
set_option linter.unusedSimpArgs false
set_option maxRecDepth 20000
set_option maxHeartbeats 4000000
namespace Go.Proofs.YtfhojdalheinaaaGreat.Abs
open Go.Proofs
theorem laws_eqIntS (l:List Int):Con 57 [.d (.sl (l.map i64)),.d (.sl (l.map i64))] (.d (.bool true)):=by
 refine con Tryz.func57 rfl rfl Tryz.call57 rfl fun hwf=>?_
 simp only [ARs.wf,AR.wf,AV.wf,AV.wfs,List.length_map,lim] at hwf
 (repeat' ((conv=>whnf);first | (with_reducible refine Br.yes (decide_eq_true rfl) ?_) | (with_reducible refine Br.yes (beq_self_eq_true _) ?_) | refine gA ?_ | (refine gB ?_ ?_ <;> intro h) | (refine gI ?_;intro x hx) | (refine gJ ?_;intro j x hj hx) | refine gV ?_ | intro _)) <;> try (conv=>whnf)
 refine loopF [0,1] [] [] ?_
 (conv=>whnf)
 refine LoopC.go ((Nat)) (fun k=>(k≤l.length)) (fun k=>[(5,.data (i64 k))]) (fun _=>[]) (fun _=>[]) (fun k=>l.length - k) (0) ?_ ?_
 ·exact Nat.zero_le _
 rintro k hk
 by_cases hlt:k < l.length
 ·obtain⟨x,hx⟩:∃x,l[k]? =some x:=⟨l[k]'hlt,by simp⟩
  (repeat' ((conv=>whnf);first | with_reducible refine Idx.got hx rfl ?_ | (with_reducible refine Br.yes (decide_eq_true rfl) ?_) | (with_reducible refine Br.yes (beq_self_eq_true _) ?_) | refine gA ?_ | (refine gB ?_ ?_ <;> intro h) | (refine gI ?_;intro x hx) | (refine gJ ?_;intro j x hj hx) | refine gV ?_ | intro _)) <;> try (conv=>whnf)
  all_goals first
   | (exfalso;omega)
   | (refine nx (k+1) ?_
      exact (by omega:k+1≤l.length))
 ·(repeat' ((conv=>whnf);first | (exfalso;omega) | refine gA ?_ | (refine gB ?_ ?_ <;> intro h) | (refine gI ?_;intro x hx) | (refine gJ ?_;intro j x hj hx) | refine gV ?_ | intro _)) <;> try (conv=>whnf)
  exact⟨rfl,rfl,trivial⟩
theorem laws_eqIntSS (l:List (List Int)):Con 161 [.d (.sl (l.map ints)),.d (.sl (l.map ints))] (.d (.bool true)):=by
 refine con Tryz.func161 rfl rfl Tryz.call161 rfl fun hwf=>?_
 simp only [ARs.wf,AR.wf,AV.wf,AV.wfs,List.length_map,lim] at hwf
 (repeat' ((conv=>whnf);first | (with_reducible refine Br.yes (decide_eq_true rfl) ?_) | (with_reducible refine Br.yes (beq_self_eq_true _) ?_) | refine gA ?_ | (refine gB ?_ ?_ <;> intro h) | (refine gI ?_;intro x hx) | (refine gJ ?_;intro j x hj hx) | refine gV ?_ | intro _)) <;> try (conv=>whnf)
 refine loopF [0,1] [] [] ?_
 (conv=>whnf)
 refine LoopC.go ((Nat)) (fun k=>(k≤l.length)) (fun k=>[(5,.data (i64 k))]) (fun _=>[]) (fun _=>[]) (fun k=>l.length - k) (0) ?_ ?_
 ·exact Nat.zero_le _
 rintro k hk
 by_cases hlt:k < l.length
 ·obtain⟨x,hx⟩:∃x,l[k]? =some x:=⟨l[k]'hlt,by simp⟩
  (repeat' ((conv=>whnf);first | with_reducible refine Idx.got hx rfl ?_ | (with_reducible refine Br.yes (decide_eq_true rfl) ?_) | (with_reducible refine Br.yes (beq_self_eq_true _) ?_) | refine gA ?_ | (refine gB ?_ ?_ <;> intro h) | (refine gI ?_;intro x hx) | (refine gJ ?_;intro j x hj hx) | refine gV ?_ | refine gC (laws_eqIntS x) ?_ | intro _)) <;> try (conv=>whnf)
  all_goals first
   | (exfalso;omega)
   | (refine nx (k+1) ?_
      exact (by omega:k+1≤l.length))
 ·(repeat' ((conv=>whnf);first | (exfalso;omega) | refine gA ?_ | (refine gB ?_ ?_ <;> intro h) | (refine gI ?_;intro x hx) | (refine gJ ?_;intro j x hj hx) | refine gV ?_ | intro _)) <;> try (conv=>whnf)
  exact⟨rfl,rfl,trivial⟩
theorem laws_eqStep (x:Step):Con 313 [.d x.av,.d x.av] (.d (.bool true)):=by
 refine con Tryz.func313 rfl rfl Tryz.call313 rfl fun hwf=>?_
 (repeat' ((conv=>whnf);first | (with_reducible refine Br.yes (decide_eq_true rfl) ?_) | (with_reducible refine Br.yes (beq_self_eq_true _) ?_) | refine gA ?_ | (refine gB ?_ ?_ <;> intro h) | intro _)) <;> try (conv=>whnf)
 all_goals exact⟨rfl,rfl,trivial⟩
theorem laws_eqStepS (l:List Step):Con 222 [.d (.sl (l.map Step.av)),.d (.sl (l.map Step.av))] (.d (.bool true)):=by
 refine con Tryz.func222 rfl rfl Tryz.call222 rfl fun hwf=>?_
 simp only [ARs.wf,AR.wf,AV.wf,AV.wfs,List.length_map,lim] at hwf
 (repeat' ((conv=>whnf);first | (with_reducible refine Br.yes (decide_eq_true rfl) ?_) | (with_reducible refine Br.yes (beq_self_eq_true _) ?_) | refine gA ?_ | (refine gB ?_ ?_ <;> intro h) | (refine gI ?_;intro x hx) | (refine gJ ?_;intro j x hj hx) | refine gV ?_ | intro _)) <;> try (conv=>whnf)
 refine loopF [0,1] [] [] ?_
 (conv=>whnf)
 refine LoopC.go ((Nat)) (fun k=>(k≤l.length)) (fun k=>[(5,.data (i64 k))]) (fun _=>[]) (fun _=>[]) (fun k=>l.length - k) (0) ?_ ?_
 ·exact Nat.zero_le _
 rintro k hk
 by_cases hlt:k < l.length
 ·obtain⟨x,hx⟩:∃x,l[k]? =some x:=⟨l[k]'hlt,by simp⟩
  (repeat' ((conv=>whnf);first | with_reducible refine Idx.got hx rfl ?_ | (with_reducible refine Br.yes (decide_eq_true rfl) ?_) | (with_reducible refine Br.yes (beq_self_eq_true _) ?_) | refine gA ?_ | (refine gB ?_ ?_ <;> intro h) | (refine gI ?_;intro x hx) | (refine gJ ?_;intro j x hj hx) | refine gV ?_ | refine gC (laws_eqStep x) ?_ | intro _)) <;> try (conv=>whnf)
  all_goals first
   | (exfalso;omega)
   | (refine nx (k+1) ?_
      exact (by omega:k+1≤l.length))
 ·(repeat' ((conv=>whnf);first | (exfalso;omega) | refine gA ?_ | (refine gB ?_ ?_ <;> intro h) | (refine gI ?_;intro x hx) | (refine gJ ?_;intro j x hj hx) | refine gV ?_ | intro _)) <;> try (conv=>whnf)
  exact⟨rfl,rfl,trivial⟩
theorem laws_eqMode (x:Mode):Con 312 [.d x.av,.d x.av] (.d (.bool true)):=by
 refine con Tryz.func312 rfl rfl Tryz.call312 rfl fun hwf=>?_
 (repeat' ((conv=>whnf);first | (with_reducible refine Br.yes (decide_eq_true rfl) ?_) | (with_reducible refine Br.yes (beq_self_eq_true _) ?_) | refine gA ?_ | (refine gB ?_ ?_ <;> intro h) | refine gC (laws_eqIntS x.use) ?_ | refine gC (laws_eqIntS x.con) ?_ | intro _)) <;> try (conv=>whnf)
 all_goals exact⟨rfl,rfl,trivial⟩
theorem laws_eqModeS (l:List Mode):Con 221 [.d (.sl (l.map Mode.av)),.d (.sl (l.map Mode.av))] (.d (.bool true)):=by
 refine con Tryz.func221 rfl rfl Tryz.call221 rfl fun hwf=>?_
 simp only [ARs.wf,AR.wf,AV.wf,AV.wfs,List.length_map,lim] at hwf
 (repeat' ((conv=>whnf);first | (with_reducible refine Br.yes (decide_eq_true rfl) ?_) | (with_reducible refine Br.yes (beq_self_eq_true _) ?_) | refine gA ?_ | (refine gB ?_ ?_ <;> intro h) | (refine gI ?_;intro x hx) | (refine gJ ?_;intro j x hj hx) | refine gV ?_ | intro _)) <;> try (conv=>whnf)
 refine loopF [0,1] [] [] ?_
 (conv=>whnf)
 refine LoopC.go ((Nat)) (fun k=>(k≤l.length)) (fun k=>[(5,.data (i64 k))]) (fun _=>[]) (fun _=>[]) (fun k=>l.length - k) (0) ?_ ?_
 ·exact Nat.zero_le _
 rintro k hk
 by_cases hlt:k < l.length
 ·obtain⟨x,hx⟩:∃x,l[k]? =some x:=⟨l[k]'hlt,by simp⟩
  (repeat' ((conv=>whnf);first | with_reducible refine Idx.got hx rfl ?_ | (with_reducible refine Br.yes (decide_eq_true rfl) ?_) | (with_reducible refine Br.yes (beq_self_eq_true _) ?_) | refine gA ?_ | (refine gB ?_ ?_ <;> intro h) | (refine gI ?_;intro x hx) | (refine gJ ?_;intro j x hj hx) | refine gV ?_ | refine gC (laws_eqMode x) ?_ | intro _)) <;> try (conv=>whnf)
  all_goals first
   | (exfalso;omega)
   | (refine nx (k+1) ?_
      exact (by omega:k+1≤l.length))
 ·(repeat' ((conv=>whnf);first | (exfalso;omega) | refine gA ?_ | (refine gB ?_ ?_ <;> intro h) | (refine gI ?_;intro x hx) | (refine gJ ?_;intro j x hj hx) | refine gV ?_ | intro _)) <;> try (conv=>whnf)
  exact⟨rfl,rfl,trivial⟩
theorem laws_eqActivity (x:Activ):Con 126 [.d x.av,.d x.av] (.d (.bool true)):=by
 refine con Tryz.func126 rfl rfl Tryz.call126 rfl fun hwf=>?_
 (repeat' ((conv=>whnf);first | (with_reducible refine Br.yes (decide_eq_true rfl) ?_) | (with_reducible refine Br.yes (beq_self_eq_true _) ?_) | refine gA ?_ | (refine gB ?_ ?_ <;> intro h) | refine gC (laws_eqModeS x.modes) ?_ | intro _)) <;> try (conv=>whnf)
 all_goals exact⟨rfl,rfl,trivial⟩
theorem laws_eqActivityS (l:List Activ):Con 58 [.d (.sl (l.map Activ.av)),.d (.sl (l.map Activ.av))] (.d (.bool true)):=by
 refine con Tryz.func58 rfl rfl Tryz.call58 rfl fun hwf=>?_
 simp only [ARs.wf,AR.wf,AV.wf,AV.wfs,List.length_map,lim] at hwf
 (repeat' ((conv=>whnf);first | (with_reducible refine Br.yes (decide_eq_true rfl) ?_) | (with_reducible refine Br.yes (beq_self_eq_true _) ?_) | refine gA ?_ | (refine gB ?_ ?_ <;> intro h) | (refine gI ?_;intro x hx) | (refine gJ ?_;intro j x hj hx) | refine gV ?_ | intro _)) <;> try (conv=>whnf)
 refine loopF [0,1] [] [] ?_
 (conv=>whnf)
 refine LoopC.go ((Nat)) (fun k=>(k≤l.length)) (fun k=>[(5,.data (i64 k))]) (fun _=>[]) (fun _=>[]) (fun k=>l.length - k) (0) ?_ ?_
 ·exact Nat.zero_le _
 rintro k hk
 by_cases hlt:k < l.length
 ·obtain⟨x,hx⟩:∃x,l[k]? =some x:=⟨l[k]'hlt,by simp⟩
  (repeat' ((conv=>whnf);first | with_reducible refine Idx.got hx rfl ?_ | (with_reducible refine Br.yes (decide_eq_true rfl) ?_) | (with_reducible refine Br.yes (beq_self_eq_true _) ?_) | refine gA ?_ | (refine gB ?_ ?_ <;> intro h) | (refine gI ?_;intro x hx) | (refine gJ ?_;intro j x hj hx) | refine gV ?_ | refine gC (laws_eqActivity x) ?_ | intro _)) <;> try (conv=>whnf)
  all_goals first
   | (exfalso;omega)
   | (refine nx (k+1) ?_
      exact (by omega:k+1≤l.length))
 ·(repeat' ((conv=>whnf);first | (exfalso;omega) | refine gA ?_ | (refine gB ?_ ?_ <;> intro h) | (refine gI ?_;intro x hx) | (refine gJ ?_;intro j x hj hx) | refine gV ?_ | intro _)) <;> try (conv=>whnf)
  exact⟨rfl,rfl,trivial⟩
theorem laws_eqLink (x:Link):Con 127 [.d x.av,.d x.av] (.d (.bool true)):=by
 refine con Tryz.func127 rfl rfl Tryz.call127 rfl fun hwf=>?_
 (repeat' ((conv=>whnf);first | (with_reducible refine Br.yes (decide_eq_true rfl) ?_) | (with_reducible refine Br.yes (beq_self_eq_true _) ?_) | refine gA ?_ | (refine gB ?_ ?_ <;> intro h) | intro _)) <;> try (conv=>whnf)
 all_goals exact⟨rfl,rfl,trivial⟩
theorem laws_eqLinkS (l:List Link):Con 59 [.d (.sl (l.map Link.av)),.d (.sl (l.map Link.av))] (.d (.bool true)):=by
 refine con Tryz.func59 rfl rfl Tryz.call59 rfl fun hwf=>?_
 simp only [ARs.wf,AR.wf,AV.wf,AV.wfs,List.length_map,lim] at hwf
 (repeat' ((conv=>whnf);first | (with_reducible refine Br.yes (decide_eq_true rfl) ?_) | (with_reducible refine Br.yes (beq_self_eq_true _) ?_) | refine gA ?_ | (refine gB ?_ ?_ <;> intro h) | (refine gI ?_;intro x hx) | (refine gJ ?_;intro j x hj hx) | refine gV ?_ | intro _)) <;> try (conv=>whnf)
 refine loopF [0,1] [] [] ?_
 (conv=>whnf)
 refine LoopC.go ((Nat)) (fun k=>(k≤l.length)) (fun k=>[(5,.data (i64 k))]) (fun _=>[]) (fun _=>[]) (fun k=>l.length - k) (0) ?_ ?_
 ·exact Nat.zero_le _
 rintro k hk
 by_cases hlt:k < l.length
 ·obtain⟨x,hx⟩:∃x,l[k]? =some x:=⟨l[k]'hlt,by simp⟩
  (repeat' ((conv=>whnf);first | with_reducible refine Idx.got hx rfl ?_ | (with_reducible refine Br.yes (decide_eq_true rfl) ?_) | (with_reducible refine Br.yes (beq_self_eq_true _) ?_) | refine gA ?_ | (refine gB ?_ ?_ <;> intro h) | (refine gI ?_;intro x hx) | (refine gJ ?_;intro j x hj hx) | refine gV ?_ | refine gC (laws_eqLink x) ?_ | intro _)) <;> try (conv=>whnf)
  all_goals first
   | (exfalso;omega)
   | (refine nx (k+1) ?_
      exact (by omega:k+1≤l.length))
 ·(repeat' ((conv=>whnf);first | (exfalso;omega) | refine gA ?_ | (refine gB ?_ ?_ <;> intro h) | (refine gI ?_;intro x hx) | (refine gJ ?_;intro j x hj hx) | refine gV ?_ | intro _)) <;> try (conv=>whnf)
  exact⟨rfl,rfl,trivial⟩
theorem laws_eqResource (x:Resrc):Con 128 [.d x.av,.d x.av] (.d (.bool true)):=by
 refine con Tryz.func128 rfl rfl Tryz.call128 rfl fun hwf=>?_
 (repeat' ((conv=>whnf);first | (with_reducible refine Br.yes (decide_eq_true rfl) ?_) | (with_reducible refine Br.yes (beq_self_eq_true _) ?_) | refine gA ?_ | (refine gB ?_ ?_ <;> intro h) | refine gC (laws_eqStepS x.steps) ?_ | refine gC (laws_eqIntSS x.setup) ?_ | intro _)) <;> try (conv=>whnf)
 all_goals exact⟨rfl,rfl,trivial⟩
theorem laws_eqResourceS (l:List Resrc):Con 60 [.d (.sl (l.map Resrc.av)),.d (.sl (l.map Resrc.av))] (.d (.bool true)):=by
 refine con Tryz.func60 rfl rfl Tryz.call60 rfl fun hwf=>?_
 simp only [ARs.wf,AR.wf,AV.wf,AV.wfs,List.length_map,lim] at hwf
 (repeat' ((conv=>whnf);first | (with_reducible refine Br.yes (decide_eq_true rfl) ?_) | (with_reducible refine Br.yes (beq_self_eq_true _) ?_) | refine gA ?_ | (refine gB ?_ ?_ <;> intro h) | (refine gI ?_;intro x hx) | (refine gJ ?_;intro j x hj hx) | refine gV ?_ | intro _)) <;> try (conv=>whnf)
 refine loopF [0,1] [] [] ?_
 (conv=>whnf)
 refine LoopC.go ((Nat)) (fun k=>(k≤l.length)) (fun k=>[(5,.data (i64 k))]) (fun _=>[]) (fun _=>[]) (fun k=>l.length - k) (0) ?_ ?_
 ·exact Nat.zero_le _
 rintro k hk
 by_cases hlt:k < l.length
 ·obtain⟨x,hx⟩:∃x,l[k]? =some x:=⟨l[k]'hlt,by simp⟩
  (repeat' ((conv=>whnf);first | with_reducible refine Idx.got hx rfl ?_ | (with_reducible refine Br.yes (decide_eq_true rfl) ?_) | (with_reducible refine Br.yes (beq_self_eq_true _) ?_) | refine gA ?_ | (refine gB ?_ ?_ <;> intro h) | (refine gI ?_;intro x hx) | (refine gJ ?_;intro j x hj hx) | refine gV ?_ | refine gC (laws_eqResource x) ?_ | intro _)) <;> try (conv=>whnf)
  all_goals first
   | (exfalso;omega)
   | (refine nx (k+1) ?_
      exact (by omega:k+1≤l.length))
 ·(repeat' ((conv=>whnf);first | (exfalso;omega) | refine gA ?_ | (refine gB ?_ ?_ <;> intro h) | (refine gI ?_;intro x hx) | (refine gJ ?_;intro j x hj hx) | refine gV ?_ | intro _)) <;> try (conv=>whnf)
  exact⟨rfl,rfl,trivial⟩
theorem laws_eqProject (x:Proj):Con 15 [.d x.av,.d x.av] (.d (.bool true)):=by
 refine con Tryz.func15 rfl rfl Tryz.call15 rfl fun hwf=>?_
 (repeat' ((conv=>whnf);first | (with_reducible refine Br.yes (decide_eq_true rfl) ?_) | (with_reducible refine Br.yes (beq_self_eq_true _) ?_) | refine gA ?_ | (refine gB ?_ ?_ <;> intro h) | refine gC (laws_eqActivityS x.acts) ?_ | refine gC (laws_eqLinkS x.links) ?_ | refine gC (laws_eqResourceS x.ress) ?_ | refine gC (laws_eqIntS x.stocks) ?_ | intro _)) <;> try (conv=>whnf)
 all_goals exact⟨rfl,rfl,trivial⟩
theorem laws_eqRule (x:Rul):Con 245 [.d x.av,.d x.av] (.d (.bool true)):=by
 refine con Tryz.func245 rfl rfl Tryz.call245 rfl fun hwf=>?_
 (repeat' ((conv=>whnf);first | (with_reducible refine Br.yes (decide_eq_true rfl) ?_) | (with_reducible refine Br.yes (beq_self_eq_true _) ?_) | refine gA ?_ | (refine gB ?_ ?_ <;> intro h) | intro _)) <;> try (conv=>whnf)
 all_goals exact⟨rfl,rfl,trivial⟩
theorem laws_eqLiteral (x:Lit):Con 162 [.d x.av,.d x.av] (.d (.bool true)):=by
 refine con Tryz.func162 rfl rfl Tryz.call162 rfl fun hwf=>?_
 (repeat' ((conv=>whnf);first | (with_reducible refine Br.yes (decide_eq_true rfl) ?_) | (with_reducible refine Br.yes (beq_self_eq_true _) ?_) | refine gA ?_ | (refine gB ?_ ?_ <;> intro h) | intro _)) <;> try (conv=>whnf)
 all_goals exact⟨rfl,rfl,trivial⟩
theorem laws_eqLiteralS (l:List Lit):Con 79 [.d (.sl (l.map Lit.av)),.d (.sl (l.map Lit.av))] (.d (.bool true)):=by
 refine con Tryz.func79 rfl rfl Tryz.call79 rfl fun hwf=>?_
 simp only [ARs.wf,AR.wf,AV.wf,AV.wfs,List.length_map,lim] at hwf
 (repeat' ((conv=>whnf);first | (with_reducible refine Br.yes (decide_eq_true rfl) ?_) | (with_reducible refine Br.yes (beq_self_eq_true _) ?_) | refine gA ?_ | (refine gB ?_ ?_ <;> intro h) | (refine gI ?_;intro x hx) | (refine gJ ?_;intro j x hj hx) | refine gV ?_ | intro _)) <;> try (conv=>whnf)
 refine loopF [0,1] [] [] ?_
 (conv=>whnf)
 refine LoopC.go ((Nat)) (fun k=>(k≤l.length)) (fun k=>[(5,.data (i64 k))]) (fun _=>[]) (fun _=>[]) (fun k=>l.length - k) (0) ?_ ?_
 ·exact Nat.zero_le _
 rintro k hk
 by_cases hlt:k < l.length
 ·obtain⟨x,hx⟩:∃x,l[k]? =some x:=⟨l[k]'hlt,by simp⟩
  (repeat' ((conv=>whnf);first | with_reducible refine Idx.got hx rfl ?_ | (with_reducible refine Br.yes (decide_eq_true rfl) ?_) | (with_reducible refine Br.yes (beq_self_eq_true _) ?_) | refine gA ?_ | (refine gB ?_ ?_ <;> intro h) | (refine gI ?_;intro x hx) | (refine gJ ?_;intro j x hj hx) | refine gV ?_ | refine gC (laws_eqLiteral x) ?_ | intro _)) <;> try (conv=>whnf)
  all_goals first
   | (exfalso;omega)
   | (refine nx (k+1) ?_
      exact (by omega:k+1≤l.length))
 ·(repeat' ((conv=>whnf);first | (exfalso;omega) | refine gA ?_ | (refine gB ?_ ?_ <;> intro h) | (refine gI ?_;intro x hx) | (refine gJ ?_;intro j x hj hx) | refine gV ?_ | intro _)) <;> try (conv=>whnf)
  exact⟨rfl,rfl,trivial⟩
theorem laws_eqDomain (x:Dom):Con 78 [.d x.av,.d x.av] (.d (.bool true)):=by
 refine con Tryz.func78 rfl rfl Tryz.call78 rfl fun hwf=>?_
 (repeat' ((conv=>whnf);first | (with_reducible refine Br.yes (decide_eq_true rfl) ?_) | (with_reducible refine Br.yes (beq_self_eq_true _) ?_) | refine gA ?_ | (refine gB ?_ ?_ <;> intro h) | refine gC (laws_eqIntS x.lo) ?_ | refine gC (laws_eqIntS x.hi) ?_ | refine gC (laws_eqIntSS x.modes) ?_ | intro _)) <;> try (conv=>whnf)
 all_goals exact⟨rfl,rfl,trivial⟩
theorem laws_eqLine (x:Lin):Con 163 [.d x.av,.d x.av] (.d (.bool true)):=by
 refine con Tryz.func163 rfl rfl Tryz.call163 rfl fun hwf=>?_
 (repeat' ((conv=>whnf);first | (with_reducible refine Br.yes (decide_eq_true rfl) ?_) | (with_reducible refine Br.yes (beq_self_eq_true _) ?_) | refine gA ?_ | (refine gB ?_ ?_ <;> intro h) | refine gC (laws_eqRule x.rule) ?_ | refine gC (laws_eqLiteralS x.clause) ?_ | intro _)) <;> try (conv=>whnf)
 all_goals exact⟨rfl,rfl,trivial⟩
theorem laws_eqLineS (l:List Lin):Con 80 [.d (.sl (l.map Lin.av)),.d (.sl (l.map Lin.av))] (.d (.bool true)):=by
 refine con Tryz.func80 rfl rfl Tryz.call80 rfl fun hwf=>?_
 simp only [ARs.wf,AR.wf,AV.wf,AV.wfs,List.length_map,lim] at hwf
 (repeat' ((conv=>whnf);first | (with_reducible refine Br.yes (decide_eq_true rfl) ?_) | (with_reducible refine Br.yes (beq_self_eq_true _) ?_) | refine gA ?_ | (refine gB ?_ ?_ <;> intro h) | (refine gI ?_;intro x hx) | (refine gJ ?_;intro j x hj hx) | refine gV ?_ | intro _)) <;> try (conv=>whnf)
 refine loopF [0,1] [] [] ?_
 (conv=>whnf)
 refine LoopC.go ((Nat)) (fun k=>(k≤l.length)) (fun k=>[(5,.data (i64 k))]) (fun _=>[]) (fun _=>[]) (fun k=>l.length - k) (0) ?_ ?_
 ·exact Nat.zero_le _
 rintro k hk
 by_cases hlt:k < l.length
 ·obtain⟨x,hx⟩:∃x,l[k]? =some x:=⟨l[k]'hlt,by simp⟩
  (repeat' ((conv=>whnf);first | with_reducible refine Idx.got hx rfl ?_ | (with_reducible refine Br.yes (decide_eq_true rfl) ?_) | (with_reducible refine Br.yes (beq_self_eq_true _) ?_) | refine gA ?_ | (refine gB ?_ ?_ <;> intro h) | (refine gI ?_;intro x hx) | (refine gJ ?_;intro j x hj hx) | refine gV ?_ | refine gC (laws_eqLine x) ?_ | intro _)) <;> try (conv=>whnf)
  all_goals first
   | (exfalso;omega)
   | (refine nx (k+1) ?_
      exact (by omega:k+1≤l.length))
 ·(repeat' ((conv=>whnf);first | (exfalso;omega) | refine gA ?_ | (refine gB ?_ ?_ <;> intro h) | (refine gI ?_;intro x hx) | (refine gJ ?_;intro j x hj hx) | refine gV ?_ | intro _)) <;> try (conv=>whnf)
  exact⟨rfl,rfl,trivial⟩
end Go.Proofs.YtfhojdalheinaaaGreat.Abs
set_option linter.unusedVariables false
set_option linter.unusedSimpArgs false
set_option maxRecDepth 20000
set_option maxHeartbeats 4000000
namespace Go.Proofs.YtfhojdalheinaaaGreat.Abs
open Go.Proofs
theorem laws_szIntS (l:List Int) (n:Int) (hn:Sz n):Con 34 [.d (.sl (l.map i64)),.d (i64 n)] (.d (i64 (szN l.length n))):=by
 refine con Tryz.func34 rfl rfl Tryz.call34 rfl fun hwf=>?_
 simp only [ARs.wf,AR.wf,AV.wf,AV.wfs,List.length_map,lim] at hwf
 unfold Sz at hn
 (repeat' ((conv=>whnf);first | refine gA ?_ | (refine gB ?_ ?_ <;> intro h) | refine gV ?_ | intro _)) <;> try (conv=>whnf)
 all_goals refine⟨?_,rfl,trivial⟩
 all_goals (simp only [szN,List.length_map];first | (rw [if_pos (by omega)];done) | (rw [if_neg (by omega)];done))
theorem laws_szIntSS (l:List (List Int)) (n:Int) (hn:Sz n):Con 133 [.d (.sl (l.map ints)),.d (i64 n)] (.d (i64 (szS (fun x n=>szN x.length n) l n))):=by
 refine con Tryz.func133 rfl rfl Tryz.call133 rfl fun hwf=>?_
 simp only [ARs.wf,AR.wf,AV.wf,AV.wfs,List.length_map,lim] at hwf
 have hn':=hn
 unfold Sz at hn'
 (repeat' ((conv=>whnf);first | refine gA ?_ | (refine gB ?_ ?_ <;> intro h) | (refine gI ?_;intro x hx) | (refine gJ ?_;intro j x hj hx) | refine gV ?_ | intro _)) <;> try (conv=>whnf)
 rotate_left
 ·refine loopF [0] [] [] ?_
  (conv=>whnf)
  refine LoopC.go ((Nat)×(Int)) (fun⟨k,m⟩=>(k≤l.length)∧(Sz m∧0≤m)∧(szL (fun x n=>szN x.length n) (l.drop k) m=szS (fun x n=>szN x.length n) l n)) (fun⟨k,m⟩=>[(5,.data (i64 k)),(1,.data (i64 m))]) (fun _=>[]) (fun _=>[]) (fun⟨k,m⟩=>l.length - k) ⟨0,n - ((l.map ints).length:Int)⟩ ?_ ?_
  ·simp only [List.length_map]
   refine⟨by omega,by unfold Sz;omega,?_⟩
   rw [szS,szN,if_neg (by omega),szB,if_neg (by omega)];rfl
  rintro⟨k,m⟩ ⟨hk,hm,hi⟩
  have hm':=hm.1
  unfold Sz at hm'
  (repeat' ((conv=>whnf);first | refine gA ?_ | (refine gB ?_ ?_ <;> intro h) | (refine gI ?_;intro x hx) | (refine gJ ?_;intro j x hj hx) | refine gV ?_ | refine gC (laws_szIntS x m hm.1) ?_ | intro _)) <;> try (conv=>whnf)
  ·refine⟨?_,rfl,trivial⟩
   rw [drop_get hx,szL,szB,if_pos (by assumption)] at hi
   rw [← hi]
  ·apply Exists.intro (⟨k+1,_⟩)
   refine⟨?_,rfl,?_,?_⟩
   rotate_left
   ·(repeat' ((conv=>whnf) <;> (first | exact trivial | exact rfl | with_reducible refine And.intro ?_ ?_)))
   ·(try dsimp only);(try simp only [List.length_map]);omega
   rw [drop_get hx,szL,szB,if_neg (by assumption)] at hi
   exact⟨by omega,⟨szN_ok hm.1,by omega⟩,hi⟩
  ·refine⟨?_,rfl,trivial⟩
   rw [← hi,drop_end' (by assumption)];rfl
 ·refine⟨?_,rfl,trivial⟩
  rw [szS,szN,if_pos (by omega)];rfl
theorem laws_szStepS (l:List Step) (n:Int) (hn:Sz n):Con 184 [.d (.sl (l.map Step.av)),.d (i64 n)] (.d (i64 (szN l.length n))):=by
 refine con Tryz.func184 rfl rfl Tryz.call184 rfl fun hwf=>?_
 simp only [ARs.wf,AR.wf,AV.wf,AV.wfs,List.length_map,lim] at hwf
 unfold Sz at hn
 (repeat' ((conv=>whnf);first | refine gA ?_ | (refine gB ?_ ?_ <;> intro h) | refine gV ?_ | intro _)) <;> try (conv=>whnf)
 all_goals refine⟨?_,rfl,trivial⟩
 all_goals (simp only [szN,List.length_map];first | (rw [if_pos (by omega)];done) | (rw [if_neg (by omega)];done))
def szMode (x:Mode) (n:Int):Int:=szB (szN x.use.length n) fun n=>szB (szN x.con.length n) fun n=>n
theorem szMode_ok {x:Mode} {n:Int} (h:Sz n):Sz (szMode x n):=by
 unfold szMode
 refine szB_ok (szN_ok h) fun h=>?_
 refine szB_ok (szN_ok h) fun h=>?_
 exact h
theorem laws_szMode (x:Mode) (n:Int) (hn:Sz n):Con 277 [.d x.av,.d (i64 n)] (.d (i64 (szMode x n))):=by
 refine con Tryz.func277 rfl rfl Tryz.call277 rfl fun hwf=>?_
 simp only [ARs.wf,AR.wf,AV.wf,AV.wfs,List.length_map,lim] at hwf
 have h0:Sz (szN x.use.length n):=szN_ok hn
 have h1:Sz (szN x.con.length (szN x.use.length n)):=szN_ok h0
 (repeat' ((conv=>whnf);first | refine gA ?_ | (refine gB ?_ ?_ <;> intro h) | refine gC (laws_szIntS x.use n hn) ?_ | refine gC (laws_szIntS x.con (szN x.use.length n) h0) ?_ | intro _)) <;> try (conv=>whnf)
 all_goals refine⟨?_,rfl,trivial⟩
 all_goals (unfold szMode;simp only [szB, *,if_true,if_false,ite_true,ite_false])
theorem laws_szModeS (l:List Mode) (n:Int) (hn:Sz n):Con 183 [.d (.sl (l.map Mode.av)),.d (i64 n)] (.d (i64 (szS (fun x n=>szMode x n) l n))):=by
 refine con Tryz.func183 rfl rfl Tryz.call183 rfl fun hwf=>?_
 simp only [ARs.wf,AR.wf,AV.wf,AV.wfs,List.length_map,lim] at hwf
 have hn':=hn
 unfold Sz at hn'
 (repeat' ((conv=>whnf);first | refine gA ?_ | (refine gB ?_ ?_ <;> intro h) | (refine gI ?_;intro x hx) | (refine gJ ?_;intro j x hj hx) | refine gV ?_ | intro _)) <;> try (conv=>whnf)
 rotate_left
 ·refine loopF [0] [] [] ?_
  (conv=>whnf)
  refine LoopC.go ((Nat)×(Int)) (fun⟨k,m⟩=>(k≤l.length)∧(Sz m∧0≤m)∧(szL (fun x n=>szMode x n) (l.drop k) m=szS (fun x n=>szMode x n) l n)) (fun⟨k,m⟩=>[(5,.data (i64 k)),(1,.data (i64 m))]) (fun _=>[]) (fun _=>[]) (fun⟨k,m⟩=>l.length - k) ⟨0,n - ((l.map Mode.av).length:Int)⟩ ?_ ?_
  ·simp only [List.length_map]
   refine⟨by omega,by unfold Sz;omega,?_⟩
   rw [szS,szN,if_neg (by omega),szB,if_neg (by omega)];rfl
  rintro⟨k,m⟩ ⟨hk,hm,hi⟩
  have hm':=hm.1
  unfold Sz at hm'
  (repeat' ((conv=>whnf);first | refine gA ?_ | (refine gB ?_ ?_ <;> intro h) | (refine gI ?_;intro x hx) | (refine gJ ?_;intro j x hj hx) | refine gV ?_ | refine gC (laws_szMode x m hm.1) ?_ | intro _)) <;> try (conv=>whnf)
  ·refine⟨?_,rfl,trivial⟩
   rw [drop_get hx,szL,szB,if_pos (by assumption)] at hi
   rw [← hi]
  ·apply Exists.intro (⟨k+1,_⟩)
   refine⟨?_,rfl,?_,?_⟩
   rotate_left
   ·(repeat' ((conv=>whnf) <;> (first | exact trivial | exact rfl | with_reducible refine And.intro ?_ ?_)))
   ·(try dsimp only);(try simp only [List.length_map]);omega
   rw [drop_get hx,szL,szB,if_neg (by assumption)] at hi
   exact⟨by omega,⟨szMode_ok hm.1,by omega⟩,hi⟩
  ·refine⟨?_,rfl,trivial⟩
   rw [← hi,drop_end' (by assumption)];rfl
 ·refine⟨?_,rfl,trivial⟩
  rw [szS,szN,if_pos (by omega)];rfl
def szActivity (x:Activ) (n:Int):Int:=szB (szN x.name.size n) fun n=>szB (szS (fun x n=>szMode x n) x.modes n) fun n=>n
theorem szActivity_ok {x:Activ} {n:Int} (h:Sz n):Sz (szActivity x n):=by
 unfold szActivity
 refine szB_ok (szN_ok h) fun h=>?_
 refine szB_ok ((szS_ok fun h=>szMode_ok h) h) fun h=>?_
 exact h
theorem laws_szActivity (x:Activ) (n:Int) (hn:Sz n) (hf:x.name.size≤lim):Con 95 [.d x.av,.d (i64 n)] (.d (i64 (szActivity x n))):=by
 refine con Tryz.func95 rfl rfl Tryz.call95 rfl fun hwf=>?_
 simp only [ARs.wf,AR.wf,AV.wf,AV.wfs,List.length_map,lim] at hwf
 have hn':=hn
 unfold Sz at hn'
 unfold lim at hf
 by_cases hneg:n - (x.name.size:Int) < 0
 ·(repeat' ((conv=>whnf);first | refine gA ?_ | (refine gB ?_ ?_ <;> intro h) | refine gV ?_ | intro _)) <;> try (conv=>whnf)
  ·refine⟨?_,rfl,trivial⟩
   rw [szActivity,szN,if_pos hneg];rfl
  ·exact absurd hneg (by assumption)
 ·have h0:Sz (n - (x.name.size:Int)):=by unfold Sz;omega
  (repeat' ((conv=>whnf);first | refine gA ?_ | (refine gB ?_ ?_ <;> intro h) | refine gV ?_ | refine gC (laws_szModeS x.modes _ h0) ?_ | intro _)) <;> try (conv=>whnf)
  all_goals first
   | (exfalso;exact hneg (by assumption))
   | (refine⟨?_,rfl,trivial⟩;rw [szActivity,szN,if_neg hneg,szB,if_neg hneg,szB];first | (rw [if_pos (by assumption)];done) | (rw [if_neg (by assumption)];done))
theorem laws_szActivityS (l:List Activ) (n:Int) (hn:Sz n) (hf:∀x∈l,x.name.size≤lim):Con 31 [.d (.sl (l.map Activ.av)),.d (i64 n)] (.d (i64 (szS (fun x n=>szActivity x n) l n))):=by
 refine con Tryz.func31 rfl rfl Tryz.call31 rfl fun hwf=>?_
 simp only [ARs.wf,AR.wf,AV.wf,AV.wfs,List.length_map,lim] at hwf
 have hn':=hn
 unfold Sz at hn'
 (repeat' ((conv=>whnf);first | refine gA ?_ | (refine gB ?_ ?_ <;> intro h) | (refine gI ?_;intro x hx) | (refine gJ ?_;intro j x hj hx) | refine gV ?_ | intro _)) <;> try (conv=>whnf)
 rotate_left
 ·refine loopF [0] [] [] ?_
  (conv=>whnf)
  refine LoopC.go ((Nat)×(Int)) (fun⟨k,m⟩=>(k≤l.length)∧(Sz m∧0≤m)∧(szL (fun x n=>szActivity x n) (l.drop k) m=szS (fun x n=>szActivity x n) l n)) (fun⟨k,m⟩=>[(5,.data (i64 k)),(1,.data (i64 m))]) (fun _=>[]) (fun _=>[]) (fun⟨k,m⟩=>l.length - k) ⟨0,n - ((l.map Activ.av).length:Int)⟩ ?_ ?_
  ·simp only [List.length_map]
   refine⟨by omega,by unfold Sz;omega,?_⟩
   rw [szS,szN,if_neg (by omega),szB,if_neg (by omega)];rfl
  rintro⟨k,m⟩ ⟨hk,hm,hi⟩
  have hm':=hm.1
  unfold Sz at hm'
  (repeat' ((conv=>whnf);first | refine gA ?_ | (refine gB ?_ ?_ <;> intro h) | (refine gI ?_;intro x hx) | (refine gJ ?_;intro j x hj hx) | refine gV ?_ | refine gC (laws_szActivity x m hm.1 (hf x (List.mem_of_getElem? hx))) ?_ | intro _)) <;> try (conv=>whnf)
  ·refine⟨?_,rfl,trivial⟩
   rw [drop_get hx,szL,szB,if_pos (by assumption)] at hi
   rw [← hi]
  ·apply Exists.intro (⟨k+1,_⟩)
   refine⟨?_,rfl,?_,?_⟩
   rotate_left
   ·(repeat' ((conv=>whnf) <;> (first | exact trivial | exact rfl | with_reducible refine And.intro ?_ ?_)))
   ·(try dsimp only);(try simp only [List.length_map]);omega
   rw [drop_get hx,szL,szB,if_neg (by assumption)] at hi
   exact⟨by omega,⟨szActivity_ok hm.1,by omega⟩,hi⟩
  ·refine⟨?_,rfl,trivial⟩
   rw [← hi,drop_end' (by assumption)];rfl
 ·refine⟨?_,rfl,trivial⟩
  rw [szS,szN,if_pos (by omega)];rfl
theorem laws_szLinkS (l:List Link) (n:Int) (hn:Sz n):Con 32 [.d (.sl (l.map Link.av)),.d (i64 n)] (.d (i64 (szN l.length n))):=by
 refine con Tryz.func32 rfl rfl Tryz.call32 rfl fun hwf=>?_
 simp only [ARs.wf,AR.wf,AV.wf,AV.wfs,List.length_map,lim] at hwf
 unfold Sz at hn
 (repeat' ((conv=>whnf);first | refine gA ?_ | (refine gB ?_ ?_ <;> intro h) | refine gV ?_ | intro _)) <;> try (conv=>whnf)
 all_goals refine⟨?_,rfl,trivial⟩
 all_goals (simp only [szN,List.length_map];first | (rw [if_pos (by omega)];done) | (rw [if_neg (by omega)];done))
def szResource (x:Resrc) (n:Int):Int:=szB (szN x.steps.length n) fun n=>szB (szS (fun x n=>szN x.length n) x.setup n) fun n=>n
theorem szResource_ok {x:Resrc} {n:Int} (h:Sz n):Sz (szResource x n):=by
 unfold szResource
 refine szB_ok (szN_ok h) fun h=>?_
 refine szB_ok ((szS_ok fun h=>szN_ok h) h) fun h=>?_
 exact h
theorem laws_szResource (x:Resrc) (n:Int) (hn:Sz n):Con 96 [.d x.av,.d (i64 n)] (.d (i64 (szResource x n))):=by
 refine con Tryz.func96 rfl rfl Tryz.call96 rfl fun hwf=>?_
 simp only [ARs.wf,AR.wf,AV.wf,AV.wfs,List.length_map,lim] at hwf
 have h0:Sz (szN x.steps.length n):=szN_ok hn
 have h1:Sz (szS (fun x n=>szN x.length n) x.setup (szN x.steps.length n)):=szS_ok (fun h=>szN_ok h) h0
 (repeat' ((conv=>whnf);first | refine gA ?_ | (refine gB ?_ ?_ <;> intro h) | refine gC (laws_szStepS x.steps n hn) ?_ | refine gC (laws_szIntSS x.setup (szN x.steps.length n) h0) ?_ | intro _)) <;> try (conv=>whnf)
 all_goals refine⟨?_,rfl,trivial⟩
 all_goals (unfold szResource;simp only [szB, *,if_true,if_false,ite_true,ite_false])
theorem laws_szResourceS (l:List Resrc) (n:Int) (hn:Sz n):Con 33 [.d (.sl (l.map Resrc.av)),.d (i64 n)] (.d (i64 (szS (fun x n=>szResource x n) l n))):=by
 refine con Tryz.func33 rfl rfl Tryz.call33 rfl fun hwf=>?_
 simp only [ARs.wf,AR.wf,AV.wf,AV.wfs,List.length_map,lim] at hwf
 have hn':=hn
 unfold Sz at hn'
 (repeat' ((conv=>whnf);first | refine gA ?_ | (refine gB ?_ ?_ <;> intro h) | (refine gI ?_;intro x hx) | (refine gJ ?_;intro j x hj hx) | refine gV ?_ | intro _)) <;> try (conv=>whnf)
 rotate_left
 ·refine loopF [0] [] [] ?_
  (conv=>whnf)
  refine LoopC.go ((Nat)×(Int)) (fun⟨k,m⟩=>(k≤l.length)∧(Sz m∧0≤m)∧(szL (fun x n=>szResource x n) (l.drop k) m=szS (fun x n=>szResource x n) l n)) (fun⟨k,m⟩=>[(5,.data (i64 k)),(1,.data (i64 m))]) (fun _=>[]) (fun _=>[]) (fun⟨k,m⟩=>l.length - k) ⟨0,n - ((l.map Resrc.av).length:Int)⟩ ?_ ?_
  ·simp only [List.length_map]
   refine⟨by omega,by unfold Sz;omega,?_⟩
   rw [szS,szN,if_neg (by omega),szB,if_neg (by omega)];rfl
  rintro⟨k,m⟩ ⟨hk,hm,hi⟩
  have hm':=hm.1
  unfold Sz at hm'
  (repeat' ((conv=>whnf);first | refine gA ?_ | (refine gB ?_ ?_ <;> intro h) | (refine gI ?_;intro x hx) | (refine gJ ?_;intro j x hj hx) | refine gV ?_ | refine gC (laws_szResource x m hm.1) ?_ | intro _)) <;> try (conv=>whnf)
  ·refine⟨?_,rfl,trivial⟩
   rw [drop_get hx,szL,szB,if_pos (by assumption)] at hi
   rw [← hi]
  ·apply Exists.intro (⟨k+1,_⟩)
   refine⟨?_,rfl,?_,?_⟩
   rotate_left
   ·(repeat' ((conv=>whnf) <;> (first | exact trivial | exact rfl | with_reducible refine And.intro ?_ ?_)))
   ·(try dsimp only);(try simp only [List.length_map]);omega
   rw [drop_get hx,szL,szB,if_neg (by assumption)] at hi
   exact⟨by omega,⟨szResource_ok hm.1,by omega⟩,hi⟩
  ·refine⟨?_,rfl,trivial⟩
   rw [← hi,drop_end' (by assumption)];rfl
 ·refine⟨?_,rfl,trivial⟩
  rw [szS,szN,if_pos (by omega)];rfl
def szProject (x:Proj) (n:Int):Int:=szB (szS (fun x n=>szActivity x n) x.acts n) fun n=>szB (szN x.links.length n) fun n=>szB (szS (fun x n=>szResource x n) x.ress n) fun n=>szB (szN x.stocks.length n) fun n=>n
theorem szProject_ok {x:Proj} {n:Int} (h:Sz n):Sz (szProject x n):=by
 unfold szProject
 refine szB_ok ((szS_ok fun h=>szActivity_ok h) h) fun h=>?_
 refine szB_ok (szN_ok h) fun h=>?_
 refine szB_ok ((szS_ok fun h=>szResource_ok h) h) fun h=>?_
 refine szB_ok (szN_ok h) fun h=>?_
 exact h
theorem laws_szProject (x:Proj) (n:Int) (hn:Sz n) (hf:∀y∈x.acts,y.name.size≤lim):Con 7 [.d x.av,.d (i64 n)] (.d (i64 (szProject x n))):=by
 refine con Tryz.func7 rfl rfl Tryz.call7 rfl fun hwf=>?_
 simp only [ARs.wf,AR.wf,AV.wf,AV.wfs,List.length_map,lim] at hwf
 have h0:Sz (szS (fun x n=>szActivity x n) x.acts n):=szS_ok (fun h=>szActivity_ok h) hn
 have h1:Sz (szN x.links.length (szS (fun x n=>szActivity x n) x.acts n)):=szN_ok h0
 have h2:Sz (szS (fun x n=>szResource x n) x.ress (szN x.links.length (szS (fun x n=>szActivity x n) x.acts n))):=szS_ok (fun h=>szResource_ok h) h1
 have h3:Sz (szN x.stocks.length (szS (fun x n=>szResource x n) x.ress (szN x.links.length (szS (fun x n=>szActivity x n) x.acts n)))):=szN_ok h2
 (repeat' ((conv=>whnf);first | refine gA ?_ | (refine gB ?_ ?_ <;> intro h) | refine gC (laws_szActivityS x.acts n hn hf) ?_ | refine gC (laws_szLinkS x.links (szS (fun x n=>szActivity x n) x.acts n) h0) ?_ | refine gC (laws_szResourceS x.ress (szN x.links.length (szS (fun x n=>szActivity x n) x.acts n)) h1) ?_ | refine gC (laws_szIntS x.stocks (szS (fun x n=>szResource x n) x.ress (szN x.links.length (szS (fun x n=>szActivity x n) x.acts n))) h2) ?_ | intro _)) <;> try (conv=>whnf)
 all_goals refine⟨?_,rfl,trivial⟩
 all_goals (unfold szProject;simp only [szB, *,if_true,if_false,ite_true,ite_false])
def szSchedule (x:Sched) (n:Int):Int:=szB (szN x.starts.length n) fun n=>szB (szN x.modes.length n) fun n=>n
theorem laws_szLiteralS (l:List Lit) (n:Int) (hn:Sz n):Con 67 [.d (.sl (l.map Lit.av)),.d (i64 n)] (.d (i64 (szN l.length n))):=by
 refine con Tryz.func67 rfl rfl Tryz.call67 rfl fun hwf=>?_
 simp only [ARs.wf,AR.wf,AV.wf,AV.wfs,List.length_map,lim] at hwf
 unfold Sz at hn
 (repeat' ((conv=>whnf);first | refine gA ?_ | (refine gB ?_ ?_ <;> intro h) | refine gV ?_ | intro _)) <;> try (conv=>whnf)
 all_goals refine⟨?_,rfl,trivial⟩
 all_goals (simp only [szN,List.length_map];first | (rw [if_pos (by omega)];done) | (rw [if_neg (by omega)];done))
def szDomain (x:Dom) (n:Int):Int:=szB (szN x.lo.length n) fun n=>szB (szN x.hi.length n) fun n=>szB (szS (fun x n=>szN x.length n) x.modes n) fun n=>n
theorem szDomain_ok {x:Dom} {n:Int} (h:Sz n):Sz (szDomain x n):=by
 unfold szDomain
 refine szB_ok (szN_ok h) fun h=>?_
 refine szB_ok (szN_ok h) fun h=>?_
 refine szB_ok ((szS_ok fun h=>szN_ok h) h) fun h=>?_
 exact h
theorem laws_szDomain (x:Dom) (n:Int) (hn:Sz n):Con 66 [.d x.av,.d (i64 n)] (.d (i64 (szDomain x n))):=by
 refine con Tryz.func66 rfl rfl Tryz.call66 rfl fun hwf=>?_
 simp only [ARs.wf,AR.wf,AV.wf,AV.wfs,List.length_map,lim] at hwf
 have h0:Sz (szN x.lo.length n):=szN_ok hn
 have h1:Sz (szN x.hi.length (szN x.lo.length n)):=szN_ok h0
 have h2:Sz (szS (fun x n=>szN x.length n) x.modes (szN x.hi.length (szN x.lo.length n))):=szS_ok (fun h=>szN_ok h) h1
 (repeat' ((conv=>whnf);first | refine gA ?_ | (refine gB ?_ ?_ <;> intro h) | refine gC (laws_szIntS x.lo n hn) ?_ | refine gC (laws_szIntS x.hi (szN x.lo.length n) h0) ?_ | refine gC (laws_szIntSS x.modes (szN x.hi.length (szN x.lo.length n)) h1) ?_ | intro _)) <;> try (conv=>whnf)
 all_goals refine⟨?_,rfl,trivial⟩
 all_goals (unfold szDomain;simp only [szB, *,if_true,if_false,ite_true,ite_false])
def szLine (x:Lin) (n:Int):Int:=szB (szN x.clause.length n) fun n=>n
theorem szLine_ok {x:Lin} {n:Int} (h:Sz n):Sz (szLine x n):=by
 unfold szLine
 refine szB_ok (szN_ok h) fun h=>?_
 exact h
theorem laws_szLine (x:Lin) (n:Int) (hn:Sz n):Con 134 [.d x.av,.d (i64 n)] (.d (i64 (szLine x n))):=by
 refine con Tryz.func134 rfl rfl Tryz.call134 rfl fun hwf=>?_
 simp only [ARs.wf,AR.wf,AV.wf,AV.wfs,List.length_map,lim] at hwf
 have h0:Sz (szN x.clause.length n):=szN_ok hn
 (repeat' ((conv=>whnf);first | refine gA ?_ | (refine gB ?_ ?_ <;> intro h) | refine gC (laws_szLiteralS x.clause n hn) ?_ | intro _)) <;> try (conv=>whnf)
 all_goals refine⟨?_,rfl,trivial⟩
 all_goals (unfold szLine;simp only [szB, *,if_true,if_false,ite_true,ite_false])
theorem laws_szLineS (l:List Lin) (n:Int) (hn:Sz n):Con 68 [.d (.sl (l.map Lin.av)),.d (i64 n)] (.d (i64 (szS (fun x n=>szLine x n) l n))):=by
 refine con Tryz.func68 rfl rfl Tryz.call68 rfl fun hwf=>?_
 simp only [ARs.wf,AR.wf,AV.wf,AV.wfs,List.length_map,lim] at hwf
 have hn':=hn
 unfold Sz at hn'
 (repeat' ((conv=>whnf);first | refine gA ?_ | (refine gB ?_ ?_ <;> intro h) | (refine gI ?_;intro x hx) | (refine gJ ?_;intro j x hj hx) | refine gV ?_ | intro _)) <;> try (conv=>whnf)
 rotate_left
 ·refine loopF [0] [] [] ?_
  (conv=>whnf)
  refine LoopC.go ((Nat)×(Int)) (fun⟨k,m⟩=>(k≤l.length)∧(Sz m∧0≤m)∧(szL (fun x n=>szLine x n) (l.drop k) m=szS (fun x n=>szLine x n) l n)) (fun⟨k,m⟩=>[(5,.data (i64 k)),(1,.data (i64 m))]) (fun _=>[]) (fun _=>[]) (fun⟨k,m⟩=>l.length - k) ⟨0,n - ((l.map Lin.av).length:Int)⟩ ?_ ?_
  ·simp only [List.length_map]
   refine⟨by omega,by unfold Sz;omega,?_⟩
   rw [szS,szN,if_neg (by omega),szB,if_neg (by omega)];rfl
  rintro⟨k,m⟩ ⟨hk,hm,hi⟩
  have hm':=hm.1
  unfold Sz at hm'
  (repeat' ((conv=>whnf);first | refine gA ?_ | (refine gB ?_ ?_ <;> intro h) | (refine gI ?_;intro x hx) | (refine gJ ?_;intro j x hj hx) | refine gV ?_ | refine gC (laws_szLine x m hm.1) ?_ | intro _)) <;> try (conv=>whnf)
  ·refine⟨?_,rfl,trivial⟩
   rw [drop_get hx,szL,szB,if_pos (by assumption)] at hi
   rw [← hi]
  ·apply Exists.intro (⟨k+1,_⟩)
   refine⟨?_,rfl,?_,?_⟩
   rotate_left
   ·(repeat' ((conv=>whnf) <;> (first | exact trivial | exact rfl | with_reducible refine And.intro ?_ ?_)))
   ·(try dsimp only);(try simp only [List.length_map]);omega
   rw [drop_get hx,szL,szB,if_neg (by assumption)] at hi
   exact⟨by omega,⟨szLine_ok hm.1,by omega⟩,hi⟩
  ·refine⟨?_,rfl,trivial⟩
   rw [← hi,drop_end' (by assumption)];rfl
 ·refine⟨?_,rfl,trivial⟩
  rw [szS,szN,if_pos (by omega)];rfl
end Go.Proofs.YtfhojdalheinaaaGreat.Abs
set_option linter.unusedVariables false
set_option linter.unusedSimpArgs false
set_option maxRecDepth 20000
set_option maxHeartbeats 4000000
namespace Go.Proofs.YtfhojdalheinaaaGreat.Abs
open Go.Proofs
theorem laws_otoIntS (l:List Int):Con 47 [.old (.sl (l.map i64))] (.d (.sl (l.map i64))):=by
 refine con Tryz.func47 rfl rfl Tryz.call47 rfl fun hwf=>?_
 simp only [ARs.wf,AR.wf,AV.wf,AV.wfs,List.length_map,lim] at hwf
 (repeat' ((conv=>whnf);first | refine gA ?_ | (refine gB ?_ ?_ <;> intro h) | (refine gI ?_;intro x hx) | (refine gJ ?_;intro j x hj hx) | refine gV ?_ | refine gM ?_ | intro _)) <;> try (conv=>whnf)
 refine loopF [0,3] [] [7] ?_
 (conv=>whnf)
 refine LoopC.go ((Nat)) (fun k=>(k≤l.length)) (fun k=>[(4,.data (i64 k))]) (fun _=>[]) (fun k=>[(7,3,filled i64 (i64 0) l k,0)]) (fun k=>l.length - k) (0) ?_ ?_
 ·exact Nat.zero_le _
 rintro k hk
 (repeat' ((conv=>whnf);first | with_reducible refine Idx.mk k (i64 0) rfl (filled_get (by omega)) ?_ | refine gA ?_ | (refine gB ?_ ?_ <;> intro h) | (refine gI ?_;intro x hx) | (refine gJ ?_;intro j x hj hx) | refine gV ?_ | refine gM ?_ | intro _)) <;> try (conv=>whnf)
 ·refine nw (k+1) ?_ ?_
  ·(repeat' ((conv=>whnf) <;> (first | exact trivial | exact rfl | with_reducible refine And.intro ?_ ?_))) <;> ((conv=>whnf) <;> (exact filled_set hx rfl))
  exact (by omega:k+1≤l.length)
 ·refine⟨?_,rfl,trivial⟩
  dsimp only
  rw [filled_end (by omega)]
theorem laws_otoIntSS (l:List (List Int)):Con 143 [.old (.sl (l.map ints))] (.d (.sl (l.map ints))):=by
 refine con Tryz.func143 rfl rfl Tryz.call143 rfl fun hwf=>?_
 simp only [ARs.wf,AR.wf,AV.wf,AV.wfs,List.length_map,lim] at hwf
 (repeat' ((conv=>whnf);first | refine gA ?_ | (refine gB ?_ ?_ <;> intro h) | (refine gI ?_;intro x hx) | (refine gJ ?_;intro j x hj hx) | refine gV ?_ | refine gM ?_ | intro _)) <;> try (conv=>whnf)
 refine loopF [0,3] [] [7] ?_
 (conv=>whnf)
 refine LoopC.go ((Nat)) (fun k=>(k≤l.length)) (fun k=>[(4,.data (i64 k))]) (fun _=>[]) (fun k=>[(7,25,filled ints (.sl []) l k,0)]) (fun k=>l.length - k) (0) ?_ ?_
 ·exact Nat.zero_le _
 rintro k hk
 (repeat' ((conv=>whnf);first | with_reducible refine Idx.mk k (.sl []) rfl (filled_get (by omega)) ?_ | refine gA ?_ | (refine gB ?_ ?_ <;> intro h) | (refine gI ?_;intro x hx) | (refine gJ ?_;intro j x hj hx) | refine gV ?_ | refine gM ?_ | refine gC (laws_otoIntS x) ?_ | intro _)) <;> try (conv=>whnf)
 ·refine nw (k+1) ?_ ?_
  ·(repeat' ((conv=>whnf) <;> (first | exact trivial | exact rfl | with_reducible refine And.intro ?_ ?_))) <;> ((conv=>whnf) <;> (exact filled_set hx rfl))
  exact (by omega:k+1≤l.length)
 ·refine⟨?_,rfl,trivial⟩
  dsimp only
  rw [filled_end (by omega)]
theorem laws_otoStep (x:Step):Con 290 [.old x.av] (.d x.av):=by
 refine con Tryz.func290 rfl rfl Tryz.call290 rfl fun hwf=>?_
 (repeat' ((conv=>whnf);first | refine gA ?_ | (refine gB ?_ ?_ <;> intro h) | intro _)) <;> try (conv=>whnf)
 exact⟨rfl,rfl,trivial⟩
theorem laws_otoStepS (l:List Step):Con 201 [.old (.sl (l.map Step.av))] (.d (.sl (l.map Step.av))):=by
 refine con Tryz.func201 rfl rfl Tryz.call201 rfl fun hwf=>?_
 simp only [ARs.wf,AR.wf,AV.wf,AV.wfs,List.length_map,lim] at hwf
 (repeat' ((conv=>whnf);first | refine gA ?_ | (refine gB ?_ ?_ <;> intro h) | (refine gI ?_;intro x hx) | (refine gJ ?_;intro j x hj hx) | refine gV ?_ | refine gM ?_ | intro _)) <;> try (conv=>whnf)
 refine loopF [0,3] [] [7] ?_
 (conv=>whnf)
 refine LoopC.go ((Nat)) (fun k=>(k≤l.length)) (fun k=>[(4,.data (i64 k))]) (fun _=>[]) (fun k=>[(7,222,filled Step.av (.agg [i64 0,i64 0]) l k,0)]) (fun k=>l.length - k) (0) ?_ ?_
 ·exact Nat.zero_le _
 rintro k hk
 (repeat' ((conv=>whnf);first | with_reducible refine Idx.mk k (.agg [i64 0,i64 0]) rfl (filled_get (by omega)) ?_ | refine gA ?_ | (refine gB ?_ ?_ <;> intro h) | (refine gI ?_;intro x hx) | (refine gJ ?_;intro j x hj hx) | refine gV ?_ | refine gM ?_ | refine gC (laws_otoStep x) ?_ | intro _)) <;> try (conv=>whnf)
 ·refine nw (k+1) ?_ ?_
  ·(repeat' ((conv=>whnf) <;> (first | exact trivial | exact rfl | with_reducible refine And.intro ?_ ?_))) <;> ((conv=>whnf) <;> (exact filled_set hx rfl))
  exact (by omega:k+1≤l.length)
 ·refine⟨?_,rfl,trivial⟩
  dsimp only
  rw [filled_end (by omega)]
theorem laws_otoMode (x:Mode):Con 289 [.old x.av] (.d x.av):=by
 refine con Tryz.func289 rfl rfl Tryz.call289 rfl fun hwf=>?_
 (repeat' ((conv=>whnf);first | refine gA ?_ | (refine gB ?_ ?_ <;> intro h) | refine gC (laws_otoIntS x.use) ?_ | refine gC (laws_otoIntS x.con) ?_ | intro _)) <;> try (conv=>whnf)
 exact⟨rfl,rfl,trivial⟩
theorem laws_otoModeS (l:List Mode):Con 200 [.old (.sl (l.map Mode.av))] (.d (.sl (l.map Mode.av))):=by
 refine con Tryz.func200 rfl rfl Tryz.call200 rfl fun hwf=>?_
 simp only [ARs.wf,AR.wf,AV.wf,AV.wfs,List.length_map,lim] at hwf
 (repeat' ((conv=>whnf);first | refine gA ?_ | (refine gB ?_ ?_ <;> intro h) | (refine gI ?_;intro x hx) | (refine gJ ?_;intro j x hj hx) | refine gV ?_ | refine gM ?_ | intro _)) <;> try (conv=>whnf)
 refine loopF [0,3] [] [7] ?_
 (conv=>whnf)
 refine LoopC.go ((Nat)) (fun k=>(k≤l.length)) (fun k=>[(4,.data (i64 k))]) (fun _=>[]) (fun k=>[(7,145,filled Mode.av (.agg [i64 0,.sl [],.sl []]) l k,0)]) (fun k=>l.length - k) (0) ?_ ?_
 ·exact Nat.zero_le _
 rintro k hk
 (repeat' ((conv=>whnf);first | with_reducible refine Idx.mk k (.agg [i64 0,.sl [],.sl []]) rfl (filled_get (by omega)) ?_ | refine gA ?_ | (refine gB ?_ ?_ <;> intro h) | (refine gI ?_;intro x hx) | (refine gJ ?_;intro j x hj hx) | refine gV ?_ | refine gM ?_ | refine gC (laws_otoMode x) ?_ | intro _)) <;> try (conv=>whnf)
 ·refine nw (k+1) ?_ ?_
  ·(repeat' ((conv=>whnf) <;> (first | exact trivial | exact rfl | with_reducible refine And.intro ?_ ?_))) <;> ((conv=>whnf) <;> (exact filled_set hx rfl))
  exact (by omega:k+1≤l.length)
 ·refine⟨?_,rfl,trivial⟩
  dsimp only
  rw [filled_end (by omega)]
theorem laws_otoActivity (x:Activ):Con 109 [.old x.av] (.d x.av):=by
 refine con Tryz.func109 rfl rfl Tryz.call109 rfl fun hwf=>?_
 (repeat' ((conv=>whnf);first | refine gA ?_ | (refine gB ?_ ?_ <;> intro h) | refine gC (laws_otoModeS x.modes) ?_ | intro _)) <;> try (conv=>whnf)
 exact⟨rfl,rfl,trivial⟩
theorem laws_otoActivityS (l:List Activ):Con 44 [.old (.sl (l.map Activ.av))] (.d (.sl (l.map Activ.av))):=by
 refine con Tryz.func44 rfl rfl Tryz.call44 rfl fun hwf=>?_
 simp only [ARs.wf,AR.wf,AV.wf,AV.wfs,List.length_map,lim] at hwf
 (repeat' ((conv=>whnf);first | refine gA ?_ | (refine gB ?_ ?_ <;> intro h) | (refine gI ?_;intro x hx) | (refine gJ ?_;intro j x hj hx) | refine gV ?_ | refine gM ?_ | intro _)) <;> try (conv=>whnf)
 refine loopF [0,3] [] [7] ?_
 (conv=>whnf)
 refine LoopC.go ((Nat)) (fun k=>(k≤l.length)) (fun k=>[(4,.data (i64 k))]) (fun _=>[]) (fun k=>[(7,143,filled Activ.av (.agg [.str ⟨#[]⟩,i64 0,.sl []]) l k,0)]) (fun k=>l.length - k) (0) ?_ ?_
 ·exact Nat.zero_le _
 rintro k hk
 (repeat' ((conv=>whnf);first | with_reducible refine Idx.mk k (.agg [.str ⟨#[]⟩,i64 0,.sl []]) rfl (filled_get (by omega)) ?_ | refine gA ?_ | (refine gB ?_ ?_ <;> intro h) | (refine gI ?_;intro x hx) | (refine gJ ?_;intro j x hj hx) | refine gV ?_ | refine gM ?_ | refine gC (laws_otoActivity x) ?_ | intro _)) <;> try (conv=>whnf)
 ·refine nw (k+1) ?_ ?_
  ·(repeat' ((conv=>whnf) <;> (first | exact trivial | exact rfl | with_reducible refine And.intro ?_ ?_))) <;> ((conv=>whnf) <;> (exact filled_set hx rfl))
  exact (by omega:k+1≤l.length)
 ·refine⟨?_,rfl,trivial⟩
  dsimp only
  rw [filled_end (by omega)]
theorem laws_otoLink (x:Link):Con 110 [.old x.av] (.d x.av):=by
 refine con Tryz.func110 rfl rfl Tryz.call110 rfl fun hwf=>?_
 (repeat' ((conv=>whnf);first | refine gA ?_ | (refine gB ?_ ?_ <;> intro h) | intro _)) <;> try (conv=>whnf)
 exact⟨rfl,rfl,trivial⟩
theorem laws_otoLinkS (l:List Link):Con 45 [.old (.sl (l.map Link.av))] (.d (.sl (l.map Link.av))):=by
 refine con Tryz.func45 rfl rfl Tryz.call45 rfl fun hwf=>?_
 simp only [ARs.wf,AR.wf,AV.wf,AV.wfs,List.length_map,lim] at hwf
 (repeat' ((conv=>whnf);first | refine gA ?_ | (refine gB ?_ ?_ <;> intro h) | (refine gI ?_;intro x hx) | (refine gJ ?_;intro j x hj hx) | refine gV ?_ | refine gM ?_ | intro _)) <;> try (conv=>whnf)
 refine loopF [0,3] [] [7] ?_
 (conv=>whnf)
 refine LoopC.go ((Nat)) (fun k=>(k≤l.length)) (fun k=>[(4,.data (i64 k))]) (fun _=>[]) (fun k=>[(7,159,filled Link.av (.agg [i64 0,i64 0,.bool false,i64 0]) l k,0)]) (fun k=>l.length - k) (0) ?_ ?_
 ·exact Nat.zero_le _
 rintro k hk
 (repeat' ((conv=>whnf);first | with_reducible refine Idx.mk k (.agg [i64 0,i64 0,.bool false,i64 0]) rfl (filled_get (by omega)) ?_ | refine gA ?_ | (refine gB ?_ ?_ <;> intro h) | (refine gI ?_;intro x hx) | (refine gJ ?_;intro j x hj hx) | refine gV ?_ | refine gM ?_ | refine gC (laws_otoLink x) ?_ | intro _)) <;> try (conv=>whnf)
 ·refine nw (k+1) ?_ ?_
  ·(repeat' ((conv=>whnf) <;> (first | exact trivial | exact rfl | with_reducible refine And.intro ?_ ?_))) <;> ((conv=>whnf) <;> (exact filled_set hx rfl))
  exact (by omega:k+1≤l.length)
 ·refine⟨?_,rfl,trivial⟩
  dsimp only
  rw [filled_end (by omega)]
theorem laws_otoResource (x:Resrc):Con 111 [.old x.av] (.d x.av):=by
 refine con Tryz.func111 rfl rfl Tryz.call111 rfl fun hwf=>?_
 (repeat' ((conv=>whnf);first | refine gA ?_ | (refine gB ?_ ?_ <;> intro h) | refine gC (laws_otoStepS x.steps) ?_ | refine gC (laws_otoIntSS x.setup) ?_ | intro _)) <;> try (conv=>whnf)
 exact⟨rfl,rfl,trivial⟩
theorem laws_otoResourceS (l:List Resrc):Con 46 [.old (.sl (l.map Resrc.av))] (.d (.sl (l.map Resrc.av))):=by
 refine con Tryz.func46 rfl rfl Tryz.call46 rfl fun hwf=>?_
 simp only [ARs.wf,AR.wf,AV.wf,AV.wfs,List.length_map,lim] at hwf
 (repeat' ((conv=>whnf);first | refine gA ?_ | (refine gB ?_ ?_ <;> intro h) | (refine gI ?_;intro x hx) | (refine gJ ?_;intro j x hj hx) | refine gV ?_ | refine gM ?_ | intro _)) <;> try (conv=>whnf)
 refine loopF [0,3] [] [7] ?_
 (conv=>whnf)
 refine LoopC.go ((Nat)) (fun k=>(k≤l.length)) (fun k=>[(4,.data (i64 k))]) (fun _=>[]) (fun k=>[(7,149,filled Resrc.av (.agg [.sl [],.sl []]) l k,0)]) (fun k=>l.length - k) (0) ?_ ?_
 ·exact Nat.zero_le _
 rintro k hk
 (repeat' ((conv=>whnf);first | with_reducible refine Idx.mk k (.agg [.sl [],.sl []]) rfl (filled_get (by omega)) ?_ | refine gA ?_ | (refine gB ?_ ?_ <;> intro h) | (refine gI ?_;intro x hx) | (refine gJ ?_;intro j x hj hx) | refine gV ?_ | refine gM ?_ | refine gC (laws_otoResource x) ?_ | intro _)) <;> try (conv=>whnf)
 ·refine nw (k+1) ?_ ?_
  ·(repeat' ((conv=>whnf) <;> (first | exact trivial | exact rfl | with_reducible refine And.intro ?_ ?_))) <;> ((conv=>whnf) <;> (exact filled_set hx rfl))
  exact (by omega:k+1≤l.length)
 ·refine⟨?_,rfl,trivial⟩
  dsimp only
  rw [filled_end (by omega)]
theorem laws_otoProject (x:Proj):Con 10 [.old x.av] (.d x.av):=by
 refine con Tryz.func10 rfl rfl Tryz.call10 rfl fun hwf=>?_
 (repeat' ((conv=>whnf);first | refine gA ?_ | (refine gB ?_ ?_ <;> intro h) | refine gC (laws_otoActivityS x.acts) ?_ | refine gC (laws_otoLinkS x.links) ?_ | refine gC (laws_otoResourceS x.ress) ?_ | refine gC (laws_otoIntS x.stocks) ?_ | intro _)) <;> try (conv=>whnf)
 exact⟨rfl,rfl,trivial⟩
theorem laws_otoRule (x:Rul):Con 234 [.old x.av] (.d x.av):=by
 refine con Tryz.func234 rfl rfl Tryz.call234 rfl fun hwf=>?_
 (repeat' ((conv=>whnf);first | refine gA ?_ | (refine gB ?_ ?_ <;> intro h) | intro _)) <;> try (conv=>whnf)
 exact⟨rfl,rfl,trivial⟩
theorem laws_dtoRule (x:Rul):Con 234 [.d x.av] (.d x.av):=by
 refine con Tryz.func234 rfl rfl Tryz.call234 rfl fun hwf=>?_
 (repeat' ((conv=>whnf);first | refine gA ?_ | (refine gB ?_ ?_ <;> intro h) | intro _)) <;> try (conv=>whnf)
 exact⟨rfl,rfl,trivial⟩
theorem laws_otoLiteral (x:Lit):Con 22 [.old x.av] (.d x.av):=by
 refine con Tryz.func22 rfl rfl Tryz.call22 rfl fun hwf=>?_
 (repeat' ((conv=>whnf);first | refine gA ?_ | (refine gB ?_ ?_ <;> intro h) | intro _)) <;> try (conv=>whnf)
 exact⟨rfl,rfl,trivial⟩
theorem laws_otoLiteralS (l:List Lit):Con 72 [.old (.sl (l.map Lit.av))] (.d (.sl (l.map Lit.av))):=by
 refine con Tryz.func72 rfl rfl Tryz.call72 rfl fun hwf=>?_
 simp only [ARs.wf,AR.wf,AV.wf,AV.wfs,List.length_map,lim] at hwf
 (repeat' ((conv=>whnf);first | refine gA ?_ | (refine gB ?_ ?_ <;> intro h) | (refine gI ?_;intro x hx) | (refine gJ ?_;intro j x hj hx) | refine gV ?_ | refine gM ?_ | intro _)) <;> try (conv=>whnf)
 refine loopF [0,3] [] [7] ?_
 (conv=>whnf)
 refine LoopC.go ((Nat)) (fun k=>(k≤l.length)) (fun k=>[(4,.data (i64 k))]) (fun _=>[]) (fun k=>[(7,69,filled Lit.av (.agg [i64 0,i64 0,i64 0]) l k,0)]) (fun k=>l.length - k) (0) ?_ ?_
 ·exact Nat.zero_le _
 rintro k hk
 (repeat' ((conv=>whnf);first | with_reducible refine Idx.mk k (.agg [i64 0,i64 0,i64 0]) rfl (filled_get (by omega)) ?_ | refine gA ?_ | (refine gB ?_ ?_ <;> intro h) | (refine gI ?_;intro x hx) | (refine gJ ?_;intro j x hj hx) | refine gV ?_ | refine gM ?_ | refine gC (laws_otoLiteral x) ?_ | intro _)) <;> try (conv=>whnf)
 ·refine nw (k+1) ?_ ?_
  ·(repeat' ((conv=>whnf) <;> (first | exact trivial | exact rfl | with_reducible refine And.intro ?_ ?_))) <;> ((conv=>whnf) <;> (exact filled_set hx rfl))
  exact (by omega:k+1≤l.length)
 ·refine⟨?_,rfl,trivial⟩
  dsimp only
  rw [filled_end (by omega)]
theorem laws_otoDomain (x:Dom):Con 71 [.old x.av] (.d x.av):=by
 refine con Tryz.func71 rfl rfl Tryz.call71 rfl fun hwf=>?_
 (repeat' ((conv=>whnf);first | refine gA ?_ | (refine gB ?_ ?_ <;> intro h) | refine gC (laws_otoIntS x.lo) ?_ | refine gC (laws_otoIntS x.hi) ?_ | refine gC (laws_otoIntSS x.modes) ?_ | intro _)) <;> try (conv=>whnf)
 exact⟨rfl,rfl,trivial⟩
theorem laws_otoLine (x:Lin):Con 144 [.old x.av] (.d x.av):=by
 refine con Tryz.func144 rfl rfl Tryz.call144 rfl fun hwf=>?_
 (repeat' ((conv=>whnf);first | refine gA ?_ | (refine gB ?_ ?_ <;> intro h) | refine gC (laws_otoRule x.rule) ?_ | refine gC (laws_dtoRule x.rule) ?_ | refine gC (laws_otoLiteralS x.clause) ?_ | intro _)) <;> try (conv=>whnf)
 exact⟨rfl,rfl,trivial⟩
theorem laws_otoLineS (l:List Lin):Con 73 [.old (.sl (l.map Lin.av))] (.d (.sl (l.map Lin.av))):=by
 refine con Tryz.func73 rfl rfl Tryz.call73 rfl fun hwf=>?_
 simp only [ARs.wf,AR.wf,AV.wf,AV.wfs,List.length_map,lim] at hwf
 (repeat' ((conv=>whnf);first | refine gA ?_ | (refine gB ?_ ?_ <;> intro h) | (refine gI ?_;intro x hx) | (refine gJ ?_;intro j x hj hx) | refine gV ?_ | refine gM ?_ | intro _)) <;> try (conv=>whnf)
 refine loopF [0,3] [] [7] ?_
 (conv=>whnf)
 refine LoopC.go ((Nat)) (fun k=>(k≤l.length)) (fun k=>[(4,.data (i64 k))]) (fun _=>[]) (fun k=>[(7,189,filled Lin.av (.agg [i64 0,i64 0,i64 0,i64 0,i64 0,.sl []]) l k,0)]) (fun k=>l.length - k) (0) ?_ ?_
 ·exact Nat.zero_le _
 rintro k hk
 (repeat' ((conv=>whnf);first | with_reducible refine Idx.mk k (.agg [i64 0,i64 0,i64 0,i64 0,i64 0,.sl []]) rfl (filled_get (by omega)) ?_ | refine gA ?_ | (refine gB ?_ ?_ <;> intro h) | (refine gI ?_;intro x hx) | (refine gJ ?_;intro j x hj hx) | refine gV ?_ | refine gM ?_ | refine gC (laws_otoLine x) ?_ | intro _)) <;> try (conv=>whnf)
 ·refine nw (k+1) ?_ ?_
  ·(repeat' ((conv=>whnf) <;> (first | exact trivial | exact rfl | with_reducible refine And.intro ?_ ?_))) <;> ((conv=>whnf) <;> (exact filled_set hx rfl))
  exact (by omega:k+1≤l.length)
 ·refine⟨?_,rfl,trivial⟩
  dsimp only
  rw [filled_end (by omega)]
end Go.Proofs.YtfhojdalheinaaaGreat.Abs
