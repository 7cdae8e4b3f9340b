/- Contracts of the laws' own helpers. -/
import Derived.Test.YtglikcnmgnlejaaGreatC1
import Derived.Test.YtglikcnmgnlejaaGreatPlain
set_option linter.all false
set_option maxRecDepth 20000
set_option maxHeartbeats 0
namespace Go.Proofs.YtglikcnmgnlejaaGreat.Abs
open Go.Proofs
theorem oD (l:List Int):Con 46 [.d (.sl (l.map i64))] (.d (.sl (l.map i64))):=by
 refine con Tryz.func46 rfl rfl Tryz.call46 rfl fun hwf=>?_
 simp only [ARs.wf,AR.wf,AV.wf,AV.wfs,lm,lim] at hwf
 (repeat' ((conv=>whnf);first|refine gA ?_|(refine gB ?_ ?_<;>intro h)|(refine gI ?_;intro x hx)|(refine gJ ?_;intro j x hj hx)|refine gV ?_|refine gM ?_|intro _))<;>try (conv=>whnf)
 refine au [0,3] [] [7] ?_
 (conv=>whnf)
 refine ak.go ((Nat)) (fun k=>(k≤l.length)) (fun k=>[(4,.data (i64 k))]) (fun _=>[]) (fun k=>[(7,3,filled i64 (i64 0) l k,0)]) (fun k=>l.length - k) (0) ?_ ?_
 ·exact Nat.zero_le _
 rintro k hk
 (repeat' ((conv=>whnf);first|with_reducible refine Idx.mk k (i64 0) rfl (dG (by omega)) ?_|refine gA ?_|(refine gB ?_ ?_<;>intro h)|(refine gI ?_;intro x hx)|(refine gJ ?_;intro j x hj hx)|refine gV ?_|refine gM ?_|intro _))<;>try (conv=>whnf)
 ·refine nw (k+1) ?_ ?_
  ·(repeat' ((conv=>whnf)<;>(first|exact trivial|exact rfl|with_reducible refine And.intro ?_ ?_)))<;>((conv=>whnf)<;>(exact dH hx rfl))
  exact (by omega:k+1≤l.length)
 ·refine⟨?_,rfl,trivial⟩
  dsimp only
  rw [dI (by omega)]
theorem Fu (l:List (List Int)):Con 179 [.d (.sl (l.map ints))] (.d (.sl (l.map ints))):=by
 refine con Tryz.func179 rfl rfl Tryz.call179 rfl fun hwf=>?_
 simp only [ARs.wf,AR.wf,AV.wf,AV.wfs,lm,lim] at hwf
 (repeat' ((conv=>whnf);first|refine gA ?_|(refine gB ?_ ?_<;>intro h)|(refine gI ?_;intro x hx)|(refine gJ ?_;intro j x hj hx)|refine gV ?_|refine gM ?_|intro _))<;>try (conv=>whnf)
 refine au [0,3] [] [7] ?_
 (conv=>whnf)
 refine ak.go ((Nat)) (fun k=>(k≤l.length)) (fun k=>[(4,.data (i64 k))]) (fun _=>[]) (fun k=>[(7,25,filled ints (.sl []) l k,0)]) (fun k=>l.length - k) (0) ?_ ?_
 ·exact Nat.zero_le _
 rintro k hk
 (repeat' ((conv=>whnf);first|with_reducible refine Idx.mk k (.sl []) rfl (dG (by omega)) ?_|refine gA ?_|(refine gB ?_ ?_<;>intro h)|(refine gI ?_;intro x hx)|(refine gJ ?_;intro j x hj hx)|refine gV ?_|refine gM ?_|refine gC (oD x) ?_|intro _))<;>try (conv=>whnf)
 ·refine nw (k+1) ?_ ?_
  ·(repeat' ((conv=>whnf)<;>(first|exact trivial|exact rfl|with_reducible refine And.intro ?_ ?_)))<;>((conv=>whnf)<;>(exact dH hx rfl))
  exact (by omega:k+1≤l.length)
 ·refine⟨?_,rfl,trivial⟩
  dsimp only
  rw [dI (by omega)]
theorem Ur (x:Step):Con 312 [.d x.av] (.d x.av):=by
 refine con Tryz.func312 rfl rfl Tryz.call312 rfl fun hwf=>?_
 (repeat' ((conv=>whnf);first|refine gA ?_|(refine gB ?_ ?_<;>intro h)|intro _))<;>try (conv=>whnf)
 exact⟨rfl,rfl,trivial⟩
theorem Rm (l:List Step):Con 220 [.d (.sl (l.map Step.av))] (.d (.sl (l.map Step.av))):=by
 refine con Tryz.func220 rfl rfl Tryz.call220 rfl fun hwf=>?_
 simp only [ARs.wf,AR.wf,AV.wf,AV.wfs,lm,lim] at hwf
 (repeat' ((conv=>whnf);first|refine gA ?_|(refine gB ?_ ?_<;>intro h)|(refine gI ?_;intro x hx)|(refine gJ ?_;intro j x hj hx)|refine gV ?_|refine gM ?_|intro _))<;>try (conv=>whnf)
 refine au [0,3] [] [7] ?_
 (conv=>whnf)
 refine ak.go ((Nat)) (fun k=>(k≤l.length)) (fun k=>[(4,.data (i64 k))]) (fun _=>[]) (fun k=>[(7,229,filled Step.av (.agg [i64 0,i64 0]) l k,0)]) (fun k=>l.length - k) (0) ?_ ?_
 ·exact Nat.zero_le _
 rintro k hk
 (repeat' ((conv=>whnf);first|with_reducible refine Idx.mk k (.agg [i64 0,i64 0]) rfl (dG (by omega)) ?_|refine gA ?_|(refine gB ?_ ?_<;>intro h)|(refine gI ?_;intro x hx)|(refine gJ ?_;intro j x hj hx)|refine gV ?_|refine gM ?_|refine gC (Ur x) ?_|intro _))<;>try (conv=>whnf)
 ·refine nw (k+1) ?_ ?_
  ·(repeat' ((conv=>whnf)<;>(first|exact trivial|exact rfl|with_reducible refine And.intro ?_ ?_)))<;>((conv=>whnf)<;>(exact dH hx rfl))
  exact (by omega:k+1≤l.length)
 ·refine⟨?_,rfl,trivial⟩
  dsimp only
  rw [dI (by omega)]
theorem Us (x:Mode):Con 311 [.d x.av] (.d x.av):=by
 refine con Tryz.func311 rfl rfl Tryz.call311 rfl fun hwf=>?_
 (repeat' ((conv=>whnf);first|refine gA ?_|(refine gB ?_ ?_<;>intro h)|refine gC (oD x.use) ?_|refine gC (oD x.con) ?_|intro _))<;>try (conv=>whnf)
 exact⟨rfl,rfl,trivial⟩
theorem Rn (l:List Mode):Con 219 [.d (.sl (l.map Mode.av))] (.d (.sl (l.map Mode.av))):=by
 refine con Tryz.func219 rfl rfl Tryz.call219 rfl fun hwf=>?_
 simp only [ARs.wf,AR.wf,AV.wf,AV.wfs,lm,lim] at hwf
 (repeat' ((conv=>whnf);first|refine gA ?_|(refine gB ?_ ?_<;>intro h)|(refine gI ?_;intro x hx)|(refine gJ ?_;intro j x hj hx)|refine gV ?_|refine gM ?_|intro _))<;>try (conv=>whnf)
 refine au [0,3] [] [7] ?_
 (conv=>whnf)
 refine ak.go ((Nat)) (fun k=>(k≤l.length)) (fun k=>[(4,.data (i64 k))]) (fun _=>[]) (fun k=>[(7,141,filled Mode.av (.agg [i64 0,.sl [],.sl []]) l k,0)]) (fun k=>l.length - k) (0) ?_ ?_
 ·exact Nat.zero_le _
 rintro k hk
 (repeat' ((conv=>whnf);first|with_reducible refine Idx.mk k (.agg [i64 0,.sl [],.sl []]) rfl (dG (by omega)) ?_|refine gA ?_|(refine gB ?_ ?_<;>intro h)|(refine gI ?_;intro x hx)|(refine gJ ?_;intro j x hj hx)|refine gV ?_|refine gM ?_|refine gC (Us x) ?_|intro _))<;>try (conv=>whnf)
 ·refine nw (k+1) ?_ ?_
  ·(repeat' ((conv=>whnf)<;>(first|exact trivial|exact rfl|with_reducible refine And.intro ?_ ?_)))<;>((conv=>whnf)<;>(exact dH hx rfl))
  exact (by omega:k+1≤l.length)
 ·refine⟨?_,rfl,trivial⟩
  dsimp only
  rw [dI (by omega)]
theorem Jr (x:aC):Con 114 [.d x.av] (.d x.av):=by
 refine con Tryz.func114 rfl rfl Tryz.call114 rfl fun hwf=>?_
 (repeat' ((conv=>whnf);first|refine gA ?_|(refine gB ?_ ?_<;>intro h)|refine gC (Rn x.modes) ?_|intro _))<;>try (conv=>whnf)
 exact⟨rfl,rfl,trivial⟩
theorem GY (l:List aC):Con 43 [.d (.sl (l.map aC.av))] (.d (.sl (l.map aC.av))):=by
 refine con Tryz.func43 rfl rfl Tryz.call43 rfl fun hwf=>?_
 simp only [ARs.wf,AR.wf,AV.wf,AV.wfs,lm,lim] at hwf
 (repeat' ((conv=>whnf);first|refine gA ?_|(refine gB ?_ ?_<;>intro h)|(refine gI ?_;intro x hx)|(refine gJ ?_;intro j x hj hx)|refine gV ?_|refine gM ?_|intro _))<;>try (conv=>whnf)
 refine au [0,3] [] [7] ?_
 (conv=>whnf)
 refine ak.go ((Nat)) (fun k=>(k≤l.length)) (fun k=>[(4,.data (i64 k))]) (fun _=>[]) (fun k=>[(7,139,filled aC.av (.agg [.str ⟨#[]⟩,i64 0,.sl []]) l k,0)]) (fun k=>l.length - k) (0) ?_ ?_
 ·exact Nat.zero_le _
 rintro k hk
 (repeat' ((conv=>whnf);first|with_reducible refine Idx.mk k (.agg [.str ⟨#[]⟩,i64 0,.sl []]) rfl (dG (by omega)) ?_|refine gA ?_|(refine gB ?_ ?_<;>intro h)|(refine gI ?_;intro x hx)|(refine gJ ?_;intro j x hj hx)|refine gV ?_|refine gM ?_|refine gC (Jr x) ?_|intro _))<;>try (conv=>whnf)
 ·refine nw (k+1) ?_ ?_
  ·(repeat' ((conv=>whnf)<;>(first|exact trivial|exact rfl|with_reducible refine And.intro ?_ ?_)))<;>((conv=>whnf)<;>(exact dH hx rfl))
  exact (by omega:k+1≤l.length)
 ·refine⟨?_,rfl,trivial⟩
  dsimp only
  rw [dI (by omega)]
theorem Ut (x:Link):Con 115 [.d x.av] (.d x.av):=by
 refine con Tryz.func115 rfl rfl Tryz.call115 rfl fun hwf=>?_
 (repeat' ((conv=>whnf);first|refine gA ?_|(refine gB ?_ ?_<;>intro h)|intro _))<;>try (conv=>whnf)
 exact⟨rfl,rfl,trivial⟩
theorem Ro (l:List Link):Con 44 [.d (.sl (l.map Link.av))] (.d (.sl (l.map Link.av))):=by
 refine con Tryz.func44 rfl rfl Tryz.call44 rfl fun hwf=>?_
 simp only [ARs.wf,AR.wf,AV.wf,AV.wfs,lm,lim] at hwf
 (repeat' ((conv=>whnf);first|refine gA ?_|(refine gB ?_ ?_<;>intro h)|(refine gI ?_;intro x hx)|(refine gJ ?_;intro j x hj hx)|refine gV ?_|refine gM ?_|intro _))<;>try (conv=>whnf)
 refine au [0,3] [] [7] ?_
 (conv=>whnf)
 refine ak.go ((Nat)) (fun k=>(k≤l.length)) (fun k=>[(4,.data (i64 k))]) (fun _=>[]) (fun k=>[(7,155,filled Link.av (.agg [i64 0,i64 0,.bool false,i64 0]) l k,0)]) (fun k=>l.length - k) (0) ?_ ?_
 ·exact Nat.zero_le _
 rintro k hk
 (repeat' ((conv=>whnf);first|with_reducible refine Idx.mk k (.agg [i64 0,i64 0,.bool false,i64 0]) rfl (dG (by omega)) ?_|refine gA ?_|(refine gB ?_ ?_<;>intro h)|(refine gI ?_;intro x hx)|(refine gJ ?_;intro j x hj hx)|refine gV ?_|refine gM ?_|refine gC (Ut x) ?_|intro _))<;>try (conv=>whnf)
 ·refine nw (k+1) ?_ ?_
  ·(repeat' ((conv=>whnf)<;>(first|exact trivial|exact rfl|with_reducible refine And.intro ?_ ?_)))<;>((conv=>whnf)<;>(exact dH hx rfl))
  exact (by omega:k+1≤l.length)
 ·refine⟨?_,rfl,trivial⟩
  dsimp only
  rw [dI (by omega)]
theorem Js (x:aL):Con 116 [.d x.av] (.d x.av):=by
 refine con Tryz.func116 rfl rfl Tryz.call116 rfl fun hwf=>?_
 (repeat' ((conv=>whnf);first|refine gA ?_|(refine gB ?_ ?_<;>intro h)|refine gC (Rm x.steps) ?_|refine gC (Fu x.setup) ?_|intro _))<;>try (conv=>whnf)
 exact⟨rfl,rfl,trivial⟩
theorem GZ (l:List aL):Con 45 [.d (.sl (l.map aL.av))] (.d (.sl (l.map aL.av))):=by
 refine con Tryz.func45 rfl rfl Tryz.call45 rfl fun hwf=>?_
 simp only [ARs.wf,AR.wf,AV.wf,AV.wfs,lm,lim] at hwf
 (repeat' ((conv=>whnf);first|refine gA ?_|(refine gB ?_ ?_<;>intro h)|(refine gI ?_;intro x hx)|(refine gJ ?_;intro j x hj hx)|refine gV ?_|refine gM ?_|intro _))<;>try (conv=>whnf)
 refine au [0,3] [] [7] ?_
 (conv=>whnf)
 refine ak.go ((Nat)) (fun k=>(k≤l.length)) (fun k=>[(4,.data (i64 k))]) (fun _=>[]) (fun k=>[(7,145,filled aL.av (.agg [.sl [],.sl []]) l k,0)]) (fun k=>l.length - k) (0) ?_ ?_
 ·exact Nat.zero_le _
 rintro k hk
 (repeat' ((conv=>whnf);first|with_reducible refine Idx.mk k (.agg [.sl [],.sl []]) rfl (dG (by omega)) ?_|refine gA ?_|(refine gB ?_ ?_<;>intro h)|(refine gI ?_;intro x hx)|(refine gJ ?_;intro j x hj hx)|refine gV ?_|refine gM ?_|refine gC (Js x) ?_|intro _))<;>try (conv=>whnf)
 ·refine nw (k+1) ?_ ?_
  ·(repeat' ((conv=>whnf)<;>(first|exact trivial|exact rfl|with_reducible refine And.intro ?_ ?_)))<;>((conv=>whnf)<;>(exact dH hx rfl))
  exact (by omega:k+1≤l.length)
 ·refine⟨?_,rfl,trivial⟩
  dsimp only
  rw [dI (by omega)]
theorem Mv (x:Proj):Con 10 [.d x.av] (.d x.av):=by
 refine con Tryz.func10 rfl rfl Tryz.call10 rfl fun hwf=>?_
 (repeat' ((conv=>whnf);first|refine gA ?_|(refine gB ?_ ?_<;>intro h)|refine gC (GY x.acts) ?_|refine gC (Ro x.links) ?_|refine gC (GZ x.aU) ?_|refine gC (oD x.aO) ?_|intro _))<;>try (conv=>whnf)
 exact⟨rfl,rfl,trivial⟩
theorem Uu (x:Rul):Con 276 [.d x.av] (.d x.av):=by
 refine con Tryz.func276 rfl rfl Tryz.call276 rfl fun hwf=>?_
 (repeat' ((conv=>whnf);first|refine gA ?_|(refine gB ?_ ?_<;>intro h)|intro _))<;>try (conv=>whnf)
 exact⟨rfl,rfl,trivial⟩
theorem Mw (x:Lit):Con 180 [.d x.av] (.d x.av):=by
 refine con Tryz.func180 rfl rfl Tryz.call180 rfl fun hwf=>?_
 (repeat' ((conv=>whnf);first|refine gA ?_|(refine gB ?_ ?_<;>intro h)|intro _))<;>try (conv=>whnf)
 exact⟨rfl,rfl,trivial⟩
theorem yU (l:List Lit):Con 84 [.d (.sl (l.map Lit.av))] (.d (.sl (l.map Lit.av))):=by
 refine con Tryz.func84 rfl rfl Tryz.call84 rfl fun hwf=>?_
 simp only [ARs.wf,AR.wf,AV.wf,AV.wfs,lm,lim] at hwf
 (repeat' ((conv=>whnf);first|refine gA ?_|(refine gB ?_ ?_<;>intro h)|(refine gI ?_;intro x hx)|(refine gJ ?_;intro j x hj hx)|refine gV ?_|refine gM ?_|intro _))<;>try (conv=>whnf)
 refine au [0,3] [] [7] ?_
 (conv=>whnf)
 refine ak.go ((Nat)) (fun k=>(k≤l.length)) (fun k=>[(4,.data (i64 k))]) (fun _=>[]) (fun k=>[(7,190,filled Lit.av (.agg [i64 0,i64 0,i64 0]) l k,0)]) (fun k=>l.length - k) (0) ?_ ?_
 ·exact Nat.zero_le _
 rintro k hk
 (repeat' ((conv=>whnf);first|with_reducible refine Idx.mk k (.agg [i64 0,i64 0,i64 0]) rfl (dG (by omega)) ?_|refine gA ?_|(refine gB ?_ ?_<;>intro h)|(refine gI ?_;intro x hx)|(refine gJ ?_;intro j x hj hx)|refine gV ?_|refine gM ?_|refine gC (Mw x) ?_|intro _))<;>try (conv=>whnf)
 ·refine nw (k+1) ?_ ?_
  ·(repeat' ((conv=>whnf)<;>(first|exact trivial|exact rfl|with_reducible refine And.intro ?_ ?_)))<;>((conv=>whnf)<;>(exact dH hx rfl))
  exact (by omega:k+1≤l.length)
 ·refine⟨?_,rfl,trivial⟩
  dsimp only
  rw [dI (by omega)]
theorem NJ (x:Dom):Con 83 [.d x.av] (.d x.av):=by
 refine con Tryz.func83 rfl rfl Tryz.call83 rfl fun hwf=>?_
 (repeat' ((conv=>whnf);first|refine gA ?_|(refine gB ?_ ?_<;>intro h)|refine gC (oD x.lo) ?_|refine gC (oD x.hi) ?_|refine gC (Fu x.modes) ?_|intro _))<;>try (conv=>whnf)
 exact⟨rfl,rfl,trivial⟩
theorem Uv (x:Lin):Con 181 [.d x.av] (.d x.av):=by
 refine con Tryz.func181 rfl rfl Tryz.call181 rfl fun hwf=>?_
 (repeat' ((conv=>whnf);first|refine gA ?_|(refine gB ?_ ?_<;>intro h)|refine gC (Uu x.rule) ?_|refine gC (yU x.clause) ?_|intro _))<;>try (conv=>whnf)
 exact⟨rfl,rfl,trivial⟩
theorem Rp (l:List Lin):Con 85 [.d (.sl (l.map Lin.av))] (.d (.sl (l.map Lin.av))):=by
 refine con Tryz.func85 rfl rfl Tryz.call85 rfl fun hwf=>?_
 simp only [ARs.wf,AR.wf,AV.wf,AV.wfs,lm,lim] at hwf
 (repeat' ((conv=>whnf);first|refine gA ?_|(refine gB ?_ ?_<;>intro h)|(refine gI ?_;intro x hx)|(refine gJ ?_;intro j x hj hx)|refine gV ?_|refine gM ?_|intro _))<;>try (conv=>whnf)
 refine au [0,3] [] [7] ?_
 (conv=>whnf)
 refine ak.go ((Nat)) (fun k=>(k≤l.length)) (fun k=>[(4,.data (i64 k))]) (fun _=>[]) (fun k=>[(7,212,filled Lin.av (.agg [i64 0,i64 0,i64 0,i64 0,i64 0,.sl []]) l k,0)]) (fun k=>l.length - k) (0) ?_ ?_
 ·exact Nat.zero_le _
 rintro k hk
 (repeat' ((conv=>whnf);first|with_reducible refine Idx.mk k (.agg [i64 0,i64 0,i64 0,i64 0,i64 0,.sl []]) rfl (dG (by omega)) ?_|refine gA ?_|(refine gB ?_ ?_<;>intro h)|(refine gI ?_;intro x hx)|(refine gJ ?_;intro j x hj hx)|refine gV ?_|refine gM ?_|refine gC (Uv x) ?_|intro _))<;>try (conv=>whnf)
 ·refine nw (k+1) ?_ ?_
  ·(repeat' ((conv=>whnf)<;>(first|exact trivial|exact rfl|with_reducible refine And.intro ?_ ?_)))<;>((conv=>whnf)<;>(exact dH hx rfl))
  exact (by omega:k+1≤l.length)
 ·refine⟨?_,rfl,trivial⟩
  dsimp only
  rw [dI (by omega)]
end Go.Proofs.YtglikcnmgnlejaaGreat.Abs
namespace Go.Proofs.YtglikcnmgnlejaaGreat.Abs
open Go.Proofs
theorem oF (l:List Int):Con 56 [.d (.sl (l.map i64)),.d (.sl (l.map i64))] (.d (.bool true)):=by
 refine con Tryz.func56 rfl rfl Tryz.call56 rfl fun hwf=>?_
 simp only [ARs.wf,AR.wf,AV.wf,AV.wfs,lm,lim] at hwf
 (repeat' ((conv=>whnf);first|(with_reducible refine Br.yes (decide_eq_true rfl) ?_)|(with_reducible refine Br.yes (beq_self_eq_true _) ?_)|refine gA ?_|(refine gB ?_ ?_<;>intro h)|(refine gI ?_;intro x hx)|(refine gJ ?_;intro j x hj hx)|refine gV ?_|intro _))<;>try (conv=>whnf)
 refine au [0,1] [] [] ?_
 (conv=>whnf)
 refine ak.go ((Nat)) (fun k=>(k≤l.length)) (fun k=>[(5,.data (i64 k))]) (fun _=>[]) (fun _=>[]) (fun k=>l.length - k) (0) ?_ ?_
 ·exact Nat.zero_le _
 rintro k hk
 by_cases hlt:k < l.length
 ·obtain⟨x,hx⟩:∃x,l[k]? =some x:=⟨l[k]'hlt,by simp⟩
  (repeat' ((conv=>whnf);first|with_reducible refine Idx.got hx rfl ?_|(with_reducible refine Br.yes (decide_eq_true rfl) ?_)|(with_reducible refine Br.yes (beq_self_eq_true _) ?_)|refine gA ?_|(refine gB ?_ ?_<;>intro h)|(refine gI ?_;intro x hx)|(refine gJ ?_;intro j x hj hx)|refine gV ?_|intro _))<;>try (conv=>whnf)
  all_goals first
   |(exfalso;omega)
   |(refine nx (k+1) ?_
     exact (by omega:k+1≤l.length))
 ·(repeat' ((conv=>whnf);first|(exfalso;omega)|refine gA ?_|(refine gB ?_ ?_<;>intro h)|(refine gI ?_;intro x hx)|(refine gJ ?_;intro j x hj hx)|refine gV ?_|intro _))<;>try (conv=>whnf)
  exact⟨rfl,rfl,trivial⟩
theorem Fv (l:List (List Int)):Con 196 [.d (.sl (l.map ints)),.d (.sl (l.map ints))] (.d (.bool true)):=by
 refine con Tryz.func196 rfl rfl Tryz.call196 rfl fun hwf=>?_
 simp only [ARs.wf,AR.wf,AV.wf,AV.wfs,lm,lim] at hwf
 (repeat' ((conv=>whnf);first|(with_reducible refine Br.yes (decide_eq_true rfl) ?_)|(with_reducible refine Br.yes (beq_self_eq_true _) ?_)|refine gA ?_|(refine gB ?_ ?_<;>intro h)|(refine gI ?_;intro x hx)|(refine gJ ?_;intro j x hj hx)|refine gV ?_|intro _))<;>try (conv=>whnf)
 refine au [0,1] [] [] ?_
 (conv=>whnf)
 refine ak.go ((Nat)) (fun k=>(k≤l.length)) (fun k=>[(5,.data (i64 k))]) (fun _=>[]) (fun _=>[]) (fun k=>l.length - k) (0) ?_ ?_
 ·exact Nat.zero_le _
 rintro k hk
 by_cases hlt:k < l.length
 ·obtain⟨x,hx⟩:∃x,l[k]? =some x:=⟨l[k]'hlt,by simp⟩
  (repeat' ((conv=>whnf);first|with_reducible refine Idx.got hx rfl ?_|(with_reducible refine Br.yes (decide_eq_true rfl) ?_)|(with_reducible refine Br.yes (beq_self_eq_true _) ?_)|refine gA ?_|(refine gB ?_ ?_<;>intro h)|(refine gI ?_;intro x hx)|(refine gJ ?_;intro j x hj hx)|refine gV ?_|refine gC (oF x) ?_|intro _))<;>try (conv=>whnf)
  all_goals first
   |(exfalso;omega)
   |(refine nx (k+1) ?_
     exact (by omega:k+1≤l.length))
 ·(repeat' ((conv=>whnf);first|(exfalso;omega)|refine gA ?_|(refine gB ?_ ?_<;>intro h)|(refine gI ?_;intro x hx)|(refine gJ ?_;intro j x hj hx)|refine gV ?_|intro _))<;>try (conv=>whnf)
  exact⟨rfl,rfl,trivial⟩
theorem Uw (x:Step):Con 332 [.d x.av,.d x.av] (.d (.bool true)):=by
 refine con Tryz.func332 rfl rfl Tryz.call332 rfl fun hwf=>?_
 (repeat' ((conv=>whnf);first|(with_reducible refine Br.yes (decide_eq_true rfl) ?_)|(with_reducible refine Br.yes (beq_self_eq_true _) ?_)|refine gA ?_|(refine gB ?_ ?_<;>intro h)|intro _))<;>try (conv=>whnf)
 all_goals exact⟨rfl,rfl,trivial⟩
theorem Rq (l:List Step):Con 241 [.d (.sl (l.map Step.av)),.d (.sl (l.map Step.av))] (.d (.bool true)):=by
 refine con Tryz.func241 rfl rfl Tryz.call241 rfl fun hwf=>?_
 simp only [ARs.wf,AR.wf,AV.wf,AV.wfs,lm,lim] at hwf
 (repeat' ((conv=>whnf);first|(with_reducible refine Br.yes (decide_eq_true rfl) ?_)|(with_reducible refine Br.yes (beq_self_eq_true _) ?_)|refine gA ?_|(refine gB ?_ ?_<;>intro h)|(refine gI ?_;intro x hx)|(refine gJ ?_;intro j x hj hx)|refine gV ?_|intro _))<;>try (conv=>whnf)
 refine au [0,1] [] [] ?_
 (conv=>whnf)
 refine ak.go ((Nat)) (fun k=>(k≤l.length)) (fun k=>[(5,.data (i64 k))]) (fun _=>[]) (fun _=>[]) (fun k=>l.length - k) (0) ?_ ?_
 ·exact Nat.zero_le _
 rintro k hk
 by_cases hlt:k < l.length
 ·obtain⟨x,hx⟩:∃x,l[k]? =some x:=⟨l[k]'hlt,by simp⟩
  (repeat' ((conv=>whnf);first|with_reducible refine Idx.got hx rfl ?_|(with_reducible refine Br.yes (decide_eq_true rfl) ?_)|(with_reducible refine Br.yes (beq_self_eq_true _) ?_)|refine gA ?_|(refine gB ?_ ?_<;>intro h)|(refine gI ?_;intro x hx)|(refine gJ ?_;intro j x hj hx)|refine gV ?_|refine gC (Uw x) ?_|intro _))<;>try (conv=>whnf)
  all_goals first
   |(exfalso;omega)
   |(refine nx (k+1) ?_
     exact (by omega:k+1≤l.length))
 ·(repeat' ((conv=>whnf);first|(exfalso;omega)|refine gA ?_|(refine gB ?_ ?_<;>intro h)|(refine gI ?_;intro x hx)|(refine gJ ?_;intro j x hj hx)|refine gV ?_|intro _))<;>try (conv=>whnf)
  exact⟨rfl,rfl,trivial⟩
theorem Ux (x:Mode):Con 331 [.d x.av,.d x.av] (.d (.bool true)):=by
 refine con Tryz.func331 rfl rfl Tryz.call331 rfl fun hwf=>?_
 (repeat' ((conv=>whnf);first|(with_reducible refine Br.yes (decide_eq_true rfl) ?_)|(with_reducible refine Br.yes (beq_self_eq_true _) ?_)|refine gA ?_|(refine gB ?_ ?_<;>intro h)|refine gC (oF x.use) ?_|refine gC (oF x.con) ?_|intro _))<;>try (conv=>whnf)
 all_goals exact⟨rfl,rfl,trivial⟩
theorem Rs (l:List Mode):Con 240 [.d (.sl (l.map Mode.av)),.d (.sl (l.map Mode.av))] (.d (.bool true)):=by
 refine con Tryz.func240 rfl rfl Tryz.call240 rfl fun hwf=>?_
 simp only [ARs.wf,AR.wf,AV.wf,AV.wfs,lm,lim] at hwf
 (repeat' ((conv=>whnf);first|(with_reducible refine Br.yes (decide_eq_true rfl) ?_)|(with_reducible refine Br.yes (beq_self_eq_true _) ?_)|refine gA ?_|(refine gB ?_ ?_<;>intro h)|(refine gI ?_;intro x hx)|(refine gJ ?_;intro j x hj hx)|refine gV ?_|intro _))<;>try (conv=>whnf)
 refine au [0,1] [] [] ?_
 (conv=>whnf)
 refine ak.go ((Nat)) (fun k=>(k≤l.length)) (fun k=>[(5,.data (i64 k))]) (fun _=>[]) (fun _=>[]) (fun k=>l.length - k) (0) ?_ ?_
 ·exact Nat.zero_le _
 rintro k hk
 by_cases hlt:k < l.length
 ·obtain⟨x,hx⟩:∃x,l[k]? =some x:=⟨l[k]'hlt,by simp⟩
  (repeat' ((conv=>whnf);first|with_reducible refine Idx.got hx rfl ?_|(with_reducible refine Br.yes (decide_eq_true rfl) ?_)|(with_reducible refine Br.yes (beq_self_eq_true _) ?_)|refine gA ?_|(refine gB ?_ ?_<;>intro h)|(refine gI ?_;intro x hx)|(refine gJ ?_;intro j x hj hx)|refine gV ?_|refine gC (Ux x) ?_|intro _))<;>try (conv=>whnf)
  all_goals first
   |(exfalso;omega)
   |(refine nx (k+1) ?_
     exact (by omega:k+1≤l.length))
 ·(repeat' ((conv=>whnf);first|(exfalso;omega)|refine gA ?_|(refine gB ?_ ?_<;>intro h)|(refine gI ?_;intro x hx)|(refine gJ ?_;intro j x hj hx)|refine gV ?_|intro _))<;>try (conv=>whnf)
  exact⟨rfl,rfl,trivial⟩
theorem Jt (x:aC):Con 131 [.d x.av,.d x.av] (.d (.bool true)):=by
 refine con Tryz.func131 rfl rfl Tryz.call131 rfl fun hwf=>?_
 (repeat' ((conv=>whnf);first|(with_reducible refine Br.yes (decide_eq_true rfl) ?_)|(with_reducible refine Br.yes (beq_self_eq_true _) ?_)|refine gA ?_|(refine gB ?_ ?_<;>intro h)|refine gC (Rs x.modes) ?_|intro _))<;>try (conv=>whnf)
 all_goals exact⟨rfl,rfl,trivial⟩
theorem He (l:List aC):Con 57 [.d (.sl (l.map aC.av)),.d (.sl (l.map aC.av))] (.d (.bool true)):=by
 refine con Tryz.func57 rfl rfl Tryz.call57 rfl fun hwf=>?_
 simp only [ARs.wf,AR.wf,AV.wf,AV.wfs,lm,lim] at hwf
 (repeat' ((conv=>whnf);first|(with_reducible refine Br.yes (decide_eq_true rfl) ?_)|(with_reducible refine Br.yes (beq_self_eq_true _) ?_)|refine gA ?_|(refine gB ?_ ?_<;>intro h)|(refine gI ?_;intro x hx)|(refine gJ ?_;intro j x hj hx)|refine gV ?_|intro _))<;>try (conv=>whnf)
 refine au [0,1] [] [] ?_
 (conv=>whnf)
 refine ak.go ((Nat)) (fun k=>(k≤l.length)) (fun k=>[(5,.data (i64 k))]) (fun _=>[]) (fun _=>[]) (fun k=>l.length - k) (0) ?_ ?_
 ·exact Nat.zero_le _
 rintro k hk
 by_cases hlt:k < l.length
 ·obtain⟨x,hx⟩:∃x,l[k]? =some x:=⟨l[k]'hlt,by simp⟩
  (repeat' ((conv=>whnf);first|with_reducible refine Idx.got hx rfl ?_|(with_reducible refine Br.yes (decide_eq_true rfl) ?_)|(with_reducible refine Br.yes (beq_self_eq_true _) ?_)|refine gA ?_|(refine gB ?_ ?_<;>intro h)|(refine gI ?_;intro x hx)|(refine gJ ?_;intro j x hj hx)|refine gV ?_|refine gC (Jt x) ?_|intro _))<;>try (conv=>whnf)
  all_goals first
   |(exfalso;omega)
   |(refine nx (k+1) ?_
     exact (by omega:k+1≤l.length))
 ·(repeat' ((conv=>whnf);first|(exfalso;omega)|refine gA ?_|(refine gB ?_ ?_<;>intro h)|(refine gI ?_;intro x hx)|(refine gJ ?_;intro j x hj hx)|refine gV ?_|intro _))<;>try (conv=>whnf)
  exact⟨rfl,rfl,trivial⟩
theorem Uy (x:Link):Con 132 [.d x.av,.d x.av] (.d (.bool true)):=by
 refine con Tryz.func132 rfl rfl Tryz.call132 rfl fun hwf=>?_
 (repeat' ((conv=>whnf);first|(with_reducible refine Br.yes (decide_eq_true rfl) ?_)|(with_reducible refine Br.yes (beq_self_eq_true _) ?_)|refine gA ?_|(refine gB ?_ ?_<;>intro h)|intro _))<;>try (conv=>whnf)
 all_goals exact⟨rfl,rfl,trivial⟩
theorem Rt (l:List Link):Con 58 [.d (.sl (l.map Link.av)),.d (.sl (l.map Link.av))] (.d (.bool true)):=by
 refine con Tryz.func58 rfl rfl Tryz.call58 rfl fun hwf=>?_
 simp only [ARs.wf,AR.wf,AV.wf,AV.wfs,lm,lim] at hwf
 (repeat' ((conv=>whnf);first|(with_reducible refine Br.yes (decide_eq_true rfl) ?_)|(with_reducible refine Br.yes (beq_self_eq_true _) ?_)|refine gA ?_|(refine gB ?_ ?_<;>intro h)|(refine gI ?_;intro x hx)|(refine gJ ?_;intro j x hj hx)|refine gV ?_|intro _))<;>try (conv=>whnf)
 refine au [0,1] [] [] ?_
 (conv=>whnf)
 refine ak.go ((Nat)) (fun k=>(k≤l.length)) (fun k=>[(5,.data (i64 k))]) (fun _=>[]) (fun _=>[]) (fun k=>l.length - k) (0) ?_ ?_
 ·exact Nat.zero_le _
 rintro k hk
 by_cases hlt:k < l.length
 ·obtain⟨x,hx⟩:∃x,l[k]? =some x:=⟨l[k]'hlt,by simp⟩
  (repeat' ((conv=>whnf);first|with_reducible refine Idx.got hx rfl ?_|(with_reducible refine Br.yes (decide_eq_true rfl) ?_)|(with_reducible refine Br.yes (beq_self_eq_true _) ?_)|refine gA ?_|(refine gB ?_ ?_<;>intro h)|(refine gI ?_;intro x hx)|(refine gJ ?_;intro j x hj hx)|refine gV ?_|refine gC (Uy x) ?_|intro _))<;>try (conv=>whnf)
  all_goals first
   |(exfalso;omega)
   |(refine nx (k+1) ?_
     exact (by omega:k+1≤l.length))
 ·(repeat' ((conv=>whnf);first|(exfalso;omega)|refine gA ?_|(refine gB ?_ ?_<;>intro h)|(refine gI ?_;intro x hx)|(refine gJ ?_;intro j x hj hx)|refine gV ?_|intro _))<;>try (conv=>whnf)
  exact⟨rfl,rfl,trivial⟩
theorem Ju (x:aL):Con 133 [.d x.av,.d x.av] (.d (.bool true)):=by
 refine con Tryz.func133 rfl rfl Tryz.call133 rfl fun hwf=>?_
 (repeat' ((conv=>whnf);first|(with_reducible refine Br.yes (decide_eq_true rfl) ?_)|(with_reducible refine Br.yes (beq_self_eq_true _) ?_)|refine gA ?_|(refine gB ?_ ?_<;>intro h)|refine gC (Rq x.steps) ?_|refine gC (Fv x.setup) ?_|intro _))<;>try (conv=>whnf)
 all_goals exact⟨rfl,rfl,trivial⟩
theorem Hf (l:List aL):Con 59 [.d (.sl (l.map aL.av)),.d (.sl (l.map aL.av))] (.d (.bool true)):=by
 refine con Tryz.func59 rfl rfl Tryz.call59 rfl fun hwf=>?_
 simp only [ARs.wf,AR.wf,AV.wf,AV.wfs,lm,lim] at hwf
 (repeat' ((conv=>whnf);first|(with_reducible refine Br.yes (decide_eq_true rfl) ?_)|(with_reducible refine Br.yes (beq_self_eq_true _) ?_)|refine gA ?_|(refine gB ?_ ?_<;>intro h)|(refine gI ?_;intro x hx)|(refine gJ ?_;intro j x hj hx)|refine gV ?_|intro _))<;>try (conv=>whnf)
 refine au [0,1] [] [] ?_
 (conv=>whnf)
 refine ak.go ((Nat)) (fun k=>(k≤l.length)) (fun k=>[(5,.data (i64 k))]) (fun _=>[]) (fun _=>[]) (fun k=>l.length - k) (0) ?_ ?_
 ·exact Nat.zero_le _
 rintro k hk
 by_cases hlt:k < l.length
 ·obtain⟨x,hx⟩:∃x,l[k]? =some x:=⟨l[k]'hlt,by simp⟩
  (repeat' ((conv=>whnf);first|with_reducible refine Idx.got hx rfl ?_|(with_reducible refine Br.yes (decide_eq_true rfl) ?_)|(with_reducible refine Br.yes (beq_self_eq_true _) ?_)|refine gA ?_|(refine gB ?_ ?_<;>intro h)|(refine gI ?_;intro x hx)|(refine gJ ?_;intro j x hj hx)|refine gV ?_|refine gC (Ju x) ?_|intro _))<;>try (conv=>whnf)
  all_goals first
   |(exfalso;omega)
   |(refine nx (k+1) ?_
     exact (by omega:k+1≤l.length))
 ·(repeat' ((conv=>whnf);first|(exfalso;omega)|refine gA ?_|(refine gB ?_ ?_<;>intro h)|(refine gI ?_;intro x hx)|(refine gJ ?_;intro j x hj hx)|refine gV ?_|intro _))<;>try (conv=>whnf)
  exact⟨rfl,rfl,trivial⟩
theorem Mx (x:Proj):Con 15 [.d x.av,.d x.av] (.d (.bool true)):=by
 refine con Tryz.func15 rfl rfl Tryz.call15 rfl fun hwf=>?_
 (repeat' ((conv=>whnf);first|(with_reducible refine Br.yes (decide_eq_true rfl) ?_)|(with_reducible refine Br.yes (beq_self_eq_true _) ?_)|refine gA ?_|(refine gB ?_ ?_<;>intro h)|refine gC (He x.acts) ?_|refine gC (Rt x.links) ?_|refine gC (Hf x.aU) ?_|refine gC (oF x.aO) ?_|intro _))<;>try (conv=>whnf)
 all_goals exact⟨rfl,rfl,trivial⟩
theorem Uz (x:Rul):Con 297 [.d x.av,.d x.av] (.d (.bool true)):=by
 refine con Tryz.func297 rfl rfl Tryz.call297 rfl fun hwf=>?_
 (repeat' ((conv=>whnf);first|(with_reducible refine Br.yes (decide_eq_true rfl) ?_)|(with_reducible refine Br.yes (beq_self_eq_true _) ?_)|refine gA ?_|(refine gB ?_ ?_<;>intro h)|intro _))<;>try (conv=>whnf)
 all_goals exact⟨rfl,rfl,trivial⟩
theorem MB (x:Lit):Con 197 [.d x.av,.d x.av] (.d (.bool true)):=by
 refine con Tryz.func197 rfl rfl Tryz.call197 rfl fun hwf=>?_
 (repeat' ((conv=>whnf);first|(with_reducible refine Br.yes (decide_eq_true rfl) ?_)|(with_reducible refine Br.yes (beq_self_eq_true _) ?_)|refine gA ?_|(refine gB ?_ ?_<;>intro h)|intro _))<;>try (conv=>whnf)
 all_goals exact⟨rfl,rfl,trivial⟩
theorem yV (l:List Lit):Con 91 [.d (.sl (l.map Lit.av)),.d (.sl (l.map Lit.av))] (.d (.bool true)):=by
 refine con Tryz.func91 rfl rfl Tryz.call91 rfl fun hwf=>?_
 simp only [ARs.wf,AR.wf,AV.wf,AV.wfs,lm,lim] at hwf
 (repeat' ((conv=>whnf);first|(with_reducible refine Br.yes (decide_eq_true rfl) ?_)|(with_reducible refine Br.yes (beq_self_eq_true _) ?_)|refine gA ?_|(refine gB ?_ ?_<;>intro h)|(refine gI ?_;intro x hx)|(refine gJ ?_;intro j x hj hx)|refine gV ?_|intro _))<;>try (conv=>whnf)
 refine au [0,1] [] [] ?_
 (conv=>whnf)
 refine ak.go ((Nat)) (fun k=>(k≤l.length)) (fun k=>[(5,.data (i64 k))]) (fun _=>[]) (fun _=>[]) (fun k=>l.length - k) (0) ?_ ?_
 ·exact Nat.zero_le _
 rintro k hk
 by_cases hlt:k < l.length
 ·obtain⟨x,hx⟩:∃x,l[k]? =some x:=⟨l[k]'hlt,by simp⟩
  (repeat' ((conv=>whnf);first|with_reducible refine Idx.got hx rfl ?_|(with_reducible refine Br.yes (decide_eq_true rfl) ?_)|(with_reducible refine Br.yes (beq_self_eq_true _) ?_)|refine gA ?_|(refine gB ?_ ?_<;>intro h)|(refine gI ?_;intro x hx)|(refine gJ ?_;intro j x hj hx)|refine gV ?_|refine gC (MB x) ?_|intro _))<;>try (conv=>whnf)
  all_goals first
   |(exfalso;omega)
   |(refine nx (k+1) ?_
     exact (by omega:k+1≤l.length))
 ·(repeat' ((conv=>whnf);first|(exfalso;omega)|refine gA ?_|(refine gB ?_ ?_<;>intro h)|(refine gI ?_;intro x hx)|(refine gJ ?_;intro j x hj hx)|refine gV ?_|intro _))<;>try (conv=>whnf)
  exact⟨rfl,rfl,trivial⟩
theorem NK (x:Dom):Con 90 [.d x.av,.d x.av] (.d (.bool true)):=by
 refine con Tryz.func90 rfl rfl Tryz.call90 rfl fun hwf=>?_
 (repeat' ((conv=>whnf);first|(with_reducible refine Br.yes (decide_eq_true rfl) ?_)|(with_reducible refine Br.yes (beq_self_eq_true _) ?_)|refine gA ?_|(refine gB ?_ ?_<;>intro h)|refine gC (oF x.lo) ?_|refine gC (oF x.hi) ?_|refine gC (Fv x.modes) ?_|intro _))<;>try (conv=>whnf)
 all_goals exact⟨rfl,rfl,trivial⟩
theorem UA (x:Lin):Con 198 [.d x.av,.d x.av] (.d (.bool true)):=by
 refine con Tryz.func198 rfl rfl Tryz.call198 rfl fun hwf=>?_
 (repeat' ((conv=>whnf);first|(with_reducible refine Br.yes (decide_eq_true rfl) ?_)|(with_reducible refine Br.yes (beq_self_eq_true _) ?_)|refine gA ?_|(refine gB ?_ ?_<;>intro h)|refine gC (Uz x.rule) ?_|refine gC (yV x.clause) ?_|intro _))<;>try (conv=>whnf)
 all_goals exact⟨rfl,rfl,trivial⟩
theorem Ru (l:List Lin):Con 92 [.d (.sl (l.map Lin.av)),.d (.sl (l.map Lin.av))] (.d (.bool true)):=by
 refine con Tryz.func92 rfl rfl Tryz.call92 rfl fun hwf=>?_
 simp only [ARs.wf,AR.wf,AV.wf,AV.wfs,lm,lim] at hwf
 (repeat' ((conv=>whnf);first|(with_reducible refine Br.yes (decide_eq_true rfl) ?_)|(with_reducible refine Br.yes (beq_self_eq_true _) ?_)|refine gA ?_|(refine gB ?_ ?_<;>intro h)|(refine gI ?_;intro x hx)|(refine gJ ?_;intro j x hj hx)|refine gV ?_|intro _))<;>try (conv=>whnf)
 refine au [0,1] [] [] ?_
 (conv=>whnf)
 refine ak.go ((Nat)) (fun k=>(k≤l.length)) (fun k=>[(5,.data (i64 k))]) (fun _=>[]) (fun _=>[]) (fun k=>l.length - k) (0) ?_ ?_
 ·exact Nat.zero_le _
 rintro k hk
 by_cases hlt:k < l.length
 ·obtain⟨x,hx⟩:∃x,l[k]? =some x:=⟨l[k]'hlt,by simp⟩
  (repeat' ((conv=>whnf);first|with_reducible refine Idx.got hx rfl ?_|(with_reducible refine Br.yes (decide_eq_true rfl) ?_)|(with_reducible refine Br.yes (beq_self_eq_true _) ?_)|refine gA ?_|(refine gB ?_ ?_<;>intro h)|(refine gI ?_;intro x hx)|(refine gJ ?_;intro j x hj hx)|refine gV ?_|refine gC (UA x) ?_|intro _))<;>try (conv=>whnf)
  all_goals first
   |(exfalso;omega)
   |(refine nx (k+1) ?_
     exact (by omega:k+1≤l.length))
 ·(repeat' ((conv=>whnf);first|(exfalso;omega)|refine gA ?_|(refine gB ?_ ?_<;>intro h)|(refine gI ?_;intro x hx)|(refine gJ ?_;intro j x hj hx)|refine gV ?_|intro _))<;>try (conv=>whnf)
  exact⟨rfl,rfl,trivial⟩
end Go.Proofs.YtglikcnmgnlejaaGreat.Abs
namespace Go.Proofs.YtglikcnmgnlejaaGreat.Abs
open Go.Proofs
theorem oG (l:List Int) (n:Int) (hn:Sz n):Con 33 [.d (.sl (l.map i64)),.d (i64 n)] (.d (i64 (szN l.length n))):=by
 refine con Tryz.func33 rfl rfl Tryz.call33 rfl fun hwf=>?_
 simp only [ARs.wf,AR.wf,AV.wf,AV.wfs,lm,lim] at hwf
 unfold Sz at hn
 (repeat' ((conv=>whnf);first|refine gA ?_|(refine gB ?_ ?_<;>intro h)|refine gV ?_|intro _))<;>try (conv=>whnf)
 all_goals refine⟨?_,rfl,trivial⟩
 all_goals (simp only [szN,List.length_map];first|(rw [if_pos (by omega)];done)|(rw [if_neg (by omega)];done))
theorem Fw (l:List (List Int)) (n:Int) (hn:Sz n):Con 166 [.d (.sl (l.map ints)),.d (i64 n)] (.d (i64 (szS (fun x n=>szN x.length n) l n))):=by
 refine con Tryz.func166 rfl rfl Tryz.call166 rfl fun hwf=>?_
 simp only [ARs.wf,AR.wf,AV.wf,AV.wfs,lm,lim] at hwf
 have hn':=hn
 unfold Sz at hn'
 (repeat' ((conv=>whnf);first|refine gA ?_|(refine gB ?_ ?_<;>intro h)|(refine gI ?_;intro x hx)|(refine gJ ?_;intro j x hj hx)|refine gV ?_|intro _))<;>try (conv=>whnf)
 rotate_left
 ·refine au [0] [] [] ?_
  (conv=>whnf)
  refine ak.go ((Nat)×(Int)) (fun⟨k,m⟩=>(k≤l.length)∧(Sz m∧0≤m)∧(szL (fun x n=>szN x.length n) (l.drop k) m=szS (fun x n=>szN x.length n) l n)) (fun⟨k,m⟩=>[(5,.data (i64 k)),(1,.data (i64 m))]) (fun _=>[]) (fun _=>[]) (fun⟨k,m⟩=>l.length - k) ⟨0,n - ((l.map ints).length:Int)⟩ ?_ ?_
  ·simp only [List.length_map]
   refine⟨by omega,by unfold Sz;omega,?_⟩
   rw [szS,szN,if_neg (by omega),szB,if_neg (by omega)];rfl
  rintro⟨k,m⟩ ⟨hk,hm,hi⟩
  have hm':=hm.1
  unfold Sz at hm'
  (repeat' ((conv=>whnf);first|refine gA ?_|(refine gB ?_ ?_<;>intro h)|(refine gI ?_;intro x hx)|(refine gJ ?_;intro j x hj hx)|refine gV ?_|refine gC (oG x m hm.1) ?_|intro _))<;>try (conv=>whnf)
  ·refine⟨?_,rfl,trivial⟩
   rw [ay hx,szL,szB,if_pos (by assumption)] at hi
   rw [← hi]
  ·apply Exists.intro (⟨k+1,_⟩)
   refine⟨?_,rfl,?_,?_⟩
   rotate_left
   ·(repeat' ((conv=>whnf)<;>(first|exact trivial|exact rfl|with_reducible refine And.intro ?_ ?_)))
   ·(try dsimp only);(try simp only [List.length_map]);omega
   rw [ay hx,szL,szB,if_neg (by assumption)] at hi
   exact⟨by omega,⟨iP hm.1,by omega⟩,hi⟩
  ·refine⟨?_,rfl,trivial⟩
   rw [← hi,aG (by assumption)];rfl
 ·refine⟨?_,rfl,trivial⟩
  rw [szS,szN,if_pos (by omega)];rfl
theorem Rv (l:List Step) (n:Int) (hn:Sz n):Con 204 [.d (.sl (l.map Step.av)),.d (i64 n)] (.d (i64 (szN l.length n))):=by
 refine con Tryz.func204 rfl rfl Tryz.call204 rfl fun hwf=>?_
 simp only [ARs.wf,AR.wf,AV.wf,AV.wfs,lm,lim] at hwf
 unfold Sz at hn
 (repeat' ((conv=>whnf);first|refine gA ?_|(refine gB ?_ ?_<;>intro h)|refine gV ?_|intro _))<;>try (conv=>whnf)
 all_goals refine⟨?_,rfl,trivial⟩
 all_goals (simp only [szN,List.length_map];first|(rw [if_pos (by omega)];done)|(rw [if_neg (by omega)];done))
def qG (x:Mode) (n:Int):Int:=szB (szN x.use.length n) fun n=>szB (szN x.con.length n) fun n=>n
theorem Pp {x:Mode} {n:Int} (h:Sz n):Sz (qG x n):=by
 unfold qG
 refine ny (iP h) fun h=>?_
 refine ny (iP h) fun h=>?_
 exact h
theorem UC (x:Mode) (n:Int) (hn:Sz n):Con 300 [.d x.av,.d (i64 n)] (.d (i64 (qG x n))):=by
 refine con Tryz.func300 rfl rfl Tryz.call300 rfl fun hwf=>?_
 simp only [ARs.wf,AR.wf,AV.wf,AV.wfs,lm,lim] at hwf
 have h0:Sz (szN x.use.length n):=iP hn
 have h1:Sz (szN x.con.length (szN x.use.length n)):=iP h0
 (repeat' ((conv=>whnf);first|refine gA ?_|(refine gB ?_ ?_<;>intro h)|refine gC (oG x.use n hn) ?_|refine gC (oG x.con (szN x.use.length n) h0) ?_|intro _))<;>try (conv=>whnf)
 all_goals refine⟨?_,rfl,trivial⟩
 all_goals (unfold qG;simp only [szB, *,if_true,if_false,ite_true,ite_false])
theorem Rw (l:List Mode) (n:Int) (hn:Sz n):Con 203 [.d (.sl (l.map Mode.av)),.d (i64 n)] (.d (i64 (szS (fun x n=>qG x n) l n))):=by
 refine con Tryz.func203 rfl rfl Tryz.call203 rfl fun hwf=>?_
 simp only [ARs.wf,AR.wf,AV.wf,AV.wfs,lm,lim] at hwf
 have hn':=hn
 unfold Sz at hn'
 (repeat' ((conv=>whnf);first|refine gA ?_|(refine gB ?_ ?_<;>intro h)|(refine gI ?_;intro x hx)|(refine gJ ?_;intro j x hj hx)|refine gV ?_|intro _))<;>try (conv=>whnf)
 rotate_left
 ·refine au [0] [] [] ?_
  (conv=>whnf)
  refine ak.go ((Nat)×(Int)) (fun⟨k,m⟩=>(k≤l.length)∧(Sz m∧0≤m)∧(szL (fun x n=>qG x n) (l.drop k) m=szS (fun x n=>qG x n) l n)) (fun⟨k,m⟩=>[(5,.data (i64 k)),(1,.data (i64 m))]) (fun _=>[]) (fun _=>[]) (fun⟨k,m⟩=>l.length - k) ⟨0,n - ((l.map Mode.av).length:Int)⟩ ?_ ?_
  ·simp only [List.length_map]
   refine⟨by omega,by unfold Sz;omega,?_⟩
   rw [szS,szN,if_neg (by omega),szB,if_neg (by omega)];rfl
  rintro⟨k,m⟩ ⟨hk,hm,hi⟩
  have hm':=hm.1
  unfold Sz at hm'
  (repeat' ((conv=>whnf);first|refine gA ?_|(refine gB ?_ ?_<;>intro h)|(refine gI ?_;intro x hx)|(refine gJ ?_;intro j x hj hx)|refine gV ?_|refine gC (UC x m hm.1) ?_|intro _))<;>try (conv=>whnf)
  ·refine⟨?_,rfl,trivial⟩
   rw [ay hx,szL,szB,if_pos (by assumption)] at hi
   rw [← hi]
  ·apply Exists.intro (⟨k+1,_⟩)
   refine⟨?_,rfl,?_,?_⟩
   rotate_left
   ·(repeat' ((conv=>whnf)<;>(first|exact trivial|exact rfl|with_reducible refine And.intro ?_ ?_)))
   ·(try dsimp only);(try simp only [List.length_map]);omega
   rw [ay hx,szL,szB,if_neg (by assumption)] at hi
   exact⟨by omega,⟨Pp hm.1,by omega⟩,hi⟩
  ·refine⟨?_,rfl,trivial⟩
   rw [← hi,aG (by assumption)];rfl
 ·refine⟨?_,rfl,trivial⟩
  rw [szS,szN,if_pos (by omega)];rfl
def bT (x:aC) (n:Int):Int:=szB (szN x.name.size n) fun n=>szB (szS (fun x n=>qG x n) x.modes n) fun n=>n
theorem vU {x:aC} {n:Int} (h:Sz n):Sz (bT x n):=by
 unfold bT
 refine ny (iP h) fun h=>?_
 refine ny ((xJ fun h=>Pp h) h) fun h=>?_
 exact h
theorem Jv (x:aC) (n:Int) (hn:Sz n) (hf:x.name.size≤lim):Con 100 [.d x.av,.d (i64 n)] (.d (i64 (bT x n))):=by
 refine con Tryz.func100 rfl rfl Tryz.call100 rfl fun hwf=>?_
 simp only [ARs.wf,AR.wf,AV.wf,AV.wfs,lm,lim] at hwf
 have hn':=hn
 unfold Sz at hn'
 unfold lim at hf
 by_cases hneg:n - (x.name.size:Int) < 0
 ·(repeat' ((conv=>whnf);first|refine gA ?_|(refine gB ?_ ?_<;>intro h)|refine gV ?_|intro _))<;>try (conv=>whnf)
  ·refine⟨?_,rfl,trivial⟩
   rw [bT,szN,if_pos hneg];rfl
  ·exact absurd hneg (by assumption)
 ·have h0:Sz (n - (x.name.size:Int)):=by unfold Sz;omega
  (repeat' ((conv=>whnf);first|refine gA ?_|(refine gB ?_ ?_<;>intro h)|refine gV ?_|refine gC (Rw x.modes _ h0) ?_|intro _))<;>try (conv=>whnf)
  all_goals first
   |(exfalso;exact hneg (by assumption))
   |(refine⟨?_,rfl,trivial⟩;rw [bT,szN,if_neg hneg,szB,if_neg hneg,szB];first|(rw [if_pos (by assumption)];done)|(rw [if_neg (by assumption)];done))
theorem Hg (l:List aC) (n:Int) (hn:Sz n) (hf:∀x∈l,x.name.size≤lim):Con 30 [.d (.sl (l.map aC.av)),.d (i64 n)] (.d (i64 (szS (fun x n=>bT x n) l n))):=by
 refine con Tryz.func30 rfl rfl Tryz.call30 rfl fun hwf=>?_
 simp only [ARs.wf,AR.wf,AV.wf,AV.wfs,lm,lim] at hwf
 have hn':=hn
 unfold Sz at hn'
 (repeat' ((conv=>whnf);first|refine gA ?_|(refine gB ?_ ?_<;>intro h)|(refine gI ?_;intro x hx)|(refine gJ ?_;intro j x hj hx)|refine gV ?_|intro _))<;>try (conv=>whnf)
 rotate_left
 ·refine au [0] [] [] ?_
  (conv=>whnf)
  refine ak.go ((Nat)×(Int)) (fun⟨k,m⟩=>(k≤l.length)∧(Sz m∧0≤m)∧(szL (fun x n=>bT x n) (l.drop k) m=szS (fun x n=>bT x n) l n)) (fun⟨k,m⟩=>[(5,.data (i64 k)),(1,.data (i64 m))]) (fun _=>[]) (fun _=>[]) (fun⟨k,m⟩=>l.length - k) ⟨0,n - ((l.map aC.av).length:Int)⟩ ?_ ?_
  ·simp only [List.length_map]
   refine⟨by omega,by unfold Sz;omega,?_⟩
   rw [szS,szN,if_neg (by omega),szB,if_neg (by omega)];rfl
  rintro⟨k,m⟩ ⟨hk,hm,hi⟩
  have hm':=hm.1
  unfold Sz at hm'
  (repeat' ((conv=>whnf);first|refine gA ?_|(refine gB ?_ ?_<;>intro h)|(refine gI ?_;intro x hx)|(refine gJ ?_;intro j x hj hx)|refine gV ?_|refine gC (Jv x m hm.1 (hf x (List.mem_of_getElem? hx))) ?_|intro _))<;>try (conv=>whnf)
  ·refine⟨?_,rfl,trivial⟩
   rw [ay hx,szL,szB,if_pos (by assumption)] at hi
   rw [← hi]
  ·apply Exists.intro (⟨k+1,_⟩)
   refine⟨?_,rfl,?_,?_⟩
   rotate_left
   ·(repeat' ((conv=>whnf)<;>(first|exact trivial|exact rfl|with_reducible refine And.intro ?_ ?_)))
   ·(try dsimp only);(try simp only [List.length_map]);omega
   rw [ay hx,szL,szB,if_neg (by assumption)] at hi
   exact⟨by omega,⟨vU hm.1,by omega⟩,hi⟩
  ·refine⟨?_,rfl,trivial⟩
   rw [← hi,aG (by assumption)];rfl
 ·refine⟨?_,rfl,trivial⟩
  rw [szS,szN,if_pos (by omega)];rfl
theorem Rx (l:List Link) (n:Int) (hn:Sz n):Con 31 [.d (.sl (l.map Link.av)),.d (i64 n)] (.d (i64 (szN l.length n))):=by
 refine con Tryz.func31 rfl rfl Tryz.call31 rfl fun hwf=>?_
 simp only [ARs.wf,AR.wf,AV.wf,AV.wfs,lm,lim] at hwf
 unfold Sz at hn
 (repeat' ((conv=>whnf);first|refine gA ?_|(refine gB ?_ ?_<;>intro h)|refine gV ?_|intro _))<;>try (conv=>whnf)
 all_goals refine⟨?_,rfl,trivial⟩
 all_goals (simp only [szN,List.length_map];first|(rw [if_pos (by omega)];done)|(rw [if_neg (by omega)];done))
def eF (x:aL) (n:Int):Int:=szB (szN x.steps.length n) fun n=>szB (szS (fun x n=>szN x.length n) x.setup n) fun n=>n
theorem vV {x:aL} {n:Int} (h:Sz n):Sz (eF x n):=by
 unfold eF
 refine ny (iP h) fun h=>?_
 refine ny ((xJ fun h=>iP h) h) fun h=>?_
 exact h
theorem Jw (x:aL) (n:Int) (hn:Sz n):Con 101 [.d x.av,.d (i64 n)] (.d (i64 (eF x n))):=by
 refine con Tryz.func101 rfl rfl Tryz.call101 rfl fun hwf=>?_
 simp only [ARs.wf,AR.wf,AV.wf,AV.wfs,lm,lim] at hwf
 have h0:Sz (szN x.steps.length n):=iP hn
 have h1:Sz (szS (fun x n=>szN x.length n) x.setup (szN x.steps.length n)):=xJ (fun h=>iP h) h0
 (repeat' ((conv=>whnf);first|refine gA ?_|(refine gB ?_ ?_<;>intro h)|refine gC (Rv x.steps n hn) ?_|refine gC (Fw x.setup (szN x.steps.length n) h0) ?_|intro _))<;>try (conv=>whnf)
 all_goals refine⟨?_,rfl,trivial⟩
 all_goals (unfold eF;simp only [szB, *,if_true,if_false,ite_true,ite_false])
theorem Hl (l:List aL) (n:Int) (hn:Sz n):Con 32 [.d (.sl (l.map aL.av)),.d (i64 n)] (.d (i64 (szS (fun x n=>eF x n) l n))):=by
 refine con Tryz.func32 rfl rfl Tryz.call32 rfl fun hwf=>?_
 simp only [ARs.wf,AR.wf,AV.wf,AV.wfs,lm,lim] at hwf
 have hn':=hn
 unfold Sz at hn'
 (repeat' ((conv=>whnf);first|refine gA ?_|(refine gB ?_ ?_<;>intro h)|(refine gI ?_;intro x hx)|(refine gJ ?_;intro j x hj hx)|refine gV ?_|intro _))<;>try (conv=>whnf)
 rotate_left
 ·refine au [0] [] [] ?_
  (conv=>whnf)
  refine ak.go ((Nat)×(Int)) (fun⟨k,m⟩=>(k≤l.length)∧(Sz m∧0≤m)∧(szL (fun x n=>eF x n) (l.drop k) m=szS (fun x n=>eF x n) l n)) (fun⟨k,m⟩=>[(5,.data (i64 k)),(1,.data (i64 m))]) (fun _=>[]) (fun _=>[]) (fun⟨k,m⟩=>l.length - k) ⟨0,n - ((l.map aL.av).length:Int)⟩ ?_ ?_
  ·simp only [List.length_map]
   refine⟨by omega,by unfold Sz;omega,?_⟩
   rw [szS,szN,if_neg (by omega),szB,if_neg (by omega)];rfl
  rintro⟨k,m⟩ ⟨hk,hm,hi⟩
  have hm':=hm.1
  unfold Sz at hm'
  (repeat' ((conv=>whnf);first|refine gA ?_|(refine gB ?_ ?_<;>intro h)|(refine gI ?_;intro x hx)|(refine gJ ?_;intro j x hj hx)|refine gV ?_|refine gC (Jw x m hm.1) ?_|intro _))<;>try (conv=>whnf)
  ·refine⟨?_,rfl,trivial⟩
   rw [ay hx,szL,szB,if_pos (by assumption)] at hi
   rw [← hi]
  ·apply Exists.intro (⟨k+1,_⟩)
   refine⟨?_,rfl,?_,?_⟩
   rotate_left
   ·(repeat' ((conv=>whnf)<;>(first|exact trivial|exact rfl|with_reducible refine And.intro ?_ ?_)))
   ·(try dsimp only);(try simp only [List.length_map]);omega
   rw [ay hx,szL,szB,if_neg (by assumption)] at hi
   exact⟨by omega,⟨vV hm.1,by omega⟩,hi⟩
  ·refine⟨?_,rfl,trivial⟩
   rw [← hi,aG (by assumption)];rfl
 ·refine⟨?_,rfl,trivial⟩
  rw [szS,szN,if_pos (by omega)];rfl
def jC (x:Proj) (n:Int):Int:=szB (szS (fun x n=>bT x n) x.acts n) fun n=>szB (szN x.links.length n) fun n=>szB (szS (fun x n=>eF x n) x.aU n) fun n=>szB (szN x.aO.length n) fun n=>n
theorem Ry {x:Proj} {n:Int} (h:Sz n):Sz (jC x n):=by
 unfold jC
 refine ny ((xJ fun h=>vU h) h) fun h=>?_
 refine ny (iP h) fun h=>?_
 refine ny ((xJ fun h=>vV h) h) fun h=>?_
 refine ny (iP h) fun h=>?_
 exact h
theorem MC (x:Proj) (n:Int) (hn:Sz n) (hf:∀y∈x.acts,y.name.size≤lim):Con 7 [.d x.av,.d (i64 n)] (.d (i64 (jC x n))):=by
 refine con Tryz.func7 rfl rfl Tryz.call7 rfl fun hwf=>?_
 simp only [ARs.wf,AR.wf,AV.wf,AV.wfs,lm,lim] at hwf
 have h0:Sz (szS (fun x n=>bT x n) x.acts n):=xJ (fun h=>vU h) hn
 have h1:Sz (szN x.links.length (szS (fun x n=>bT x n) x.acts n)):=iP h0
 have h2:Sz (szS (fun x n=>eF x n) x.aU (szN x.links.length (szS (fun x n=>bT x n) x.acts n))):=xJ (fun h=>vV h) h1
 have h3:Sz (szN x.aO.length (szS (fun x n=>eF x n) x.aU (szN x.links.length (szS (fun x n=>bT x n) x.acts n)))):=iP h2
 (repeat' ((conv=>whnf);first|refine gA ?_|(refine gB ?_ ?_<;>intro h)|refine gC (Hg x.acts n hn hf) ?_|refine gC (Rx x.links (szS (fun x n=>bT x n) x.acts n) h0) ?_|refine gC (Hl x.aU (szN x.links.length (szS (fun x n=>bT x n) x.acts n)) h1) ?_|refine gC (oG x.aO (szS (fun x n=>eF x n) x.aU (szN x.links.length (szS (fun x n=>bT x n) x.acts n))) h2) ?_|intro _))<;>try (conv=>whnf)
 all_goals refine⟨?_,rfl,trivial⟩
 all_goals (unfold jC;simp only [szB, *,if_true,if_false,ite_true,ite_false])
theorem yX (l:List Lit) (n:Int) (hn:Sz n):Con 77 [.d (.sl (l.map Lit.av)),.d (i64 n)] (.d (i64 (szN l.length n))):=by
 refine con Tryz.func77 rfl rfl Tryz.call77 rfl fun hwf=>?_
 simp only [ARs.wf,AR.wf,AV.wf,AV.wfs,lm,lim] at hwf
 unfold Sz at hn
 (repeat' ((conv=>whnf);first|refine gA ?_|(refine gB ?_ ?_<;>intro h)|refine gV ?_|intro _))<;>try (conv=>whnf)
 all_goals refine⟨?_,rfl,trivial⟩
 all_goals (simp only [szN,List.length_map];first|(rw [if_pos (by omega)];done)|(rw [if_neg (by omega)];done))
def mG (x:Dom) (n:Int):Int:=szB (szN x.lo.length n) fun n=>szB (szN x.hi.length n) fun n=>szB (szS (fun x n=>szN x.length n) x.modes n) fun n=>n
theorem UD {x:Dom} {n:Int} (h:Sz n):Sz (mG x n):=by
 unfold mG
 refine ny (iP h) fun h=>?_
 refine ny (iP h) fun h=>?_
 refine ny ((xJ fun h=>iP h) h) fun h=>?_
 exact h
theorem NM (x:Dom) (n:Int) (hn:Sz n):Con 76 [.d x.av,.d (i64 n)] (.d (i64 (mG x n))):=by
 refine con Tryz.func76 rfl rfl Tryz.call76 rfl fun hwf=>?_
 simp only [ARs.wf,AR.wf,AV.wf,AV.wfs,lm,lim] at hwf
 have h0:Sz (szN x.lo.length n):=iP hn
 have h1:Sz (szN x.hi.length (szN x.lo.length n)):=iP h0
 have h2:Sz (szS (fun x n=>szN x.length n) x.modes (szN x.hi.length (szN x.lo.length n))):=xJ (fun h=>iP h) h1
 (repeat' ((conv=>whnf);first|refine gA ?_|(refine gB ?_ ?_<;>intro h)|refine gC (oG x.lo n hn) ?_|refine gC (oG x.hi (szN x.lo.length n) h0) ?_|refine gC (Fw x.modes (szN x.hi.length (szN x.lo.length n)) h1) ?_|intro _))<;>try (conv=>whnf)
 all_goals refine⟨?_,rfl,trivial⟩
 all_goals (unfold mG;simp only [szB, *,if_true,if_false,ite_true,ite_false])
def qH (x:Lin) (n:Int):Int:=szB (szN x.clause.length n) fun n=>n
theorem Yy {x:Lin} {n:Int} (h:Sz n):Sz (qH x n):=by
 unfold qH
 refine ny (iP h) fun h=>?_
 exact h
theorem UE (x:Lin) (n:Int) (hn:Sz n):Con 167 [.d x.av,.d (i64 n)] (.d (i64 (qH x n))):=by
 refine con Tryz.func167 rfl rfl Tryz.call167 rfl fun hwf=>?_
 simp only [ARs.wf,AR.wf,AV.wf,AV.wfs,lm,lim] at hwf
 have h0:Sz (szN x.clause.length n):=iP hn
 (repeat' ((conv=>whnf);first|refine gA ?_|(refine gB ?_ ?_<;>intro h)|refine gC (yX x.clause n hn) ?_|intro _))<;>try (conv=>whnf)
 all_goals refine⟨?_,rfl,trivial⟩
 all_goals (unfold qH;simp only [szB, *,if_true,if_false,ite_true,ite_false])
theorem Rz (l:List Lin) (n:Int) (hn:Sz n):Con 78 [.d (.sl (l.map Lin.av)),.d (i64 n)] (.d (i64 (szS (fun x n=>qH x n) l n))):=by
 refine con Tryz.func78 rfl rfl Tryz.call78 rfl fun hwf=>?_
 simp only [ARs.wf,AR.wf,AV.wf,AV.wfs,lm,lim] at hwf
 have hn':=hn
 unfold Sz at hn'
 (repeat' ((conv=>whnf);first|refine gA ?_|(refine gB ?_ ?_<;>intro h)|(refine gI ?_;intro x hx)|(refine gJ ?_;intro j x hj hx)|refine gV ?_|intro _))<;>try (conv=>whnf)
 rotate_left
 ·refine au [0] [] [] ?_
  (conv=>whnf)
  refine ak.go ((Nat)×(Int)) (fun⟨k,m⟩=>(k≤l.length)∧(Sz m∧0≤m)∧(szL (fun x n=>qH x n) (l.drop k) m=szS (fun x n=>qH x n) l n)) (fun⟨k,m⟩=>[(5,.data (i64 k)),(1,.data (i64 m))]) (fun _=>[]) (fun _=>[]) (fun⟨k,m⟩=>l.length - k) ⟨0,n - ((l.map Lin.av).length:Int)⟩ ?_ ?_
  ·simp only [List.length_map]
   refine⟨by omega,by unfold Sz;omega,?_⟩
   rw [szS,szN,if_neg (by omega),szB,if_neg (by omega)];rfl
  rintro⟨k,m⟩ ⟨hk,hm,hi⟩
  have hm':=hm.1
  unfold Sz at hm'
  (repeat' ((conv=>whnf);first|refine gA ?_|(refine gB ?_ ?_<;>intro h)|(refine gI ?_;intro x hx)|(refine gJ ?_;intro j x hj hx)|refine gV ?_|refine gC (UE x m hm.1) ?_|intro _))<;>try (conv=>whnf)
  ·refine⟨?_,rfl,trivial⟩
   rw [ay hx,szL,szB,if_pos (by assumption)] at hi
   rw [← hi]
  ·apply Exists.intro (⟨k+1,_⟩)
   refine⟨?_,rfl,?_,?_⟩
   rotate_left
   ·(repeat' ((conv=>whnf)<;>(first|exact trivial|exact rfl|with_reducible refine And.intro ?_ ?_)))
   ·(try dsimp only);(try simp only [List.length_map]);omega
   rw [ay hx,szL,szB,if_neg (by assumption)] at hi
   exact⟨by omega,⟨Yy hm.1,by omega⟩,hi⟩
  ·refine⟨?_,rfl,trivial⟩
   rw [← hi,aG (by assumption)];rfl
 ·refine⟨?_,rfl,trivial⟩
  rw [szS,szN,if_pos (by omega)];rfl
end Go.Proofs.YtglikcnmgnlejaaGreat.Abs
namespace Go.Proofs.YtglikcnmgnlejaaGreat.Abs
open Go.Proofs
theorem ni (l:List Int):Con 46 [.old (.sl (l.map i64))] (.d (.sl (l.map i64))):=by
 refine con Tryz.func46 rfl rfl Tryz.call46 rfl fun hwf=>?_
 simp only [ARs.wf,AR.wf,AV.wf,AV.wfs,lm,lim] at hwf
 (repeat' ((conv=>whnf);first|refine gA ?_|(refine gB ?_ ?_<;>intro h)|(refine gI ?_;intro x hx)|(refine gJ ?_;intro j x hj hx)|refine gV ?_|refine gM ?_|intro _))<;>try (conv=>whnf)
 refine au [0,3] [] [7] ?_
 (conv=>whnf)
 refine ak.go ((Nat)) (fun k=>(k≤l.length)) (fun k=>[(4,.data (i64 k))]) (fun _=>[]) (fun k=>[(7,3,filled i64 (i64 0) l k,0)]) (fun k=>l.length - k) (0) ?_ ?_
 ·exact Nat.zero_le _
 rintro k hk
 (repeat' ((conv=>whnf);first|with_reducible refine Idx.mk k (i64 0) rfl (dG (by omega)) ?_|refine gA ?_|(refine gB ?_ ?_<;>intro h)|(refine gI ?_;intro x hx)|(refine gJ ?_;intro j x hj hx)|refine gV ?_|refine gM ?_|intro _))<;>try (conv=>whnf)
 ·refine nw (k+1) ?_ ?_
  ·(repeat' ((conv=>whnf)<;>(first|exact trivial|exact rfl|with_reducible refine And.intro ?_ ?_)))<;>((conv=>whnf)<;>(exact dH hx rfl))
  exact (by omega:k+1≤l.length)
 ·refine⟨?_,rfl,trivial⟩
  dsimp only
  rw [dI (by omega)]
theorem Cv (l:List (List Int)):Con 179 [.old (.sl (l.map ints))] (.d (.sl (l.map ints))):=by
 refine con Tryz.func179 rfl rfl Tryz.call179 rfl fun hwf=>?_
 simp only [ARs.wf,AR.wf,AV.wf,AV.wfs,lm,lim] at hwf
 (repeat' ((conv=>whnf);first|refine gA ?_|(refine gB ?_ ?_<;>intro h)|(refine gI ?_;intro x hx)|(refine gJ ?_;intro j x hj hx)|refine gV ?_|refine gM ?_|intro _))<;>try (conv=>whnf)
 refine au [0,3] [] [7] ?_
 (conv=>whnf)
 refine ak.go ((Nat)) (fun k=>(k≤l.length)) (fun k=>[(4,.data (i64 k))]) (fun _=>[]) (fun k=>[(7,25,filled ints (.sl []) l k,0)]) (fun k=>l.length - k) (0) ?_ ?_
 ·exact Nat.zero_le _
 rintro k hk
 (repeat' ((conv=>whnf);first|with_reducible refine Idx.mk k (.sl []) rfl (dG (by omega)) ?_|refine gA ?_|(refine gB ?_ ?_<;>intro h)|(refine gI ?_;intro x hx)|(refine gJ ?_;intro j x hj hx)|refine gV ?_|refine gM ?_|refine gC (ni x) ?_|intro _))<;>try (conv=>whnf)
 ·refine nw (k+1) ?_ ?_
  ·(repeat' ((conv=>whnf)<;>(first|exact trivial|exact rfl|with_reducible refine And.intro ?_ ?_)))<;>((conv=>whnf)<;>(exact dH hx rfl))
  exact (by omega:k+1≤l.length)
 ·refine⟨?_,rfl,trivial⟩
  dsimp only
  rw [dI (by omega)]
theorem RA (x:Step):Con 312 [.old x.av] (.d x.av):=by
 refine con Tryz.func312 rfl rfl Tryz.call312 rfl fun hwf=>?_
 (repeat' ((conv=>whnf);first|refine gA ?_|(refine gB ?_ ?_<;>intro h)|intro _))<;>try (conv=>whnf)
 exact⟨rfl,rfl,trivial⟩
theorem NP (l:List Step):Con 220 [.old (.sl (l.map Step.av))] (.d (.sl (l.map Step.av))):=by
 refine con Tryz.func220 rfl rfl Tryz.call220 rfl fun hwf=>?_
 simp only [ARs.wf,AR.wf,AV.wf,AV.wfs,lm,lim] at hwf
 (repeat' ((conv=>whnf);first|refine gA ?_|(refine gB ?_ ?_<;>intro h)|(refine gI ?_;intro x hx)|(refine gJ ?_;intro j x hj hx)|refine gV ?_|refine gM ?_|intro _))<;>try (conv=>whnf)
 refine au [0,3] [] [7] ?_
 (conv=>whnf)
 refine ak.go ((Nat)) (fun k=>(k≤l.length)) (fun k=>[(4,.data (i64 k))]) (fun _=>[]) (fun k=>[(7,229,filled Step.av (.agg [i64 0,i64 0]) l k,0)]) (fun k=>l.length - k) (0) ?_ ?_
 ·exact Nat.zero_le _
 rintro k hk
 (repeat' ((conv=>whnf);first|with_reducible refine Idx.mk k (.agg [i64 0,i64 0]) rfl (dG (by omega)) ?_|refine gA ?_|(refine gB ?_ ?_<;>intro h)|(refine gI ?_;intro x hx)|(refine gJ ?_;intro j x hj hx)|refine gV ?_|refine gM ?_|refine gC (RA x) ?_|intro _))<;>try (conv=>whnf)
 ·refine nw (k+1) ?_ ?_
  ·(repeat' ((conv=>whnf)<;>(first|exact trivial|exact rfl|with_reducible refine And.intro ?_ ?_)))<;>((conv=>whnf)<;>(exact dH hx rfl))
  exact (by omega:k+1≤l.length)
 ·refine⟨?_,rfl,trivial⟩
  dsimp only
  rw [dI (by omega)]
theorem RB (x:Mode):Con 311 [.old x.av] (.d x.av):=by
 refine con Tryz.func311 rfl rfl Tryz.call311 rfl fun hwf=>?_
 (repeat' ((conv=>whnf);first|refine gA ?_|(refine gB ?_ ?_<;>intro h)|refine gC (ni x.use) ?_|refine gC (ni x.con) ?_|intro _))<;>try (conv=>whnf)
 exact⟨rfl,rfl,trivial⟩
theorem NQ (l:List Mode):Con 219 [.old (.sl (l.map Mode.av))] (.d (.sl (l.map Mode.av))):=by
 refine con Tryz.func219 rfl rfl Tryz.call219 rfl fun hwf=>?_
 simp only [ARs.wf,AR.wf,AV.wf,AV.wfs,lm,lim] at hwf
 (repeat' ((conv=>whnf);first|refine gA ?_|(refine gB ?_ ?_<;>intro h)|(refine gI ?_;intro x hx)|(refine gJ ?_;intro j x hj hx)|refine gV ?_|refine gM ?_|intro _))<;>try (conv=>whnf)
 refine au [0,3] [] [7] ?_
 (conv=>whnf)
 refine ak.go ((Nat)) (fun k=>(k≤l.length)) (fun k=>[(4,.data (i64 k))]) (fun _=>[]) (fun k=>[(7,141,filled Mode.av (.agg [i64 0,.sl [],.sl []]) l k,0)]) (fun k=>l.length - k) (0) ?_ ?_
 ·exact Nat.zero_le _
 rintro k hk
 (repeat' ((conv=>whnf);first|with_reducible refine Idx.mk k (.agg [i64 0,.sl [],.sl []]) rfl (dG (by omega)) ?_|refine gA ?_|(refine gB ?_ ?_<;>intro h)|(refine gI ?_;intro x hx)|(refine gJ ?_;intro j x hj hx)|refine gV ?_|refine gM ?_|refine gC (RB x) ?_|intro _))<;>try (conv=>whnf)
 ·refine nw (k+1) ?_ ?_
  ·(repeat' ((conv=>whnf)<;>(first|exact trivial|exact rfl|with_reducible refine And.intro ?_ ?_)))<;>((conv=>whnf)<;>(exact dH hx rfl))
  exact (by omega:k+1≤l.length)
 ·refine⟨?_,rfl,trivial⟩
  dsimp only
  rw [dI (by omega)]
theorem Ho (x:aC):Con 114 [.old x.av] (.d x.av):=by
 refine con Tryz.func114 rfl rfl Tryz.call114 rfl fun hwf=>?_
 (repeat' ((conv=>whnf);first|refine gA ?_|(refine gB ?_ ?_<;>intro h)|refine gC (NQ x.modes) ?_|intro _))<;>try (conv=>whnf)
 exact⟨rfl,rfl,trivial⟩
theorem Fx (l:List aC):Con 43 [.old (.sl (l.map aC.av))] (.d (.sl (l.map aC.av))):=by
 refine con Tryz.func43 rfl rfl Tryz.call43 rfl fun hwf=>?_
 simp only [ARs.wf,AR.wf,AV.wf,AV.wfs,lm,lim] at hwf
 (repeat' ((conv=>whnf);first|refine gA ?_|(refine gB ?_ ?_<;>intro h)|(refine gI ?_;intro x hx)|(refine gJ ?_;intro j x hj hx)|refine gV ?_|refine gM ?_|intro _))<;>try (conv=>whnf)
 refine au [0,3] [] [7] ?_
 (conv=>whnf)
 refine ak.go ((Nat)) (fun k=>(k≤l.length)) (fun k=>[(4,.data (i64 k))]) (fun _=>[]) (fun k=>[(7,139,filled aC.av (.agg [.str ⟨#[]⟩,i64 0,.sl []]) l k,0)]) (fun k=>l.length - k) (0) ?_ ?_
 ·exact Nat.zero_le _
 rintro k hk
 (repeat' ((conv=>whnf);first|with_reducible refine Idx.mk k (.agg [.str ⟨#[]⟩,i64 0,.sl []]) rfl (dG (by omega)) ?_|refine gA ?_|(refine gB ?_ ?_<;>intro h)|(refine gI ?_;intro x hx)|(refine gJ ?_;intro j x hj hx)|refine gV ?_|refine gM ?_|refine gC (Ho x) ?_|intro _))<;>try (conv=>whnf)
 ·refine nw (k+1) ?_ ?_
  ·(repeat' ((conv=>whnf)<;>(first|exact trivial|exact rfl|with_reducible refine And.intro ?_ ?_)))<;>((conv=>whnf)<;>(exact dH hx rfl))
  exact (by omega:k+1≤l.length)
 ·refine⟨?_,rfl,trivial⟩
  dsimp only
  rw [dI (by omega)]
theorem RD (x:Link):Con 115 [.old x.av] (.d x.av):=by
 refine con Tryz.func115 rfl rfl Tryz.call115 rfl fun hwf=>?_
 (repeat' ((conv=>whnf);first|refine gA ?_|(refine gB ?_ ?_<;>intro h)|intro _))<;>try (conv=>whnf)
 exact⟨rfl,rfl,trivial⟩
theorem NR (l:List Link):Con 44 [.old (.sl (l.map Link.av))] (.d (.sl (l.map Link.av))):=by
 refine con Tryz.func44 rfl rfl Tryz.call44 rfl fun hwf=>?_
 simp only [ARs.wf,AR.wf,AV.wf,AV.wfs,lm,lim] at hwf
 (repeat' ((conv=>whnf);first|refine gA ?_|(refine gB ?_ ?_<;>intro h)|(refine gI ?_;intro x hx)|(refine gJ ?_;intro j x hj hx)|refine gV ?_|refine gM ?_|intro _))<;>try (conv=>whnf)
 refine au [0,3] [] [7] ?_
 (conv=>whnf)
 refine ak.go ((Nat)) (fun k=>(k≤l.length)) (fun k=>[(4,.data (i64 k))]) (fun _=>[]) (fun k=>[(7,155,filled Link.av (.agg [i64 0,i64 0,.bool false,i64 0]) l k,0)]) (fun k=>l.length - k) (0) ?_ ?_
 ·exact Nat.zero_le _
 rintro k hk
 (repeat' ((conv=>whnf);first|with_reducible refine Idx.mk k (.agg [i64 0,i64 0,.bool false,i64 0]) rfl (dG (by omega)) ?_|refine gA ?_|(refine gB ?_ ?_<;>intro h)|(refine gI ?_;intro x hx)|(refine gJ ?_;intro j x hj hx)|refine gV ?_|refine gM ?_|refine gC (RD x) ?_|intro _))<;>try (conv=>whnf)
 ·refine nw (k+1) ?_ ?_
  ·(repeat' ((conv=>whnf)<;>(first|exact trivial|exact rfl|with_reducible refine And.intro ?_ ?_)))<;>((conv=>whnf)<;>(exact dH hx rfl))
  exact (by omega:k+1≤l.length)
 ·refine⟨?_,rfl,trivial⟩
  dsimp only
  rw [dI (by omega)]
theorem Hq (x:aL):Con 116 [.old x.av] (.d x.av):=by
 refine con Tryz.func116 rfl rfl Tryz.call116 rfl fun hwf=>?_
 (repeat' ((conv=>whnf);first|refine gA ?_|(refine gB ?_ ?_<;>intro h)|refine gC (NP x.steps) ?_|refine gC (Cv x.setup) ?_|intro _))<;>try (conv=>whnf)
 exact⟨rfl,rfl,trivial⟩
theorem Fy (l:List aL):Con 45 [.old (.sl (l.map aL.av))] (.d (.sl (l.map aL.av))):=by
 refine con Tryz.func45 rfl rfl Tryz.call45 rfl fun hwf=>?_
 simp only [ARs.wf,AR.wf,AV.wf,AV.wfs,lm,lim] at hwf
 (repeat' ((conv=>whnf);first|refine gA ?_|(refine gB ?_ ?_<;>intro h)|(refine gI ?_;intro x hx)|(refine gJ ?_;intro j x hj hx)|refine gV ?_|refine gM ?_|intro _))<;>try (conv=>whnf)
 refine au [0,3] [] [7] ?_
 (conv=>whnf)
 refine ak.go ((Nat)) (fun k=>(k≤l.length)) (fun k=>[(4,.data (i64 k))]) (fun _=>[]) (fun k=>[(7,145,filled aL.av (.agg [.sl [],.sl []]) l k,0)]) (fun k=>l.length - k) (0) ?_ ?_
 ·exact Nat.zero_le _
 rintro k hk
 (repeat' ((conv=>whnf);first|with_reducible refine Idx.mk k (.agg [.sl [],.sl []]) rfl (dG (by omega)) ?_|refine gA ?_|(refine gB ?_ ?_<;>intro h)|(refine gI ?_;intro x hx)|(refine gJ ?_;intro j x hj hx)|refine gV ?_|refine gM ?_|refine gC (Hq x) ?_|intro _))<;>try (conv=>whnf)
 ·refine nw (k+1) ?_ ?_
  ·(repeat' ((conv=>whnf)<;>(first|exact trivial|exact rfl|with_reducible refine And.intro ?_ ?_)))<;>((conv=>whnf)<;>(exact dH hx rfl))
  exact (by omega:k+1≤l.length)
 ·refine⟨?_,rfl,trivial⟩
  dsimp only
  rw [dI (by omega)]
theorem Jy (x:Proj):Con 10 [.old x.av] (.d x.av):=by
 refine con Tryz.func10 rfl rfl Tryz.call10 rfl fun hwf=>?_
 (repeat' ((conv=>whnf);first|refine gA ?_|(refine gB ?_ ?_<;>intro h)|refine gC (Fx x.acts) ?_|refine gC (NR x.links) ?_|refine gC (Fy x.aU) ?_|refine gC (ni x.aO) ?_|intro _))<;>try (conv=>whnf)
 exact⟨rfl,rfl,trivial⟩
theorem RF (x:Rul):Con 276 [.old x.av] (.d x.av):=by
 refine con Tryz.func276 rfl rfl Tryz.call276 rfl fun hwf=>?_
 (repeat' ((conv=>whnf);first|refine gA ?_|(refine gB ?_ ?_<;>intro h)|intro _))<;>try (conv=>whnf)
 exact⟨rfl,rfl,trivial⟩
theorem RG (x:Rul):Con 276 [.d x.av] (.d x.av):=by
 refine con Tryz.func276 rfl rfl Tryz.call276 rfl fun hwf=>?_
 (repeat' ((conv=>whnf);first|refine gA ?_|(refine gB ?_ ?_<;>intro h)|intro _))<;>try (conv=>whnf)
 exact⟨rfl,rfl,trivial⟩
theorem Jz (x:Lit):Con 180 [.old x.av] (.d x.av):=by
 refine con Tryz.func180 rfl rfl Tryz.call180 rfl fun hwf=>?_
 (repeat' ((conv=>whnf);first|refine gA ?_|(refine gB ?_ ?_<;>intro h)|intro _))<;>try (conv=>whnf)
 exact⟨rfl,rfl,trivial⟩
theorem wX (l:List Lit):Con 84 [.old (.sl (l.map Lit.av))] (.d (.sl (l.map Lit.av))):=by
 refine con Tryz.func84 rfl rfl Tryz.call84 rfl fun hwf=>?_
 simp only [ARs.wf,AR.wf,AV.wf,AV.wfs,lm,lim] at hwf
 (repeat' ((conv=>whnf);first|refine gA ?_|(refine gB ?_ ?_<;>intro h)|(refine gI ?_;intro x hx)|(refine gJ ?_;intro j x hj hx)|refine gV ?_|refine gM ?_|intro _))<;>try (conv=>whnf)
 refine au [0,3] [] [7] ?_
 (conv=>whnf)
 refine ak.go ((Nat)) (fun k=>(k≤l.length)) (fun k=>[(4,.data (i64 k))]) (fun _=>[]) (fun k=>[(7,190,filled Lit.av (.agg [i64 0,i64 0,i64 0]) l k,0)]) (fun k=>l.length - k) (0) ?_ ?_
 ·exact Nat.zero_le _
 rintro k hk
 (repeat' ((conv=>whnf);first|with_reducible refine Idx.mk k (.agg [i64 0,i64 0,i64 0]) rfl (dG (by omega)) ?_|refine gA ?_|(refine gB ?_ ?_<;>intro h)|(refine gI ?_;intro x hx)|(refine gJ ?_;intro j x hj hx)|refine gV ?_|refine gM ?_|refine gC (Jz x) ?_|intro _))<;>try (conv=>whnf)
 ·refine nw (k+1) ?_ ?_
  ·(repeat' ((conv=>whnf)<;>(first|exact trivial|exact rfl|with_reducible refine And.intro ?_ ?_)))<;>((conv=>whnf)<;>(exact dH hx rfl))
  exact (by omega:k+1≤l.length)
 ·refine⟨?_,rfl,trivial⟩
  dsimp only
  rw [dI (by omega)]
theorem ME (x:Dom):Con 83 [.old x.av] (.d x.av):=by
 refine con Tryz.func83 rfl rfl Tryz.call83 rfl fun hwf=>?_
 (repeat' ((conv=>whnf);first|refine gA ?_|(refine gB ?_ ?_<;>intro h)|refine gC (ni x.lo) ?_|refine gC (ni x.hi) ?_|refine gC (Cv x.modes) ?_|intro _))<;>try (conv=>whnf)
 exact⟨rfl,rfl,trivial⟩
theorem RH (x:Lin):Con 181 [.old x.av] (.d x.av):=by
 refine con Tryz.func181 rfl rfl Tryz.call181 rfl fun hwf=>?_
 (repeat' ((conv=>whnf);first|refine gA ?_|(refine gB ?_ ?_<;>intro h)|refine gC (RF x.rule) ?_|refine gC (RG x.rule) ?_|refine gC (wX x.clause) ?_|intro _))<;>try (conv=>whnf)
 exact⟨rfl,rfl,trivial⟩
theorem NS (l:List Lin):Con 85 [.old (.sl (l.map Lin.av))] (.d (.sl (l.map Lin.av))):=by
 refine con Tryz.func85 rfl rfl Tryz.call85 rfl fun hwf=>?_
 simp only [ARs.wf,AR.wf,AV.wf,AV.wfs,lm,lim] at hwf
 (repeat' ((conv=>whnf);first|refine gA ?_|(refine gB ?_ ?_<;>intro h)|(refine gI ?_;intro x hx)|(refine gJ ?_;intro j x hj hx)|refine gV ?_|refine gM ?_|intro _))<;>try (conv=>whnf)
 refine au [0,3] [] [7] ?_
 (conv=>whnf)
 refine ak.go ((Nat)) (fun k=>(k≤l.length)) (fun k=>[(4,.data (i64 k))]) (fun _=>[]) (fun k=>[(7,212,filled Lin.av (.agg [i64 0,i64 0,i64 0,i64 0,i64 0,.sl []]) l k,0)]) (fun k=>l.length - k) (0) ?_ ?_
 ·exact Nat.zero_le _
 rintro k hk
 (repeat' ((conv=>whnf);first|with_reducible refine Idx.mk k (.agg [i64 0,i64 0,i64 0,i64 0,i64 0,.sl []]) rfl (dG (by omega)) ?_|refine gA ?_|(refine gB ?_ ?_<;>intro h)|(refine gI ?_;intro x hx)|(refine gJ ?_;intro j x hj hx)|refine gV ?_|refine gM ?_|refine gC (RH x) ?_|intro _))<;>try (conv=>whnf)
 ·refine nw (k+1) ?_ ?_
  ·(repeat' ((conv=>whnf)<;>(first|exact trivial|exact rfl|with_reducible refine And.intro ?_ ?_)))<;>((conv=>whnf)<;>(exact dH hx rfl))
  exact (by omega:k+1≤l.length)
 ·refine⟨?_,rfl,trivial⟩
  dsimp only
  rw [dI (by omega)]
end Go.Proofs.YtglikcnmgnlejaaGreat.Abs
