/- Contracts of the laws' own helpers. -/
import Derived.Test.YtpfgedlimdeffaaGreatC1
import Derived.Test.YtpfgedlimdeffaaGreatPlain
set_option linter.all false
set_option maxRecDepth 20000
set_option maxHeartbeats 0
namespace Go.Proofs.YtpfgedlimdeffaaGreat.Abs
open Go.Proofs
theorem lC (l:List Int):Con 32 [.d (.sl (l.map i64))] (.d (.sl (l.map i64))):=by
 refine con Tryz.func32 rfl rfl Tryz.call32 rfl fun hwf=>?_
 simp only [ARs.wf,AR.wf,AV.wf,AV.wfs,lm,lim] at hwf
 (repeat' ((conv=>whnf);first|refine gA ?_|(refine gB ?_ ?_<;>intro h)|(refine gI ?_;intro x hx)|(refine gJ ?_;intro j x hj hx)|refine gV ?_|refine gM ?_|intro _))<;>try (conv=>whnf)
 refine aG [0,3] [] [7] ?_
 (conv=>whnf)
 refine aC.go ((Nat)) (fun k=>(k≤l.length)) (fun k=>[(4,.data (i64 k))]) (fun _=>[]) (fun k=>[(7,3,filled i64 (i64 0) l k,0)]) (fun k=>l.length - k) (0) ?_ ?_
 ·exact Nat.zero_le _
 rintro k hk
 (repeat' ((conv=>whnf);first|with_reducible refine Idx.mk k (i64 0) rfl (dZ (by omega)) ?_|refine gA ?_|(refine gB ?_ ?_<;>intro h)|(refine gI ?_;intro x hx)|(refine gJ ?_;intro j x hj hx)|refine gV ?_|refine gM ?_|intro _))<;>try (conv=>whnf)
 ·refine nw (k+1) ?_ ?_
  ·(repeat' ((conv=>whnf)<;>(first|exact trivial|exact rfl|with_reducible refine And.intro ?_ ?_)))<;>((conv=>whnf)<;>(exact eD hx rfl))
  exact (by omega:k+1≤l.length)
 ·refine⟨?_,rfl,trivial⟩
  dsimp only
  rw [eF (by omega)]
theorem KP (l:List (List Int)):Con 110 [.d (.sl (l.map ints))] (.d (.sl (l.map ints))):=by
 refine con Tryz.func110 rfl rfl Tryz.call110 rfl fun hwf=>?_
 simp only [ARs.wf,AR.wf,AV.wf,AV.wfs,lm,lim] at hwf
 (repeat' ((conv=>whnf);first|refine gA ?_|(refine gB ?_ ?_<;>intro h)|(refine gI ?_;intro x hx)|(refine gJ ?_;intro j x hj hx)|refine gV ?_|refine gM ?_|intro _))<;>try (conv=>whnf)
 refine aG [0,3] [] [7] ?_
 (conv=>whnf)
 refine aC.go ((Nat)) (fun k=>(k≤l.length)) (fun k=>[(4,.data (i64 k))]) (fun _=>[]) (fun k=>[(7,25,filled ints (.sl []) l k,0)]) (fun k=>l.length - k) (0) ?_ ?_
 ·exact Nat.zero_le _
 rintro k hk
 (repeat' ((conv=>whnf);first|with_reducible refine Idx.mk k (.sl []) rfl (dZ (by omega)) ?_|refine gA ?_|(refine gB ?_ ?_<;>intro h)|(refine gI ?_;intro x hx)|(refine gJ ?_;intro j x hj hx)|refine gV ?_|refine gM ?_|refine gC (lC x) ?_|intro _))<;>try (conv=>whnf)
 ·refine nw (k+1) ?_ ?_
  ·(repeat' ((conv=>whnf)<;>(first|exact trivial|exact rfl|with_reducible refine And.intro ?_ ?_)))<;>((conv=>whnf)<;>(exact eD hx rfl))
  exact (by omega:k+1≤l.length)
 ·refine⟨?_,rfl,trivial⟩
  dsimp only
  rw [eF (by omega)]
theorem NP (x:Step):Con 150 [.d x.av] (.d x.av):=by
 refine con Tryz.func150 rfl rfl Tryz.call150 rfl fun hwf=>?_
 (repeat' ((conv=>whnf);first|refine gA ?_|(refine gB ?_ ?_<;>intro h)|intro _))<;>try (conv=>whnf)
 exact⟨rfl,rfl,trivial⟩
theorem KQ (l:List Step):Con 109 [.d (.sl (l.map Step.av))] (.d (.sl (l.map Step.av))):=by
 refine con Tryz.func109 rfl rfl Tryz.call109 rfl fun hwf=>?_
 simp only [ARs.wf,AR.wf,AV.wf,AV.wfs,lm,lim] at hwf
 (repeat' ((conv=>whnf);first|refine gA ?_|(refine gB ?_ ?_<;>intro h)|(refine gI ?_;intro x hx)|(refine gJ ?_;intro j x hj hx)|refine gV ?_|refine gM ?_|intro _))<;>try (conv=>whnf)
 refine aG [0,3] [] [7] ?_
 (conv=>whnf)
 refine aC.go ((Nat)) (fun k=>(k≤l.length)) (fun k=>[(4,.data (i64 k))]) (fun _=>[]) (fun k=>[(7,131,filled Step.av (.agg [i64 0,i64 0]) l k,0)]) (fun k=>l.length - k) (0) ?_ ?_
 ·exact Nat.zero_le _
 rintro k hk
 (repeat' ((conv=>whnf);first|with_reducible refine Idx.mk k (.agg [i64 0,i64 0]) rfl (dZ (by omega)) ?_|refine gA ?_|(refine gB ?_ ?_<;>intro h)|(refine gI ?_;intro x hx)|(refine gJ ?_;intro j x hj hx)|refine gV ?_|refine gM ?_|refine gC (NP x) ?_|intro _))<;>try (conv=>whnf)
 ·refine nw (k+1) ?_ ?_
  ·(repeat' ((conv=>whnf)<;>(first|exact trivial|exact rfl|with_reducible refine And.intro ?_ ?_)))<;>((conv=>whnf)<;>(exact eD hx rfl))
  exact (by omega:k+1≤l.length)
 ·refine⟨?_,rfl,trivial⟩
  dsimp only
  rw [eF (by omega)]
theorem NQ (x:Mode):Con 149 [.d x.av] (.d x.av):=by
 refine con Tryz.func149 rfl rfl Tryz.call149 rfl fun hwf=>?_
 (repeat' ((conv=>whnf);first|refine gA ?_|(refine gB ?_ ?_<;>intro h)|refine gC (lC x.use) ?_|refine gC (lC x.con) ?_|intro _))<;>try (conv=>whnf)
 exact⟨rfl,rfl,trivial⟩
theorem KR (l:List Mode):Con 108 [.d (.sl (l.map Mode.av))] (.d (.sl (l.map Mode.av))):=by
 refine con Tryz.func108 rfl rfl Tryz.call108 rfl fun hwf=>?_
 simp only [ARs.wf,AR.wf,AV.wf,AV.wfs,lm,lim] at hwf
 (repeat' ((conv=>whnf);first|refine gA ?_|(refine gB ?_ ?_<;>intro h)|(refine gI ?_;intro x hx)|(refine gJ ?_;intro j x hj hx)|refine gV ?_|refine gM ?_|intro _))<;>try (conv=>whnf)
 refine aG [0,3] [] [7] ?_
 (conv=>whnf)
 refine aC.go ((Nat)) (fun k=>(k≤l.length)) (fun k=>[(4,.data (i64 k))]) (fun _=>[]) (fun k=>[(7,98,filled Mode.av (.agg [i64 0,.sl [],.sl []]) l k,0)]) (fun k=>l.length - k) (0) ?_ ?_
 ·exact Nat.zero_le _
 rintro k hk
 (repeat' ((conv=>whnf);first|with_reducible refine Idx.mk k (.agg [i64 0,.sl [],.sl []]) rfl (dZ (by omega)) ?_|refine gA ?_|(refine gB ?_ ?_<;>intro h)|(refine gI ?_;intro x hx)|(refine gJ ?_;intro j x hj hx)|refine gV ?_|refine gM ?_|refine gC (NQ x) ?_|intro _))<;>try (conv=>whnf)
 ·refine nw (k+1) ?_ ?_
  ·(repeat' ((conv=>whnf)<;>(first|exact trivial|exact rfl|with_reducible refine And.intro ?_ ?_)))<;>((conv=>whnf)<;>(exact eD hx rfl))
  exact (by omega:k+1≤l.length)
 ·refine⟨?_,rfl,trivial⟩
  dsimp only
  rw [eF (by omega)]
theorem Dy (x:au):Con 65 [.d x.av] (.d x.av):=by
 refine con Tryz.func65 rfl rfl Tryz.call65 rfl fun hwf=>?_
 (repeat' ((conv=>whnf);first|refine gA ?_|(refine gB ?_ ?_<;>intro h)|refine gC (KR x.modes) ?_|intro _))<;>try (conv=>whnf)
 exact⟨rfl,rfl,trivial⟩
theorem BG (l:List au):Con 29 [.d (.sl (l.map au.av))] (.d (.sl (l.map au.av))):=by
 refine con Tryz.func29 rfl rfl Tryz.call29 rfl fun hwf=>?_
 simp only [ARs.wf,AR.wf,AV.wf,AV.wfs,lm,lim] at hwf
 (repeat' ((conv=>whnf);first|refine gA ?_|(refine gB ?_ ?_<;>intro h)|(refine gI ?_;intro x hx)|(refine gJ ?_;intro j x hj hx)|refine gV ?_|refine gM ?_|intro _))<;>try (conv=>whnf)
 refine aG [0,3] [] [7] ?_
 (conv=>whnf)
 refine aC.go ((Nat)) (fun k=>(k≤l.length)) (fun k=>[(4,.data (i64 k))]) (fun _=>[]) (fun k=>[(7,96,filled au.av (.agg [.str ⟨#[]⟩,i64 0,.sl []]) l k,0)]) (fun k=>l.length - k) (0) ?_ ?_
 ·exact Nat.zero_le _
 rintro k hk
 (repeat' ((conv=>whnf);first|with_reducible refine Idx.mk k (.agg [.str ⟨#[]⟩,i64 0,.sl []]) rfl (dZ (by omega)) ?_|refine gA ?_|(refine gB ?_ ?_<;>intro h)|(refine gI ?_;intro x hx)|(refine gJ ?_;intro j x hj hx)|refine gV ?_|refine gM ?_|refine gC (Dy x) ?_|intro _))<;>try (conv=>whnf)
 ·refine nw (k+1) ?_ ?_
  ·(repeat' ((conv=>whnf)<;>(first|exact trivial|exact rfl|with_reducible refine And.intro ?_ ?_)))<;>((conv=>whnf)<;>(exact eD hx rfl))
  exact (by omega:k+1≤l.length)
 ·refine⟨?_,rfl,trivial⟩
  dsimp only
  rw [eF (by omega)]
theorem NR (x:Link):Con 66 [.d x.av] (.d x.av):=by
 refine con Tryz.func66 rfl rfl Tryz.call66 rfl fun hwf=>?_
 (repeat' ((conv=>whnf);first|refine gA ?_|(refine gB ?_ ?_<;>intro h)|intro _))<;>try (conv=>whnf)
 exact⟨rfl,rfl,trivial⟩
theorem KS (l:List Link):Con 30 [.d (.sl (l.map Link.av))] (.d (.sl (l.map Link.av))):=by
 refine con Tryz.func30 rfl rfl Tryz.call30 rfl fun hwf=>?_
 simp only [ARs.wf,AR.wf,AV.wf,AV.wfs,lm,lim] at hwf
 (repeat' ((conv=>whnf);first|refine gA ?_|(refine gB ?_ ?_<;>intro h)|(refine gI ?_;intro x hx)|(refine gJ ?_;intro j x hj hx)|refine gV ?_|refine gM ?_|intro _))<;>try (conv=>whnf)
 refine aG [0,3] [] [7] ?_
 (conv=>whnf)
 refine aC.go ((Nat)) (fun k=>(k≤l.length)) (fun k=>[(4,.data (i64 k))]) (fun _=>[]) (fun k=>[(7,112,filled Link.av (.agg [i64 0,i64 0,.bool false,i64 0]) l k,0)]) (fun k=>l.length - k) (0) ?_ ?_
 ·exact Nat.zero_le _
 rintro k hk
 (repeat' ((conv=>whnf);first|with_reducible refine Idx.mk k (.agg [i64 0,i64 0,.bool false,i64 0]) rfl (dZ (by omega)) ?_|refine gA ?_|(refine gB ?_ ?_<;>intro h)|(refine gI ?_;intro x hx)|(refine gJ ?_;intro j x hj hx)|refine gV ?_|refine gM ?_|refine gC (NR x) ?_|intro _))<;>try (conv=>whnf)
 ·refine nw (k+1) ?_ ?_
  ·(repeat' ((conv=>whnf)<;>(first|exact trivial|exact rfl|with_reducible refine And.intro ?_ ?_)))<;>((conv=>whnf)<;>(exact eD hx rfl))
  exact (by omega:k+1≤l.length)
 ·refine⟨?_,rfl,trivial⟩
  dsimp only
  rw [eF (by omega)]
theorem Dz (x:aP):Con 67 [.d x.av] (.d x.av):=by
 refine con Tryz.func67 rfl rfl Tryz.call67 rfl fun hwf=>?_
 (repeat' ((conv=>whnf);first|refine gA ?_|(refine gB ?_ ?_<;>intro h)|refine gC (KQ x.steps) ?_|refine gC (KP x.setup) ?_|intro _))<;>try (conv=>whnf)
 exact⟨rfl,rfl,trivial⟩
theorem BH (l:List aP):Con 31 [.d (.sl (l.map aP.av))] (.d (.sl (l.map aP.av))):=by
 refine con Tryz.func31 rfl rfl Tryz.call31 rfl fun hwf=>?_
 simp only [ARs.wf,AR.wf,AV.wf,AV.wfs,lm,lim] at hwf
 (repeat' ((conv=>whnf);first|refine gA ?_|(refine gB ?_ ?_<;>intro h)|(refine gI ?_;intro x hx)|(refine gJ ?_;intro j x hj hx)|refine gV ?_|refine gM ?_|intro _))<;>try (conv=>whnf)
 refine aG [0,3] [] [7] ?_
 (conv=>whnf)
 refine aC.go ((Nat)) (fun k=>(k≤l.length)) (fun k=>[(4,.data (i64 k))]) (fun _=>[]) (fun k=>[(7,102,filled aP.av (.agg [.sl [],.sl []]) l k,0)]) (fun k=>l.length - k) (0) ?_ ?_
 ·exact Nat.zero_le _
 rintro k hk
 (repeat' ((conv=>whnf);first|with_reducible refine Idx.mk k (.agg [.sl [],.sl []]) rfl (dZ (by omega)) ?_|refine gA ?_|(refine gB ?_ ?_<;>intro h)|(refine gI ?_;intro x hx)|(refine gJ ?_;intro j x hj hx)|refine gV ?_|refine gM ?_|refine gC (Dz x) ?_|intro _))<;>try (conv=>whnf)
 ·refine nw (k+1) ?_ ?_
  ·(repeat' ((conv=>whnf)<;>(first|exact trivial|exact rfl|with_reducible refine And.intro ?_ ?_)))<;>((conv=>whnf)<;>(exact eD hx rfl))
  exact (by omega:k+1≤l.length)
 ·refine⟨?_,rfl,trivial⟩
  dsimp only
  rw [eF (by omega)]
theorem qH (x:Proj):Con 7 [.d x.av] (.d x.av):=by
 refine con Tryz.func7 rfl rfl Tryz.call7 rfl fun hwf=>?_
 (repeat' ((conv=>whnf);first|refine gA ?_|(refine gB ?_ ?_<;>intro h)|refine gC (BG x.acts) ?_|refine gC (KS x.links) ?_|refine gC (BH x.aU) ?_|refine gC (lC x.aL) ?_|intro _))<;>try (conv=>whnf)
 exact⟨rfl,rfl,trivial⟩
theorem oF (x:aA):Con 8 [.d x.av] (.d x.av):=by
 refine con Tryz.func8 rfl rfl Tryz.call8 rfl fun hwf=>?_
 (repeat' ((conv=>whnf);first|refine gA ?_|(refine gB ?_ ?_<;>intro h)|refine gC (lC x.starts) ?_|refine gC (lC x.modes) ?_|intro _))<;>try (conv=>whnf)
 exact⟨rfl,rfl,trivial⟩
open Go.Proofs
theorem kI (l:List Int):Con 32 [.old (.sl (l.map i64))] (.d (.sl (l.map i64))):=by
 refine con Tryz.func32 rfl rfl Tryz.call32 rfl fun hwf=>?_
 simp only [ARs.wf,AR.wf,AV.wf,AV.wfs,lm,lim] at hwf
 (repeat' ((conv=>whnf);first|refine gA ?_|(refine gB ?_ ?_<;>intro h)|(refine gI ?_;intro x hx)|(refine gJ ?_;intro j x hj hx)|refine gV ?_|refine gM ?_|intro _))<;>try (conv=>whnf)
 refine aG [0,3] [] [7] ?_
 (conv=>whnf)
 refine aC.go ((Nat)) (fun k=>(k≤l.length)) (fun k=>[(4,.data (i64 k))]) (fun _=>[]) (fun k=>[(7,3,filled i64 (i64 0) l k,0)]) (fun k=>l.length - k) (0) ?_ ?_
 ·exact Nat.zero_le _
 rintro k hk
 (repeat' ((conv=>whnf);first|with_reducible refine Idx.mk k (i64 0) rfl (dZ (by omega)) ?_|refine gA ?_|(refine gB ?_ ?_<;>intro h)|(refine gI ?_;intro x hx)|(refine gJ ?_;intro j x hj hx)|refine gV ?_|refine gM ?_|intro _))<;>try (conv=>whnf)
 ·refine nw (k+1) ?_ ?_
  ·(repeat' ((conv=>whnf)<;>(first|exact trivial|exact rfl|with_reducible refine And.intro ?_ ?_)))<;>((conv=>whnf)<;>(exact eD hx rfl))
  exact (by omega:k+1≤l.length)
 ·refine⟨?_,rfl,trivial⟩
  dsimp only
  rw [eF (by omega)]
theorem Hg (l:List (List Int)):Con 110 [.old (.sl (l.map ints))] (.d (.sl (l.map ints))):=by
 refine con Tryz.func110 rfl rfl Tryz.call110 rfl fun hwf=>?_
 simp only [ARs.wf,AR.wf,AV.wf,AV.wfs,lm,lim] at hwf
 (repeat' ((conv=>whnf);first|refine gA ?_|(refine gB ?_ ?_<;>intro h)|(refine gI ?_;intro x hx)|(refine gJ ?_;intro j x hj hx)|refine gV ?_|refine gM ?_|intro _))<;>try (conv=>whnf)
 refine aG [0,3] [] [7] ?_
 (conv=>whnf)
 refine aC.go ((Nat)) (fun k=>(k≤l.length)) (fun k=>[(4,.data (i64 k))]) (fun _=>[]) (fun k=>[(7,25,filled ints (.sl []) l k,0)]) (fun k=>l.length - k) (0) ?_ ?_
 ·exact Nat.zero_le _
 rintro k hk
 (repeat' ((conv=>whnf);first|with_reducible refine Idx.mk k (.sl []) rfl (dZ (by omega)) ?_|refine gA ?_|(refine gB ?_ ?_<;>intro h)|(refine gI ?_;intro x hx)|(refine gJ ?_;intro j x hj hx)|refine gV ?_|refine gM ?_|refine gC (kI x) ?_|intro _))<;>try (conv=>whnf)
 ·refine nw (k+1) ?_ ?_
  ·(repeat' ((conv=>whnf)<;>(first|exact trivial|exact rfl|with_reducible refine And.intro ?_ ?_)))<;>((conv=>whnf)<;>(exact eD hx rfl))
  exact (by omega:k+1≤l.length)
 ·refine⟨?_,rfl,trivial⟩
  dsimp only
  rw [eF (by omega)]
theorem KT (x:Step):Con 150 [.old x.av] (.d x.av):=by
 refine con Tryz.func150 rfl rfl Tryz.call150 rfl fun hwf=>?_
 (repeat' ((conv=>whnf);first|refine gA ?_|(refine gB ?_ ?_<;>intro h)|intro _))<;>try (conv=>whnf)
 exact⟨rfl,rfl,trivial⟩
theorem KU (x:Step):Con 150 [.d x.av] (.d x.av):=by
 refine con Tryz.func150 rfl rfl Tryz.call150 rfl fun hwf=>?_
 (repeat' ((conv=>whnf);first|refine gA ?_|(refine gB ?_ ?_<;>intro h)|intro _))<;>try (conv=>whnf)
 exact⟨rfl,rfl,trivial⟩
theorem Hl (l:List Step):Con 109 [.old (.sl (l.map Step.av))] (.d (.sl (l.map Step.av))):=by
 refine con Tryz.func109 rfl rfl Tryz.call109 rfl fun hwf=>?_
 simp only [ARs.wf,AR.wf,AV.wf,AV.wfs,lm,lim] at hwf
 (repeat' ((conv=>whnf);first|refine gA ?_|(refine gB ?_ ?_<;>intro h)|(refine gI ?_;intro x hx)|(refine gJ ?_;intro j x hj hx)|refine gV ?_|refine gM ?_|intro _))<;>try (conv=>whnf)
 refine aG [0,3] [] [7] ?_
 (conv=>whnf)
 refine aC.go ((Nat)) (fun k=>(k≤l.length)) (fun k=>[(4,.data (i64 k))]) (fun _=>[]) (fun k=>[(7,131,filled Step.av (.agg [i64 0,i64 0]) l k,0)]) (fun k=>l.length - k) (0) ?_ ?_
 ·exact Nat.zero_le _
 rintro k hk
 (repeat' ((conv=>whnf);first|with_reducible refine Idx.mk k (.agg [i64 0,i64 0]) rfl (dZ (by omega)) ?_|refine gA ?_|(refine gB ?_ ?_<;>intro h)|(refine gI ?_;intro x hx)|(refine gJ ?_;intro j x hj hx)|refine gV ?_|refine gM ?_|refine gC (KT x) ?_|refine gC (KU x) ?_|intro _))<;>try (conv=>whnf)
 ·refine nw (k+1) ?_ ?_
  ·(repeat' ((conv=>whnf)<;>(first|exact trivial|exact rfl|with_reducible refine And.intro ?_ ?_)))<;>((conv=>whnf)<;>(exact eD hx rfl))
  exact (by omega:k+1≤l.length)
 ·refine⟨?_,rfl,trivial⟩
  dsimp only
  rw [eF (by omega)]
theorem KV (x:Mode):Con 149 [.old x.av] (.d x.av):=by
 refine con Tryz.func149 rfl rfl Tryz.call149 rfl fun hwf=>?_
 (repeat' ((conv=>whnf);first|refine gA ?_|(refine gB ?_ ?_<;>intro h)|refine gC (kI x.use) ?_|refine gC (kI x.con) ?_|intro _))<;>try (conv=>whnf)
 exact⟨rfl,rfl,trivial⟩
theorem Ho (l:List Mode):Con 108 [.old (.sl (l.map Mode.av))] (.d (.sl (l.map Mode.av))):=by
 refine con Tryz.func108 rfl rfl Tryz.call108 rfl fun hwf=>?_
 simp only [ARs.wf,AR.wf,AV.wf,AV.wfs,lm,lim] at hwf
 (repeat' ((conv=>whnf);first|refine gA ?_|(refine gB ?_ ?_<;>intro h)|(refine gI ?_;intro x hx)|(refine gJ ?_;intro j x hj hx)|refine gV ?_|refine gM ?_|intro _))<;>try (conv=>whnf)
 refine aG [0,3] [] [7] ?_
 (conv=>whnf)
 refine aC.go ((Nat)) (fun k=>(k≤l.length)) (fun k=>[(4,.data (i64 k))]) (fun _=>[]) (fun k=>[(7,98,filled Mode.av (.agg [i64 0,.sl [],.sl []]) l k,0)]) (fun k=>l.length - k) (0) ?_ ?_
 ·exact Nat.zero_le _
 rintro k hk
 (repeat' ((conv=>whnf);first|with_reducible refine Idx.mk k (.agg [i64 0,.sl [],.sl []]) rfl (dZ (by omega)) ?_|refine gA ?_|(refine gB ?_ ?_<;>intro h)|(refine gI ?_;intro x hx)|(refine gJ ?_;intro j x hj hx)|refine gV ?_|refine gM ?_|refine gC (KV x) ?_|intro _))<;>try (conv=>whnf)
 ·refine nw (k+1) ?_ ?_
  ·(repeat' ((conv=>whnf)<;>(first|exact trivial|exact rfl|with_reducible refine And.intro ?_ ?_)))<;>((conv=>whnf)<;>(exact eD hx rfl))
  exact (by omega:k+1≤l.length)
 ·refine⟨?_,rfl,trivial⟩
  dsimp only
  rw [eF (by omega)]
theorem BI (x:au):Con 65 [.old x.av] (.d x.av):=by
 refine con Tryz.func65 rfl rfl Tryz.call65 rfl fun hwf=>?_
 (repeat' ((conv=>whnf);first|refine gA ?_|(refine gB ?_ ?_<;>intro h)|refine gC (Ho x.modes) ?_|intro _))<;>try (conv=>whnf)
 exact⟨rfl,rfl,trivial⟩
theorem Ar (l:List au):Con 29 [.old (.sl (l.map au.av))] (.d (.sl (l.map au.av))):=by
 refine con Tryz.func29 rfl rfl Tryz.call29 rfl fun hwf=>?_
 simp only [ARs.wf,AR.wf,AV.wf,AV.wfs,lm,lim] at hwf
 (repeat' ((conv=>whnf);first|refine gA ?_|(refine gB ?_ ?_<;>intro h)|(refine gI ?_;intro x hx)|(refine gJ ?_;intro j x hj hx)|refine gV ?_|refine gM ?_|intro _))<;>try (conv=>whnf)
 refine aG [0,3] [] [7] ?_
 (conv=>whnf)
 refine aC.go ((Nat)) (fun k=>(k≤l.length)) (fun k=>[(4,.data (i64 k))]) (fun _=>[]) (fun k=>[(7,96,filled au.av (.agg [.str ⟨#[]⟩,i64 0,.sl []]) l k,0)]) (fun k=>l.length - k) (0) ?_ ?_
 ·exact Nat.zero_le _
 rintro k hk
 (repeat' ((conv=>whnf);first|with_reducible refine Idx.mk k (.agg [.str ⟨#[]⟩,i64 0,.sl []]) rfl (dZ (by omega)) ?_|refine gA ?_|(refine gB ?_ ?_<;>intro h)|(refine gI ?_;intro x hx)|(refine gJ ?_;intro j x hj hx)|refine gV ?_|refine gM ?_|refine gC (BI x) ?_|intro _))<;>try (conv=>whnf)
 ·refine nw (k+1) ?_ ?_
  ·(repeat' ((conv=>whnf)<;>(first|exact trivial|exact rfl|with_reducible refine And.intro ?_ ?_)))<;>((conv=>whnf)<;>(exact eD hx rfl))
  exact (by omega:k+1≤l.length)
 ·refine⟨?_,rfl,trivial⟩
  dsimp only
  rw [eF (by omega)]
theorem KW (x:Link):Con 66 [.old x.av] (.d x.av):=by
 refine con Tryz.func66 rfl rfl Tryz.call66 rfl fun hwf=>?_
 (repeat' ((conv=>whnf);first|refine gA ?_|(refine gB ?_ ?_<;>intro h)|intro _))<;>try (conv=>whnf)
 exact⟨rfl,rfl,trivial⟩
theorem KX (x:Link):Con 66 [.d x.av] (.d x.av):=by
 refine con Tryz.func66 rfl rfl Tryz.call66 rfl fun hwf=>?_
 (repeat' ((conv=>whnf);first|refine gA ?_|(refine gB ?_ ?_<;>intro h)|intro _))<;>try (conv=>whnf)
 exact⟨rfl,rfl,trivial⟩
theorem Hq (l:List Link):Con 30 [.old (.sl (l.map Link.av))] (.d (.sl (l.map Link.av))):=by
 refine con Tryz.func30 rfl rfl Tryz.call30 rfl fun hwf=>?_
 simp only [ARs.wf,AR.wf,AV.wf,AV.wfs,lm,lim] at hwf
 (repeat' ((conv=>whnf);first|refine gA ?_|(refine gB ?_ ?_<;>intro h)|(refine gI ?_;intro x hx)|(refine gJ ?_;intro j x hj hx)|refine gV ?_|refine gM ?_|intro _))<;>try (conv=>whnf)
 refine aG [0,3] [] [7] ?_
 (conv=>whnf)
 refine aC.go ((Nat)) (fun k=>(k≤l.length)) (fun k=>[(4,.data (i64 k))]) (fun _=>[]) (fun k=>[(7,112,filled Link.av (.agg [i64 0,i64 0,.bool false,i64 0]) l k,0)]) (fun k=>l.length - k) (0) ?_ ?_
 ·exact Nat.zero_le _
 rintro k hk
 (repeat' ((conv=>whnf);first|with_reducible refine Idx.mk k (.agg [i64 0,i64 0,.bool false,i64 0]) rfl (dZ (by omega)) ?_|refine gA ?_|(refine gB ?_ ?_<;>intro h)|(refine gI ?_;intro x hx)|(refine gJ ?_;intro j x hj hx)|refine gV ?_|refine gM ?_|refine gC (KW x) ?_|refine gC (KX x) ?_|intro _))<;>try (conv=>whnf)
 ·refine nw (k+1) ?_ ?_
  ·(repeat' ((conv=>whnf)<;>(first|exact trivial|exact rfl|with_reducible refine And.intro ?_ ?_)))<;>((conv=>whnf)<;>(exact eD hx rfl))
  exact (by omega:k+1≤l.length)
 ·refine⟨?_,rfl,trivial⟩
  dsimp only
  rw [eF (by omega)]
theorem BJ (x:aP):Con 67 [.old x.av] (.d x.av):=by
 refine con Tryz.func67 rfl rfl Tryz.call67 rfl fun hwf=>?_
 (repeat' ((conv=>whnf);first|refine gA ?_|(refine gB ?_ ?_<;>intro h)|refine gC (Hl x.steps) ?_|refine gC (Hg x.setup) ?_|intro _))<;>try (conv=>whnf)
 exact⟨rfl,rfl,trivial⟩
theorem Au (l:List aP):Con 31 [.old (.sl (l.map aP.av))] (.d (.sl (l.map aP.av))):=by
 refine con Tryz.func31 rfl rfl Tryz.call31 rfl fun hwf=>?_
 simp only [ARs.wf,AR.wf,AV.wf,AV.wfs,lm,lim] at hwf
 (repeat' ((conv=>whnf);first|refine gA ?_|(refine gB ?_ ?_<;>intro h)|(refine gI ?_;intro x hx)|(refine gJ ?_;intro j x hj hx)|refine gV ?_|refine gM ?_|intro _))<;>try (conv=>whnf)
 refine aG [0,3] [] [7] ?_
 (conv=>whnf)
 refine aC.go ((Nat)) (fun k=>(k≤l.length)) (fun k=>[(4,.data (i64 k))]) (fun _=>[]) (fun k=>[(7,102,filled aP.av (.agg [.sl [],.sl []]) l k,0)]) (fun k=>l.length - k) (0) ?_ ?_
 ·exact Nat.zero_le _
 rintro k hk
 (repeat' ((conv=>whnf);first|with_reducible refine Idx.mk k (.agg [.sl [],.sl []]) rfl (dZ (by omega)) ?_|refine gA ?_|(refine gB ?_ ?_<;>intro h)|(refine gI ?_;intro x hx)|(refine gJ ?_;intro j x hj hx)|refine gV ?_|refine gM ?_|refine gC (BJ x) ?_|intro _))<;>try (conv=>whnf)
 ·refine nw (k+1) ?_ ?_
  ·(repeat' ((conv=>whnf)<;>(first|exact trivial|exact rfl|with_reducible refine And.intro ?_ ?_)))<;>((conv=>whnf)<;>(exact eD hx rfl))
  exact (by omega:k+1≤l.length)
 ·refine⟨?_,rfl,trivial⟩
  dsimp only
  rw [eF (by omega)]
theorem DC (x:Proj):Con 7 [.old x.av] (.d x.av):=by
 refine con Tryz.func7 rfl rfl Tryz.call7 rfl fun hwf=>?_
 (repeat' ((conv=>whnf);first|refine gA ?_|(refine gB ?_ ?_<;>intro h)|refine gC (Ar x.acts) ?_|refine gC (Hq x.links) ?_|refine gC (Au x.aU) ?_|refine gC (kI x.aL) ?_|intro _))<;>try (conv=>whnf)
 exact⟨rfl,rfl,trivial⟩
theorem BK (x:aA):Con 8 [.old x.av] (.d x.av):=by
 refine con Tryz.func8 rfl rfl Tryz.call8 rfl fun hwf=>?_
 (repeat' ((conv=>whnf);first|refine gA ?_|(refine gB ?_ ?_<;>intro h)|refine gC (kI x.starts) ?_|refine gC (kI x.modes) ?_|intro _))<;>try (conv=>whnf)
 exact⟨rfl,rfl,trivial⟩
end Go.Proofs.YtpfgedlimdeffaaGreat.Abs
namespace Go.Proofs.YtpfgedlimdeffaaGreat.Abs
open Go.Proofs
theorem lD (l:List Int):Con 42 [.d (.sl (l.map i64)),.d (.sl (l.map i64))] (.d (.bool true)):=by
 refine con Tryz.func42 rfl rfl Tryz.call42 rfl fun hwf=>?_
 simp only [ARs.wf,AR.wf,AV.wf,AV.wfs,lm,lim] at hwf
 (repeat' ((conv=>whnf);first|(with_reducible refine Br.yes (decide_eq_true rfl) ?_)|(with_reducible refine Br.yes (beq_self_eq_true _) ?_)|refine gA ?_|(refine gB ?_ ?_<;>intro h)|(refine gI ?_;intro x hx)|(refine gJ ?_;intro j x hj hx)|refine gV ?_|intro _))<;>try (conv=>whnf)
 refine aG [0,1] [] [] ?_
 (conv=>whnf)
 refine aC.go ((Nat)) (fun k=>(k≤l.length)) (fun k=>[(5,.data (i64 k))]) (fun _=>[]) (fun _=>[]) (fun k=>l.length - k) (0) ?_ ?_
 ·exact Nat.zero_le _
 rintro k hk
 by_cases hlt:k < l.length
 ·obtain⟨x,hx⟩:∃x,l[k]? =some x:=⟨l[k]'hlt,by simp⟩
  (repeat' ((conv=>whnf);first|with_reducible refine Idx.got hx rfl ?_|(with_reducible refine Br.yes (decide_eq_true rfl) ?_)|(with_reducible refine Br.yes (beq_self_eq_true _) ?_)|refine gA ?_|(refine gB ?_ ?_<;>intro h)|(refine gI ?_;intro x hx)|(refine gJ ?_;intro j x hj hx)|refine gV ?_|intro _))<;>try (conv=>whnf)
  all_goals first
   |(exfalso;omega)
   |(refine nx (k+1) ?_
     exact (by omega:k+1≤l.length))
 ·(repeat' ((conv=>whnf);first|(exfalso;omega)|refine gA ?_|(refine gB ?_ ?_<;>intro h)|(refine gI ?_;intro x hx)|(refine gJ ?_;intro j x hj hx)|refine gV ?_|intro _))<;>try (conv=>whnf)
  exact⟨rfl,rfl,trivial⟩
theorem KY (l:List (List Int)):Con 134 [.d (.sl (l.map ints)),.d (.sl (l.map ints))] (.d (.bool true)):=by
 refine con Tryz.func134 rfl rfl Tryz.call134 rfl fun hwf=>?_
 simp only [ARs.wf,AR.wf,AV.wf,AV.wfs,lm,lim] at hwf
 (repeat' ((conv=>whnf);first|(with_reducible refine Br.yes (decide_eq_true rfl) ?_)|(with_reducible refine Br.yes (beq_self_eq_true _) ?_)|refine gA ?_|(refine gB ?_ ?_<;>intro h)|(refine gI ?_;intro x hx)|(refine gJ ?_;intro j x hj hx)|refine gV ?_|intro _))<;>try (conv=>whnf)
 refine aG [0,1] [] [] ?_
 (conv=>whnf)
 refine aC.go ((Nat)) (fun k=>(k≤l.length)) (fun k=>[(5,.data (i64 k))]) (fun _=>[]) (fun _=>[]) (fun k=>l.length - k) (0) ?_ ?_
 ·exact Nat.zero_le _
 rintro k hk
 by_cases hlt:k < l.length
 ·obtain⟨x,hx⟩:∃x,l[k]? =some x:=⟨l[k]'hlt,by simp⟩
  (repeat' ((conv=>whnf);first|with_reducible refine Idx.got hx rfl ?_|(with_reducible refine Br.yes (decide_eq_true rfl) ?_)|(with_reducible refine Br.yes (beq_self_eq_true _) ?_)|refine gA ?_|(refine gB ?_ ?_<;>intro h)|(refine gI ?_;intro x hx)|(refine gJ ?_;intro j x hj hx)|refine gV ?_|refine gC (lD x) ?_|intro _))<;>try (conv=>whnf)
  all_goals first
   |(exfalso;omega)
   |(refine nx (k+1) ?_
     exact (by omega:k+1≤l.length))
 ·(repeat' ((conv=>whnf);first|(exfalso;omega)|refine gA ?_|(refine gB ?_ ?_<;>intro h)|(refine gI ?_;intro x hx)|(refine gJ ?_;intro j x hj hx)|refine gV ?_|intro _))<;>try (conv=>whnf)
  exact⟨rfl,rfl,trivial⟩
theorem NS (x:Step):Con 175 [.d x.av,.d x.av] (.d (.bool true)):=by
 refine con Tryz.func175 rfl rfl Tryz.call175 rfl fun hwf=>?_
 (repeat' ((conv=>whnf);first|(with_reducible refine Br.yes (decide_eq_true rfl) ?_)|(with_reducible refine Br.yes (beq_self_eq_true _) ?_)|refine gA ?_|(refine gB ?_ ?_<;>intro h)|intro _))<;>try (conv=>whnf)
 all_goals exact⟨rfl,rfl,trivial⟩
theorem KZ (l:List Step):Con 133 [.d (.sl (l.map Step.av)),.d (.sl (l.map Step.av))] (.d (.bool true)):=by
 refine con Tryz.func133 rfl rfl Tryz.call133 rfl fun hwf=>?_
 simp only [ARs.wf,AR.wf,AV.wf,AV.wfs,lm,lim] at hwf
 (repeat' ((conv=>whnf);first|(with_reducible refine Br.yes (decide_eq_true rfl) ?_)|(with_reducible refine Br.yes (beq_self_eq_true _) ?_)|refine gA ?_|(refine gB ?_ ?_<;>intro h)|(refine gI ?_;intro x hx)|(refine gJ ?_;intro j x hj hx)|refine gV ?_|intro _))<;>try (conv=>whnf)
 refine aG [0,1] [] [] ?_
 (conv=>whnf)
 refine aC.go ((Nat)) (fun k=>(k≤l.length)) (fun k=>[(5,.data (i64 k))]) (fun _=>[]) (fun _=>[]) (fun k=>l.length - k) (0) ?_ ?_
 ·exact Nat.zero_le _
 rintro k hk
 by_cases hlt:k < l.length
 ·obtain⟨x,hx⟩:∃x,l[k]? =some x:=⟨l[k]'hlt,by simp⟩
  (repeat' ((conv=>whnf);first|with_reducible refine Idx.got hx rfl ?_|(with_reducible refine Br.yes (decide_eq_true rfl) ?_)|(with_reducible refine Br.yes (beq_self_eq_true _) ?_)|refine gA ?_|(refine gB ?_ ?_<;>intro h)|(refine gI ?_;intro x hx)|(refine gJ ?_;intro j x hj hx)|refine gV ?_|refine gC (NS x) ?_|intro _))<;>try (conv=>whnf)
  all_goals first
   |(exfalso;omega)
   |(refine nx (k+1) ?_
     exact (by omega:k+1≤l.length))
 ·(repeat' ((conv=>whnf);first|(exfalso;omega)|refine gA ?_|(refine gB ?_ ?_<;>intro h)|(refine gI ?_;intro x hx)|(refine gJ ?_;intro j x hj hx)|refine gV ?_|intro _))<;>try (conv=>whnf)
  exact⟨rfl,rfl,trivial⟩
theorem NT (x:Mode):Con 174 [.d x.av,.d x.av] (.d (.bool true)):=by
 refine con Tryz.func174 rfl rfl Tryz.call174 rfl fun hwf=>?_
 (repeat' ((conv=>whnf);first|(with_reducible refine Br.yes (decide_eq_true rfl) ?_)|(with_reducible refine Br.yes (beq_self_eq_true _) ?_)|refine gA ?_|(refine gB ?_ ?_<;>intro h)|refine gC (lD x.use) ?_|refine gC (lD x.con) ?_|intro _))<;>try (conv=>whnf)
 all_goals exact⟨rfl,rfl,trivial⟩
theorem La (l:List Mode):Con 132 [.d (.sl (l.map Mode.av)),.d (.sl (l.map Mode.av))] (.d (.bool true)):=by
 refine con Tryz.func132 rfl rfl Tryz.call132 rfl fun hwf=>?_
 simp only [ARs.wf,AR.wf,AV.wf,AV.wfs,lm,lim] at hwf
 (repeat' ((conv=>whnf);first|(with_reducible refine Br.yes (decide_eq_true rfl) ?_)|(with_reducible refine Br.yes (beq_self_eq_true _) ?_)|refine gA ?_|(refine gB ?_ ?_<;>intro h)|(refine gI ?_;intro x hx)|(refine gJ ?_;intro j x hj hx)|refine gV ?_|intro _))<;>try (conv=>whnf)
 refine aG [0,1] [] [] ?_
 (conv=>whnf)
 refine aC.go ((Nat)) (fun k=>(k≤l.length)) (fun k=>[(5,.data (i64 k))]) (fun _=>[]) (fun _=>[]) (fun k=>l.length - k) (0) ?_ ?_
 ·exact Nat.zero_le _
 rintro k hk
 by_cases hlt:k < l.length
 ·obtain⟨x,hx⟩:∃x,l[k]? =some x:=⟨l[k]'hlt,by simp⟩
  (repeat' ((conv=>whnf);first|with_reducible refine Idx.got hx rfl ?_|(with_reducible refine Br.yes (decide_eq_true rfl) ?_)|(with_reducible refine Br.yes (beq_self_eq_true _) ?_)|refine gA ?_|(refine gB ?_ ?_<;>intro h)|(refine gI ?_;intro x hx)|(refine gJ ?_;intro j x hj hx)|refine gV ?_|refine gC (NT x) ?_|intro _))<;>try (conv=>whnf)
  all_goals first
   |(exfalso;omega)
   |(refine nx (k+1) ?_
     exact (by omega:k+1≤l.length))
 ·(repeat' ((conv=>whnf);first|(exfalso;omega)|refine gA ?_|(refine gB ?_ ?_<;>intro h)|(refine gI ?_;intro x hx)|(refine gJ ?_;intro j x hj hx)|refine gV ?_|intro _))<;>try (conv=>whnf)
  exact⟨rfl,rfl,trivial⟩
theorem DF (x:au):Con 82 [.d x.av,.d x.av] (.d (.bool true)):=by
 refine con Tryz.func82 rfl rfl Tryz.call82 rfl fun hwf=>?_
 (repeat' ((conv=>whnf);first|(with_reducible refine Br.yes (decide_eq_true rfl) ?_)|(with_reducible refine Br.yes (beq_self_eq_true _) ?_)|refine gA ?_|(refine gB ?_ ?_<;>intro h)|refine gC (La x.modes) ?_|intro _))<;>try (conv=>whnf)
 all_goals exact⟨rfl,rfl,trivial⟩
theorem BL (l:List au):Con 43 [.d (.sl (l.map au.av)),.d (.sl (l.map au.av))] (.d (.bool true)):=by
 refine con Tryz.func43 rfl rfl Tryz.call43 rfl fun hwf=>?_
 simp only [ARs.wf,AR.wf,AV.wf,AV.wfs,lm,lim] at hwf
 (repeat' ((conv=>whnf);first|(with_reducible refine Br.yes (decide_eq_true rfl) ?_)|(with_reducible refine Br.yes (beq_self_eq_true _) ?_)|refine gA ?_|(refine gB ?_ ?_<;>intro h)|(refine gI ?_;intro x hx)|(refine gJ ?_;intro j x hj hx)|refine gV ?_|intro _))<;>try (conv=>whnf)
 refine aG [0,1] [] [] ?_
 (conv=>whnf)
 refine aC.go ((Nat)) (fun k=>(k≤l.length)) (fun k=>[(5,.data (i64 k))]) (fun _=>[]) (fun _=>[]) (fun k=>l.length - k) (0) ?_ ?_
 ·exact Nat.zero_le _
 rintro k hk
 by_cases hlt:k < l.length
 ·obtain⟨x,hx⟩:∃x,l[k]? =some x:=⟨l[k]'hlt,by simp⟩
  (repeat' ((conv=>whnf);first|with_reducible refine Idx.got hx rfl ?_|(with_reducible refine Br.yes (decide_eq_true rfl) ?_)|(with_reducible refine Br.yes (beq_self_eq_true _) ?_)|refine gA ?_|(refine gB ?_ ?_<;>intro h)|(refine gI ?_;intro x hx)|(refine gJ ?_;intro j x hj hx)|refine gV ?_|refine gC (DF x) ?_|intro _))<;>try (conv=>whnf)
  all_goals first
   |(exfalso;omega)
   |(refine nx (k+1) ?_
     exact (by omega:k+1≤l.length))
 ·(repeat' ((conv=>whnf);first|(exfalso;omega)|refine gA ?_|(refine gB ?_ ?_<;>intro h)|(refine gI ?_;intro x hx)|(refine gJ ?_;intro j x hj hx)|refine gV ?_|intro _))<;>try (conv=>whnf)
  exact⟨rfl,rfl,trivial⟩
theorem NU (x:Link):Con 83 [.d x.av,.d x.av] (.d (.bool true)):=by
 refine con Tryz.func83 rfl rfl Tryz.call83 rfl fun hwf=>?_
 (repeat' ((conv=>whnf);first|(with_reducible refine Br.yes (decide_eq_true rfl) ?_)|(with_reducible refine Br.yes (beq_self_eq_true _) ?_)|refine gA ?_|(refine gB ?_ ?_<;>intro h)|intro _))<;>try (conv=>whnf)
 all_goals exact⟨rfl,rfl,trivial⟩
theorem Lc (l:List Link):Con 44 [.d (.sl (l.map Link.av)),.d (.sl (l.map Link.av))] (.d (.bool true)):=by
 refine con Tryz.func44 rfl rfl Tryz.call44 rfl fun hwf=>?_
 simp only [ARs.wf,AR.wf,AV.wf,AV.wfs,lm,lim] at hwf
 (repeat' ((conv=>whnf);first|(with_reducible refine Br.yes (decide_eq_true rfl) ?_)|(with_reducible refine Br.yes (beq_self_eq_true _) ?_)|refine gA ?_|(refine gB ?_ ?_<;>intro h)|(refine gI ?_;intro x hx)|(refine gJ ?_;intro j x hj hx)|refine gV ?_|intro _))<;>try (conv=>whnf)
 refine aG [0,1] [] [] ?_
 (conv=>whnf)
 refine aC.go ((Nat)) (fun k=>(k≤l.length)) (fun k=>[(5,.data (i64 k))]) (fun _=>[]) (fun _=>[]) (fun k=>l.length - k) (0) ?_ ?_
 ·exact Nat.zero_le _
 rintro k hk
 by_cases hlt:k < l.length
 ·obtain⟨x,hx⟩:∃x,l[k]? =some x:=⟨l[k]'hlt,by simp⟩
  (repeat' ((conv=>whnf);first|with_reducible refine Idx.got hx rfl ?_|(with_reducible refine Br.yes (decide_eq_true rfl) ?_)|(with_reducible refine Br.yes (beq_self_eq_true _) ?_)|refine gA ?_|(refine gB ?_ ?_<;>intro h)|(refine gI ?_;intro x hx)|(refine gJ ?_;intro j x hj hx)|refine gV ?_|refine gC (NU x) ?_|intro _))<;>try (conv=>whnf)
  all_goals first
   |(exfalso;omega)
   |(refine nx (k+1) ?_
     exact (by omega:k+1≤l.length))
 ·(repeat' ((conv=>whnf);first|(exfalso;omega)|refine gA ?_|(refine gB ?_ ?_<;>intro h)|(refine gI ?_;intro x hx)|(refine gJ ?_;intro j x hj hx)|refine gV ?_|intro _))<;>try (conv=>whnf)
  exact⟨rfl,rfl,trivial⟩
theorem DI (x:aP):Con 84 [.d x.av,.d x.av] (.d (.bool true)):=by
 refine con Tryz.func84 rfl rfl Tryz.call84 rfl fun hwf=>?_
 (repeat' ((conv=>whnf);first|(with_reducible refine Br.yes (decide_eq_true rfl) ?_)|(with_reducible refine Br.yes (beq_self_eq_true _) ?_)|refine gA ?_|(refine gB ?_ ?_<;>intro h)|refine gC (KZ x.steps) ?_|refine gC (KY x.setup) ?_|intro _))<;>try (conv=>whnf)
 all_goals exact⟨rfl,rfl,trivial⟩
theorem BM (l:List aP):Con 45 [.d (.sl (l.map aP.av)),.d (.sl (l.map aP.av))] (.d (.bool true)):=by
 refine con Tryz.func45 rfl rfl Tryz.call45 rfl fun hwf=>?_
 simp only [ARs.wf,AR.wf,AV.wf,AV.wfs,lm,lim] at hwf
 (repeat' ((conv=>whnf);first|(with_reducible refine Br.yes (decide_eq_true rfl) ?_)|(with_reducible refine Br.yes (beq_self_eq_true _) ?_)|refine gA ?_|(refine gB ?_ ?_<;>intro h)|(refine gI ?_;intro x hx)|(refine gJ ?_;intro j x hj hx)|refine gV ?_|intro _))<;>try (conv=>whnf)
 refine aG [0,1] [] [] ?_
 (conv=>whnf)
 refine aC.go ((Nat)) (fun k=>(k≤l.length)) (fun k=>[(5,.data (i64 k))]) (fun _=>[]) (fun _=>[]) (fun k=>l.length - k) (0) ?_ ?_
 ·exact Nat.zero_le _
 rintro k hk
 by_cases hlt:k < l.length
 ·obtain⟨x,hx⟩:∃x,l[k]? =some x:=⟨l[k]'hlt,by simp⟩
  (repeat' ((conv=>whnf);first|with_reducible refine Idx.got hx rfl ?_|(with_reducible refine Br.yes (decide_eq_true rfl) ?_)|(with_reducible refine Br.yes (beq_self_eq_true _) ?_)|refine gA ?_|(refine gB ?_ ?_<;>intro h)|(refine gI ?_;intro x hx)|(refine gJ ?_;intro j x hj hx)|refine gV ?_|refine gC (DI x) ?_|intro _))<;>try (conv=>whnf)
  all_goals first
   |(exfalso;omega)
   |(refine nx (k+1) ?_
     exact (by omega:k+1≤l.length))
 ·(repeat' ((conv=>whnf);first|(exfalso;omega)|refine gA ?_|(refine gB ?_ ?_<;>intro h)|(refine gI ?_;intro x hx)|(refine gJ ?_;intro j x hj hx)|refine gV ?_|intro _))<;>try (conv=>whnf)
  exact⟨rfl,rfl,trivial⟩
theorem Gi (x:Proj):Con 12 [.d x.av,.d x.av] (.d (.bool true)):=by
 refine con Tryz.func12 rfl rfl Tryz.call12 rfl fun hwf=>?_
 (repeat' ((conv=>whnf);first|(with_reducible refine Br.yes (decide_eq_true rfl) ?_)|(with_reducible refine Br.yes (beq_self_eq_true _) ?_)|refine gA ?_|(refine gB ?_ ?_<;>intro h)|refine gC (BL x.acts) ?_|refine gC (Lc x.links) ?_|refine gC (BM x.aU) ?_|refine gC (lD x.aL) ?_|intro _))<;>try (conv=>whnf)
 all_goals exact⟨rfl,rfl,trivial⟩
theorem kS (x:aA):Con 11 [.d x.av,.d x.av] (.d (.bool true)):=by
 refine con Tryz.func11 rfl rfl Tryz.call11 rfl fun hwf=>?_
 (repeat' ((conv=>whnf);first|(with_reducible refine Br.yes (decide_eq_true rfl) ?_)|(with_reducible refine Br.yes (beq_self_eq_true _) ?_)|refine gA ?_|(refine gB ?_ ?_<;>intro h)|refine gC (lD x.starts) ?_|refine gC (lD x.modes) ?_|intro _))<;>try (conv=>whnf)
 all_goals exact⟨rfl,rfl,trivial⟩
open Go.Proofs
theorem lF (l:List Int) (n:Int) (hn:Sz n):Con 19 [.d (.sl (l.map i64)),.d (i64 n)] (.d (i64 (szN l.length n))):=by
 refine con Tryz.func19 rfl rfl Tryz.call19 rfl fun hwf=>?_
 simp only [ARs.wf,AR.wf,AV.wf,AV.wfs,lm,lim] at hwf
 unfold Sz at hn
 (repeat' ((conv=>whnf);first|refine gA ?_|(refine gB ?_ ?_<;>intro h)|refine gV ?_|intro _))<;>try (conv=>whnf)
 all_goals refine⟨?_,rfl,trivial⟩
 all_goals (simp only [szN,List.length_map];first|(rw [if_pos (by omega)];done)|(rw [if_neg (by omega)];done))
theorem Ld (l:List (List Int)) (n:Int) (hn:Sz n):Con 91 [.d (.sl (l.map ints)),.d (i64 n)] (.d (i64 (szS (fun x n=>szN x.length n) l n))):=by
 refine con Tryz.func91 rfl rfl Tryz.call91 rfl fun hwf=>?_
 simp only [ARs.wf,AR.wf,AV.wf,AV.wfs,lm,lim] at hwf
 have hn':=hn
 unfold Sz at hn'
 (repeat' ((conv=>whnf);first|refine gA ?_|(refine gB ?_ ?_<;>intro h)|(refine gI ?_;intro x hx)|(refine gJ ?_;intro j x hj hx)|refine gV ?_|intro _))<;>try (conv=>whnf)
 rotate_left
 ·refine aG [0] [] [] ?_
  (conv=>whnf)
  refine aC.go ((Nat)×(Int)) (fun⟨k,m⟩=>(k≤l.length)∧(Sz m∧0≤m)∧(szL (fun x n=>szN x.length n) (l.drop k) m=szS (fun x n=>szN x.length n) l n)) (fun⟨k,m⟩=>[(5,.data (i64 k)),(1,.data (i64 m))]) (fun _=>[]) (fun _=>[]) (fun⟨k,m⟩=>l.length - k) ⟨0,n - ((l.map ints).length:Int)⟩ ?_ ?_
  ·simp only [List.length_map]
   refine⟨by omega,by unfold Sz;omega,?_⟩
   rw [szS,szN,if_neg (by omega),szB,if_neg (by omega)];rfl
  rintro⟨k,m⟩ ⟨hk,hm,hi⟩
  have hm':=hm.1
  unfold Sz at hm'
  (repeat' ((conv=>whnf);first|refine gA ?_|(refine gB ?_ ?_<;>intro h)|(refine gI ?_;intro x hx)|(refine gJ ?_;intro j x hj hx)|refine gV ?_|refine gC (lF x m hm.1) ?_|intro _))<;>try (conv=>whnf)
  ·refine⟨?_,rfl,trivial⟩
   rw [ay hx,szL,szB,if_pos (by assumption)] at hi
   rw [← hi]
  ·apply Exists.intro (⟨k+1,_⟩)
   refine⟨?_,rfl,?_,?_⟩
   rotate_left
   ·(repeat' ((conv=>whnf)<;>(first|exact trivial|exact rfl|with_reducible refine And.intro ?_ ?_)))
   ·(try dsimp only);(try simp only [List.length_map]);omega
   rw [ay hx,szL,szB,if_neg (by assumption)] at hi
   exact⟨by omega,⟨jI hm.1,by omega⟩,hi⟩
  ·refine⟨?_,rfl,trivial⟩
   rw [← hi,aQ (by assumption)];rfl
 ·refine⟨?_,rfl,trivial⟩
  rw [szS,szN,if_pos (by omega)];rfl
theorem Le (l:List Step) (n:Int) (hn:Sz n):Con 90 [.d (.sl (l.map Step.av)),.d (i64 n)] (.d (i64 (szN l.length n))):=by
 refine con Tryz.func90 rfl rfl Tryz.call90 rfl fun hwf=>?_
 simp only [ARs.wf,AR.wf,AV.wf,AV.wfs,lm,lim] at hwf
 unfold Sz at hn
 (repeat' ((conv=>whnf);first|refine gA ?_|(refine gB ?_ ?_<;>intro h)|refine gV ?_|intro _))<;>try (conv=>whnf)
 all_goals refine⟨?_,rfl,trivial⟩
 all_goals (simp only [szN,List.length_map];first|(rw [if_pos (by omega)];done)|(rw [if_neg (by omega)];done))
def ny (x:Mode) (n:Int):Int:=szB (szN x.use.length n) fun n=>szB (szN x.con.length n) fun n=>n
theorem Jg {x:Mode} {n:Int} (h:Sz n):Sz (ny x n):=by
 unfold ny
 refine ou (jI h) fun h=>?_
 refine ou (jI h) fun h=>?_
 exact h
theorem NV (x:Mode) (n:Int) (hn:Sz n):Con 135 [.d x.av,.d (i64 n)] (.d (i64 (ny x n))):=by
 refine con Tryz.func135 rfl rfl Tryz.call135 rfl fun hwf=>?_
 simp only [ARs.wf,AR.wf,AV.wf,AV.wfs,lm,lim] at hwf
 have h0:Sz (szN x.use.length n):=jI hn
 have h1:Sz (szN x.con.length (szN x.use.length n)):=jI h0
 (repeat' ((conv=>whnf);first|refine gA ?_|(refine gB ?_ ?_<;>intro h)|refine gC (lF x.use n hn) ?_|refine gC (lF x.con (szN x.use.length n) h0) ?_|intro _))<;>try (conv=>whnf)
 all_goals refine⟨?_,rfl,trivial⟩
 all_goals (unfold ny;simp only [szB, *,if_true,if_false,ite_true,ite_false])
theorem Lf (l:List Mode) (n:Int) (hn:Sz n):Con 89 [.d (.sl (l.map Mode.av)),.d (i64 n)] (.d (i64 (szS (fun x n=>ny x n) l n))):=by
 refine con Tryz.func89 rfl rfl Tryz.call89 rfl fun hwf=>?_
 simp only [ARs.wf,AR.wf,AV.wf,AV.wfs,lm,lim] at hwf
 have hn':=hn
 unfold Sz at hn'
 (repeat' ((conv=>whnf);first|refine gA ?_|(refine gB ?_ ?_<;>intro h)|(refine gI ?_;intro x hx)|(refine gJ ?_;intro j x hj hx)|refine gV ?_|intro _))<;>try (conv=>whnf)
 rotate_left
 ·refine aG [0] [] [] ?_
  (conv=>whnf)
  refine aC.go ((Nat)×(Int)) (fun⟨k,m⟩=>(k≤l.length)∧(Sz m∧0≤m)∧(szL (fun x n=>ny x n) (l.drop k) m=szS (fun x n=>ny x n) l n)) (fun⟨k,m⟩=>[(5,.data (i64 k)),(1,.data (i64 m))]) (fun _=>[]) (fun _=>[]) (fun⟨k,m⟩=>l.length - k) ⟨0,n - ((l.map Mode.av).length:Int)⟩ ?_ ?_
  ·simp only [List.length_map]
   refine⟨by omega,by unfold Sz;omega,?_⟩
   rw [szS,szN,if_neg (by omega),szB,if_neg (by omega)];rfl
  rintro⟨k,m⟩ ⟨hk,hm,hi⟩
  have hm':=hm.1
  unfold Sz at hm'
  (repeat' ((conv=>whnf);first|refine gA ?_|(refine gB ?_ ?_<;>intro h)|(refine gI ?_;intro x hx)|(refine gJ ?_;intro j x hj hx)|refine gV ?_|refine gC (NV x m hm.1) ?_|intro _))<;>try (conv=>whnf)
  ·refine⟨?_,rfl,trivial⟩
   rw [ay hx,szL,szB,if_pos (by assumption)] at hi
   rw [← hi]
  ·apply Exists.intro (⟨k+1,_⟩)
   refine⟨?_,rfl,?_,?_⟩
   rotate_left
   ·(repeat' ((conv=>whnf)<;>(first|exact trivial|exact rfl|with_reducible refine And.intro ?_ ?_)))
   ·(try dsimp only);(try simp only [List.length_map]);omega
   rw [ay hx,szL,szB,if_neg (by assumption)] at hi
   exact⟨by omega,⟨Jg hm.1,by omega⟩,hi⟩
  ·refine⟨?_,rfl,trivial⟩
   rw [← hi,aQ (by assumption)];rfl
 ·refine⟨?_,rfl,trivial⟩
  rw [szS,szN,if_pos (by omega)];rfl
def bD (x:au) (n:Int):Int:=szB (szN x.name.size n) fun n=>szB (szS (fun x n=>ny x n) x.modes n) fun n=>n
theorem rT {x:au} {n:Int} (h:Sz n):Sz (bD x n):=by
 unfold bD
 refine ou (jI h) fun h=>?_
 refine ou ((yj fun h=>Jg h) h) fun h=>?_
 exact h
theorem DJ (x:au) (n:Int) (hn:Sz n) (hf:x.name.size≤lim):Con 51 [.d x.av,.d (i64 n)] (.d (i64 (bD x n))):=by
 refine con Tryz.func51 rfl rfl Tryz.call51 rfl fun hwf=>?_
 simp only [ARs.wf,AR.wf,AV.wf,AV.wfs,lm,lim] at hwf
 have hn':=hn
 unfold Sz at hn'
 unfold lim at hf
 by_cases hneg:n - (x.name.size:Int) < 0
 ·(repeat' ((conv=>whnf);first|refine gA ?_|(refine gB ?_ ?_<;>intro h)|refine gV ?_|intro _))<;>try (conv=>whnf)
  ·refine⟨?_,rfl,trivial⟩
   rw [bD,szN,if_pos hneg];rfl
  ·exact absurd hneg (by assumption)
 ·have h0:Sz (n - (x.name.size:Int)):=by unfold Sz;omega
  (repeat' ((conv=>whnf);first|refine gA ?_|(refine gB ?_ ?_<;>intro h)|refine gV ?_|refine gC (Lf x.modes _ h0) ?_|intro _))<;>try (conv=>whnf)
  all_goals first
   |(exfalso;exact hneg (by assumption))
   |(refine⟨?_,rfl,trivial⟩;rw [bD,szN,if_neg hneg,szB,if_neg hneg,szB];first|(rw [if_pos (by assumption)];done)|(rw [if_neg (by assumption)];done))
theorem BN (l:List au) (n:Int) (hn:Sz n) (hf:∀x∈l,x.name.size≤lim):Con 16 [.d (.sl (l.map au.av)),.d (i64 n)] (.d (i64 (szS (fun x n=>bD x n) l n))):=by
 refine con Tryz.func16 rfl rfl Tryz.call16 rfl fun hwf=>?_
 simp only [ARs.wf,AR.wf,AV.wf,AV.wfs,lm,lim] at hwf
 have hn':=hn
 unfold Sz at hn'
 (repeat' ((conv=>whnf);first|refine gA ?_|(refine gB ?_ ?_<;>intro h)|(refine gI ?_;intro x hx)|(refine gJ ?_;intro j x hj hx)|refine gV ?_|intro _))<;>try (conv=>whnf)
 rotate_left
 ·refine aG [0] [] [] ?_
  (conv=>whnf)
  refine aC.go ((Nat)×(Int)) (fun⟨k,m⟩=>(k≤l.length)∧(Sz m∧0≤m)∧(szL (fun x n=>bD x n) (l.drop k) m=szS (fun x n=>bD x n) l n)) (fun⟨k,m⟩=>[(5,.data (i64 k)),(1,.data (i64 m))]) (fun _=>[]) (fun _=>[]) (fun⟨k,m⟩=>l.length - k) ⟨0,n - ((l.map au.av).length:Int)⟩ ?_ ?_
  ·simp only [List.length_map]
   refine⟨by omega,by unfold Sz;omega,?_⟩
   rw [szS,szN,if_neg (by omega),szB,if_neg (by omega)];rfl
  rintro⟨k,m⟩ ⟨hk,hm,hi⟩
  have hm':=hm.1
  unfold Sz at hm'
  (repeat' ((conv=>whnf);first|refine gA ?_|(refine gB ?_ ?_<;>intro h)|(refine gI ?_;intro x hx)|(refine gJ ?_;intro j x hj hx)|refine gV ?_|refine gC (DJ x m hm.1 (hf x (List.mem_of_getElem? hx))) ?_|intro _))<;>try (conv=>whnf)
  ·refine⟨?_,rfl,trivial⟩
   rw [ay hx,szL,szB,if_pos (by assumption)] at hi
   rw [← hi]
  ·apply Exists.intro (⟨k+1,_⟩)
   refine⟨?_,rfl,?_,?_⟩
   rotate_left
   ·(repeat' ((conv=>whnf)<;>(first|exact trivial|exact rfl|with_reducible refine And.intro ?_ ?_)))
   ·(try dsimp only);(try simp only [List.length_map]);omega
   rw [ay hx,szL,szB,if_neg (by assumption)] at hi
   exact⟨by omega,⟨rT hm.1,by omega⟩,hi⟩
  ·refine⟨?_,rfl,trivial⟩
   rw [← hi,aQ (by assumption)];rfl
 ·refine⟨?_,rfl,trivial⟩
  rw [szS,szN,if_pos (by omega)];rfl
theorem Lh (l:List Link) (n:Int) (hn:Sz n):Con 17 [.d (.sl (l.map Link.av)),.d (i64 n)] (.d (i64 (szN l.length n))):=by
 refine con Tryz.func17 rfl rfl Tryz.call17 rfl fun hwf=>?_
 simp only [ARs.wf,AR.wf,AV.wf,AV.wfs,lm,lim] at hwf
 unfold Sz at hn
 (repeat' ((conv=>whnf);first|refine gA ?_|(refine gB ?_ ?_<;>intro h)|refine gV ?_|intro _))<;>try (conv=>whnf)
 all_goals refine⟨?_,rfl,trivial⟩
 all_goals (simp only [szN,List.length_map];first|(rw [if_pos (by omega)];done)|(rw [if_neg (by omega)];done))
def cZ (x:aP) (n:Int):Int:=szB (szN x.steps.length n) fun n=>szB (szS (fun x n=>szN x.length n) x.setup n) fun n=>n
theorem rU {x:aP} {n:Int} (h:Sz n):Sz (cZ x n):=by
 unfold cZ
 refine ou (jI h) fun h=>?_
 refine ou ((yj fun h=>jI h) h) fun h=>?_
 exact h
theorem DK (x:aP) (n:Int) (hn:Sz n):Con 52 [.d x.av,.d (i64 n)] (.d (i64 (cZ x n))):=by
 refine con Tryz.func52 rfl rfl Tryz.call52 rfl fun hwf=>?_
 simp only [ARs.wf,AR.wf,AV.wf,AV.wfs,lm,lim] at hwf
 have h0:Sz (szN x.steps.length n):=jI hn
 have h1:Sz (szS (fun x n=>szN x.length n) x.setup (szN x.steps.length n)):=yj (fun h=>jI h) h0
 (repeat' ((conv=>whnf);first|refine gA ?_|(refine gB ?_ ?_<;>intro h)|refine gC (Le x.steps n hn) ?_|refine gC (Ld x.setup (szN x.steps.length n) h0) ?_|intro _))<;>try (conv=>whnf)
 all_goals refine⟨?_,rfl,trivial⟩
 all_goals (unfold cZ;simp only [szB, *,if_true,if_false,ite_true,ite_false])
theorem BO (l:List aP) (n:Int) (hn:Sz n):Con 18 [.d (.sl (l.map aP.av)),.d (i64 n)] (.d (i64 (szS (fun x n=>cZ x n) l n))):=by
 refine con Tryz.func18 rfl rfl Tryz.call18 rfl fun hwf=>?_
 simp only [ARs.wf,AR.wf,AV.wf,AV.wfs,lm,lim] at hwf
 have hn':=hn
 unfold Sz at hn'
 (repeat' ((conv=>whnf);first|refine gA ?_|(refine gB ?_ ?_<;>intro h)|(refine gI ?_;intro x hx)|(refine gJ ?_;intro j x hj hx)|refine gV ?_|intro _))<;>try (conv=>whnf)
 rotate_left
 ·refine aG [0] [] [] ?_
  (conv=>whnf)
  refine aC.go ((Nat)×(Int)) (fun⟨k,m⟩=>(k≤l.length)∧(Sz m∧0≤m)∧(szL (fun x n=>cZ x n) (l.drop k) m=szS (fun x n=>cZ x n) l n)) (fun⟨k,m⟩=>[(5,.data (i64 k)),(1,.data (i64 m))]) (fun _=>[]) (fun _=>[]) (fun⟨k,m⟩=>l.length - k) ⟨0,n - ((l.map aP.av).length:Int)⟩ ?_ ?_
  ·simp only [List.length_map]
   refine⟨by omega,by unfold Sz;omega,?_⟩
   rw [szS,szN,if_neg (by omega),szB,if_neg (by omega)];rfl
  rintro⟨k,m⟩ ⟨hk,hm,hi⟩
  have hm':=hm.1
  unfold Sz at hm'
  (repeat' ((conv=>whnf);first|refine gA ?_|(refine gB ?_ ?_<;>intro h)|(refine gI ?_;intro x hx)|(refine gJ ?_;intro j x hj hx)|refine gV ?_|refine gC (DK x m hm.1) ?_|intro _))<;>try (conv=>whnf)
  ·refine⟨?_,rfl,trivial⟩
   rw [ay hx,szL,szB,if_pos (by assumption)] at hi
   rw [← hi]
  ·apply Exists.intro (⟨k+1,_⟩)
   refine⟨?_,rfl,?_,?_⟩
   rotate_left
   ·(repeat' ((conv=>whnf)<;>(first|exact trivial|exact rfl|with_reducible refine And.intro ?_ ?_)))
   ·(try dsimp only);(try simp only [List.length_map]);omega
   rw [ay hx,szL,szB,if_neg (by assumption)] at hi
   exact⟨by omega,⟨rU hm.1,by omega⟩,hi⟩
  ·refine⟨?_,rfl,trivial⟩
   rw [← hi,aQ (by assumption)];rfl
 ·refine⟨?_,rfl,trivial⟩
  rw [szS,szN,if_pos (by omega)];rfl
def eH (x:Proj) (n:Int):Int:=szB (szS (fun x n=>bD x n) x.acts n) fun n=>szB (szN x.links.length n) fun n=>szB (szS (fun x n=>cZ x n) x.aU n) fun n=>szB (szN x.aL.length n) fun n=>n
theorem Av {x:Proj} {n:Int} (h:Sz n):Sz (eH x n):=by
 unfold eH
 refine ou ((yj fun h=>rT h) h) fun h=>?_
 refine ou (jI h) fun h=>?_
 refine ou ((yj fun h=>rU h) h) fun h=>?_
 refine ou (jI h) fun h=>?_
 exact h
theorem qI (x:Proj) (n:Int) (hn:Sz n) (hf:∀y∈x.acts,y.name.size≤lim):Con 4 [.d x.av,.d (i64 n)] (.d (i64 (eH x n))):=by
 refine con Tryz.func4 rfl rfl Tryz.call4 rfl fun hwf=>?_
 simp only [ARs.wf,AR.wf,AV.wf,AV.wfs,lm,lim] at hwf
 have h0:Sz (szS (fun x n=>bD x n) x.acts n):=yj (fun h=>rT h) hn
 have h1:Sz (szN x.links.length (szS (fun x n=>bD x n) x.acts n)):=jI h0
 have h2:Sz (szS (fun x n=>cZ x n) x.aU (szN x.links.length (szS (fun x n=>bD x n) x.acts n))):=yj (fun h=>rU h) h1
 have h3:Sz (szN x.aL.length (szS (fun x n=>cZ x n) x.aU (szN x.links.length (szS (fun x n=>bD x n) x.acts n)))):=jI h2
 (repeat' ((conv=>whnf);first|refine gA ?_|(refine gB ?_ ?_<;>intro h)|refine gC (BN x.acts n hn hf) ?_|refine gC (Lh x.links (szS (fun x n=>bD x n) x.acts n) h0) ?_|refine gC (BO x.aU (szN x.links.length (szS (fun x n=>bD x n) x.acts n)) h1) ?_|refine gC (lF x.aL (szS (fun x n=>cZ x n) x.aU (szN x.links.length (szS (fun x n=>bD x n) x.acts n))) h2) ?_|intro _))<;>try (conv=>whnf)
 all_goals refine⟨?_,rfl,trivial⟩
 all_goals (unfold eH;simp only [szB, *,if_true,if_false,ite_true,ite_false])
def iJ (x:aA) (n:Int):Int:=szB (szN x.starts.length n) fun n=>szB (szN x.modes.length n) fun n=>n
theorem uU (x:aA) (n:Int) (hn:Sz n):Con 5 [.d x.av,.d (i64 n)] (.d (i64 (iJ x n))):=by
 refine con Tryz.func5 rfl rfl Tryz.call5 rfl fun hwf=>?_
 simp only [ARs.wf,AR.wf,AV.wf,AV.wfs,lm,lim] at hwf
 have h0:Sz (szN x.starts.length n):=jI hn
 have h1:Sz (szN x.modes.length (szN x.starts.length n)):=jI h0
 (repeat' ((conv=>whnf);first|refine gA ?_|(refine gB ?_ ?_<;>intro h)|refine gC (lF x.starts n hn) ?_|refine gC (lF x.modes (szN x.starts.length n) h0) ?_|intro _))<;>try (conv=>whnf)
 all_goals refine⟨?_,rfl,trivial⟩
 all_goals (unfold iJ;simp only [szB, *,if_true,if_false,ite_true,ite_false])
end Go.Proofs.YtpfgedlimdeffaaGreat.Abs
