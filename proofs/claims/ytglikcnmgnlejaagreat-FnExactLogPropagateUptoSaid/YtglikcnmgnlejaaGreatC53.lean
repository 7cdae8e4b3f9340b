/- Contracts: logs as separate data: propagation. -/
import Derived.Test.YtglikcnmgnlejaaGreatC51
set_option linter.all false
set_option maxRecDepth 20000
set_option maxHeartbeats 0
namespace Go.Proofs.YtglikcnmgnlejaaGreat.Abs
open Go.Proofs Go.RowKit
attribute [local irreducible] eY iR bV status litValue
theorem Po (g:Lg) (s:Infer):Wh (sI g s)= .agg [.d (i64 g.proj.dead),.lin 139 (g.proj.acts.map aC.av),.lin 155 (g.proj.links.map Link.av),.lin 145 (g.proj.aU.map aL.av),.lin 3 (g.proj.aO.map i64),.lin 3 ((restrict g.dom s.lit).lo.map i64),.lin 3 ((restrict g.dom s.lit).hi.map i64),.lin 25 ((restrict g.dom s.lit).modes.map ints),.lin 190 (g.decs.map Lit.av),.lin 212 (g.lines.map Lin.av++[(jm s).av])]:=by
 have h:Wh (sI g s)= .agg [.d (i64 g.proj.dead),.lin 139 (g.proj.acts.map aC.av),.lin 155 (g.proj.links.map Link.av),.lin 145 (g.proj.aU.map aL.av),.lin 3 (g.proj.aO.map i64),.lin 3 ((restrict g.dom s.lit).lo.map i64),.lin 3 ((restrict g.dom s.lit).hi.map i64),.lin 25 ((restrict g.dom s.lit).modes.map ints),.lin 190 (g.decs.map Lit.av),.lin 212 ((g.lines++[jm s]).map Lin.av)]:=rfl
 rw [h,List.map_append];rfl
theorem vB (g:Lg) (s:Infer) (hp:g.proj.fine):Con 195 [.d g.av,.d s.av] (aai (mF g s)):=by
 refine con Tryz.func195 rfl rfl Tryz.call195 rfl fun hwf=>?_
 simp only [ARs.wf,AR.wf,AV.wf,AV.wfs,lm,lim] at hwf
 have hL:=uo g.proj g.lines (jm s) hp
 have hS:=jJ g.dom s.clause
 rw [KQ] at hS
 by_cases hc:bV g.proj g.lines (jm s)=0
 rotate_left
 ·rw [iI (by simp [cu,hc])]
  (repeat' ((conv=>whnf);first|with_reducible refine Br.yes (by simp [hc]) ?_|refine gA ?_|(refine gB ?_ ?_<;>intro h)|refine gP ?_|refine gC (bR s.clause) ?_|refine gC (hL) ?_|intro _))<;>try (conv=>whnf)
  exact fv
 have aeR:=GX hc
 rw [hc] at hL
 rcases yx g.dom s.clause with h1|h1|h1
 ·rw [iI (by simp [cu,hc,jT,h1])]
  rw [h1] at hS
  (repeat' ((conv=>whnf);first|refine gA ?_|(refine gB ?_ ?_<;>intro h)|refine gP ?_|refine gC (bR s.clause) ?_|refine gC (hL) ?_|refine gC (hS) ?_|intro _))<;>try (conv=>whnf)
  all_goals first
   |(exfalso;omega)
   |(exfalso;exact absurd trivial (by assumption))
   |exact fv
 ·rw [h1] at hS
  cases hz:aV (status g.dom s.clause).2 bG with
  |true=>
   have hz':=Fb hz
   rw [iI (by simp [cu,hc,jT,h1,hz])]
   (repeat' ((conv=>whnf);first|with_reducible refine Br.yes hz' ?_|refine gA ?_|(refine gB ?_ ?_<;>intro h)|refine gP ?_|refine gC (bR s.clause) ?_|refine gC (hL) ?_|refine gC (hS) ?_|intro _))<;>try (conv=>whnf)
   all_goals first
    |(exfalso;omega)
    |(exfalso;exact absurd trivial (by assumption))
    |exact fv
  |false=>
  have hz':=Fb hz
  cases he:aV (status g.dom s.clause).2 s.lit with
  |true=>
   rw [qE (by simp [cu,hc,jT,h1,he,hz]),yD,Po]
   have he':=yA he
   (repeat' ((conv=>whnf);first|with_reducible refine Br.no hz' ?_|with_reducible refine Br.yes he' ?_|refine gA ?_|(refine gB ?_ ?_<;>intro h)|refine gP ?_|refine gC (bR s.clause) ?_|refine gC (hL) ?_|refine gC (hS) ?_|refine gC (nP g) ?_|refine gC (vw g.dom s.lit) ?_|intro _))<;>try (conv=>whnf)
   all_goals first
    |(exfalso;omega)
    |(exfalso;exact absurd trivial (by assumption))
    |exact fv
  |false=>
   rw [iI (by simp [cu,hc,jT,h1,he])]
   have he':=yA he
   (repeat' ((conv=>whnf);first|with_reducible refine Br.no hz' ?_|with_reducible refine Br.no he' ?_|refine gA ?_|(refine gB ?_ ?_<;>intro h)|refine gP ?_|refine gC (bR s.clause) ?_|refine gC (hL) ?_|refine gC (hS) ?_|intro _))<;>try (conv=>whnf)
   all_goals first
    |(exfalso;omega)
    |(exfalso;exact absurd trivial (by assumption))
    |exact fv
 ·rw [h1] at hS
  by_cases he:litValue g.dom s.lit=1
  ·rw [qE (by simp [cu,hc,jT,h1,he]),yD,Po]
   (repeat' ((conv=>whnf);first|refine gA ?_|(refine gB ?_ ?_<;>intro h)|refine gP ?_|refine gC (bR s.clause) ?_|refine gC (hL) ?_|refine gC (hS) ?_|refine gC (jI g.dom s.lit) ?_|refine gC (nP g) ?_|refine gC (vw g.dom s.lit) ?_|intro _))<;>try (conv=>whnf)
   all_goals first
    |(exfalso;omega)
    |(exfalso;exact absurd trivial (by assumption))
    |exact fv
  ·rw [iI (by simp [cu,hc,jT,h1,he])]
   (repeat' ((conv=>whnf);first|refine gA ?_|(refine gB ?_ ?_<;>intro h)|refine gP ?_|refine gC (bR s.clause) ?_|refine gC (hL) ?_|refine gC (hS) ?_|refine gC (jI g.dom s.lit) ?_|intro _))<;>try (conv=>whnf)
   all_goals first
    |(exfalso;omega)
    |(exfalso;exact absurd trivial (by assumption))
    |exact fv
def aaj (r:Lg×Nat):RV:=.tup [Wh r.1,.d (i64 r.2)]
theorem Fj (g:Lg) (most:Nat) (hp:g.proj.fine) (hs:most=0∨ng g=none):Con 89 [.d g.av,.d (i64 most)] (.tup [.arg 0 0 10,.d (i64 0)]):=by
 refine afL Tryz.func89 rfl rfl Tryz.call89 rfl fun hwf=>?_
 (repeat' ((conv=>whnf);first|refine gA ?_|(refine gB ?_ ?_<;>intro h)|refine gV ?_|intro _))<;>try (conv=>whnf)
 refine au [1,4,6] [4] [] ?_
 (conv=>whnf)
 refine ak.go Nat (fun n=>n=0) (fun n=>[(7,.data (i64 n))]) (fun n=>[(6,wu 0 0 (AV.cells g.av))]) (fun _=>[]) (fun n=>0) 0 rfl ?_
 rintro n hn
 have hF:=rY g.proj g.dom hp
 by_cases hlt:n < most
 rotate_left
 ·subst hn
  (repeat' ((conv=>whnf);first|(exfalso;omega)|refine gA ?_|(refine gB ?_ ?_<;>intro h)|refine gV ?_|intro _))<;>try (conv=>whnf)
  exact fv
 have hs:ng g=none:=hs.resolve_left (by omega)
 subst hn
 rw [qF] at hs
 cases h1:eY g.proj g.dom with
 |none=>
  rw [Yw,h1] at hF
  dsimp only [Option.getD,Option.isSome] at hF
  (repeat' ((conv=>whnf);first|(exfalso;omega)|refine gA ?_|(refine gB ?_ ?_<;>intro h)|refine gV ?_|refine gC (hF) ?_|intro _))<;>try (conv=>whnf)
  all_goals exact fv
 |some s=>
  rw [h1] at hs
  rw [Yw,h1] at hF
  dsimp only [Option.getD,Option.isSome] at hF
  have hI:=NH g s hp
  have hs:mF g s=none:=hs
  rw [Fa,hs] at hI
  dsimp only [Option.getD,Option.isSome] at hI
  (repeat' ((conv=>whnf);first|(exfalso;omega)|refine gA ?_|(refine gB ?_ ?_<;>intro h)|refine gV ?_|refine gC (hF) ?_|refine gC (hI) ?_|intro _))<;>try (conv=>whnf)
  all_goals exact fv
def aak (h:Lg):Nat→List SV
 |0=>(AV.cells h.av).map SV.data
 |_+1=>[.data (i64 h.proj.dead),.own 9000012 0,.own 9000013 0,.own 9000014 0,.own 9000015 0,.own 9000016 0,.own 9000017 0,.own 9000018 0,.own 9000019 0,.own 9000020 0]
def abh (h:Lg):Nat→List (Nat×Nat×List AV×Nat)
 |0=>[]
 |_+1=>[(9000012,139,h.proj.acts.map aC.av,1),(9000013,155,h.proj.links.map Link.av,1),(9000014,145,h.proj.aU.map aL.av,1),(9000015,3,h.proj.aO.map i64,1),(9000016,3,h.dom.lo.map i64,1),(9000017,3,h.dom.hi.map i64,1),(9000018,25,h.dom.modes.map ints,1),(9000019,190,h.decs.map Lit.av,1),(9000020,212,h.lines.map Lin.av,1)]
theorem BF (g g1:Lg) (most:Nat) (hp:g.proj.fine) (hm:most≤60) (h0:0 < most) (hs:ng g=some g1):Con 89 [.d g.av,.d (i64 most)] (aaj (lJ most 0 g)):=by
 refine con Tryz.func89 rfl rfl Tryz.call89 rfl fun hwf=>?_
 generalize hR:lJ most 0 g=R
 (repeat' ((conv=>whnf);first|refine gA ?_|(refine gB ?_ ?_<;>intro h)|refine gV ?_|intro _))<;>try (conv=>whnf)
 refine au [1,4,6] [4] [] ?_
 (conv=>whnf)
 refine ak.go (Nat×Lg) (fun⟨n,h⟩=>n≤most∧h.proj=g.proj∧lJ (most - n) n h=R∧(n=0→h=g)) (fun⟨n,h⟩=>[(7,.data (i64 n))]) (fun⟨n,h⟩=>[(6,aak h n)]) (fun⟨n,h⟩=>abh h n) (fun⟨n,h⟩=>most - n) ⟨0,g⟩ ?_ ?_
 ·exact⟨Nat.zero_le _,rfl,hR,fun _=>rfl⟩
 rintro⟨n,h⟩ ⟨hn,hj,he,hz⟩
 have hph:h.proj.fine:=hj ▸ hp
 have hF:=rY h.proj h.dom hph
 rcases n with _|n
 ·obtain rfl:=hz rfl
  rw [show most - 0=(most - 1)+1 by omega,rE,hs] at he
  have he:lJ (most - 1) (0+1) g1=R:=he
  rw [qF] at hs
  cases h1:eY h.proj h.dom with
  |none=>rw [h1] at hs;cases hs
  |some s=>
   rw [h1] at hs
   rw [Yw,h1] at hF
   dsimp only [Option.getD,Option.isSome] at hF
   have hs:mF h s=some g1:=hs
   have hI:=vB h s hph
   rw [hs,yD] at hI
   (repeat' ((conv=>whnf);first|(exfalso;omega)|refine gA ?_|(refine gB ?_ ?_<;>intro h)|refine gV ?_|refine gC (hF) ?_|refine gC (hI) ?_|intro _))<;>try (conv=>whnf)
   all_goals
    refine nx ⟨0+1,g1⟩ ?_
    exact⟨by omega,(Am hs).trans hj,he,fun e=>by omega⟩
 by_cases hlt:n+1 < most
 rotate_left
 ·rw [show most - (n+1)=0 by omega,Al] at he
  subst he
  (repeat' ((conv=>whnf);first|(exfalso;omega)|refine gA ?_|(refine gB ?_ ?_<;>intro h)|refine gV ?_|intro _))<;>try (conv=>whnf)
  exact fv
 rw [show most - (n+1)=(most - (n+1+1))+1 by omega,rE] at he
 cases h1:eY h.proj h.dom with
 |none=>
  rw [qF,h1] at he
  rw [Yw,h1] at hF
  dsimp only [Option.getD,Option.isSome] at hF
  have he:(h,n+1)=R:=he
  subst he
  (repeat' ((conv=>whnf);first|(exfalso;omega)|refine gA ?_|(refine gB ?_ ?_<;>intro h)|refine gV ?_|refine gC (hF) ?_|intro _))<;>try (conv=>whnf)
  all_goals exact fv
 |some s=>
  rw [Yw,h1] at hF
  dsimp only [Option.getD,Option.isSome] at hF
  have hI:=vB h s hph
  have e1:ng h=mF h s:=by rw [qF,h1]
  rw [e1] at he
  cases h2:mF h s with
  |none=>
   rw [h2] at he
   rw [h2,Wo] at hI
   have he:(h,n+1)=R:=he
   subst he
   (repeat' ((conv=>whnf);first|(exfalso;omega)|refine gA ?_|(refine gB ?_ ?_<;>intro h)|refine gV ?_|refine gC (hF) ?_|refine gC (hI) ?_|intro _))<;>try (conv=>whnf)
   all_goals exact fv
  |some h'=>
   rw [h2] at he
   rw [h2,yD] at hI
   have he:lJ (most - (n+1+1)) (n+1+1) h'=R:=he
   (repeat' ((conv=>whnf);first|(exfalso;omega)|refine gA ?_|(refine gB ?_ ?_<;>intro h)|refine gV ?_|refine gC (hF) ?_|refine gC (hI) ?_|intro _))<;>try (conv=>whnf)
   all_goals
    refine nx ⟨n+1+1,h'⟩ ?_
    exact⟨by omega,(Am h2).trans hj,he,fun e=>by omega⟩
def Cu (g:Lg) (most:Int):Lg×Nat:=if wI g=true∧within most 0 60=true then lJ most.toNat 0 g else (g,0)
theorem Yx {g:Lg} {most:Nat} (h:most=0∨ng g=none):lJ most 0 g=(g,0):=by
 cases most with
 |zero=>rfl
 |succ m=>rw [rE,h.resolve_left (by omega)]
theorem Fp (g:Lg) (most:Int) (hp:g.proj.fine):Con 26 [.d g.av,.d (i64 most)] (aaj (Cu g most)):=by
 refine con Tryz.func26 rfl rfl Tryz.call26 rfl fun hwf=>?_
 have hO:=Wj g hp
 have hW:=bC most 0 60
 by_cases hk:wI g=true∧within most 0 60=true
 ·obtain⟨h1,h2⟩:=hk
  have hb:=within_iff.1 h2
  rw [Cu,if_pos ⟨h1,h2⟩]
  rw [h1] at hO
  rw [h2] at hW
  obtain⟨m,rfl⟩:∃m:Nat,most=m:=⟨most.toNat,by omega⟩
  rw [Int.toNat_natCast]
  by_cases hz:m=0∨ng g=none
  ·rw [Yx hz]
   (repeat' ((conv=>whnf);first|refine gA ?_|(refine gN ?_ ?_<;>intro h hw)|(refine gB ?_ ?_<;>intro h)|refine gC (hO) ?_|refine gC (hW) ?_|refine gC (nP g) ?_|refine gC (Fj g m hp hz) ?_|intro _))<;>try (conv=>whnf)
   exact fv
  ·cases hs:ng g with
   |none=>exact absurd (.inr hs) hz
   |some g1=>
    have hP:=BF g g1 m hp (by omega) (by omega) hs
    generalize lJ m 0 g=R at hP ⊢
    (repeat' ((conv=>whnf);first|refine gA ?_|(refine gN ?_ ?_<;>intro h hw)|(refine gB ?_ ?_<;>intro h)|refine gC (hO) ?_|refine gC (hW) ?_|refine gC (nP g) ?_|refine gC (hP) ?_|intro _))<;>try (conv=>whnf)
    exact fv
 ·rw [Cu,if_neg hk]
  (repeat' ((conv=>whnf);first|refine gA ?_|(refine gN ?_ ?_<;>intro h hw)|(refine gB ?_ ?_<;>intro h)|refine gC (hO) ?_|refine gC (hW) ?_|refine gC (nP g) ?_|intro _))<;>try (conv=>whnf)
  all_goals first
   |(exfalso;simp_all;done)
   |exact fv
def abO (r:Lg×Nat):RV:=.tup [.d r.1.av,.d (i64 r.2)]
theorem Fq (g:Lg) (most:Int) (hp:g.proj.fine):Con 24 [.d g.av,.d (i64 most)] (abO (Cu g most)):=by
 refine con Tryz.func24 rfl rfl Tryz.call24 rfl fun hwf=>?_
 have hO:=Wm g hp
 have hW:=cB most 0 60
 by_cases hk:wI g=true∧within most 0 60=true
 ·obtain⟨h1,h2⟩:=hk
  have hb:=within_iff.1 h2
  rw [Cu,if_pos ⟨h1,h2⟩]
  rw [h1] at hO
  rw [h2] at hW
  obtain⟨m,rfl⟩:∃m:Nat,most=m:=⟨most.toNat,by omega⟩
  rw [Int.toNat_natCast]
  have hP:=Uo g m hp (by omega)
  rw [aeS] at hP
  generalize lJ m 0 g=R at hP ⊢
  (repeat' ((conv=>whnf);first|refine gA ?_|(refine gN ?_ ?_<;>intro h hw)|(refine gB ?_ ?_<;>intro h)|refine gC (hO) ?_|refine gC (hW) ?_|refine gC (yB g) ?_|refine gC (hP) ?_|intro _))<;>try (conv=>whnf)
  exact fv
 ·rw [Cu,if_neg hk]
  (repeat' ((conv=>whnf);first|refine gA ?_|(refine gN ?_ ?_<;>intro h hw)|(refine gB ?_ ?_<;>intro h)|refine gC (hO) ?_|refine gC (hW) ?_|refine gC (yB g) ?_|intro _))<;>try (conv=>whnf)
  all_goals first
   |(exfalso;simp_all;done)
   |exact fv
end Go.Proofs.YtglikcnmgnlejaaGreat.Abs
