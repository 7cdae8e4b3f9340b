/- Contracts: logs that are made, copied, and grow. -/
import Derived.Test.YtglikcnmgnlejaaGreatC35
import Derived.Test.YtglikcnmgnlejaaGreatC30
import Derived.Test.YtglikcnmgnlejaaGreatPlain
set_option linter.all false
set_option maxRecDepth 20000
set_option maxHeartbeats 0
namespace Go.Proofs.YtglikcnmgnlejaaGreat.Abs
open Go.Proofs Go.RowKit
attribute [local irreducible] eY iR bV status litValue
def jm (s:Infer):Lin:=⟨1,s.rule,s.clause⟩
def says (g:Lg) (s:Infer):Bool:=(decide ((status g.dom s.clause).1=0)&&(!aV (status g.dom s.clause).2 bG&&aV (status g.dom s.clause).2 s.lit))||(decide ((status g.dom s.clause).1=1)&&decide (litValue g.dom s.lit=1))
def EZ (g:Lg) (s:Infer):Bool:=decide (bV g.proj g.lines (jm s)=0)&&says g s
def sI (g:Lg) (s:Infer):Lg:=⟨g.proj,restrict g.dom s.lit,g.decs,g.lines++[jm s]⟩
def mF (g:Lg) (s:Infer):Option Lg:=if EZ g s=true then some (sI g s) else none
theorem iI {g:Lg} {s:Infer} (h:¬ EZ g s=true):mF g s=none:=if_neg h
theorem qE {g:Lg} {s:Infer} (h:EZ g s=true):mF g s=some (sI g s):=if_pos h
theorem cu (g:Lg) (s:Infer):EZ g s=(decide (bV g.proj g.lines (jm s)=0)&&says g s):=rfl
theorem jT (g:Lg) (s:Infer):says g s=((decide ((status g.dom s.clause).1=0)&&(!aV (status g.dom s.clause).2 bG&&aV (status g.dom s.clause).2 s.lit))||(decide ((status g.dom s.clause).1=1)&&decide (litValue g.dom s.lit=1))):=rfl
def Fa (o:Option Lg):RV:=.tup [.d (o.getD ZB).av,.d (.bool o.isSome)]
def Wh (g:Lg):RV:=.agg [.d (i64 g.proj.dead),.lin 139 (g.proj.acts.map aC.av),.lin 155 (g.proj.links.map Link.av),.lin 145 (g.proj.aU.map aL.av),.lin 3 (g.proj.aO.map i64),.lin 3 (g.dom.lo.map i64),.lin 3 (g.dom.hi.map i64),.lin 25 (g.dom.modes.map ints),.lin 190 (g.decs.map Lit.av),.lin 212 (g.lines.map Lin.av)]
theorem Pn (ls:List Lin):Xi ls (upTo ls.length)=ls:=by
 unfold Xi upTo
 rw [List.map_map]
 refine List.ext_getElem? fun i=>?_
 rw [List.getElem?_map]
 by_cases h:i < ls.length
 ·rw [List.getElem?_range h]
  simp [Gx,List.getD_eq_getElem?_getD,h]
 ·rw [List.getElem?_eq_none (by simpa using h),List.getElem?_eq_none (by omega)];rfl
theorem Mq (ls:List Lin):Con 193 [.d (.sl (ls.map Lin.av))] (.d (ints (upTo ls.length))):=by
 refine con Tryz.func193 rfl rfl Tryz.call193 rfl fun hwf=>?_
 simp only [ARs.wf,AR.wf,AV.wf,AV.wfs,lm,lim] at hwf
 (repeat' ((conv=>whnf);first|refine gA ?_|(refine gB ?_ ?_<;>intro h)|refine gP ?_|refine gV ?_|intro _))<;>try (conv=>whnf)
 refine au [7] [] [5] ?_
 (conv=>whnf)
 refine ak.go ((Nat)) (fun k=>(k≤ls.length)) (fun k=>[(8,.data (i64 k)),(3,.own 5 0)]) (fun _=>[]) (fun k=>[(5,3,(upTo k).map i64,0)]) (fun k=>ls.length - k) (0) ?_ ?_
 ·exact Nat.zero_le _
 rintro k hk
 by_cases hlt:k < ls.length
 ·(repeat' ((conv=>whnf);first|refine gA ?_|(refine gB ?_ ?_<;>intro h)|refine gP ?_|refine gV ?_|intro _))<;>try (conv=>whnf)
  ·refine nw (k+1) ?_ ?_
   ·(repeat' ((conv=>whnf)<;>(first|exact trivial|exact rfl|with_reducible refine And.intro ?_ ?_)))<;>((conv=>whnf)<;>(exact KL k))
   exact (by omega:k+1≤ls.length)
  ·exfalso;omega
 ·obtain rfl:k=ls.length:=by omega
  (repeat' ((conv=>whnf);first|(exfalso;omega)|refine gA ?_|(refine gB ?_ ?_<;>intro h)|refine gP ?_|refine gV ?_|intro _))<;>try (conv=>whnf)
  exact⟨rfl,rfl,trivial⟩
theorem nP (g:Lg):Con 88 [.d g.av] (Wh g):=by
 refine con Tryz.func88 rfl rfl Tryz.call88 rfl fun hwf=>?_
 have hl:=wO g.lines (upTo g.lines.length) (fun i hi=>TL hi)
 rw [Pn] at hl
 (repeat' ((conv=>whnf);first|refine gA ?_|(refine gB ?_ ?_<;>intro h)|refine gC (Bl g.proj) ?_|refine gC (oh g.dom) ?_|refine gC (bR g.decs) ?_|refine gC (Mq g.lines) ?_|refine gC (hl) ?_|intro _))<;>try (conv=>whnf)
 exact fv
def agc (g:Lg):RV:=.agg [.d (i64 g.proj.dead),.d (.sl (g.proj.acts.map aC.av)),.d (.sl (g.proj.links.map Link.av)),.d (.sl (g.proj.aU.map aL.av)),.d (ints g.proj.aO),.d (ints g.dom.lo),.d (ints g.dom.hi),.d (.sl (g.dom.modes.map ints)),.d (lits g.decs),.own 212 (g.lines.map Lin.av)]
theorem Ak (g:Lg):Con 88 [.d g.av] (agc g):=by
 refine con Tryz.func88 rfl rfl Tryz.call88 rfl fun hwf=>?_
 have hl:=wO g.lines (upTo g.lines.length) (fun i hi=>TL hi)
 rw [Pn] at hl
 (repeat' ((conv=>whnf);first|refine gA ?_|(refine gB ?_ ?_<;>intro h)|refine gC (Jl g.proj) ?_|refine gC (ru g.dom) ?_|refine gC (bR g.decs) ?_|refine gC (Mq g.lines) ?_|refine gC (hl) ?_|intro _))<;>try (conv=>whnf)
 exact fv
theorem yx (b:Dom) (l:List Lit):(status b l).1= -1∨(status b l).1=0∨(status b l).1=1:=by
 have:∀(l:List Lit) (n:Int) (x:Lit),(bI b l n x).1= -1∨(bI b l n x).1=0∨(bI b l n x).1=1:=by
  intro l
  induction l with
  |nil=>intro n x;rw [bI];split; · exact .inl rfl
        split<;>exact .inr (.inl rfl)
  |cons y l ih=>intro n x;rw [bI];split; · exact .inr (.inr rfl)
                split
                ·exact ih _ _
                ·exact ih _ _
 unfold status
 exact this l 0 bG
theorem Wi {a b:Lit}:aV a b=true↔a=b:=by
 cases a;cases b
 simp [aV]
theorem GX {p:Proj} {a:List Lin} {l:Lin} (h:bV p a l=0):a.length < 300:=by
 unfold bV at h
 split at h
 ·rename_i hn
  have:=hn.2.2
  omega
 ·cases h
theorem yA {a b:Lit} {c:Bool} (h:aV a b=c):(decide (a.kind=b.kind)&&(decide (a.act=b.act)&&(decide (a.val=b.val)&&true)))=c:=by rw [Bool.and_true];exact h
theorem Fb {a:Lit} {c:Bool} (h:aV a bG=c):(decide (a.kind=0)&&(decide (a.act=0)&&(decide (a.val=0)&&true)))=c:=yA h
theorem Mr (h:Lg):Fa (some h)= .tup [.d h.av,.d (.bool true)]:=rfl
theorem Ms (g:Lg) (s:Infer):(sI g s).av= .agg [i64 g.proj.dead,.sl (g.proj.acts.map aC.av),.sl (g.proj.links.map Link.av),.sl (g.proj.aU.map aL.av),ints g.proj.aO,ints (restrict g.dom s.lit).lo,ints (restrict g.dom s.lit).hi,.sl ((restrict g.dom s.lit).modes.map ints),lits g.decs,.sl (g.lines.map Lin.av++[(jm s).av])]:=by
 have h:(sI g s).av= .agg [i64 g.proj.dead,.sl (g.proj.acts.map aC.av),.sl (g.proj.links.map Link.av),.sl (g.proj.aU.map aL.av),ints g.proj.aO,ints (restrict g.dom s.lit).lo,ints (restrict g.dom s.lit).hi,.sl ((restrict g.dom s.lit).modes.map ints),lits g.decs,.sl ((g.lines++[jm s]).map Lin.av)]:=rfl
 rw [h,List.map_append];rfl
theorem NH (g:Lg) (s:Infer) (hp:g.proj.fine):Con 195 [.d g.av,.d s.av] (Fa (mF g s)):=by
 refine con Tryz.func195 rfl rfl Tryz.call195 rfl fun hwf=>?_
 simp only [ARs.wf,AR.wf,AV.wf,AV.wfs,lm,lim] at hwf
 have hL:=uo g.proj g.lines (jm s) hp
 have hS:=jJ g.dom s.clause
 rw [KQ] at hS
 by_cases hc:bV g.proj g.lines (jm s)=0
 rotate_left
 ·rw [iI (by simp [cu,hc])]
  (repeat' ((conv=>whnf);first|with_reducible refine Br.yes (by simp [hc]) ?_|refine gA ?_|(refine gB ?_ ?_<;>intro h)|refine gP ?_|refine gC (bR s.clause) ?_|refine gC (hL) ?_|intro _))<;>try (conv=>whnf)
  exact fv
 have aeR:=GX hc
 rw [hc] at hL
 rcases yx g.dom s.clause with h1|h1|h1
 ·rw [iI (by simp [cu,hc,jT,h1])]
  rw [h1] at hS
  (repeat' ((conv=>whnf);first|refine gA ?_|(refine gB ?_ ?_<;>intro h)|refine gP ?_|refine gC (bR s.clause) ?_|refine gC (hL) ?_|refine gC (hS) ?_|intro _))<;>try (conv=>whnf)
  all_goals first
   |(exfalso;omega)
   |(exfalso;exact absurd trivial (by assumption))
   |exact fv
 ·rw [h1] at hS
  cases hz:aV (status g.dom s.clause).2 bG with
  |true=>
   have hz':=Fb hz
   rw [iI (by simp [cu,hc,jT,h1,hz])]
   (repeat' ((conv=>whnf);first|with_reducible refine Br.yes hz' ?_|refine gA ?_|(refine gB ?_ ?_<;>intro h)|refine gP ?_|refine gC (bR s.clause) ?_|refine gC (hL) ?_|refine gC (hS) ?_|intro _))<;>try (conv=>whnf)
   all_goals first
    |(exfalso;omega)
    |(exfalso;exact absurd trivial (by assumption))
    |exact fv
  |false=>
  have hz':=Fb hz
  cases he:aV (status g.dom s.clause).2 s.lit with
  |true=>
   rw [qE (by simp [cu,hc,jT,h1,he,hz]),Mr,Ms]
   have he':=yA he
   (repeat' ((conv=>whnf);first|with_reducible refine Br.no hz' ?_|with_reducible refine Br.yes he' ?_|refine gA ?_|(refine gB ?_ ?_<;>intro h)|refine gP ?_|refine gC (bR s.clause) ?_|refine gC (hL) ?_|refine gC (hS) ?_|refine gC (Ak g) ?_|refine gC (fJ g.dom s.lit) ?_|intro _))<;>try (conv=>whnf)
   all_goals first
    |(exfalso;omega)
    |(exfalso;exact absurd trivial (by assumption))
    |exact fv
  |false=>
   rw [iI (by simp [cu,hc,jT,h1,he])]
   have he':=yA he
   (repeat' ((conv=>whnf);first|with_reducible refine Br.no hz' ?_|with_reducible refine Br.no he' ?_|refine gA ?_|(refine gB ?_ ?_<;>intro h)|refine gP ?_|refine gC (bR s.clause) ?_|refine gC (hL) ?_|refine gC (hS) ?_|intro _))<;>try (conv=>whnf)
   all_goals first
    |(exfalso;omega)
    |(exfalso;exact absurd trivial (by assumption))
    |exact fv
 ·rw [h1] at hS
  by_cases he:litValue g.dom s.lit=1
  ·rw [qE (by simp [cu,hc,jT,h1,he]),Mr,Ms]
   (repeat' ((conv=>whnf);first|refine gA ?_|(refine gB ?_ ?_<;>intro h)|refine gP ?_|refine gC (bR s.clause) ?_|refine gC (hL) ?_|refine gC (hS) ?_|refine gC (jI g.dom s.lit) ?_|refine gC (Ak g) ?_|refine gC (fJ g.dom s.lit) ?_|intro _))<;>try (conv=>whnf)
   all_goals first
    |(exfalso;omega)
    |(exfalso;exact absurd trivial (by assumption))
    |exact fv
  ·rw [iI (by simp [cu,hc,jT,h1,he])]
   (repeat' ((conv=>whnf);first|refine gA ?_|(refine gB ?_ ?_<;>intro h)|refine gP ?_|refine gC (bR s.clause) ?_|refine gC (hL) ?_|refine gC (hS) ?_|refine gC (jI g.dom s.lit) ?_|intro _))<;>try (conv=>whnf)
   all_goals first
    |(exfalso;omega)
    |(exfalso;exact absurd trivial (by assumption))
    |exact fv
def ng (g:Lg):Option Lg:=match eY g.proj g.dom with|none=>none|some s=>mF g s
theorem qF (g:Lg):ng g=(match eY g.proj g.dom with|none=>none|some s=>mF g s):=rfl
def lJ:Nat→Nat→Lg→Lg×Nat
 |0,n,g=>(g,n)
 |f+1,n,g=>match ng g with|none=>(g,n)|some h=>lJ f (n+1) h
theorem Al (n:Nat) (g:Lg):lJ 0 n g=(g,n):=rfl
theorem rE (f n:Nat) (g:Lg):lJ (f+1) n g=(match ng g with|none=>(g,n)|some h=>lJ f (n+1) h):=rfl
theorem Am {g h:Lg} {s:Infer} (e:mF g s=some h):h.proj=g.proj:=by
 unfold mF at e
 split at e
 ·cases e;rfl
 ·cases e
def aeS (r:Lg×Nat):RV:=.tup [.d r.1.av,.d (i64 r.2)]
end Go.Proofs.YtglikcnmgnlejaaGreat.Abs
namespace Go.Proofs.YtglikcnmgnlejaaGreat.Abs
open Go.Proofs Go.RowKit
attribute [local irreducible] eY iR bV status litValue
end Go.Proofs.YtglikcnmgnlejaaGreat.Abs
namespace Go.Proofs.YtglikcnmgnlejaaGreat.Abs
open Go.Proofs Go.RowKit
attribute [local irreducible] eY iR bV status litValue
def Fe (g:Lg) (l:Lin):Option Lg:=if bV g.proj g.lines l=0 then some ⟨g.proj,g.dom,g.decs,g.lines++[l]⟩ else none
def agd (g:Lg):RV:=.agg [.d (i64 g.proj.dead),.d (.sl (g.proj.acts.map aC.av)),.d (.sl (g.proj.links.map Link.av)),.d (.sl (g.proj.aU.map aL.av)),.d (ints g.proj.aO),.d (ints g.dom.lo),.d (ints g.dom.hi),.d (.sl (g.dom.modes.map ints)),.d (lits g.decs),.own 212 (g.lines.map Lin.av)]
theorem NI (ls:List Lin):Con 176 [.d (.sl (ls.map Lin.av))] (.own 212 (ls.map Lin.av)):=by
 refine con Tryz.func176 rfl rfl Tryz.call176 rfl fun hwf=>?_
 simp only [ARs.wf,AR.wf,AV.wf,AV.wfs,lm,lim] at hwf
 (repeat' ((conv=>whnf);first|refine gA ?_|(refine gB ?_ ?_<;>intro h)|(refine gI ?_;intro x hx)|(refine gJ ?_;intro j x hj hx)|refine gP ?_|refine gV ?_|intro _))<;>try (conv=>whnf)
 refine au [7,8] [] [6] ?_
 (conv=>whnf)
 refine ak.go ((Nat)) (fun k=>(k≤ls.length)) (fun k=>[(9,.data (i64 k)),(3,.own 6 0)]) (fun _=>[]) (fun k=>[(6,212,(ls.take k).map Lin.av,0)]) (fun k=>ls.length - k) (0) ?_ ?_
 ·exact Nat.zero_le _
 rintro k hk
 by_cases hlt:k < ls.length
 ·obtain⟨x,hx⟩:∃x,ls[k]? =some x:=⟨ls[k]'hlt,by simp⟩
  (repeat' ((conv=>whnf);first|with_reducible refine Idx.got hx rfl ?_|(exfalso;omega)|refine gA ?_|(refine gB ?_ ?_<;>intro h)|(refine gI ?_;intro x hx)|(refine gJ ?_;intro j x hj hx)|refine gP ?_|refine gV ?_|refine gC (EN x) ?_|intro _))<;>try (conv=>whnf)
  refine nw (k+1) ?_ ?_
  ·(repeat' ((conv=>whnf)<;>(first|exact trivial|exact rfl|with_reducible refine And.intro ?_ ?_)))<;>((conv=>whnf)<;>(exact eX Lin.av hx))
  exact (by omega:k+1≤ls.length)
 ·(repeat' ((conv=>whnf);first|(exfalso;omega)|refine gA ?_|(refine gB ?_ ?_<;>intro h)|(refine gI ?_;intro x hx)|(refine gJ ?_;intro j x hj hx)|refine gP ?_|refine gV ?_|intro _))<;>try (conv=>whnf)
  refine⟨?_,rfl,trivial⟩
  dsimp only
  rw [List.take_of_length_le (by omega)]
theorem yB (g:Lg):Con 81 [.d g.av] (agd g):=by
 refine con Tryz.func81 rfl rfl Tryz.call81 rfl fun hwf=>?_
 simp only [ARs.wf,AR.wf,AV.wf,AV.wfs,lm,lim] at hwf
 (repeat' ((conv=>whnf);first|refine gA ?_|(refine gB ?_ ?_<;>intro h)|refine gP ?_|refine gC (QU g.proj) ?_|refine gC (mW g.dom) ?_|refine gC (NI g.lines) ?_|intro _))<;>try (conv=>whnf)
 (repeat' ((conv=>whnf)<;>(first|exact trivial|exact VC.nod (by kernel_rfl)|refine VC.mk (by first|with_reducible rfl|(simp;done)|rfl) ?_)))
theorem Rl (g:Lg) (l:Lin) (hp:g.proj.fine):Con 274 [.d g.av,.d l.av] (Fa (Fe g l)):=by
 refine con Tryz.func274 rfl rfl Tryz.call274 rfl fun hwf=>?_
 simp only [ARs.wf,AR.wf,AV.wf,AV.wfs,lm,lim] at hwf
 by_cases hk:bV g.proj g.lines l=0
 ·have aeR:=GX hk
  rw [Fe,if_pos hk]
  (repeat' ((conv=>whnf);first|with_reducible refine Br.no (by simp [hk]) ?_|refine gA ?_|(refine gB ?_ ?_<;>intro h)|refine gP ?_|refine gC (uq g.proj g.lines l hp) ?_|refine gC (yB g) ?_|refine gC (EN l) ?_|intro _))<;>try (conv=>whnf)
  (repeat' ((conv=>whnf)<;>(first|exact trivial|exact VC.nod (by kernel_rfl)|refine VC.mk (by first|with_reducible rfl|(simp;done)|rfl) ?_)))
 ·rw [Fe,if_neg hk]
  (repeat' ((conv=>whnf);first|with_reducible refine Br.yes (by simp [hk]) ?_|refine gA ?_|(refine gB ?_ ?_<;>intro h)|refine gP ?_|refine gC (uq g.proj g.lines l hp) ?_|intro _))<;>try (conv=>whnf)
  exact fv
theorem Un (g:Lg) (s:Infer) (hp:g.proj.fine) (hs:aV s.lit bG=false) (hd:∀(n:Nat) (m:List Int),g.dom.modes[n]? =some m→kr m=true):Con 178 [.d g.av,.d s.av] (Fa (mF g s)):=by
 refine con Tryz.func178 rfl rfl Tryz.call178 rfl fun hwf=>?_
 simp only [ARs.wf,AR.wf,AV.wf,AV.wfs,lm,lim] at hwf
 have hL:=Rl g (jm s) hp
 have hS:=uU g.dom s.clause
 have hX:=jY g.dom s.lit (fun m h=>hd _ m h)
 have hz:∀x:Lit,aV x s.lit=true→aV x bG=false:=fun x h=>by rw [Wi.1 h];exact hs
 by_cases hc:bV g.proj g.lines (jm s)=0
 rotate_left
 ·rw [Fa,Fe,if_neg hc] at hL
  dsimp only [Option.getD,Option.isSome] at hL
  rw [iI (by simp [cu,hc])]
  rw [KQ] at hS
  (repeat' ((conv=>whnf);first|refine gA ?_|(refine gB ?_ ?_<;>intro h)|refine gC (hS) ?_|refine gC (hL) ?_|refine gC (fQ g.dom s.lit) ?_|refine gC (hX) ?_|intro _))<;>try (conv=>whnf)
  exact fv
 rw [Fa,Fe,if_pos hc] at hL
 dsimp only [Option.getD,Option.isSome] at hL
 rw [KQ] at hS
 rcases yx g.dom s.clause with h1|h1|h1
 ·rw [iI (by simp [cu,hc,jT,h1])]
  rw [h1] at hS
  (repeat' ((conv=>whnf);first|refine gA ?_|(refine gB ?_ ?_<;>intro h)|refine gC (hS) ?_|refine gC (hL) ?_|refine gC (fQ g.dom s.lit) ?_|refine gC (hX) ?_|intro _))<;>try (conv=>whnf)
  all_goals first
   |(exfalso;omega)
   |(exfalso;exact absurd trivial (by assumption))
   |exact fv
 ·rw [h1] at hS
  cases he:aV (status g.dom s.clause).2 s.lit with
  |true=>
   rw [qE (by simp [cu,hc,jT,h1,he,hz _ he])]
   have he':=yA he
   (repeat' ((conv=>whnf);first|with_reducible refine Br.yes he' ?_|refine gA ?_|(refine gB ?_ ?_<;>intro h)|refine gC (hS) ?_|refine gC (hL) ?_|refine gC (fQ g.dom s.lit) ?_|refine gC (hX) ?_|intro _))<;>try (conv=>whnf)
   all_goals first
    |(exfalso;omega)
    |(exfalso;exact absurd trivial (by assumption))
    |(repeat' ((conv=>whnf)<;>(first|exact trivial|exact VC.nod (by kernel_rfl)|refine VC.mk (by first|with_reducible rfl|(simp [sI];done)|rfl) ?_)))
  |false=>
   rw [iI (by simp [cu,hc,jT,h1,he])]
   have he':=yA he
   (repeat' ((conv=>whnf);first|with_reducible refine Br.no he' ?_|refine gA ?_|(refine gB ?_ ?_<;>intro h)|refine gC (hS) ?_|refine gC (hL) ?_|refine gC (fQ g.dom s.lit) ?_|refine gC (hX) ?_|intro _))<;>try (conv=>whnf)
   all_goals first
    |(exfalso;omega)
    |(exfalso;exact absurd trivial (by assumption))
    |exact fv
 ·rw [h1] at hS
  by_cases he:litValue g.dom s.lit=1
  ·rw [qE (by simp [cu,hc,jT,h1,he])]
   (repeat' ((conv=>whnf);first|refine gA ?_|(refine gB ?_ ?_<;>intro h)|refine gC (hS) ?_|refine gC (hL) ?_|refine gC (fQ g.dom s.lit) ?_|refine gC (hX) ?_|intro _))<;>try (conv=>whnf)
   all_goals first
    |(exfalso;omega)
    |(exfalso;exact absurd trivial (by assumption))
    |(exfalso;simp_all;done)
    |(repeat' ((conv=>whnf)<;>(first|exact trivial|exact VC.nod (by kernel_rfl)|refine VC.mk (by first|with_reducible rfl|(simp [sI];done)|rfl) ?_)))
  ·rw [iI (by simp [cu,hc,jT,h1,he])]
   (repeat' ((conv=>whnf);first|refine gA ?_|(refine gB ?_ ?_<;>intro h)|refine gC (hS) ?_|refine gC (hL) ?_|refine gC (fQ g.dom s.lit) ?_|refine gC (hX) ?_|intro _))<;>try (conv=>whnf)
   all_goals first
    |(exfalso;omega)
    |(exfalso;exact absurd trivial (by assumption))
    |(exfalso;simp_all;done)
    |exact fv
theorem Mt {p:Proj} {b:Dom} {s:Infer} (h:eY p b=some s):usable p b=true∧aV s.lit bG=false:=by
 unfold eY at h
 split at h
 ·cases h
 ·obtain⟨r,hr,h1⟩:=List.exists_of_findSome?_eq_some h
  obtain⟨a,_,h2⟩:=List.exists_of_findSome?_eq_some h1
  refine⟨(EW hr).1,?_⟩
  unfold Ba at h2
  obtain⟨l,hl,rfl⟩:=Option.map_eq_some_iff.1 h2
  have hm:=List.mem_of_head? hl
  have:l.kind=1∨l.kind=2∨l.kind=4:=by
   unfold mE at hm
   split at hm
   ·simp only [AZ,List.mem_append] at hm
    rcases hm with (hm|hm)|hm
    ·unfold atLeast at hm;split at hm
     ·rw [List.mem_singleton.1 hm];exact .inl rfl
     ·simp at hm
    ·unfold vT at hm;split at hm
     ·rw [List.mem_singleton.1 hm];exact .inr (.inl rfl)
     ·simp at hm
    ·obtain⟨v,_,rfl⟩:=List.mem_map.1 hm;exact .inr (.inr rfl)
   ·simp at hm
  simp only [aV,bG]
  rcases this with h|h|h<;>simp [h]
theorem Uo (g:Lg) (most:Nat) (hp:g.proj.fine) (hm:most≤60):Con 82 [.d g.av,.d (i64 most)] (aeS (lJ most 0 g)):=by
 refine con Tryz.func82 rfl rfl Tryz.call82 rfl fun hwf=>?_
 generalize hR:lJ most 0 g=R
 (repeat' ((conv=>whnf);first|refine gA ?_|(refine gB ?_ ?_<;>intro h)|refine gV ?_|intro _))<;>try (conv=>whnf)
 refine au [1,2,4] [4] [] ?_
 (conv=>whnf)
 refine ak.go ((Nat)×(Lg)) (fun⟨n,h⟩=>(n≤most)∧(h.proj=g.proj)∧(lJ (most - n) n h=R)) (fun⟨n,h⟩=>[(6,.data (i64 n))]) (fun⟨n,h⟩=>[(2,(AV.cells h.av).map SV.data)]) (fun _=>[]) (fun⟨n,h⟩=>most - n) ⟨0,g⟩ ?_ ?_
 ·exact⟨Nat.zero_le _,rfl,hR⟩
 rintro⟨n,h⟩ ⟨hn,hj,he⟩
 have hph:h.proj.fine:=hj ▸ hp
 have hF:=BD h.proj h.dom hph
 by_cases hlt:n < most
 rotate_left
 ·obtain rfl:n=most:=by omega
  rw [Nat.sub_self,Al] at he
  subst he
  (repeat' ((conv=>whnf);first|(exfalso;omega)|refine gA ?_|(refine gB ?_ ?_<;>intro h)|refine gV ?_|intro _))<;>try (conv=>whnf)
  exact fv
 rw [show most - n=(most - (n+1))+1 by omega,rE] at he
 cases h1:eY h.proj h.dom with
 |none=>
  rw [qF,h1] at he
  rw [aah,h1] at hF
  dsimp only [Option.getD,Option.isSome] at hF
  have he:(h,n)=R:=he
  subst he
  (repeat' ((conv=>whnf);first|(exfalso;omega)|refine gA ?_|(refine gB ?_ ?_<;>intro h)|refine gV ?_|refine gC (hF) ?_|intro _))<;>try (conv=>whnf)
  all_goals exact fv
 |some s=>
  rw [aah,h1] at hF
  dsimp only [Option.getD,Option.isSome] at hF
  obtain⟨hu,hz⟩:=Mt h1
  have hI:=Un h s hph hz (fun n m hm=>uD (yw hu) hm)
  have e1:ng h=mF h s:=by rw [qF,h1]
  rw [e1] at he
  cases h2:mF h s with
  |none=>
   rw [h2] at he
   rw [Fa,h2] at hI
   dsimp only [Option.getD,Option.isSome] at hI
   have he:(h,n)=R:=he
   subst he
   (repeat' ((conv=>whnf);first|(exfalso;omega)|refine gA ?_|(refine gB ?_ ?_<;>intro h)|refine gV ?_|refine gC (hF) ?_|refine gC (hI) ?_|intro _))<;>try (conv=>whnf)
   all_goals exact fv
  |some h'=>
   rw [h2] at he
   rw [Fa,h2] at hI
   dsimp only [Option.getD,Option.isSome] at hI
   have he:lJ (most - (n+1)) (n+1) h'=R:=he
   (repeat' ((conv=>whnf);first|(exfalso;omega)|refine gA ?_|(refine gB ?_ ?_<;>intro h)|refine gV ?_|refine gC (hF) ?_|refine gC (hI) ?_|intro _))<;>try (conv=>whnf)
   all_goals
    refine nx ⟨n+1,h'⟩ ?_
    exact⟨by omega,(Am h2).trans hj,he⟩
end Go.Proofs.YtglikcnmgnlejaaGreat.Abs
namespace Go.Proofs.YtglikcnmgnlejaaGreat.Abs
open Go.Proofs Go.RowKit
theorem Ct (l:List Int) (fc:Nat) (caps:List AV) (p:Int→Bool) (hc:∀n:Int,Con fc ([.d (i64 n)]++caps.map .ref) (.d (.bool (p n)))):Con 282 [.d (ints l),.fn fc caps] (.lin 3 ((l.filter p).map i64)):=by
 refine con Tryz.func282 rfl rfl Tryz.call282 rfl fun hwf=>?_
 simp only [ARs.wf,AR.wf,AV.wf,AV.wfs,lm,lim] at hwf
 (repeat' ((conv=>whnf);first|refine gA ?_|(refine gB ?_ ?_<;>intro h)|(refine gI ?_;intro x hx)|(refine gJ ?_;intro j x hj hx)|refine gP ?_|refine gV ?_|intro _))<;>try (conv=>whnf)
 refine au [1,9,10] [] [8] ?_
 (conv=>whnf)
 refine ak.go ((Nat)×(List Int)) (fun⟨k,o⟩=>(k≤l.length)∧(o.length≤k)∧(o++(l.drop k).filter p=l.filter p)) (fun⟨k,o⟩=>[(11,.data (i64 k)),(5,.own 8 0)]) (fun _=>[]) (fun⟨k,o⟩=>[(8,3,o.map i64,1)]) (fun⟨k,o⟩=>l.length - k) ⟨0,[]⟩ ?_ ?_
 ·exact⟨by omega,by simp,rfl⟩
 rintro⟨k,o⟩ ⟨hk,ho,hi⟩
 (repeat' ((conv=>whnf);first|refine gA ?_|(refine gB ?_ ?_<;>intro h)|(refine gI ?_;intro x hx)|(refine gJ ?_;intro j x hj hx)|refine gP ?_|refine gV ?_|refine gC (hc x) ?_|intro _))<;>try (conv=>whnf)
 ·refine nw ⟨k+1,o++[x]⟩ ?_ ?_
  ·(repeat' ((conv=>whnf)<;>(first|exact trivial|exact rfl|with_reducible refine And.intro ?_ ?_)))<;>((conv=>whnf)<;>(simp))
  exact⟨by omega,by simp;omega,(iW hi hx).1 h⟩
 ·refine nx ⟨k+1,o⟩ ?_
  exact⟨by omega,by omega,(iW hi hx).2 h⟩
 ·refine⟨?_,rfl,trivial⟩
  rw [← hi,aG (by assumption)];simp
theorem Dt (l:List Int) (n:Int):Con 284 [.d (ints l),.d (i64 n)] (.lin 3 ((without l n).map i64)):=by
 refine con Tryz.func284 rfl rfl Tryz.call284 rfl fun hwf=>?_
 (repeat' ((conv=>whnf);first|refine gA ?_|(refine gB ?_ ?_<;>intro h)|refine gC (Ct l 358 [i64 n] _ fun x=>yO x n) ?_|intro _))<;>try (conv=>whnf)
 exact⟨rfl,rfl,trivial⟩
theorem vw (b:Dom) (l:Lit):Con 185 [.d b.av,.d l.av] (abL (restrict b l)):=by
 refine con Tryz.func185 rfl rfl Tryz.call185 rfl fun hwf=>?_
 cases hd:lF b l.act with
 |false=>
  rw [restrict,if_neg (by simp [hd])]
  (repeat' ((conv=>whnf);first|refine gA ?_|(refine gB ?_ ?_<;>intro h)|(refine gI ?_;intro x hx)|(refine gJ ?_;intro j x hj hx)|refine gC (oh b) ?_|refine gC (wJ b _) ?_|intro _))<;>try (conv=>whnf)
  exact fv
 |true=>
  obtain⟨n,x,y,m,ha,hlo,hhi,hmo⟩:=tQ hd
  have han:l.act.toNat=n:=by omega
  (repeat' ((conv=>whnf);first|with_reducible refine Idx.got hlo (by first|exact ha|rfl) ?_|with_reducible refine Idx.got hhi (by first|exact ha|rfl) ?_|with_reducible refine Idx.got hmo (by first|exact ha|rfl) ?_|refine gA ?_|(refine gB ?_ ?_<;>intro h)|(refine gI ?_;intro x hx)|(refine gJ ?_;intro j x hj hx)|refine gC (oh b) ?_|refine gC (wJ b _) ?_|refine gC (Ey _) ?_|refine gC (Ct m 283 [i64 (clamped l.val)] _ (fun y=>zL y (clamped l.val))) ?_|refine gC (Dt m _) ?_|intro _))<;>try (conv=>whnf)
  all_goals
   (repeat' ((conv=>whnf)<;>(first|exact trivial|exact VC.nod (by kernel_rfl)|refine VC.mk rfl ?_|refine VC.mk (by (rw [restrict,if_pos hd];simp [*,List.map_set,List.getD_eq_getElem?_getD,gF,without])) ?_)))
end Go.Proofs.YtglikcnmgnlejaaGreat.Abs
