/- Contracts: logs that are made, copied, and grow. -/
import Derived.Test.YtefgamefajmdkaaGreatC35
import Derived.Test.YtefgamefajmdkaaGreatC30
import Derived.Test.YtefgamefajmdkaaGreatPlain
set_option linter.all false
set_option maxRecDepth 20000
set_option maxHeartbeats 0
namespace Go.Proofs.YtefgamefajmdkaaGreat.Abs
open Go.Proofs Go.RowKit
attribute [local irreducible] eZ fE aI status litValue
def uf (s:Infer):Lin:=⟨1,s.rule,s.clause⟩
def says (g:Lg) (s:Infer):Bool:=(decide ((status g.dom s.clause).1=0)&&(!bD (status g.dom s.clause).2 fB&&bD (status g.dom s.clause).2 s.lit))||(decide ((status g.dom s.clause).1=1)&&decide (litValue g.dom s.lit=1))
def Bc (g:Lg) (s:Infer):Bool:=decide (aI g.proj g.lines (uf s)=0)&&says g s
def Ey (g:Lg) (s:Infer):Lg:=⟨g.proj,restrict g.dom s.lit,g.decs,g.lines++[uf s]⟩
def nR (g:Lg) (s:Infer):Option Lg:=if Bc g s=true then some (Ey g s) else none
theorem sw {g:Lg} {s:Infer} (h:¬ Bc g s=true):nR g s=none:=if_neg h
theorem GU {g:Lg} {s:Infer} (h:Bc g s=true):nR g s=some (Ey g s):=if_pos h
theorem kR (g:Lg) (s:Infer):Bc g s=(decide (aI g.proj g.lines (uf s)=0)&&says g s):=rfl
theorem wW (g:Lg) (s:Infer):says g s=((decide ((status g.dom s.clause).1=0)&&(!bD (status g.dom s.clause).2 fB&&bD (status g.dom s.clause).2 s.lit))||(decide ((status g.dom s.clause).1=1)&&decide (litValue g.dom s.lit=1))):=rfl
def vX (o:Option Lg):RV:=.tup [.d (o.getD QZ).av,.d (.bool o.isSome)]
def YS (g:Lg):RV:=.agg [.d (i64 g.proj.dead),.lin 103 (g.proj.acts.map aB.av),.lin 130 (g.proj.links.map Link.av),.lin 126 (g.proj.aW.map bI.av),.lin 3 (g.proj.aR.map i64),.lin 3 (g.dom.lo.map i64),.lin 3 (g.dom.hi.map i64),.lin 26 (g.dom.modes.map ints),.lin 82 (g.decs.map Lit.av),.lin 53 (g.lines.map Lin.av)]
def GV (p:Proj):Option Lg:=if bC p=true then some ⟨p,iR p,[],[]⟩ else none
theorem kZ (ls:List Lin):Rb ls (upTo ls.length)=ls:=by
 unfold Rb upTo
 rw [List.map_map]
 refine List.ext_getElem? fun i=>?_
 rw [List.getElem?_map]
 by_cases h:i < ls.length
 ·rw [List.getElem?_range h]
  simp [CB,List.getD_eq_getElem?_getD,h]
 ·rw [List.getElem?_eq_none (by simpa using h),List.getElem?_eq_none (by omega)];rfl
theorem jH (ls:List Lin):Con 84 [.d (.sl (ls.map Lin.av))] (.d (ints (upTo ls.length))):=by
 refine con Tryz.func84 rfl rfl Tryz.call84 rfl fun hwf=>?_
 simp only [ARs.wf,AR.wf,AV.wf,AV.wfs,lm,lim] at hwf
 (repeat' ((conv=>whnf);first|refine gA ?_|(refine gB ?_ ?_<;>intro h)|refine gP ?_|refine gV ?_|intro _))<;>try (conv=>whnf)
 refine aA [7] [] [5] ?_
 (conv=>whnf)
 refine ay.go ((Nat)) (fun k=>(k≤ls.length)) (fun k=>[(8,.data (i64 k)),(3,.own 5 0)]) (fun _=>[]) (fun k=>[(5,3,(upTo k).map i64,0)]) (fun k=>ls.length - k) (0) ?_ ?_
 ·exact Nat.zero_le _
 rintro k hk
 by_cases hlt:k < ls.length
 ·(repeat' ((conv=>whnf);first|refine gA ?_|(refine gB ?_ ?_<;>intro h)|refine gP ?_|refine gV ?_|intro _))<;>try (conv=>whnf)
  ·refine nw (k+1) ?_ ?_
   ·(repeat' ((conv=>whnf)<;>(first|exact trivial|exact rfl|with_reducible refine And.intro ?_ ?_)))<;>((conv=>whnf)<;>(exact NY k))
   exact (by omega:k+1≤ls.length)
  ·exfalso;omega
 ·obtain rfl:k=ls.length:=by omega
  (repeat' ((conv=>whnf);first|(exfalso;omega)|refine gA ?_|(refine gB ?_ ?_<;>intro h)|refine gP ?_|refine gV ?_|intro _))<;>try (conv=>whnf)
  exact⟨rfl,rfl,trivial⟩
theorem rz (g:Lg):Con 82 [.d g.av] (YS g):=by
 refine con Tryz.func82 rfl rfl Tryz.call82 rfl fun hwf=>?_
 have hl:=dQ g.lines (upTo g.lines.length) (fun i hi=>nu hi)
 rw [kZ] at hl
 (repeat' ((conv=>whnf);first|refine gA ?_|(refine gB ?_ ?_<;>intro h)|refine gC (nU g.proj) ?_|refine gC (yZ g.dom) ?_|refine gC (dY g.decs) ?_|refine gC (jH g.lines) ?_|refine gC (hl) ?_|intro _))<;>try (conv=>whnf)
 exact fv
def YT (g:Lg):RV:=.agg [.d (i64 g.proj.dead),.d (.sl (g.proj.acts.map aB.av)),.d (.sl (g.proj.links.map Link.av)),.d (.sl (g.proj.aW.map bI.av)),.d (ints g.proj.aR),.d (ints g.dom.lo),.d (ints g.dom.hi),.d (.sl (g.dom.modes.map ints)),.d (lits g.decs),.own 53 (g.lines.map Lin.av)]
theorem vY (g:Lg):Con 82 [.d g.av] (YT g):=by
 refine con Tryz.func82 rfl rfl Tryz.call82 rfl fun hwf=>?_
 have hl:=dQ g.lines (upTo g.lines.length) (fun i hi=>nu hi)
 rw [kZ] at hl
 (repeat' ((conv=>whnf);first|refine gA ?_|(refine gB ?_ ?_<;>intro h)|refine gC (uz g.proj) ?_|refine gC (kW g.dom) ?_|refine gC (dY g.decs) ?_|refine gC (jH g.lines) ?_|refine gC (hl) ?_|intro _))<;>try (conv=>whnf)
 exact fv
def YU (g:Lg):RV:=.agg [.d (i64 g.proj.dead),.lin 103 (g.proj.acts.map aB.av),.lin 130 (g.proj.links.map Link.av),.lin 126 (g.proj.aW.map bI.av),.lin 3 (g.proj.aR.map i64),.junk,.junk,.junk,.junk,.lin 53 (g.lines.map Lin.av)]
theorem GX (g:Lg):Con 82 [.d g.av] (YU g):=by
 refine con Tryz.func82 rfl rfl Tryz.call82 rfl fun hwf=>?_
 have hl:=dQ g.lines (upTo g.lines.length) (fun i hi=>nu hi)
 rw [kZ] at hl
 (repeat' ((conv=>whnf);first|refine gA ?_|(refine gB ?_ ?_<;>intro h)|refine gC (nU g.proj) ?_|refine gC (kW g.dom) ?_|refine gC (dY g.decs) ?_|refine gC (jH g.lines) ?_|refine gC (hl) ?_|intro _))<;>try (conv=>whnf)
 exact fv
theorem Mf (b:Dom) (l:List Lit):(status b l).1= -1∨(status b l).1=0∨(status b l).1=1:=by
 have:∀(l:List Lit) (n:Int) (x:Lit),(bX b l n x).1= -1∨(bX b l n x).1=0∨(bX b l n x).1=1:=by
  intro l
  induction l with
  |nil=>intro n x;rw [bX];split; · exact .inl rfl
        split<;>exact .inr (.inl rfl)
  |cons y l ih=>intro n x;rw [bX];split; · exact .inr (.inr rfl)
                split
                ·exact ih _ _
                ·exact ih _ _
 unfold status
 exact this l 0 fB
theorem mH {p:Proj} {a:List Lin} {l:Lin} (h:aI p a l=0):a.length < 300:=by
 unfold aI at h
 split at h
 ·rename_i hn
  have:=hn.2.2
  omega
 ·cases h
theorem Mg {a b:Lit} {c:Bool} (h:bD a b=c):(decide (a.kind=b.kind)&&(decide (a.act=b.act)&&(decide (a.val=b.val)&&true)))=c:=by rw [Bool.and_true];exact h
theorem OB {a:Lit} {c:Bool} (h:bD a fB=c):(decide (a.kind=0)&&(decide (a.act=0)&&(decide (a.val=0)&&true)))=c:=Mg h
theorem kS (h:Lg):vX (some h)= .tup [.d h.av,.d (.bool true)]:=rfl
theorem GY (g:Lg) (s:Infer):(Ey g s).av= .agg [i64 g.proj.dead,.sl (g.proj.acts.map aB.av),.sl (g.proj.links.map Link.av),.sl (g.proj.aW.map bI.av),ints g.proj.aR,ints (restrict g.dom s.lit).lo,ints (restrict g.dom s.lit).hi,.sl ((restrict g.dom s.lit).modes.map ints),lits g.decs,.sl (g.lines.map Lin.av++[(uf s).av])]:=by
 have h:(Ey g s).av= .agg [i64 g.proj.dead,.sl (g.proj.acts.map aB.av),.sl (g.proj.links.map Link.av),.sl (g.proj.aW.map bI.av),ints g.proj.aR,ints (restrict g.dom s.lit).lo,ints (restrict g.dom s.lit).hi,.sl ((restrict g.dom s.lit).modes.map ints),lits g.decs,.sl ((g.lines++[uf s]).map Lin.av)]:=rfl
 rw [h,List.map_append];rfl
theorem IJ (g:Lg) (s:Infer) (hp:g.proj.fine):Con 203 [.d g.av,.d s.av] (vX (nR g s)):=by
 refine con Tryz.func203 rfl rfl Tryz.call203 rfl fun hwf=>?_
 simp only [ARs.wf,AR.wf,AV.wf,AV.wfs,lm,lim] at hwf
 have hL:=eX g.proj g.lines (uf s) hp
 have hS:=jo g.dom s.clause
 rw [Vv] at hS
 by_cases hc:aI g.proj g.lines (uf s)=0
 rotate_left
 ·rw [sw (by simp [kR,hc])]
  (repeat' ((conv=>whnf);first|with_reducible refine Br.yes (by simp [hc]) ?_|refine gA ?_|(refine gB ?_ ?_<;>intro h)|refine gP ?_|refine gC (dY s.clause) ?_|refine gC (hL) ?_|intro _))<;>try (conv=>whnf)
  exact fv
 have Vh:=mH hc
 rw [hc] at hL
 rcases Mf g.dom s.clause with h1|h1|h1
 ·rw [sw (by simp [kR,hc,wW,h1])]
  rw [h1] at hS
  (repeat' ((conv=>whnf);first|refine gA ?_|(refine gB ?_ ?_<;>intro h)|refine gP ?_|refine gC (dY s.clause) ?_|refine gC (hL) ?_|refine gC (hS) ?_|intro _))<;>try (conv=>whnf)
  all_goals first
   |(exfalso;omega)
   |(exfalso;exact absurd trivial (by assumption))
   |exact fv
 ·rw [h1] at hS
  cases hz:bD (status g.dom s.clause).2 fB with
  |true=>
   have hz':=OB hz
   rw [sw (by simp [kR,hc,wW,h1,hz])]
   (repeat' ((conv=>whnf);first|with_reducible refine Br.yes hz' ?_|refine gA ?_|(refine gB ?_ ?_<;>intro h)|refine gP ?_|refine gC (dY s.clause) ?_|refine gC (hL) ?_|refine gC (hS) ?_|intro _))<;>try (conv=>whnf)
   all_goals first
    |(exfalso;omega)
    |(exfalso;exact absurd trivial (by assumption))
    |exact fv
  |false=>
  have hz':=OB hz
  cases he:bD (status g.dom s.clause).2 s.lit with
  |true=>
   rw [GU (by simp [kR,hc,wW,h1,he,hz]),kS,GY]
   have he':=Mg he
   (repeat' ((conv=>whnf);first|with_reducible refine Br.no hz' ?_|with_reducible refine Br.yes he' ?_|refine gA ?_|(refine gB ?_ ?_<;>intro h)|refine gP ?_|refine gC (dY s.clause) ?_|refine gC (hL) ?_|refine gC (hS) ?_|refine gC (vY g) ?_|refine gC (dH g.dom s.lit) ?_|intro _))<;>try (conv=>whnf)
   all_goals first
    |(exfalso;omega)
    |(exfalso;exact absurd trivial (by assumption))
    |exact fv
  |false=>
   rw [sw (by simp [kR,hc,wW,h1,he])]
   have he':=Mg he
   (repeat' ((conv=>whnf);first|with_reducible refine Br.no hz' ?_|with_reducible refine Br.no he' ?_|refine gA ?_|(refine gB ?_ ?_<;>intro h)|refine gP ?_|refine gC (dY s.clause) ?_|refine gC (hL) ?_|refine gC (hS) ?_|intro _))<;>try (conv=>whnf)
   all_goals first
    |(exfalso;omega)
    |(exfalso;exact absurd trivial (by assumption))
    |exact fv
 ·rw [h1] at hS
  by_cases he:litValue g.dom s.lit=1
  ·rw [GU (by simp [kR,hc,wW,h1,he]),kS,GY]
   (repeat' ((conv=>whnf);first|refine gA ?_|(refine gB ?_ ?_<;>intro h)|refine gP ?_|refine gC (dY s.clause) ?_|refine gC (hL) ?_|refine gC (hS) ?_|refine gC (lQ g.dom s.lit) ?_|refine gC (vY g) ?_|refine gC (dH g.dom s.lit) ?_|intro _))<;>try (conv=>whnf)
   all_goals first
    |(exfalso;omega)
    |(exfalso;exact absurd trivial (by assumption))
    |exact fv
  ·rw [sw (by simp [kR,hc,wW,h1,he])]
   (repeat' ((conv=>whnf);first|refine gA ?_|(refine gB ?_ ?_<;>intro h)|refine gP ?_|refine gC (dY s.clause) ?_|refine gC (hL) ?_|refine gC (hS) ?_|refine gC (lQ g.dom s.lit) ?_|intro _))<;>try (conv=>whnf)
   all_goals first
    |(exfalso;omega)
    |(exfalso;exact absurd trivial (by assumption))
    |exact fv
theorem OC (p:Proj) (hp:p.fine):Con 27 [.d p.av] (vX (GV p)):=by
 refine con Tryz.func27 rfl rfl Tryz.call27 rfl fun hwf=>?_
 cases ho:bC p with
 |false=>
  rw [GV,if_neg (by simp [ho])]
  (repeat' ((conv=>whnf);first|refine gA ?_|(refine gB ?_ ?_<;>intro h)|refine gC (aX p hp) ?_|intro _))<;>try (conv=>whnf)
  exact fv
 |true=>
  rw [GV,if_pos ho]
  (repeat' ((conv=>whnf);first|refine gA ?_|(refine gB ?_ ?_<;>intro h)|refine gC (aX p hp) ?_|refine gC (uz p) ?_|refine gC (kM p hp) ?_|intro _))<;>try (conv=>whnf)
  exact fv
def oG (g:Lg):Option Lg:=match eZ g.proj g.dom with|none=>none|some s=>nR g s
theorem zk (g:Lg):oG g=(match eZ g.proj g.dom with|none=>none|some s=>nR g s):=rfl
def dW:Nat→Nat→Lg→Lg×Nat
 |0,n,g=>(g,n)
 |f+1,n,g=>match oG g with|none=>(g,n)|some h=>dW f (n+1) h
theorem vZ (n:Nat) (g:Lg):dW 0 n g=(g,n):=rfl
theorem qL (f n:Nat) (g:Lg):dW (f+1) n g=(match oG g with|none=>(g,n)|some h=>dW f (n+1) h):=rfl
theorem DL {g h:Lg} {s:Infer} (e:nR g s=some h):h.proj=g.proj:=by
 unfold nR at e
 split at e
 ·cases e;rfl
 ·cases e
def WI (r:Lg×Nat):RV:=.tup [.d r.1.av,.d (i64 r.2)]
theorem wh (g:Lg) (most:Nat) (hp:g.proj.fine) (hm:most≤60):Con 145 [.d g.av,.d (i64 most)] (WI (dW most 0 g)):=by
 refine con Tryz.func145 rfl rfl Tryz.call145 rfl fun hwf=>?_
 generalize hR:dW most 0 g=R
 (repeat' ((conv=>whnf);first|refine gA ?_|(refine gB ?_ ?_<;>intro h)|refine gV ?_|intro _))<;>try (conv=>whnf)
 refine aA [1,4,6] [4] [] ?_
 (conv=>whnf)
 refine ay.go ((Nat)×(Lg)) (fun⟨n,h⟩=>(n≤most)∧(h.proj=g.proj)∧(dW (most - n) n h=R)) (fun⟨n,h⟩=>[(7,.data (i64 n))]) (fun⟨n,h⟩=>[(6,(AV.cells h.av).map SV.data)]) (fun _=>[]) (fun⟨n,h⟩=>most - n) ⟨0,g⟩ ?_ ?_
 ·exact⟨Nat.zero_le _,rfl,hR⟩
 rintro⟨n,h⟩ ⟨hn,hj,he⟩
 have hph:h.proj.fine:=hj ▸ hp
 have hF:=xA h.proj h.dom hph
 by_cases hlt:n < most
 rotate_left
 ·rw [show most - n=0 by omega,vZ] at he
  subst he
  (repeat' ((conv=>whnf);first|(exfalso;omega)|refine gA ?_|(refine gB ?_ ?_<;>intro h)|refine gV ?_|intro _))<;>try (conv=>whnf)
  exact fv
 rw [show most - n=(most - (n+1))+1 by omega,qL] at he
 cases h1:eZ h.proj h.dom with
 |none=>
  rw [zk,h1] at he
  rw [WH,h1] at hF
  dsimp only [Option.getD,Option.isSome] at hF
  have he:(h,n)=R:=he
  subst he
  (repeat' ((conv=>whnf);first|(exfalso;omega)|refine gA ?_|(refine gB ?_ ?_<;>intro h)|refine gV ?_|refine gC (hF) ?_|intro _))<;>try (conv=>whnf)
  all_goals exact fv
 |some s=>
  rw [WH,h1] at hF
  dsimp only [Option.getD,Option.isSome] at hF
  have hI:=IJ h s hph
  have e1:oG h=nR h s:=by rw [zk,h1]
  rw [e1] at he
  cases h2:nR h s with
  |none=>
   rw [h2] at he
   rw [vX,h2] at hI
   dsimp only [Option.getD,Option.isSome] at hI
   have he:(h,n)=R:=he
   subst he
   (repeat' ((conv=>whnf);first|(exfalso;omega)|refine gA ?_|(refine gB ?_ ?_<;>intro h)|refine gV ?_|refine gC (hF) ?_|refine gC (hI) ?_|intro _))<;>try (conv=>whnf)
   all_goals exact fv
  |some h'=>
   rw [h2] at he
   rw [vX,h2] at hI
   dsimp only [Option.getD,Option.isSome] at hI
   have he:dW (most - (n+1)) (n+1) h'=R:=he
   (repeat' ((conv=>whnf);first|(exfalso;omega)|refine gA ?_|(refine gB ?_ ?_<;>intro h)|refine gV ?_|refine gC (hF) ?_|refine gC (hI) ?_|intro _))<;>try (conv=>whnf)
   all_goals
    refine nx ⟨n+1,h'⟩ ?_
    exact⟨by omega,(DL h2).trans hj,he⟩
end Go.Proofs.YtefgamefajmdkaaGreat.Abs
namespace Go.Proofs.YtefgamefajmdkaaGreat.Abs
open Go.Proofs Go.RowKit
attribute [local irreducible] eZ fE aI status litValue
theorem pX (p:Proj) (b:Dom) (r:Rul) (hp:p.fine):Con 205 [.d p.av,.d b.av,.d r.av] (.lin 82 ((explain p b r).map Lit.av)):=by
 refine con Tryz.func205 rfl rfl Tryz.call205 rfl fun hwf=>?_
 (repeat' ((conv=>whnf);first|refine gA ?_|(refine gB ?_ ?_<;>intro h)|refine gC (fJ p b r hp) ?_|refine gC (vV p b hp) ?_|refine gC (gD (Gx p b)) ?_|refine gC (pV p r (eP (Gx p b)) 252 [] _ hp (fun x=>rZ x)) ?_|intro _))<;>try (conv=>whnf)
 ·rw [explain,if_pos (by assumption)]
  exact fv
 ·rw [explain,if_neg (by simp [*])]
  exact fv
def dI (g:Lg) (r:Rul):Lin:=⟨1,r,explain g.proj g.dom r⟩
def aY (g:Lg):Lin:=⟨2,TJ,eP (g.decs.map negate)⟩
def iH (g:Lg):Option Lg:=match fE g.proj g.dom with
 |none=>none
 |some r=>if aI g.proj g.lines (dI g r)=0∧aI g.proj (g.lines++[dI g r]) (aY g)=0 then some ⟨g.proj,g.dom,g.decs,g.lines++[dI g r]++[aY g]⟩ else none
theorem zl (g:Lg):iH g=(match fE g.proj g.dom with
 |none=>none
 |some r=>if aI g.proj g.lines (dI g r)=0∧aI g.proj (g.lines++[dI g r]) (aY g)=0 then some ⟨g.proj,g.dom,g.decs,g.lines++[dI g r]++[aY g]⟩ else none):=rfl
def Ql (o:Option Lg):RV:=.tup [.agg [.junk,.junk,.junk,.junk,.junk,.junk,.junk,.junk,.junk,.lin 53 ((o.getD QZ).lines.map Lin.av)],.d (.bool o.isSome)]
def Sk (a b:Lin) (k:Nat):List SV:=
 match k with
 |0=>[.data (i64 a.kind),.data (i64 a.rule.kind),.data (i64 a.rule.a),.data (i64 a.rule.b),.data (i64 a.rule.c),.own 46000 0,.data (i64 b.kind),.data (i64 0),.data (i64 0),.data (i64 0),.data (i64 0),.own 49000 0]
 |1=>[.data (i64 a.kind),.data (i64 a.rule.kind),.data (i64 a.rule.a),.data (i64 a.rule.b),.data (i64 a.rule.c),.data (lits a.clause),.data (i64 b.kind),.data (i64 0),.data (i64 0),.data (i64 0),.data (i64 0),.own 49000 0]
 |_=>[.data (i64 a.kind),.data (i64 a.rule.kind),.data (i64 a.rule.a),.data (i64 a.rule.b),.data (i64 a.rule.c),.data (lits a.clause),.data (i64 b.kind),.data (i64 0),.data (i64 0),.data (i64 0),.data (i64 0),.data (lits b.clause)]
def sD (g:Lg) (a b:Lin) (k:Nat):List Lin:=
 match k with
 |0=>g.lines
 |1=>g.lines++[a]
 |_=>g.lines++[a]++[b]
def Ud (a b:Lin) (k:Nat):List (Nat×Nat×List AV×Nat):=
 match k with
 |0=>[(46000,82,a.clause.map Lit.av,1),(49000,82,b.clause.map Lit.av,1)]
 |1=>[(49000,82,b.clause.map Lit.av,1)]
 |_=>[]
theorem yw (g:Lg) (hp:g.proj.fine):Con 146 [.d g.av] (Ql (iH g)):=by
 refine con Tryz.func146 rfl rfl Tryz.call146 rfl fun hwf=>?_
 simp only [ARs.wf,AR.wf,AV.wf,AV.wfs,lm,lim] at hwf
 have hR:=nV g.proj g.dom hp
 cases hf:fE g.proj g.dom with
 |none=>
  rw [TY,hf] at hR
  dsimp only [Option.getD,Option.isSome] at hR
  rw [zl,hf]
  (repeat' ((conv=>whnf);first|refine gA ?_|(refine gB ?_ ?_<;>intro h)|(refine gI ?_;intro x hx)|(refine gJ ?_;intro j x hj hx)|refine gP ?_|refine gV ?_|refine gC (hR) ?_|intro _))<;>try (conv=>whnf)
  exact fv
 |some r=>
 rw [TY,hf] at hR
 dsimp only [Option.getD,Option.isSome] at hR
 have hE:=pX g.proj g.dom r hp
 have hN:=(gD (g.decs.map negate)).tT rfl
 have hC1:=eX g.proj g.lines (dI g r) hp
 have hC2:=eX g.proj (g.lines++[dI g r]) (aY g) hp
 generalize hRR:iH g=R
 have hst:R=if aI g.proj g.lines (dI g r)=0∧aI g.proj (g.lines++[dI g r]) (aY g)=0 then some ⟨g.proj,g.dom,g.decs,g.lines++[dI g r]++[aY g]⟩ else none:=by rw [← hRR,zl,hf]
 (repeat' ((conv=>whnf);first|refine gA ?_|(refine gB ?_ ?_<;>intro h)|(refine gI ?_;intro x hx)|(refine gJ ?_;intro j x hj hx)|refine gP ?_|refine gV ?_|refine gC (hR) ?_|refine gC (GX g) ?_|intro _))<;>try (conv=>whnf)
 refine aA [1,2,4,6,27,28] [1,4] [25,250010] ?_
 (conv=>whnf)
 refine ay.go ((Nat)×(List Lit)) (fun⟨k,o⟩=>(k≤g.decs.length)∧(o=(g.decs.take k).map negate)) (fun⟨k,o⟩=>[(29,.data (i64 k)),(7,.own 25 0)]) (fun⟨k,o⟩=>[(2,[.undef,.undef,.undef,.undef,.undef,.undef,.undef,.undef,.undef,.undef]),(6,[.data (i64 g.proj.dead),.data (.sl (g.proj.acts.map aB.av)),.data (.sl (g.proj.links.map Link.av)),.data (.sl (g.proj.aW.map bI.av)),.data (ints g.proj.aR),.undef,.undef,.undef,.undef,.own 250010 0])]) (fun⟨k,o⟩=>[(25,82,o.map Lit.av,1),(250010,53,g.lines.map Lin.av,1)]) (fun⟨k,o⟩=>g.decs.length - k) ⟨0,[]⟩ ?_ ?_
 ·exact⟨Nat.zero_le _,rfl⟩
 rintro⟨k,o⟩ ⟨hk,ho⟩
 by_cases hlt:k < g.decs.length
 ·obtain⟨x,hx⟩:∃x,g.decs[k]? =some x:=⟨g.decs[k]'hlt,by simp⟩
  have hol:o.length≤k:=by rw [ho];simp;omega
  (repeat' ((conv=>whnf);first|with_reducible refine Idx.got hx rfl ?_|(exfalso;omega)|refine gA ?_|(refine gB ?_ ?_<;>intro h)|(refine gI ?_;intro x hx)|(refine gJ ?_;intro j x hj hx)|refine gP ?_|refine gV ?_|refine gC (dZ x) ?_|intro _))<;>try (conv=>whnf)
  refine nw ⟨k+1,o++[negate x]⟩ ?_ ?_
  ·(repeat' ((conv=>whnf)<;>(first|exact trivial|exact rfl|with_reducible refine And.intro ?_ ?_)))<;>((conv=>whnf)<;>(simp))
  exact⟨by omega,by rw [ho, ← lU negate hx]⟩
 obtain rfl:o=g.decs.map negate:=by rw [ho,List.take_of_length_le (by omega)]
 (repeat' ((conv=>whnf);first|(exfalso;omega)|refine gA ?_|(refine gB ?_ ?_<;>intro h)|(refine gI ?_;intro x hx)|(refine gJ ?_;intro j x hj hx)|refine gP ?_|refine gV ?_|refine gC (hE) ?_|refine gC (hN) ?_|intro _))<;>try (conv=>whnf)
 refine aA [2,6,50,51] [] [250010,46000,49000] ?_
 (conv=>whnf)
 refine ay.go Nat (fun k=>k≤2∧(0 < k→aI g.proj g.lines (dI g r)=0)∧(1 < k→aI g.proj (g.lines++[dI g r]) (aY g)=0)) (fun k=>[(52,.data (i64 k))]) (fun k=>[(50,Sk (dI g r) (aY g) k),(2,[.undef,.undef,.undef,.undef,.undef,.undef,.undef,.undef,.undef,.undef]),(6,[.data (i64 g.proj.dead),.data (.sl (g.proj.acts.map aB.av)),.data (.sl (g.proj.links.map Link.av)),.data (.sl (g.proj.aW.map bI.av)),.data (ints g.proj.aR),.undef,.undef,.undef,.undef,.own 250010 0])]) (fun k=>(250010,53,(sD g (dI g r) (aY g) k).map Lin.av,1)::Ud (dI g r) (aY g) k) (fun k=>2 - k) 0 ?_ ?_
 ·exact⟨by omega,fun h=>by omega,fun h=>by omega⟩
 rintro k ⟨hk,h1,h2⟩
 rcases k with _|_|k
 ·by_cases hc:aI g.proj g.lines (dI g r)=0
  ·rw [hc] at hC1
   have hl0:(sD g (dI g r) (aY g) 0).length < 300:=mH hc
   (repeat' ((conv=>whnf);first|(exfalso;omega)|refine gA ?_|(refine gB ?_ ?_<;>intro h)|(refine gI ?_;intro x hx)|(refine gJ ?_;intro j x hj hx)|refine gP ?_|refine gV ?_|refine gC (hC1) ?_|intro _))<;>try (conv=>whnf)
   all_goals first
    |(exfalso;exact absurd trivial (by assumption))
    |(refine nw ((1)) ?_ ?_
      ·(repeat' ((conv=>whnf)<;>(first|exact trivial|exact rfl|with_reducible refine And.intro ?_ ?_)))<;>((conv=>whnf)<;>(simp [sD]))
      exact⟨by omega,fun _=>hc,fun h=>by omega⟩)
  ·obtain rfl:R=none:=by rw [hst,if_neg (fun h=>hc h.1)]
   (repeat' ((conv=>whnf);first|(exfalso;omega)|refine gA ?_|(refine gB ?_ ?_<;>intro h)|(refine gI ?_;intro x hx)|(refine gJ ?_;intro j x hj hx)|refine gP ?_|refine gV ?_|refine gC (hC1) ?_|intro _))<;>try (conv=>whnf)
   all_goals first
    |(exfalso;omega)
    |(exfalso;exact absurd trivial (by assumption))
    |exact fv
 ·by_cases hc2:aI g.proj (g.lines++[dI g r]) (aY g)=0
  ·rw [hc2] at hC2
   have hl1:(sD g (dI g r) (aY g) (0+1)).length < 300:=mH hc2
   (repeat' ((conv=>whnf);first|(exfalso;omega)|refine gA ?_|(refine gB ?_ ?_<;>intro h)|(refine gI ?_;intro x hx)|(refine gJ ?_;intro j x hj hx)|refine gP ?_|refine gV ?_|refine gC (hC2) ?_|intro _))<;>try (conv=>whnf)
   all_goals first
    |(exfalso;exact absurd trivial (by assumption))
    |(refine nw ((2)) ?_ ?_
      ·(repeat' ((conv=>whnf)<;>(first|exact trivial|exact rfl|with_reducible refine And.intro ?_ ?_)))<;>((conv=>whnf)<;>(simp [sD,aY,TJ]))
      exact⟨by omega,fun _=>h1 (by omega),fun _=>hc2⟩)
  ·obtain rfl:R=none:=by rw [hst,if_neg (fun h=>hc2 h.2)]
   (repeat' ((conv=>whnf);first|(exfalso;omega)|refine gA ?_|(refine gB ?_ ?_<;>intro h)|(refine gI ?_;intro x hx)|(refine gJ ?_;intro j x hj hx)|refine gP ?_|refine gV ?_|refine gC (hC2) ?_|intro _))<;>try (conv=>whnf)
   all_goals first
    |(exfalso;omega)
    |(exfalso;exact absurd trivial (by assumption))
    |exact fv
 ·obtain rfl:k=0:=by omega
  obtain rfl:R=some ⟨g.proj,g.dom,g.decs,g.lines++[dI g r]++[aY g]⟩:=by rw [hst,if_pos ⟨h1 (by omega),h2 (by omega)⟩]
  (repeat' ((conv=>whnf);first|(exfalso;omega)|refine gA ?_|(refine gB ?_ ?_<;>intro h)|(refine gI ?_;intro x hx)|(refine gJ ?_;intro j x hj hx)|refine gP ?_|refine gV ?_|intro _))<;>try (conv=>whnf)
  exact fv
end Go.Proofs.YtefgamefajmdkaaGreat.Abs
namespace Go.Proofs.YtefgamefajmdkaaGreat.Abs
open Go.Proofs Go.RowKit
attribute [local irreducible] eZ fE aI status litValue
theorem wo:∀(f n:Nat) (g:Lg),(dW f n g).1.proj=g.proj
 |0,_,_=>rfl
 |f+1,n,g=>by
  rw [qL]
  cases h:oG g with
  |none=>rfl
  |some x=>
   dsimp only
   rw [wo f]
   unfold oG at h
   split at h
   ·cases h
   ·exact DL h
end Go.Proofs.YtefgamefajmdkaaGreat.Abs
namespace Go.Proofs.YtefgamefajmdkaaGreat.Abs
open Go.Proofs Go.RowKit
end Go.Proofs.YtefgamefajmdkaaGreat.Abs
