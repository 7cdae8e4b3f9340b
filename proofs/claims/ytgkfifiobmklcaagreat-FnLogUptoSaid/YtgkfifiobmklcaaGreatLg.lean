/- Contracts: logs that are made, copied, and grow. -/
import Derived.Test.YtgkfifiobmklcaaGreatC35
import Derived.Test.YtgkfifiobmklcaaGreatC30
import Derived.Test.YtgkfifiobmklcaaGreatPlain
set_option linter.all false
set_option maxRecDepth 20000
set_option maxHeartbeats 0
namespace Go.Proofs.YtgkfifiobmklcaaGreat.Abs
open Go.Proofs Go.RowKit
attribute [local irreducible] bq dQ aH status litValue
def oV (s:Infer):Lin:=⟨1,s.rule,s.clause⟩
def says (g:Lg) (s:Infer):Bool:=(decide ((status g.dom s.clause).1=0)&&(!bM (status g.dom s.clause).2 bV&&bM (status g.dom s.clause).2 s.lit))||(decide ((status g.dom s.clause).1=1)&&decide (litValue g.dom s.lit=1))
def Kv (g:Lg) (s:Infer):Bool:=decide (aH g.proj g.lines (oV s)=0)&&says g s
def jL (g:Lg) (s:Infer):Lg:=⟨g.proj,restrict g.dom s.lit,g.decs,g.lines++[oV s]⟩
def nP (g:Lg) (s:Infer):Option Lg:=if Kv g s=true then some (jL g s) else none
theorem wL {g:Lg} {s:Infer} (h:¬ Kv g s=true):nP g s=none:=if_neg h
theorem Dz {g:Lg} {s:Infer} (h:Kv g s=true):nP g s=some (jL g s):=if_pos h
theorem kG (g:Lg) (s:Infer):Kv g s=(decide (aH g.proj g.lines (oV s)=0)&&says g s):=rfl
theorem yc (g:Lg) (s:Infer):says g s=((decide ((status g.dom s.clause).1=0)&&(!bM (status g.dom s.clause).2 bV&&bM (status g.dom s.clause).2 s.lit))||(decide ((status g.dom s.clause).1=1)&&decide (litValue g.dom s.lit=1))):=rfl
def oW (o:Option Lg):RV:=.tup [.d (o.getD TM).av,.d (.bool o.isSome)]
def abp (g:Lg):RV:=.agg [.d (i64 g.proj.dead),.lin 133 (g.proj.acts.map aF.av),.lin 136 (g.proj.links.map Link.av),.lin 128 (g.proj.bC.map dN.av),.lin 3 (g.proj.aX.map i64),.lin 3 (g.dom.lo.map i64),.lin 3 (g.dom.hi.map i64),.lin 26 (g.dom.modes.map ints),.lin 39 (g.decs.map Lit.av),.lin 60 (g.lines.map Lin.av)]
def Ae (p:Proj):Option Lg:=if aG p=true then some ⟨p,aW p,[],[]⟩ else none
theorem PL (ls:List Lin):Xr ls (upTo ls.length)=ls:=by
 unfold Xr upTo
 rw [List.map_map]
 refine List.ext_getElem? fun i=>?_
 rw [List.getElem?_map]
 by_cases h:i < ls.length
 ·rw [List.getElem?_range h]
  simp [HV,List.getD_eq_getElem?_getD,h]
 ·rw [List.getElem?_eq_none (by simpa using h),List.getElem?_eq_none (by omega)];rfl
theorem Na (ls:List Lin):Con 112 [.d (.sl (ls.map Lin.av))] (.d (ints (upTo ls.length))):=by
 refine con Tryz.func112 rfl rfl Tryz.call112 rfl fun hwf=>?_
 simp only [ARs.wf,AR.wf,AV.wf,AV.wfs,lm,lim] at hwf
 (repeat' ((conv=>whnf);first|refine gA ?_|(refine gB ?_ ?_<;>intro h)|refine gP ?_|refine gV ?_|intro _))<;>try (conv=>whnf)
 refine aB [7] [] [5] ?_
 (conv=>whnf)
 refine aA.go ((Nat)) (fun k=>(k≤ls.length)) (fun k=>[(8,.data (i64 k)),(3,.own 5 0)]) (fun _=>[]) (fun k=>[(5,3,(upTo k).map i64,0)]) (fun k=>ls.length - k) (0) ?_ ?_
 ·exact Nat.zero_le _
 rintro k hk
 by_cases hlt:k < ls.length
 ·(repeat' ((conv=>whnf);first|refine gA ?_|(refine gB ?_ ?_<;>intro h)|refine gP ?_|refine gV ?_|intro _))<;>try (conv=>whnf)
  ·refine nw (k+1) ?_ ?_
   ·(repeat' ((conv=>whnf)<;>(first|exact trivial|exact rfl|with_reducible refine And.intro ?_ ?_)))<;>((conv=>whnf)<;>(exact LU k))
   exact (by omega:k+1≤ls.length)
  ·exfalso;omega
 ·obtain rfl:k=ls.length:=by omega
  (repeat' ((conv=>whnf);first|(exfalso;omega)|refine gA ?_|(refine gB ?_ ?_<;>intro h)|refine gP ?_|refine gV ?_|intro _))<;>try (conv=>whnf)
  exact⟨rfl,rfl,trivial⟩
theorem vO (g:Lg):Con 41 [.d g.av] (abp g):=by
 refine con Tryz.func41 rfl rfl Tryz.call41 rfl fun hwf=>?_
 have hl:=wH g.lines (upTo g.lines.length) (fun i hi=>Uh hi)
 rw [PL] at hl
 (repeat' ((conv=>whnf);first|refine gA ?_|(refine gB ?_ ?_<;>intro h)|refine gC (Bn g.proj) ?_|refine gC (nM g.dom) ?_|refine gC (gY g.decs) ?_|refine gC (Na g.lines) ?_|refine gC (hl) ?_|intro _))<;>try (conv=>whnf)
 exact fv
def afc (g:Lg):RV:=.agg [.d (i64 g.proj.dead),.d (.sl (g.proj.acts.map aF.av)),.d (.sl (g.proj.links.map Link.av)),.d (.sl (g.proj.bC.map dN.av)),.d (ints g.proj.aX),.d (ints g.dom.lo),.d (ints g.dom.hi),.d (.sl (g.dom.modes.map ints)),.d (lits g.decs),.own 60 (g.lines.map Lin.av)]
theorem Af (g:Lg):Con 41 [.d g.av] (afc g):=by
 refine con Tryz.func41 rfl rfl Tryz.call41 rfl fun hwf=>?_
 have hl:=wH g.lines (upTo g.lines.length) (fun i hi=>Uh hi)
 rw [PL] at hl
 (repeat' ((conv=>whnf);first|refine gA ?_|(refine gB ?_ ?_<;>intro h)|refine gC (yP g.proj) ?_|refine gC (qH g.dom) ?_|refine gC (gY g.decs) ?_|refine gC (Na g.lines) ?_|refine gC (hl) ?_|intro _))<;>try (conv=>whnf)
 exact fv
theorem RJ (b:Dom) (l:List Lit):(status b l).1= -1∨(status b l).1=0∨(status b l).1=1:=by
 have:∀(l:List Lit) (n:Int) (x:Lit),(aO b l n x).1= -1∨(aO b l n x).1=0∨(aO b l n x).1=1:=by
  intro l
  induction l with
  |nil=>intro n x;rw [aO];split; · exact .inl rfl
        split<;>exact .inr (.inl rfl)
  |cons y l ih=>intro n x;rw [aO];split; · exact .inr (.inr rfl)
                split
                ·exact ih _ _
                ·exact ih _ _
 unfold status
 exact this l 0 bV
theorem Ig {p:Proj} {a:List Lin} {l:Lin} (h:aH p a l=0):a.length < 300:=by
 unfold aH at h
 split at h
 ·rename_i hn
  have:=hn.2.2
  omega
 ·cases h
theorem RL {a b:Lit} {c:Bool} (h:bM a b=c):(decide (a.kind=b.kind)&&(decide (a.act=b.act)&&(decide (a.val=b.val)&&true)))=c:=by rw [Bool.and_true];exact h
theorem Ux {a:Lit} {c:Bool} (h:bM a bV=c):(decide (a.kind=0)&&(decide (a.act=0)&&(decide (a.val=0)&&true)))=c:=RL h
theorem DC (h:Lg):oW (some h)= .tup [.d h.av,.d (.bool true)]:=rfl
theorem Nb (g:Lg) (s:Infer):(jL g s).av= .agg [i64 g.proj.dead,.sl (g.proj.acts.map aF.av),.sl (g.proj.links.map Link.av),.sl (g.proj.bC.map dN.av),ints g.proj.aX,ints (restrict g.dom s.lit).lo,ints (restrict g.dom s.lit).hi,.sl ((restrict g.dom s.lit).modes.map ints),lits g.decs,.sl (g.lines.map Lin.av++[(oV s).av])]:=by
 have h:(jL g s).av= .agg [i64 g.proj.dead,.sl (g.proj.acts.map aF.av),.sl (g.proj.links.map Link.av),.sl (g.proj.bC.map dN.av),ints g.proj.aX,ints (restrict g.dom s.lit).lo,ints (restrict g.dom s.lit).hi,.sl ((restrict g.dom s.lit).modes.map ints),lits g.decs,.sl ((g.lines++[oV s]).map Lin.av)]:=rfl
 rw [h,List.map_append];rfl
theorem CF (g:Lg) (s:Infer) (hp:g.proj.fine):Con 54 [.d g.av,.d s.av] (oW (nP g s)):=by
 refine con Tryz.func54 rfl rfl Tryz.call54 rfl fun hwf=>?_
 simp only [ARs.wf,AR.wf,AV.wf,AV.wfs,lm,lim] at hwf
 have hL:=oN g.proj g.lines (oV s) hp
 have hS:=lC g.dom s.clause
 rw [abO] at hS
 by_cases hc:aH g.proj g.lines (oV s)=0
 rotate_left
 ·rw [wL (by simp [kG,hc])]
  (repeat' ((conv=>whnf);first|with_reducible refine Br.yes (by simp [hc]) ?_|refine gA ?_|(refine gB ?_ ?_<;>intro h)|refine gP ?_|refine gC (gY s.clause) ?_|refine gC (hL) ?_|intro _))<;>try (conv=>whnf)
  exact fv
 have aed:=Ig hc
 rw [hc] at hL
 rcases RJ g.dom s.clause with h1|h1|h1
 ·rw [wL (by simp [kG,hc,yc,h1])]
  rw [h1] at hS
  (repeat' ((conv=>whnf);first|refine gA ?_|(refine gB ?_ ?_<;>intro h)|refine gP ?_|refine gC (gY s.clause) ?_|refine gC (hL) ?_|refine gC (hS) ?_|intro _))<;>try (conv=>whnf)
  all_goals first
   |(exfalso;omega)
   |(exfalso;exact absurd trivial (by assumption))
   |exact fv
 ·rw [h1] at hS
  cases hz:bM (status g.dom s.clause).2 bV with
  |true=>
   have hz':=Ux hz
   rw [wL (by simp [kG,hc,yc,h1,hz])]
   (repeat' ((conv=>whnf);first|with_reducible refine Br.yes hz' ?_|refine gA ?_|(refine gB ?_ ?_<;>intro h)|refine gP ?_|refine gC (gY s.clause) ?_|refine gC (hL) ?_|refine gC (hS) ?_|intro _))<;>try (conv=>whnf)
   all_goals first
    |(exfalso;omega)
    |(exfalso;exact absurd trivial (by assumption))
    |exact fv
  |false=>
  have hz':=Ux hz
  cases he:bM (status g.dom s.clause).2 s.lit with
  |true=>
   rw [Dz (by simp [kG,hc,yc,h1,he,hz]),DC,Nb]
   have he':=RL he
   (repeat' ((conv=>whnf);first|with_reducible refine Br.no hz' ?_|with_reducible refine Br.yes he' ?_|refine gA ?_|(refine gB ?_ ?_<;>intro h)|refine gP ?_|refine gC (gY s.clause) ?_|refine gC (hL) ?_|refine gC (hS) ?_|refine gC (Af g) ?_|refine gC (fB g.dom s.lit) ?_|intro _))<;>try (conv=>whnf)
   all_goals first
    |(exfalso;omega)
    |(exfalso;exact absurd trivial (by assumption))
    |exact fv
  |false=>
   rw [wL (by simp [kG,hc,yc,h1,he])]
   have he':=RL he
   (repeat' ((conv=>whnf);first|with_reducible refine Br.no hz' ?_|with_reducible refine Br.no he' ?_|refine gA ?_|(refine gB ?_ ?_<;>intro h)|refine gP ?_|refine gC (gY s.clause) ?_|refine gC (hL) ?_|refine gC (hS) ?_|intro _))<;>try (conv=>whnf)
   all_goals first
    |(exfalso;omega)
    |(exfalso;exact absurd trivial (by assumption))
    |exact fv
 ·rw [h1] at hS
  by_cases he:litValue g.dom s.lit=1
  ·rw [Dz (by simp [kG,hc,yc,h1,he]),DC,Nb]
   (repeat' ((conv=>whnf);first|refine gA ?_|(refine gB ?_ ?_<;>intro h)|refine gP ?_|refine gC (gY s.clause) ?_|refine gC (hL) ?_|refine gC (hS) ?_|refine gC (oM g.dom s.lit) ?_|refine gC (Af g) ?_|refine gC (fB g.dom s.lit) ?_|intro _))<;>try (conv=>whnf)
   all_goals first
    |(exfalso;omega)
    |(exfalso;exact absurd trivial (by assumption))
    |exact fv
  ·rw [wL (by simp [kG,hc,yc,h1,he])]
   (repeat' ((conv=>whnf);first|refine gA ?_|(refine gB ?_ ?_<;>intro h)|refine gP ?_|refine gC (gY s.clause) ?_|refine gC (hL) ?_|refine gC (hS) ?_|refine gC (oM g.dom s.lit) ?_|intro _))<;>try (conv=>whnf)
   all_goals first
    |(exfalso;omega)
    |(exfalso;exact absurd trivial (by assumption))
    |exact fv
theorem Uy (p:Proj) (hp:p.fine):Con 25 [.d p.av] (oW (Ae p)):=by
 refine con Tryz.func25 rfl rfl Tryz.call25 rfl fun hwf=>?_
 cases ho:aG p with
 |false=>
  rw [Ae,if_neg (by simp [ho])]
  (repeat' ((conv=>whnf);first|refine gA ?_|(refine gB ?_ ?_<;>intro h)|refine gC (bE p hp) ?_|intro _))<;>try (conv=>whnf)
  exact fv
 |true=>
  rw [Ae,if_pos ho]
  (repeat' ((conv=>whnf);first|refine gA ?_|(refine gB ?_ ?_<;>intro h)|refine gC (bE p hp) ?_|refine gC (yP p) ?_|refine gC (nK p hp) ?_|intro _))<;>try (conv=>whnf)
  exact fv
def Kw (g:Lg):Option Lg:=match bq g.proj g.dom with|none=>none|some s=>nP g s
theorem yg (g:Lg):Kw g=(match bq g.proj g.dom with|none=>none|some s=>nP g s):=rfl
def iR:Nat→Nat→Lg→Lg×Nat
 |0,n,g=>(g,n)
 |f+1,n,g=>match Kw g with|none=>(g,n)|some h=>iR f (n+1) h
theorem Uz (n:Nat) (g:Lg):iR 0 n g=(g,n):=rfl
theorem Ag (f n:Nat) (g:Lg):iR (f+1) n g=(match Kw g with|none=>(g,n)|some h=>iR f (n+1) h):=rfl
theorem UA {g h:Lg} {s:Infer} (e:nP g s=some h):h.proj=g.proj:=by
 unfold nP at e
 split at e
 ·cases e;rfl
 ·cases e
def Yx (r:Lg×Nat):RV:=.tup [.d r.1.av,.d (i64 r.2)]
theorem Nc (g:Lg) (most:Nat) (hp:g.proj.fine) (hm:most≤60):Con 42 [.d g.av,.d (i64 most)] (Yx (iR most 0 g)):=by
 refine con Tryz.func42 rfl rfl Tryz.call42 rfl fun hwf=>?_
 generalize hR:iR most 0 g=R
 (repeat' ((conv=>whnf);first|refine gA ?_|(refine gB ?_ ?_<;>intro h)|refine gV ?_|intro _))<;>try (conv=>whnf)
 refine aB [1,4,6] [4] [] ?_
 (conv=>whnf)
 refine aA.go ((Nat)×(Lg)) (fun⟨n,h⟩=>(n≤most)∧(h.proj=g.proj)∧(iR (most - n) n h=R)) (fun⟨n,h⟩=>[(7,.data (i64 n))]) (fun⟨n,h⟩=>[(6,(AV.cells h.av).map SV.data)]) (fun _=>[]) (fun⟨n,h⟩=>most - n) ⟨0,g⟩ ?_ ?_
 ·exact⟨Nat.zero_le _,rfl,hR⟩
 rintro⟨n,h⟩ ⟨hn,hj,he⟩
 have hph:h.proj.fine:=hj ▸ hp
 have hF:=rF h.proj h.dom hph
 by_cases hlt:n < most
 rotate_left
 ·rw [show most - n=0 by omega,Uz] at he
  subst he
  (repeat' ((conv=>whnf);first|(exfalso;omega)|refine gA ?_|(refine gB ?_ ?_<;>intro h)|refine gV ?_|intro _))<;>try (conv=>whnf)
  exact fv
 rw [show most - n=(most - (n+1))+1 by omega,Ag] at he
 cases h1:bq h.proj h.dom with
 |none=>
  rw [yg,h1] at he
  rw [ZX,h1] at hF
  dsimp only [Option.getD,Option.isSome] at hF
  have he:(h,n)=R:=he
  subst he
  (repeat' ((conv=>whnf);first|(exfalso;omega)|refine gA ?_|(refine gB ?_ ?_<;>intro h)|refine gV ?_|refine gC (hF) ?_|intro _))<;>try (conv=>whnf)
  all_goals exact fv
 |some s=>
  rw [ZX,h1] at hF
  dsimp only [Option.getD,Option.isSome] at hF
  have hI:=CF h s hph
  have e1:Kw h=nP h s:=by rw [yg,h1]
  rw [e1] at he
  cases h2:nP h s with
  |none=>
   rw [h2] at he
   rw [oW,h2] at hI
   dsimp only [Option.getD,Option.isSome] at hI
   have he:(h,n)=R:=he
   subst he
   (repeat' ((conv=>whnf);first|(exfalso;omega)|refine gA ?_|(refine gB ?_ ?_<;>intro h)|refine gV ?_|refine gC (hF) ?_|refine gC (hI) ?_|intro _))<;>try (conv=>whnf)
   all_goals exact fv
  |some h'=>
   rw [h2] at he
   rw [oW,h2] at hI
   dsimp only [Option.getD,Option.isSome] at hI
   have he:iR (most - (n+1)) (n+1) h'=R:=he
   (repeat' ((conv=>whnf);first|(exfalso;omega)|refine gA ?_|(refine gB ?_ ?_<;>intro h)|refine gV ?_|refine gC (hF) ?_|refine gC (hI) ?_|intro _))<;>try (conv=>whnf)
   all_goals
    refine nx ⟨n+1,h'⟩ ?_
    exact⟨by omega,(UA h2).trans hj,he⟩
end Go.Proofs.YtgkfifiobmklcaaGreat.Abs
namespace Go.Proofs.YtgkfifiobmklcaaGreat.Abs
open Go.Proofs Go.RowKit
attribute [local irreducible] bq dQ aH status litValue
theorem tQ (p:Proj) (b:Dom) (r:Rul) (hp:p.fine):Con 143 [.d p.av,.d b.av,.d r.av] (.lin 39 ((explain p b r).map Lit.av)):=by
 refine con Tryz.func143 rfl rfl Tryz.call143 rfl fun hwf=>?_
 (repeat' ((conv=>whnf);first|refine gA ?_|(refine gB ?_ ?_<;>intro h)|refine gC (iF p b r hp) ?_|refine gC (Ab p b hp) ?_|refine gC (oO (nN p b)) ?_|refine gC (tN p r (bH (nN p b)) 196 [] _ hp (fun x=>wI x)) ?_|intro _))<;>try (conv=>whnf)
 ·rw [explain,if_pos (by assumption)]
  exact fv
 ·rw [explain,if_neg (by simp [*])]
  exact fv
def bF (g:Lg) (r:Rul):Lin:=⟨1,r,explain g.proj g.dom r⟩
def bA (g:Lg):Lin:=⟨2,Rf,bH (g.decs.map negate)⟩
def jM (g:Lg):Option Lg:=match dQ g.proj g.dom with
 |none=>none
 |some r=>if aH g.proj g.lines (bF g r)=0∧aH g.proj (g.lines++[bF g r]) (bA g)=0 then some ⟨g.proj,g.dom,g.decs,g.lines++[bF g r]++[bA g]⟩ else none
theorem yh (g:Lg):jM g=(match dQ g.proj g.dom with
 |none=>none
 |some r=>if aH g.proj g.lines (bF g r)=0∧aH g.proj (g.lines++[bF g r]) (bA g)=0 then some ⟨g.proj,g.dom,g.decs,g.lines++[bF g r]++[bA g]⟩ else none):=rfl
def Yy (a b:Lin) (k:Nat):List SV:=
 match k with
 |0=>[.data (i64 a.kind),.data (i64 a.rule.kind),.data (i64 a.rule.a),.data (i64 a.rule.b),.data (i64 a.rule.c),.own 46000 0,.data (i64 b.kind),.data (i64 0),.data (i64 0),.data (i64 0),.data (i64 0),.own 49000 0]
 |1=>[.data (i64 a.kind),.data (i64 a.rule.kind),.data (i64 a.rule.a),.data (i64 a.rule.b),.data (i64 a.rule.c),.data (lits a.clause),.data (i64 b.kind),.data (i64 0),.data (i64 0),.data (i64 0),.data (i64 0),.own 49000 0]
 |_=>[.data (i64 a.kind),.data (i64 a.rule.kind),.data (i64 a.rule.a),.data (i64 a.rule.b),.data (i64 a.rule.c),.data (lits a.clause),.data (i64 b.kind),.data (i64 0),.data (i64 0),.data (i64 0),.data (i64 0),.data (lits b.clause)]
def wM (g:Lg) (a b:Lin) (k:Nat):List Lin:=
 match k with
 |0=>g.lines
 |1=>g.lines++[a]
 |_=>g.lines++[a]++[b]
def ZY (a b:Lin) (k:Nat):List (Nat×Nat×List AV×Nat):=
 match k with
 |0=>[(46000,39,a.clause.map Lit.av,1),(49000,39,b.clause.map Lit.av,1)]
 |1=>[(49000,39,b.clause.map Lit.av,1)]
 |_=>[]
end Go.Proofs.YtgkfifiobmklcaaGreat.Abs
namespace Go.Proofs.YtgkfifiobmklcaaGreat.Abs
open Go.Proofs Go.RowKit
attribute [local irreducible] bq dQ aH status litValue
theorem Oj (ls:List Lin):Con 165 [.d (.sl (ls.map Lin.av))] (.own 60 (ls.map Lin.av)):=by
 refine con Tryz.func165 rfl rfl Tryz.call165 rfl fun hwf=>?_
 simp only [ARs.wf,AR.wf,AV.wf,AV.wfs,lm,lim] at hwf
 (repeat' ((conv=>whnf);first|refine gA ?_|(refine gB ?_ ?_<;>intro h)|(refine gI ?_;intro x hx)|(refine gJ ?_;intro j x hj hx)|refine gP ?_|refine gV ?_|intro _))<;>try (conv=>whnf)
 refine aB [7,8] [] [6] ?_
 (conv=>whnf)
 refine aA.go ((Nat)) (fun k=>(k≤ls.length)) (fun k=>[(9,.data (i64 k)),(3,.own 6 0)]) (fun _=>[]) (fun k=>[(6,60,(ls.take k).map Lin.av,0)]) (fun k=>ls.length - k) (0) ?_ ?_
 ·exact Nat.zero_le _
 rintro k hk
 by_cases hlt:k < ls.length
 ·obtain⟨x,hx⟩:∃x,ls[k]? =some x:=⟨ls[k]'hlt,by simp⟩
  (repeat' ((conv=>whnf);first|with_reducible refine Idx.got hx rfl ?_|(exfalso;omega)|refine gA ?_|(refine gB ?_ ?_<;>intro h)|(refine gI ?_;intro x hx)|(refine gJ ?_;intro j x hj hx)|refine gP ?_|refine gV ?_|refine gC (Rx x) ?_|intro _))<;>try (conv=>whnf)
  refine nw (k+1) ?_ ?_
  ·(repeat' ((conv=>whnf)<;>(first|exact trivial|exact rfl|with_reducible refine And.intro ?_ ?_)))<;>((conv=>whnf)<;>(exact gX Lin.av hx))
  exact (by omega:k+1≤ls.length)
 ·(repeat' ((conv=>whnf);first|(exfalso;omega)|refine gA ?_|(refine gB ?_ ?_<;>intro h)|(refine gI ?_;intro x hx)|(refine gJ ?_;intro j x hj hx)|refine gP ?_|refine gV ?_|intro _))<;>try (conv=>whnf)
  refine⟨?_,rfl,trivial⟩
  dsimp only
  rw [List.take_of_length_le (by omega)]
theorem tT {p:Proj} {b:Dom} {s:Infer} (h:bq p b=some s):usable p b=true∧bM s.lit bV=false:=by
 unfold bq at h
 split at h
 ·cases h
 ·obtain⟨r,hr,h1⟩:=List.exists_of_findSome?_eq_some h
  obtain⟨a,_,h2⟩:=List.exists_of_findSome?_eq_some h1
  refine⟨(FP hr).1,?_⟩
  unfold Bg at h2
  obtain⟨l,hl,rfl⟩:=Option.map_eq_some_iff.1 h2
  have hm:=List.mem_of_head? hl
  have:l.kind=1∨l.kind=2∨l.kind=4:=by
   unfold mW at hm
   split at hm
   ·simp only [uP,List.mem_append] at hm
    rcases hm with (hm|hm)|hm
    ·unfold atLeast at hm;split at hm
     ·rw [List.mem_singleton.1 hm];exact .inl rfl
     ·simp at hm
    ·unfold vN at hm;split at hm
     ·rw [List.mem_singleton.1 hm];exact .inr (.inl rfl)
     ·simp at hm
    ·obtain⟨v,_,rfl⟩:=List.mem_map.1 hm;exact .inr (.inr rfl)
   ·simp at hm
  simp only [bM,bV]
  rcases this with h|h|h<;>simp [h]
theorem UC (p:Proj) (hp:p.fine):Con 31 [.d p.av] (oW (Ae p)):=by
 refine con Tryz.func31 rfl rfl Tryz.call31 rfl fun hwf=>?_
 cases ho:aG p with
 |false=>
  rw [Ae,if_neg (by simp [ho])]
  (repeat' ((conv=>whnf);first|refine gA ?_|(refine gB ?_ ?_<;>intro h)|refine gC (oJ p hp) ?_|intro _))<;>try (conv=>whnf)
  exact fv
 |true=>
  rw [Ae,if_pos ho,aW,if_pos ho]
  (repeat' ((conv=>whnf);first|refine gA ?_|(refine gB ?_ ?_<;>intro h)|refine gC (oJ p hp) ?_|refine gC (FE p) ?_|refine gC (VX p (Ub ho)) ?_|intro _))<;>try (conv=>whnf)
  exact fv
end Go.Proofs.YtgkfifiobmklcaaGreat.Abs
namespace Go.Proofs.YtgkfifiobmklcaaGreat.Abs
open Go.Proofs Go.RowKit
end Go.Proofs.YtgkfifiobmklcaaGreat.Abs
