/- Contracts: logs that are made, copied, and grow. -/
import Derived.Test.YtmenphiahgkjkaaGreatDoorC35
import Derived.Test.YtmenphiahgkjkaaGreatDoorC30
import Derived.Test.YtmenphiahgkjkaaGreatDoorPlain
set_option linter.all false
set_option maxRecDepth 20000
set_option maxHeartbeats 0
namespace Go.Proofs.YtmenphiahgkjkaaGreatDoor.Abs
open Go.Proofs Go.RowKit
attribute [local irreducible] bF fM aD status litValue
def qh (s:Infer):Lin:=⟨1,s.rule,s.clause⟩
def says (g:Lg) (s:Infer):Bool:=(decide ((status g.dom s.clause).1=0)&&(!bH (status g.dom s.clause).2 bU&&bH (status g.dom s.clause).2 s.lit))||(decide ((status g.dom s.clause).1=1)&&decide (litValue g.dom s.lit=1))
def Fa (g:Lg) (s:Infer):Bool:=decide (aD g.proj g.lines (qh s)=0)&&says g s
def qj (g:Lg) (s:Infer):Lg:=⟨g.proj,restrict g.dom s.lit,g.decs,g.lines++[qh s]⟩
def oP (g:Lg) (s:Infer):Option Lg:=if Fa g s=true then some (qj g s) else none
theorem wH {g:Lg} {s:Infer} (h:¬ Fa g s=true):oP g s=none:=if_neg h
theorem Dl {g:Lg} {s:Infer} (h:Fa g s=true):oP g s=some (qj g s):=if_pos h
theorem lC (g:Lg) (s:Infer):Fa g s=(decide (aD g.proj g.lines (qh s)=0)&&says g s):=rfl
theorem xV (g:Lg) (s:Infer):says g s=((decide ((status g.dom s.clause).1=0)&&(!bH (status g.dom s.clause).2 bU&&bH (status g.dom s.clause).2 s.lit))||(decide ((status g.dom s.clause).1=1)&&decide (litValue g.dom s.lit=1))):=rfl
def zU (o:Option Lg):RV:=.tup [.d (o.getD WI).av,.d (.bool o.isSome)]
def aeh (g:Lg):RV:=.agg [.d (i64 g.proj.dead),.lin 101 (g.proj.acts.map aC.av),.lin 104 (g.proj.links.map Link.av),.lin 96 (g.proj.bB.map dR.av),.lin 3 (g.proj.aW.map i64),.lin 3 (g.dom.lo.map i64),.lin 3 (g.dom.hi.map i64),.lin 26 (g.dom.modes.map ints),.lin 79 (g.decs.map Lit.av),.lin 75 (g.lines.map Lin.av)]
def LU (p:Proj):Option Lg:=if aL p=true then some ⟨p,bf p,[],[]⟩ else none
theorem nW (ls:List Lin):WK ls (upTo ls.length)=ls:=by
 unfold WK upTo
 rw [List.map_map]
 refine List.ext_getElem? fun i=>?_
 rw [List.getElem?_map]
 by_cases h:i < ls.length
 ·rw [List.getElem?_range h]
  simp [GH,List.getD_eq_getElem?_getD,h]
 ·rw [List.getElem?_eq_none (by simpa using h),List.getElem?_eq_none (by omega)];rfl
theorem lD (ls:List Lin):Con 23 [.d (.sl (ls.map Lin.av))] (.d (ints (upTo ls.length))):=by
 refine con Tryz.func23 rfl rfl Tryz.call23 rfl fun hwf=>?_
 simp only [ARs.wf,AR.wf,AV.wf,AV.wfs,lm,lim] at hwf
 (repeat' ((conv=>whnf);first|refine gA ?_|(refine gB ?_ ?_<;>intro h)|refine gP ?_|refine gV ?_|intro _))<;>try (conv=>whnf)
 refine aB [7] [] [5] ?_
 (conv=>whnf)
 refine aA.go ((Nat)) (fun k=>(k≤ls.length)) (fun k=>[(8,.data (i64 k)),(3,.own 5 0)]) (fun _=>[]) (fun k=>[(5,3,(upTo k).map i64,0)]) (fun k=>ls.length - k) (0) ?_ ?_
 ·exact Nat.zero_le _
 rintro k hk
 by_cases hlt:k < ls.length
 ·(repeat' ((conv=>whnf);first|refine gA ?_|(refine gB ?_ ?_<;>intro h)|refine gP ?_|refine gV ?_|intro _))<;>try (conv=>whnf)
  ·refine nw (k+1) ?_ ?_
   ·(repeat' ((conv=>whnf)<;>(first|exact trivial|exact rfl|with_reducible refine And.intro ?_ ?_)))<;>((conv=>whnf)<;>(exact Ti k))
   exact (by omega:k+1≤ls.length)
  ·exfalso;omega
 ·obtain rfl:k=ls.length:=by omega
  (repeat' ((conv=>whnf);first|(exfalso;omega)|refine gA ?_|(refine gB ?_ ?_<;>intro h)|refine gP ?_|refine gV ?_|intro _))<;>try (conv=>whnf)
  exact⟨rfl,rfl,trivial⟩
theorem vN (g:Lg):Con 21 [.d g.av] (aeh g):=by
 refine con Tryz.func21 rfl rfl Tryz.call21 rfl fun hwf=>?_
 have hl:=fH g.lines (upTo g.lines.length) (fun i hi=>qI hi)
 rw [nW] at hl
 (repeat' ((conv=>whnf);first|refine gA ?_|(refine gB ?_ ?_<;>intro h)|refine gC (rE g.proj) ?_|refine gC (Dc g.dom) ?_|refine gC (fZ g.decs) ?_|refine gC (lD g.lines) ?_|refine gC (hl) ?_|intro _))<;>try (conv=>whnf)
 exact fv
def aei (g:Lg):RV:=.agg [.d (i64 g.proj.dead),.d (.sl (g.proj.acts.map aC.av)),.d (.sl (g.proj.links.map Link.av)),.d (.sl (g.proj.bB.map dR.av)),.d (ints g.proj.aW),.d (ints g.dom.lo),.d (ints g.dom.hi),.d (.sl (g.dom.modes.map ints)),.d (lits g.decs),.own 75 (g.lines.map Lin.av)]
theorem zV (g:Lg):Con 21 [.d g.av] (aei g):=by
 refine con Tryz.func21 rfl rfl Tryz.call21 rfl fun hwf=>?_
 have hl:=fH g.lines (upTo g.lines.length) (fun i hi=>qI hi)
 rw [nW] at hl
 (repeat' ((conv=>whnf);first|refine gA ?_|(refine gB ?_ ?_<;>intro h)|refine gC (yJ g.proj) ?_|refine gC (nS g.dom) ?_|refine gC (fZ g.decs) ?_|refine gC (lD g.lines) ?_|refine gC (hl) ?_|intro _))<;>try (conv=>whnf)
 exact fv
def aej (g:Lg):RV:=.agg [.d (i64 g.proj.dead),.lin 101 (g.proj.acts.map aC.av),.lin 104 (g.proj.links.map Link.av),.lin 96 (g.proj.bB.map dR.av),.lin 3 (g.proj.aW.map i64),.junk,.junk,.junk,.junk,.lin 75 (g.lines.map Lin.av)]
theorem LV (g:Lg):Con 21 [.d g.av] (aej g):=by
 refine con Tryz.func21 rfl rfl Tryz.call21 rfl fun hwf=>?_
 have hl:=fH g.lines (upTo g.lines.length) (fun i hi=>qI hi)
 rw [nW] at hl
 (repeat' ((conv=>whnf);first|refine gA ?_|(refine gB ?_ ?_<;>intro h)|refine gC (rE g.proj) ?_|refine gC (nS g.dom) ?_|refine gC (fZ g.decs) ?_|refine gC (lD g.lines) ?_|refine gC (hl) ?_|intro _))<;>try (conv=>whnf)
 exact fv
theorem QS (b:Dom) (l:List Lit):(status b l).1= -1∨(status b l).1=0∨(status b l).1=1:=by
 have:∀(l:List Lit) (n:Int) (x:Lit),(aN b l n x).1= -1∨(aN b l n x).1=0∨(aN b l n x).1=1:=by
  intro l
  induction l with
  |nil=>intro n x;rw [aN];split; · exact .inl rfl
        split<;>exact .inr (.inl rfl)
  |cons y l ih=>intro n x;rw [aN];split; · exact .inr (.inr rfl)
                split
                ·exact ih _ _
                ·exact ih _ _
 unfold status
 exact this l 0 bU
theorem pV {p:Proj} {a:List Lin} {l:Lin} (h:aD p a l=0):a.length < 300:=by
 unfold aD at h
 split at h
 ·rename_i hn
  have:=hn.2.2
  omega
 ·cases h
theorem QT {a b:Lit} {c:Bool} (h:bH a b=c):(decide (a.kind=b.kind)&&(decide (a.act=b.act)&&(decide (a.val=b.val)&&true)))=c:=by rw [Bool.and_true];exact h
theorem TN {a:Lit} {c:Bool} (h:bH a bU=c):(decide (a.kind=0)&&(decide (a.act=0)&&(decide (a.val=0)&&true)))=c:=QT h
theorem nN (h:Lg):zU (some h)= .tup [.d h.av,.d (.bool true)]:=rfl
theorem LW (g:Lg) (s:Infer):(qj g s).av= .agg [i64 g.proj.dead,.sl (g.proj.acts.map aC.av),.sl (g.proj.links.map Link.av),.sl (g.proj.bB.map dR.av),ints g.proj.aW,ints (restrict g.dom s.lit).lo,ints (restrict g.dom s.lit).hi,.sl ((restrict g.dom s.lit).modes.map ints),lits g.decs,.sl (g.lines.map Lin.av++[(qh s).av])]:=by
 have h:(qj g s).av= .agg [i64 g.proj.dead,.sl (g.proj.acts.map aC.av),.sl (g.proj.links.map Link.av),.sl (g.proj.bB.map dR.av),ints g.proj.aW,ints (restrict g.dom s.lit).lo,ints (restrict g.dom s.lit).hi,.sl ((restrict g.dom s.lit).modes.map ints),lits g.decs,.sl ((g.lines++[qh s]).map Lin.av)]:=rfl
 rw [h,List.map_append];rfl
theorem Ng (g:Lg) (s:Infer) (hp:g.proj.fine):Con 95 [.d g.av,.d s.av] (zU (oP g s)):=by
 refine con Tryz.func95 rfl rfl Tryz.call95 rfl fun hwf=>?_
 simp only [ARs.wf,AR.wf,AV.wf,AV.wfs,lm,lim] at hwf
 have hL:=gY g.proj g.lines (qh s) hp
 have hS:=kS g.dom s.clause
 rw [aaL] at hS
 by_cases hc:aD g.proj g.lines (qh s)=0
 rotate_left
 ·rw [wH (by simp [lC,hc])]
  (repeat' ((conv=>whnf);first|with_reducible refine Br.yes (by simp [hc]) ?_|refine gA ?_|(refine gB ?_ ?_<;>intro h)|refine gP ?_|refine gC (fZ s.clause) ?_|refine gC (hL) ?_|intro _))<;>try (conv=>whnf)
  exact fv
 have Zk:=pV hc
 rw [hc] at hL
 rcases QS g.dom s.clause with h1|h1|h1
 ·rw [wH (by simp [lC,hc,xV,h1])]
  rw [h1] at hS
  (repeat' ((conv=>whnf);first|refine gA ?_|(refine gB ?_ ?_<;>intro h)|refine gP ?_|refine gC (fZ s.clause) ?_|refine gC (hL) ?_|refine gC (hS) ?_|intro _))<;>try (conv=>whnf)
  all_goals first
   |(exfalso;omega)
   |(exfalso;exact absurd trivial (by assumption))
   |exact fv
 ·rw [h1] at hS
  cases hz:bH (status g.dom s.clause).2 bU with
  |true=>
   have hz':=TN hz
   rw [wH (by simp [lC,hc,xV,h1,hz])]
   (repeat' ((conv=>whnf);first|with_reducible refine Br.yes hz' ?_|refine gA ?_|(refine gB ?_ ?_<;>intro h)|refine gP ?_|refine gC (fZ s.clause) ?_|refine gC (hL) ?_|refine gC (hS) ?_|intro _))<;>try (conv=>whnf)
   all_goals first
    |(exfalso;omega)
    |(exfalso;exact absurd trivial (by assumption))
    |exact fv
  |false=>
  have hz':=TN hz
  cases he:bH (status g.dom s.clause).2 s.lit with
  |true=>
   rw [Dl (by simp [lC,hc,xV,h1,he,hz]),nN,LW]
   have he':=QT he
   (repeat' ((conv=>whnf);first|with_reducible refine Br.no hz' ?_|with_reducible refine Br.yes he' ?_|refine gA ?_|(refine gB ?_ ?_<;>intro h)|refine gP ?_|refine gC (fZ s.clause) ?_|refine gC (hL) ?_|refine gC (hS) ?_|refine gC (zV g) ?_|refine gC (fu g.dom s.lit) ?_|intro _))<;>try (conv=>whnf)
   all_goals first
    |(exfalso;omega)
    |(exfalso;exact absurd trivial (by assumption))
    |exact fv
  |false=>
   rw [wH (by simp [lC,hc,xV,h1,he])]
   have he':=QT he
   (repeat' ((conv=>whnf);first|with_reducible refine Br.no hz' ?_|with_reducible refine Br.no he' ?_|refine gA ?_|(refine gB ?_ ?_<;>intro h)|refine gP ?_|refine gC (fZ s.clause) ?_|refine gC (hL) ?_|refine gC (hS) ?_|intro _))<;>try (conv=>whnf)
   all_goals first
    |(exfalso;omega)
    |(exfalso;exact absurd trivial (by assumption))
    |exact fv
 ·rw [h1] at hS
  by_cases he:litValue g.dom s.lit=1
  ·rw [Dl (by simp [lC,hc,xV,h1,he]),nN,LW]
   (repeat' ((conv=>whnf);first|refine gA ?_|(refine gB ?_ ?_<;>intro h)|refine gP ?_|refine gC (fZ s.clause) ?_|refine gC (hL) ?_|refine gC (hS) ?_|refine gC (oL g.dom s.lit) ?_|refine gC (zV g) ?_|refine gC (fu g.dom s.lit) ?_|intro _))<;>try (conv=>whnf)
   all_goals first
    |(exfalso;omega)
    |(exfalso;exact absurd trivial (by assumption))
    |exact fv
  ·rw [wH (by simp [lC,hc,xV,h1,he])]
   (repeat' ((conv=>whnf);first|refine gA ?_|(refine gB ?_ ?_<;>intro h)|refine gP ?_|refine gC (fZ s.clause) ?_|refine gC (hL) ?_|refine gC (hS) ?_|refine gC (oL g.dom s.lit) ?_|intro _))<;>try (conv=>whnf)
   all_goals first
    |(exfalso;omega)
    |(exfalso;exact absurd trivial (by assumption))
    |exact fv
theorem TP (p:Proj) (hp:p.fine):Con 5 [.d p.av] (zU (LU p)):=by
 refine con Tryz.func5 rfl rfl Tryz.call5 rfl fun hwf=>?_
 cases ho:aL p with
 |false=>
  rw [LU,if_neg (by simp [ho])]
  (repeat' ((conv=>whnf);first|refine gA ?_|(refine gB ?_ ?_<;>intro h)|refine gC (bn p hp) ?_|intro _))<;>try (conv=>whnf)
  exact fv
 |true=>
  rw [LU,if_pos ho]
  (repeat' ((conv=>whnf);first|refine gA ?_|(refine gB ?_ ?_<;>intro h)|refine gC (bn p hp) ?_|refine gC (yJ p) ?_|refine gC (nK p hp) ?_|intro _))<;>try (conv=>whnf)
  exact fv
def oQ (g:Lg):Option Lg:=match bF g.proj g.dom with|none=>none|some s=>oP g s
theorem xW (g:Lg):oQ g=(match bF g.proj g.dom with|none=>none|some s=>oP g s):=rfl
def dB:Nat→Nat→Lg→Lg×Nat
 |0,n,g=>(g,n)
 |f+1,n,g=>match oQ g with|none=>(g,n)|some h=>dB f (n+1) h
theorem zW (n:Nat) (g:Lg):dB 0 n g=(g,n):=rfl
theorem nX (f n:Nat) (g:Lg):dB (f+1) n g=(match oQ g with|none=>(g,n)|some h=>dB f (n+1) h):=rfl
theorem Ir {g h:Lg} {s:Infer} (e:oP g s=some h):h.proj=g.proj:=by
 unfold oP at e
 split at e
 ·cases e;rfl
 ·cases e
def abM (r:Lg×Nat):RV:=.tup [.d r.1.av,.d (i64 r.2)]
theorem zX (g:Lg) (most:Nat) (hp:g.proj.fine) (hm:most≤60):Con 56 [.d g.av,.d (i64 most)] (abM (dB most 0 g)):=by
 refine con Tryz.func56 rfl rfl Tryz.call56 rfl fun hwf=>?_
 generalize hR:dB most 0 g=R
 (repeat' ((conv=>whnf);first|refine gA ?_|(refine gB ?_ ?_<;>intro h)|refine gV ?_|intro _))<;>try (conv=>whnf)
 refine aB [1,4,6] [4] [] ?_
 (conv=>whnf)
 refine aA.go ((Nat)×(Lg)) (fun⟨n,h⟩=>(n≤most)∧(h.proj=g.proj)∧(dB (most - n) n h=R)) (fun⟨n,h⟩=>[(7,.data (i64 n))]) (fun⟨n,h⟩=>[(6,(AV.cells h.av).map SV.data)]) (fun _=>[]) (fun⟨n,h⟩=>most - n) ⟨0,g⟩ ?_ ?_
 ·exact⟨Nat.zero_le _,rfl,hR⟩
 rintro⟨n,h⟩ ⟨hn,hj,he⟩
 have hph:h.proj.fine:=hj ▸ hp
 have hF:=Bg h.proj h.dom hph
 by_cases hlt:n < most
 rotate_left
 ·rw [show most - n=0 by omega,zW] at he
  subst he
  (repeat' ((conv=>whnf);first|(exfalso;omega)|refine gA ?_|(refine gB ?_ ?_<;>intro h)|refine gV ?_|intro _))<;>try (conv=>whnf)
  exact fv
 rw [show most - n=(most - (n+1))+1 by omega,nX] at he
 cases h1:bF h.proj h.dom with
 |none=>
  rw [xW,h1] at he
  rw [abL,h1] at hF
  dsimp only [Option.getD,Option.isSome] at hF
  have he:(h,n)=R:=he
  subst he
  (repeat' ((conv=>whnf);first|(exfalso;omega)|refine gA ?_|(refine gB ?_ ?_<;>intro h)|refine gV ?_|refine gC (hF) ?_|intro _))<;>try (conv=>whnf)
  all_goals exact fv
 |some s=>
  rw [abL,h1] at hF
  dsimp only [Option.getD,Option.isSome] at hF
  have hI:=Ng h s hph
  have e1:oQ h=oP h s:=by rw [xW,h1]
  rw [e1] at he
  cases h2:oP h s with
  |none=>
   rw [h2] at he
   rw [zU,h2] at hI
   dsimp only [Option.getD,Option.isSome] at hI
   have he:(h,n)=R:=he
   subst he
   (repeat' ((conv=>whnf);first|(exfalso;omega)|refine gA ?_|(refine gB ?_ ?_<;>intro h)|refine gV ?_|refine gC (hF) ?_|refine gC (hI) ?_|intro _))<;>try (conv=>whnf)
   all_goals exact fv
  |some h'=>
   rw [h2] at he
   rw [zU,h2] at hI
   dsimp only [Option.getD,Option.isSome] at hI
   have he:dB (most - (n+1)) (n+1) h'=R:=he
   (repeat' ((conv=>whnf);first|(exfalso;omega)|refine gA ?_|(refine gB ?_ ?_<;>intro h)|refine gV ?_|refine gC (hF) ?_|refine gC (hI) ?_|intro _))<;>try (conv=>whnf)
   all_goals
    refine nx ⟨n+1,h'⟩ ?_
    exact⟨by omega,(Ir h2).trans hj,he⟩
end Go.Proofs.YtmenphiahgkjkaaGreatDoor.Abs
namespace Go.Proofs.YtmenphiahgkjkaaGreatDoor.Abs
open Go.Proofs Go.RowKit
attribute [local irreducible] bF fM aD status litValue
theorem tQ (p:Proj) (b:Dom) (r:Rul) (hp:p.fine):Con 97 [.d p.av,.d b.av,.d r.av] (.lin 79 ((explain p b r).map Lit.av)):=by
 refine con Tryz.func97 rfl rfl Tryz.call97 rfl fun hwf=>?_
 (repeat' ((conv=>whnf);first|refine gA ?_|(refine gB ?_ ?_<;>intro h)|refine gC (iG p b r hp) ?_|refine gC (zR p b hp) ?_|refine gC (iW (rV p b)) ?_|refine gC (tN p r (dh (rV p b)) 127 [] _ hp (fun x=>wE x)) ?_|intro _))<;>try (conv=>whnf)
 ·rw [explain,if_pos (by assumption)]
  exact fv
 ·rw [explain,if_neg (by simp [*])]
  exact fv
def dP (g:Lg) (r:Rul):Lin:=⟨1,r,explain g.proj g.dom r⟩
def bD (g:Lg):Lin:=⟨2,YT,dh (g.decs.map negate)⟩
def jC (g:Lg):Option Lg:=match fM g.proj g.dom with
 |none=>none
 |some r=>if aD g.proj g.lines (dP g r)=0∧aD g.proj (g.lines++[dP g r]) (bD g)=0 then some ⟨g.proj,g.dom,g.decs,g.lines++[dP g r]++[bD g]⟩ else none
theorem xX (g:Lg):jC g=(match fM g.proj g.dom with
 |none=>none
 |some r=>if aD g.proj g.lines (dP g r)=0∧aD g.proj (g.lines++[dP g r]) (bD g)=0 then some ⟨g.proj,g.dom,g.decs,g.lines++[dP g r]++[bD g]⟩ else none):=rfl
def VD (o:Option Lg):RV:=.tup [.agg [.junk,.junk,.junk,.junk,.junk,.junk,.junk,.junk,.junk,.lin 75 ((o.getD WI).lines.map Lin.av)],.d (.bool o.isSome)]
def XM (a b:Lin) (k:Nat):List SV:=
 match k with
 |0=>[.data (i64 a.kind),.data (i64 a.rule.kind),.data (i64 a.rule.a),.data (i64 a.rule.b),.data (i64 a.rule.c),.own 46000 0,.data (i64 b.kind),.data (i64 0),.data (i64 0),.data (i64 0),.data (i64 0),.own 49000 0]
 |1=>[.data (i64 a.kind),.data (i64 a.rule.kind),.data (i64 a.rule.a),.data (i64 a.rule.b),.data (i64 a.rule.c),.data (lits a.clause),.data (i64 b.kind),.data (i64 0),.data (i64 0),.data (i64 0),.data (i64 0),.own 49000 0]
 |_=>[.data (i64 a.kind),.data (i64 a.rule.kind),.data (i64 a.rule.a),.data (i64 a.rule.b),.data (i64 a.rule.c),.data (lits a.clause),.data (i64 b.kind),.data (i64 0),.data (i64 0),.data (i64 0),.data (i64 0),.data (lits b.clause)]
def wI (g:Lg) (a b:Lin) (k:Nat):List Lin:=
 match k with
 |0=>g.lines
 |1=>g.lines++[a]
 |_=>g.lines++[a]++[b]
def Zl (a b:Lin) (k:Nat):List (Nat×Nat×List AV×Nat):=
 match k with
 |0=>[(46000,79,a.clause.map Lit.av,1),(49000,79,b.clause.map Lit.av,1)]
 |1=>[(49000,79,b.clause.map Lit.av,1)]
 |_=>[]
theorem Cg (g:Lg) (hp:g.proj.fine):Con 57 [.d g.av] (VD (jC g)):=by
 refine con Tryz.func57 rfl rfl Tryz.call57 rfl fun hwf=>?_
 simp only [ARs.wf,AR.wf,AV.wf,AV.wfs,lm,lim] at hwf
 have hR:=rF g.proj g.dom hp
 cases hf:fM g.proj g.dom with
 |none=>
  rw [Zg,hf] at hR
  dsimp only [Option.getD,Option.isSome] at hR
  rw [xX,hf]
  (repeat' ((conv=>whnf);first|refine gA ?_|(refine gB ?_ ?_<;>intro h)|(refine gI ?_;intro x hx)|(refine gJ ?_;intro j x hj hx)|refine gP ?_|refine gV ?_|refine gC (hR) ?_|intro _))<;>try (conv=>whnf)
  exact fv
 |some r=>
 rw [Zg,hf] at hR
 dsimp only [Option.getD,Option.isSome] at hR
 have hE:=tQ g.proj g.dom r hp
 have hN:=(iW (g.decs.map negate)).xO rfl
 have hC1:=gY g.proj g.lines (dP g r) hp
 have hC2:=gY g.proj (g.lines++[dP g r]) (bD g) hp
 generalize hRR:jC g=R
 have hst:R=if aD g.proj g.lines (dP g r)=0∧aD g.proj (g.lines++[dP g r]) (bD g)=0 then some ⟨g.proj,g.dom,g.decs,g.lines++[dP g r]++[bD g]⟩ else none:=by rw [← hRR,xX,hf]
 (repeat' ((conv=>whnf);first|refine gA ?_|(refine gB ?_ ?_<;>intro h)|(refine gI ?_;intro x hx)|(refine gJ ?_;intro j x hj hx)|refine gP ?_|refine gV ?_|refine gC (hR) ?_|refine gC (LV g) ?_|intro _))<;>try (conv=>whnf)
 refine aB [1,2,4,6,27,28] [1,4] [25,250010] ?_
 (conv=>whnf)
 refine aA.go ((Nat)×(List Lit)) (fun⟨k,o⟩=>(k≤g.decs.length)∧(o=(g.decs.take k).map negate)) (fun⟨k,o⟩=>[(29,.data (i64 k)),(7,.own 25 0)]) (fun⟨k,o⟩=>[(2,[.undef,.undef,.undef,.undef,.undef,.undef,.undef,.undef,.undef,.undef]),(6,[.data (i64 g.proj.dead),.data (.sl (g.proj.acts.map aC.av)),.data (.sl (g.proj.links.map Link.av)),.data (.sl (g.proj.bB.map dR.av)),.data (ints g.proj.aW),.undef,.undef,.undef,.undef,.own 250010 0])]) (fun⟨k,o⟩=>[(25,79,o.map Lit.av,1),(250010,75,g.lines.map Lin.av,1)]) (fun⟨k,o⟩=>g.decs.length - k) ⟨0,[]⟩ ?_ ?_
 ·exact⟨Nat.zero_le _,rfl⟩
 rintro⟨k,o⟩ ⟨hk,ho⟩
 by_cases hlt:k < g.decs.length
 ·obtain⟨x,hx⟩:∃x,g.decs[k]? =some x:=⟨g.decs[k]'hlt,by simp⟩
  have hol:o.length≤k:=by rw [ho];simp;omega
  (repeat' ((conv=>whnf);first|with_reducible refine Idx.got hx rfl ?_|(exfalso;omega)|refine gA ?_|(refine gB ?_ ?_<;>intro h)|(refine gI ?_;intro x hx)|(refine gJ ?_;intro j x hj hx)|refine gP ?_|refine gV ?_|refine gC (gF x) ?_|intro _))<;>try (conv=>whnf)
  refine nw ⟨k+1,o++[negate x]⟩ ?_ ?_
  ·(repeat' ((conv=>whnf)<;>(first|exact trivial|exact rfl|with_reducible refine And.intro ?_ ?_)))<;>((conv=>whnf)<;>(simp))
  exact⟨by omega,by rw [ho, ← oO negate hx]⟩
 obtain rfl:o=g.decs.map negate:=by rw [ho,List.take_of_length_le (by omega)]
 (repeat' ((conv=>whnf);first|(exfalso;omega)|refine gA ?_|(refine gB ?_ ?_<;>intro h)|(refine gI ?_;intro x hx)|(refine gJ ?_;intro j x hj hx)|refine gP ?_|refine gV ?_|refine gC (hE) ?_|refine gC (hN) ?_|intro _))<;>try (conv=>whnf)
 refine aB [2,6,50,51] [] [250010,46000,49000] ?_
 (conv=>whnf)
 refine aA.go Nat (fun k=>k≤2∧(0 < k→aD g.proj g.lines (dP g r)=0)∧(1 < k→aD g.proj (g.lines++[dP g r]) (bD g)=0)) (fun k=>[(52,.data (i64 k))]) (fun k=>[(50,XM (dP g r) (bD g) k),(2,[.undef,.undef,.undef,.undef,.undef,.undef,.undef,.undef,.undef,.undef]),(6,[.data (i64 g.proj.dead),.data (.sl (g.proj.acts.map aC.av)),.data (.sl (g.proj.links.map Link.av)),.data (.sl (g.proj.bB.map dR.av)),.data (ints g.proj.aW),.undef,.undef,.undef,.undef,.own 250010 0])]) (fun k=>(250010,75,(wI g (dP g r) (bD g) k).map Lin.av,1)::Zl (dP g r) (bD g) k) (fun k=>2 - k) 0 ?_ ?_
 ·exact⟨by omega,fun h=>by omega,fun h=>by omega⟩
 rintro k ⟨hk,h1,h2⟩
 rcases k with _|_|k
 ·by_cases hc:aD g.proj g.lines (dP g r)=0
  ·rw [hc] at hC1
   have hl0:(wI g (dP g r) (bD g) 0).length < 300:=pV hc
   (repeat' ((conv=>whnf);first|(exfalso;omega)|refine gA ?_|(refine gB ?_ ?_<;>intro h)|(refine gI ?_;intro x hx)|(refine gJ ?_;intro j x hj hx)|refine gP ?_|refine gV ?_|refine gC (hC1) ?_|intro _))<;>try (conv=>whnf)
   all_goals first
    |(exfalso;exact absurd trivial (by assumption))
    |(refine nw ((1)) ?_ ?_
      ·(repeat' ((conv=>whnf)<;>(first|exact trivial|exact rfl|with_reducible refine And.intro ?_ ?_)))<;>((conv=>whnf)<;>(simp [wI]))
      exact⟨by omega,fun _=>hc,fun h=>by omega⟩)
  ·obtain rfl:R=none:=by rw [hst,if_neg (fun h=>hc h.1)]
   (repeat' ((conv=>whnf);first|(exfalso;omega)|refine gA ?_|(refine gB ?_ ?_<;>intro h)|(refine gI ?_;intro x hx)|(refine gJ ?_;intro j x hj hx)|refine gP ?_|refine gV ?_|refine gC (hC1) ?_|intro _))<;>try (conv=>whnf)
   all_goals first
    |(exfalso;omega)
    |(exfalso;exact absurd trivial (by assumption))
    |exact fv
 ·by_cases hc2:aD g.proj (g.lines++[dP g r]) (bD g)=0
  ·rw [hc2] at hC2
   have hl1:(wI g (dP g r) (bD g) (0+1)).length < 300:=pV hc2
   (repeat' ((conv=>whnf);first|(exfalso;omega)|refine gA ?_|(refine gB ?_ ?_<;>intro h)|(refine gI ?_;intro x hx)|(refine gJ ?_;intro j x hj hx)|refine gP ?_|refine gV ?_|refine gC (hC2) ?_|intro _))<;>try (conv=>whnf)
   all_goals first
    |(exfalso;exact absurd trivial (by assumption))
    |(refine nw ((2)) ?_ ?_
      ·(repeat' ((conv=>whnf)<;>(first|exact trivial|exact rfl|with_reducible refine And.intro ?_ ?_)))<;>((conv=>whnf)<;>(simp [wI,bD,YT]))
      exact⟨by omega,fun _=>h1 (by omega),fun _=>hc2⟩)
  ·obtain rfl:R=none:=by rw [hst,if_neg (fun h=>hc2 h.2)]
   (repeat' ((conv=>whnf);first|(exfalso;omega)|refine gA ?_|(refine gB ?_ ?_<;>intro h)|(refine gI ?_;intro x hx)|(refine gJ ?_;intro j x hj hx)|refine gP ?_|refine gV ?_|refine gC (hC2) ?_|intro _))<;>try (conv=>whnf)
   all_goals first
    |(exfalso;omega)
    |(exfalso;exact absurd trivial (by assumption))
    |exact fv
 ·obtain rfl:k=0:=by omega
  obtain rfl:R=some ⟨g.proj,g.dom,g.decs,g.lines++[dP g r]++[bD g]⟩:=by rw [hst,if_pos ⟨h1 (by omega),h2 (by omega)⟩]
  (repeat' ((conv=>whnf);first|(exfalso;omega)|refine gA ?_|(refine gB ?_ ?_<;>intro h)|(refine gI ?_;intro x hx)|(refine gJ ?_;intro j x hj hx)|refine gP ?_|refine gV ?_|intro _))<;>try (conv=>whnf)
  exact fv
end Go.Proofs.YtmenphiahgkjkaaGreatDoor.Abs
namespace Go.Proofs.YtmenphiahgkjkaaGreatDoor.Abs
open Go.Proofs Go.RowKit
attribute [local irreducible] bF fM aD status litValue
theorem tT {p:Proj} {b:Dom} {s:Infer} (h:bF p b=some s):usable p b=true∧bH s.lit bU=false:=by
 unfold bF at h
 split at h
 ·cases h
 ·obtain⟨r,hr,h1⟩:=List.exists_of_findSome?_eq_some h
  obtain⟨a,_,h2⟩:=List.exists_of_findSome?_eq_some h1
  refine⟨(EZ hr).1,?_⟩
  unfold AP at h2
  obtain⟨l,hl,rfl⟩:=Option.map_eq_some_iff.1 h2
  have hm:=List.mem_of_head? hl
  have:l.kind=1∨l.kind=2∨l.kind=4:=by
   unfold mQ at hm
   split at hm
   ·simp only [uR,List.mem_append] at hm
    rcases hm with (hm|hm)|hm
    ·unfold atLeast at hm;split at hm
     ·rw [List.mem_singleton.1 hm];exact .inl rfl
     ·simp at hm
    ·unfold vM at hm;split at hm
     ·rw [List.mem_singleton.1 hm];exact .inr (.inl rfl)
     ·simp at hm
    ·obtain⟨v,_,rfl⟩:=List.mem_map.1 hm;exact .inr (.inr rfl)
   ·simp at hm
  simp only [bH,bU]
  rcases this with h|h|h<;>simp [h]
theorem zY:∀(f n:Nat) (g:Lg),(dB f n g).1.proj=g.proj
 |0,_,_=>rfl
 |f+1,n,g=>by
  rw [nX]
  cases h:oQ g with
  |none=>rfl
  |some x=>
   dsimp only
   rw [zY f]
   unfold oQ at h
   split at h
   ·cases h
   ·exact Ir h
end Go.Proofs.YtmenphiahgkjkaaGreatDoor.Abs
namespace Go.Proofs.YtmenphiahgkjkaaGreatDoor.Abs
open Go.Proofs Go.RowKit
end Go.Proofs.YtmenphiahgkjkaaGreatDoor.Abs
