/- Part of a proof. -/
import Derived.Test.YthegbfgeochckaaGreatC35
import Derived.Test.YthegbfgeochckaaGreatC30
import Derived.Test.YthegbfgeochckaaGreatPlain
set_option linter.all false
set_option maxRecDepth 20000
set_option maxHeartbeats 0
namespace Go.Proofs.YthegbfgeochckaaGreat.Abs
open Go.Proofs Go.RowKit
attribute [local irreducible] dS eu aO status litValue
def rR (s:Infer):Lin:=⟨1,s.rule,s.clause⟩
def says (g:Lg) (s:Infer):Bool:=(decide ((status g.dom s.clause).1=0)&&(!aY (status g.dom s.clause).2 bL&&aY (status g.dom s.clause).2 s.lit))||(decide ((status g.dom s.clause).1=1)&&decide (litValue g.dom s.lit=1))
def Jr (g:Lg) (s:Infer):Bool:=decide (aO g.proj g.lines (rR s)=0)&&says g s
def AP (g:Lg) (s:Infer):Lg:=⟨g.proj,restrict g.dom s.lit,g.decs,g.lines++[rR s]⟩
def qI (g:Lg) (s:Infer):Option Lg:=if Jr g s=true then some (AP g s) else none
theorem pG {g:Lg} {s:Infer} (h:¬ Jr g s=true):qI g s=none:=if_neg h
theorem AQ {g:Lg} {s:Infer} (h:Jr g s=true):qI g s=some (AP g s):=if_pos h
theorem iU (g:Lg) (s:Infer):Jr g s=(decide (aO g.proj g.lines (rR s)=0)&&says g s):=rfl
theorem rT (g:Lg) (s:Infer):says g s=((decide ((status g.dom s.clause).1=0)&&(!aY (status g.dom s.clause).2 bL&&aY (status g.dom s.clause).2 s.lit))||(decide ((status g.dom s.clause).1=1)&&decide (litValue g.dom s.lit=1))):=rfl
def nH (o:Option Lg):RV:=.tup [.d (o.getD aaL).av,.d (.bool o.isSome)]
def ajE (g:Lg):RV:=.agg [.d (i64 g.proj.dead),.lin 165 (g.proj.acts.map aB.av),.lin 173 (g.proj.links.map Link.av),.lin 170 (g.proj.aS.map aK.av),.lin 3 (g.proj.aH.map i64),.lin 3 (g.dom.lo.map i64),.lin 3 (g.dom.hi.map i64),.lin 25 (g.dom.modes.map ints),.lin 102 (g.decs.map Lit.av),.lin 130 (g.lines.map Lin.av)]
theorem qN (ls:List Lin):aaP ls (upTo ls.length)=ls:=by
 unfold aaP upTo
 rw [List.map_map]
 refine List.ext_getElem? fun i=>?_
 rw [List.getElem?_map]
 by_cases h:i < ls.length
 ·rw [List.getElem?_range h]
  simp [KA,List.getD_eq_getElem?_getD,h]
 ·rw [List.getElem?_eq_none (by simpa using h),List.getElem?_eq_none (by omega)];rfl
theorem oI (ls:List Lin):Con 30 [.d (.sl (ls.map Lin.av))] (.d (ints (upTo ls.length))):=by
 refine con Tryz.func30 rfl rfl Tryz.call30 rfl fun hwf=>?_
 simp only [ARs.wf,AR.wf,AV.wf,AV.wfs,lm,lim] at hwf
 try (conv=>whnf)
 refine ay [7] [] [5] ?_
 (conv=>whnf)
 refine au.go ((Nat)) (fun k=>(k<=ls.length)) (fun k=>[(8,.data (i64 k)),(3,.own 5 0)]) lE (fun k=>[(5,3,(upTo k).map i64,0)]) (fun k=>ls.length - k) (0) ?_ ?_
 ·exact Nat.zero_le _
 rintro k hk
 by_cases hlt:k < ls.length
 ·(repeat' ((conv=>whnf);first|refine gAX ?_|(refine gB ?_ ?_<;>intro h)))<;>try (conv=>whnf)
  ·refine nw (k+1) ?_ ?_
   ·(repeat' ((conv=>whnf)<;>(first|exact trivial|exact rfl|with_reducible refine And.intro ?_ ?_)))<;>((conv=>whnf)<;>(exact Oo k))
   exact (by omega:k+1<=ls.length)
  ·exfalso;omega
 ·obtain rfl:k=ls.length:=by omega
  (repeat' ((conv=>whnf);first|(exfalso;omega)|(refine gB ?_ ?_<;>intro h)))<;>try (conv=>whnf)
  exact⟨rfl,rfl,trivial⟩
theorem yS (g:Lg):Con 28 [.d g.av] (ajE g):=by
 refine con Tryz.func28 rfl rfl Tryz.call28 rfl fun hwf=>?_
 have hl:=gW g.lines (upTo g.lines.length) (fun i hi=>uI hi)
 rw [qN] at hl
 (repeat' ((conv=>whnf);first|refine gA ?_|refine gC (vv g.proj) ?_|refine gC (Gu g.dom) ?_|refine gC (iC g.decs) ?_|refine gC (oI g.lines) ?_|refine gC hl ?_|intro _))
 exact fv
def ajF (g:Lg):RV:=.agg [.d (i64 g.proj.dead),.d (.sl (g.proj.acts.map aB.av)),.d (.sl (g.proj.links.map Link.av)),.d (.sl (g.proj.aS.map aK.av)),.d (ints g.proj.aH),.d (ints g.dom.lo),.d (ints g.dom.hi),.d (.sl (g.dom.modes.map ints)),.d (lits g.decs),.own 130 (g.lines.map Lin.av)]
theorem Dk (g:Lg):Con 28 [.d g.av] (ajF g):=by
 refine con Tryz.func28 rfl rfl Tryz.call28 rfl fun hwf=>?_
 have hl:=gW g.lines (upTo g.lines.length) (fun i hi=>uI hi)
 rw [qN] at hl
 (repeat' ((conv=>whnf);first|refine gA ?_|refine gC (MC g.proj) ?_|refine gC (qK g.dom) ?_|refine gC (iC g.decs) ?_|refine gC (oI g.lines) ?_|refine gC hl ?_|intro _))
 exact fv
def ajG (g:Lg):RV:=.agg [.d (i64 g.proj.dead),.lin 165 (g.proj.acts.map aB.av),.lin 173 (g.proj.links.map Link.av),.lin 170 (g.proj.aS.map aK.av),.lin 3 (g.proj.aH.map i64),.junk,.junk,.junk,.junk,.lin 130 (g.lines.map Lin.av)]
theorem PN (g:Lg):Con 28 [.d g.av] (ajG g):=by
 refine con Tryz.func28 rfl rfl Tryz.call28 rfl fun hwf=>?_
 have hl:=gW g.lines (upTo g.lines.length) (fun i hi=>uI hi)
 rw [qN] at hl
 (repeat' ((conv=>whnf);first|refine gA ?_|refine gC (vv g.proj) ?_|refine gC (qK g.dom) ?_|refine gC (iC g.decs) ?_|refine gC (oI g.lines) ?_|refine gC hl ?_|intro _))
 exact fv
theorem Js (b:Dom) (l:List Lit):(status b l).1= -1\/(status b l).1=0\/(status b l).1=1:=by
 have:∀(l:List Lit) (n:Int) (x:Lit),(bR b l n x).1= -1\/(bR b l n x).1=0\/(bR b l n x).1=1:=by
  intro l
  induction l with
  |nil=>intro n x;rw [bR];split; · exact .inl rfl
        split<;>exact .inr (.inl rfl)
  |cons y l ih=>intro n x;rw [bR];split; · exact .inr (.inr rfl)
                split
                ·exact ih _ _
                ·exact ih _ _
 unfold status
 exact this l 0 bL
theorem ZQ {a b:Lit}:aY a b=true↔a=b:=by
 cases a;cases b
 simp [aY]
theorem pI {p:Proj} {a:List Lin} {l:Lin} (h:aO p a l=0):a.length < 300:=by
 unfold aO at h
 split at h
 ·rename_i hn
  have:=hn.2.2
  omega
 ·cases h
theorem Jt {a b:Lit} {c:Bool} (h:aY a b=c):(decide (a.kind=b.kind)&&(decide (a.act=b.act)&&(decide (a.val=b.val)&&true)))=c:=by rw [Bool.and_true];exact h
theorem XV {a:Lit} {c:Bool} (h:aY a bL=c):(decide (a.kind=0)&&(decide (a.act=0)&&(decide (a.val=0)&&true)))=c:=Jt h
theorem mX (h:Lg):nH (some h)= .tup [.d h.av,.d (.bool true)]:=rfl
theorem PO (g:Lg) (s:Infer):(AP g s).av= .agg [i64 g.proj.dead,.sl (g.proj.acts.map aB.av),.sl (g.proj.links.map Link.av),.sl (g.proj.aS.map aK.av),ints g.proj.aH,ints (restrict g.dom s.lit).lo,ints (restrict g.dom s.lit).hi,.sl ((restrict g.dom s.lit).modes.map ints),lits g.decs,.sl (g.lines.map Lin.av++[(rR s).av])]:=by
 have h:(AP g s).av= .agg [i64 g.proj.dead,.sl (g.proj.acts.map aB.av),.sl (g.proj.links.map Link.av),.sl (g.proj.aS.map aK.av),ints g.proj.aH,ints (restrict g.dom s.lit).lo,ints (restrict g.dom s.lit).hi,.sl ((restrict g.dom s.lit).modes.map ints),lits g.decs,.sl ((g.lines++[rR s]).map Lin.av)]:=rfl
 rw [h,List.map_append];rfl
theorem Ri (g:Lg) (s:Infer) (hp:g.proj.fine):Con 163 [.d g.av,.d s.av] (nH (qI g s)):=by
 refine con Tryz.func163 rfl rfl Tryz.call163 rfl fun hwf=>?_
 have hL:=jg g.proj g.lines (rR s) hp
 have hS:=nR g.dom s.clause
 rw [SL] at hS
 by_cases hc:aO g.proj g.lines (rR s)=0
 rotate_left
 ·rw [pG (by simp [iU,hc])]
  (repeat' ((conv=>whnf);first|with_reducible refine Br.yes (by simp [hc]) ?_|refine gA ?_|refine gC (iC s.clause) ?_|refine gC hL ?_|intro _))
  exact fv
 have adX:=pI hc
 rw [hc] at hL
 rcases Js g.dom s.clause with h1|h1|h1
 ·rw [pG (by simp [iU,hc,rT,h1])]
  rw [h1] at hS
  (repeat' ((conv=>whnf);first|refine gA ?_|refine gC (iC s.clause) ?_|refine gC hL ?_|refine gC hS ?_|intro _))
  all_goals first
   |(exfalso;omega)
   |(exfalso;exact absurd trivial (by assumption))
   |exact fv
 ·rw [h1] at hS
  cases hz:aY (status g.dom s.clause).2 bL with
  |true=>
   have hz':=XV hz
   rw [pG (by simp [iU,hc,rT,h1,hz])]
   (repeat' ((conv=>whnf);first|with_reducible refine Br.yes hz' ?_|refine gA ?_|refine gC (iC s.clause) ?_|refine gC hL ?_|refine gC hS ?_|intro _))
   all_goals first
    |(exfalso;omega)
    |(exfalso;exact absurd trivial (by assumption))
    |exact fv
  |false=>
  have hz':=XV hz
  cases he:aY (status g.dom s.clause).2 s.lit with
  |true=>
   rw [AQ (by simp [iU,hc,rT,h1,he,hz]),mX,PO]
   have he':=Jt he
   (repeat' ((conv=>whnf);first|(with_reducible first|refine Br.no hz' ?_|refine Br.yes he' ?_)|refine gAP ?_|refine gC (iC s.clause) ?_|refine gC hL ?_|refine gC hS ?_|refine gC (Dk g) ?_|refine gC (fP g.dom s.lit) ?_|intro _))
   all_goals first
    |(exfalso;omega)
    |(exfalso;exact absurd trivial (by assumption))
    |exact fv
  |false=>
   rw [pG (by simp [iU,hc,rT,h1,he])]
   have he':=Jt he
   (repeat' ((conv=>whnf);first|(with_reducible first|refine Br.no hz' ?_|refine Br.no he' ?_)|refine gA ?_|refine gC (iC s.clause) ?_|refine gC hL ?_|refine gC hS ?_|intro _))
   all_goals first
    |(exfalso;omega)
    |(exfalso;exact absurd trivial (by assumption))
    |exact fv
 ·rw [h1] at hS
  by_cases he:litValue g.dom s.lit=1
  ·rw [AQ (by simp [iU,hc,rT,h1,he]),mX,PO]
   (repeat' ((conv=>whnf);first|refine gAP ?_|(refine gB ?_ ?_<;>intro h)|refine gC (iC s.clause) ?_|refine gC hL ?_|refine gC hS ?_|refine gC (rG g.dom s.lit) ?_|refine gC (Dk g) ?_|refine gC (fP g.dom s.lit) ?_|intro _))
   all_goals first
    |(exfalso;omega)
    |(exfalso;exact absurd trivial (by assumption))
    |exact fv
  ·rw [pG (by simp [iU,hc,rT,h1,he])]
   (repeat' ((conv=>whnf);first|refine gA ?_|(refine gB ?_ ?_<;>intro h)|refine gC (iC s.clause) ?_|refine gC hL ?_|refine gC hS ?_|refine gC (rG g.dom s.lit) ?_|intro _))
   all_goals first
    |(exfalso;omega)
    |(exfalso;exact absurd trivial (by assumption))
    |exact fv
def ug (g:Lg):Option Lg:=match dS g.proj g.dom with|none=>none|some s=>qI g s
theorem xg (g:Lg):ug g=(match dS g.proj g.dom with|none=>none|some s=>qI g s):=rfl
def dU:Nat->Nat->Lg->Lg×Nat
 |0,n,g=>(g,n)
 |f+1,n,g=>match ug g with|none=>(g,n)|some h=>dU f (n+1) h
theorem yh (n:Nat) (g:Lg):dU 0 n g=(g,n):=rfl
theorem uK (f n:Nat) (g:Lg):dU (f+1) n g=(match ug g with|none=>(g,n)|some h=>dU f (n+1) h):=rfl
theorem Dl {g h:Lg} {s:Infer} (e:qI g s=some h):h.proj=g.proj:=by
 unfold qI at e
 split at e
 ·cases e;rfl
 ·cases e
def adY (r:Lg×Nat):RV:=.tup [.d r.1.av,.d (i64 r.2)]
theorem Dm (g:Lg) (most:Nat) (hp:g.proj.fine) (hm:most<=60):Con 82 [.d g.av,.d (i64 most)] (adY (dU most 0 g)):=by
 refine con Tryz.func82 rfl rfl Tryz.call82 rfl fun hwf=>?_
 generalize hR:dU most 0 g=R
 try (conv=>whnf)
 refine ay [1,4,6] [4] [] ?_
 (conv=>whnf)
 refine au.go ((Nat)×(Lg)) (fun⟨n,h⟩=>(n<=most)/\(h.proj=g.proj)/\(dU (most - n) n h=R)) (fun⟨n,h⟩=>[(7,.data (i64 n))]) (fun⟨n,h⟩=>[(6,(AV.cells h.av).map SV.data)]) lE (fun⟨n,h⟩=>most - n) ⟨0,g⟩ ?_ ?_
 ·exact⟨Nat.zero_le _,rfl,hR⟩
 rintro⟨n,h⟩ ⟨hn,hj,he⟩
 have hph:h.proj.fine:=hj ▸ hp
 have hF:=EG h.proj h.dom hph
 by_cases hlt:n < most
 rotate_left
 ·rw [show most - n=0 by omega,yh] at he
  subst he
  (repeat' ((conv=>whnf);first|(exfalso;omega)|(refine gB ?_ ?_<;>intro h)))
  exact fv
 rw [show most - n=(most - (n+1))+1 by omega,uK] at he
 cases h1:dS h.proj h.dom with
 |none=>
  rw [xg,h1] at he
  rw [agN,h1] at hF
  dsimp only [Option.getD,Option.isSome] at hF
  have he:(h,n)=R:=he
  subst he
  (repeat' ((conv=>whnf);first|(exfalso;omega)|refine gA ?_|(refine gB ?_ ?_<;>intro h)|refine gC hF ?_|intro _))
  all_goals exact fv
 |some s=>
  rw [agN,h1] at hF
  dsimp only [Option.getD,Option.isSome] at hF
  have hI:=Ri h s hph
  have e1:ug h=qI h s:=by rw [xg,h1]
  rw [e1] at he
  cases h2:qI h s with
  |none=>
   rw [h2] at he
   rw [nH,h2] at hI
   dsimp only [Option.getD,Option.isSome] at hI
   have he:(h,n)=R:=he
   subst he
   (repeat' ((conv=>whnf);first|(exfalso;omega)|refine gA ?_|(refine gB ?_ ?_<;>intro h)|refine gC hF ?_|refine gC hI ?_|intro _))
   all_goals exact fv
  |some h'=>
   rw [h2] at he
   rw [nH,h2] at hI
   dsimp only [Option.getD,Option.isSome] at hI
   have he:dU (most - (n+1)) (n+1) h'=R:=he
   (repeat' ((conv=>whnf);first|(exfalso;omega)|refine gA ?_|(refine gB ?_ ?_<;>intro h)|refine gC hF ?_|refine gC hI ?_|intro _))
   all_goals
    refine nx ⟨n+1,h'⟩ ?_
    exact⟨by omega,(Dl h2).trans hj,he⟩
end Go.Proofs.YthegbfgeochckaaGreat.Abs
namespace Go.Proofs.YthegbfgeochckaaGreat.Abs
open Go.Proofs Go.RowKit
attribute [local irreducible] dS eu aO status litValue
theorem xk (p:Proj) (b:Dom) (r:Rul) (hp:p.fine):Con 165 [.d p.av,.d b.av,.d r.av] (.lin 102 ((explain p b r).map Lit.av)):=by
 refine con Tryz.func165 rfl rfl Tryz.call165 rfl fun hwf=>?_
 (repeat' ((conv=>whnf);first|refine gA ?_|(refine gB ?_ ?_<;>intro h)|refine gC (jE p b r hp) ?_|refine gC (Da p b hp) ?_|refine gC (jX (qU p b)) ?_|refine gC (wX p r (bJ (qU p b)) 241 [] _ hp (fun x=>zH x)) ?_|intro _))
 ·rw [explain,if_pos (by assumption)]
  exact fv
 ·rw [explain,if_neg (by simp [*])]
  exact fv
def dD (g:Lg) (r:Rul):Lin:=⟨1,r,explain g.proj g.dom r⟩
def bH (g:Lg):Lin:=⟨2,adw,bJ (g.decs.map negate)⟩
def iX (g:Lg):Option Lg:=match eu g.proj g.dom with
 |none=>none
 |some r=>if aO g.proj g.lines (dD g r)=0/\aO g.proj (g.lines++[dD g r]) (bH g)=0 then some ⟨g.proj,g.dom,g.decs,g.lines++[dD g r]++[bH g]⟩ else none
theorem tF (g:Lg):iX g=(match eu g.proj g.dom with
 |none=>none
 |some r=>if aO g.proj g.lines (dD g r)=0/\aO g.proj (g.lines++[dD g r]) (bH g)=0 then some ⟨g.proj,g.dom,g.decs,g.lines++[dD g r]++[bH g]⟩ else none):=rfl
def ZR (o:Option Lg):RV:=.tup [.agg [.junk,.junk,.junk,.junk,.junk,.junk,.junk,.junk,.junk,.lin 130 ((o.getD aaL).lines.map Lin.av)],.d (.bool o.isSome)]
def ach (a b:Lin) (k:Nat):List SV:=
 match k with
 |0=>[.data (i64 a.kind),.data (i64 a.rule.kind),.data (i64 a.rule.a),.data (i64 a.rule.b),.data (i64 a.rule.c),.own 46000 0,.data (i64 b.kind),.data (i64 0),.data (i64 0),.data (i64 0),.data (i64 0),.own 49000 0]
 |1=>[.data (i64 a.kind),.data (i64 a.rule.kind),.data (i64 a.rule.a),.data (i64 a.rule.b),.data (i64 a.rule.c),.data (lits a.clause),.data (i64 b.kind),.data (i64 0),.data (i64 0),.data (i64 0),.data (i64 0),.own 49000 0]
 |_=>[.data (i64 a.kind),.data (i64 a.rule.kind),.data (i64 a.rule.a),.data (i64 a.rule.b),.data (i64 a.rule.c),.data (lits a.clause),.data (i64 b.kind),.data (i64 0),.data (i64 0),.data (i64 0),.data (i64 0),.data (lits b.clause)]
def zJ (g:Lg) (a b:Lin) (k:Nat):List Lin:=
 match k with
 |0=>g.lines
 |1=>g.lines++[a]
 |_=>g.lines++[a]++[b]
def adZ (a b:Lin) (k:Nat):List (Nat×Nat×List AV×Nat):=
 match k with
 |0=>[(46000,102,a.clause.map Lit.av,1),(49000,102,b.clause.map Lit.av,1)]
 |1=>[(49000,102,b.clause.map Lit.av,1)]
 |_=>[]
theorem FI (g:Lg) (hp:g.proj.fine):Con 83 [.d g.av] (ZR (iX g)):=by
 refine con Tryz.func83 rfl rfl Tryz.call83 rfl fun hwf=>?_
 simp only [ARs.wf,AR.wf,AV.wf,AV.wfs,lm,lim] at hwf
 have hR:=vw g.proj g.dom hp
 cases hf:eu g.proj g.dom with
 |none=>
  rw [MI,hf] at hR
  dsimp only [Option.getD,Option.isSome] at hR
  rw [tF,hf]
  (repeat' ((conv=>whnf);first|refine gA ?_|refine gC hR ?_|intro _))
  exact fv
 |some r=>
 rw [MI,hf] at hR
 dsimp only [Option.getD,Option.isSome] at hR
 have hE:=xk g.proj g.dom r hp
 have hN:=(jX (g.decs.map negate)).Aq rfl
 have hC1:=jg g.proj g.lines (dD g r) hp
 have hC2:=jg g.proj (g.lines++[dD g r]) (bH g) hp
 generalize hRR:iX g=R
 have hst:R=if aO g.proj g.lines (dD g r)=0/\aO g.proj (g.lines++[dD g r]) (bH g)=0 then some ⟨g.proj,g.dom,g.decs,g.lines++[dD g r]++[bH g]⟩ else none:=by rw [<- hRR,tF,hf]
 (repeat' ((conv=>whnf);first|refine gA ?_|refine gC hR ?_|refine gC (PN g) ?_|intro _))<;>try (conv=>whnf)
 refine ay [1,2,4,6,27,28] [1,4] [25,250010] ?_
 (conv=>whnf)
 refine au.go ((Nat)×(List Lit)) (fun⟨k,o⟩=>(k<=g.decs.length)/\(o=(g.decs.take k).map negate)) (fun⟨k,o⟩=>[(29,.data (i64 k)),(7,.own 25 0)]) (fun⟨k,o⟩=>[(2,[.undef,.undef,.undef,.undef,.undef,.undef,.undef,.undef,.undef,.undef]),(6,[.data (i64 g.proj.dead),.data (.sl (g.proj.acts.map aB.av)),.data (.sl (g.proj.links.map Link.av)),.data (.sl (g.proj.aS.map aK.av)),.data (ints g.proj.aH),.undef,.undef,.undef,.undef,.own 250010 0])]) (fun⟨k,o⟩=>[(25,102,o.map Lit.av,1),(250010,130,g.lines.map Lin.av,1)]) (fun⟨k,o⟩=>g.decs.length - k) ⟨0,[]⟩ ?_ ?_
 ·exact⟨Nat.zero_le _,rfl⟩
 rintro⟨k,o⟩ ⟨hk,ho⟩
 by_cases hlt:k < g.decs.length
 ·obtain⟨x,hx⟩:∃x,g.decs[k]? =some x:=⟨g.decs[k]'hlt,by simp⟩
  have hol:o.length<=k:=by rw [ho];simp;omega
  (repeat' ((conv=>whnf);first|with_reducible refine Idx.got hx rfl ?_|(exfalso;omega)|refine gAX ?_|(refine gB ?_ ?_<;>intro h)|refine gC (iK x) ?_|intro _))<;>try (conv=>whnf)
  refine nwS ⟨k+1,o++[negate x]⟩ ?_
  exact⟨by omega,by rw [ho, <- lF negate hx]⟩
 obtain rfl:o=g.decs.map negate:=by rw [ho,List.take_of_length_le (by omega)]
 (repeat' ((conv=>whnf);first|(exfalso;omega)|refine gA ?_|(refine gB ?_ ?_<;>intro h)|refine gC hE ?_|refine gC hN ?_|intro _))<;>try (conv=>whnf)
 refine ay [2,6,50,51] [] [250010,46000,49000] ?_
 (conv=>whnf)
 refine au.go Nat (fun k=>k<=2/\(0 < k->aO g.proj g.lines (dD g r)=0)/\(1 < k->aO g.proj (g.lines++[dD g r]) (bH g)=0)) (fun k=>[(52,.data (i64 k))]) (fun k=>[(50,ach (dD g r) (bH g) k),(2,[.undef,.undef,.undef,.undef,.undef,.undef,.undef,.undef,.undef,.undef]),(6,[.data (i64 g.proj.dead),.data (.sl (g.proj.acts.map aB.av)),.data (.sl (g.proj.links.map Link.av)),.data (.sl (g.proj.aS.map aK.av)),.data (ints g.proj.aH),.undef,.undef,.undef,.undef,.own 250010 0])]) (fun k=>(250010,130,(zJ g (dD g r) (bH g) k).map Lin.av,1)::adZ (dD g r) (bH g) k) (fun k=>2 - k) 0 ?_ ?_
 ·exact⟨by omega,fun h=>by omega,fun h=>by omega⟩
 rintro k ⟨hk,h1,h2⟩
 rcases k with _|_|k
 ·by_cases hc:aO g.proj g.lines (dD g r)=0
  ·rw [hc] at hC1
   have hl0:(zJ g (dD g r) (bH g) 0).length < 300:=pI hc
   (repeat' ((conv=>whnf);first|refine gAX ?_|refine gC hC1 ?_|intro _))<;>try (conv=>whnf)
   all_goals first
    |(exfalso;exact absurd trivial (by assumption))
    |(refine nw ((1)) ?_ ?_
      ·(repeat' ((conv=>whnf)<;>(first|exact trivial|exact rfl|with_reducible refine And.intro ?_ ?_)))<;>((conv=>whnf)<;>(simp [zJ]))
      exact⟨by omega,fun _=>hc,fun h=>by omega⟩)
  ·obtain rfl:R=none:=by rw [hst,if_neg (fun h=>hc h.1)]
   (repeat' ((conv=>whnf);first|(exfalso;omega)|refine gAX ?_|(refine gB ?_ ?_<;>intro h)|refine gC hC1 ?_|intro _))<;>try (conv=>whnf)
   all_goals first
    |(exfalso;omega)
    |(exfalso;exact absurd trivial (by assumption))
    |exact fv
 ·by_cases hc2:aO g.proj (g.lines++[dD g r]) (bH g)=0
  ·rw [hc2] at hC2
   have hl1:(zJ g (dD g r) (bH g) (0+1)).length < 300:=pI hc2
   (repeat' ((conv=>whnf);first|refine gAX ?_|refine gC hC2 ?_|intro _))<;>try (conv=>whnf)
   all_goals first
    |(exfalso;exact absurd trivial (by assumption))
    |(refine nw ((2)) ?_ ?_
      ·(repeat' ((conv=>whnf)<;>(first|exact trivial|exact rfl|with_reducible refine And.intro ?_ ?_)))<;>((conv=>whnf)<;>(simp [zJ,bH,adw]))
      exact⟨by omega,fun _=>h1 (by omega),fun _=>hc2⟩)
  ·obtain rfl:R=none:=by rw [hst,if_neg (fun h=>hc2 h.2)]
   (repeat' ((conv=>whnf);first|(exfalso;omega)|refine gAX ?_|(refine gB ?_ ?_<;>intro h)|refine gC hC2 ?_|intro _))<;>try (conv=>whnf)
   all_goals first
    |(exfalso;omega)
    |(exfalso;exact absurd trivial (by assumption))
    |exact fv
 ·obtain rfl:k=0:=by omega
  obtain rfl:R=some ⟨g.proj,g.dom,g.decs,g.lines++[dD g r]++[bH g]⟩:=by rw [hst,if_pos ⟨h1 (by omega),h2 (by omega)⟩]
  (repeat' ((conv=>whnf);first|refine gA ?_))
  exact fv
end Go.Proofs.YthegbfgeochckaaGreat.Abs
namespace Go.Proofs.YthegbfgeochckaaGreat.Abs
open Go.Proofs Go.RowKit
attribute [local irreducible] dS eu aO status litValue
def rU (g:Lg) (l:Lin):Option Lg:=if aO g.proj g.lines l=0 then some ⟨g.proj,g.dom,g.decs,g.lines++[l]⟩ else none
def ajH (g:Lg):RV:=.agg [.d (i64 g.proj.dead),.d (.sl (g.proj.acts.map aB.av)),.d (.sl (g.proj.links.map Link.av)),.d (.sl (g.proj.aS.map aK.av)),.d (ints g.proj.aH),.d (ints g.dom.lo),.d (ints g.dom.hi),.d (.sl (g.dom.modes.map ints)),.d (lits g.decs),.own 130 (g.lines.map Lin.av)]
theorem FJ (ls:List Lin):Con 64 [.d (.sl (ls.map Lin.av))] (.own 130 (ls.map Lin.av)):=by
 refine con Tryz.func64 rfl rfl Tryz.call64 rfl fun hwf=>?_
 simp only [ARs.wf,AR.wf,AV.wf,AV.wfs,lm,lim] at hwf
 try (conv=>whnf)
 refine ay [7,8] [] [6] ?_
 (conv=>whnf)
 refine au.go ((Nat)) (fun k=>(k<=ls.length)) (fun k=>[(9,.data (i64 k)),(3,.own 6 0)]) lE (fun k=>[(6,130,(ls.take k).map Lin.av,0)]) (fun k=>ls.length - k) (0) ?_ ?_
 ·exact Nat.zero_le _
 rintro k hk
 by_cases hlt:k < ls.length
 ·obtain⟨x,hx⟩:∃x,ls[k]? =some x:=⟨ls[k]'hlt,by simp⟩
  (repeat' ((conv=>whnf);first|with_reducible refine Idx.got hx rfl ?_|(exfalso;omega)|refine gAX ?_|(refine gB ?_ ?_<;>intro h)|refine gC (Jd x) ?_|intro _))<;>try (conv=>whnf)
  refine nw (k+1) ?_ ?_
  ·(repeat' ((conv=>whnf)<;>(first|exact trivial|exact rfl|with_reducible refine And.intro ?_ ?_)))<;>((conv=>whnf)<;>(exact fO Lin.av hx))
  exact (by omega:k+1<=ls.length)
 ·(repeat' ((conv=>whnf);first|(exfalso;omega)|(refine gB ?_ ?_<;>intro h)))<;>try (conv=>whnf)
  refine⟨?_,rfl,trivial⟩
  dsimp only
  rw [List.take_of_length_le (by omega)]
theorem AU (g:Lg):Con 20 [.d g.av] (ajH g):=by
 refine con Tryz.func20 rfl rfl Tryz.call20 rfl fun hwf=>?_
 simp only [ARs.wf,AR.wf,AV.wf,AV.wfs,lm,lim] at hwf
 (repeat' ((conv=>whnf);first|refine gAP ?_|refine gC (Jc g.proj) ?_|refine gC (mP g.dom) ?_|refine gC (FJ g.lines) ?_|intro _))<;>try (conv=>whnf)
 (repeat' ((conv=>whnf)<;>(first|exact trivial|exact VC.nod (by kernel_rfl)|refine VC.mk (by first|with_reducible rfl|(simp;done)|rfl) ?_)))
theorem vM (g:Lg) (l:Lin) (hp:g.proj.fine):Con 127 [.d g.av,.d l.av] (nH (rU g l)):=by
 refine con Tryz.func127 rfl rfl Tryz.call127 rfl fun hwf=>?_
 by_cases hk:aO g.proj g.lines l=0
 ·have adX:=pI hk
  rw [rU,if_pos hk]
  (repeat' ((conv=>whnf);first|with_reducible refine Br.no (by simp [hk]) ?_|refine gAP ?_|refine gC (wT g.proj g.lines l hp) ?_|refine gC (AU g) ?_|refine gC (Jd l) ?_|intro _))
  (repeat' ((conv=>whnf)<;>(first|exact trivial|exact VC.nod (by kernel_rfl)|refine VC.mk (by first|with_reducible rfl|(simp;done)|rfl) ?_)))
 ·rw [rU,if_neg hk]
  (repeat' ((conv=>whnf);first|with_reducible refine Br.yes (by simp [hk]) ?_|refine gA ?_|refine gC (wT g.proj g.lines l hp) ?_|intro _))
  exact fv
theorem XW (g:Lg) (s:Infer) (hp:g.proj.fine) (hs:aY s.lit bL=false) (hd:∀(n:Nat) (m:List Int),g.dom.modes[n]? =some m->jU m=true):Con 125 [.d g.av,.d s.av] (nH (qI g s)):=by
 refine con Tryz.func125 rfl rfl Tryz.call125 rfl fun hwf=>?_
 have hL:=vM g (rR s) hp
 have hS:=xQ g.dom s.clause
 have hX:=jL g.dom s.lit (fun m h=>hd _ m h)
 have hz:∀x:Lit,aY x s.lit=true->aY x bL=false:=fun x h=>by rw [ZQ.1 h];exact hs
 by_cases hc:aO g.proj g.lines (rR s)=0
 rotate_left
 ·rw [nH,rU,if_neg hc] at hL
  dsimp only [Option.getD,Option.isSome] at hL
  rw [pG (by simp [iU,hc])]
  rw [SL] at hS
  (repeat' ((conv=>whnf);first|refine gA ?_|refine gC hS ?_|refine gC hL ?_|intro _))
  exact fv
 rw [nH,rU,if_pos hc] at hL
 dsimp only [Option.getD,Option.isSome] at hL
 rw [SL] at hS
 rcases Js g.dom s.clause with h1|h1|h1
 ·rw [pG (by simp [iU,hc,rT,h1])]
  rw [h1] at hS
  (repeat' ((conv=>whnf);first|refine gA ?_|refine gC hS ?_|refine gC hL ?_|intro _))
  all_goals first
   |(exfalso;omega)
   |(exfalso;exact absurd trivial (by assumption))
   |exact fv
 ·rw [h1] at hS
  cases he:aY (status g.dom s.clause).2 s.lit with
  |true=>
   rw [AQ (by simp [iU,hc,rT,h1,he,hz _ he])]
   have he':=Jt he
   (repeat' ((conv=>whnf);first|with_reducible refine Br.yes he' ?_|refine gA ?_|refine gC hS ?_|refine gC hL ?_|refine gC hX ?_|intro _))
   all_goals first
    |(exfalso;omega)
    |(exfalso;exact absurd trivial (by assumption))
    |(repeat' ((conv=>whnf)<;>(first|exact trivial|exact VC.nod (by kernel_rfl)|refine VC.mk (by first|with_reducible rfl|(simp [AP];done)|rfl) ?_)))
  |false=>
   rw [pG (by simp [iU,hc,rT,h1,he])]
   have he':=Jt he
   (repeat' ((conv=>whnf);first|with_reducible refine Br.no he' ?_|refine gA ?_|refine gC hS ?_|refine gC hL ?_|intro _))
   all_goals first
    |(exfalso;omega)
    |(exfalso;exact absurd trivial (by assumption))
    |exact fv
 ·rw [h1] at hS
  by_cases he:litValue g.dom s.lit=1
  ·rw [AQ (by simp [iU,hc,rT,h1,he])]
   (repeat' ((conv=>whnf);first|refine gA ?_|(refine gB ?_ ?_<;>intro h)|refine gC hS ?_|refine gC hL ?_|refine gC (rH g.dom s.lit) ?_|refine gC hX ?_|intro _))
   all_goals first
    |(exfalso;omega)
    |(exfalso;exact absurd trivial (by assumption))
    |(exfalso;simp_all;done)
    |(repeat' ((conv=>whnf)<;>(first|exact trivial|exact VC.nod (by kernel_rfl)|refine VC.mk (by first|with_reducible rfl|(simp [AP];done)|rfl) ?_)))
  ·rw [pG (by simp [iU,hc,rT,h1,he])]
   (repeat' ((conv=>whnf);first|refine gA ?_|(refine gB ?_ ?_<;>intro h)|refine gC hS ?_|refine gC hL ?_|refine gC (rH g.dom s.lit) ?_|refine gC hX ?_|intro _))
   all_goals first
    |(exfalso;omega)
    |(exfalso;exact absurd trivial (by assumption))
    |(exfalso;simp_all;done)
    |exact fv
theorem PS {p:Proj} {b:Dom} {s:Infer} (h:dS p b=some s):usable p b=true/\aY s.lit bL=false:=by
 unfold dS at h
 split at h
 ·cases h
 ·obtain⟨r,hr,h1⟩:=List.exists_of_findSome?_eq_some h
  obtain⟨a,_,h2⟩:=List.exists_of_findSome?_eq_some h1
  refine⟨(Jo hr).1,?_⟩
  unfold Eh at h2
  obtain⟨l,hl,rfl⟩:=Option.map_eq_some_iff.1 h2
  have hm:=List.mem_of_head? hl
  have:l.kind=1\/l.kind=2\/l.kind=4:=by
   unfold oH at hm
   split at hm
   ·simp only [Ef,List.mem_append] at hm
    rcases hm with (hm|hm)|hm
    ·unfold atLeast at hm;split at hm
     ·rw [List.mem_singleton.1 hm];exact .inl rfl
     ·simp at hm
    ·unfold yR at hm;split at hm
     ·rw [List.mem_singleton.1 hm];exact .inr (.inl rfl)
     ·simp at hm
    ·obtain⟨v,_,rfl⟩:=List.mem_map.1 hm;exact .inr (.inr rfl)
   ·simp at hm
  simp only [aY,bL]
  rcases this with h|h|h<;>simp [h]
theorem XY (g:Lg) (most:Nat) (hp:g.proj.fine) (hm:most<=60):Con 57 [.d g.av,.d (i64 most)] (adY (dU most 0 g)):=by
 refine con Tryz.func57 rfl rfl Tryz.call57 rfl fun hwf=>?_
 generalize hR:dU most 0 g=R
 try (conv=>whnf)
 refine ay [1,2,4] [4] [] ?_
 (conv=>whnf)
 refine au.go ((Nat)×(Lg)) (fun⟨n,h⟩=>(n<=most)/\(h.proj=g.proj)/\(dU (most - n) n h=R)) (fun⟨n,h⟩=>[(6,.data (i64 n))]) (fun⟨n,h⟩=>[(2,(AV.cells h.av).map SV.data)]) lE (fun⟨n,h⟩=>most - n) ⟨0,g⟩ ?_ ?_
 ·exact⟨Nat.zero_le _,rfl,hR⟩
 rintro⟨n,h⟩ ⟨hn,hj,he⟩
 have hph:h.proj.fine:=hj ▸ hp
 have hF:=EH h.proj h.dom hph
 by_cases hlt:n < most
 rotate_left
 ·obtain rfl:n=most:=by omega
  rw [Nat.sub_self,yh] at he
  subst he
  (repeat' ((conv=>whnf);first|(exfalso;omega)|(refine gB ?_ ?_<;>intro h)))
  exact fv
 rw [show most - n=(most - (n+1))+1 by omega,uK] at he
 cases h1:dS h.proj h.dom with
 |none=>
  rw [xg,h1] at he
  rw [adW,h1] at hF
  dsimp only [Option.getD,Option.isSome] at hF
  have he:(h,n)=R:=he
  subst he
  (repeat' ((conv=>whnf);first|(exfalso;omega)|refine gA ?_|(refine gB ?_ ?_<;>intro h)|refine gC hF ?_|intro _))
  all_goals exact fv
 |some s=>
  rw [adW,h1] at hF
  dsimp only [Option.getD,Option.isSome] at hF
  obtain⟨hu,hz⟩:=PS h1
  have hI:=XW h s hph hz (fun n m hm=>rP (AO hu) hm)
  have e1:ug h=qI h s:=by rw [xg,h1]
  rw [e1] at he
  cases h2:qI h s with
  |none=>
   rw [h2] at he
   rw [nH,h2] at hI
   dsimp only [Option.getD,Option.isSome] at hI
   have he:(h,n)=R:=he
   subst he
   (repeat' ((conv=>whnf);first|(exfalso;omega)|refine gA ?_|(refine gB ?_ ?_<;>intro h)|refine gC hF ?_|refine gC hI ?_|intro _))
   all_goals exact fv
  |some h'=>
   rw [h2] at he
   rw [nH,h2] at hI
   dsimp only [Option.getD,Option.isSome] at hI
   have he:dU (most - (n+1)) (n+1) h'=R:=he
   (repeat' ((conv=>whnf);first|(exfalso;omega)|refine gA ?_|(refine gB ?_ ?_<;>intro h)|refine gC hF ?_|refine gC hI ?_|intro _))
   all_goals
    refine nx ⟨n+1,h'⟩ ?_
    exact⟨by omega,(Dl h2).trans hj,he⟩
theorem vN (g:Lg):Con 129 [.d g.av] (.d (lits (bJ (g.decs.map negate)))):=by
 refine con Tryz.func129 rfl rfl Tryz.call129 rfl fun hwf=>?_
 simp only [ARs.wf,AR.wf,AV.wf,AV.wfs,lm,lim] at hwf
 try (conv=>whnf)
 refine ay [8,9] [] [6] ?_
 (conv=>whnf)
 refine au.go ((Nat)×(List Lit)) (fun⟨k,o⟩=>(k<=g.decs.length)/\(o=(g.decs.take k).map negate)) (fun⟨k,o⟩=>[(10,.data (i64 k)),(3,.own 6 0)]) lE (fun⟨k,o⟩=>[(6,102,o.map Lit.av,0)]) (fun⟨k,o⟩=>g.decs.length - k) ⟨0,[]⟩ ?_ ?_
 ·exact⟨Nat.zero_le _,rfl⟩
 rintro⟨k,o⟩ ⟨hk,ho⟩
 by_cases hlt:k < g.decs.length
 ·obtain⟨x,hx⟩:∃x,g.decs[k]? =some x:=⟨g.decs[k]'hlt,by simp⟩
  have hol:o.length<=k:=by rw [ho];simp;omega
  (repeat' ((conv=>whnf);first|with_reducible refine Idx.got hx rfl ?_|(exfalso;omega)|refine gAX ?_|(refine gB ?_ ?_<;>intro h)|refine gC (qL x) ?_|intro _))<;>try (conv=>whnf)
  refine nwS ⟨k+1,o++[negate x]⟩ ?_
  exact⟨by omega,by rw [ho, <- lF negate hx]⟩
 obtain rfl:o=g.decs.map negate:=by rw [ho,List.take_of_length_le (by omega)]
 (repeat' ((conv=>whnf);first|(exfalso;omega)|refine gA ?_|(refine gB ?_ ?_<;>intro h)|refine gC (wY (g.decs.map negate)) ?_|intro _))<;>try (conv=>whnf)
 exact⟨rfl,rfl,trivial⟩
theorem Vm (g:Lg) (hp:g.proj.fine):Con 58 [.d g.av] (nH (iX g)):=by
 refine con Tryz.func58 rfl rfl Tryz.call58 rfl fun hwf=>?_
 have hR:=vB g.proj g.dom hp
 cases hf:eu g.proj g.dom with
 |none=>
  rw [MI,hf] at hR
  dsimp only [Option.getD,Option.isSome] at hR
  rw [tF,hf]
  (repeat' ((conv=>whnf);first|refine gA ?_|refine gC hR ?_|intro _))
  exact fv
 |some r=>
 rw [MI,hf] at hR
 dsimp only [Option.getD,Option.isSome] at hR
 have hL:=vM g (dD g r) hp
 have hst:iX g=if aO g.proj g.lines (dD g r)=0/\aO g.proj (g.lines++[dD g r]) (bH g)=0 then some ⟨g.proj,g.dom,g.decs,g.lines++[dD g r]++[bH g]⟩ else none:=by rw [tF,hf]
 by_cases h1:aO g.proj g.lines (dD g r)=0
 rotate_left
 ·rw [hst,if_neg (fun h=>h1 h.1)]
  rw [nH,rU,if_neg h1] at hL
  dsimp only [Option.getD,Option.isSome] at hL
  (repeat' ((conv=>whnf);first|refine gA ?_|refine gC hR ?_|refine gC (mV g.proj g.dom r hp) ?_|refine gC hL ?_|intro _))
  exact fv
 rw [nH,rU,if_pos h1] at hL
 dsimp only [Option.getD,Option.isSome] at hL
 have hL2:=vM ⟨g.proj,g.dom,g.decs,g.lines++[dD g r]⟩ (bH g) hp
 by_cases h2:aO g.proj (g.lines++[dD g r]) (bH g)=0
 ·rw [hst,if_pos ⟨h1,h2⟩]
  rw [nH,rU,if_pos h2] at hL2
  dsimp only [Option.getD,Option.isSome] at hL2
  (repeat' ((conv=>whnf);first|refine gA ?_|refine gC hR ?_|refine gC (mV g.proj g.dom r hp) ?_|refine gC hL ?_|refine gC (vN g) ?_|refine gC hL2 ?_|intro _))
  exact fv
 ·rw [hst,if_neg (fun h=>h2 h.2)]
  rw [nH,rU,if_neg h2] at hL2
  dsimp only [Option.getD,Option.isSome] at hL2
  (repeat' ((conv=>whnf);first|refine gA ?_|refine gC hR ?_|refine gC (mV g.proj g.dom r hp) ?_|refine gC hL ?_|refine gC (vN g) ?_|refine gC hL2 ?_|intro _))
  exact fv
theorem yj:∀(f n:Nat) (g:Lg),(dU f n g).1.proj=g.proj
 |0,_,_=>rfl
 |f+1,n,g=>by
  rw [uK]
  cases h:ug g with
  |none=>rfl
  |some x=>
   dsimp only
   rw [yj f]
   unfold ug at h
   split at h
   ·cases h
   ·exact Dl h
end Go.Proofs.YthegbfgeochckaaGreat.Abs
namespace Go.Proofs.YthegbfgeochckaaGreat.Abs
open Go.Proofs Go.RowKit
end Go.Proofs.YthegbfgeochckaaGreat.Abs
