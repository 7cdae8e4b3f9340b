/- Contracts: logs that are made, copied, and grow. No statement of a claim. -/
import Derived.Test.YtkiohdpapinecaaGreatC35
import Derived.Test.YtkiohdpapinecaaGreatC32
import Derived.Test.YtkiohdpapinecaaGreatPlain
set_option linter.all false
set_option linter.unusedVariables false
set_option linter.unusedSimpArgs false
set_option maxRecDepth 20000
set_option maxHeartbeats 40000000
namespace Go.Proofs.YtkiohdpapinecaaGreat.Abs
open Go.Proofs Go.RowKit
attribute [local irreducible] firstInf findRef checkLine status litValue
def sayLine (s:Infer):Lin:=⟨1,s.rule,s.clause⟩
def says (g:Lg) (s:Infer):Bool:=(decide ((status g.dom s.clause).1=0)&&(!sameLit (status g.dom s.clause).2 zeroLit&&sameLit (status g.dom s.clause).2 s.lit))||(decide ((status g.dom s.clause).1=1)&&decide (litValue g.dom s.lit=1))
def inferOk (g:Lg) (s:Infer):Bool:=decide (checkLine g.proj g.lines (sayLine s)=0)&&says g s
def saidLog (g:Lg) (s:Infer):Lg:=⟨g.proj,restrict g.dom s.lit,g.decs,g.lines++[sayLine s]⟩
def infLog (g:Lg) (s:Infer):Option Lg:=if inferOk g s=true then some (saidLog g s) else none
theorem infLog_no {g:Lg} {s:Infer} (h:¬ inferOk g s=true):infLog g s=none:=if_neg h
theorem infLog_yes {g:Lg} {s:Infer} (h:inferOk g s=true):infLog g s=some (saidLog g s):=if_pos h
theorem inferOk_eq (g:Lg) (s:Infer):inferOk g s=(decide (checkLine g.proj g.lines (sayLine s)=0)&&says g s):=rfl
theorem says_eq (g:Lg) (s:Infer):says g s=((decide ((status g.dom s.clause).1=0)&&(!sameLit (status g.dom s.clause).2 zeroLit&&sameLit (status g.dom s.clause).2 s.lit))||(decide ((status g.dom s.clause).1=1)&&decide (litValue g.dom s.lit=1))):=rfl
def RLogD (o:Option Lg):RV:=.tup [.d (o.getD noLog).av,.d (.bool o.isSome)]
def RLgL (g:Lg):RV:=.agg [.d (i64 g.proj.dead),.lin 142 (g.proj.acts.map Activ.av),.lin 150 (g.proj.links.map Link.av),.lin 147 (g.proj.ress.map Resrc.av),.lin 3 (g.proj.stocks.map i64),.lin 3 (g.dom.lo.map i64),.lin 3 (g.dom.hi.map i64),.lin 25 (g.dom.modes.map ints),.lin 184 (g.decs.map Lit.av),.lin 128 (g.lines.map Lin.av)]
def logNew (p:Proj):Option Lg:=if projOk p=true then some ⟨p,initDom p,[],[]⟩ else none
theorem pickL_all (ls:List Lin):pickL ls (upTo ls.length)=ls:=by
 unfold pickL upTo
 rw [List.map_map]
 refine List.ext_getElem? fun i=>?_
 rw [List.getElem?_map]
 by_cases h:i < ls.length
 ·rw [List.getElem?_range h]
  simp [lineAt,List.getD_eq_getElem?_getD,h]
 ·rw [List.getElem?_eq_none (by simpa using h),List.getElem?_eq_none (by omega)];rfl
theorem impl_allOf (ls:List Lin):Con 267 [.d (.sl (ls.map Lin.av))] (.d (ints (upTo ls.length))):=by
 refine con Tryz.func267 rfl rfl Tryz.call267 rfl fun hwf=>?_
 simp only [ARs.wf,AR.wf,AV.wf,AV.wfs,List.length_map,lim] at hwf
 (repeat' ((conv=>whnf);first | refine gA ?_ | ((with_reducible first | refine gD (fun h=>?_) (fun h=>?_) | refine gE (fun h=>?_) (fun h=>?_)) <;> (try simp only [lm] at h) <;> try have hw:=wn h) | refine gP ?_ | refine gV ?_ | intro _)) <;> (try (conv=>whnf))
 refine loopF [7] [] [5] ?_
 (conv=>whnf)
 refine LoopC.go ((Nat)) (fun k=>(k≤ls.length)) (fun k=>[(8,.data (i64 k)),(3,.own 5 0)]) (fun _=>[]) (fun k=>[(5,3,(upTo k).map i64,0)]) (fun k=>ls.length - k) (0) ?_ ?_
 ·exact Nat.zero_le _
 rintro k hk
 by_cases hlt:k < ls.length
 ·(repeat' ((conv=>whnf);first | refine gA ?_ | ((with_reducible first | refine gD (fun h=>?_) (fun h=>?_) | refine gE (fun h=>?_) (fun h=>?_)) <;> (try simp only [lm] at h) <;> try have hw:=wn h) | refine gP ?_ | refine gV ?_ | intro _)) <;> (try (conv=>whnf))
  ·refine nw (k+1) ?_ ?_
   ·(repeat' ((conv=>whnf) <;> (first | exact trivial | exact rfl | with_reducible refine And.intro ?_ ?_))) <;> ((conv=>whnf) <;> (exact upTo_map k))
   exact (by omega:k+1≤ls.length)
  ·exfalso;omega
 ·obtain rfl:k=ls.length:=by omega
  (repeat' ((conv=>whnf);first | (exfalso;omega) | refine gA ?_ | ((with_reducible first | refine gD (fun h=>?_) (fun h=>?_) | refine gE (fun h=>?_) (fun h=>?_)) <;> (try simp only [lm] at h) <;> try have hw:=wn h) | refine gP ?_ | refine gV ?_ | intro _)) <;> (try (conv=>whnf))
  exact⟨rfl,rfl,trivial⟩
def RLgI (g:Lg):RV:=.agg [.d (i64 g.proj.dead),.d (.sl (g.proj.acts.map Activ.av)),.d (.sl (g.proj.links.map Link.av)),.d (.sl (g.proj.ress.map Resrc.av)),.d (ints g.proj.stocks),.d (ints g.dom.lo),.d (ints g.dom.hi),.d (.sl (g.dom.modes.map ints)),.d (lits g.decs),.own 128 (g.lines.map Lin.av)]
theorem impl_copiedLgO (g:Lg):Con 170 [.d g.av] (RLgI g):=by
 refine con Tryz.func170 rfl rfl Tryz.call170 rfl fun hwf=>?_
 have hl:=impl_linesAt_lin g.lines (upTo g.lines.length) (fun i hi=>upTo_mem hi)
 rw [pickL_all] at hl
 (repeat' ((conv=>whnf);first | refine gA ?_ | ((with_reducible first | refine gD (fun h=>?_) (fun h=>?_) | refine gE (fun h=>?_) (fun h=>?_)) <;> (try simp only [lm] at h) <;> try have hw:=wn h) | refine gC (impl_copiedProj g.proj) ?_ | refine gC (impl_copied g.dom) ?_ | refine gC (cloneLit_lin g.decs) ?_ | refine gC (impl_allOf g.lines) ?_ | refine gC (hl) ?_ | intro _)) <;> (try (conv=>whnf))
 (repeat' ((conv=>whnf) <;> (first | exact trivial | exact VC.nod (by kernel_rfl) | refine VC.mk rfl ?_)))
def RLgP (g:Lg):RV:=.agg [.d (i64 g.proj.dead),.lin 142 (g.proj.acts.map Activ.av),.lin 150 (g.proj.links.map Link.av),.lin 147 (g.proj.ress.map Resrc.av),.lin 3 (g.proj.stocks.map i64),.junk,.junk,.junk,.junk,.lin 128 (g.lines.map Lin.av)]
theorem impl_copiedLgP (g:Lg):Con 170 [.d g.av] (RLgP g):=by
 refine con Tryz.func170 rfl rfl Tryz.call170 rfl fun hwf=>?_
 have hl:=impl_linesAt_lin g.lines (upTo g.lines.length) (fun i hi=>upTo_mem hi)
 rw [pickL_all] at hl
 (repeat' ((conv=>whnf);first | refine gA ?_ | ((with_reducible first | refine gD (fun h=>?_) (fun h=>?_) | refine gE (fun h=>?_) (fun h=>?_)) <;> (try simp only [lm] at h) <;> try have hw:=wn h) | refine gC (impl_copiedProj_lin g.proj) ?_ | refine gC (impl_copied g.dom) ?_ | refine gC (cloneLit_lin g.decs) ?_ | refine gC (impl_allOf g.lines) ?_ | refine gC (hl) ?_ | intro _)) <;> (try (conv=>whnf))
 (repeat' ((conv=>whnf) <;> (first | exact trivial | exact VC.nod (by kernel_rfl) | refine VC.mk rfl ?_)))
theorem status_three (b:Dom) (l:List Lit):(status b l).1= -1∨(status b l).1=0∨(status b l).1=1:=by
 have:∀(l:List Lit) (n:Int) (x:Lit),(statusFrom b l n x).1= -1∨(statusFrom b l n x).1=0∨(statusFrom b l n x).1=1:=by
  intro l
  induction l with
  | nil=>intro n x;rw [statusFrom];split; · exact .inl rfl
         split <;> exact .inr (.inl rfl)
  | cons y l ih=>intro n x;rw [statusFrom];split; · exact .inr (.inr rfl)
                 split
                 ·exact ih _ _
                 ·exact ih _ _
 unfold status
 exact this l 0 zeroLit
theorem sameLit_eq {a b:Lit}:sameLit a b=true↔a=b:=by
 cases a;cases b
 simp [sameLit]
theorem check_few {p:Proj} {a:List Lin} {l:Lin} (h:checkLine p a l=0):a.length < 300:=by
 unfold checkLine at h
 split at h
 ·rename_i hn
  have:=hn.2.2
  omega
 ·cases h
theorem raw_lit {a b:Lit} {c:Bool} (h:sameLit a b=c):(decide (a.kind=b.kind)&&(decide (a.act=b.act)&&(decide (a.val=b.val)&&true)))=c:=by rw [Bool.and_true];exact h
theorem raw_zero {a:Lit} {c:Bool} (h:sameLit a zeroLit=c):(decide (a.kind=0)&&(decide (a.act=0)&&(decide (a.val=0)&&true)))=c:=raw_lit h
theorem RLogD_some (h:Lg):RLogD (some h)= .tup [.d h.av,.d (.bool true)]:=rfl
theorem saidLog_av (g:Lg) (s:Infer):(saidLog g s).av= .agg [i64 g.proj.dead,.sl (g.proj.acts.map Activ.av),.sl (g.proj.links.map Link.av),.sl (g.proj.ress.map Resrc.av),ints g.proj.stocks,ints (restrict g.dom s.lit).lo,ints (restrict g.dom s.lit).hi,.sl ((restrict g.dom s.lit).modes.map ints),lits g.decs,.sl (g.lines.map Lin.av++[(sayLine s).av])]:=by
 have h:(saidLog g s).av= .agg [i64 g.proj.dead,.sl (g.proj.acts.map Activ.av),.sl (g.proj.links.map Link.av),.sl (g.proj.ress.map Resrc.av),ints g.proj.stocks,ints (restrict g.dom s.lit).lo,ints (restrict g.dom s.lit).hi,.sl ((restrict g.dom s.lit).modes.map ints),lits g.decs,.sl ((g.lines++[sayLine s]).map Lin.av)]:=rfl
 rw [h,List.map_append];rfl
theorem impl_inferLog (g:Lg) (s:Infer) (hp:g.proj.fine):Con 168 [.d g.av,.d s.av] (RLogD (infLog g s)):=by
 refine con Tryz.func168 rfl rfl Tryz.call168 rfl fun hwf=>?_
 simp only [ARs.wf,AR.wf,AV.wf,AV.wfs,List.length_map,lim] at hwf
 have hL:=impl_CheckLine g.proj g.lines (sayLine s) hp
 have hS:=impl_ClauseStatus g.dom s.clause
 rw [RStat] at hS
 by_cases hc:checkLine g.proj g.lines (sayLine s)=0
 rotate_left
 ·rw [infLog_no (by simp [inferOk_eq,hc])]
  (repeat' ((conv=>whnf);first | with_reducible refine Br.yes (by simp [hc]) ?_ | refine gA ?_ | ((with_reducible first | refine gD (fun h=>?_) (fun h=>?_) | refine gE (fun h=>?_) (fun h=>?_)) <;> (try simp only [lm] at h) <;> try have hw:=wn h) | refine gP ?_ | refine gC (cloneLit_lin s.clause) ?_ | refine gC (hL) ?_ | intro _)) <;> (try (conv=>whnf))
  (repeat' ((conv=>whnf) <;> (first | exact trivial | exact VC.nod (by kernel_rfl) | refine VC.mk rfl ?_)))
 have hfew:=check_few hc
 rw [hc] at hL
 rcases status_three g.dom s.clause with h1 | h1 | h1
 ·rw [infLog_no (by simp [inferOk_eq,hc,says_eq,h1])]
  rw [h1] at hS
  (repeat' ((conv=>whnf);first | refine gA ?_ | ((with_reducible first | refine gD (fun h=>?_) (fun h=>?_) | refine gE (fun h=>?_) (fun h=>?_)) <;> (try simp only [lm] at h) <;> try have hw:=wn h) | refine gP ?_ | refine gC (cloneLit_lin s.clause) ?_ | refine gC (hL) ?_ | refine gC (hS) ?_ | intro _)) <;> (try (conv=>whnf))
  all_goals first
   | (exfalso;omega)
   | (exfalso;exact absurd trivial (by assumption))
   | (repeat' ((conv=>whnf) <;> (first | exact trivial | exact VC.nod (by kernel_rfl) | refine VC.mk rfl ?_)))
 ·rw [h1] at hS
  cases hz:sameLit (status g.dom s.clause).2 zeroLit with
  | true=>
   have hz':=raw_zero hz
   rw [infLog_no (by simp [inferOk_eq,hc,says_eq,h1,hz])]
   (repeat' ((conv=>whnf);first | with_reducible refine Br.yes hz' ?_ | refine gA ?_ | ((with_reducible first | refine gD (fun h=>?_) (fun h=>?_) | refine gE (fun h=>?_) (fun h=>?_)) <;> (try simp only [lm] at h) <;> try have hw:=wn h) | refine gP ?_ | refine gC (cloneLit_lin s.clause) ?_ | refine gC (hL) ?_ | refine gC (hS) ?_ | intro _)) <;> (try (conv=>whnf))
   all_goals first
    | (exfalso;omega)
    | (exfalso;exact absurd trivial (by assumption))
    | (repeat' ((conv=>whnf) <;> (first | exact trivial | exact VC.nod (by kernel_rfl) | refine VC.mk rfl ?_)))
  | false=>
  have hz':=raw_zero hz
  cases he:sameLit (status g.dom s.clause).2 s.lit with
  | true=>
   rw [infLog_yes (by simp [inferOk_eq,hc,says_eq,h1,he,hz]),RLogD_some,saidLog_av]
   have he':=raw_lit he
   (repeat' ((conv=>whnf);first | with_reducible refine Br.no hz' ?_ | with_reducible refine Br.yes he' ?_ | refine gA ?_ | ((with_reducible first | refine gD (fun h=>?_) (fun h=>?_) | refine gE (fun h=>?_) (fun h=>?_)) <;> (try simp only [lm] at h) <;> try have hw:=wn h) | refine gP ?_ | refine gC (cloneLit_lin s.clause) ?_ | refine gC (hL) ?_ | refine gC (hS) ?_ | refine gC (impl_copiedLgO g) ?_ | refine gC (impl_Restrict g.dom s.lit) ?_ | intro _)) <;> (try (conv=>whnf))
   all_goals first
    | (exfalso;omega)
    | (exfalso;exact absurd trivial (by assumption))
    | (repeat' ((conv=>whnf) <;> (first | exact trivial | exact VC.nod (by kernel_rfl) | refine VC.mk rfl ?_)))
  | false=>
   rw [infLog_no (by simp [inferOk_eq,hc,says_eq,h1,he])]
   have he':=raw_lit he
   (repeat' ((conv=>whnf);first | with_reducible refine Br.no hz' ?_ | with_reducible refine Br.no he' ?_ | refine gA ?_ | ((with_reducible first | refine gD (fun h=>?_) (fun h=>?_) | refine gE (fun h=>?_) (fun h=>?_)) <;> (try simp only [lm] at h) <;> try have hw:=wn h) | refine gP ?_ | refine gC (cloneLit_lin s.clause) ?_ | refine gC (hL) ?_ | refine gC (hS) ?_ | intro _)) <;> (try (conv=>whnf))
   all_goals first
    | (exfalso;omega)
    | (exfalso;exact absurd trivial (by assumption))
    | (repeat' ((conv=>whnf) <;> (first | exact trivial | exact VC.nod (by kernel_rfl) | refine VC.mk rfl ?_)))
 ·rw [h1] at hS
  by_cases he:litValue g.dom s.lit=1
  ·rw [infLog_yes (by simp [inferOk_eq,hc,says_eq,h1,he]),RLogD_some,saidLog_av]
   (repeat' ((conv=>whnf);first | refine gA ?_ | ((with_reducible first | refine gD (fun h=>?_) (fun h=>?_) | refine gE (fun h=>?_) (fun h=>?_)) <;> (try simp only [lm] at h) <;> try have hw:=wn h) | refine gP ?_ | refine gC (cloneLit_lin s.clause) ?_ | refine gC (hL) ?_ | refine gC (hS) ?_ | refine gC (impl_LiteralValue g.dom s.lit) ?_ | refine gC (impl_copiedLgO g) ?_ | refine gC (impl_Restrict g.dom s.lit) ?_ | intro _)) <;> (try (conv=>whnf))
   all_goals first
    | (exfalso;omega)
    | (exfalso;exact absurd trivial (by assumption))
    | (repeat' ((conv=>whnf) <;> (first | exact trivial | exact VC.nod (by kernel_rfl) | refine VC.mk rfl ?_)))
  ·rw [infLog_no (by simp [inferOk_eq,hc,says_eq,h1,he])]
   (repeat' ((conv=>whnf);first | refine gA ?_ | ((with_reducible first | refine gD (fun h=>?_) (fun h=>?_) | refine gE (fun h=>?_) (fun h=>?_)) <;> (try simp only [lm] at h) <;> try have hw:=wn h) | refine gP ?_ | refine gC (cloneLit_lin s.clause) ?_ | refine gC (hL) ?_ | refine gC (hS) ?_ | refine gC (impl_LiteralValue g.dom s.lit) ?_ | intro _)) <;> (try (conv=>whnf))
   all_goals first
    | (exfalso;omega)
    | (exfalso;exact absurd trivial (by assumption))
    | (repeat' ((conv=>whnf) <;> (first | exact trivial | exact VC.nod (by kernel_rfl) | refine VC.mk rfl ?_)))
theorem impl_LogNew (p:Proj) (hp:p.fine):Con 95 [.d p.av] (RLogD (logNew p)):=by
 refine con Tryz.func95 rfl rfl Tryz.call95 rfl fun hwf=>?_
 cases ho:projOk p with
 | false=>
  rw [logNew,if_neg (by simp [ho])]
  (repeat' ((conv=>whnf);first | refine gA ?_ | ((with_reducible first | refine gD (fun h=>?_) (fun h=>?_) | refine gE (fun h=>?_) (fun h=>?_)) <;> (try simp only [lm] at h) <;> try have hw:=wn h) | refine gC (impl_ProjectOk p hp) ?_ | intro _)) <;> (try (conv=>whnf))
  (repeat' ((conv=>whnf) <;> (first | exact trivial | exact VC.nod (by kernel_rfl) | refine VC.mk rfl ?_)))
 | true=>
  rw [logNew,if_pos ho]
  (repeat' ((conv=>whnf);first | refine gA ?_ | ((with_reducible first | refine gD (fun h=>?_) (fun h=>?_) | refine gE (fun h=>?_) (fun h=>?_)) <;> (try simp only [lm] at h) <;> try have hw:=wn h) | refine gC (impl_ProjectOk p hp) ?_ | refine gC (impl_copiedProj p) ?_ | refine gC (impl_InitialDomain p hp) ?_ | intro _)) <;> (try (conv=>whnf))
  (repeat' ((conv=>whnf) <;> (first | exact trivial | exact VC.nod (by kernel_rfl) | refine VC.mk rfl ?_)))
def stepLog (g:Lg):Option Lg:=match firstInf g.proj g.dom with | none=>none | some s=>infLog g s
theorem stepLog_eq (g:Lg):stepLog g=(match firstInf g.proj g.dom with | none=>none | some s=>infLog g s):=rfl
def runLog:Nat→Nat→Lg→Lg×Nat
 | 0,n,g=>(g,n)
 | f+1,n,g=>match stepLog g with | none=>(g,n) | some h=>runLog f (n+1) h
theorem runLog_zero (n:Nat) (g:Lg):runLog 0 n g=(g,n):=rfl
theorem runLog_succ (f n:Nat) (g:Lg):runLog (f+1) n g=(match stepLog g with | none=>(g,n) | some h=>runLog f (n+1) h):=rfl
theorem infLog_proj {g h:Lg} {s:Infer} (e:infLog g s=some h):h.proj=g.proj:=by
 unfold infLog at e
 split at e
 ·cases e;rfl
 ·cases e
def RRun (r:Lg×Nat):RV:=.tup [.d r.1.av,.d (i64 r.2)]
theorem impl_propagate (g:Lg) (most:Nat) (hp:g.proj.fine) (hm:most≤60):Con 96 [.d g.av,.d (i64 most)] (RRun (runLog most 0 g)):=by
 refine con Tryz.func96 rfl rfl Tryz.call96 rfl fun hwf=>?_
 generalize hR:runLog most 0 g=R
 (repeat' ((conv=>whnf);first | refine gA ?_ | ((with_reducible first | refine gD (fun h=>?_) (fun h=>?_) | refine gE (fun h=>?_) (fun h=>?_)) <;> (try simp only [lm] at h) <;> try have hw:=wn h) | refine gV ?_ | intro _)) <;> (try (conv=>whnf))
 refine loopF [1,4,6] [4] [] ?_
 (conv=>whnf)
 refine LoopC.go ((Nat)×(Lg)) (fun⟨n,h⟩=>(n≤most)∧(h.proj=g.proj)∧(runLog (most - n) n h=R)) (fun⟨n,h⟩=>[(7,.data (i64 n))]) (fun⟨n,h⟩=>[(6,(AV.cells h.av).map SV.data)]) (fun _=>[]) (fun⟨n,h⟩=>most - n) ⟨0,g⟩ ?_ ?_
 ·exact⟨Nat.zero_le _,rfl,hR⟩
 rintro⟨n,h⟩ ⟨hn,hj,he⟩
 have hph:h.proj.fine:=hj ▸ hp
 have hF:=impl_FirstInference h.proj h.dom hph
 by_cases hlt:n < most
 rotate_left
 ·rw [show most - n=0 by omega,runLog_zero] at he
  subst he
  (repeat' ((conv=>whnf);first | (exfalso;omega) | refine gA ?_ | ((with_reducible first | refine gD (fun h=>?_) (fun h=>?_) | refine gE (fun h=>?_) (fun h=>?_)) <;> (try simp only [lm] at h) <;> try have hw:=wn h) | refine gV ?_ | intro _)) <;> (try (conv=>whnf))
  (repeat' ((conv=>whnf) <;> (first | exact trivial | exact VC.nod (by kernel_rfl) | refine VC.mk rfl ?_)))
 rw [show most - n=(most - (n+1))+1 by omega,runLog_succ] at he
 cases h1:firstInf h.proj h.dom with
 | none=>
  rw [stepLog_eq,h1] at he
  rw [RInf,h1] at hF
  dsimp only [Option.getD,Option.isSome] at hF
  have he:(h,n)=R:=he
  subst he
  (repeat' ((conv=>whnf);first | (exfalso;omega) | refine gA ?_ | ((with_reducible first | refine gD (fun h=>?_) (fun h=>?_) | refine gE (fun h=>?_) (fun h=>?_)) <;> (try simp only [lm] at h) <;> try have hw:=wn h) | refine gV ?_ | refine gC (hF) ?_ | intro _)) <;> (try (conv=>whnf))
  all_goals (repeat' ((conv=>whnf) <;> (first | exact trivial | exact VC.nod (by kernel_rfl) | refine VC.mk rfl ?_)))
 | some s=>
  rw [RInf,h1] at hF
  dsimp only [Option.getD,Option.isSome] at hF
  have hI:=impl_inferLog h s hph
  have e1:stepLog h=infLog h s:=by rw [stepLog_eq,h1]
  rw [e1] at he
  cases h2:infLog h s with
  | none=>
   rw [h2] at he
   rw [RLogD,h2] at hI
   dsimp only [Option.getD,Option.isSome] at hI
   have he:(h,n)=R:=he
   subst he
   (repeat' ((conv=>whnf);first | (exfalso;omega) | refine gA ?_ | ((with_reducible first | refine gD (fun h=>?_) (fun h=>?_) | refine gE (fun h=>?_) (fun h=>?_)) <;> (try simp only [lm] at h) <;> try have hw:=wn h) | refine gV ?_ | refine gC (hF) ?_ | refine gC (hI) ?_ | intro _)) <;> (try (conv=>whnf))
   all_goals (repeat' ((conv=>whnf) <;> (first | exact trivial | exact VC.nod (by kernel_rfl) | refine VC.mk rfl ?_)))
  | some h'=>
   rw [h2] at he
   rw [RLogD,h2] at hI
   dsimp only [Option.getD,Option.isSome] at hI
   have he:runLog (most - (n+1)) (n+1) h'=R:=he
   (repeat' ((conv=>whnf);first | (exfalso;omega) | refine gA ?_ | ((with_reducible first | refine gD (fun h=>?_) (fun h=>?_) | refine gE (fun h=>?_) (fun h=>?_)) <;> (try simp only [lm] at h) <;> try have hw:=wn h) | refine gV ?_ | refine gC (hF) ?_ | refine gC (hI) ?_ | intro _)) <;> (try (conv=>whnf))
   all_goals
    refine nx ⟨n+1,h'⟩ ?_
    exact⟨by omega,(infLog_proj h2).trans hj,he⟩
end Go.Proofs.YtkiohdpapinecaaGreat.Abs
set_option linter.unusedVariables false
set_option linter.unusedSimpArgs false
set_option maxRecDepth 20000
set_option maxHeartbeats 40000000
namespace Go.Proofs.YtkiohdpapinecaaGreat.Abs
open Go.Proofs Go.RowKit
attribute [local irreducible] firstInf findRef checkLine status litValue
theorem impl_ExplainRefutation_lin (p:Proj) (b:Dom) (r:Rul) (hp:p.fine):Con 172 [.d p.av,.d b.av,.d r.av] (.lin 184 ((explain p b r).map Lit.av)):=by
 refine con Tryz.func172 rfl rfl Tryz.call172 rfl fun hwf=>?_
 (repeat' ((conv=>whnf);first | refine gA ?_ | ((with_reducible first | refine gD (fun h=>?_) (fun h=>?_) | refine gE (fun h=>?_) (fun h=>?_)) <;> (try simp only [lm] at h) <;> try have hw:=wn h) | refine gC (impl_Refutes p b r hp) ?_ | refine gC (impl_negations p b hp) ?_ | refine gC (impl_NewClause (negs p b)) ?_ | refine gC (impl_shortened_lin p r (newClause (negs p b)) 270 [] _ hp (fun x=>impl_ExplainRefutation1 x)) ?_ | intro _)) <;> (try (conv=>whnf))
 ·rw [explain,if_pos (by assumption)]
  (repeat' ((conv=>whnf) <;> (first | exact trivial | exact VC.nod (by kernel_rfl) | refine VC.mk rfl ?_)))
 ·rw [explain,if_neg (by simp [*])]
  (repeat' ((conv=>whnf) <;> (first | exact trivial | exact VC.nod (by kernel_rfl) | refine VC.mk rfl ?_)))
def ruleLine (g:Lg) (r:Rul):Lin:=⟨1,r,explain g.proj g.dom r⟩
def unitLine (g:Lg):Lin:=⟨2,noRule,newClause (g.decs.map negate)⟩
def stopLog (g:Lg):Option Lg:=match findRef g.proj g.dom with
 | none=>none
 | some r=>if checkLine g.proj g.lines (ruleLine g r)=0∧checkLine g.proj (g.lines++[ruleLine g r]) (unitLine g)=0 then some ⟨g.proj,g.dom,g.decs,g.lines++[ruleLine g r]++[unitLine g]⟩ else none
theorem stopLog_eq (g:Lg):stopLog g=(match findRef g.proj g.dom with
 | none=>none
 | some r=>if checkLine g.proj g.lines (ruleLine g r)=0∧checkLine g.proj (g.lines++[ruleLine g r]) (unitLine g)=0 then some ⟨g.proj,g.dom,g.decs,g.lines++[ruleLine g r]++[unitLine g]⟩ else none):=rfl
def RStopN (o:Option Lg):RV:=.tup [.agg [.junk,.junk,.junk,.junk,.junk,.junk,.junk,.junk,.junk,.lin 128 ((o.getD noLog).lines.map Lin.av)],.d (.bool o.isSome)]
def stopCells (a b:Lin) (k:Nat):List SV:=
 match k with
 | 0=>[.data (i64 a.kind),.data (i64 a.rule.kind),.data (i64 a.rule.a),.data (i64 a.rule.b),.data (i64 a.rule.c),.own 46000 0,.data (i64 b.kind),.data (i64 0),.data (i64 0),.data (i64 0),.data (i64 0),.own 49000 0]
 | 1=>[.data (i64 a.kind),.data (i64 a.rule.kind),.data (i64 a.rule.a),.data (i64 a.rule.b),.data (i64 a.rule.c),.data (lits a.clause),.data (i64 b.kind),.data (i64 0),.data (i64 0),.data (i64 0),.data (i64 0),.own 49000 0]
 | _=>[.data (i64 a.kind),.data (i64 a.rule.kind),.data (i64 a.rule.a),.data (i64 a.rule.b),.data (i64 a.rule.c),.data (lits a.clause),.data (i64 b.kind),.data (i64 0),.data (i64 0),.data (i64 0),.data (i64 0),.data (lits b.clause)]
def stopLines (g:Lg) (a b:Lin) (k:Nat):List Lin:=
 match k with
 | 0=>g.lines
 | 1=>g.lines++[a]
 | _=>g.lines++[a]++[b]
def stopToks (a b:Lin) (k:Nat):List (Nat×Nat×List AV×Nat):=
 match k with
 | 0=>[(46000,184,a.clause.map Lit.av,1),(49000,184,b.clause.map Lit.av,1)]
 | 1=>[(49000,184,b.clause.map Lit.av,1)]
 | _=>[]
theorem impl_conflict (g:Lg) (hp:g.proj.fine):Con 97 [.d g.av] (RStopN (stopLog g)):=by
 refine con Tryz.func97 rfl rfl Tryz.call97 rfl fun hwf=>?_
 simp only [ARs.wf,AR.wf,AV.wf,AV.wfs,List.length_map,lim] at hwf
 have hR:=impl_FindRefutation g.proj g.dom hp
 cases hf:findRef g.proj g.dom with
 | none=>
  rw [RRul,hf] at hR
  dsimp only [Option.getD,Option.isSome] at hR
  rw [stopLog_eq,hf]
  (repeat' ((conv=>whnf);first | refine gA ?_ | ((with_reducible first | refine gD (fun h=>?_) (fun h=>?_) | refine gE (fun h=>?_) (fun h=>?_)) <;> (try simp only [lm] at h) <;> try have hw:=wn h) | with_reducible refine gI (fun x hx=>?_) | with_reducible refine gJ (fun j x hj hx=>?_) | refine gP ?_ | refine gV ?_ | refine gC (hR) ?_ | intro _)) <;> (try (conv=>whnf))
  (repeat' ((conv=>whnf) <;> (first | exact trivial | exact VC.nod (by kernel_rfl) | refine VC.mk rfl ?_)))
 | some r=>
 rw [RRul,hf] at hR
 dsimp only [Option.getD,Option.isSome] at hR
 have hE:=impl_ExplainRefutation_lin g.proj g.dom r hp
 have hN:=(impl_NewClause (g.decs.map negate)).own_lin rfl
 have hC1:=impl_CheckLine g.proj g.lines (ruleLine g r) hp
 have hC2:=impl_CheckLine g.proj (g.lines++[ruleLine g r]) (unitLine g) hp
 generalize hRR:stopLog g=R
 have hst:R=if checkLine g.proj g.lines (ruleLine g r)=0∧checkLine g.proj (g.lines++[ruleLine g r]) (unitLine g)=0 then some ⟨g.proj,g.dom,g.decs,g.lines++[ruleLine g r]++[unitLine g]⟩ else none:=by rw [← hRR,stopLog_eq,hf]
 (repeat' ((conv=>whnf);first | refine gA ?_ | ((with_reducible first | refine gD (fun h=>?_) (fun h=>?_) | refine gE (fun h=>?_) (fun h=>?_)) <;> (try simp only [lm] at h) <;> try have hw:=wn h) | with_reducible refine gI (fun x hx=>?_) | with_reducible refine gJ (fun j x hj hx=>?_) | refine gP ?_ | refine gV ?_ | refine gC (hR) ?_ | refine gC (impl_copiedLgP g) ?_ | intro _)) <;> (try (conv=>whnf))
 refine loopF [1,2,4,6,27,28] [1,4] [25,250010] ?_
 (conv=>whnf)
 refine LoopC.go ((Nat)×(List Lit)) (fun⟨k,o⟩=>(k≤g.decs.length)∧(o=(g.decs.take k).map negate)) (fun⟨k,o⟩=>[(29,.data (i64 k)),(7,.own 25 0)]) (fun⟨k,o⟩=>[(2,[.undef,.undef,.undef,.undef,.undef,.undef,.undef,.undef,.undef,.undef]),(6,[.data (i64 g.proj.dead),.data (.sl (g.proj.acts.map Activ.av)),.data (.sl (g.proj.links.map Link.av)),.data (.sl (g.proj.ress.map Resrc.av)),.data (ints g.proj.stocks),.undef,.undef,.undef,.undef,.own 250010 0])]) (fun⟨k,o⟩=>[(25,184,o.map Lit.av,1),(250010,128,g.lines.map Lin.av,1)]) (fun⟨k,o⟩=>g.decs.length - k) ⟨0,[]⟩ ?_ ?_
 ·exact⟨Nat.zero_le _,rfl⟩
 rintro⟨k,o⟩ ⟨hk,ho⟩
 by_cases hlt:k < g.decs.length
 ·obtain⟨x,hx⟩:∃x,g.decs[k]? =some x:=⟨g.decs[k]'hlt,by simp⟩
  have hol:o.length≤k:=by rw [ho];simp;omega
  (repeat' ((conv=>whnf);first | with_reducible refine Idx.got hx rfl ?_ | (exfalso;omega) | refine gA ?_ | ((with_reducible first | refine gD (fun h=>?_) (fun h=>?_) | refine gE (fun h=>?_) (fun h=>?_)) <;> (try simp only [lm] at h) <;> try have hw:=wn h) | with_reducible refine gI (fun x hx=>?_) | with_reducible refine gJ (fun j x hj hx=>?_) | refine gP ?_ | refine gV ?_ | refine gC (impl_Negate x) ?_ | intro _)) <;> (try (conv=>whnf))
  refine nw ⟨k+1,o++[negate x]⟩ ?_ ?_
  ·(repeat' ((conv=>whnf) <;> (first | exact trivial | exact rfl | with_reducible refine And.intro ?_ ?_))) <;> ((conv=>whnf) <;> (simp))
  exact⟨by omega,by rw [ho, ← map_snoc negate hx]⟩
 obtain rfl:o=g.decs.map negate:=by rw [ho,List.take_of_length_le (by omega)]
 (repeat' ((conv=>whnf);first | (exfalso;omega) | refine gA ?_ | ((with_reducible first | refine gD (fun h=>?_) (fun h=>?_) | refine gE (fun h=>?_) (fun h=>?_)) <;> (try simp only [lm] at h) <;> try have hw:=wn h) | with_reducible refine gI (fun x hx=>?_) | with_reducible refine gJ (fun j x hj hx=>?_) | refine gP ?_ | refine gV ?_ | refine gC (hE) ?_ | refine gC (hN) ?_ | intro _)) <;> (try (conv=>whnf))
 refine loopF [2,6,50,51] [] [250010,46000,49000] ?_
 (conv=>whnf)
 refine LoopC.go Nat (fun k=>k≤2∧(0 < k→checkLine g.proj g.lines (ruleLine g r)=0)∧(1 < k→checkLine g.proj (g.lines++[ruleLine g r]) (unitLine g)=0)) (fun k=>[(52,.data (i64 k))]) (fun k=>[(50,stopCells (ruleLine g r) (unitLine g) k),(2,[.undef,.undef,.undef,.undef,.undef,.undef,.undef,.undef,.undef,.undef]),(6,[.data (i64 g.proj.dead),.data (.sl (g.proj.acts.map Activ.av)),.data (.sl (g.proj.links.map Link.av)),.data (.sl (g.proj.ress.map Resrc.av)),.data (ints g.proj.stocks),.undef,.undef,.undef,.undef,.own 250010 0])]) (fun k=>(250010,128,(stopLines g (ruleLine g r) (unitLine g) k).map Lin.av,1)::stopToks (ruleLine g r) (unitLine g) k) (fun k=>2 - k) 0 ?_ ?_
 ·exact⟨by omega,fun h=>by omega,fun h=>by omega⟩
 rintro k ⟨hk,h1,h2⟩
 rcases k with _ | _ | k
 ·by_cases hc:checkLine g.proj g.lines (ruleLine g r)=0
  ·rw [hc] at hC1
   have hl0:(stopLines g (ruleLine g r) (unitLine g) 0).length < 300:=check_few hc
   (repeat' ((conv=>whnf);first | (exfalso;omega) | refine gA ?_ | ((with_reducible first | refine gD (fun h=>?_) (fun h=>?_) | refine gE (fun h=>?_) (fun h=>?_)) <;> (try simp only [lm] at h) <;> try have hw:=wn h) | with_reducible refine gI (fun x hx=>?_) | with_reducible refine gJ (fun j x hj hx=>?_) | refine gP ?_ | refine gV ?_ | refine gC (hC1) ?_ | intro _)) <;> (try (conv=>whnf))
   all_goals first
    | (exfalso;exact absurd trivial (by assumption))
    | (refine nw ((1)) ?_ ?_
       ·(repeat' ((conv=>whnf) <;> (first | exact trivial | exact rfl | with_reducible refine And.intro ?_ ?_))) <;> ((conv=>whnf) <;> (simp [stopLines]))
       exact⟨by omega,fun _=>hc,fun h=>by omega⟩)
  ·obtain rfl:R=none:=by rw [hst,if_neg (fun h=>hc h.1)]
   (repeat' ((conv=>whnf);first | (exfalso;omega) | refine gA ?_ | ((with_reducible first | refine gD (fun h=>?_) (fun h=>?_) | refine gE (fun h=>?_) (fun h=>?_)) <;> (try simp only [lm] at h) <;> try have hw:=wn h) | with_reducible refine gI (fun x hx=>?_) | with_reducible refine gJ (fun j x hj hx=>?_) | refine gP ?_ | refine gV ?_ | refine gC (hC1) ?_ | intro _)) <;> (try (conv=>whnf))
   all_goals first
    | (exfalso;omega)
    | (exfalso;exact absurd trivial (by assumption))
    | (repeat' ((conv=>whnf) <;> (first | exact trivial | exact VC.nod (by kernel_rfl) | refine VC.mk rfl ?_)))
 ·by_cases hc2:checkLine g.proj (g.lines++[ruleLine g r]) (unitLine g)=0
  ·rw [hc2] at hC2
   have hl1:(stopLines g (ruleLine g r) (unitLine g) (0+1)).length < 300:=check_few hc2
   (repeat' ((conv=>whnf);first | (exfalso;omega) | refine gA ?_ | ((with_reducible first | refine gD (fun h=>?_) (fun h=>?_) | refine gE (fun h=>?_) (fun h=>?_)) <;> (try simp only [lm] at h) <;> try have hw:=wn h) | with_reducible refine gI (fun x hx=>?_) | with_reducible refine gJ (fun j x hj hx=>?_) | refine gP ?_ | refine gV ?_ | refine gC (hC2) ?_ | intro _)) <;> (try (conv=>whnf))
   all_goals first
    | (exfalso;exact absurd trivial (by assumption))
    | (refine nw ((2)) ?_ ?_
       ·(repeat' ((conv=>whnf) <;> (first | exact trivial | exact rfl | with_reducible refine And.intro ?_ ?_))) <;> ((conv=>whnf) <;> (simp [stopLines,unitLine,noRule]))
       exact⟨by omega,fun _=>h1 (by omega),fun _=>hc2⟩)
  ·obtain rfl:R=none:=by rw [hst,if_neg (fun h=>hc2 h.2)]
   (repeat' ((conv=>whnf);first | (exfalso;omega) | refine gA ?_ | ((with_reducible first | refine gD (fun h=>?_) (fun h=>?_) | refine gE (fun h=>?_) (fun h=>?_)) <;> (try simp only [lm] at h) <;> try have hw:=wn h) | with_reducible refine gI (fun x hx=>?_) | with_reducible refine gJ (fun j x hj hx=>?_) | refine gP ?_ | refine gV ?_ | refine gC (hC2) ?_ | intro _)) <;> (try (conv=>whnf))
   all_goals first
    | (exfalso;omega)
    | (exfalso;exact absurd trivial (by assumption))
    | (repeat' ((conv=>whnf) <;> (first | exact trivial | exact VC.nod (by kernel_rfl) | refine VC.mk rfl ?_)))
 ·obtain rfl:k=0:=by omega
  obtain rfl:R=some ⟨g.proj,g.dom,g.decs,g.lines++[ruleLine g r]++[unitLine g]⟩:=by rw [hst,if_pos ⟨h1 (by omega),h2 (by omega)⟩]
  (repeat' ((conv=>whnf);first | (exfalso;omega) | refine gA ?_ | ((with_reducible first | refine gD (fun h=>?_) (fun h=>?_) | refine gE (fun h=>?_) (fun h=>?_)) <;> (try simp only [lm] at h) <;> try have hw:=wn h) | with_reducible refine gI (fun x hx=>?_) | with_reducible refine gJ (fun j x hj hx=>?_) | refine gP ?_ | refine gV ?_ | intro _)) <;> (try (conv=>whnf))
  (repeat' ((conv=>whnf) <;> (first | exact trivial | exact VC.nod (by kernel_rfl) | refine VC.mk rfl ?_)))
end Go.Proofs.YtkiohdpapinecaaGreat.Abs
set_option linter.unusedVariables false
set_option linter.unusedSimpArgs false
set_option maxRecDepth 20000
set_option maxHeartbeats 40000000
namespace Go.Proofs.YtkiohdpapinecaaGreat.Abs
open Go.Proofs Go.RowKit
attribute [local irreducible] firstInf findRef checkLine status litValue
def lineLog (g:Lg) (l:Lin):Option Lg:=if checkLine g.proj g.lines l=0 then some ⟨g.proj,g.dom,g.decs,g.lines++[l]⟩ else none
def RLgO (g:Lg):RV:=.agg [.d (i64 g.proj.dead),.d (.sl (g.proj.acts.map Activ.av)),.d (.sl (g.proj.links.map Link.av)),.d (.sl (g.proj.ress.map Resrc.av)),.d (ints g.proj.stocks),.d (ints g.dom.lo),.d (ints g.dom.hi),.d (.sl (g.dom.modes.map ints)),.d (lits g.decs),.own 128 (g.lines.map Lin.av)]
theorem spec_l20Lines (ls:List Lin):Con 338 [.d (.sl (ls.map Lin.av))] (.own 128 (ls.map Lin.av)):=by
 refine con Tryz.func338 rfl rfl Tryz.call338 rfl fun hwf=>?_
 simp only [ARs.wf,AR.wf,AV.wf,AV.wfs,List.length_map,lim] at hwf
 (repeat' ((conv=>whnf);first | refine gA ?_ | ((with_reducible first | refine gD (fun h=>?_) (fun h=>?_) | refine gE (fun h=>?_) (fun h=>?_)) <;> (try simp only [lm] at h) <;> try have hw:=wn h) | with_reducible refine gI (fun x hx=>?_) | with_reducible refine gJ (fun j x hj hx=>?_) | refine gP ?_ | refine gV ?_ | intro _)) <;> (try (conv=>whnf))
 refine loopF [7,8] [] [6] ?_
 (conv=>whnf)
 refine LoopC.go ((Nat)) (fun k=>(k≤ls.length)) (fun k=>[(9,.data (i64 k)),(3,.own 6 0)]) (fun _=>[]) (fun k=>[(6,128,(ls.take k).map Lin.av,0)]) (fun k=>ls.length - k) (0) ?_ ?_
 ·exact Nat.zero_le _
 rintro k hk
 by_cases hlt:k < ls.length
 ·obtain⟨x,hx⟩:∃x,ls[k]? =some x:=⟨ls[k]'hlt,by simp⟩
  (repeat' ((conv=>whnf);first | with_reducible refine Idx.got hx rfl ?_ | (exfalso;omega) | refine gA ?_ | ((with_reducible first | refine gD (fun h=>?_) (fun h=>?_) | refine gE (fun h=>?_) (fun h=>?_)) <;> (try simp only [lm] at h) <;> try have hw:=wn h) | with_reducible refine gI (fun x hx=>?_) | with_reducible refine gJ (fun j x hj hx=>?_) | refine gP ?_ | refine gV ?_ | refine gC (spec_l20Copy x) ?_ | intro _)) <;> (try (conv=>whnf))
  refine nw (k+1) ?_ ?_
  ·(repeat' ((conv=>whnf) <;> (first | exact trivial | exact rfl | with_reducible refine And.intro ?_ ?_))) <;> ((conv=>whnf) <;> (exact map_take_succ Lin.av hx))
  exact (by omega:k+1≤ls.length)
 ·(repeat' ((conv=>whnf);first | (exfalso;omega) | refine gA ?_ | ((with_reducible first | refine gD (fun h=>?_) (fun h=>?_) | refine gE (fun h=>?_) (fun h=>?_)) <;> (try simp only [lm] at h) <;> try have hw:=wn h) | with_reducible refine gI (fun x hx=>?_) | with_reducible refine gJ (fun j x hj hx=>?_) | refine gP ?_ | refine gV ?_ | intro _)) <;> (try (conv=>whnf))
  refine⟨?_,rfl,trivial⟩
  dsimp only
  rw [List.take_of_length_le (by omega)]
theorem spec_l22Copy (g:Lg):Con 247 [.d g.av] (RLgO g):=by
 refine con Tryz.func247 rfl rfl Tryz.call247 rfl fun hwf=>?_
 simp only [ARs.wf,AR.wf,AV.wf,AV.wfs,List.length_map,lim] at hwf
 (repeat' ((conv=>whnf);first | refine gA ?_ | ((with_reducible first | refine gD (fun h=>?_) (fun h=>?_) | refine gE (fun h=>?_) (fun h=>?_)) <;> (try simp only [lm] at h) <;> try have hw:=wn h) | refine gP ?_ | refine gC (spec_l05Copy g.proj) ?_ | refine gC (spec_l12Copy g.dom) ?_ | refine gC (spec_l20Lines g.lines) ?_ | intro _)) <;> (try (conv=>whnf))
 (repeat' ((conv=>whnf) <;> (first | exact trivial | exact VC.nod (by kernel_rfl) | refine VC.mk (by first | with_reducible rfl | (simp;done) | rfl) ?_)))
theorem spec_l22Line (g:Lg) (l:Lin) (hp:g.proj.fine):Con 163 [.d g.av,.d l.av] (RLogD (lineLog g l)):=by
 refine con Tryz.func163 rfl rfl Tryz.call163 rfl fun hwf=>?_
 simp only [ARs.wf,AR.wf,AV.wf,AV.wfs,List.length_map,lim] at hwf
 by_cases hk:checkLine g.proj g.lines l=0
 ·have hfew:=check_few hk
  rw [lineLog,if_pos hk]
  (repeat' ((conv=>whnf);first | with_reducible refine Br.no (by simp [hk]) ?_ | refine gA ?_ | ((with_reducible first | refine gD (fun h=>?_) (fun h=>?_) | refine gE (fun h=>?_) (fun h=>?_)) <;> (try simp only [lm] at h) <;> try have hw:=wn h) | refine gP ?_ | refine gC (spec_CheckLine g.proj g.lines l hp) ?_ | refine gC (spec_l22Copy g) ?_ | refine gC (spec_l20Copy l) ?_ | intro _)) <;> (try (conv=>whnf))
  (repeat' ((conv=>whnf) <;> (first | exact trivial | exact VC.nod (by kernel_rfl) | refine VC.mk (by first | with_reducible rfl | (simp;done) | rfl) ?_)))
 ·rw [lineLog,if_neg hk]
  (repeat' ((conv=>whnf);first | with_reducible refine Br.yes (by simp [hk]) ?_ | refine gA ?_ | ((with_reducible first | refine gD (fun h=>?_) (fun h=>?_) | refine gE (fun h=>?_) (fun h=>?_)) <;> (try simp only [lm] at h) <;> try have hw:=wn h) | refine gP ?_ | refine gC (spec_CheckLine g.proj g.lines l hp) ?_ | intro _)) <;> (try (conv=>whnf))
  (repeat' ((conv=>whnf) <;> (first | exact trivial | exact VC.nod (by kernel_rfl) | refine VC.mk rfl ?_)))
theorem spec_l22Say (g:Lg) (s:Infer) (hp:g.proj.fine) (hs:sameLit s.lit zeroLit=false) (hd:∀(n:Nat) (m:List Int),g.dom.modes[n]? =some m→setOk m=true):Con 161 [.d g.av,.d s.av] (RLogD (infLog g s)):=by
 refine con Tryz.func161 rfl rfl Tryz.call161 rfl fun hwf=>?_
 simp only [ARs.wf,AR.wf,AV.wf,AV.wfs,List.length_map,lim] at hwf
 have hL:=spec_l22Line g (sayLine s) hp
 have hS:=spec_ClauseStatus g.dom s.clause
 have hX:=spec_Restrict g.dom s.lit (fun m h=>hd _ m h)
 have hz:∀x:Lit,sameLit x s.lit=true→sameLit x zeroLit=false:=fun x h=>by rw [sameLit_eq.1 h];exact hs
 by_cases hc:checkLine g.proj g.lines (sayLine s)=0
 rotate_left
 ·rw [RLogD,lineLog,if_neg hc] at hL
  dsimp only [Option.getD,Option.isSome] at hL
  rw [infLog_no (by simp [inferOk_eq,hc])]
  rw [RStat] at hS
  (repeat' ((conv=>whnf);first | refine gA ?_ | ((with_reducible first | refine gD (fun h=>?_) (fun h=>?_) | refine gE (fun h=>?_) (fun h=>?_)) <;> (try simp only [lm] at h) <;> try have hw:=wn h) | refine gC (hS) ?_ | refine gC (hL) ?_ | refine gC (spec_LiteralValue g.dom s.lit) ?_ | refine gC (hX) ?_ | intro _)) <;> (try (conv=>whnf))
  (repeat' ((conv=>whnf) <;> (first | exact trivial | exact VC.nod (by kernel_rfl) | refine VC.mk rfl ?_)))
 rw [RLogD,lineLog,if_pos hc] at hL
 dsimp only [Option.getD,Option.isSome] at hL
 rw [RStat] at hS
 rcases status_three g.dom s.clause with h1 | h1 | h1
 ·rw [infLog_no (by simp [inferOk_eq,hc,says_eq,h1])]
  rw [h1] at hS
  (repeat' ((conv=>whnf);first | refine gA ?_ | ((with_reducible first | refine gD (fun h=>?_) (fun h=>?_) | refine gE (fun h=>?_) (fun h=>?_)) <;> (try simp only [lm] at h) <;> try have hw:=wn h) | refine gC (hS) ?_ | refine gC (hL) ?_ | refine gC (spec_LiteralValue g.dom s.lit) ?_ | refine gC (hX) ?_ | intro _)) <;> (try (conv=>whnf))
  all_goals first
   | (exfalso;omega)
   | (exfalso;exact absurd trivial (by assumption))
   | (repeat' ((conv=>whnf) <;> (first | exact trivial | exact VC.nod (by kernel_rfl) | refine VC.mk rfl ?_)))
 ·rw [h1] at hS
  cases he:sameLit (status g.dom s.clause).2 s.lit with
  | true=>
   rw [infLog_yes (by simp [inferOk_eq,hc,says_eq,h1,he,hz _ he])]
   have he':=raw_lit he
   (repeat' ((conv=>whnf);first | with_reducible refine Br.yes he' ?_ | refine gA ?_ | ((with_reducible first | refine gD (fun h=>?_) (fun h=>?_) | refine gE (fun h=>?_) (fun h=>?_)) <;> (try simp only [lm] at h) <;> try have hw:=wn h) | refine gC (hS) ?_ | refine gC (hL) ?_ | refine gC (spec_LiteralValue g.dom s.lit) ?_ | refine gC (hX) ?_ | intro _)) <;> (try (conv=>whnf))
   all_goals first
    | (exfalso;omega)
    | (exfalso;exact absurd trivial (by assumption))
    | (repeat' ((conv=>whnf) <;> (first | exact trivial | exact VC.nod (by kernel_rfl) | refine VC.mk (by first | with_reducible rfl | (simp [saidLog];done) | rfl) ?_)))
  | false=>
   rw [infLog_no (by simp [inferOk_eq,hc,says_eq,h1,he])]
   have he':=raw_lit he
   (repeat' ((conv=>whnf);first | with_reducible refine Br.no he' ?_ | refine gA ?_ | ((with_reducible first | refine gD (fun h=>?_) (fun h=>?_) | refine gE (fun h=>?_) (fun h=>?_)) <;> (try simp only [lm] at h) <;> try have hw:=wn h) | refine gC (hS) ?_ | refine gC (hL) ?_ | refine gC (spec_LiteralValue g.dom s.lit) ?_ | refine gC (hX) ?_ | intro _)) <;> (try (conv=>whnf))
   all_goals first
    | (exfalso;omega)
    | (exfalso;exact absurd trivial (by assumption))
    | (repeat' ((conv=>whnf) <;> (first | exact trivial | exact VC.nod (by kernel_rfl) | refine VC.mk rfl ?_)))
 ·rw [h1] at hS
  by_cases he:litValue g.dom s.lit=1
  ·rw [infLog_yes (by simp [inferOk_eq,hc,says_eq,h1,he])]
   (repeat' ((conv=>whnf);first | refine gA ?_ | ((with_reducible first | refine gD (fun h=>?_) (fun h=>?_) | refine gE (fun h=>?_) (fun h=>?_)) <;> (try simp only [lm] at h) <;> try have hw:=wn h) | refine gC (hS) ?_ | refine gC (hL) ?_ | refine gC (spec_LiteralValue g.dom s.lit) ?_ | refine gC (hX) ?_ | intro _)) <;> (try (conv=>whnf))
   all_goals first
    | (exfalso;omega)
    | (exfalso;exact absurd trivial (by assumption))
    | (exfalso;simp_all;done)
    | (repeat' ((conv=>whnf) <;> (first | exact trivial | exact VC.nod (by kernel_rfl) | refine VC.mk (by first | with_reducible rfl | (simp [saidLog];done) | rfl) ?_)))
  ·rw [infLog_no (by simp [inferOk_eq,hc,says_eq,h1,he])]
   (repeat' ((conv=>whnf);first | refine gA ?_ | ((with_reducible first | refine gD (fun h=>?_) (fun h=>?_) | refine gE (fun h=>?_) (fun h=>?_)) <;> (try simp only [lm] at h) <;> try have hw:=wn h) | refine gC (hS) ?_ | refine gC (hL) ?_ | refine gC (spec_LiteralValue g.dom s.lit) ?_ | refine gC (hX) ?_ | intro _)) <;> (try (conv=>whnf))
   all_goals first
    | (exfalso;omega)
    | (exfalso;exact absurd trivial (by assumption))
    | (exfalso;simp_all;done)
    | (repeat' ((conv=>whnf) <;> (first | exact trivial | exact VC.nod (by kernel_rfl) | refine VC.mk rfl ?_)))
theorem firstInf_parts {p:Proj} {b:Dom} {s:Infer} (h:firstInf p b=some s):usable p b=true∧sameLit s.lit zeroLit=false:=by
 unfold firstInf at h
 split at h
 ·cases h
 ·obtain⟨r,hr,h1⟩:=List.exists_of_findSome?_eq_some h
  obtain⟨a,_,h2⟩:=List.exists_of_findSome?_eq_some h1
  refine⟨(candRules_ok hr).1,?_⟩
  unfold inferOf at h2
  obtain⟨l,hl,rfl⟩:=Option.map_eq_some_iff.1 h2
  have hm:=List.mem_of_head? hl
  have:l.kind=1∨l.kind=2∨l.kind=4:=by
   unfold inferA at hm
   split at hm
   ·simp only [inferAt,List.mem_append] at hm
    rcases hm with (hm | hm) | hm
    ·unfold atLeast at hm;split at hm
     ·rw [List.mem_singleton.1 hm];exact .inl rfl
     ·simp at hm
    ·unfold atMost at hm;split at hm
     ·rw [List.mem_singleton.1 hm];exact .inr (.inl rfl)
     ·simp at hm
    ·obtain⟨v,_,rfl⟩:=List.mem_map.1 hm;exact .inr (.inr rfl)
   ·simp at hm
  simp only [sameLit,zeroLit]
  rcases this with h | h | h <;> simp [h]
theorem spec_l22Run (g:Lg) (most:Nat) (hp:g.proj.fine) (hm:most≤60):Con 93 [.d g.av,.d (i64 most)] (RRun (runLog most 0 g)):=by
 refine con Tryz.func93 rfl rfl Tryz.call93 rfl fun hwf=>?_
 generalize hR:runLog most 0 g=R
 (repeat' ((conv=>whnf);first | refine gA ?_ | ((with_reducible first | refine gD (fun h=>?_) (fun h=>?_) | refine gE (fun h=>?_) (fun h=>?_)) <;> (try simp only [lm] at h) <;> try have hw:=wn h) | refine gV ?_ | intro _)) <;> (try (conv=>whnf))
 refine loopF [1,2,4] [4] [] ?_
 (conv=>whnf)
 refine LoopC.go ((Nat)×(Lg)) (fun⟨n,h⟩=>(n≤most)∧(h.proj=g.proj)∧(runLog (most - n) n h=R)) (fun⟨n,h⟩=>[(6,.data (i64 n))]) (fun⟨n,h⟩=>[(2,(AV.cells h.av).map SV.data)]) (fun _=>[]) (fun⟨n,h⟩=>most - n) ⟨0,g⟩ ?_ ?_
 ·exact⟨Nat.zero_le _,rfl,hR⟩
 rintro⟨n,h⟩ ⟨hn,hj,he⟩
 have hph:h.proj.fine:=hj ▸ hp
 have hF:=spec_FirstInference h.proj h.dom hph
 by_cases hlt:n < most
 rotate_left
 ·obtain rfl:n=most:=by omega
  rw [Nat.sub_self,runLog_zero] at he
  subst he
  (repeat' ((conv=>whnf);first | (exfalso;omega) | refine gA ?_ | ((with_reducible first | refine gD (fun h=>?_) (fun h=>?_) | refine gE (fun h=>?_) (fun h=>?_)) <;> (try simp only [lm] at h) <;> try have hw:=wn h) | refine gV ?_ | intro _)) <;> (try (conv=>whnf))
  (repeat' ((conv=>whnf) <;> (first | exact trivial | exact VC.nod (by kernel_rfl) | refine VC.mk rfl ?_)))
 rw [show most - n=(most - (n+1))+1 by omega,runLog_succ] at he
 cases h1:firstInf h.proj h.dom with
 | none=>
  rw [stepLog_eq,h1] at he
  rw [RInfD,h1] at hF
  dsimp only [Option.getD,Option.isSome] at hF
  have he:(h,n)=R:=he
  subst he
  (repeat' ((conv=>whnf);first | (exfalso;omega) | refine gA ?_ | ((with_reducible first | refine gD (fun h=>?_) (fun h=>?_) | refine gE (fun h=>?_) (fun h=>?_)) <;> (try simp only [lm] at h) <;> try have hw:=wn h) | refine gV ?_ | refine gC (hF) ?_ | intro _)) <;> (try (conv=>whnf))
  all_goals (repeat' ((conv=>whnf) <;> (first | exact trivial | exact VC.nod (by kernel_rfl) | refine VC.mk rfl ?_)))
 | some s=>
  rw [RInfD,h1] at hF
  dsimp only [Option.getD,Option.isSome] at hF
  obtain⟨hu,hz⟩:=firstInf_parts h1
  have hI:=spec_l22Say h s hph hz (fun n m hm=>domForm_setOk' (form_of_none hu) hm)
  have e1:stepLog h=infLog h s:=by rw [stepLog_eq,h1]
  rw [e1] at he
  cases h2:infLog h s with
  | none=>
   rw [h2] at he
   rw [RLogD,h2] at hI
   dsimp only [Option.getD,Option.isSome] at hI
   have he:(h,n)=R:=he
   subst he
   (repeat' ((conv=>whnf);first | (exfalso;omega) | refine gA ?_ | ((with_reducible first | refine gD (fun h=>?_) (fun h=>?_) | refine gE (fun h=>?_) (fun h=>?_)) <;> (try simp only [lm] at h) <;> try have hw:=wn h) | refine gV ?_ | refine gC (hF) ?_ | refine gC (hI) ?_ | intro _)) <;> (try (conv=>whnf))
   all_goals (repeat' ((conv=>whnf) <;> (first | exact trivial | exact VC.nod (by kernel_rfl) | refine VC.mk rfl ?_)))
  | some h'=>
   rw [h2] at he
   rw [RLogD,h2] at hI
   dsimp only [Option.getD,Option.isSome] at hI
   have he:runLog (most - (n+1)) (n+1) h'=R:=he
   (repeat' ((conv=>whnf);first | (exfalso;omega) | refine gA ?_ | ((with_reducible first | refine gD (fun h=>?_) (fun h=>?_) | refine gE (fun h=>?_) (fun h=>?_)) <;> (try simp only [lm] at h) <;> try have hw:=wn h) | refine gV ?_ | refine gC (hF) ?_ | refine gC (hI) ?_ | intro _)) <;> (try (conv=>whnf))
   all_goals
    refine nx ⟨n+1,h'⟩ ?_
    exact⟨by omega,(infLog_proj h2).trans hj,he⟩
theorem spec_l22Turn (g:Lg):Con 165 [.d g.av] (.d (lits (newClause (g.decs.map negate)))):=by
 refine con Tryz.func165 rfl rfl Tryz.call165 rfl fun hwf=>?_
 simp only [ARs.wf,AR.wf,AV.wf,AV.wfs,List.length_map,lim] at hwf
 (repeat' ((conv=>whnf);first | refine gA ?_ | ((with_reducible first | refine gD (fun h=>?_) (fun h=>?_) | refine gE (fun h=>?_) (fun h=>?_)) <;> (try simp only [lm] at h) <;> try have hw:=wn h) | with_reducible refine gI (fun x hx=>?_) | with_reducible refine gJ (fun j x hj hx=>?_) | refine gP ?_ | refine gV ?_ | intro _)) <;> (try (conv=>whnf))
 refine loopF [8,9] [] [6] ?_
 (conv=>whnf)
 refine LoopC.go ((Nat)×(List Lit)) (fun⟨k,o⟩=>(k≤g.decs.length)∧(o=(g.decs.take k).map negate)) (fun⟨k,o⟩=>[(10,.data (i64 k)),(3,.own 6 0)]) (fun _=>[]) (fun⟨k,o⟩=>[(6,184,o.map Lit.av,0)]) (fun⟨k,o⟩=>g.decs.length - k) ⟨0,[]⟩ ?_ ?_
 ·exact⟨Nat.zero_le _,rfl⟩
 rintro⟨k,o⟩ ⟨hk,ho⟩
 by_cases hlt:k < g.decs.length
 ·obtain⟨x,hx⟩:∃x,g.decs[k]? =some x:=⟨g.decs[k]'hlt,by simp⟩
  have hol:o.length≤k:=by rw [ho];simp;omega
  (repeat' ((conv=>whnf);first | with_reducible refine Idx.got hx rfl ?_ | (exfalso;omega) | refine gA ?_ | ((with_reducible first | refine gD (fun h=>?_) (fun h=>?_) | refine gE (fun h=>?_) (fun h=>?_)) <;> (try simp only [lm] at h) <;> try have hw:=wn h) | with_reducible refine gI (fun x hx=>?_) | with_reducible refine gJ (fun j x hj hx=>?_) | refine gP ?_ | refine gV ?_ | refine gC (spec_Negate x) ?_ | intro _)) <;> (try (conv=>whnf))
  refine nw ⟨k+1,o++[negate x]⟩ ?_ ?_
  ·(repeat' ((conv=>whnf) <;> (first | exact trivial | exact rfl | with_reducible refine And.intro ?_ ?_))) <;> ((conv=>whnf) <;> (simp))
  exact⟨by omega,by rw [ho, ← map_snoc negate hx]⟩
 obtain rfl:o=g.decs.map negate:=by rw [ho,List.take_of_length_le (by omega)]
 (repeat' ((conv=>whnf);first | (exfalso;omega) | refine gA ?_ | ((with_reducible first | refine gD (fun h=>?_) (fun h=>?_) | refine gE (fun h=>?_) (fun h=>?_)) <;> (try simp only [lm] at h) <;> try have hw:=wn h) | with_reducible refine gI (fun x hx=>?_) | with_reducible refine gJ (fun j x hj hx=>?_) | refine gP ?_ | refine gV ?_ | refine gC (spec_NewClause (g.decs.map negate)) ?_ | intro _)) <;> (try (conv=>whnf))
 exact⟨rfl,rfl,trivial⟩
theorem spec_l22Stop (g:Lg) (hp:g.proj.fine):Con 94 [.d g.av] (RLogD (stopLog g)):=by
 refine con Tryz.func94 rfl rfl Tryz.call94 rfl fun hwf=>?_
 have hR:=spec_FindRefutation g.proj g.dom hp
 cases hf:findRef g.proj g.dom with
 | none=>
  rw [RRul,hf] at hR
  dsimp only [Option.getD,Option.isSome] at hR
  rw [stopLog_eq,hf]
  (repeat' ((conv=>whnf);first | refine gA ?_ | ((with_reducible first | refine gD (fun h=>?_) (fun h=>?_) | refine gE (fun h=>?_) (fun h=>?_)) <;> (try simp only [lm] at h) <;> try have hw:=wn h) | refine gC (hR) ?_ | intro _)) <;> (try (conv=>whnf))
  (repeat' ((conv=>whnf) <;> (first | exact trivial | exact VC.nod (by kernel_rfl) | refine VC.mk rfl ?_)))
 | some r=>
 rw [RRul,hf] at hR
 dsimp only [Option.getD,Option.isSome] at hR
 have hL:=spec_l22Line g (ruleLine g r) hp
 have hst:stopLog g=if checkLine g.proj g.lines (ruleLine g r)=0∧checkLine g.proj (g.lines++[ruleLine g r]) (unitLine g)=0 then some ⟨g.proj,g.dom,g.decs,g.lines++[ruleLine g r]++[unitLine g]⟩ else none:=by rw [stopLog_eq,hf]
 by_cases h1:checkLine g.proj g.lines (ruleLine g r)=0
 rotate_left
 ·rw [hst,if_neg (fun h=>h1 h.1)]
  rw [RLogD,lineLog,if_neg h1] at hL
  dsimp only [Option.getD,Option.isSome] at hL
  (repeat' ((conv=>whnf);first | refine gA ?_ | ((with_reducible first | refine gD (fun h=>?_) (fun h=>?_) | refine gE (fun h=>?_) (fun h=>?_)) <;> (try simp only [lm] at h) <;> try have hw:=wn h) | refine gC (hR) ?_ | refine gC (spec_ExplainRefutation g.proj g.dom r hp) ?_ | refine gC (hL) ?_ | intro _)) <;> (try (conv=>whnf))
  (repeat' ((conv=>whnf) <;> (first | exact trivial | exact VC.nod (by kernel_rfl) | refine VC.mk rfl ?_)))
 rw [RLogD,lineLog,if_pos h1] at hL
 dsimp only [Option.getD,Option.isSome] at hL
 have hL2:=spec_l22Line ⟨g.proj,g.dom,g.decs,g.lines++[ruleLine g r]⟩ (unitLine g) hp
 by_cases h2:checkLine g.proj (g.lines++[ruleLine g r]) (unitLine g)=0
 ·rw [hst,if_pos ⟨h1,h2⟩]
  rw [RLogD,lineLog,if_pos h2] at hL2
  dsimp only [Option.getD,Option.isSome] at hL2
  (repeat' ((conv=>whnf);first | refine gA ?_ | ((with_reducible first | refine gD (fun h=>?_) (fun h=>?_) | refine gE (fun h=>?_) (fun h=>?_)) <;> (try simp only [lm] at h) <;> try have hw:=wn h) | refine gC (hR) ?_ | refine gC (spec_ExplainRefutation g.proj g.dom r hp) ?_ | refine gC (hL) ?_ | refine gC (spec_l22Turn g) ?_ | refine gC (hL2) ?_ | intro _)) <;> (try (conv=>whnf))
  (repeat' ((conv=>whnf) <;> (first | exact trivial | exact VC.nod (by kernel_rfl) | refine VC.mk rfl ?_)))
 ·rw [hst,if_neg (fun h=>h2 h.2)]
  rw [RLogD,lineLog,if_neg h2] at hL2
  dsimp only [Option.getD,Option.isSome] at hL2
  (repeat' ((conv=>whnf);first | refine gA ?_ | ((with_reducible first | refine gD (fun h=>?_) (fun h=>?_) | refine gE (fun h=>?_) (fun h=>?_)) <;> (try simp only [lm] at h) <;> try have hw:=wn h) | refine gC (hR) ?_ | refine gC (spec_ExplainRefutation g.proj g.dom r hp) ?_ | refine gC (hL) ?_ | refine gC (spec_l22Turn g) ?_ | refine gC (hL2) ?_ | intro _)) <;> (try (conv=>whnf))
  (repeat' ((conv=>whnf) <;> (first | exact trivial | exact VC.nod (by kernel_rfl) | refine VC.mk rfl ?_)))
theorem spec_LogNew (p:Proj) (hp:p.fine):Con 92 [.d p.av] (RLogD (logNew p)):=by
 refine con Tryz.func92 rfl rfl Tryz.call92 rfl fun hwf=>?_
 cases ho:projOk p with
 | false=>
  rw [logNew,if_neg (by simp [ho])]
  (repeat' ((conv=>whnf);first | refine gA ?_ | ((with_reducible first | refine gD (fun h=>?_) (fun h=>?_) | refine gE (fun h=>?_) (fun h=>?_)) <;> (try simp only [lm] at h) <;> try have hw:=wn h) | refine gC (spec_ProjectOk p hp) ?_ | intro _)) <;> (try (conv=>whnf))
  (repeat' ((conv=>whnf) <;> (first | exact trivial | exact VC.nod (by kernel_rfl) | refine VC.mk rfl ?_)))
 | true=>
  rw [logNew,if_pos ho,initDom,if_pos ho]
  (repeat' ((conv=>whnf);first | refine gA ?_ | ((with_reducible first | refine gD (fun h=>?_) (fun h=>?_) | refine gE (fun h=>?_) (fun h=>?_)) <;> (try simp only [lm] at h) <;> try have hw:=wn h) | refine gC (spec_ProjectOk p hp) ?_ | refine gC (spec_l05Copy p) ?_ | refine gC (spec_l12Of p (projOk_dead ho)) ?_ | intro _)) <;> (try (conv=>whnf))
  (repeat' ((conv=>whnf) <;> (first | exact trivial | exact VC.nod (by kernel_rfl) | refine VC.mk rfl ?_)))
def refuteRules (p:Proj):List Lin×Bool:=match logNew p with
 | none=>([],false)
 | some g=>match stopLog (runLog 60 0 g).1 with | none=>([],false) | some h=>(h.lines,true)
def RLinesL (r:List Lin×Bool):RV:=.tup [.lin 128 (r.1.map Lin.av),.d (.bool r.2)]
def RLinesD (r:List Lin×Bool):RV:=.tup [.d (.sl (r.1.map Lin.av)),.d (.bool r.2)]
theorem runLog_proj:∀(f n:Nat) (g:Lg),(runLog f n g).1.proj=g.proj
 | 0,_,_=>rfl
 | f+1,n,g=>by
  rw [runLog_succ]
  cases h:stepLog g with
  | none=>rfl
  | some x=>
   dsimp only
   rw [runLog_proj f]
   unfold stepLog at h
   split at h
   ·cases h
   ·exact infLog_proj h
theorem logNew_proj {p:Proj} {g:Lg} (h:logNew p=some g):g.proj=p:=by
 unfold logNew at h
 split at h
 ·cases h;rfl
 ·cases h
theorem impl_RefuteByRules (p:Proj) (hp:p.fine):Con 34 [.d p.av] (RLinesL (refuteRules p)):=by
 refine con Tryz.func34 rfl rfl Tryz.call34 rfl fun hwf=>?_
 have hN:=impl_LogNew p hp
 cases h1:logNew p with
 | none=>
  rw [RLogD,h1] at hN
  dsimp only [Option.getD,Option.isSome] at hN
  rw [refuteRules,h1]
  (repeat' ((conv=>whnf);first | refine gA ?_ | ((with_reducible first | refine gD (fun h=>?_) (fun h=>?_) | refine gE (fun h=>?_) (fun h=>?_)) <;> (try simp only [lm] at h) <;> try have hw:=wn h) | refine gC (hN) ?_ | intro _)) <;> (try (conv=>whnf))
  (repeat' ((conv=>whnf) <;> (first | exact trivial | exact VC.nod (by kernel_rfl) | refine VC.mk rfl ?_)))
 | some g=>
 rw [RLogD,h1] at hN
 dsimp only [Option.getD,Option.isSome] at hN
 have hj:=logNew_proj h1
 have hP:=impl_propagate g 60 (hj ▸ hp) (Nat.le_refl _)
 have hC:=impl_conflict (runLog 60 0 g).1 (by rw [runLog_proj,hj];exact hp)
 rw [refuteRules,h1]
 dsimp only
 generalize runLog 60 0 g=R at hP hC ⊢
 cases h2:stopLog R.1 with
 | none=>
  rw [RStopN,h2] at hC
  dsimp only [Option.getD,Option.isSome] at hC
  (repeat' ((conv=>whnf);first | refine gA ?_ | ((with_reducible first | refine gD (fun h=>?_) (fun h=>?_) | refine gE (fun h=>?_) (fun h=>?_)) <;> (try simp only [lm] at h) <;> try have hw:=wn h) | refine gC (hN) ?_ | refine gC (hP) ?_ | refine gC (hC) ?_ | intro _)) <;> (try (conv=>whnf))
  (repeat' ((conv=>whnf) <;> (first | exact trivial | exact VC.nod (by kernel_rfl) | refine VC.mk rfl ?_)))
 | some h=>
  rw [RStopN,h2] at hC
  dsimp only [Option.getD,Option.isSome] at hC
  (repeat' ((conv=>whnf);first | refine gA ?_ | ((with_reducible first | refine gD (fun h=>?_) (fun h=>?_) | refine gE (fun h=>?_) (fun h=>?_)) <;> (try simp only [lm] at h) <;> try have hw:=wn h) | refine gC (hN) ?_ | refine gC (hP) ?_ | refine gC (hC) ?_ | intro _)) <;> (try (conv=>whnf))
  (repeat' ((conv=>whnf) <;> (first | exact trivial | exact VC.nod (by kernel_rfl) | refine VC.mk rfl ?_)))
theorem spec_RefuteByRules (p:Proj) (hp:p.fine):Con 33 [.d p.av] (RLinesD (refuteRules p)):=by
 refine con Tryz.func33 rfl rfl Tryz.call33 rfl fun hwf=>?_
 have hN:=spec_LogNew p hp
 cases h1:logNew p with
 | none=>
  rw [RLogD,h1] at hN
  dsimp only [Option.getD,Option.isSome] at hN
  rw [refuteRules,h1]
  (repeat' ((conv=>whnf);first | refine gA ?_ | ((with_reducible first | refine gD (fun h=>?_) (fun h=>?_) | refine gE (fun h=>?_) (fun h=>?_)) <;> (try simp only [lm] at h) <;> try have hw:=wn h) | refine gC (hN) ?_ | intro _)) <;> (try (conv=>whnf))
  (repeat' ((conv=>whnf) <;> (first | exact trivial | exact VC.nod (by kernel_rfl) | refine VC.mk rfl ?_)))
 | some g=>
 rw [RLogD,h1] at hN
 dsimp only [Option.getD,Option.isSome] at hN
 have hj:=logNew_proj h1
 have hP:=spec_l22Run g 60 (hj ▸ hp) (Nat.le_refl _)
 have hC:=spec_l22Stop (runLog 60 0 g).1 (by rw [runLog_proj,hj];exact hp)
 cases h2:stopLog (runLog 60 0 g).1 with
 | none=>
  rw [RLogD,h2] at hC
  dsimp only [Option.getD,Option.isSome] at hC
  rw [refuteRules,h1]
  simp only [h2]
  (repeat' ((conv=>whnf);first | refine gA ?_ | ((with_reducible first | refine gD (fun h=>?_) (fun h=>?_) | refine gE (fun h=>?_) (fun h=>?_)) <;> (try simp only [lm] at h) <;> try have hw:=wn h) | refine gC (hN) ?_ | refine gC (hP) ?_ | refine gC (hC) ?_ | intro _)) <;> (try (conv=>whnf))
  (repeat' ((conv=>whnf) <;> (first | exact trivial | exact VC.nod (by kernel_rfl) | refine VC.mk rfl ?_)))
 | some h=>
  rw [RLogD,h2] at hC
  dsimp only [Option.getD,Option.isSome] at hC
  rw [refuteRules,h1]
  simp only [h2]
  (repeat' ((conv=>whnf);first | refine gA ?_ | ((with_reducible first | refine gD (fun h=>?_) (fun h=>?_) | refine gE (fun h=>?_) (fun h=>?_)) <;> (try simp only [lm] at h) <;> try have hw:=wn h) | refine gC (hN) ?_ | refine gC (hP) ?_ | refine gC (hC) ?_ | intro _)) <;> (try (conv=>whnf))
  (repeat' ((conv=>whnf) <;> (first | exact trivial | exact VC.nod (by kernel_rfl) | refine VC.mk rfl ?_)))
end Go.Proofs.YtkiohdpapinecaaGreat.Abs
