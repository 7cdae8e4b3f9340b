/- Contracts: literals, domains' form, clauses. -/
import Derived.Test.YtmenphiahgkjkaaGreatDoorC4
set_option linter.all false
set_option maxRecDepth 20000
set_option maxHeartbeats 0
namespace Go.Proofs.YtmenphiahgkjkaaGreatDoor.Abs
open Go.Proofs
theorem nJ {p:Proj} {a:Int} (h:bJ p a=true):∃(n:Nat) (x:aC),a=n∧p.acts[n]? =some x:=by
 have hn:=within_iff.1 h
 exact⟨a.toNat,p.acts[a.toNat]'(by omega),by omega,by simp⟩
theorem oJ (p:Proj) (l:Lit) (hp:p.fine):Con 30 [.d p.av,.d l.av] (.d (.bool (dI p l))):=by
 refine con Tryz.func30 rfl rfl Tryz.call30 rfl fun hwf=>?_
 simp only [ARs.wf,AR.wf,AV.wf,AV.wfs,lm,lim] at hwf
 cases h2:bJ p l.act with
 |false=>
  (repeat' ((conv=>whnf);first|refine gA ?_|(refine gN ?_ ?_<;>intro h hw)|(refine gB ?_ ?_<;>intro h)|(refine gI ?_;intro x hx)|(refine gJ ?_;intro j x hj hx)|refine gV ?_|refine gC (bn p hp) ?_|refine gC (gQ p _) ?_|refine gC (aS _ _ _) ?_|intro _))<;>try (conv=>whnf)
  all_goals first
   |(refine⟨?_,rfl,trivial⟩;simp [dI, *];done)
   |(exfalso;simp [bJ, *] at h2;done)
 |true=>
  obtain⟨n,x,ha,hx⟩:=nJ h2
  have hm:=rP hwf.1.2.1.2 hx
  have e:l.act.toNat=n:=by omega
  simp only [AV.wf,AV.wfs,List.length_map] at hm
  (repeat' ((conv=>whnf);first|with_reducible refine Idx.got hx (by first|exact ha|rfl) ?_|refine gA ?_|(refine gN ?_ ?_<;>intro h hw)|(refine gB ?_ ?_<;>intro h)|(refine gI ?_;intro x hx)|(refine gJ ?_;intro j x hj hx)|refine gV ?_|refine gC (bn p hp) ?_|refine gC (gQ p _) ?_|refine gC (aS _ _ _) ?_|intro _))<;>try (conv=>whnf)
  all_goals first
   |(refine⟨?_,rfl,trivial⟩;simp [dI, *, -ha];done)
   |(exfalso;simp [bJ, *] at h2;done)
theorem XC (n:Int):Con 166 [.d (i64 n)] (.d (.bool false)):=by
 refine con Tryz.func166 rfl rfl Tryz.call166 rfl fun hwf=>?_
 (repeat' ((conv=>whnf);first|refine gA ?_|(refine gB ?_ ?_<;>intro h)|intro _))<;>try (conv=>whnf)
 refine⟨?_,rfl,trivial⟩
 simp
theorem Tj (x y:Int):Con 131 [.d (i64 x),.d (i64 y)] (.d (i64 (KA x y))):=by
 refine con Tryz.func131 rfl rfl Tryz.call131 rfl fun hwf=>?_
 (repeat' ((conv=>whnf);first|refine gA ?_|(refine gN ?_ ?_<;>intro h hw)|(refine gB ?_ ?_<;>intro h)|refine gC (XC _) ?_|intro _))<;>try (conv=>whnf)
 all_goals refine⟨?_,rfl,trivial⟩
 all_goals (simp only [KA,i64,AV.int.injEq,true_and];split<;>(try split)<;>omega)
theorem abA (l:List Int):Con 130 [.d (ints l)] (.d (i64 (orI l))):=by
 refine con Tryz.func130 rfl rfl Tryz.call130 rfl fun hwf=>?_
 simp only [ARs.wf,AR.wf,AV.wf,AV.wfs,lm,lim] at hwf
 (repeat' ((conv=>whnf);first|refine gA ?_|(refine gB ?_ ?_<;>intro h)|(refine gI ?_;intro x hx)|(refine gJ ?_;intro j x hj hx)|refine gV ?_|intro _))<;>try (conv=>whnf)
 refine aB [3,6,7] [] [] ?_
 (conv=>whnf)
 refine aA.go ((Nat)) (fun k=>(k≤l.length)∧(orI (l.drop k)=orI l)) (fun k=>[(8,.data (i64 k))]) (fun _=>[]) (fun _=>[]) (fun k=>l.length - k) (0) ?_ ?_
 ·exact⟨by omega,rfl⟩
 rintro k ⟨hk,hi⟩
 (repeat' ((conv=>whnf);first|refine gA ?_|(refine gB ?_ ?_<;>intro h)|(refine gI ?_;intro x hx)|(refine gJ ?_;intro j x hj hx)|refine gV ?_|intro _))<;>try (conv=>whnf)
 all_goals first
  |exact trivial
  |(refine⟨?_,rfl,trivial⟩;rw [bC (l:=l) (by assumption)] at hi;first|(simp_all [orI];done)|(simp only [orI, ← hi];clear hi;simp_all [orI];done))
  |(refine⟨?_,rfl,trivial⟩;rw [aF (l:=l) (by assumption)] at hi;first|(simp_all [orI];done)|(simp only [orI, ← hi];clear hi;simp_all [orI];done))
  |(refine nx (k+1) ?_
    rw [aF (l:=l) (by assumption)] at hi;refine⟨by omega,?_⟩;simp_all [orI];done)
theorem qF (a b:Lit):Con 100 [.d a.av,.d b.av] (.d (i64 (kg a b))):=by
 refine con Tryz.func100 rfl rfl Tryz.call100 rfl fun hwf=>?_
 (repeat' ((conv=>whnf);first|refine gA ?_|(refine gB ?_ ?_<;>intro h)|refine gC (Tj _ _) ?_|refine gC (abA [KA a.act b.act,KA a.kind b.kind,KA a.val b.val]) ?_|intro _))<;>try (conv=>whnf)
 exact⟨rfl,rfl,trivial⟩
theorem BK (p:Proj) (l:List Lit) (hp:p.fine):Con 103 [.d p.av,.d (lits l)] (.d (.bool (jw p l))):=by
 refine con Tryz.func103 rfl rfl Tryz.call103 rfl fun hwf=>?_
 simp only [ARs.wf,AR.wf,AV.wf,AV.wfs,lm,lim] at hwf
 (repeat' ((conv=>whnf);first|refine gA ?_|(refine gB ?_ ?_<;>intro h)|(refine gI ?_;intro x hx)|(refine gJ ?_;intro j x hj hx)|refine gV ?_|intro _))<;>try (conv=>whnf)
 refine aB [1,2,7,8] [2] [] ?_
 (conv=>whnf)
 refine aA.go ((Nat)) (fun k=>(k≤l.length)∧(∀i,i < k→clauseAt p l i=true)) (fun k=>[(9,.data (i64 k))]) (fun _=>[]) (fun _=>[]) (fun k=>l.length - k) (0) ?_ ?_
 ·exact⟨by omega,by omega⟩
 rintro k ⟨hk,hi⟩
 (repeat' ((conv=>whnf);first|refine gA ?_|(refine gB ?_ ?_<;>intro h)|(refine gI ?_;intro x hx)|(refine gJ ?_;intro j x hj hx)|refine gV ?_|refine gC (oJ p _ hp) ?_|refine gC (qF _ _) ?_|intro _))<;>try (conv=>whnf)
 all_goals first
  |(refine⟨?_,rfl,trivial⟩;rw [jw,lT k (by omega) (by (try (obtain rfl:j=k - 1:=by omega));simp [clauseAt, *];try omega)];rfl)
  |(refine nx (k+1) ?_
    exact⟨by omega,lU hi (by (try (obtain rfl:j=k - 1:=by omega));simp [clauseAt, *];try omega)⟩)
  |(refine⟨?_,rfl,trivial⟩;rw [jw,bX.2 fun i hh=>hi i (by omega)];simp)
theorem nK (p:Proj) (hp:p.fine):Con 18 [.d p.av] (.d (bf p).av):=by
 refine con Tryz.func18 rfl rfl Tryz.call18 rfl fun hwf=>?_
 simp only [ARs.wf,AR.wf,AV.wf,AV.wfs,lm,lim] at hwf
 cases ho:aL p with
 |false=>
  (repeat' ((conv=>whnf);first|refine gA ?_|(refine gB ?_ ?_<;>intro h)|(refine gI ?_;intro x hx)|(refine gJ ?_;intro j x hj hx)|refine gP ?_|refine gV ?_|refine gC (bn p hp) ?_|intro _))<;>try (conv=>whnf)
  refine⟨?_,rfl,trivial⟩
  rw [bf,if_neg (by simp [ho])];rfl
 |true=>
 have hd:within p.dead 1 60=true:=by simp [aL,xB] at ho;simp [ho]
 have hd:=within_iff.1 hd
 (repeat' ((conv=>whnf);first|refine gA ?_|(refine gB ?_ ?_<;>intro h)|(refine gI ?_;intro x hx)|(refine gJ ?_;intro j x hj hx)|refine gP ?_|refine gV ?_|refine gC (bn p hp) ?_|intro _))<;>try (conv=>whnf)
 refine aB [1,2,3,12,13] [1,2] [21,28,34] ?_
 (conv=>whnf)
 refine aA.go ((Nat)) (fun k=>(k≤p.acts.length)) (fun k=>[(14,.data (i64 k))]) (fun k=>[(3,[.own 21 0,.own 28 0,.own 34 0])]) (fun k=>[(21,3,(p.acts.take k).map (fun _=>i64 0),0),(28,3,(p.acts.take k).map (fun _=>i64 (p.dead - 1)),0),(34,26,(p.acts.take k).map (fun a=>ints (aO a.modes.length)),0)]) (fun k=>p.acts.length - k) (0) ?_ ?_
 ·exact Nat.zero_le _
 rintro k hk
 (repeat' ((conv=>whnf);first|refine gA ?_|(refine gB ?_ ?_<;>intro h)|(refine gI ?_;intro x hx)|(refine gJ ?_;intro j x hj hx)|refine gP ?_|refine gV ?_|refine gC (pO x) ?_|intro _))<;>try (conv=>whnf)
 ·refine nw (k+1) ?_ ?_
  ·(repeat' ((conv=>whnf)<;>(first|exact trivial|exact rfl|with_reducible refine And.intro ?_ ?_)))<;>((conv=>whnf)<;>(exact kN _ hx))
  exact (by omega:k+1≤p.acts.length)
 ·refine⟨?_,rfl,trivial⟩
  rw [bf,if_pos ho,qD]
  dsimp only
  rw [List.take_of_length_le (by omega)]
  simp [List.map_map,Function.comp_def]
theorem aT (p:Proj) (b:Dom) (hp:p.fine):Con 29 [.d p.av,.d b.av] (.d (.bool (ak p b))):=by
 refine con Tryz.func29 rfl rfl Tryz.call29 rfl fun hwf=>?_
 simp only [ARs.wf,AR.wf,AV.wf,AV.wfs,lm,lim] at hwf
 (repeat' ((conv=>whnf);first|refine gA ?_|(refine gN ?_ ?_<;>intro h hw)|(refine gB ?_ ?_<;>intro h)|(refine gI ?_;intro x hx)|(refine gJ ?_;intro j x hj hx)|refine gV ?_|refine gC (bn p hp) ?_|intro _))<;>try (conv=>whnf)
 all_goals try (refine⟨?_,rfl,trivial⟩;simp [ak, *];done)
 refine aB [2,3,36,37] [2,3] [] ?_
 (conv=>whnf)
 refine aA.go ((Nat)) (fun k=>(k≤p.acts.length)∧(∀i,i < k→rD p b i=true)) (fun k=>[(38,.data (i64 k))]) (fun _=>[]) (fun _=>[]) (fun k=>p.acts.length - k) (0) ?_ ?_
 ·exact⟨by omega,by omega⟩
 rintro k ⟨hk,hi⟩
 by_cases hlt:k < p.acts.length
 ·obtain⟨lo,e1⟩:∃x,b.lo[k]? =some x:=⟨b.lo[k]'(by omega),by simp⟩
  obtain⟨hi',e2⟩:∃x,b.hi[k]? =some x:=⟨b.hi[k]'(by omega),by simp⟩
  obtain⟨mo,e3⟩:∃x,b.modes[k]? =some x:=⟨b.modes[k]'(by omega),by simp⟩
  obtain⟨ac,e4⟩:∃x,p.acts[k]? =some x:=⟨p.acts[k]'(by omega),by simp⟩
  (repeat' ((conv=>whnf);first|with_reducible refine Idx.got e1 rfl ?_|with_reducible refine Idx.got e2 rfl ?_|with_reducible refine Idx.got e3 rfl ?_|with_reducible refine Idx.got e4 rfl ?_|refine gA ?_|(refine gN ?_ ?_<;>intro h hw)|(refine gB ?_ ?_<;>intro h)|(refine gI ?_;intro x hx)|(refine gJ ?_;intro j x hj hx)|refine gV ?_|refine gC (Qv _) ?_|refine gC (Vk _) ?_|refine gC (zD _ _) ?_|refine gC (pO ac) ?_|intro _))<;>try (conv=>whnf)
  all_goals first
   |(exfalso;omega)
   |(refine⟨?_,rfl,trivial⟩;rw [ak,lT k hlt (by simp only [rD,e1,e2,e3,e4];simp [*])];simp;done)
   |(refine nx (k+1) ?_
     exact⟨by omega,lU hi (by simp only [rD,e1,e2,e3,e4];simp [*])⟩)
 ·(repeat' ((conv=>whnf);first|(exfalso;omega)|refine gA ?_|(refine gN ?_ ?_<;>intro h hw)|(refine gB ?_ ?_<;>intro h)|(refine gI ?_;intro x hx)|(refine gJ ?_;intro j x hj hx)|refine gV ?_|intro _))<;>try (conv=>whnf)
  refine⟨?_,rfl,trivial⟩
  rw [ak,bX.2 fun i hh=>hi i (by omega)];simp [*]
theorem ED (l:List Int):Con 108 [.d (ints l)] (.d (.bool (decide ((l.length:Int)=0)))):=by
 refine con Tryz.func108 rfl rfl Tryz.call108 rfl fun hwf=>?_
 (repeat' ((conv=>whnf);first|refine gA ?_|(refine gB ?_ ?_<;>intro h)|intro _))<;>try (conv=>whnf)
 all_goals refine⟨?_,rfl,trivial⟩
 all_goals simp
theorem yR (l:List (List Int)) (fc:Nat) (caps:List AV) (p:List Int→Bool) (hc:∀x:List Int,Con fc ([.d (ints x)]++caps.map .ref) (.d (.bool (p x)))):
  Con 141 [.d (.sl (l.map ints)),.fn fc caps] (.d (i64 (aQ p l 0))):=by
 refine con Tryz.func141 rfl rfl Tryz.call141 rfl fun hwf=>?_
 simp only [ARs.wf,AR.wf,AV.wf,AV.wfs,lm,lim] at hwf
 (conv=>whnf)
 refine aB [0,1,7] [] [] ?_
 (conv=>whnf)
 refine aA.go ((Nat)) (fun k=>(k≤l.length)∧(aQ p (l.drop k) k=aQ p l 0)) (fun k=>[(8,.data (i64 k))]) (fun _=>[]) (fun _=>[]) (fun k=>l.length - k) (0) ?_ ?_
 ·exact⟨by omega,rfl⟩
 rintro k ⟨hk,hi⟩
 (repeat' ((conv=>whnf);first|refine gA ?_|(refine gB ?_ ?_<;>intro h)|(refine gI ?_;intro x hx)|(refine gJ ?_;intro j x hj hx)|refine gV ?_|refine gC (hc x) ?_|intro _))<;>try (conv=>whnf)
 all_goals first
  |exact trivial
  |(refine⟨?_,rfl,trivial⟩;rw [bC (l:=l) (by assumption)] at hi;first|(simp_all [aQ];done)|(simp only [aQ, ← hi];clear hi;simp_all [aQ];done))
  |(refine⟨?_,rfl,trivial⟩;rw [aF (l:=l) (by assumption)] at hi;first|(simp_all [aQ];done)|(simp only [aQ, ← hi];clear hi;simp_all [aQ];done))
  |(refine nx (k+1) ?_
    rw [aF (l:=l) (by assumption)] at hi;refine⟨by omega,?_⟩;simp_all [aQ];done)
theorem vK (l:List (List Int)) (fc:Nat) (caps:List AV) (p:List Int→Bool) (hc:∀x:List Int,Con fc ([.d (ints x)]++caps.map .ref) (.d (.bool (p x)))):
  Con 107 [.d (.sl (l.map ints)),.fn fc caps] (.d (.bool (l.any p))):=by
 refine con Tryz.func107 rfl rfl Tryz.call107 rfl fun hwf=>?_
 (repeat' ((conv=>whnf);first|refine gA ?_|(refine gB ?_ ?_<;>intro h)|refine gC (yR l fc caps p hc) ?_|intro _))<;>try (conv=>whnf)
 refine⟨?_,rfl,trivial⟩
 rw [← vY l 0]
theorem aae {n:Nat} {f:Nat→Bool}:(List.range n).any f=false↔∀i,i < n→f i=false:=by simp
theorem YV {n:Nat} {f:Nat→Bool} (k:Nat) (hk:k < n) (h:f k=true):(List.range n).any f=true:=by simp;exact⟨k,hk,h⟩
theorem YW {f:Nat→Bool} {k:Nat} (h:∀i,i < k→f i=false) (hf:f k=false):∀i,i < k+1→f i=false:=by
 intro i hi
 by_cases e:i=k
 ·rw [e];exact hf
 ·exact h i (by omega)
theorem aY (b:Dom):Con 78 [.d b.av] (.d (.bool (aP b))):=by
 refine con Tryz.func78 rfl rfl Tryz.call78 rfl fun hwf=>?_
 simp only [ARs.wf,AR.wf,AV.wf,AV.wfs,lm,lim] at hwf
 (repeat' ((conv=>whnf);first|refine gA ?_|(refine gB ?_ ?_<;>intro h)|(refine gI ?_;intro x hx)|(refine gJ ?_;intro j x hj hx)|refine gV ?_|intro _))<;>try (conv=>whnf)
 refine aB [1,6,7] [1] [] ?_
 (conv=>whnf)
 refine aA.go ((Nat)) (fun k=>(k≤b.lo.length)∧(∀i,i < k→nE b i=false)) (fun k=>[(8,.data (i64 k))]) (fun _=>[]) (fun _=>[]) (fun k=>b.lo.length - k) (0) ?_ ?_
 ·exact⟨by omega,by omega⟩
 rintro k ⟨hk,hi⟩
 (repeat' ((conv=>whnf);first|refine gA ?_|(refine gB ?_ ?_<;>intro h)|(refine gI ?_;intro x hx)|(refine gJ ?_;intro j x hj hx)|refine gV ?_|refine gC (vK b.modes 108 [] _ fun x=>ED x) ?_|intro _))<;>try (conv=>whnf)
 all_goals first
  |(refine⟨?_,rfl,trivial⟩;rw [aP,YV k (by omega) (by simp [nE, *])];rfl)
  |(refine nx (k+1) ?_
    exact⟨by omega,YW hi (by first|(simp [nE, *];done)|simp [nE,hx,List.getElem?_eq_none (show b.hi.length≤k by omega)])⟩)
  |(refine⟨?_,rfl,trivial⟩;rw [aP,aae.2 fun i hh=>hi i (by omega)];rfl)
theorem EF {m:List Int} {f:Int→Bool} (h:uE m=true):uE (m.filter f)=true:=by
 have hp:=(EC h).filter f
 rw [Oo]
 intro i hi
 exact (List.pairwise_iff_getElem.1 hp) i (i+1) (by omega) hi (by omega)
theorem nL (p:Proj) (l:List Lit) (hp:p.fine):Con 68 [.d p.av,.d (lits l)] (.d (fP p l).av):=by
 refine con Tryz.func68 rfl rfl Tryz.call68 rfl fun hwf=>?_
 simp only [ARs.wf,AR.wf,AV.wf,AV.wfs,lm,lim] at hwf
 (repeat' ((conv=>whnf);first|refine gA ?_|(refine gB ?_ ?_<;>intro h)|(refine gI ?_;intro x hx)|(refine gJ ?_;intro j x hj hx)|refine gV ?_|refine gC (nK p hp) ?_|intro _))<;>try (conv=>whnf)
 refine aB [4,5,10,11] [4] [] ?_
 (conv=>whnf)
 refine aA.go ((Nat)×(Dom)) (fun⟨k,d⟩=>(k≤l.length)∧(against d (l.drop k)=fP p l)) (fun⟨k,d⟩=>[(12,.data (i64 k))]) (fun⟨k,d⟩=>[(5,(AV.cells d.av).map SV.data)]) (fun _=>[]) (fun⟨k,d⟩=>l.length - k) ⟨0,bf p⟩ ?_ ?_
 ·exact⟨by omega,rfl⟩
 rintro⟨k,d⟩ ⟨hk,hi⟩
 (repeat' ((conv=>whnf);first|refine gA ?_|(refine gB ?_ ?_<;>intro h)|(refine gI ?_;intro x hx)|(refine gJ ?_;intro j x hj hx)|refine gV ?_|refine gC (gF _) ?_|refine gC (fu d (negate x)) ?_|intro _))<;>try (conv=>whnf)
 ·refine nx ⟨k+1,restrict d (negate x)⟩ ?_
  rw [aF hx] at hi
  exact⟨by omega,hi⟩
 ·refine⟨?_,rfl,trivial⟩
  rw [bC (by assumption)] at hi
  rw [← hi];rfl
open Go.Proofs
def sameAt (a b:List Int) (i:Nat):Bool:=decide (a.getD i 0=b.getD i 0)
theorem Vn {a b:List Int} (h:a.length=b.length):decide (a=b)=CV a.length (sameAt a b):=by
 rw [Bool.eq_iff_iff,decide_eq_true_eq,bX]
 constructor
 ·rintro rfl i hi;simp [sameAt]
 ·intro hh
  refine List.ext_getElem h fun i h1 h2=>?_
  have:=hh i h1
  simpa [sameAt,List.getD_eq_getElem?_getD,List.getElem?_eq_getElem h1,List.getElem?_eq_getElem h2] using this
theorem slices_Equal_int (a b:List Int):Con 179 [.d (ints a),.d (ints b)] (.d (.bool (decide (a=b)))):=by
 refine con Tryz.func179 rfl rfl Tryz.call179 rfl fun hwf=>?_
 simp only [ARs.wf,AR.wf,AV.wf,AV.wfs,lm,lim] at hwf
 by_cases hl:a.length=b.length
 ·rw [Vn hl]
  (repeat' ((conv=>whnf);first|(exfalso;omega)|refine gA ?_|(refine gB ?_ ?_<;>intro h)|(refine gI ?_;intro x hx)|(refine gJ ?_;intro j x hj hx)|refine gV ?_|intro _))<;>try (conv=>whnf)
  refine aB [0,1,12] [] [] ?_
  (conv=>whnf)
  refine aA.go ((Nat)) (fun k=>(k≤a.length)∧(∀i,i < k→sameAt a b i=true)) (fun k=>[(13,.data (i64 k))]) (fun _=>[]) (fun _=>[]) (fun k=>a.length - k) (0) ?_ ?_
  ·exact⟨by omega,by omega⟩
  rintro k ⟨hk,hi⟩
  (repeat' ((conv=>whnf);first|refine gA ?_|(refine gB ?_ ?_<;>intro h)|(refine gI ?_;intro x hx)|(refine gJ ?_;intro j x hj hx)|refine gV ?_|intro _))<;>try (conv=>whnf)
  all_goals first
   |(refine⟨?_,rfl,trivial⟩;rw [lT k (by omega) (by simp [sameAt,List.getD_eq_getElem?_getD, *])];done)
   |(refine nx (k+1) ?_
     exact⟨by omega,lU hi (by simp [sameAt,List.getD_eq_getElem?_getD, *])⟩)
   |(refine⟨?_,rfl,trivial⟩;rw [bX.2 fun i hh=>hi i (by omega)])
 ·(repeat' ((conv=>whnf);first|(exfalso;omega)|refine gA ?_|(refine gB ?_ ?_<;>intro h)|(refine gI ?_;intro x hx)|(refine gJ ?_;intro j x hj hx)|refine gV ?_|intro _))<;>try (conv=>whnf)
  all_goals first
   |(exfalso;omega)
   |(refine⟨?_,rfl,trivial⟩;simp;intro e;rw [e] at hl;exact hl rfl)
theorem MS (a b:List Int):Con 143 [.d (ints a),.d (ints b)] (.d (.bool (decide (a=b)))):=by
 refine con Tryz.func143 rfl rfl Tryz.call143 rfl fun hwf=>?_
 (repeat' ((conv=>whnf);first|refine gA ?_|(refine gB ?_ ?_<;>intro h)|refine gC (slices_Equal_int a b) ?_|intro _))<;>try (conv=>whnf)
 exact⟨rfl,rfl,trivial⟩
theorem Qx (a b:Bool):Con 142 [.d (.bool a),.d (.bool b)] (.d (i64 (valueOf a b))):=by
 refine con Tryz.func142 rfl rfl Tryz.call142 rfl fun hwf=>?_
 cases a<;>cases b
 all_goals ((repeat' ((conv=>whnf);first|refine gA ?_|(refine gB ?_ ?_<;>intro h)|intro _))<;>try (conv=>whnf))
 all_goals exact⟨rfl,rfl,trivial⟩
theorem Vo (a b:Bool): -1≤valueOf a b∧valueOf a b≤1:=by cases a<;>cases b<;>simp [valueOf]
theorem Tk {m:List Int} {v:Int}:0 - valueOf (decide (m= [v])) (!m.contains v)=valueOf (!m.contains v) (decide (m= [v])):=by
 by_cases h:m= [v]
 ·subst h;simp [valueOf]
 ·cases hc:m.contains v<;>simp [valueOf,h]
theorem oL (b:Dom) (l:Lit):Con 109 [.d b.av,.d l.av] (.d (i64 (litValue b l))):=by
 refine con Tryz.func109 rfl rfl Tryz.call109 rfl fun hwf=>?_
 cases hd:eF b l.act with
 |false=>
  (repeat' ((conv=>whnf);first|refine gA ?_|(refine gB ?_ ?_<;>intro h)|(refine gI ?_;intro x hx)|(refine gJ ?_;intro j x hj hx)|refine gV ?_|refine gC (EB b _) ?_|intro _))<;>try (conv=>whnf)
  refine⟨?_,rfl,trivial⟩
  rw [litValue,if_neg (by simp [hd])]
 |true=>
  obtain⟨n,x,y,m,ha,hlo,hhi,hmo⟩:=KP hd
  have han:l.act.toNat=n:=by omega
  have hv:=Vo (decide (m= [l.val])) (!m.contains l.val)
  (repeat' ((conv=>whnf);first|with_reducible refine Idx.got hlo ha ?_|with_reducible refine Idx.got hhi ha ?_|with_reducible refine Idx.got hmo ha ?_|refine gA ?_|(refine gB ?_ ?_<;>intro h)|(refine gI ?_;intro x hx)|(refine gJ ?_;intro j x hj hx)|refine gV ?_|refine gC (EB b _) ?_|refine gC (MS m [l.val]) ?_|refine gC (uI m _) ?_|refine gC (Qx _ _) ?_|intro _))<;>try (conv=>whnf)
  all_goals refine⟨?_,rfl,trivial⟩
  all_goals (rw [litValue,if_pos hd];simp only [han,List.getD_eq_getElem?_getD,hlo,hhi,hmo,Option.getD_some])
  all_goals first
   |(rw [if_pos (by assumption)];done)
   |(rw [if_neg (by assumption),if_pos (by assumption)];done)
   |(rw [if_neg (by assumption),if_neg (by assumption),if_pos (by assumption)];done)
   |(rw [if_neg (by assumption),if_neg (by assumption),if_neg (by assumption),if_pos (by assumption), ← Tk];done)
   |(rw [if_neg (by assumption),if_neg (by assumption),if_neg (by assumption),if_neg (by assumption)];done)
def aaL (r:Int×Lit):RV:=.tup [.d (i64 r.1),.d r.2.av]
theorem kS (b:Dom) (l:List Lit):Con 81 [.d b.av,.d (lits l)] (aaL (status b l)):=by
 refine con Tryz.func81 rfl rfl Tryz.call81 rfl fun hwf=>?_
 simp only [ARs.wf,AR.wf,AV.wf,AV.wfs,lm,lim] at hwf
 (repeat' ((conv=>whnf);first|refine gA ?_|(refine gB ?_ ?_<;>intro h)|(refine gI ?_;intro x hx)|(refine gJ ?_;intro j x hj hx)|refine gV ?_|intro _))<;>try (conv=>whnf)
 refine aB [2,5,7,11,12] [2,5] [] ?_
 (conv=>whnf)
 refine aA.go ((Nat)×(Nat)×(Lit)) (fun⟨k,n,y⟩=>(k≤l.length)∧(n≤k)∧(aN b (l.drop k) n y=status b l)) (fun⟨k,n,y⟩=>[(13,.data (i64 k)),(6,.data (i64 n))]) (fun⟨k,n,y⟩=>[(7,(AV.cells y.av).map SV.data)]) (fun _=>[]) (fun⟨k,n,y⟩=>l.length - k) ⟨0,0,bU⟩ ?_ ?_
 ·exact⟨by omega,by omega,rfl⟩
 rintro⟨k,n,y⟩ ⟨hk,hn,hi⟩
 (repeat' ((conv=>whnf);first|refine gA ?_|(refine gB ?_ ?_<;>intro h)|(refine gI ?_;intro x hx)|(refine gJ ?_;intro j x hj hx)|refine gV ?_|refine gC (oL b _) ?_|intro _))<;>try (conv=>whnf)
 ·rw [aF hx,aN,if_pos h] at hi
  rw [← hi]
  exact fv
 ·refine nx ⟨k+1,n+1,x⟩ ?_
  rw [aF hx,aN,if_neg (by assumption),if_pos (by assumption)] at hi
  exact⟨by omega,by omega,hi⟩
 ·refine nx ⟨k+1,n,y⟩ ?_
  rw [aF hx,aN,if_neg (by assumption),if_neg (by assumption)] at hi
  exact⟨by omega,by omega,hi⟩
 all_goals rw [bC (by assumption),aN] at hi
 ·rw [if_pos h] at hi;rw [← hi];exact fv
 ·rw [if_neg (by assumption),if_pos (by omega)] at hi;rw [← hi];exact fv
 ·rw [if_neg (by assumption),if_neg (by omega)] at hi;rw [← hi];exact fv
theorem gT (p:Proj) (n:Int):Con 144 [.d p.av,.d (i64 n)] (.d (.bool (fT p n))):=by
 refine con Tryz.func144 rfl rfl Tryz.call144 rfl fun hwf=>?_
 simp only [ARs.wf,AR.wf,AV.wf,AV.wfs,lm,lim] at hwf
 (repeat' ((conv=>whnf);first|refine gA ?_|(refine gN ?_ ?_<;>intro h hw)|(refine gB ?_ ?_<;>intro h)|refine gV ?_|refine gC (aS _ _ _) ?_|intro _))<;>try (conv=>whnf)
 refine⟨?_,rfl,trivial⟩
 simp [fT]
theorem BM (p:Proj) (n:Int):Con 148 [.d p.av,.d (i64 n)] (.d (.bool (jS p n))):=by
 refine con Tryz.func148 rfl rfl Tryz.call148 rfl fun hwf=>?_
 simp only [ARs.wf,AR.wf,AV.wf,AV.wfs,lm,lim] at hwf
 (repeat' ((conv=>whnf);first|refine gA ?_|(refine gN ?_ ?_<;>intro h hw)|(refine gB ?_ ?_<;>intro h)|refine gV ?_|refine gC (aS _ _ _) ?_|intro _))<;>try (conv=>whnf)
 refine⟨?_,rfl,trivial⟩
 simp [jS]
theorem CZ {p:Proj} {a:Int} (h:fT p a=true):∃(n:Nat) (x:dR),a=n∧p.bB[n]? =some x:=by
 have hn:=within_iff.1 h
 exact⟨a.toNat,p.bB[a.toNat]'(by omega),by omega,by simp⟩
theorem lq (p:Proj) (r:Int):Con 110 [.d p.av,.d (i64 r)] (.d (.bool (iE p r))):=by
 refine con Tryz.func110 rfl rfl Tryz.call110 rfl fun hwf=>?_
 simp only [ARs.wf,AR.wf,AV.wf,AV.wfs,lm,lim] at hwf
 cases hr:fT p r with
 |false=>
  (repeat' ((conv=>whnf);first|refine gA ?_|(refine gB ?_ ?_<;>intro h)|(refine gI ?_;intro x hx)|(refine gJ ?_;intro j x hj hx)|refine gC (gT p _) ?_|intro _))<;>try (conv=>whnf)
  refine⟨?_,rfl,trivial⟩
  simp [iE,hr]
 |true=>
  obtain⟨n,x,ha,hx⟩:=CZ hr
  have e:r.toNat=n:=by omega
  (repeat' ((conv=>whnf);first|with_reducible refine Idx.got hx ha ?_|refine gA ?_|(refine gB ?_ ?_<;>intro h)|(refine gI ?_;intro x hx)|(refine gJ ?_;intro j x hj hx)|refine gC (gT p _) ?_|intro _))<;>try (conv=>whnf)
  refine⟨?_,rfl,trivial⟩
  simp [iE,hr,e,List.getD_eq_getElem?_getD,hx]
theorem eH (p:Proj) (r:Rul) (hp:p.fine):Con 133 [.d p.av,.d r.av] (.d (.bool (jd p r))):=by
 refine con Tryz.func133 rfl rfl Tryz.call133 rfl fun hwf=>?_
 simp only [ARs.wf,AR.wf,AV.wf,AV.wfs,lm,lim] at hwf
 (repeat' ((conv=>whnf);first|refine gA ?_|(refine gN ?_ ?_<;>intro h hw)|(refine gB ?_ ?_<;>intro h)|refine gV ?_|refine gC (bn p hp) ?_|refine gC (gQ p _) ?_|refine gC (gT p _) ?_|refine gC (BM p _) ?_|refine gC (lq p _) ?_|refine gC (jZ _) ?_|refine gC (aS _ _ _) ?_|intro _))<;>try (conv=>whnf)
 all_goals refine⟨?_,rfl,trivial⟩
 all_goals (simp [jd, *];done)
end Go.Proofs.YtmenphiahgkjkaaGreatDoor.Abs
