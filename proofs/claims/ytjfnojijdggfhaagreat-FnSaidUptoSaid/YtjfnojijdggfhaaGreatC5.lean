/- Contracts: literals, domains' form, clauses. -/
import Derived.Test.YtjfnojijdggfhaaGreatC4
set_option linter.all false
set_option maxRecDepth 20000
set_option maxHeartbeats 0
namespace Go.Proofs.YtjfnojijdggfhaaGreat.Abs
open Go.Proofs
theorem kY {p:Proj} {a:Int} (h:bA p a=true):∃(n:Nat) (x:aJ),a=n∧p.acts[n]? =some x:=by
 have hn:=within_iff.1 h
 exact⟨a.toNat,p.acts[a.toNat]'(by omega),by omega,by simp⟩
theorem pQ (p:Proj) (l:Lit) (hp:p.fine):Con 73 [.d p.av,.d l.av] (.d (.bool (iV p l))):=by
 refine con Tryz.func73 rfl rfl Tryz.call73 rfl fun hwf=>?_
 simp only [ARs.wf,AR.wf,AV.wf,AV.wfs,lm,lim] at hwf
 cases h2:bA p l.act with
 |false=>
  (repeat' ((conv=>whnf);first|refine gA ?_|(refine gN ?_ ?_<;>intro h hw)|(refine gB ?_ ?_<;>intro h)|(refine gI ?_;intro x hx)|(refine gJ ?_;intro j x hj hx)|refine gV ?_|refine gC (bN p hp) ?_|refine gC (eT p _) ?_|refine gC (aO _ _ _) ?_|intro _))<;>try (conv=>whnf)
  all_goals first
   |(refine⟨?_,rfl,trivial⟩;simp [iV, *];done)
   |(exfalso;simp [bA, *] at h2;done)
 |true=>
  obtain⟨n,x,ha,hx⟩:=kY h2
  have hm:=Af hwf.1.2.1.2 hx
  have e:l.act.toNat=n:=by omega
  simp only [AV.wf,AV.wfs,List.length_map] at hm
  (repeat' ((conv=>whnf);first|with_reducible refine Idx.got hx (by first|exact ha|rfl) ?_|refine gA ?_|(refine gN ?_ ?_<;>intro h hw)|(refine gB ?_ ?_<;>intro h)|(refine gI ?_;intro x hx)|(refine gJ ?_;intro j x hj hx)|refine gV ?_|refine gC (bN p hp) ?_|refine gC (eT p _) ?_|refine gC (aO _ _ _) ?_|intro _))<;>try (conv=>whnf)
  all_goals first
   |(refine⟨?_,rfl,trivial⟩;simp [iV, *, -ha];done)
   |(exfalso;simp [bA, *] at h2;done)
theorem RX (n:Int):Con 195 [.d (i64 n)] (.d (.bool false)):=by
 refine con Tryz.func195 rfl rfl Tryz.call195 rfl fun hwf=>?_
 (repeat' ((conv=>whnf);first|refine gA ?_|(refine gB ?_ ?_<;>intro h)|intro _))<;>try (conv=>whnf)
 refine⟨?_,rfl,trivial⟩
 simp
theorem NY (x y:Int):Con 159 [.d (i64 x),.d (i64 y)] (.d (i64 (Ga x y))):=by
 refine con Tryz.func159 rfl rfl Tryz.call159 rfl fun hwf=>?_
 (repeat' ((conv=>whnf);first|refine gA ?_|(refine gN ?_ ?_<;>intro h hw)|(refine gB ?_ ?_<;>intro h)|refine gC (RX _) ?_|intro _))<;>try (conv=>whnf)
 all_goals refine⟨?_,rfl,trivial⟩
 all_goals (simp only [Ga,i64,AV.int.injEq,true_and];split<;>(try split)<;>omega)
theorem WJ (l:List Int):Con 158 [.d (ints l)] (.d (i64 (orI l))):=by
 refine con Tryz.func158 rfl rfl Tryz.call158 rfl fun hwf=>?_
 simp only [ARs.wf,AR.wf,AV.wf,AV.wfs,lm,lim] at hwf
 (repeat' ((conv=>whnf);first|refine gA ?_|(refine gB ?_ ?_<;>intro h)|(refine gI ?_;intro x hx)|(refine gJ ?_;intro j x hj hx)|refine gV ?_|intro _))<;>try (conv=>whnf)
 refine aC [3,6,7] [] [] ?_
 (conv=>whnf)
 refine aB.go ((Nat)) (fun k=>(k≤l.length)∧(orI (l.drop k)=orI l)) (fun k=>[(8,.data (i64 k))]) (fun _=>[]) (fun _=>[]) (fun k=>l.length - k) (0) ?_ ?_
 ·exact⟨by omega,rfl⟩
 rintro k ⟨hk,hi⟩
 (repeat' ((conv=>whnf);first|refine gA ?_|(refine gB ?_ ?_<;>intro h)|(refine gI ?_;intro x hx)|(refine gJ ?_;intro j x hj hx)|refine gV ?_|intro _))<;>try (conv=>whnf)
 all_goals first
  |exact trivial
  |(refine⟨?_,rfl,trivial⟩;rw [aM (l:=l) (by assumption)] at hi;first|(simp_all [orI];done)|(simp only [orI, ← hi];clear hi;simp_all [orI];done))
  |(refine⟨?_,rfl,trivial⟩;rw [au (l:=l) (by assumption)] at hi;first|(simp_all [orI];done)|(simp only [orI, ← hi];clear hi;simp_all [orI];done))
  |(refine nx (k+1) ?_
    rw [au (l:=l) (by assumption)] at hi;refine⟨by omega,?_⟩;simp_all [orI];done)
theorem nG (a b:Lit):Con 112 [.d a.av,.d b.av] (.d (i64 (iY a b))):=by
 refine con Tryz.func112 rfl rfl Tryz.call112 rfl fun hwf=>?_
 (repeat' ((conv=>whnf);first|refine gA ?_|(refine gB ?_ ?_<;>intro h)|refine gC (NY _ _) ?_|refine gC (WJ [Ga a.act b.act,Ga a.kind b.kind,Ga a.val b.val]) ?_|intro _))<;>try (conv=>whnf)
 exact⟨rfl,rfl,trivial⟩
theorem IQ (p:Proj) (l:List Lit) (hp:p.fine):Con 49 [.d p.av,.d (lits l)] (.d (.bool (lT p l))):=by
 refine con Tryz.func49 rfl rfl Tryz.call49 rfl fun hwf=>?_
 simp only [ARs.wf,AR.wf,AV.wf,AV.wfs,lm,lim] at hwf
 (repeat' ((conv=>whnf);first|refine gA ?_|(refine gB ?_ ?_<;>intro h)|(refine gI ?_;intro x hx)|(refine gJ ?_;intro j x hj hx)|refine gV ?_|intro _))<;>try (conv=>whnf)
 refine aC [1,2,7,8] [2] [] ?_
 (conv=>whnf)
 refine aB.go ((Nat)) (fun k=>(k≤l.length)∧(∀i,i < k→clauseAt p l i=true)) (fun k=>[(9,.data (i64 k))]) (fun _=>[]) (fun _=>[]) (fun k=>l.length - k) (0) ?_ ?_
 ·exact⟨by omega,by omega⟩
 rintro k ⟨hk,hi⟩
 (repeat' ((conv=>whnf);first|refine gA ?_|(refine gB ?_ ?_<;>intro h)|(refine gI ?_;intro x hx)|(refine gJ ?_;intro j x hj hx)|refine gV ?_|refine gC (pQ p _ hp) ?_|refine gC (nG _ _) ?_|intro _))<;>try (conv=>whnf)
 all_goals first
  |(refine⟨?_,rfl,trivial⟩;rw [lT,jE k (by omega) (by (try (obtain rfl:j=k - 1:=by omega));simp [clauseAt, *];try omega)];rfl)
  |(refine nx (k+1) ?_
    exact⟨by omega,iP hi (by (try (obtain rfl:j=k - 1:=by omega));simp [clauseAt, *];try omega)⟩)
  |(refine⟨?_,rfl,trivial⟩;rw [lT,bf.2 fun i hh=>hi i (by omega)];simp)
theorem yL (p:Proj) (hp:p.fine):Con 121 [.d p.av] (.d (aV p).av):=by
 refine con Tryz.func121 rfl rfl Tryz.call121 rfl fun hwf=>?_
 simp only [ARs.wf,AR.wf,AV.wf,AV.wfs,lm,lim] at hwf
 cases ho:aK p with
 |false=>
  (repeat' ((conv=>whnf);first|refine gA ?_|(refine gB ?_ ?_<;>intro h)|(refine gI ?_;intro x hx)|(refine gJ ?_;intro j x hj hx)|refine gP ?_|refine gV ?_|refine gC (bN p hp) ?_|intro _))<;>try (conv=>whnf)
  refine⟨?_,rfl,trivial⟩
  rw [aV,if_neg (by simp [ho])];rfl
 |true=>
 have hd:within p.dead 1 60=true:=by simp [aK,nW] at ho;simp [ho]
 have hd:=within_iff.1 hd
 (repeat' ((conv=>whnf);first|refine gA ?_|(refine gB ?_ ?_<;>intro h)|(refine gI ?_;intro x hx)|(refine gJ ?_;intro j x hj hx)|refine gP ?_|refine gV ?_|refine gC (bN p hp) ?_|intro _))<;>try (conv=>whnf)
 refine aC [1,2,3,12,13] [1,2] [21,28,34] ?_
 (conv=>whnf)
 refine aB.go ((Nat)) (fun k=>(k≤p.acts.length)) (fun k=>[(14,.data (i64 k))]) (fun k=>[(3,[.own 21 0,.own 28 0,.own 34 0])]) (fun k=>[(21,3,(p.acts.take k).map (fun _=>i64 0),0),(28,3,(p.acts.take k).map (fun _=>i64 (p.dead - 1)),0),(34,26,(p.acts.take k).map (fun a=>ints (aH a.modes.length)),0)]) (fun k=>p.acts.length - k) (0) ?_ ?_
 ·exact Nat.zero_le _
 rintro k hk
 (repeat' ((conv=>whnf);first|refine gA ?_|(refine gB ?_ ?_<;>intro h)|(refine gI ?_;intro x hx)|(refine gJ ?_;intro j x hj hx)|refine gP ?_|refine gV ?_|refine gC (mI x) ?_|intro _))<;>try (conv=>whnf)
 ·refine nw (k+1) ?_ ?_
  ·(repeat' ((conv=>whnf)<;>(first|exact trivial|exact rfl|with_reducible refine And.intro ?_ ?_)))<;>((conv=>whnf)<;>(exact jr _ hx))
  exact (by omega:k+1≤p.acts.length)
 ·refine⟨?_,rfl,trivial⟩
  rw [aV,if_pos ho,kL]
  dsimp only
  rw [List.take_of_length_le (by omega)]
  simp [List.map_map,Function.comp_def]
theorem PV (p:Proj) (hd:1≤p.dead∧p.dead≤60):Con 93 [.d p.av] (.d (kL p).av):=by
 refine con Tryz.func93 rfl rfl Tryz.call93 rfl fun hwf=>?_
 simp only [ARs.wf,AR.wf,AV.wf,AV.wfs,lm,lim] at hwf
 (repeat' ((conv=>whnf);first|refine gA ?_|(refine gB ?_ ?_<;>intro h)|(refine gI ?_;intro x hx)|(refine gJ ?_;intro j x hj hx)|refine gP ?_|refine gV ?_|intro _))<;>try (conv=>whnf)
 refine aC [1,2,3,8,9] [1,2] [17,25,32] ?_
 (conv=>whnf)
 refine aB.go ((Nat)) (fun k=>(k≤p.acts.length)) (fun k=>[(10,.data (i64 k))]) (fun k=>[(3,[.own 17 0,.own 25 0,.own 32 0])]) (fun k=>[(17,3,(p.acts.take k).map (fun _=>i64 0),0),(25,3,(p.acts.take k).map (fun _=>i64 (p.dead - 1)),0),(32,26,(p.acts.take k).map (fun a=>ints (aH a.modes.length)),0)]) (fun k=>p.acts.length - k) (0) ?_ ?_
 ·exact Nat.zero_le _
 rintro k hk
 (repeat' ((conv=>whnf);first|refine gA ?_|(refine gB ?_ ?_<;>intro h)|(refine gI ?_;intro x hx)|(refine gJ ?_;intro j x hj hx)|refine gP ?_|refine gV ?_|refine gC (Cu x) ?_|intro _))<;>try (conv=>whnf)
 ·refine nw (k+1) ?_ ?_
  ·(repeat' ((conv=>whnf)<;>(first|exact trivial|exact rfl|with_reducible refine And.intro ?_ ?_)))<;>((conv=>whnf)<;>(exact jr _ hx))
  exact (by omega:k+1≤p.acts.length)
 ·refine⟨?_,rfl,trivial⟩
  rw [kL]
  dsimp only
  rw [List.take_of_length_le (by omega)]
  simp [List.map_map,Function.comp_def]
theorem bC (p:Proj) (b:Dom) (hp:p.fine):Con 10 [.d p.av,.d b.av] (.d (.bool (aA p b))):=by
 refine con Tryz.func10 rfl rfl Tryz.call10 rfl fun hwf=>?_
 simp only [ARs.wf,AR.wf,AV.wf,AV.wfs,lm,lim] at hwf
 (repeat' ((conv=>whnf);first|refine gA ?_|(refine gN ?_ ?_<;>intro h hw)|(refine gB ?_ ?_<;>intro h)|(refine gI ?_;intro x hx)|(refine gJ ?_;intro j x hj hx)|refine gV ?_|refine gC (bN p hp) ?_|intro _))<;>try (conv=>whnf)
 all_goals try (refine⟨?_,rfl,trivial⟩;simp [aA, *];done)
 refine aC [2,3,36,37] [2,3] [] ?_
 (conv=>whnf)
 refine aB.go ((Nat)) (fun k=>(k≤p.acts.length)∧(∀i,i < k→oh p b i=true)) (fun k=>[(38,.data (i64 k))]) (fun _=>[]) (fun _=>[]) (fun k=>p.acts.length - k) (0) ?_ ?_
 ·exact⟨by omega,by omega⟩
 rintro k ⟨hk,hi⟩
 by_cases hlt:k < p.acts.length
 ·obtain⟨lo,e1⟩:∃x,b.lo[k]? =some x:=⟨b.lo[k]'(by omega),by simp⟩
  obtain⟨hi',e2⟩:∃x,b.hi[k]? =some x:=⟨b.hi[k]'(by omega),by simp⟩
  obtain⟨mo,e3⟩:∃x,b.modes[k]? =some x:=⟨b.modes[k]'(by omega),by simp⟩
  obtain⟨ac,e4⟩:∃x,p.acts[k]? =some x:=⟨p.acts[k]'(by omega),by simp⟩
  (repeat' ((conv=>whnf);first|with_reducible refine Idx.got e1 rfl ?_|with_reducible refine Idx.got e2 rfl ?_|with_reducible refine Idx.got e3 rfl ?_|with_reducible refine Idx.got e4 rfl ?_|refine gA ?_|(refine gN ?_ ?_<;>intro h hw)|(refine gB ?_ ?_<;>intro h)|(refine gI ?_;intro x hx)|(refine gJ ?_;intro j x hj hx)|refine gV ?_|refine gC (LD _) ?_|refine gC (Gl _) ?_|refine gC (Gm _ _) ?_|refine gC (mI ac) ?_|intro _))<;>try (conv=>whnf)
  all_goals first
   |(exfalso;omega)
   |(refine⟨?_,rfl,trivial⟩;rw [aA,jE k hlt (by simp only [oh,e1,e2,e3,e4];simp [*])];simp;done)
   |(refine nx (k+1) ?_
     exact⟨by omega,iP hi (by simp only [oh,e1,e2,e3,e4];simp [*])⟩)
 ·(repeat' ((conv=>whnf);first|(exfalso;omega)|refine gA ?_|(refine gN ?_ ?_<;>intro h hw)|(refine gB ?_ ?_<;>intro h)|(refine gI ?_;intro x hx)|(refine gJ ?_;intro j x hj hx)|refine gV ?_|intro _))<;>try (conv=>whnf)
  refine⟨?_,rfl,trivial⟩
  rw [aA,bf.2 fun i hh=>hi i (by omega)];simp [*]
theorem Aj (l:List Int):Con 102 [.d (ints l)] (.d (.bool (decide ((l.length:Int)=0)))):=by
 refine con Tryz.func102 rfl rfl Tryz.call102 rfl fun hwf=>?_
 (repeat' ((conv=>whnf);first|refine gA ?_|(refine gB ?_ ?_<;>intro h)|intro _))<;>try (conv=>whnf)
 all_goals refine⟨?_,rfl,trivial⟩
 all_goals simp
theorem uN (l:List (List Int)) (fc:Nat) (caps:List AV) (p:List Int→Bool) (hc:∀x:List Int,Con fc ([.d (ints x)]++caps.map .ref) (.d (.bool (p x)))):
  Con 145 [.d (.sl (l.map ints)),.fn fc caps] (.d (i64 (aN p l 0))):=by
 refine con Tryz.func145 rfl rfl Tryz.call145 rfl fun hwf=>?_
 simp only [ARs.wf,AR.wf,AV.wf,AV.wfs,lm,lim] at hwf
 (conv=>whnf)
 refine aC [0,1,7] [] [] ?_
 (conv=>whnf)
 refine aB.go ((Nat)) (fun k=>(k≤l.length)∧(aN p (l.drop k) k=aN p l 0)) (fun k=>[(8,.data (i64 k))]) (fun _=>[]) (fun _=>[]) (fun k=>l.length - k) (0) ?_ ?_
 ·exact⟨by omega,rfl⟩
 rintro k ⟨hk,hi⟩
 (repeat' ((conv=>whnf);first|refine gA ?_|(refine gB ?_ ?_<;>intro h)|(refine gI ?_;intro x hx)|(refine gJ ?_;intro j x hj hx)|refine gV ?_|refine gC (hc x) ?_|intro _))<;>try (conv=>whnf)
 all_goals first
  |exact trivial
  |(refine⟨?_,rfl,trivial⟩;rw [aM (l:=l) (by assumption)] at hi;first|(simp_all [aN];done)|(simp only [aN, ← hi];clear hi;simp_all [aN];done))
  |(refine⟨?_,rfl,trivial⟩;rw [au (l:=l) (by assumption)] at hi;first|(simp_all [aN];done)|(simp only [aN, ← hi];clear hi;simp_all [aN];done))
  |(refine nx (k+1) ?_
    rw [au (l:=l) (by assumption)] at hi;refine⟨by omega,?_⟩;simp_all [aN];done)
theorem rG (l:List (List Int)) (fc:Nat) (caps:List AV) (p:List Int→Bool) (hc:∀x:List Int,Con fc ([.d (ints x)]++caps.map .ref) (.d (.bool (p x)))):
  Con 101 [.d (.sl (l.map ints)),.fn fc caps] (.d (.bool (l.any p))):=by
 refine con Tryz.func101 rfl rfl Tryz.call101 rfl fun hwf=>?_
 (repeat' ((conv=>whnf);first|refine gA ?_|(refine gB ?_ ?_<;>intro h)|refine gC (uN l fc caps p hc) ?_|intro _))<;>try (conv=>whnf)
 refine⟨?_,rfl,trivial⟩
 rw [← rV l 0]
theorem QY {n:Nat} {f:Nat→Bool}:(List.range n).any f=false↔∀i,i < n→f i=false:=by simp
theorem NZ {n:Nat} {f:Nat→Bool} (k:Nat) (hk:k < n) (h:f k=true):(List.range n).any f=true:=by simp;exact⟨k,hk,h⟩
theorem Oa {f:Nat→Bool} {k:Nat} (h:∀i,i < k→f i=false) (hf:f k=false):∀i,i < k+1→f i=false:=by
 intro i hi
 by_cases e:i=k
 ·rw [e];exact hf
 ·exact h i (by omega)
theorem dI (b:Dom):Con 39 [.d b.av] (.d (.bool (aS b))):=by
 refine con Tryz.func39 rfl rfl Tryz.call39 rfl fun hwf=>?_
 simp only [ARs.wf,AR.wf,AV.wf,AV.wfs,lm,lim] at hwf
 (repeat' ((conv=>whnf);first|refine gA ?_|(refine gB ?_ ?_<;>intro h)|(refine gI ?_;intro x hx)|(refine gJ ?_;intro j x hj hx)|refine gV ?_|intro _))<;>try (conv=>whnf)
 refine aC [1,6,7] [1] [] ?_
 (conv=>whnf)
 refine aB.go ((Nat)) (fun k=>(k≤b.lo.length)∧(∀i,i < k→jG b i=false)) (fun k=>[(8,.data (i64 k))]) (fun _=>[]) (fun _=>[]) (fun k=>b.lo.length - k) (0) ?_ ?_
 ·exact⟨by omega,by omega⟩
 rintro k ⟨hk,hi⟩
 (repeat' ((conv=>whnf);first|refine gA ?_|(refine gB ?_ ?_<;>intro h)|(refine gI ?_;intro x hx)|(refine gJ ?_;intro j x hj hx)|refine gV ?_|refine gC (rG b.modes 102 [] _ fun x=>Aj x) ?_|intro _))<;>try (conv=>whnf)
 all_goals first
  |(refine⟨?_,rfl,trivial⟩;rw [aS,NZ k (by omega) (by simp [jG, *])];rfl)
  |(refine nx (k+1) ?_
    exact⟨by omega,Oa hi (by first|(simp [jG, *];done)|simp [jG,hx,List.getElem?_eq_none (show b.hi.length≤k by omega)])⟩)
  |(refine⟨?_,rfl,trivial⟩;rw [aS,QY.2 fun i hh=>hi i (by omega)];rfl)
theorem Cy (b:Dom):Con 38 [.d b.av] (.d (.bool (aS b))):=by
 refine con Tryz.func38 rfl rfl Tryz.call38 rfl fun hwf=>?_
 simp only [ARs.wf,AR.wf,AV.wf,AV.wfs,lm,lim] at hwf
 (repeat' ((conv=>whnf);first|refine gA ?_|(refine gB ?_ ?_<;>intro h)|(refine gI ?_;intro x hx)|(refine gJ ?_;intro j x hj hx)|refine gV ?_|intro _))<;>try (conv=>whnf)
 refine aC [1,8,9] [1] [] ?_
 (conv=>whnf)
 refine aB.go ((Nat)) (fun k=>(k≤b.lo.length)∧(∀i,i < k→jG b i=false)) (fun k=>[(10,.data (i64 k))]) (fun _=>[]) (fun _=>[]) (fun k=>b.lo.length - k) (0) ?_ ?_
 ·exact⟨by omega,by omega⟩
 rintro k ⟨hk,hi⟩
 (repeat' ((conv=>whnf);first|refine gA ?_|(refine gB ?_ ?_<;>intro h)|(refine gI ?_;intro x hx)|(refine gJ ?_;intro j x hj hx)|refine gV ?_|intro _))<;>try (conv=>whnf)
 all_goals first
  |(refine⟨?_,rfl,trivial⟩;rw [aS,NZ k (by omega) (by simp [jG, *])];rfl)
  |(refine nx (k+1) ?_
    exact⟨by omega,Oa hi (by first|(simp [jG, *];done)|simp [jG,hx,List.getElem?_eq_none (show b.hi.length≤k by omega)])⟩)
  |skip
 have e:(List.range b.lo.length).any (jG b)=false:=QY.2 fun i hh=>hi i (by omega)
 clear hi
 refine aC [31,32] [] [] ?_
 (conv=>whnf)
 refine aB.go ((Nat)) (fun m=>(m≤b.modes.length)∧((b.modes.drop m).any (fun m=>decide ((m.length:Int)=0))=b.modes.any (fun m=>decide ((m.length:Int)=0)))) (fun m=>[(33,.data (i64 m))]) (fun _=>[]) (fun _=>[]) (fun m=>b.modes.length - m) (0) ?_ ?_
 ·exact⟨by omega,rfl⟩
 rintro m ⟨hm,hi⟩
 (repeat' ((conv=>whnf);first|refine gA ?_|(refine gB ?_ ?_<;>intro h)|(refine gI ?_;intro x hx)|(refine gJ ?_;intro j x hj hx)|refine gV ?_|intro _))<;>try (conv=>whnf)
 ·refine⟨?_,rfl,trivial⟩
  rw [au hx,List.any_cons] at hi
  rw [aS,e, ← hi];simp only [decide_eq_true h];simp
 ·refine nx (m+1) ?_
  rw [au hx,List.any_cons,decide_eq_false h,Bool.false_or] at hi
  exact⟨by omega,hi⟩
 ·refine⟨?_,rfl,trivial⟩
  rw [aM (by assumption)] at hi
  rw [aS,e, ← hi];rfl
theorem Ak {m:List Int} {f:Int→Bool} (h:lN m=true):lN (m.filter f)=true:=by
 have hp:=(Ai h).filter f
 rw [Cw]
 intro i hi
 exact (List.pairwise_iff_getElem.1 hp) i (i+1) (by omega) hi (by omega)
theorem pR (p:Proj) (l:List Lit) (hp:p.fine):Con 50 [.d p.av,.d (lits l)] (.d (fA p l).av):=by
 refine con Tryz.func50 rfl rfl Tryz.call50 rfl fun hwf=>?_
 simp only [ARs.wf,AR.wf,AV.wf,AV.wfs,lm,lim] at hwf
 (repeat' ((conv=>whnf);first|refine gA ?_|(refine gB ?_ ?_<;>intro h)|(refine gI ?_;intro x hx)|(refine gJ ?_;intro j x hj hx)|refine gV ?_|refine gC (yL p hp) ?_|intro _))<;>try (conv=>whnf)
 refine aC [4,5,10,11] [4] [] ?_
 (conv=>whnf)
 refine aB.go ((Nat)×(Dom)) (fun⟨k,d⟩=>(k≤l.length)∧(against d (l.drop k)=fA p l)) (fun⟨k,d⟩=>[(12,.data (i64 k))]) (fun⟨k,d⟩=>[(5,(AV.cells d.av).map SV.data)]) (fun _=>[]) (fun⟨k,d⟩=>l.length - k) ⟨0,aV p⟩ ?_ ?_
 ·exact⟨by omega,rfl⟩
 rintro⟨k,d⟩ ⟨hk,hi⟩
 (repeat' ((conv=>whnf);first|refine gA ?_|(refine gB ?_ ?_<;>intro h)|(refine gI ?_;intro x hx)|(refine gJ ?_;intro j x hj hx)|refine gV ?_|refine gC (qH _) ?_|refine gC (jv d (negate x)) ?_|intro _))<;>try (conv=>whnf)
 ·refine nx ⟨k+1,restrict d (negate x)⟩ ?_
  rw [au hx] at hi
  exact⟨by omega,hi⟩
 ·refine⟨?_,rfl,trivial⟩
  rw [aM (by assumption)] at hi
  rw [← hi];rfl
end Go.Proofs.YtjfnojijdggfhaaGreat.Abs
