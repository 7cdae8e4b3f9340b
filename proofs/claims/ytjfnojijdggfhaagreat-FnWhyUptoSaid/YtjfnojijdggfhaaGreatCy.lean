/- Contracts: literals, domains' form, clauses. -/
import Derived.Test.YtjfnojijdggfhaaGreatC4
set_option linter.all false
set_option maxRecDepth 20000
set_option maxHeartbeats 0
namespace Go.Proofs.YtjfnojijdggfhaaGreat.Abs
open Go.Proofs
theorem lT {p:Proj} {a:Int} (h:bg p a=true):∃(n:Nat) (x:aK),a=n∧p.acts[n]? =some x:=by
 have hn:=within_iff.1 h
 exact⟨a.toNat,p.acts[a.toNat]'(by omega),by omega,by simp⟩
theorem qA (p:Proj) (l:Lit) (hp:p.fine):Con 73 [.d p.av,.d l.av] (.d (.bool (jA p l))):=by
 refine con Tryz.func73 rfl rfl Tryz.call73 rfl fun hwf=>?_
 simp only [ARs.wf,AR.wf,AV.wf,AV.wfs,lm,lim] at hwf
 cases h2:bg p l.act with
 |false=>
  (repeat' ((conv=>whnf);first|refine gA ?_|(refine gN ?_ ?_<;>intro h hw)|(refine gB ?_ ?_<;>intro h)|(refine gI ?_;intro x hx)|(refine gJ ?_;intro j x hj hx)|refine gV ?_|refine gC (bU p hp) ?_|refine gC (fH p _) ?_|refine gC (aP _ _ _) ?_|intro _))<;>try (conv=>whnf)
  all_goals first
   |(refine⟨?_,rfl,trivial⟩;simp [jA, *];done)
   |(exfalso;simp [bg, *] at h2;done)
 |true=>
  obtain⟨n,x,ha,hx⟩:=lT h2
  have hm:=Cg hwf.1.2.1.2 hx
  have e:l.act.toNat=n:=by omega
  simp only [AV.wf,AV.wfs,List.length_map] at hm
  (repeat' ((conv=>whnf);first|with_reducible refine Idx.got hx (by first|exact ha|rfl) ?_|refine gA ?_|(refine gN ?_ ?_<;>intro h hw)|(refine gB ?_ ?_<;>intro h)|(refine gI ?_;intro x hx)|(refine gJ ?_;intro j x hj hx)|refine gV ?_|refine gC (bU p hp) ?_|refine gC (fH p _) ?_|refine gC (aP _ _ _) ?_|intro _))<;>try (conv=>whnf)
  all_goals first
   |(refine⟨?_,rfl,trivial⟩;simp [jA, *, -ha];done)
   |(exfalso;simp [bg, *] at h2;done)
theorem Um (n:Int):Con 195 [.d (i64 n)] (.d (.bool false)):=by
 refine con Tryz.func195 rfl rfl Tryz.call195 rfl fun hwf=>?_
 (repeat' ((conv=>whnf);first|refine gA ?_|(refine gB ?_ ?_<;>intro h)|intro _))<;>try (conv=>whnf)
 refine⟨?_,rfl,trivial⟩
 simp
theorem PX (x y:Int):Con 159 [.d (i64 x),.d (i64 y)] (.d (i64 (Ip x y))):=by
 refine con Tryz.func159 rfl rfl Tryz.call159 rfl fun hwf=>?_
 (repeat' ((conv=>whnf);first|refine gA ?_|(refine gN ?_ ?_<;>intro h hw)|(refine gB ?_ ?_<;>intro h)|refine gC (Um _) ?_|intro _))<;>try (conv=>whnf)
 all_goals refine⟨?_,rfl,trivial⟩
 all_goals (simp only [Ip,i64,AV.int.injEq,true_and];split<;>(try split)<;>omega)
theorem Yr (l:List Int):Con 158 [.d (ints l)] (.d (i64 (orI l))):=by
 refine con Tryz.func158 rfl rfl Tryz.call158 rfl fun hwf=>?_
 simp only [ARs.wf,AR.wf,AV.wf,AV.wfs,lm,lim] at hwf
 (repeat' ((conv=>whnf);first|refine gA ?_|(refine gB ?_ ?_<;>intro h)|(refine gI ?_;intro x hx)|(refine gJ ?_;intro j x hj hx)|refine gV ?_|intro _))<;>try (conv=>whnf)
 refine aB [3,6,7] [] [] ?_
 (conv=>whnf)
 refine aA.go ((Nat)) (fun k=>(k≤l.length)∧(orI (l.drop k)=orI l)) (fun k=>[(8,.data (i64 k))]) (fun _=>[]) (fun _=>[]) (fun k=>l.length - k) (0) ?_ ?_
 ·exact⟨by omega,rfl⟩
 rintro k ⟨hk,hi⟩
 (repeat' ((conv=>whnf);first|refine gA ?_|(refine gB ?_ ?_<;>intro h)|(refine gI ?_;intro x hx)|(refine gJ ?_;intro j x hj hx)|refine gV ?_|intro _))<;>try (conv=>whnf)
 all_goals first
  |exact trivial
  |(refine⟨?_,rfl,trivial⟩;rw [aJ (l:=l) (by assumption)] at hi;first|(simp_all [orI];done)|(simp only [orI, ← hi];clear hi;simp_all [orI];done))
  |(refine⟨?_,rfl,trivial⟩;rw [au (l:=l) (by assumption)] at hi;first|(simp_all [orI];done)|(simp only [orI, ← hi];clear hi;simp_all [orI];done))
  |(refine nx (k+1) ?_
    rw [au (l:=l) (by assumption)] at hi;refine⟨by omega,?_⟩;simp_all [orI];done)
theorem nY (a b:Lit):Con 112 [.d a.av,.d b.av] (.d (i64 (jD a b))):=by
 refine con Tryz.func112 rfl rfl Tryz.call112 rfl fun hwf=>?_
 (repeat' ((conv=>whnf);first|refine gA ?_|(refine gB ?_ ?_<;>intro h)|refine gC (PX _ _) ?_|refine gC (Yr [Ip a.act b.act,Ip a.kind b.kind,Ip a.val b.val]) ?_|intro _))<;>try (conv=>whnf)
 exact⟨rfl,rfl,trivial⟩
theorem Km (p:Proj) (l:List Lit) (hp:p.fine):Con 49 [.d p.av,.d (lits l)] (.d (.bool (lu p l))):=by
 refine con Tryz.func49 rfl rfl Tryz.call49 rfl fun hwf=>?_
 simp only [ARs.wf,AR.wf,AV.wf,AV.wfs,lm,lim] at hwf
 (repeat' ((conv=>whnf);first|refine gA ?_|(refine gB ?_ ?_<;>intro h)|(refine gI ?_;intro x hx)|(refine gJ ?_;intro j x hj hx)|refine gV ?_|intro _))<;>try (conv=>whnf)
 refine aB [1,2,7,8] [2] [] ?_
 (conv=>whnf)
 refine aA.go ((Nat)) (fun k=>(k≤l.length)∧(∀i,i < k→clauseAt p l i=true)) (fun k=>[(9,.data (i64 k))]) (fun _=>[]) (fun _=>[]) (fun k=>l.length - k) (0) ?_ ?_
 ·exact⟨by omega,by omega⟩
 rintro k ⟨hk,hi⟩
 (repeat' ((conv=>whnf);first|refine gA ?_|(refine gB ?_ ?_<;>intro h)|(refine gI ?_;intro x hx)|(refine gJ ?_;intro j x hj hx)|refine gV ?_|refine gC (qA p _ hp) ?_|refine gC (nY _ _) ?_|intro _))<;>try (conv=>whnf)
 all_goals first
  |(refine⟨?_,rfl,trivial⟩;rw [lu,iI k (by omega) (by (try (obtain rfl:j=k - 1:=by omega));simp [clauseAt, *];try omega)];rfl)
  |(refine nx (k+1) ?_
    exact⟨by omega,iC hi (by (try (obtain rfl:j=k - 1:=by omega));simp [clauseAt, *];try omega)⟩)
  |(refine⟨?_,rfl,trivial⟩;rw [lu,aX.2 fun i hh=>hi i (by omega)];simp)
theorem Aa (p:Proj) (hp:p.fine):Con 121 [.d p.av] (.d (aW p).av):=by
 refine con Tryz.func121 rfl rfl Tryz.call121 rfl fun hwf=>?_
 simp only [ARs.wf,AR.wf,AV.wf,AV.wfs,lm,lim] at hwf
 cases ho:aL p with
 |false=>
  (repeat' ((conv=>whnf);first|refine gA ?_|(refine gB ?_ ?_<;>intro h)|(refine gI ?_;intro x hx)|(refine gJ ?_;intro j x hj hx)|refine gP ?_|refine gV ?_|refine gC (bU p hp) ?_|intro _))<;>try (conv=>whnf)
  refine⟨?_,rfl,trivial⟩
  rw [aW,if_neg (by simp [ho])];rfl
 |true=>
 have hd:within p.dead 1 60=true:=by simp [aL,oM] at ho;simp [ho]
 have hd:=within_iff.1 hd
 (repeat' ((conv=>whnf);first|refine gA ?_|(refine gB ?_ ?_<;>intro h)|(refine gI ?_;intro x hx)|(refine gJ ?_;intro j x hj hx)|refine gP ?_|refine gV ?_|refine gC (bU p hp) ?_|intro _))<;>try (conv=>whnf)
 refine aB [1,2,3,12,13] [1,2] [21,28,34] ?_
 (conv=>whnf)
 refine aA.go ((Nat)) (fun k=>(k≤p.acts.length)) (fun k=>[(14,.data (i64 k))]) (fun k=>[(3,[.own 21 0,.own 28 0,.own 34 0])]) (fun k=>[(21,3,(p.acts.take k).map (fun _=>i64 0),0),(28,3,(p.acts.take k).map (fun _=>i64 (p.dead - 1)),0),(34,26,(p.acts.take k).map (fun a=>ints (aH a.modes.length)),0)]) (fun k=>p.acts.length - k) (0) ?_ ?_
 ·exact Nat.zero_le _
 rintro k hk
 (repeat' ((conv=>whnf);first|refine gA ?_|(refine gB ?_ ?_<;>intro h)|(refine gI ?_;intro x hx)|(refine gJ ?_;intro j x hj hx)|refine gP ?_|refine gV ?_|refine gC (nu x) ?_|intro _))<;>try (conv=>whnf)
 ·refine nw (k+1) ?_ ?_
  ·(repeat' ((conv=>whnf)<;>(first|exact trivial|exact rfl|with_reducible refine And.intro ?_ ?_)))<;>((conv=>whnf)<;>(exact iP _ hx))
  exact (by omega:k+1≤p.acts.length)
 ·refine⟨?_,rfl,trivial⟩
  rw [aW,if_pos ho,lC]
  dsimp only
  rw [List.take_of_length_le (by omega)]
  simp [List.map_map,Function.comp_def]
theorem RD (p:Proj) (hd:1≤p.dead∧p.dead≤60):Con 93 [.d p.av] (.d (lC p).av):=by
 refine con Tryz.func93 rfl rfl Tryz.call93 rfl fun hwf=>?_
 simp only [ARs.wf,AR.wf,AV.wf,AV.wfs,lm,lim] at hwf
 (repeat' ((conv=>whnf);first|refine gA ?_|(refine gB ?_ ?_<;>intro h)|(refine gI ?_;intro x hx)|(refine gJ ?_;intro j x hj hx)|refine gP ?_|refine gV ?_|intro _))<;>try (conv=>whnf)
 refine aB [1,2,3,8,9] [1,2] [17,25,32] ?_
 (conv=>whnf)
 refine aA.go ((Nat)) (fun k=>(k≤p.acts.length)) (fun k=>[(10,.data (i64 k))]) (fun k=>[(3,[.own 17 0,.own 25 0,.own 32 0])]) (fun k=>[(17,3,(p.acts.take k).map (fun _=>i64 0),0),(25,3,(p.acts.take k).map (fun _=>i64 (p.dead - 1)),0),(32,26,(p.acts.take k).map (fun a=>ints (aH a.modes.length)),0)]) (fun k=>p.acts.length - k) (0) ?_ ?_
 ·exact Nat.zero_le _
 rintro k hk
 (repeat' ((conv=>whnf);first|refine gA ?_|(refine gB ?_ ?_<;>intro h)|(refine gI ?_;intro x hx)|(refine gJ ?_;intro j x hj hx)|refine gP ?_|refine gV ?_|refine gC (Eh x) ?_|intro _))<;>try (conv=>whnf)
 ·refine nw (k+1) ?_ ?_
  ·(repeat' ((conv=>whnf)<;>(first|exact trivial|exact rfl|with_reducible refine And.intro ?_ ?_)))<;>((conv=>whnf)<;>(exact iP _ hx))
  exact (by omega:k+1≤p.acts.length)
 ·refine⟨?_,rfl,trivial⟩
  rw [lC]
  dsimp only
  rw [List.take_of_length_le (by omega)]
  simp [List.map_map,Function.comp_def]
theorem aQ (p:Proj) (b:Dom) (hp:p.fine):Con 10 [.d p.av,.d b.av] (.d (.bool (ay p b))):=by
 refine con Tryz.func10 rfl rfl Tryz.call10 rfl fun hwf=>?_
 simp only [ARs.wf,AR.wf,AV.wf,AV.wfs,lm,lim] at hwf
 (repeat' ((conv=>whnf);first|refine gA ?_|(refine gN ?_ ?_<;>intro h hw)|(refine gB ?_ ?_<;>intro h)|(refine gI ?_;intro x hx)|(refine gJ ?_;intro j x hj hx)|refine gV ?_|refine gC (bU p hp) ?_|intro _))<;>try (conv=>whnf)
 all_goals try (refine⟨?_,rfl,trivial⟩;simp [ay, *];done)
 refine aB [2,3,36,37] [2,3] [] ?_
 (conv=>whnf)
 refine aA.go ((Nat)) (fun k=>(k≤p.acts.length)∧(∀i,i < k→oQ p b i=true)) (fun k=>[(38,.data (i64 k))]) (fun _=>[]) (fun _=>[]) (fun k=>p.acts.length - k) (0) ?_ ?_
 ·exact⟨by omega,by omega⟩
 rintro k ⟨hk,hi⟩
 by_cases hlt:k < p.acts.length
 ·obtain⟨lo,e1⟩:∃x,b.lo[k]? =some x:=⟨b.lo[k]'(by omega),by simp⟩
  obtain⟨hi',e2⟩:∃x,b.hi[k]? =some x:=⟨b.hi[k]'(by omega),by simp⟩
  obtain⟨mo,e3⟩:∃x,b.modes[k]? =some x:=⟨b.modes[k]'(by omega),by simp⟩
  obtain⟨ac,e4⟩:∃x,p.acts[k]? =some x:=⟨p.acts[k]'(by omega),by simp⟩
  (repeat' ((conv=>whnf);first|with_reducible refine Idx.got e1 rfl ?_|with_reducible refine Idx.got e2 rfl ?_|with_reducible refine Idx.got e3 rfl ?_|with_reducible refine Idx.got e4 rfl ?_|refine gA ?_|(refine gN ?_ ?_<;>intro h hw)|(refine gB ?_ ?_<;>intro h)|(refine gI ?_;intro x hx)|(refine gJ ?_;intro j x hj hx)|refine gV ?_|refine gC (Nv _) ?_|refine gC (Ry _) ?_|refine gC (xg _ _) ?_|refine gC (nu ac) ?_|intro _))<;>try (conv=>whnf)
  all_goals first
   |(exfalso;omega)
   |(refine⟨?_,rfl,trivial⟩;rw [ay,iI k hlt (by simp only [oQ,e1,e2,e3,e4];simp [*])];simp;done)
   |(refine nx (k+1) ?_
     exact⟨by omega,iC hi (by simp only [oQ,e1,e2,e3,e4];simp [*])⟩)
 ·(repeat' ((conv=>whnf);first|(exfalso;omega)|refine gA ?_|(refine gN ?_ ?_<;>intro h hw)|(refine gB ?_ ?_<;>intro h)|(refine gI ?_;intro x hx)|(refine gJ ?_;intro j x hj hx)|refine gV ?_|intro _))<;>try (conv=>whnf)
  refine⟨?_,rfl,trivial⟩
  rw [ay,aX.2 fun i hh=>hi i (by omega)];simp [*]
theorem Ck (l:List Int):Con 102 [.d (ints l)] (.d (.bool (decide ((l.length:Int)=0)))):=by
 refine con Tryz.func102 rfl rfl Tryz.call102 rfl fun hwf=>?_
 (repeat' ((conv=>whnf);first|refine gA ?_|(refine gB ?_ ?_<;>intro h)|intro _))<;>try (conv=>whnf)
 all_goals refine⟨?_,rfl,trivial⟩
 all_goals simp
theorem wu (l:List (List Int)) (fc:Nat) (caps:List AV) (p:List Int→Bool) (hc:∀x:List Int,Con fc ([.d (ints x)]++caps.map .ref) (.d (.bool (p x)))):
  Con 145 [.d (.sl (l.map ints)),.fn fc caps] (.d (i64 (aO p l 0))):=by
 refine con Tryz.func145 rfl rfl Tryz.call145 rfl fun hwf=>?_
 simp only [ARs.wf,AR.wf,AV.wf,AV.wfs,lm,lim] at hwf
 (conv=>whnf)
 refine aB [0,1,7] [] [] ?_
 (conv=>whnf)
 refine aA.go ((Nat)) (fun k=>(k≤l.length)∧(aO p (l.drop k) k=aO p l 0)) (fun k=>[(8,.data (i64 k))]) (fun _=>[]) (fun _=>[]) (fun k=>l.length - k) (0) ?_ ?_
 ·exact⟨by omega,rfl⟩
 rintro k ⟨hk,hi⟩
 (repeat' ((conv=>whnf);first|refine gA ?_|(refine gB ?_ ?_<;>intro h)|(refine gI ?_;intro x hx)|(refine gJ ?_;intro j x hj hx)|refine gV ?_|refine gC (hc x) ?_|intro _))<;>try (conv=>whnf)
 all_goals first
  |exact trivial
  |(refine⟨?_,rfl,trivial⟩;rw [aJ (l:=l) (by assumption)] at hi;first|(simp_all [aO];done)|(simp only [aO, ← hi];clear hi;simp_all [aO];done))
  |(refine⟨?_,rfl,trivial⟩;rw [au (l:=l) (by assumption)] at hi;first|(simp_all [aO];done)|(simp only [aO, ← hi];clear hi;simp_all [aO];done))
  |(refine nx (k+1) ?_
    rw [au (l:=l) (by assumption)] at hi;refine⟨by omega,?_⟩;simp_all [aO];done)
theorem sI (l:List (List Int)) (fc:Nat) (caps:List AV) (p:List Int→Bool) (hc:∀x:List Int,Con fc ([.d (ints x)]++caps.map .ref) (.d (.bool (p x)))):
  Con 101 [.d (.sl (l.map ints)),.fn fc caps] (.d (.bool (l.any p))):=by
 refine con Tryz.func101 rfl rfl Tryz.call101 rfl fun hwf=>?_
 (repeat' ((conv=>whnf);first|refine gA ?_|(refine gB ?_ ?_<;>intro h)|refine gC (wu l fc caps p hc) ?_|intro _))<;>try (conv=>whnf)
 refine⟨?_,rfl,trivial⟩
 rw [← tu l 0]
theorem Tt {n:Nat} {f:Nat→Bool}:(List.range n).any f=false↔∀i,i < n→f i=false:=by simp
theorem PY {n:Nat} {f:Nat→Bool} (k:Nat) (hk:k < n) (h:f k=true):(List.range n).any f=true:=by simp;exact⟨k,hk,h⟩
theorem PZ {f:Nat→Bool} {k:Nat} (h:∀i,i < k→f i=false) (hf:f k=false):∀i,i < k+1→f i=false:=by
 intro i hi
 by_cases e:i=k
 ·rw [e];exact hf
 ·exact h i (by omega)
theorem bG (b:Dom):Con 39 [.d b.av] (.d (.bool (aR b))):=by
 refine con Tryz.func39 rfl rfl Tryz.call39 rfl fun hwf=>?_
 simp only [ARs.wf,AR.wf,AV.wf,AV.wfs,lm,lim] at hwf
 (repeat' ((conv=>whnf);first|refine gA ?_|(refine gB ?_ ?_<;>intro h)|(refine gI ?_;intro x hx)|(refine gJ ?_;intro j x hj hx)|refine gV ?_|intro _))<;>try (conv=>whnf)
 refine aB [1,6,7] [1] [] ?_
 (conv=>whnf)
 refine aA.go ((Nat)) (fun k=>(k≤b.lo.length)∧(∀i,i < k→jW b i=false)) (fun k=>[(8,.data (i64 k))]) (fun _=>[]) (fun _=>[]) (fun k=>b.lo.length - k) (0) ?_ ?_
 ·exact⟨by omega,by omega⟩
 rintro k ⟨hk,hi⟩
 (repeat' ((conv=>whnf);first|refine gA ?_|(refine gB ?_ ?_<;>intro h)|(refine gI ?_;intro x hx)|(refine gJ ?_;intro j x hj hx)|refine gV ?_|refine gC (sI b.modes 102 [] _ fun x=>Ck x) ?_|intro _))<;>try (conv=>whnf)
 all_goals first
  |(refine⟨?_,rfl,trivial⟩;rw [aR,PY k (by omega) (by simp [jW, *])];rfl)
  |(refine nx (k+1) ?_
    exact⟨by omega,PZ hi (by first|(simp [jW, *];done)|simp [jW,hx,List.getElem?_eq_none (show b.hi.length≤k by omega)])⟩)
  |(refine⟨?_,rfl,trivial⟩;rw [aR,Tt.2 fun i hh=>hi i (by omega)];rfl)
theorem Ej (b:Dom):Con 38 [.d b.av] (.d (.bool (aR b))):=by
 refine con Tryz.func38 rfl rfl Tryz.call38 rfl fun hwf=>?_
 simp only [ARs.wf,AR.wf,AV.wf,AV.wfs,lm,lim] at hwf
 (repeat' ((conv=>whnf);first|refine gA ?_|(refine gB ?_ ?_<;>intro h)|(refine gI ?_;intro x hx)|(refine gJ ?_;intro j x hj hx)|refine gV ?_|intro _))<;>try (conv=>whnf)
 refine aB [1,8,9] [1] [] ?_
 (conv=>whnf)
 refine aA.go ((Nat)) (fun k=>(k≤b.lo.length)∧(∀i,i < k→jW b i=false)) (fun k=>[(10,.data (i64 k))]) (fun _=>[]) (fun _=>[]) (fun k=>b.lo.length - k) (0) ?_ ?_
 ·exact⟨by omega,by omega⟩
 rintro k ⟨hk,hi⟩
 (repeat' ((conv=>whnf);first|refine gA ?_|(refine gB ?_ ?_<;>intro h)|(refine gI ?_;intro x hx)|(refine gJ ?_;intro j x hj hx)|refine gV ?_|intro _))<;>try (conv=>whnf)
 all_goals first
  |(refine⟨?_,rfl,trivial⟩;rw [aR,PY k (by omega) (by simp [jW, *])];rfl)
  |(refine nx (k+1) ?_
    exact⟨by omega,PZ hi (by first|(simp [jW, *];done)|simp [jW,hx,List.getElem?_eq_none (show b.hi.length≤k by omega)])⟩)
  |skip
 have e:(List.range b.lo.length).any (jW b)=false:=Tt.2 fun i hh=>hi i (by omega)
 clear hi
 refine aB [31,32] [] [] ?_
 (conv=>whnf)
 refine aA.go ((Nat)) (fun m=>(m≤b.modes.length)∧((b.modes.drop m).any (fun m=>decide ((m.length:Int)=0))=b.modes.any (fun m=>decide ((m.length:Int)=0)))) (fun m=>[(33,.data (i64 m))]) (fun _=>[]) (fun _=>[]) (fun m=>b.modes.length - m) (0) ?_ ?_
 ·exact⟨by omega,rfl⟩
 rintro m ⟨hm,hi⟩
 (repeat' ((conv=>whnf);first|refine gA ?_|(refine gB ?_ ?_<;>intro h)|(refine gI ?_;intro x hx)|(refine gJ ?_;intro j x hj hx)|refine gV ?_|intro _))<;>try (conv=>whnf)
 ·refine⟨?_,rfl,trivial⟩
  rw [au hx,List.any_cons] at hi
  rw [aR,e, ← hi];simp only [decide_eq_true h];simp
 ·refine nx (m+1) ?_
  rw [au hx,List.any_cons,decide_eq_false h,Bool.false_or] at hi
  exact⟨by omega,hi⟩
 ·refine⟨?_,rfl,trivial⟩
  rw [aJ (by assumption)] at hi
  rw [aR,e, ← hi];rfl
theorem Cm {m:List Int} {f:Int→Bool} (h:nV m=true):nV (m.filter f)=true:=by
 have hp:=(Cj h).filter f
 rw [Lu]
 intro i hi
 exact (List.pairwise_iff_getElem.1 hp) i (i+1) (by omega) hi (by omega)
theorem qB (p:Proj) (l:List Lit) (hp:p.fine):Con 50 [.d p.av,.d (lits l)] (.d (fu p l).av):=by
 refine con Tryz.func50 rfl rfl Tryz.call50 rfl fun hwf=>?_
 simp only [ARs.wf,AR.wf,AV.wf,AV.wfs,lm,lim] at hwf
 (repeat' ((conv=>whnf);first|refine gA ?_|(refine gB ?_ ?_<;>intro h)|(refine gI ?_;intro x hx)|(refine gJ ?_;intro j x hj hx)|refine gV ?_|refine gC (Aa p hp) ?_|intro _))<;>try (conv=>whnf)
 refine aB [4,5,10,11] [4] [] ?_
 (conv=>whnf)
 refine aA.go ((Nat)×(Dom)) (fun⟨k,d⟩=>(k≤l.length)∧(against d (l.drop k)=fu p l)) (fun⟨k,d⟩=>[(12,.data (i64 k))]) (fun⟨k,d⟩=>[(5,(AV.cells d.av).map SV.data)]) (fun _=>[]) (fun⟨k,d⟩=>l.length - k) ⟨0,aW p⟩ ?_ ?_
 ·exact⟨by omega,rfl⟩
 rintro⟨k,d⟩ ⟨hk,hi⟩
 (repeat' ((conv=>whnf);first|refine gA ?_|(refine gB ?_ ?_<;>intro h)|(refine gI ?_;intro x hx)|(refine gJ ?_;intro j x hj hx)|refine gV ?_|refine gC (rC _) ?_|refine gC (iQ d (negate x)) ?_|intro _))<;>try (conv=>whnf)
 ·refine nx ⟨k+1,restrict d (negate x)⟩ ?_
  rw [au hx] at hi
  exact⟨by omega,hi⟩
 ·refine⟨?_,rfl,trivial⟩
  rw [aJ (by assumption)] at hi
  rw [← hi];rfl
open Go.Proofs
def sameAt (a b:List Int) (i:Nat):Bool:=decide (a.getD i 0=b.getD i 0)
theorem RF {a b:List Int} (h:a.length=b.length):decide (a=b)=wV a.length (sameAt a b):=by
 rw [Bool.eq_iff_iff,decide_eq_true_eq,aX]
 constructor
 ·rintro rfl i hi;simp [sameAt]
 ·intro hh
  refine List.ext_getElem h fun i h1 h2=>?_
  have:=hh i h1
  simpa [sameAt,List.getD_eq_getElem?_getD,List.getElem?_eq_getElem h1,List.getElem?_eq_getElem h2] using this
theorem slices_Equal_int (a b:List Int):Con 85 [.d (ints a),.d (ints b)] (.d (.bool (decide (a=b)))):=by
 refine con Tryz.func85 rfl rfl Tryz.call85 rfl fun hwf=>?_
 simp only [ARs.wf,AR.wf,AV.wf,AV.wfs,lm,lim] at hwf
 by_cases hl:a.length=b.length
 ·rw [RF hl]
  (repeat' ((conv=>whnf);first|(exfalso;omega)|refine gA ?_|(refine gB ?_ ?_<;>intro h)|(refine gI ?_;intro x hx)|(refine gJ ?_;intro j x hj hx)|refine gV ?_|intro _))<;>try (conv=>whnf)
  refine aB [0,1,12] [] [] ?_
  (conv=>whnf)
  refine aA.go ((Nat)) (fun k=>(k≤a.length)∧(∀i,i < k→sameAt a b i=true)) (fun k=>[(13,.data (i64 k))]) (fun _=>[]) (fun _=>[]) (fun k=>a.length - k) (0) ?_ ?_
  ·exact⟨by omega,by omega⟩
  rintro k ⟨hk,hi⟩
  (repeat' ((conv=>whnf);first|refine gA ?_|(refine gB ?_ ?_<;>intro h)|(refine gI ?_;intro x hx)|(refine gJ ?_;intro j x hj hx)|refine gV ?_|intro _))<;>try (conv=>whnf)
  all_goals first
   |(refine⟨?_,rfl,trivial⟩;rw [iI k (by omega) (by simp [sameAt,List.getD_eq_getElem?_getD, *])];done)
   |(refine nx (k+1) ?_
     exact⟨by omega,iC hi (by simp [sameAt,List.getD_eq_getElem?_getD, *])⟩)
   |(refine⟨?_,rfl,trivial⟩;rw [aX.2 fun i hh=>hi i (by omega)])
 ·(repeat' ((conv=>whnf);first|(exfalso;omega)|refine gA ?_|(refine gB ?_ ?_<;>intro h)|(refine gI ?_;intro x hx)|(refine gJ ?_;intro j x hj hx)|refine gV ?_|intro _))<;>try (conv=>whnf)
  all_goals first
   |(exfalso;omega)
   |(refine⟨?_,rfl,trivial⟩;simp;intro e;rw [e] at hl;exact hl rfl)
theorem Kn (a b:List Int):Con 78 [.d (ints a),.d (ints b)] (.d (.bool (decide (a=b)))):=by
 refine con Tryz.func78 rfl rfl Tryz.call78 rfl fun hwf=>?_
 (repeat' ((conv=>whnf);first|refine gA ?_|(refine gB ?_ ?_<;>intro h)|refine gC (slices_Equal_int a b) ?_|intro _))<;>try (conv=>whnf)
 exact⟨rfl,rfl,trivial⟩
theorem Nw (a b:Bool):Con 77 [.d (.bool a),.d (.bool b)] (.d (i64 (valueOf a b))):=by
 refine con Tryz.func77 rfl rfl Tryz.call77 rfl fun hwf=>?_
 cases a<;>cases b
 all_goals ((repeat' ((conv=>whnf);first|refine gA ?_|(refine gB ?_ ?_<;>intro h)|intro _))<;>try (conv=>whnf))
 all_goals exact⟨rfl,rfl,trivial⟩
theorem RG (a b:Bool): -1≤valueOf a b∧valueOf a b≤1:=by cases a<;>cases b<;>simp [valueOf]
theorem Qb {m:List Int} {v:Int}:0 - valueOf (decide (m= [v])) (!m.contains v)=valueOf (!m.contains v) (decide (m= [v])):=by
 by_cases h:m= [v]
 ·subst h;simp [valueOf]
 ·cases hc:m.contains v<;>simp [valueOf,h]
theorem rD (b:Dom) (l:Lit):Con 23 [.d b.av,.d l.av] (.d (i64 (litValue b l))):=by
 refine con Tryz.func23 rfl rfl Tryz.call23 rfl fun hwf=>?_
 cases hd:fq b l.act with
 |false=>
  (repeat' ((conv=>whnf);first|refine gA ?_|(refine gB ?_ ?_<;>intro h)|(refine gI ?_;intro x hx)|(refine gJ ?_;intro j x hj hx)|refine gV ?_|refine gC (tN b _) ?_|intro _))<;>try (conv=>whnf)
  refine⟨?_,rfl,trivial⟩
  rw [litValue,if_neg (by simp [hd])]
 |true=>
  obtain⟨n,x,y,m,ha,hlo,hhi,hmo⟩:=uW hd
  have han:l.act.toNat=n:=by omega
  have hv:=RG (decide (m= [l.val])) (!m.contains l.val)
  (repeat' ((conv=>whnf);first|with_reducible refine Idx.got hlo ha ?_|with_reducible refine Idx.got hhi ha ?_|with_reducible refine Idx.got hmo ha ?_|refine gA ?_|(refine gB ?_ ?_<;>intro h)|(refine gI ?_;intro x hx)|(refine gJ ?_;intro j x hj hx)|refine gV ?_|refine gC (tN b _) ?_|refine gC (Kn m [l.val]) ?_|refine gC (nX m _) ?_|refine gC (Nw _ _) ?_|intro _))<;>try (conv=>whnf)
  all_goals refine⟨?_,rfl,trivial⟩
  all_goals (rw [litValue,if_pos hd];simp only [han,List.getD_eq_getElem?_getD,hlo,hhi,hmo,Option.getD_some])
  all_goals first
   |(rw [if_pos (by assumption)];done)
   |(rw [if_neg (by assumption),if_pos (by assumption)];done)
   |(rw [if_neg (by assumption),if_neg (by assumption),if_pos (by assumption)];done)
   |(rw [if_neg (by assumption),if_neg (by assumption),if_neg (by assumption),if_pos (by assumption), ← Qb];done)
   |(rw [if_neg (by assumption),if_neg (by assumption),if_neg (by assumption),if_neg (by assumption)];done)
def XB (r:Int×Lit):RV:=.tup [.d (i64 r.1),.d r.2.av]
theorem Cn (b:Dom) (l:List Lit):Con 11 [.d b.av,.d (lits l)] (XB (status b l)):=by
 refine con Tryz.func11 rfl rfl Tryz.call11 rfl fun hwf=>?_
 simp only [ARs.wf,AR.wf,AV.wf,AV.wfs,lm,lim] at hwf
 (repeat' ((conv=>whnf);first|refine gA ?_|(refine gB ?_ ?_<;>intro h)|(refine gI ?_;intro x hx)|(refine gJ ?_;intro j x hj hx)|refine gV ?_|intro _))<;>try (conv=>whnf)
 refine aB [2,5,7,11,12] [2,5] [] ?_
 (conv=>whnf)
 refine aA.go ((Nat)×(Nat)×(Lit)) (fun⟨k,n,y⟩=>(k≤l.length)∧(n≤k)∧(iO b (l.drop k) n y=status b l)) (fun⟨k,n,y⟩=>[(13,.data (i64 k)),(6,.data (i64 n))]) (fun⟨k,n,y⟩=>[(7,(AV.cells y.av).map SV.data)]) (fun _=>[]) (fun⟨k,n,y⟩=>l.length - k) ⟨0,0,iJ⟩ ?_ ?_
 ·exact⟨by omega,by omega,rfl⟩
 rintro⟨k,n,y⟩ ⟨hk,hn,hi⟩
 (repeat' ((conv=>whnf);first|refine gA ?_|(refine gB ?_ ?_<;>intro h)|(refine gI ?_;intro x hx)|(refine gJ ?_;intro j x hj hx)|refine gV ?_|refine gC (rD b _) ?_|intro _))<;>try (conv=>whnf)
 ·rw [au hx,iO,if_pos h] at hi
  rw [← hi]
  exact fv
 ·refine nx ⟨k+1,n+1,x⟩ ?_
  rw [au hx,iO,if_neg (by assumption),if_pos (by assumption)] at hi
  exact⟨by omega,by omega,hi⟩
 ·refine nx ⟨k+1,n,y⟩ ?_
  rw [au hx,iO,if_neg (by assumption),if_neg (by assumption)] at hi
  exact⟨by omega,by omega,hi⟩
 all_goals rw [aJ (by assumption),iO] at hi
 ·rw [if_pos h] at hi;rw [← hi];exact fv
 ·rw [if_neg (by assumption),if_pos (by omega)] at hi;rw [← hi];exact fv
 ·rw [if_neg (by assumption),if_neg (by omega)] at hi;rw [← hi];exact fv
theorem fI (p:Proj) (n:Int):Con 131 [.d p.av,.d (i64 n)] (.d (.bool (eZ p n))):=by
 refine con Tryz.func131 rfl rfl Tryz.call131 rfl fun hwf=>?_
 simp only [ARs.wf,AR.wf,AV.wf,AV.wfs,lm,lim] at hwf
 (repeat' ((conv=>whnf);first|refine gA ?_|(refine gN ?_ ?_<;>intro h hw)|(refine gB ?_ ?_<;>intro h)|refine gV ?_|refine gC (aP _ _ _) ?_|intro _))<;>try (conv=>whnf)
 refine⟨?_,rfl,trivial⟩
 simp [eZ]
theorem zm (p:Proj) (n:Int):Con 132 [.d p.av,.d (i64 n)] (.d (.bool (jk p n))):=by
 refine con Tryz.func132 rfl rfl Tryz.call132 rfl fun hwf=>?_
 simp only [ARs.wf,AR.wf,AV.wf,AV.wfs,lm,lim] at hwf
 (repeat' ((conv=>whnf);first|refine gA ?_|(refine gN ?_ ?_<;>intro h hw)|(refine gB ?_ ?_<;>intro h)|refine gV ?_|refine gC (aP _ _ _) ?_|intro _))<;>try (conv=>whnf)
 refine⟨?_,rfl,trivial⟩
 simp [jk]
theorem Ab {p:Proj} {a:Int} (h:eZ p a=true):∃(n:Nat) (x:iy),a=n∧p.bS[n]? =some x:=by
 have hn:=within_iff.1 h
 exact⟨a.toNat,p.bS[a.toNat]'(by omega),by omega,by simp⟩
theorem kG (p:Proj) (r:Int):Con 126 [.d p.av,.d (i64 r)] (.d (.bool (gq p r))):=by
 refine con Tryz.func126 rfl rfl Tryz.call126 rfl fun hwf=>?_
 simp only [ARs.wf,AR.wf,AV.wf,AV.wfs,lm,lim] at hwf
 cases hr:eZ p r with
 |false=>
  (repeat' ((conv=>whnf);first|refine gA ?_|(refine gB ?_ ?_<;>intro h)|(refine gI ?_;intro x hx)|(refine gJ ?_;intro j x hj hx)|refine gC (fI p _) ?_|intro _))<;>try (conv=>whnf)
  refine⟨?_,rfl,trivial⟩
  simp [gq,hr]
 |true=>
  obtain⟨n,x,ha,hx⟩:=Ab hr
  have e:r.toNat=n:=by omega
  (repeat' ((conv=>whnf);first|with_reducible refine Idx.got hx ha ?_|refine gA ?_|(refine gB ?_ ?_<;>intro h)|(refine gI ?_;intro x hx)|(refine gJ ?_;intro j x hj hx)|refine gC (fI p _) ?_|intro _))<;>try (conv=>whnf)
  refine⟨?_,rfl,trivial⟩
  simp [gq,hr,e,List.getD_eq_getElem?_getD,hx]
theorem dU (p:Proj) (r:Rul) (hp:p.fine):Con 69 [.d p.av,.d r.av] (.d (.bool (fT p r))):=by
 refine con Tryz.func69 rfl rfl Tryz.call69 rfl fun hwf=>?_
 simp only [ARs.wf,AR.wf,AV.wf,AV.wfs,lm,lim] at hwf
 (repeat' ((conv=>whnf);first|refine gA ?_|(refine gN ?_ ?_<;>intro h hw)|(refine gB ?_ ?_<;>intro h)|refine gV ?_|refine gC (bU p hp) ?_|refine gC (fH p _) ?_|refine gC (fI p _) ?_|refine gC (zm p _) ?_|refine gC (kG p _) ?_|refine gC (jB _) ?_|refine gC (aP _ _ _) ?_|intro _))<;>try (conv=>whnf)
 all_goals refine⟨?_,rfl,trivial⟩
 all_goals (simp [fT, *];done)
end Go.Proofs.YtjfnojijdggfhaaGreat.Abs
