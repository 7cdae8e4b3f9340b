/- Contracts: literals, domains' form, clauses. -/
import Derived.Test.YtgkfifiobmklcaaGreatC4
set_option linter.all false
set_option maxRecDepth 20000
set_option maxHeartbeats 0
namespace Go.Proofs.YtgkfifiobmklcaaGreat.Abs
open Go.Proofs
theorem lN {p:Proj} {a:Int} (h:bG p a=true):∃(n:Nat) (x:aF),a=n∧p.acts[n]? =some x:=by
 have hn:=within_iff.1 h
 exact⟨a.toNat,p.acts[a.toNat]'(by omega),by omega,by simp⟩
theorem oL (p:Proj) (l:Lit) (hp:p.fine):Con 50 [.d p.av,.d l.av] (.d (.bool (bJ p l))):=by
 refine con Tryz.func50 rfl rfl Tryz.call50 rfl fun hwf=>?_
 simp only [ARs.wf,AR.wf,AV.wf,AV.wfs,lm,lim] at hwf
 cases h2:bG p l.act with
 |false=>
  (repeat' ((conv=>whnf);first|refine gA ?_|(refine gN ?_ ?_<;>intro h hw)|(refine gB ?_ ?_<;>intro h)|(refine gI ?_;intro x hx)|(refine gJ ?_;intro j x hj hx)|refine gV ?_|refine gC (bE p hp) ?_|refine gC (gG p _) ?_|refine gC (aV _ _ _) ?_|intro _))<;>try (conv=>whnf)
  all_goals first
   |(refine⟨?_,rfl,trivial⟩;simp [bJ, *];done)
   |(exfalso;simp [bG, *] at h2;done)
 |true=>
  obtain⟨n,x,ha,hx⟩:=lN h2
  have hm:=mI hwf.1.2.1.2 hx
  have e:l.act.toNat=n:=by omega
  simp only [AV.wf,AV.wfs,List.length_map] at hm
  (repeat' ((conv=>whnf);first|with_reducible refine Idx.got hx (by first|exact ha|rfl) ?_|refine gA ?_|(refine gN ?_ ?_<;>intro h hw)|(refine gB ?_ ?_<;>intro h)|(refine gI ?_;intro x hx)|(refine gJ ?_;intro j x hj hx)|refine gV ?_|refine gC (bE p hp) ?_|refine gC (gG p _) ?_|refine gC (aV _ _ _) ?_|intro _))<;>try (conv=>whnf)
  all_goals first
   |(refine⟨?_,rfl,trivial⟩;simp [bJ, *, -ha];done)
   |(exfalso;simp [bG, *] at h2;done)
theorem LY (p:Proj) (l:Lit) (hp:p.fine):Con 97 [.d p.av,.d l.av] (.d (.bool (bJ p l))):=by
 refine con Tryz.func97 rfl rfl Tryz.call97 rfl fun hwf=>?_
 simp only [ARs.wf,AR.wf,AV.wf,AV.wfs,lm,lim] at hwf
 cases h2:bG p l.act with
 |false=>
  have h2':within l.act 0 (((p.acts.map aF.av).length:Int) - 1)=false:=by rw [List.length_map];exact h2
  (repeat' ((conv=>whnf);first|refine gA ?_|(refine gN ?_ ?_<;>intro h hw)|(refine gB ?_ ?_<;>intro h)|(refine gI ?_;intro x hx)|(refine gJ ?_;intro j x hj hx)|refine gV ?_|refine gC (oJ p hp) ?_|refine gC (lu _ _ _) ?_|intro _))<;>try (conv=>whnf)
  all_goals (refine⟨?_,rfl,trivial⟩;simp [bJ,h2])
 |true=>
  have h2':within l.act 0 (((p.acts.map aF.av).length:Int) - 1)=true:=by rw [List.length_map];exact h2
  obtain⟨n,x,ha,hx⟩:=lN h2
  have hm:=mI hwf.1.2.1.2 hx
  have e:l.act.toNat=n:=by omega
  simp only [AV.wf,AV.wfs,List.length_map] at hm
  (repeat' ((conv=>whnf);first|with_reducible refine Idx.got hx (by first|exact ha|rfl) ?_|refine gA ?_|(refine gN ?_ ?_<;>intro h hw)|(refine gB ?_ ?_<;>intro h)|(refine gI ?_;intro x hx)|(refine gJ ?_;intro j x hj hx)|refine gV ?_|refine gC (oJ p hp) ?_|refine gC (lu _ _ _) ?_|intro _))<;>try (conv=>whnf)
  all_goals first
   |(refine⟨?_,rfl,trivial⟩;simp [bJ, *, -ha, -h2'];done)
   |(exfalso;simp [bG, *] at h2;done)
theorem Yl (n:Int):Con 209 [.d (i64 n)] (.d (.bool false)):=by
 refine con Tryz.func209 rfl rfl Tryz.call209 rfl fun hwf=>?_
 (repeat' ((conv=>whnf);first|refine gA ?_|(refine gB ?_ ?_<;>intro h)|intro _))<;>try (conv=>whnf)
 refine⟨?_,rfl,trivial⟩
 simp
theorem TW (x y:Int):Con 152 [.d (i64 x),.d (i64 y)] (.d (i64 (LB x y))):=by
 refine con Tryz.func152 rfl rfl Tryz.call152 rfl fun hwf=>?_
 (repeat' ((conv=>whnf);first|refine gA ?_|(refine gN ?_ ?_<;>intro h hw)|(refine gB ?_ ?_<;>intro h)|refine gC (Yl _) ?_|intro _))<;>try (conv=>whnf)
 all_goals refine⟨?_,rfl,trivial⟩
 all_goals (simp only [LB,i64,AV.int.injEq,true_and];split<;>(try split)<;>omega)
theorem acH (l:List Int):Con 151 [.d (ints l)] (.d (i64 (orI l))):=by
 refine con Tryz.func151 rfl rfl Tryz.call151 rfl fun hwf=>?_
 simp only [ARs.wf,AR.wf,AV.wf,AV.wfs,lm,lim] at hwf
 (repeat' ((conv=>whnf);first|refine gA ?_|(refine gB ?_ ?_<;>intro h)|(refine gI ?_;intro x hx)|(refine gJ ?_;intro j x hj hx)|refine gV ?_|intro _))<;>try (conv=>whnf)
 refine aB [3,6,7] [] [] ?_
 (conv=>whnf)
 refine aA.go ((Nat)) (fun k=>(k≤l.length)∧(orI (l.drop k)=orI l)) (fun k=>[(8,.data (i64 k))]) (fun _=>[]) (fun _=>[]) (fun k=>l.length - k) (0) ?_ ?_
 ·exact⟨by omega,rfl⟩
 rintro k ⟨hk,hi⟩
 (repeat' ((conv=>whnf);first|refine gA ?_|(refine gB ?_ ?_<;>intro h)|(refine gI ?_;intro x hx)|(refine gJ ?_;intro j x hj hx)|refine gV ?_|intro _))<;>try (conv=>whnf)
 all_goals first
  |exact trivial
  |(refine⟨?_,rfl,trivial⟩;rw [aP (l:=l) (by assumption)] at hi;first|(simp_all [orI];done)|(simp only [orI, ← hi];clear hi;simp_all [orI];done))
  |(refine⟨?_,rfl,trivial⟩;rw [ay (l:=l) (by assumption)] at hi;first|(simp_all [orI];done)|(simp only [orI, ← hi];clear hi;simp_all [orI];done))
  |(refine nx (k+1) ?_
    rw [ay (l:=l) (by assumption)] at hi;refine⟨by omega,?_⟩;simp_all [orI];done)
theorem qJ (a b:Lit):Con 77 [.d a.av,.d b.av] (.d (i64 (ku a b))):=by
 refine con Tryz.func77 rfl rfl Tryz.call77 rfl fun hwf=>?_
 (repeat' ((conv=>whnf);first|refine gA ?_|(refine gB ?_ ?_<;>intro h)|refine gC (TW _ _) ?_|refine gC (acH [LB a.act b.act,LB a.kind b.kind,LB a.val b.val]) ?_|intro _))<;>try (conv=>whnf)
 exact⟨rfl,rfl,trivial⟩
theorem Co (p:Proj) (l:List Lit) (hp:p.fine):Con 55 [.d p.av,.d (lits l)] (.d (.bool (iO p l))):=by
 refine con Tryz.func55 rfl rfl Tryz.call55 rfl fun hwf=>?_
 simp only [ARs.wf,AR.wf,AV.wf,AV.wfs,lm,lim] at hwf
 (repeat' ((conv=>whnf);first|refine gA ?_|(refine gB ?_ ?_<;>intro h)|(refine gI ?_;intro x hx)|(refine gJ ?_;intro j x hj hx)|refine gV ?_|intro _))<;>try (conv=>whnf)
 refine aB [1,2,7,8] [2] [] ?_
 (conv=>whnf)
 refine aA.go ((Nat)) (fun k=>(k≤l.length)∧(∀i,i < k→clauseAt p l i=true)) (fun k=>[(9,.data (i64 k))]) (fun _=>[]) (fun _=>[]) (fun k=>l.length - k) (0) ?_ ?_
 ·exact⟨by omega,by omega⟩
 rintro k ⟨hk,hi⟩
 (repeat' ((conv=>whnf);first|refine gA ?_|(refine gB ?_ ?_<;>intro h)|(refine gI ?_;intro x hx)|(refine gJ ?_;intro j x hj hx)|refine gV ?_|refine gC (oL p _ hp) ?_|refine gC (qJ _ _) ?_|intro _))<;>try (conv=>whnf)
 all_goals first
  |(refine⟨?_,rfl,trivial⟩;rw [iO,jh k (by omega) (by (try (obtain rfl:j=k - 1:=by omega));simp [clauseAt, *];try omega)];rfl)
  |(refine nx (k+1) ?_
    exact⟨by omega,iY hi (by (try (obtain rfl:j=k - 1:=by omega));simp [clauseAt, *];try omega)⟩)
  |(refine⟨?_,rfl,trivial⟩;rw [iO,bL.2 fun i hh=>hi i (by omega)];simp)
theorem nK (p:Proj) (hp:p.fine):Con 49 [.d p.av] (.d (aW p).av):=by
 refine con Tryz.func49 rfl rfl Tryz.call49 rfl fun hwf=>?_
 simp only [ARs.wf,AR.wf,AV.wf,AV.wfs,lm,lim] at hwf
 cases ho:aG p with
 |false=>
  (repeat' ((conv=>whnf);first|refine gA ?_|(refine gB ?_ ?_<;>intro h)|(refine gI ?_;intro x hx)|(refine gJ ?_;intro j x hj hx)|refine gP ?_|refine gV ?_|refine gC (bE p hp) ?_|intro _))<;>try (conv=>whnf)
  refine⟨?_,rfl,trivial⟩
  rw [aW,if_neg (by simp [ho])];rfl
 |true=>
 have hd:within p.dead 1 60=true:=by simp [aG,pU] at ho;simp [ho]
 have hd:=within_iff.1 hd
 (repeat' ((conv=>whnf);first|refine gA ?_|(refine gB ?_ ?_<;>intro h)|(refine gI ?_;intro x hx)|(refine gJ ?_;intro j x hj hx)|refine gP ?_|refine gV ?_|refine gC (bE p hp) ?_|intro _))<;>try (conv=>whnf)
 refine aB [1,2,3,12,13] [1,2] [21,28,34] ?_
 (conv=>whnf)
 refine aA.go ((Nat)) (fun k=>(k≤p.acts.length)) (fun k=>[(14,.data (i64 k))]) (fun k=>[(3,[.own 21 0,.own 28 0,.own 34 0])]) (fun k=>[(21,3,(p.acts.take k).map (fun _=>i64 0),0),(28,3,(p.acts.take k).map (fun _=>i64 (p.dead - 1)),0),(34,26,(p.acts.take k).map (fun a=>ints (aN a.modes.length)),0)]) (fun k=>p.acts.length - k) (0) ?_ ?_
 ·exact Nat.zero_le _
 rintro k hk
 (repeat' ((conv=>whnf);first|refine gA ?_|(refine gB ?_ ?_<;>intro h)|(refine gI ?_;intro x hx)|(refine gJ ?_;intro j x hj hx)|refine gP ?_|refine gV ?_|refine gC (pY x) ?_|intro _))<;>try (conv=>whnf)
 ·refine nw (k+1) ?_ ?_
  ·(repeat' ((conv=>whnf)<;>(first|exact trivial|exact rfl|with_reducible refine And.intro ?_ ?_)))<;>((conv=>whnf)<;>(exact gX _ hx))
  exact (by omega:k+1≤p.acts.length)
 ·refine⟨?_,rfl,trivial⟩
  rw [aW,if_pos ho,mZ]
  dsimp only
  rw [List.take_of_length_le (by omega)]
  simp [List.map_map,Function.comp_def]
theorem VX (p:Proj) (hd:1≤p.dead∧p.dead≤60):Con 89 [.d p.av] (.d (mZ p).av):=by
 refine con Tryz.func89 rfl rfl Tryz.call89 rfl fun hwf=>?_
 simp only [ARs.wf,AR.wf,AV.wf,AV.wfs,lm,lim] at hwf
 (repeat' ((conv=>whnf);first|refine gA ?_|(refine gB ?_ ?_<;>intro h)|(refine gI ?_;intro x hx)|(refine gJ ?_;intro j x hj hx)|refine gP ?_|refine gV ?_|intro _))<;>try (conv=>whnf)
 refine aB [1,2,3,8,9] [1,2] [17,25,32] ?_
 (conv=>whnf)
 refine aA.go ((Nat)) (fun k=>(k≤p.acts.length)) (fun k=>[(10,.data (i64 k))]) (fun k=>[(3,[.own 17 0,.own 25 0,.own 32 0])]) (fun k=>[(17,3,(p.acts.take k).map (fun _=>i64 0),0),(25,3,(p.acts.take k).map (fun _=>i64 (p.dead - 1)),0),(32,26,(p.acts.take k).map (fun a=>ints (aN a.modes.length)),0)]) (fun k=>p.acts.length - k) (0) ?_ ?_
 ·exact Nat.zero_le _
 rintro k hk
 (repeat' ((conv=>whnf);first|refine gA ?_|(refine gB ?_ ?_<;>intro h)|(refine gI ?_;intro x hx)|(refine gJ ?_;intro j x hj hx)|refine gP ?_|refine gV ?_|refine gC (Hq x) ?_|intro _))<;>try (conv=>whnf)
 ·refine nw (k+1) ?_ ?_
  ·(repeat' ((conv=>whnf)<;>(first|exact trivial|exact rfl|with_reducible refine And.intro ?_ ?_)))<;>((conv=>whnf)<;>(exact gX _ hx))
  exact (by omega:k+1≤p.acts.length)
 ·refine⟨?_,rfl,trivial⟩
  rw [mZ]
  dsimp only
  rw [List.take_of_length_le (by omega)]
  simp [List.map_map,Function.comp_def]
theorem aY (p:Proj) (b:Dom) (hp:p.fine):Con 48 [.d p.av,.d b.av] (.d (.bool (ak p b))):=by
 refine con Tryz.func48 rfl rfl Tryz.call48 rfl fun hwf=>?_
 simp only [ARs.wf,AR.wf,AV.wf,AV.wfs,lm,lim] at hwf
 (repeat' ((conv=>whnf);first|refine gA ?_|(refine gN ?_ ?_<;>intro h hw)|(refine gB ?_ ?_<;>intro h)|(refine gI ?_;intro x hx)|(refine gJ ?_;intro j x hj hx)|refine gV ?_|refine gC (bE p hp) ?_|intro _))<;>try (conv=>whnf)
 all_goals try (refine⟨?_,rfl,trivial⟩;simp [ak, *];done)
 refine aB [2,3,36,37] [2,3] [] ?_
 (conv=>whnf)
 refine aA.go ((Nat)) (fun k=>(k≤p.acts.length)∧(∀i,i < k→rE p b i=true)) (fun k=>[(38,.data (i64 k))]) (fun _=>[]) (fun _=>[]) (fun k=>p.acts.length - k) (0) ?_ ?_
 ·exact⟨by omega,by omega⟩
 rintro k ⟨hk,hi⟩
 by_cases hlt:k < p.acts.length
 ·obtain⟨lo,e1⟩:∃x,b.lo[k]? =some x:=⟨b.lo[k]'(by omega),by simp⟩
  obtain⟨hi',e2⟩:∃x,b.hi[k]? =some x:=⟨b.hi[k]'(by omega),by simp⟩
  obtain⟨mo,e3⟩:∃x,b.modes[k]? =some x:=⟨b.modes[k]'(by omega),by simp⟩
  obtain⟨ac,e4⟩:∃x,p.acts[k]? =some x:=⟨p.acts[k]'(by omega),by simp⟩
  (repeat' ((conv=>whnf);first|with_reducible refine Idx.got e1 rfl ?_|with_reducible refine Idx.got e2 rfl ?_|with_reducible refine Idx.got e3 rfl ?_|with_reducible refine Idx.got e4 rfl ?_|refine gA ?_|(refine gN ?_ ?_<;>intro h hw)|(refine gB ?_ ?_<;>intro h)|(refine gI ?_;intro x hx)|(refine gJ ?_;intro j x hj hx)|refine gV ?_|refine gC (Rm _) ?_|refine gC (VR _) ?_|refine gC (zP _ _) ?_|refine gC (pY ac) ?_|intro _))<;>try (conv=>whnf)
  all_goals first
   |(exfalso;omega)
   |(refine⟨?_,rfl,trivial⟩;rw [ak,jh k hlt (by simp only [rE,e1,e2,e3,e4];simp [*])];simp;done)
   |(refine nx (k+1) ?_
     exact⟨by omega,iY hi (by simp only [rE,e1,e2,e3,e4];simp [*])⟩)
 ·(repeat' ((conv=>whnf);first|(exfalso;omega)|refine gA ?_|(refine gN ?_ ?_<;>intro h hw)|(refine gB ?_ ?_<;>intro h)|(refine gI ?_;intro x hx)|(refine gJ ?_;intro j x hj hx)|refine gV ?_|intro _))<;>try (conv=>whnf)
  refine⟨?_,rfl,trivial⟩
  rw [ak,bL.2 fun i hh=>hi i (by omega)];simp [*]
theorem Fb (l:List Int):Con 145 [.d (ints l)] (.d (.bool (decide ((l.length:Int)=0)))):=by
 refine con Tryz.func145 rfl rfl Tryz.call145 rfl fun hwf=>?_
 (repeat' ((conv=>whnf);first|refine gA ?_|(refine gB ?_ ?_<;>intro h)|intro _))<;>try (conv=>whnf)
 all_goals refine⟨?_,rfl,trivial⟩
 all_goals simp
theorem za (l:List (List Int)) (fc:Nat) (caps:List AV) (p:List Int→Bool) (hc:∀x:List Int,Con fc ([.d (ints x)]++caps.map .ref) (.d (.bool (p x)))):
  Con 197 [.d (.sl (l.map ints)),.fn fc caps] (.d (i64 (aQ p l 0))):=by
 refine con Tryz.func197 rfl rfl Tryz.call197 rfl fun hwf=>?_
 simp only [ARs.wf,AR.wf,AV.wf,AV.wfs,lm,lim] at hwf
 (conv=>whnf)
 refine aB [0,1,7] [] [] ?_
 (conv=>whnf)
 refine aA.go ((Nat)) (fun k=>(k≤l.length)∧(aQ p (l.drop k) k=aQ p l 0)) (fun k=>[(8,.data (i64 k))]) (fun _=>[]) (fun _=>[]) (fun k=>l.length - k) (0) ?_ ?_
 ·exact⟨by omega,rfl⟩
 rintro k ⟨hk,hi⟩
 (repeat' ((conv=>whnf);first|refine gA ?_|(refine gB ?_ ?_<;>intro h)|(refine gI ?_;intro x hx)|(refine gJ ?_;intro j x hj hx)|refine gV ?_|refine gC (hc x) ?_|intro _))<;>try (conv=>whnf)
 all_goals first
  |exact trivial
  |(refine⟨?_,rfl,trivial⟩;rw [aP (l:=l) (by assumption)] at hi;first|(simp_all [aQ];done)|(simp only [aQ, ← hi];clear hi;simp_all [aQ];done))
  |(refine⟨?_,rfl,trivial⟩;rw [ay (l:=l) (by assumption)] at hi;first|(simp_all [aQ];done)|(simp only [aQ, ← hi];clear hi;simp_all [aQ];done))
  |(refine nx (k+1) ?_
    rw [ay (l:=l) (by assumption)] at hi;refine⟨by omega,?_⟩;simp_all [aQ];done)
theorem vL (l:List (List Int)) (fc:Nat) (caps:List AV) (p:List Int→Bool) (hc:∀x:List Int,Con fc ([.d (ints x)]++caps.map .ref) (.d (.bool (p x)))):
  Con 144 [.d (.sl (l.map ints)),.fn fc caps] (.d (.bool (l.any p))):=by
 refine con Tryz.func144 rfl rfl Tryz.call144 rfl fun hwf=>?_
 (repeat' ((conv=>whnf);first|refine gA ?_|(refine gB ?_ ?_<;>intro h)|refine gC (za l fc caps p hc) ?_|intro _))<;>try (conv=>whnf)
 refine⟨?_,rfl,trivial⟩
 rw [← wh l 0]
theorem Xp {n:Nat} {f:Nat→Bool}:(List.range n).any f=false↔∀i,i < n→f i=false:=by simp
theorem TY {n:Nat} {f:Nat→Bool} (k:Nat) (hk:k < n) (h:f k=true):(List.range n).any f=true:=by simp;exact⟨k,hk,h⟩
theorem Ua {f:Nat→Bool} {k:Nat} (h:∀i,i < k→f i=false) (hf:f k=false):∀i,i < k+1→f i=false:=by
 intro i hi
 by_cases e:i=k
 ·rw [e];exact hf
 ·exact h i (by omega)
theorem bD (b:Dom):Con 67 [.d b.av] (.d (.bool (aL b))):=by
 refine con Tryz.func67 rfl rfl Tryz.call67 rfl fun hwf=>?_
 simp only [ARs.wf,AR.wf,AV.wf,AV.wfs,lm,lim] at hwf
 (repeat' ((conv=>whnf);first|refine gA ?_|(refine gB ?_ ?_<;>intro h)|(refine gI ?_;intro x hx)|(refine gJ ?_;intro j x hj hx)|refine gV ?_|intro _))<;>try (conv=>whnf)
 refine aB [1,6,7] [1] [] ?_
 (conv=>whnf)
 refine aA.go ((Nat)) (fun k=>(k≤b.lo.length)∧(∀i,i < k→jI b i=false)) (fun k=>[(8,.data (i64 k))]) (fun _=>[]) (fun _=>[]) (fun k=>b.lo.length - k) (0) ?_ ?_
 ·exact⟨by omega,by omega⟩
 rintro k ⟨hk,hi⟩
 (repeat' ((conv=>whnf);first|refine gA ?_|(refine gB ?_ ?_<;>intro h)|(refine gI ?_;intro x hx)|(refine gJ ?_;intro j x hj hx)|refine gV ?_|refine gC (vL b.modes 145 [] _ fun x=>Fb x) ?_|intro _))<;>try (conv=>whnf)
 all_goals first
  |(refine⟨?_,rfl,trivial⟩;rw [aL,TY k (by omega) (by simp [jI, *])];rfl)
  |(refine nx (k+1) ?_
    exact⟨by omega,Ua hi (by first|(simp [jI, *];done)|simp [jI,hx,List.getElem?_eq_none (show b.hi.length≤k by omega)])⟩)
  |(refine⟨?_,rfl,trivial⟩;rw [aL,Xp.2 fun i hh=>hi i (by omega)];rfl)
theorem Ht (b:Dom):Con 33 [.d b.av] (.d (.bool (aL b))):=by
 refine con Tryz.func33 rfl rfl Tryz.call33 rfl fun hwf=>?_
 simp only [ARs.wf,AR.wf,AV.wf,AV.wfs,lm,lim] at hwf
 (repeat' ((conv=>whnf);first|refine gA ?_|(refine gB ?_ ?_<;>intro h)|(refine gI ?_;intro x hx)|(refine gJ ?_;intro j x hj hx)|refine gV ?_|intro _))<;>try (conv=>whnf)
 refine aB [1,8,9] [1] [] ?_
 (conv=>whnf)
 refine aA.go ((Nat)) (fun k=>(k≤b.lo.length)∧(∀i,i < k→jI b i=false)) (fun k=>[(10,.data (i64 k))]) (fun _=>[]) (fun _=>[]) (fun k=>b.lo.length - k) (0) ?_ ?_
 ·exact⟨by omega,by omega⟩
 rintro k ⟨hk,hi⟩
 (repeat' ((conv=>whnf);first|refine gA ?_|(refine gB ?_ ?_<;>intro h)|(refine gI ?_;intro x hx)|(refine gJ ?_;intro j x hj hx)|refine gV ?_|intro _))<;>try (conv=>whnf)
 all_goals first
  |(refine⟨?_,rfl,trivial⟩;rw [aL,TY k (by omega) (by simp [jI, *])];rfl)
  |(refine nx (k+1) ?_
    exact⟨by omega,Ua hi (by first|(simp [jI, *];done)|simp [jI,hx,List.getElem?_eq_none (show b.hi.length≤k by omega)])⟩)
  |skip
 have e:(List.range b.lo.length).any (jI b)=false:=Xp.2 fun i hh=>hi i (by omega)
 clear hi
 refine aB [31,32] [] [] ?_
 (conv=>whnf)
 refine aA.go ((Nat)) (fun m=>(m≤b.modes.length)∧((b.modes.drop m).any (fun m=>decide ((m.length:Int)=0))=b.modes.any (fun m=>decide ((m.length:Int)=0)))) (fun m=>[(33,.data (i64 m))]) (fun _=>[]) (fun _=>[]) (fun m=>b.modes.length - m) (0) ?_ ?_
 ·exact⟨by omega,rfl⟩
 rintro m ⟨hm,hi⟩
 (repeat' ((conv=>whnf);first|refine gA ?_|(refine gB ?_ ?_<;>intro h)|(refine gI ?_;intro x hx)|(refine gJ ?_;intro j x hj hx)|refine gV ?_|intro _))<;>try (conv=>whnf)
 ·refine⟨?_,rfl,trivial⟩
  rw [ay hx,List.any_cons] at hi
  rw [aL,e, ← hi];simp only [decide_eq_true h];simp
 ·refine nx (m+1) ?_
  rw [ay hx,List.any_cons,decide_eq_false h,Bool.false_or] at hi
  exact⟨by omega,hi⟩
 ·refine⟨?_,rfl,trivial⟩
  rw [aP (by assumption)] at hi
  rw [aL,e, ← hi];rfl
theorem Fe {m:List Int} {f:Int→Bool} (h:nT m=true):nT (m.filter f)=true:=by
 have hp:=(tu h).filter f
 rw [Pn]
 intro i hi
 exact (List.pairwise_iff_getElem.1 hp) i (i+1) (by omega) hi (by omega)
theorem nL (p:Proj) (l:List Lit) (hp:p.fine):Con 57 [.d p.av,.d (lits l)] (.d (fq p l).av):=by
 refine con Tryz.func57 rfl rfl Tryz.call57 rfl fun hwf=>?_
 simp only [ARs.wf,AR.wf,AV.wf,AV.wfs,lm,lim] at hwf
 (repeat' ((conv=>whnf);first|refine gA ?_|(refine gB ?_ ?_<;>intro h)|(refine gI ?_;intro x hx)|(refine gJ ?_;intro j x hj hx)|refine gV ?_|refine gC (nK p hp) ?_|intro _))<;>try (conv=>whnf)
 refine aB [4,5,10,11] [4] [] ?_
 (conv=>whnf)
 refine aA.go ((Nat)×(Dom)) (fun⟨k,d⟩=>(k≤l.length)∧(against d (l.drop k)=fq p l)) (fun⟨k,d⟩=>[(12,.data (i64 k))]) (fun⟨k,d⟩=>[(5,(AV.cells d.av).map SV.data)]) (fun _=>[]) (fun⟨k,d⟩=>l.length - k) ⟨0,aW p⟩ ?_ ?_
 ·exact⟨by omega,rfl⟩
 rintro⟨k,d⟩ ⟨hk,hi⟩
 (repeat' ((conv=>whnf);first|refine gA ?_|(refine gB ?_ ?_<;>intro h)|(refine gI ?_;intro x hx)|(refine gJ ?_;intro j x hj hx)|refine gV ?_|refine gC (qI _) ?_|refine gC (fB d (negate x)) ?_|intro _))<;>try (conv=>whnf)
 ·refine nx ⟨k+1,restrict d (negate x)⟩ ?_
  rw [ay hx] at hi
  exact⟨by omega,hi⟩
 ·refine⟨?_,rfl,trivial⟩
  rw [aP (by assumption)] at hi
  rw [← hi];rfl
theorem Ub {p:Proj} (h:aG p=true):1≤p.dead∧p.dead≤60:=by
 have:within p.dead 1 60=true:=by simp [aG,pU] at h;simp [h]
 exact within_iff.1 this
open Go.Proofs
def sameAt (a b:List Int) (i:Nat):Bool:=decide (a.getD i 0=b.getD i 0)
theorem VY {a b:List Int} (h:a.length=b.length):decide (a=b)=yY a.length (sameAt a b):=by
 rw [Bool.eq_iff_iff,decide_eq_true_eq,bL]
 constructor
 ·rintro rfl i hi;simp [sameAt]
 ·intro hh
  refine List.ext_getElem h fun i h1 h2=>?_
  have:=hh i h1
  simpa [sameAt,List.getD_eq_getElem?_getD,List.getElem?_eq_getElem h1,List.getElem?_eq_getElem h2] using this
theorem slices_Equal_int (a b:List Int):Con 58 [.d (ints a),.d (ints b)] (.d (.bool (decide (a=b)))):=by
 refine con Tryz.func58 rfl rfl Tryz.call58 rfl fun hwf=>?_
 simp only [ARs.wf,AR.wf,AV.wf,AV.wfs,lm,lim] at hwf
 by_cases hl:a.length=b.length
 ·rw [VY hl]
  (repeat' ((conv=>whnf);first|(exfalso;omega)|refine gA ?_|(refine gB ?_ ?_<;>intro h)|(refine gI ?_;intro x hx)|(refine gJ ?_;intro j x hj hx)|refine gV ?_|intro _))<;>try (conv=>whnf)
  refine aB [0,1,12] [] [] ?_
  (conv=>whnf)
  refine aA.go ((Nat)) (fun k=>(k≤a.length)∧(∀i,i < k→sameAt a b i=true)) (fun k=>[(13,.data (i64 k))]) (fun _=>[]) (fun _=>[]) (fun k=>a.length - k) (0) ?_ ?_
  ·exact⟨by omega,by omega⟩
  rintro k ⟨hk,hi⟩
  (repeat' ((conv=>whnf);first|refine gA ?_|(refine gB ?_ ?_<;>intro h)|(refine gI ?_;intro x hx)|(refine gJ ?_;intro j x hj hx)|refine gV ?_|intro _))<;>try (conv=>whnf)
  all_goals first
   |(refine⟨?_,rfl,trivial⟩;rw [jh k (by omega) (by simp [sameAt,List.getD_eq_getElem?_getD, *])];done)
   |(refine nx (k+1) ?_
     exact⟨by omega,iY hi (by simp [sameAt,List.getD_eq_getElem?_getD, *])⟩)
   |(refine⟨?_,rfl,trivial⟩;rw [bL.2 fun i hh=>hi i (by omega)])
 ·(repeat' ((conv=>whnf);first|(exfalso;omega)|refine gA ?_|(refine gB ?_ ?_<;>intro h)|(refine gI ?_;intro x hx)|(refine gJ ?_;intro j x hj hx)|refine gV ?_|intro _))<;>try (conv=>whnf)
  all_goals first
   |(exfalso;omega)
   |(refine⟨?_,rfl,trivial⟩;simp;intro e;rw [e] at hl;exact hl rfl)
theorem NU (a b:List Int):Con 187 [.d (ints a),.d (ints b)] (.d (.bool (decide (a=b)))):=by
 refine con Tryz.func187 rfl rfl Tryz.call187 rfl fun hwf=>?_
 (repeat' ((conv=>whnf);first|refine gA ?_|(refine gB ?_ ?_<;>intro h)|refine gC (slices_Equal_int a b) ?_|intro _))<;>try (conv=>whnf)
 exact⟨rfl,rfl,trivial⟩
theorem Rn (a b:Bool):Con 186 [.d (.bool a),.d (.bool b)] (.d (i64 (valueOf a b))):=by
 refine con Tryz.func186 rfl rfl Tryz.call186 rfl fun hwf=>?_
 cases a<;>cases b
 all_goals ((repeat' ((conv=>whnf);first|refine gA ?_|(refine gB ?_ ?_<;>intro h)|intro _))<;>try (conv=>whnf))
 all_goals exact⟨rfl,rfl,trivial⟩
theorem VZ (a b:Bool): -1≤valueOf a b∧valueOf a b≤1:=by cases a<;>cases b<;>simp [valueOf]
theorem Uc {m:List Int} {v:Int}:0 - valueOf (decide (m= [v])) (!m.contains v)=valueOf (!m.contains v) (decide (m= [v])):=by
 by_cases h:m= [v]
 ·subst h;simp [valueOf]
 ·cases hc:m.contains v<;>simp [valueOf,h]
theorem oM (b:Dom) (l:Lit):Con 133 [.d b.av,.d l.av] (.d (i64 (litValue b l))):=by
 refine con Tryz.func133 rfl rfl Tryz.call133 rfl fun hwf=>?_
 cases hd:dO b l.act with
 |false=>
  (repeat' ((conv=>whnf);first|refine gA ?_|(refine gB ?_ ?_<;>intro h)|(refine gI ?_;intro x hx)|(refine gJ ?_;intro j x hj hx)|refine gV ?_|refine gC (wF b _) ?_|intro _))<;>try (conv=>whnf)
  refine⟨?_,rfl,trivial⟩
  rw [litValue,if_neg (by simp [hd])]
 |true=>
  obtain⟨n,x,y,m,ha,hlo,hhi,hmo⟩:=xQ hd
  have han:l.act.toNat=n:=by omega
  have hv:=VZ (decide (m= [l.val])) (!m.contains l.val)
  (repeat' ((conv=>whnf);first|with_reducible refine Idx.got hlo ha ?_|with_reducible refine Idx.got hhi ha ?_|with_reducible refine Idx.got hmo ha ?_|refine gA ?_|(refine gB ?_ ?_<;>intro h)|(refine gI ?_;intro x hx)|(refine gJ ?_;intro j x hj hx)|refine gV ?_|refine gC (wF b _) ?_|refine gC (NU m [l.val]) ?_|refine gC (qG m _) ?_|refine gC (Rn _ _) ?_|intro _))<;>try (conv=>whnf)
  all_goals refine⟨?_,rfl,trivial⟩
  all_goals (rw [litValue,if_pos hd];simp only [han,List.getD_eq_getElem?_getD,hlo,hhi,hmo,Option.getD_some])
  all_goals first
   |(rw [if_pos (by assumption)];done)
   |(rw [if_neg (by assumption),if_pos (by assumption)];done)
   |(rw [if_neg (by assumption),if_neg (by assumption),if_pos (by assumption)];done)
   |(rw [if_neg (by assumption),if_neg (by assumption),if_neg (by assumption),if_pos (by assumption), ← Uc];done)
   |(rw [if_neg (by assumption),if_neg (by assumption),if_neg (by assumption),if_neg (by assumption)];done)
def abO (r:Int×Lit):RV:=.tup [.d (i64 r.1),.d r.2.av]
theorem lC (b:Dom) (l:List Lit):Con 131 [.d b.av,.d (lits l)] (abO (status b l)):=by
 refine con Tryz.func131 rfl rfl Tryz.call131 rfl fun hwf=>?_
 simp only [ARs.wf,AR.wf,AV.wf,AV.wfs,lm,lim] at hwf
 (repeat' ((conv=>whnf);first|refine gA ?_|(refine gB ?_ ?_<;>intro h)|(refine gI ?_;intro x hx)|(refine gJ ?_;intro j x hj hx)|refine gV ?_|intro _))<;>try (conv=>whnf)
 refine aB [2,5,7,11,12] [2,5] [] ?_
 (conv=>whnf)
 refine aA.go ((Nat)×(Nat)×(Lit)) (fun⟨k,n,y⟩=>(k≤l.length)∧(n≤k)∧(aO b (l.drop k) n y=status b l)) (fun⟨k,n,y⟩=>[(13,.data (i64 k)),(6,.data (i64 n))]) (fun⟨k,n,y⟩=>[(7,(AV.cells y.av).map SV.data)]) (fun _=>[]) (fun⟨k,n,y⟩=>l.length - k) ⟨0,0,bV⟩ ?_ ?_
 ·exact⟨by omega,by omega,rfl⟩
 rintro⟨k,n,y⟩ ⟨hk,hn,hi⟩
 (repeat' ((conv=>whnf);first|refine gA ?_|(refine gB ?_ ?_<;>intro h)|(refine gI ?_;intro x hx)|(refine gJ ?_;intro j x hj hx)|refine gV ?_|refine gC (oM b _) ?_|intro _))<;>try (conv=>whnf)
 ·rw [ay hx,aO,if_pos h] at hi
  rw [← hi]
  exact fv
 ·refine nx ⟨k+1,n+1,x⟩ ?_
  rw [ay hx,aO,if_neg (by assumption),if_pos (by assumption)] at hi
  exact⟨by omega,by omega,hi⟩
 ·refine nx ⟨k+1,n,y⟩ ?_
  rw [ay hx,aO,if_neg (by assumption),if_neg (by assumption)] at hi
  exact⟨by omega,by omega,hi⟩
 all_goals rw [aP (by assumption),aO] at hi
 ·rw [if_pos h] at hi;rw [← hi];exact fv
 ·rw [if_neg (by assumption),if_pos (by omega)] at hi;rw [← hi];exact fv
 ·rw [if_neg (by assumption),if_neg (by omega)] at hi;rw [← hi];exact fv
theorem gH (p:Proj) (n:Int):Con 170 [.d p.av,.d (i64 n)] (.d (.bool (fQ p n))):=by
 refine con Tryz.func170 rfl rfl Tryz.call170 rfl fun hwf=>?_
 simp only [ARs.wf,AR.wf,AV.wf,AV.wfs,lm,lim] at hwf
 (repeat' ((conv=>whnf);first|refine gA ?_|(refine gN ?_ ?_<;>intro h hw)|(refine gB ?_ ?_<;>intro h)|refine gV ?_|refine gC (aV _ _ _) ?_|intro _))<;>try (conv=>whnf)
 refine⟨?_,rfl,trivial⟩
 simp [fQ]
theorem Cq (p:Proj) (n:Int):Con 171 [.d p.av,.d (i64 n)] (.d (.bool (jR p n))):=by
 refine con Tryz.func171 rfl rfl Tryz.call171 rfl fun hwf=>?_
 simp only [ARs.wf,AR.wf,AV.wf,AV.wfs,lm,lim] at hwf
 (repeat' ((conv=>whnf);first|refine gA ?_|(refine gN ?_ ?_<;>intro h hw)|(refine gB ?_ ?_<;>intro h)|refine gV ?_|refine gC (aV _ _ _) ?_|intro _))<;>try (conv=>whnf)
 refine⟨?_,rfl,trivial⟩
 simp [jR]
theorem Dq {p:Proj} {a:Int} (h:fQ p a=true):∃(n:Nat) (x:dN),a=n∧p.bC[n]? =some x:=by
 have hn:=within_iff.1 h
 exact⟨a.toNat,p.bC[a.toNat]'(by omega),by omega,by simp⟩
theorem lQ (p:Proj) (r:Int):Con 166 [.d p.av,.d (i64 r)] (.d (.bool (iD p r))):=by
 refine con Tryz.func166 rfl rfl Tryz.call166 rfl fun hwf=>?_
 simp only [ARs.wf,AR.wf,AV.wf,AV.wfs,lm,lim] at hwf
 cases hr:fQ p r with
 |false=>
  (repeat' ((conv=>whnf);first|refine gA ?_|(refine gB ?_ ?_<;>intro h)|(refine gI ?_;intro x hx)|(refine gJ ?_;intro j x hj hx)|refine gC (gH p _) ?_|intro _))<;>try (conv=>whnf)
  refine⟨?_,rfl,trivial⟩
  simp [iD,hr]
 |true=>
  obtain⟨n,x,ha,hx⟩:=Dq hr
  have e:r.toNat=n:=by omega
  (repeat' ((conv=>whnf);first|with_reducible refine Idx.got hx ha ?_|refine gA ?_|(refine gB ?_ ?_<;>intro h)|(refine gI ?_;intro x hx)|(refine gJ ?_;intro j x hj hx)|refine gC (gH p _) ?_|intro _))<;>try (conv=>whnf)
  refine⟨?_,rfl,trivial⟩
  simp [iD,hr,e,List.getD_eq_getElem?_getD,hx]
theorem eT (p:Proj) (r:Rul) (hp:p.fine):Con 105 [.d p.av,.d r.av] (.d (.bool (iV p r))):=by
 refine con Tryz.func105 rfl rfl Tryz.call105 rfl fun hwf=>?_
 simp only [ARs.wf,AR.wf,AV.wf,AV.wfs,lm,lim] at hwf
 (repeat' ((conv=>whnf);first|refine gA ?_|(refine gN ?_ ?_<;>intro h hw)|(refine gB ?_ ?_<;>intro h)|refine gV ?_|refine gC (bE p hp) ?_|refine gC (gG p _) ?_|refine gC (gH p _) ?_|refine gC (Cq p _) ?_|refine gC (lQ p _) ?_|refine gC (jY _) ?_|refine gC (aV _ _ _) ?_|intro _))<;>try (conv=>whnf)
 all_goals refine⟨?_,rfl,trivial⟩
 all_goals (simp [iV, *];done)
end Go.Proofs.YtgkfifiobmklcaaGreat.Abs
