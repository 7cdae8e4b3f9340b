/- Part of a proof. -/
import Derived.Test.YthegbfgeochckaaGreatC4
set_option linter.all false
set_option maxRecDepth 20000
set_option maxHeartbeats 0
namespace Go.Proofs.YthegbfgeochckaaGreat.Abs
open Go.Proofs
theorem jr {p:Proj} {a:Int} (h:dI p a=true):∃(n:Nat) (x:aB),a=n/\p.acts[n]? =some x:=by
 have hn:=within_iff.1 h
 exact⟨a.toNat,p.acts[a.toNat]'(by omega),by omega,by simp⟩
theorem rF (p:Proj) (l:Lit) (hp:p.fine):Con 75 [.d p.av,.d l.av] (.d (.bool (qZ p l))):=by
 refine con Tryz.func75 rfl rfl Tryz.call75 rfl fun hwf=>?_
 simp only [ARs.wf,AR.wf,AV.wf,AV.wfs,lm,lim] at hwf
 cases h2:dI p l.act with
 |false=>
  (repeat' ((conv=>whnf);first|refine gA ?_|(refine gB ?_ ?_<;>intro h)|refine gC (dJ p hp) ?_|refine gC (iQ p _) ?_|intro _))<;>try (conv=>whnf)
  all_goals first
   |(refine⟨?_,rfl,trivial⟩;simp [qZ, *];done)
   |(exfalso;simp [dI, *] at h2;done)
 |true=>
  obtain⟨n,x,ha,hx⟩:=jr h2
  have hm:=jD hwf.1.2.1.2 hx
  have e:l.act.toNat=n:=by omega
  simp only [AV.wf,AV.wfs,List.length_map] at hm
  (repeat' ((conv=>whnf);first|with_reducible refine Idx.got hx (by first|exact ha|rfl) ?_|refine gA ?_|(refine gB ?_ ?_<;>intro h)|refine gC (dJ p hp) ?_|refine gC (iQ p _) ?_|refine gC (bO _ _ _) ?_|intro _))<;>try (conv=>whnf)
  all_goals first
   |(refine⟨?_,rfl,trivial⟩;simp [qZ, *, -ha];done)
   |(exfalso;simp [dI, *] at h2;done)
theorem oh (p:Proj) (l:Lit) (hp:p.fine):Con 51 [.d p.av,.d l.av] (.d (.bool (qZ p l))):=by
 refine con Tryz.func51 rfl rfl Tryz.call51 rfl fun hwf=>?_
 simp only [ARs.wf,AR.wf,AV.wf,AV.wfs,lm,lim] at hwf
 cases h2:dI p l.act with
 |false=>
  have h2':within l.act 0 (((p.acts.map aB.av).length:Int) - 1)=false:=by rw [List.length_map];exact h2
  (repeat' ((conv=>whnf);first|refine gA ?_|(refine gB ?_ ?_<;>intro h)|refine gC (dP p hp) ?_|refine gC (dG _ _ _) ?_|intro _))<;>try (conv=>whnf)
  all_goals (refine⟨?_,rfl,trivial⟩;simp [qZ,h2])
 |true=>
  have h2':within l.act 0 (((p.acts.map aB.av).length:Int) - 1)=true:=by rw [List.length_map];exact h2
  obtain⟨n,x,ha,hx⟩:=jr h2
  have hm:=jD hwf.1.2.1.2 hx
  have e:l.act.toNat=n:=by omega
  simp only [AV.wf,AV.wfs,List.length_map] at hm
  (repeat' ((conv=>whnf);first|with_reducible refine Idx.got hx (by first|exact ha|rfl) ?_|refine gA ?_|(refine gB ?_ ?_<;>intro h)|refine gC (dP p hp) ?_|refine gC (dG _ _ _) ?_|intro _))<;>try (conv=>whnf)
  all_goals first
   |(refine⟨?_,rfl,trivial⟩;simp [qZ, *, -ha, -h2'];done)
   |(exfalso;simp [dI, *] at h2;done)
theorem abS (n:Int):Con 320 [.d (i64 n)] (.d (.bool false)):=by
 refine con Tryz.func320 rfl rfl Tryz.call320 rfl fun hwf=>?_
 try (conv=>whnf)
 refine⟨?_,rfl,trivial⟩
 simp
theorem Xm (x y:Int):Con 248 [.d (i64 x),.d (i64 y)] (.d (i64 (Ci x y))):=by
 refine con Tryz.func248 rfl rfl Tryz.call248 rfl fun hwf=>?_
 (repeat' ((conv=>whnf);first|refine gA ?_|(refine gB ?_ ?_<;>intro h)|refine gC (abS _) ?_|intro _))
 all_goals refine⟨?_,rfl,trivial⟩
 all_goals (simp only [Ci,i64,AV.int.injEq,true_and];split<;>(try split)<;>omega)
theorem agu (l:List Int):Con 247 [.d (ints l)] (.d (i64 (orI l))):=by
 refine con Tryz.func247 rfl rfl Tryz.call247 rfl fun hwf=>?_
 simp only [ARs.wf,AR.wf,AV.wf,AV.wfs,lm,lim] at hwf
 try (conv=>whnf)
 refine ay [3,6,7] [] [] ?_
 (conv=>whnf)
 refine au.go ((Nat)) (fun k=>(k<=l.length)/\(orI (l.drop k)=orI l)) (fun k=>[(8,.data (i64 k))]) lE lE (fun k=>l.length - k) (0) ?_ ?_
 ·exact⟨by omega,rfl⟩
 rintro k ⟨hk,hi⟩
 (repeat' ((conv=>whnf);first|refine gA ?_|(refine gB ?_ ?_<;>intro h)|(refine gI ?_;intro x hx)))<;>try (conv=>whnf)
 all_goals first
  |exact trivial
  |(refine⟨?_,rfl,trivial⟩;rw [aG (l:=l) (by assumption)] at hi;first|(simp_all [orI];done)|(simp only [orI, <- hi];clear hi;simp_all [orI];done))
  |(refine⟨?_,rfl,trivial⟩;rw [aA (l:=l) (by assumption)] at hi;first|(simp_all [orI];done)|(simp only [orI, <- hi];clear hi;simp_all [orI];done))
  |(refine nx (k+1) ?_
    rw [aA (l:=l) (by assumption)] at hi;refine⟨by omega,?_⟩;simp_all [orI];done)
theorem uF (a b:Lit):Con 170 [.d a.av,.d b.av] (.d (i64 (jo a b))):=by
 refine con Tryz.func170 rfl rfl Tryz.call170 rfl fun hwf=>?_
 (repeat' ((conv=>whnf);first|refine gA ?_|refine gC (Xm _ _) ?_|refine gC (agu [Ci a.act b.act,Ci a.kind b.kind,Ci a.val b.val]) ?_|intro _))
 exact⟨rfl,rfl,trivial⟩
theorem UL (x y:Int):Con 330 [.d (i64 x),.d (i64 y)] (.d (i64 (Ci x y))):=by
 refine con Tryz.func330 rfl rfl Tryz.call330 rfl fun hwf=>?_
 (repeat' ((conv=>whnf);first|(refine gB ?_ ?_<;>intro h)))
 all_goals refine⟨?_,rfl,trivial⟩
 all_goals (simp only [Ci,i64,AV.int.injEq,true_and];split<;>(try split)<;>omega)
theorem Kr (x:Int):Ci x x=0:=by simp [Ci]
theorem aaM {x y:Int} (h:x≠y):Ci x y≠0:=by
 unfold Ci;split
 ·omega
 ·split<;>omega
theorem uG (a b:Lit):Con 272 [.d a.av,.d b.av] (.d (i64 (jo a b))):=by
 refine con Tryz.func272 rfl rfl Tryz.call272 rfl fun hwf=>?_
 (repeat' ((conv=>whnf);first|refine gA ?_|(refine gB ?_ ?_<;>intro h)|refine gC (UL _ _) ?_|intro _))
 all_goals refine⟨?_,rfl,trivial⟩
 ·by_cases e:Ci a.val b.val=0<;>simp [jo,orI, *,Kr]
 ·simp [jo,orI, *,Kr,aaM]
 ·simp [jo,orI, *,Kr,aaM]
theorem Fb (p:Proj) (l:List Lit) (hp:p.fine):Con 249 [.d p.av,.d (lits l)] (.d (.bool (ru p l))):=by
 refine con Tryz.func249 rfl rfl Tryz.call249 rfl fun hwf=>?_
 simp only [ARs.wf,AR.wf,AV.wf,AV.wfs,lm,lim] at hwf
 try (conv=>whnf)
 refine ay [1,2,7,8] [2] [] ?_
 (conv=>whnf)
 refine au.go ((Nat)) (fun k=>(k<=l.length)/\(∀i,i < k->clauseAt p l i=true)) (fun k=>[(9,.data (i64 k))]) lE lE (fun k=>l.length - k) (0) ?_ ?_
 ·exact⟨by omega,by omega⟩
 rintro k ⟨hk,hi⟩
 (repeat' ((conv=>whnf);first|refine gA ?_|(refine gB ?_ ?_<;>intro h)|(refine gI ?_;intro x hx)|(refine gJ ?_;intro j x hj hx)|refine gC (rF p _ hp) ?_|refine gC (uF _ _) ?_|intro _))<;>try (conv=>whnf)
 all_goals first
  |(refine⟨?_,rfl,trivial⟩;rw [ru,fT k (by omega) (by (try (obtain rfl:j=k - 1:=by omega));simp [clauseAt, *];try omega)];rfl)
  |(refine nx (k+1) ?_
    exact⟨by omega,eY hi (by (try (obtain rfl:j=k - 1:=by omega));simp [clauseAt, *];try omega)⟩)
  |(refine⟨?_,rfl,trivial⟩;rw [ru,dB.2 fun i hh=>hi i (by omega)];simp)
theorem Fe (p:Proj) (l:List Lit) (hp:p.fine):Con 256 [.d p.av,.d (lits l)] (.d (.bool (ru p l))):=by
 refine con Tryz.func256 rfl rfl Tryz.call256 rfl fun hwf=>?_
 simp only [ARs.wf,AR.wf,AV.wf,AV.wfs,lm,lim] at hwf
 try (conv=>whnf)
 refine ay [1,2,7,8] [2] [] ?_
 (conv=>whnf)
 refine au.go ((Nat)) (fun k=>(k<=l.length)/\(∀i,i < k->clauseAt p l i=true)) (fun k=>[(9,.data (i64 k))]) lE lE (fun k=>l.length - k) (0) ?_ ?_
 ·exact⟨by omega,by omega⟩
 rintro k ⟨hk,hi⟩
 (repeat' ((conv=>whnf);first|refine gA ?_|(refine gB ?_ ?_<;>intro h)|(refine gI ?_;intro x hx)|(refine gJ ?_;intro j x hj hx)|refine gC (oh p _ hp) ?_|refine gC (uG _ _) ?_|intro _))<;>try (conv=>whnf)
 all_goals first
  |(refine⟨?_,rfl,trivial⟩;rw [ru,fT k (by omega) (by (try (obtain rfl:j=k - 1:=by omega));simp [clauseAt, *];try omega)];rfl)
  |(refine nx (k+1) ?_
    exact⟨by omega,eY hi (by (try (obtain rfl:j=k - 1:=by omega));simp [clauseAt, *];try omega)⟩)
  |(refine⟨?_,rfl,trivial⟩;rw [ru,dB.2 fun i hh=>hi i (by omega)];simp)
theorem wK (p:Proj) (hp:p.fine):Con 74 [.d p.av] (.d (rA p).av):=by
 refine con Tryz.func74 rfl rfl Tryz.call74 rfl fun hwf=>?_
 simp only [ARs.wf,AR.wf,AV.wf,AV.wfs,lm,lim] at hwf
 cases ho:bI p with
 |false=>
  (repeat' ((conv=>whnf);first|refine gA ?_|refine gC (dJ p hp) ?_|intro _))<;>try (conv=>whnf)
  refine⟨?_,rfl,trivial⟩
  rw [rA,if_neg (by simp [ho])];rfl
 |true=>
 have hd:within p.dead 1 60=true:=by simp [bI,wH] at ho;simp [ho]
 have hd:=within_iff.1 hd
 (repeat' ((conv=>whnf);first|refine gA ?_|refine gC (dJ p hp) ?_|intro _))<;>try (conv=>whnf)
 refine ay [1,2,3,12,13] [1,2] [21,28,34] ?_
 (conv=>whnf)
 refine au.go ((Nat)) (fun k=>(k<=p.acts.length)) (fun k=>[(14,.data (i64 k))]) (fun k=>[(3,[.own 21 0,.own 28 0,.own 34 0])]) (fun k=>[(21,3,(p.acts.take k).map (fun _=>i64 0),0),(28,3,(p.acts.take k).map (fun _=>i64 (p.dead - 1)),0),(34,25,(p.acts.take k).map (fun a=>ints (aT a.modes.length)),0)]) (fun k=>p.acts.length - k) (0) ?_ ?_
 ·exact Nat.zero_le _
 rintro k hk
 (repeat' ((conv=>whnf);first|refine gAX ?_|(refine gB ?_ ?_<;>intro h)|(refine gI ?_;intro x hx)|refine gC (sQ x) ?_|intro _))<;>try (conv=>whnf)
 ·refine nw (k+1) ?_ ?_
  ·(repeat' ((conv=>whnf)<;>(first|exact trivial|exact rfl|with_reducible refine And.intro ?_ ?_)))<;>((conv=>whnf)<;>(exact fO _ hx))
  exact (by omega:k+1<=p.acts.length)
 ·refine⟨?_,rfl,trivial⟩
  rw [rA,if_pos ho,jV]
  dsimp only
  rw [List.take_of_length_le (by omega)]
  simp [List.map_map,Function.comp_def]
theorem Ag (p:Proj) (hd:1<=p.dead/\p.dead<=60):Con 123 [.d p.av] (.d (jV p).av):=by
 refine con Tryz.func123 rfl rfl Tryz.call123 rfl fun hwf=>?_
 simp only [ARs.wf,AR.wf,AV.wf,AV.wfs,lm,lim] at hwf
 try (conv=>whnf)
 refine ay [1,2,3,8,9] [1,2] [17,25,32] ?_
 (conv=>whnf)
 refine au.go ((Nat)) (fun k=>(k<=p.acts.length)) (fun k=>[(10,.data (i64 k))]) (fun k=>[(3,[.own 17 0,.own 25 0,.own 32 0])]) (fun k=>[(17,3,(p.acts.take k).map (fun _=>i64 0),0),(25,3,(p.acts.take k).map (fun _=>i64 (p.dead - 1)),0),(32,25,(p.acts.take k).map (fun a=>ints (aT a.modes.length)),0)]) (fun k=>p.acts.length - k) (0) ?_ ?_
 ·exact Nat.zero_le _
 rintro k hk
 (repeat' ((conv=>whnf);first|refine gAX ?_|(refine gB ?_ ?_<;>intro h)|(refine gI ?_;intro x hx)|refine gC (sS x) ?_|intro _))<;>try (conv=>whnf)
 ·refine nw (k+1) ?_ ?_
  ·(repeat' ((conv=>whnf)<;>(first|exact trivial|exact rfl|with_reducible refine And.intro ?_ ?_)))<;>((conv=>whnf)<;>(exact fO _ hx))
  exact (by omega:k+1<=p.acts.length)
 ·refine⟨?_,rfl,trivial⟩
  rw [jV]
  dsimp only
  rw [List.take_of_length_le (by omega)]
  simp [List.map_map,Function.comp_def]
theorem bD (p:Proj) (b:Dom) (hp:p.fine):Con 73 [.d p.av,.d b.av] (.d (.bool (aW p b))):=by
 refine con Tryz.func73 rfl rfl Tryz.call73 rfl fun hwf=>?_
 simp only [ARs.wf,AR.wf,AV.wf,AV.wfs,lm,lim] at hwf
 (repeat' ((conv=>whnf);first|refine gA ?_|(refine gB ?_ ?_<;>intro h)|refine gC (dJ p hp) ?_|intro _))<;>try (conv=>whnf)
 all_goals try (refine⟨?_,rfl,trivial⟩;simp [aW, *];done)
 refine ay [2,3,36,37] [2,3] [] ?_
 (conv=>whnf)
 refine au.go ((Nat)) (fun k=>(k<=p.acts.length)/\(∀i,i < k->uD p b i=true)) (fun k=>[(38,.data (i64 k))]) lE lE (fun k=>p.acts.length - k) (0) ?_ ?_
 ·exact⟨by omega,by omega⟩
 rintro k ⟨hk,hi⟩
 by_cases hlt:k < p.acts.length
 ·obtain⟨lo,e1⟩:∃x,b.lo[k]? =some x:=⟨b.lo[k]'(by omega),by simp⟩
  obtain⟨hi',e2⟩:∃x,b.hi[k]? =some x:=⟨b.hi[k]'(by omega),by simp⟩
  obtain⟨mo,e3⟩:∃x,b.modes[k]? =some x:=⟨b.modes[k]'(by omega),by simp⟩
  obtain⟨ac,e4⟩:∃x,p.acts[k]? =some x:=⟨p.acts[k]'(by omega),by simp⟩
  (repeat' ((conv=>whnf);first|(with_reducible first|refine Idx.got e1 rfl ?_|refine Idx.got e2 rfl ?_|refine Idx.got e3 rfl ?_|refine Idx.got e4 rfl ?_)|refine gAV ?_|(refine gN ?_ ?_<;>intro h hw)|(refine gB ?_ ?_<;>intro h)|refine gC (UJ _) ?_|refine gC (Zo _) ?_|refine gC (Cr _ _) ?_|refine gC (sQ ac) ?_|intro _))<;>try (conv=>whnf)
  all_goals first
   |(exfalso;omega)
   |(refine⟨?_,rfl,trivial⟩;rw [aW,fT k hlt (by simp only [uD,e1,e2,e3,e4];simp [*])];simp;done)
   |(refine nx (k+1) ?_
     exact⟨by omega,eY hi (by simp only [uD,e1,e2,e3,e4];simp [*])⟩)
 ·(repeat' ((conv=>whnf);first|(exfalso;omega)|(refine gB ?_ ?_<;>intro h)))<;>try (conv=>whnf)
  refine⟨?_,rfl,trivial⟩
  rw [aW,dB.2 fun i hh=>hi i (by omega)];simp [*]
theorem dH (p:Proj) (b:Dom) (hp:p.fine):Con 50 [.d p.av,.d b.av] (.d (.bool (aW p b))):=by
 refine con Tryz.func50 rfl rfl Tryz.call50 rfl fun hwf=>?_
 simp only [ARs.wf,AR.wf,AV.wf,AV.wfs,lm,lim] at hwf
 (repeat' ((conv=>whnf);first|refine gA ?_|(refine gB ?_ ?_<;>intro h)|refine gC (dP p hp) ?_|intro _))<;>try (conv=>whnf)
 all_goals try (refine⟨?_,rfl,trivial⟩;simp [aW, *];done)
 refine ay [3,38,39] [3] [] ?_
 (conv=>whnf)
 refine au.go ((Nat)) (fun k=>(k<=p.acts.length)/\(∀i,i < k->uD p b i=true)) (fun k=>[(40,.data (i64 k))]) lE lE (fun k=>p.acts.length - k) (0) ?_ ?_
 ·exact⟨by omega,by omega⟩
 rintro k ⟨hk,hi⟩
 by_cases hlt:k < p.acts.length
 ·obtain⟨lo,e1⟩:∃x,b.lo[k]? =some x:=⟨b.lo[k]'(by omega),by simp⟩
  obtain⟨hi',e2⟩:∃x,b.hi[k]? =some x:=⟨b.hi[k]'(by omega),by simp⟩
  obtain⟨mo,e3⟩:∃x,b.modes[k]? =some x:=⟨b.modes[k]'(by omega),by simp⟩
  obtain⟨ac,e4⟩:∃x,p.acts[k]? =some x:=⟨p.acts[k]'(by omega),by simp⟩
  (repeat' ((conv=>whnf);first|(with_reducible first|refine Idx.got e1 rfl ?_|refine Idx.got e2 rfl ?_|refine Idx.got e3 rfl ?_|refine Idx.got e4 rfl ?_)|refine gAV ?_|(refine gN ?_ ?_<;>intro h hw)|(refine gB ?_ ?_<;>intro h)|refine gC (dG _ _ _) ?_|refine gC (Zp _) ?_|refine gC (Ct _ _) ?_|refine gC (sS ac) ?_|intro _))<;>try (conv=>whnf)
  all_goals first
   |(exfalso;omega)
   |(refine⟨?_,rfl,trivial⟩;rw [aW,fT k hlt (by simp only [uD,e1,e2,e3,e4];simp [rz, *])];simp;done)
   |(refine nx (k+1) ?_
     exact⟨by omega,eY hi (by simp only [uD,e1,e2,e3,e4];simp [rz, *])⟩)
 ·(repeat' ((conv=>whnf);first|(exfalso;omega)|(refine gB ?_ ?_<;>intro h)))<;>try (conv=>whnf)
  refine⟨?_,rfl,trivial⟩
  rw [aW,dB.2 fun i hh=>hi i (by omega)];simp [*]
theorem IK (l:List Int):Con 232 [.d (ints l)] (.d (.bool (decide ((l.length:Int)=0)))):=by
 refine con Tryz.func232 rfl rfl Tryz.call232 rfl fun hwf=>?_
 try (conv=>whnf)
 all_goals refine⟨?_,rfl,trivial⟩
 all_goals simp
theorem BJ (l:List (List Int)) (fc:Nat) (caps:List AV) (p:List Int->Bool) (hc:∀x:List Int,Con fc ([.d (ints x)]++caps.map .ref) (.d (.bool (p x)))):
  Con 284 [.d (.sl (l.map ints)),.fn fc caps] (.d (i64 (bn p l 0))):=by
 refine con Tryz.func284 rfl rfl Tryz.call284 rfl fun hwf=>?_
 simp only [ARs.wf,AR.wf,AV.wf,AV.wfs,lm,lim] at hwf
 (conv=>whnf)
 refine ay [0,1,7] [] [] ?_
 (conv=>whnf)
 refine au.go ((Nat)) (fun k=>(k<=l.length)/\(bn p (l.drop k) k=bn p l 0)) (fun k=>[(8,.data (i64 k))]) lE lE (fun k=>l.length - k) (0) ?_ ?_
 ·exact⟨by omega,rfl⟩
 rintro k ⟨hk,hi⟩
 (repeat' ((conv=>whnf);first|refine gA ?_|(refine gB ?_ ?_<;>intro h)|(refine gI ?_;intro x hx)|refine gC (hc x) ?_|intro _))<;>try (conv=>whnf)
 all_goals first
  |exact trivial
  |(refine⟨?_,rfl,trivial⟩;rw [aG (l:=l) (by assumption)] at hi;first|(simp_all [bn];done)|(simp only [bn, <- hi];clear hi;simp_all [bn];done))
  |(refine⟨?_,rfl,trivial⟩;rw [aA (l:=l) (by assumption)] at hi;first|(simp_all [bn];done)|(simp only [bn, <- hi];clear hi;simp_all [bn];done))
  |(refine nx (k+1) ?_
    rw [aA (l:=l) (by assumption)] at hi;refine⟨by omega,?_⟩;simp_all [bn];done)
theorem yM (l:List (List Int)) (fc:Nat) (caps:List AV) (p:List Int->Bool) (hc:∀x:List Int,Con fc ([.d (ints x)]++caps.map .ref) (.d (.bool (p x)))):
  Con 231 [.d (.sl (l.map ints)),.fn fc caps] (.d (.bool (l.any p))):=by
 refine con Tryz.func231 rfl rfl Tryz.call231 rfl fun hwf=>?_
 (repeat' ((conv=>whnf);first|refine gA ?_|refine gC (BJ l fc caps p hc) ?_|intro _))
 refine⟨?_,rfl,trivial⟩
 rw [<- Ch l 0]
theorem aaN {n:Nat} {f:Nat->Bool}:(List.range n).any f=false↔∀i,i < n->f i=false:=by simp
theorem Xn {n:Nat} {f:Nat->Bool} (k:Nat) (hk:k < n) (h:f k=true):(List.range n).any f=true:=by simp;exact⟨k,hk,h⟩
theorem Xo {f:Nat->Bool} {k:Nat} (h:∀i,i < k->f i=false) (hf:f k=false):∀i,i < k+1->f i=false:=by
 intro i hi
 by_cases e:i=k
 ·rw [e];exact hf
 ·exact h i (by omega)
theorem bP (b:Dom):Con 158 [.d b.av] (.d (.bool (jB b))):=by
 refine con Tryz.func158 rfl rfl Tryz.call158 rfl fun hwf=>?_
 simp only [ARs.wf,AR.wf,AV.wf,AV.wfs,lm,lim] at hwf
 try (conv=>whnf)
 refine ay [1,6,7] [1] [] ?_
 (conv=>whnf)
 refine au.go ((Nat)) (fun k=>(k<=b.lo.length)/\(∀i,i < k->rC b i=false)) (fun k=>[(8,.data (i64 k))]) lE lE (fun k=>b.lo.length - k) (0) ?_ ?_
 ·exact⟨by omega,by omega⟩
 rintro k ⟨hk,hi⟩
 (repeat' ((conv=>whnf);first|refine gA ?_|(refine gB ?_ ?_<;>intro h)|(refine gI ?_;intro x hx)|refine gC (yM b.modes 232 [] _ fun x=>IK x) ?_|intro _))<;>try (conv=>whnf)
 all_goals first
  |(refine⟨?_,rfl,trivial⟩;rw [jB,Xn k (by omega) (by simp [rC, *])];rfl)
  |(refine nx (k+1) ?_
    exact⟨by omega,Xo hi (by first|(simp [rC, *];done)|simp [rC,hx,List.getElem?_eq_none (show b.hi.length<=k by omega)])⟩)
  |(refine⟨?_,rfl,trivial⟩;rw [jB,aaN.2 fun i hh=>hi i (by omega)];rfl)
theorem fq (b:Dom):Con 120 [.d b.av] (.d (.bool (jB b))):=by
 refine con Tryz.func120 rfl rfl Tryz.call120 rfl fun hwf=>?_
 simp only [ARs.wf,AR.wf,AV.wf,AV.wfs,lm,lim] at hwf
 try (conv=>whnf)
 refine ay [1,8,9] [1] [] ?_
 (conv=>whnf)
 refine au.go ((Nat)) (fun k=>(k<=b.lo.length)/\(∀i,i < k->rC b i=false)) (fun k=>[(10,.data (i64 k))]) lE lE (fun k=>b.lo.length - k) (0) ?_ ?_
 ·exact⟨by omega,by omega⟩
 rintro k ⟨hk,hi⟩
 (repeat' ((conv=>whnf);first|refine gA ?_|(refine gB ?_ ?_<;>intro h)|(refine gI ?_;intro x hx)))<;>try (conv=>whnf)
 all_goals first
  |(refine⟨?_,rfl,trivial⟩;rw [jB,Xn k (by omega) (by simp [rC, *])];rfl)
  |(refine nx (k+1) ?_
    exact⟨by omega,Xo hi (by first|(simp [rC, *];done)|simp [rC,hx,List.getElem?_eq_none (show b.hi.length<=k by omega)])⟩)
  |skip
 have e:(List.range b.lo.length).any (rC b)=false:=aaN.2 fun i hh=>hi i (by omega)
 clear hi
 refine ay [31,32] [] [] ?_
 (conv=>whnf)
 refine au.go ((Nat)) (fun m=>(m<=b.modes.length)/\((b.modes.drop m).any (fun m=>decide ((m.length:Int)=0))=b.modes.any (fun m=>decide ((m.length:Int)=0)))) (fun m=>[(33,.data (i64 m))]) lE lE (fun m=>b.modes.length - m) (0) ?_ ?_
 ·exact⟨by omega,rfl⟩
 rintro m ⟨hm,hi⟩
 (repeat' ((conv=>whnf);first|refine gA ?_|(refine gB ?_ ?_<;>intro h)|(refine gI ?_;intro x hx)))<;>try (conv=>whnf)
 ·refine⟨?_,rfl,trivial⟩
  rw [aA hx,List.any_cons] at hi
  rw [jB,e, <- hi];simp only [decide_eq_true h];simp
 ·refine nx (m+1) ?_
  rw [aA hx,List.any_cons,decide_eq_false h,Bool.false_or] at hi
  exact⟨by omega,hi⟩
 ·refine⟨?_,rfl,trivial⟩
  rw [aG (by assumption)] at hi
  rw [jB,e, <- hi];rfl
theorem Ah {m:List Int} {f:Int->Bool} (h:jU m=true):jU (m.filter f)=true:=by
 have hp:=(IJ h).filter f
 rw [Kq]
 intro i hi
 exact (List.pairwise_iff_getElem.1 hp) i (i+1) (by omega) hi (by omega)
theorem Ow (n:Int):jU (aT n)=true:=by
 unfold aT
 split
 ·rw [Kq];intro i hi;simp;omega
 ·rfl
theorem xO (p:Proj):∀m∈(jV p).modes,jU m=true:=by
 intro m hm
 simp only [jV,List.mem_map] at hm
 obtain⟨a,_,rfl⟩:=hm
 exact Ow _
theorem LH {b:Dom} (h:∀m∈b.modes,jU m=true) (l:Lit):∀m∈(restrict b l).modes,jU m=true:=by
 have key:∀(n:Nat) (f:Int->Bool),∀m∈b.modes.set n ((b.modes.getD n []).filter f),jU m=true:=by
  intro n f m hm
  rcases List.mem_or_eq_of_mem_set hm with hm|rfl
  ·exact h m hm
  ·refine Ah ?_
   rw [List.getD_eq_getElem?_getD]
   cases hg:b.modes[n]? with
   |none=>rfl
   |some x=>exact h x (List.mem_of_getElem? hg)
 unfold restrict
 split
 ·dsimp only;split
  ·exact h
  ·split
   ·exact h
   ·split
    ·exact key _ _
    ·split
     ·exact key _ _
     ·exact h
 ·exact h
theorem qF (p:Proj) (l:List Lit) (hp:p.fine):Con 174 [.d p.av,.d (lits l)] (.d (qE p l).av):=by
 refine con Tryz.func174 rfl rfl Tryz.call174 rfl fun hwf=>?_
 simp only [ARs.wf,AR.wf,AV.wf,AV.wfs,lm,lim] at hwf
 (repeat' ((conv=>whnf);first|refine gA ?_|refine gC (wK p hp) ?_|intro _))<;>try (conv=>whnf)
 refine ay [4,5,10,11] [4] [] ?_
 (conv=>whnf)
 refine au.go ((Nat)×(Dom)) (fun⟨k,d⟩=>(k<=l.length)/\(against d (l.drop k)=qE p l)) (fun⟨k,d⟩=>[(12,.data (i64 k))]) (fun⟨k,d⟩=>[(5,(AV.cells d.av).map SV.data)]) lE (fun⟨k,d⟩=>l.length - k) ⟨0,rA p⟩ ?_ ?_
 ·exact⟨by omega,rfl⟩
 rintro⟨k,d⟩ ⟨hk,hi⟩
 (repeat' ((conv=>whnf);first|refine gA ?_|(refine gB ?_ ?_<;>intro h)|(refine gI ?_;intro x hx)|refine gC (iK _) ?_|refine gC (fP d (negate x)) ?_|intro _))<;>try (conv=>whnf)
 ·refine nx ⟨k+1,restrict d (negate x)⟩ ?_
  rw [aA hx] at hi
  exact⟨by omega,hi⟩
 ·refine⟨?_,rfl,trivial⟩
  rw [aG (by assumption)] at hi
  rw [<- hi];rfl
theorem uU (b:Dom) (l:List Lit) (hb:∀m∈b.modes,jU m=true):Con 257 [.d b.av,.d (lits l)] (.d (against b l).av):=by
 refine con Tryz.func257 rfl rfl Tryz.call257 rfl fun hwf=>?_
 simp only [ARs.wf,AR.wf,AV.wf,AV.wfs,lm,lim] at hwf
 (repeat' ((conv=>whnf);first|refine gA ?_|refine gC (mP b) ?_|intro _))<;>try (conv=>whnf)
 refine ay [4,5,10,11] [4] [] ?_
 (conv=>whnf)
 refine au.go ((Nat)×(Dom)) (fun⟨k,d⟩=>(k<=l.length)/\(∀m∈d.modes,jU m=true)/\(against d (l.drop k)=against b l)) (fun⟨k,d⟩=>[(12,.data (i64 k))]) (fun⟨k,d⟩=>[(5,(AV.cells d.av).map SV.data)]) lE (fun⟨k,d⟩=>l.length - k) ⟨0,b⟩ ?_ ?_
 ·exact⟨by omega,hb,rfl⟩
 rintro⟨k,d⟩ ⟨hk,hd,hi⟩
 (repeat' ((conv=>whnf);first|refine gA ?_|(refine gB ?_ ?_<;>intro h)|(refine gI ?_;intro x hx)|refine gC (qL _) ?_|refine gC (jL d (negate x) (fun m hm=>hd m (List.mem_of_getElem? hm))) ?_|intro _))<;>try (conv=>whnf)
 ·refine nx ⟨k+1,restrict d (negate x)⟩ ?_
  rw [aA hx] at hi
  exact⟨by omega,LH hd _,hi⟩
 ·refine⟨?_,rfl,trivial⟩
  rw [aG (by assumption)] at hi
  rw [<- hi];rfl
theorem xP {p:Proj} (h:bI p=true):1<=p.dead/\p.dead<=60:=by
 have:within p.dead 1 60=true:=by simp [bI,wH] at h;simp [h]
 exact within_iff.1 this
end Go.Proofs.YthegbfgeochckaaGreat.Abs
