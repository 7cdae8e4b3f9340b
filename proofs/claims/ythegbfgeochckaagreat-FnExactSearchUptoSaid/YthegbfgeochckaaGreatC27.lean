/- Part of a proof. -/
import Derived.Test.YthegbfgeochckaaGreatSet
import Derived.Test.YthegbfgeochckaaGreatC9
import Derived.Test.YthegbfgeochckaaGreatC26
set_option linter.all false
set_option maxRecDepth 20000
set_option maxHeartbeats 0
namespace Go.Proofs.YthegbfgeochckaaGreat.Abs
open Go.Proofs
theorem Pn (l:List Int):(setOf l).Pairwise (· < ·):=(rO (l:=l) (o:=[]) List.Pairwise.nil).1
theorem KE {l:List Int} {x:Int}:x∈setOf l↔x∈l:=by
 have:=(rO (l:=l) (o:=[]) List.Pairwise.nil).2 x
 exact this.trans (by simp)
theorem Po {l m:List Int} (hm:m.Pairwise (· < ·)) (h:∀x,x∈m↔x∈l):setOf l=m:=CY (Pn l) hm fun x=>KE.trans (h x).symm
theorem AB (l:List Int) (n:Int):setOf (setOf l++[n])=setOf (l++[n]):=Po (Pn _) fun x=>by simp [KE]
theorem XI (l:List Int):setOf (setOf l)=setOf l:=Po (Pn _) fun x=>Iff.rfl
theorem abZ (l:List Int) (n:Int):nN (setOf l) n=setOf (l++[n]):=by rw [setOf,setOf,List.foldl_append];rfl
theorem XJ (l:List Int) (n:Int) (hl:l.length < lim):Con 287 [.d (ints l),.d (i64 n)] (.d (ints (setOf (l++[n])))):=by
 refine con Tryz.func287 rfl rfl Tryz.call287 rfl fun hwf=>?_
 unfold lim at hl
 have e:(l++[n]).map i64=l.map i64++[i64 n]:=by simp
 have hS:=tq (l++[n])
 rw [ints,e] at hS
 (repeat' ((conv=>whnf);first|refine gAP ?_|refine gC (slices_Clone_int l) ?_|refine gC hS ?_|intro _))
 all_goals exact⟨rfl,rfl,trivial⟩
theorem Db (l:List Int) (n:Int) (hl:l.length < lim):Con 260 [.d (ints l),.d (i64 n)] (.d (ints (setOf (l++[n])))):=by
 refine con Tryz.func260 rfl rfl Tryz.call260 rfl fun hwf=>?_
 have h1:=iI l
 rw [<- abZ]
 (repeat' ((conv=>whnf);first|refine gA ?_|refine gC (sU l) ?_|refine gC (LG (setOf l) n (by omega)) ?_|intro _))
 exact⟨rfl,rfl,trivial⟩
theorem Ee {p:Proj} {k:Nat} {a:aB} (h:p.acts[k]? =some a):nQ p k=a:=by simp [nQ,List.getD_eq_getElem?_getD,h]
theorem XK {p:Proj} (ho:bI p=true) {k:Nat} {a:aB} (h:p.acts[k]? =some a) {m:Mode} (hm:m∈a.modes):m.use.length=p.aS.length:=by
 have:=(mQ ((bX ho).act k a h) hm).2.2.1
 omega
theorem acd {p:Proj} (ho:bI p=true) {k:Nat} {a:aB} (h:p.acts[k]? =some a):a.modes.length<=3:=by
 have:=(bX ho).act k a h
 simp only [dV,Bool.and_eq_true,within_iff] at this
 omega
open Go.Proofs
def qp (p:Proj) (r:Int) (i:Int):Bool:=(nQ p i.toNat).modes.any fun m=>decide (m.use.getD r.toNat 0 > 0)
def users (p:Proj) (r:Int):List Int:=if bI p=true/\fM p r=true then (upTo p.acts.length).filter (qp p r) else []
theorem BK (l:List Mode) (fc:Nat) (caps:List AV) (p:Mode->Bool) (hc:∀x∈l,Con fc ([.d x.av]++caps.map .ref) (.d (.bool (p x)))):
  Con 367 [.d (.sl (l.map Mode.av)),.fn fc caps] (.d (i64 (bn p l 0))):=by
 refine con Tryz.func367 rfl rfl Tryz.call367 rfl fun hwf=>?_
 simp only [ARs.wf,AR.wf,AV.wf,AV.wfs,lm,lim] at hwf
 (conv=>whnf)
 refine ay [0,1,7] [] [] ?_
 (conv=>whnf)
 refine au.go ((Nat)) (fun k=>(k<=l.length)/\(bn p (l.drop k) k=bn p l 0)) (fun k=>[(8,.data (i64 k))]) lE lE (fun k=>l.length - k) (0) ?_ ?_
 ·exact⟨by omega,rfl⟩
 rintro k ⟨hk,hi⟩
 by_cases hlt:k < l.length
 ·obtain⟨x,hx⟩:∃x,l[k]? =some x:=⟨l[k]'hlt,by simp⟩
  (repeat' ((conv=>whnf);first|with_reducible refine Idx.got hx rfl ?_|refine gAV ?_|(refine gB ?_ ?_<;>intro h)|refine gC (hc x (List.mem_of_getElem? hx)) ?_|intro _))<;>try (conv=>whnf)
  ·refine⟨?_,rfl,trivial⟩
   rw [aA (l:=l) hx,bn,if_pos h] at hi
   rw [<- hi]
  ·refine nx (k+1) ?_
   rw [aA (l:=l) hx,bn,if_neg (by simp [h])] at hi
   exact⟨by omega,hi⟩
  ·exfalso;omega
 ·(repeat' ((conv=>whnf);first|(exfalso;omega)|(refine gB ?_ ?_<;>intro h)))<;>try (conv=>whnf)
  refine⟨?_,rfl,trivial⟩
  rw [aG (by assumption)] at hi
  rw [<- hi];rfl
theorem yN (l:List Mode) (fc:Nat) (caps:List AV) (p:Mode->Bool) (hc:∀x∈l,Con fc ([.d x.av]++caps.map .ref) (.d (.bool (p x)))):
  Con 342 [.d (.sl (l.map Mode.av)),.fn fc caps] (.d (.bool (l.any p))):=by
 refine con Tryz.func342 rfl rfl Tryz.call342 rfl fun hwf=>?_
 (repeat' ((conv=>whnf);first|refine gA ?_|refine gC (BK l fc caps p hc) ?_|intro _))
 refine⟨?_,rfl,trivial⟩
 rw [<- Ch l 0]
theorem XL (m:Mode) (r:Int) (k:Nat) (e:r=k) (hk:k < m.use.length):Con 343 [.d m.av,.ref (i64 r)] (.d (.bool (decide (m.use.getD r.toNat 0 > 0)))):=by
 refine con Tryz.func343 rfl rfl Tryz.call343 rfl fun hwf=>?_
 obtain⟨n,hn⟩:∃n,m.use[k]? =some n:=⟨m.use[k]'hk,by simp⟩
 have e2:m.use.getD r.toNat 0=n:=by rw [e,Int.toNat_natCast,List.getD_eq_getElem?_getD,hn];rfl
 (repeat' ((conv=>whnf);first|with_reducible refine Idx.got hn e ?_))
 all_goals exact⟨by rw [e2],rfl,trivial⟩
theorem Dc (f:Int->Bool) (k:Nat):(upTo (k+1)).filter f=(upTo k).filter f++if f k=true then [(k:Int)] else []:=by
 rw [upTo,upTo,List.range_succ,List.map_append,List.filter_append]
 congr 1
 simp only [List.map_cons,List.map_nil,List.filter_cons,List.filter_nil]
 rfl
theorem uY (f:Int->Bool) (k:Nat):((upTo k).filter f).length<=k:=Nat.le_trans (List.length_filter_le _ _) (Nat.le_of_eq (zq k))
theorem Pp (p:Proj) (r:Int) (hp:p.fine):Con 291 [.d p.av,.d (i64 r)] (.d (ints (users p r))):=by
 refine con Tryz.func291 rfl rfl Tryz.call291 rfl fun hwf=>?_
 cases ho:bI p with
 |false=>
  (repeat' ((conv=>whnf);first|refine gA ?_|refine gC (dJ p hp) ?_|intro _))
  all_goals (refine⟨?_,rfl,trivial⟩;rw [users,if_neg (by simp [ho])];rfl)
 |true=>
 cases hr:fM p r with
 |false=>
  (repeat' ((conv=>whnf);first|refine gA ?_|refine gC (dJ p hp) ?_|refine gC (iR p r) ?_|intro _))
  all_goals (refine⟨?_,rfl,trivial⟩;rw [users,if_neg (by simp [hr])];rfl)
 |true=>
  rw [users,if_pos ⟨ho,hr⟩]
  have hna:=(bX ho).Cy
  obtain⟨ρ,re,e1,e2,e3⟩:=vT hr
  have hρ:=(List.getElem?_eq_some_iff.1 e2).1
  (repeat' ((conv=>whnf);first|refine gA ?_|refine gC (dJ p hp) ?_|refine gC (iR p r) ?_|intro _))
  refine ay [3,19,20] [3] [17] ?_
  (conv=>whnf)
  refine au.go ((Nat)) (fun k=>(k<=p.acts.length)) (fun k=>[(21,.data (i64 k)),(5,.own 17 0)]) lE (fun k=>[(17,3,((upTo k).filter (qp p r)).map i64,0)]) (fun k=>p.acts.length - k) (0) ?_ ?_
  ·exact Nat.zero_le _
  rintro k hk
  have hfl:=uY (qp p r) k
  by_cases hlt:k < p.acts.length
  rotate_left
  ·(repeat' ((conv=>whnf);first|(exfalso;omega)|(refine gB ?_ ?_<;>intro h)))
   refine⟨?_,rfl,trivial⟩
   rw [show p.acts.length=k by omega]
  obtain⟨a,ha⟩:∃a,p.acts[k]? =some a:=⟨p.acts[k]'hlt,by simp⟩
  have hu:qp p r k=a.modes.any fun m=>decide (m.use.getD r.toNat 0 > 0):=by rw [qp,Int.toNat_natCast,Ee ha]
  (repeat' ((conv=>whnf);first|with_reducible refine Idx.got ha rfl ?_|refine gAX ?_|(refine gB ?_ ?_<;>intro h)|refine gC (yN a.modes 343 [i64 r] (fun m=>decide (m.use.getD r.toNat 0 > 0)) (fun m hm=>XL m r ρ e1 (by rw [XK ho ha hm];exact hρ))) ?_|intro _))
  ·refine nw (k+1) ?_ ?_
   ·(repeat' ((conv=>whnf)<;>(first|exact trivial|exact rfl|with_reducible refine And.intro ?_ ?_)))<;>((conv=>whnf)<;>((rw [Dc,if_pos (by rw [hu];assumption)];simp)))
   exact (by omega:k+1<=p.acts.length)
  ·refine nw (k+1) ?_ ?_
   ·(repeat' ((conv=>whnf)<;>(first|exact trivial|exact rfl|with_reducible refine And.intro ?_ ?_)))<;>((conv=>whnf)<;>((rw [Dc,if_neg (by rw [hu];simp only [Bool.not_eq_true];assumption)];simp)))
   exact (by omega:k+1<=p.acts.length)
  ·exact trivial
def yO (b:Bool) (k:Int):List Int:=if b=true then [k] else []
theorem afb (k:Nat) (f:Int->Bool):((upTo k).filter f).Pairwise (· < ·):=by
 refine List.Pairwise.filter _ ?_
 rw [upTo,List.pairwise_map]
 exact List.pairwise_lt_range.imp (fun h=>Int.ofNat_lt.2 h)
theorem adT {k:Nat} {f:Int->Bool} {b:Bool}:setOf ((upTo k).filter f++yO b k++[(k:Int)])=(upTo k).filter f++yO true k:=by
 have h1:=afb k f
 refine Po (List.pairwise_append.2 ⟨h1,by simp [yO],fun x hx y hy=>?_⟩) fun x=>?_
 ·simp only [yO,if_true,List.mem_singleton] at hy
  subst hy
  have:=(List.mem_filter.1 hx).1
  simp only [upTo,List.mem_map,List.mem_range] at this
  obtain⟨j,hj,rfl⟩:=this
  exact Int.ofNat_lt.2 hj
 ·cases b<;>simp [yO,or_assoc]
theorem adU {α:Type} {f:α->Bool} {l:List α} {j:Nat} {x:α} (h:l[j]? =some x):(l.take (j+1)).any f=((l.take j).any f||f x):=by
 obtain⟨hj,rfl⟩:=List.getElem?_eq_some_iff.1 h
 rw [List.take_succ_eq_append_getElem hj,List.any_append];simp
theorem Pq (p:Proj) (r:Int) (hp:p.fine):Con 263 [.d p.av,.d (i64 r)] (.d (ints (users p r))):=by
 refine con Tryz.func263 rfl rfl Tryz.call263 rfl fun hwf=>?_
 simp only [ARs.wf,AR.wf,AV.wf,AV.wfs,lm,lim] at hwf
 cases ho:bI p with
 |false=>
  (repeat' ((conv=>whnf);first|refine gA ?_|refine gC (dP p hp) ?_|intro _))<;>try (conv=>whnf)
  all_goals (refine⟨?_,rfl,trivial⟩;rw [users,if_neg (by simp [ho])];rfl)
 |true=>
 cases hr:fM p r with
 |false=>
  have hr':within r 0 (((p.aS.map aK.av).length:Int) - 1)=false:=by rw [List.length_map];exact hr
  (repeat' ((conv=>whnf);first|refine gA ?_|refine gC (dP p hp) ?_|refine gC (dG r 0 (((p.aS.map aK.av).length:Int) - 1)) ?_|intro _))<;>try (conv=>whnf)
  all_goals (refine⟨?_,rfl,trivial⟩;rw [users,if_neg (by simp [hr])];rfl)
 |true=>
  rw [users,if_pos ⟨ho,hr⟩]
  have hna:=(bX ho).Cy
  have hr':within r 0 (((p.aS.map aK.av).length:Int) - 1)=true:=by rw [List.length_map];exact hr
  obtain⟨ρ,re,e1,e2,e3⟩:=vT hr
  have hρ:=(List.getElem?_eq_some_iff.1 e2).1
  (repeat' ((conv=>whnf);first|refine gA ?_|refine gC (dP p hp) ?_|refine gC (dG r 0 (((p.aS.map aK.av).length:Int) - 1)) ?_|intro _))<;>try (conv=>whnf)
  refine ay [1,24,25] [] [] ?_
  (conv=>whnf)
  refine au.go ((Nat)) (fun k=>(k<=p.acts.length)) (fun k=>[(26,.data (i64 k)),(5,.data (ints ((upTo k).filter (qp p r))))]) lE lE (fun k=>p.acts.length - k) (0) ?_ ?_
  ·exact Nat.zero_le _
  rintro k hk
  have hfl:=uY (qp p r) k
  by_cases hlt:k < p.acts.length
  rotate_left
  ·(repeat' ((conv=>whnf);first|(exfalso;omega)|(refine gB ?_ ?_<;>intro h)))<;>try (conv=>whnf)
   refine⟨?_,rfl,trivial⟩
   rw [show p.acts.length=k by omega]
  obtain⟨a,ha⟩:∃a,p.acts[k]? =some a:=⟨p.acts[k]'hlt,by simp⟩
  have hu:qp p r k=a.modes.any fun m=>decide (m.use.getD r.toNat 0 > 0):=by rw [qp,Int.toNat_natCast,Ee ha]
  (repeat' ((conv=>whnf);first|with_reducible refine Idx.got ha rfl ?_|(refine gB ?_ ?_<;>intro h)|refine gV ?_))<;>try (conv=>whnf)
  rotate_left
  ·exact trivial
  have hm3:=acd ho ha
  refine ay [1,6,24,25,26,32,33] [] [] ?_
  (conv=>whnf)
  refine au.mk ((Nat)) (fun j=>(j<=a.modes.length)) (fun j=>[(34,.data (i64 j)),(5,.data (ints ((upTo k).filter (qp p r)++yO ((a.modes.take j).any fun m=>decide (m.use.getD r.toNat 0 > 0)) k)))]) lE lE (fun j=>a.modes.length - j) (0) ?_ ?_ ?_
  rotate_left
  ·(repeat' ((conv=>whnf)<;>(first|exact trivial|exact rfl|with_reducible refine And.intro ?_ ?_)))<;>((conv=>whnf)<;>(simp [yO]))
  rotate_left
  ·exact Nat.zero_le _
  rintro j hj
  by_cases hjl:j < a.modes.length
  ·obtain⟨m,hm⟩:∃m,a.modes[j]? =some m:=⟨a.modes[j]'hjl,by simp⟩
   have hml:=XK ho ha (List.mem_of_getElem? hm)
   obtain⟨n,hn⟩:∃n,m.use[ρ]? =some n:=⟨m.use[ρ]'(by omega),by simp⟩
   have e2':m.use.getD r.toNat 0=n:=by rw [e1,Int.toNat_natCast,List.getD_eq_getElem?_getD,hn];rfl
   have hat:=adU (f:=fun m:Mode=>decide (m.use.getD r.toNat 0 > 0)) hm
   simp only [e2'] at hat
   have hs1:((upTo k).filter (qp p r)++yO ((a.modes.take j).any fun m=>decide (m.use.getD r.toNat 0 > 0)) k).length < lim:=by
    rw [List.length_append]
    have:∀b,(yO b k).length<=1:=fun b=>by cases b<;>simp [yO]
    have:=this ((a.modes.take j).any fun m=>decide (m.use.getD r.toNat 0 > 0))
    unfold lim;omega
   (repeat' ((conv=>whnf);first|(with_reducible first|refine Idx.got hm rfl ?_|refine Idx.got hn e1 ?_)|refine gA ?_|(refine gB ?_ ?_<;>intro h)|refine gC (Db _ (k:Int) hs1) ?_|intro _))<;>try (conv=>whnf)
   ·refine nw (j+1) ?_ ?_
    ·(repeat' ((conv=>whnf)<;>(first|exact trivial|exact rfl|with_reducible refine And.intro ?_ ?_)))<;>((conv=>whnf)<;>((rw [hat,decide_eq_true (by assumption),Bool.or_true,adT])))
    exact (by omega:j+1<=a.modes.length)
   ·refine nw (j+1) ?_ ?_
    ·(repeat' ((conv=>whnf)<;>(first|exact trivial|exact rfl|with_reducible refine And.intro ?_ ?_)))<;>((conv=>whnf)<;>((rw [hat,decide_eq_false (by assumption),Bool.or_false])))
    exact (by omega:j+1<=a.modes.length)
   ·exfalso;omega
  ·(repeat' ((conv=>whnf);first|(exfalso;omega)|refine gA ?_|(refine gB ?_ ?_<;>intro h)))<;>try (conv=>whnf)
   refine nw (k+1) ?_ ?_
   ·(repeat' ((conv=>whnf)<;>(first|exact trivial|exact rfl|with_reducible refine And.intro ?_ ?_)))<;>((conv=>whnf)<;>((rw [Dc,hu,List.take_of_length_le (by omega)];rfl)))
   exact (by omega:k+1<=p.acts.length)
def eP (p:Proj) (r:Rul):List Int:=
 if iZ p r=true then
  if r.kind=1 then setOf [(pV p r.a).src,(pV p r.a).dst]
  else if r.kind=2 then [r.a] else if r.kind=5 then [r.b,r.c] else if r.kind=6 then aT p.acts.length else users p r.a
 else []
theorem EB (p:Proj) (r:Rul) (hp:p.fine):Con 235 [.d p.av,.d r.av] (.d (ints (eP p r))):=by
 refine con Tryz.func235 rfl rfl Tryz.call235 rfl fun hwf=>?_
 cases ho:iZ p r with
 |false=>
  (repeat' ((conv=>whnf);first|refine gA ?_|refine gC (fF p r hp) ?_|intro _))
  refine⟨?_,rfl,trivial⟩;rw [eP,if_neg (by rw [ho];exact Bool.false_ne_true)];rfl
 |true=>
  rw [eP,if_pos ho]
  cases CK ho with
  |link hk k l e1 hl=>
   have e:pV p r.a=l:=by simp [pV,e1,List.getD_eq_getElem?_getD,hl]
   (repeat' ((conv=>whnf);first|(with_reducible first|refine Br.yes (decide_eq_true (by omega)) ?_|refine Idx.got hl e1 ?_)|refine gA ?_|refine gC (fF p r hp) ?_|refine gC (tq [l.src,l.dst]) ?_|intro _))
   all_goals (refine⟨?_,rfl,trivial⟩;rw [if_pos hk,e])
  |fin hk ha=>
   (repeat' ((conv=>whnf);first|(with_reducible first|refine Br.yes (decide_eq_true (by omega)) ?_|refine Br.no (decide_eq_false (by omega)) ?_)|refine gA ?_|refine gC (fF p r hp) ?_|intro _))
   all_goals (refine⟨?_,rfl,trivial⟩;simp [hk])
  |time hk ha hb=>
   (repeat' ((conv=>whnf);first|(with_reducible first|refine Br.yes (decide_eq_true (by omega)) ?_|refine Br.no (decide_eq_false (by omega)) ?_)|refine gA ?_|refine gC (fF p r hp) ?_|refine gC (Pp p r.a hp) ?_|intro _))
   all_goals (refine⟨?_,rfl,trivial⟩;simp [hk])
  |work hk ha hb hc hlt=>
   (repeat' ((conv=>whnf);first|(with_reducible first|refine Br.yes (decide_eq_true (by omega)) ?_|refine Br.no (decide_eq_false (by omega)) ?_)|refine gA ?_|refine gC (fF p r hp) ?_|refine gC (Pp p r.a hp) ?_|intro _))
   all_goals (refine⟨?_,rfl,trivial⟩;simp [hk])
  |pair hk ha hb hc hlt=>
   (repeat' ((conv=>whnf);first|(with_reducible first|refine Br.yes (decide_eq_true (by omega)) ?_|refine Br.no (decide_eq_false (by omega)) ?_)|refine gA ?_|refine gC (fF p r hp) ?_|intro _))
   all_goals (refine⟨?_,rfl,trivial⟩;simp [hk])
  |Cz hk ha=>
   (repeat' ((conv=>whnf);first|with_reducible refine Br.no (decide_eq_false (by omega)) ?_|refine gA ?_|refine gC (fF p r hp) ?_|refine gC (yL _) ?_|intro _))
   all_goals (refine⟨?_,rfl,trivial⟩;simp [hk])
theorem EC (p:Proj) (r:Rul) (hp:p.fine):Con 208 [.d p.av,.d r.av] (.d (ints (eP p r))):=by
 refine con Tryz.func208 rfl rfl Tryz.call208 rfl fun hwf=>?_
 cases ho:iZ p r with
 |false=>
  (repeat' ((conv=>whnf);first|refine gA ?_|refine gC (kW p r hp) ?_|intro _))
  refine⟨?_,rfl,trivial⟩;rw [eP,if_neg (by rw [ho];exact Bool.false_ne_true)];rfl
 |true=>
  rw [eP,if_pos ho]
  cases CK ho with
  |link hk k l e1 hl=>
   have e:pV p r.a=l:=by simp [pV,e1,List.getD_eq_getElem?_getD,hl]
   (repeat' ((conv=>whnf);first|(with_reducible first|refine Br.yes (decide_eq_true (by omega)) ?_|refine Idx.got hl e1 ?_)|refine gA ?_|refine gC (kW p r hp) ?_|refine gC (sU [l.src,l.dst]) ?_|intro _))
   all_goals (refine⟨?_,rfl,trivial⟩;rw [if_pos hk,e])
  |fin hk ha=>
   (repeat' ((conv=>whnf);first|(with_reducible first|refine Br.yes (decide_eq_true (by omega)) ?_|refine Br.no (decide_eq_false (by omega)) ?_)|refine gA ?_|refine gC (kW p r hp) ?_|intro _))
   all_goals (refine⟨?_,rfl,trivial⟩;simp [hk])
  |time hk ha hb=>
   (repeat' ((conv=>whnf);first|with_reducible refine Br.no (decide_eq_false (by omega)) ?_|refine gA ?_|refine gC (kW p r hp) ?_|refine gC (Pq p r.a hp) ?_|intro _))
   all_goals (refine⟨?_,rfl,trivial⟩;simp [hk])
  |work hk ha hb hc hlt=>
   (repeat' ((conv=>whnf);first|with_reducible refine Br.no (decide_eq_false (by omega)) ?_|refine gA ?_|refine gC (kW p r hp) ?_|refine gC (Pq p r.a hp) ?_|intro _))
   all_goals (refine⟨?_,rfl,trivial⟩;simp [hk])
  |pair hk ha hb hc hlt=>
   (repeat' ((conv=>whnf);first|(with_reducible first|refine Br.yes (decide_eq_true (by omega)) ?_|refine Br.no (decide_eq_false (by omega)) ?_)|refine gA ?_|refine gC (kW p r hp) ?_|intro _))
   all_goals (refine⟨?_,rfl,trivial⟩;simp [hk])
  |Cz hk ha=>
   (repeat' ((conv=>whnf);first|(with_reducible first|refine Br.yes (decide_eq_true (by omega)) ?_|refine Br.no (decide_eq_false (by omega)) ?_)|refine gA ?_|refine gC (kW p r hp) ?_|refine gC (Fa _) ?_|intro _))
   all_goals (refine⟨?_,rfl,trivial⟩;simp [hk])
end Go.Proofs.YthegbfgeochckaaGreat.Abs
