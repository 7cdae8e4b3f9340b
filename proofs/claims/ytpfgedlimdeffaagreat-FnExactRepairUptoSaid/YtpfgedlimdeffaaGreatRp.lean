/- Contracts: repairs, out of what a delay does. -/
import Derived.Test.YtpfgedlimdeffaaGreatDl
import Derived.Test.YtpfgedlimdeffaaGreatImp
set_option linter.all false
set_option maxRecDepth 20000
set_option maxHeartbeats 0
namespace Go.Proofs.YtpfgedlimdeffaaGreat.Abs
open Go.Proofs Go.RowKit
theorem FZ {f:Nat→Int} {out:List Nat} {a x:Nat}:x∈oD f out a↔x∈out∨x=a:=by
 refine⟨FX,fun h=>?_⟩
 unfold oD
 have ho:=List.take_append_drop (jP f out a out.length) out
 rcases h with h|h
 ·rw [← ho] at h
  rcases List.mem_append.1 h with h|h
  ·exact List.mem_append.2 (.inl h)
  ·exact List.mem_append.2 (.inr (List.mem_cons_of_mem _ h))
 ·exact List.mem_append.2 (.inr (by rw [h];exact List.mem_cons_self ..))
theorem Ga (l:List Int):∀k,∀x,x < k→x∈dL l k
 |0,x,h=>absurd h (by omega)
 |k+1,x,h=>by
  rw [jQ,FZ]
  by_cases e:x=k
  ·exact .inr e
  ·exact .inl (Ga l k x (by omega))
theorem CZ (l:List Int):∀k,(dL l k).Nodup
 |0=>by simp [dL]
 |k+1=>by
  rw [jQ,oD]
  have h:=CZ l k
  have ha:k∉dL l k:=fun hk=>by have:=pJ l k k hk;omega
  generalize dL l k=out at h ha
  generalize jP (jc l) out k out.length=i
  rw [← List.take_append_drop i out] at h ha
  generalize out.take i=u at h ha ⊢
  generalize out.drop i=v at h ha ⊢
  rw [List.nodup_append] at h ⊢
  simp only [List.mem_append,not_or] at ha
  refine⟨h.1,List.nodup_cons.2 ⟨ha.2,h.2.1⟩,fun x hx y hy e=>?_⟩
  subst e
  rcases List.mem_cons.1 hy with rfl|hy
  ·exact ha.1 hx
  ·exact h.2.2 x hx x hy rfl
def jy (s:aA) (d:Dly) (k:Nat):Int:=if d.kind=1∧(k:Int)=d.a then max (max d.at' (s.starts.getD k 0)) d.n else max d.at' (s.starts.getD k 0)
def gU (q:Proj) (s:aA) (d:Dly) (st:List Int):List Nat→Pln→Option aA
 |[],x=>dR q x
 |a::r,x=>if st.contains (a:Int)=true then gU q s d st r x else match bA q x a (s.modes.getD a 0) (jy s d a) with|none=>none|some t=>gU q s d st r (bC x a (s.modes.getD a 0) t)
theorem xJ (q:Proj) (s:aA) (d:Dly) (st:List Int) (x:Pln):gU q s d st [] x=dR q x:=rfl
theorem qG (q:Proj) (s:aA) (d:Dly) (st:List Int) (a:Nat) (r:List Nat) (x:Pln):gU q s d st (a::r) x=if st.contains (a:Int)=true then gU q s d st r x else match bA q x a (s.modes.getD a 0) (jy s d a) with|none=>none|some t=>gU q s d st r (bC x a (s.modes.getD a 0) t):=rfl
def Al (s:aA) (d:Dly):Prop:=d.kind=1∧(bR s d.at').contains d.a=true
instance (s:aA) (d:Dly):Decidable (Al s d):=by unfold Al;exact inferInstance
def jS (p:Proj) (s:aA) (d:Dly):Option aA:=
 if (bg p d).2=true∧fA p s=true∧¬ Al s d then gU (bg p d).1 s d (bR s d.at') (dL s.starts s.starts.length) ⟨s,bR s d.at'⟩ else none
theorem vX {p:Proj} {d:Dly} (h:(bg p d).2=true):bg p d=(delayed p d,true)∧iN p d=true∧aY (delayed p d)=true:=by
 unfold bg at h ⊢
 split
 ·rename_i hh;exact⟨rfl,hh⟩
 ·rename_i hh;rw [if_neg hh] at h;cases h
theorem Am (p:Proj) (d:Dly):(delayed p d).acts.length=p.acts.length:=by
 unfold delayed
 split
 ·simp
 ·split<;>rfl
theorem Ao {p:Proj} {s:aA} (h:fA p s=true):aK p s=true∧1≤s.starts.length∧s.starts.length≤6∧s.starts.length=p.acts.length∧s.modes.length=p.acts.length:=by
 rw [fA,Bool.and_eq_true] at h
 have h1:=aJ h.1
 have h2:=jf h1.1
 exact⟨h.1,by omega,by omega,h1.2.1,h1.2.2.1⟩
theorem uT (s:aA):Con 37 [.d s.av] (.agg [.lin 3 (s.starts.map i64),.lin 3 (s.modes.map i64)]):=by
 refine con Tryz.func37 rfl rfl Tryz.call37 rfl fun hwf=>?_
 (repeat' ((conv=>whnf);first|refine gA ?_|(refine gB ?_ ?_<;>intro h)|refine gC (FH _) ?_|intro _))<;>try (conv=>whnf)
 exact fv
attribute [local irreducible] bf bA dR bC fA bg gU bR
theorem Gb (p:Proj) (s:aA) (d:Dly) (hp:p.fine) (hA:Con 33 [.d p.av,.d d.av] (qw (bg p d))):Con 10 [.d p.av,.d s.av,.d d.av] (QB (jS p s d)):=by
 refine con Tryz.func10 rfl rfl Tryz.call10 rfl fun hwf=>?_
 have hB:=yK s d.at'
 have hS:=oC p s hp
 have hH:=iZ (bR s d.at') d.a
 generalize hR:jS p s d=R
 unfold jS at hR
 cases hok:(bg p d).2 with
 |false=>
  rw [if_neg (by simp [hok])] at hR
  subst hR
  rw [qw,hok] at hA
  rw [ng]
  (repeat' ((conv=>whnf);first|refine gA ?_|(refine gB ?_ ?_<;>intro h)|(refine gI ?_;intro x hx)|(refine gJ ?_;intro j x hj hx)|refine gV ?_|refine gC (hA) ?_|refine gC (hB) ?_|intro _))<;>try (conv=>whnf)
  exact fv
 |true=>
 obtain⟨h1,h2,h3⟩:=vX hok
 rw [h1] at hA hR
 simp only [qw] at hA
 have hq:=kH (d:=d) hp
 have hqa:=Am p d
 generalize delayed p d=q at hA hR h3 hq hqa
 cases hso:fA p s with
 |false=>
  rw [if_neg (by simp [hso])] at hR
  subst hR
  rw [hso] at hS
  rw [ng]
  (repeat' ((conv=>whnf);first|refine gA ?_|(refine gB ?_ ?_<;>intro h)|(refine gI ?_;intro x hx)|(refine gJ ?_;intro j x hj hx)|refine gV ?_|refine gC (hA) ?_|refine gC (hB) ?_|refine gC (hS) ?_|intro _))<;>try (conv=>whnf)
  exact fv
 |true=>
 rw [hso] at hS
 by_cases hl:Al s d
 ·rw [if_neg (by simp [hl])] at hR
  subst hR
  obtain⟨hl1,hl2⟩:=hl
  rw [hl2] at hH
  rw [ng]
  (repeat' ((conv=>whnf);first|with_reducible refine Br.yes (decide_eq_true hl1) ?_|refine gA ?_|(refine gB ?_ ?_<;>intro h)|(refine gI ?_;intro x hx)|(refine gJ ?_;intro j x hj hx)|refine gV ?_|refine gC (hA) ?_|refine gC (hB) ?_|refine gC (hS) ?_|refine gC (hH) ?_|intro _))<;>try (conv=>whnf)
  exact fv
 rw [if_pos ⟨rfl,hso,hl⟩] at hR
 obtain⟨hf,hn1,hn6,hn,hm⟩:=Ao hso
 have hSO:=wV s ⟨hn1,by omega⟩
 rw [show eG s.starts=(dL s.starts s.starts.length).map Int.ofNat by unfold eG;rfl] at hSO
 have hol:=jR s.starts s.starts.length
 have hoi:=pJ s.starts s.starts.length
 have hls:d.kind=1→(bR s d.at').contains d.a=false:=fun hk=>by
  cases h:(bR s d.at').contains d.a with
  |false=>rfl
  |true=>exact absurd ⟨hk,h⟩ hl
 dsimp only at hR
 generalize bR s d.at'=st at hB hH hR hls
 generalize dL s.starts s.starts.length=O at hSO hol hoi hR
 rcases Decidable.em (d.kind=1) with hk1|hk1
 case' inl=>
  rw [hls hk1] at hH
  (repeat' ((conv=>whnf);first|with_reducible refine Br.yes (decide_eq_true hk1) ?_|refine gA ?_|(refine gB ?_ ?_<;>intro h)|(refine gI ?_;intro x hx)|(refine gJ ?_;intro j x hj hx)|refine gV ?_|refine gC (hA) ?_|refine gC (hB) ?_|refine gC (hS) ?_|refine gC (hH) ?_|refine gC (uT s) ?_|refine gC (hSO) ?_|intro _))<;>try (conv=>whnf)
 case' inr=>
  (repeat' ((conv=>whnf);first|with_reducible refine Br.no (decide_eq_false hk1) ?_|refine gA ?_|(refine gB ?_ ?_<;>intro h)|(refine gI ?_;intro x hx)|(refine gJ ?_;intro j x hj hx)|refine gV ?_|refine gC (hA) ?_|refine gC (hB) ?_|refine gC (hS) ?_|refine gC (uT s) ?_|refine gC (hSO) ?_|intro _))<;>try (conv=>whnf)
 all_goals
  refine aG [4,5,6,8,10,11,52,53] [4,5,6,8] [900001,900002] ?_
  (conv=>whnf)
  refine aC.go ((Nat)×(Pln)) (fun⟨m,x⟩=>(m≤O.length)∧(gU q s d st (O.drop m) x=R)) (fun⟨m,x⟩=>[(54,.data (i64 m))]) (fun⟨m,x⟩=>[(11,[.own 900001 0,.own 900002 0,.data (ints x.done)])]) (fun⟨m,x⟩=>[(900001,3,x.sched.starts.map i64,2),(900002,3,x.sched.modes.map i64,2)]) (fun⟨m,x⟩=>O.length - m) ⟨0,⟨s,st⟩⟩ ?_ ?_
  ·exact⟨Nat.zero_le _,hR⟩
  rintro⟨m,x⟩ ⟨hm',he⟩
  by_cases hlt:m < O.length
  rotate_left
  ·rw [aQ (by omega),xJ] at he
   cases hfn:dR q x with
   |none=>
    rw [hfn] at he
    subst he
    rw [ng]
    (repeat' ((conv=>whnf);first|(exfalso;omega)|refine gA ?_|(refine gB ?_ ?_<;>intro h)|(refine gI ?_;intro x hx)|(refine gJ ?_;intro j x hj hx)|refine gV ?_|refine gC (Bl q x hq hfn) ?_|intro _))<;>try (conv=>whnf)
    exact fv
   |some z=>
    rw [hfn] at he
    subst he
    obtain rfl:=FP hfn
    rw [Po]
    (repeat' ((conv=>whnf);first|(exfalso;omega)|refine gA ?_|(refine gB ?_ ?_<;>intro h)|(refine gI ?_;intro x hx)|(refine gJ ?_;intro j x hj hx)|refine gV ?_|refine gC (Ab q x _ hq hfn) ?_|intro _))<;>try (conv=>whnf)
    exact fv
  obtain⟨a,ha⟩:∃a,O[m]? =some a:=⟨O[m]'hlt,by simp⟩
  have hal:=hoi a (List.mem_of_getElem? ha)
  have ha':(O.map Int.ofNat)[m]? =some (a:Int):=by rw [List.getElem?_map,ha];rfl
  obtain⟨a0,t0,m0,q0,mo0,g0⟩:=iB hf (show a < p.acts.length by omega)
  have hHa:=iZ st a
  rw [ay ha,qG] at he
  cases hst:st.contains (a:Int) with
  |true=>
   rw [if_pos hst] at he
   rw [hst] at hHa
   (repeat' ((conv=>whnf);first|with_reducible refine Idx.got ha' rfl ?_|(exfalso;omega)|refine gA ?_|(refine gB ?_ ?_<;>intro h)|(refine gI ?_;intro x hx)|(refine gJ ?_;intro j x hj hx)|refine gV ?_|refine gC (hHa) ?_|intro _))<;>try (conv=>whnf)
   refine nx ⟨m+1,x⟩ ?_
   exact⟨by omega,he⟩
  |false=>
  rw [if_neg (by rw [hst];exact Bool.false_ne_true)] at he
  rw [hst] at hHa
  rw [show s.modes.getD a 0=m0 by rw [List.getD_eq_getElem?_getD,g0.mode];rfl] at he
  have Ug:s.starts.getD a 0=t0:=by rw [List.getD_eq_getElem?_getD,g0.start];rfl
  by_cases hk:d.kind=1∧(a:Int)=d.a
  ·rw [show jy s d a=max (max d.at' t0) d.n by unfold jy;rw [if_pos hk,Ug]] at he
   obtain⟨ka1,ka2⟩:=hk
   have hE:=ru q x a m0 (max (max d.at' t0) d.n) hq
   cases h1:bA q x a m0 (max (max d.at' t0) d.n) with
   |none=>
    rw [h1] at he
    dsimp only at he
    subst he
    rw [GL,h1] at hE
    dsimp only [Option.getD,Option.isSome] at hE
    rw [ng]
    (repeat' ((conv=>whnf);first|with_reducible refine Idx.got ha' rfl ?_|with_reducible refine Idx.got g0.start rfl ?_|with_reducible refine Idx.got g0.mode rfl ?_|(exfalso;omega)|with_reducible refine Br.yes (decide_eq_true ka1) ?_|with_reducible refine Br.yes (decide_eq_true ka2) ?_|refine gA ?_|(refine gB ?_ ?_<;>intro h)|(refine gI ?_;intro x hx)|(refine gJ ?_;intro j x hj hx)|refine gV ?_|refine gC (hHa) ?_|refine gC (hE) ?_|intro _))<;>try (conv=>whnf)
    all_goals exact fv
   |some t=>
    rw [h1] at he
    dsimp only at he
    rw [GL,h1] at hE
    dsimp only [Option.getD,Option.isSome] at hE
    have hfit:bf q x a m0 t=true:=kQ (by unfold bA at h1;exact h1)
    obtain⟨ka,y,qq,mo,e,g⟩:=zY hfit
    obtain rfl:ka=a:=by omega
    obtain⟨l1,l2,l3⟩:=zZ g
    (repeat' ((conv=>whnf);first|with_reducible refine Idx.got ha' rfl ?_|with_reducible refine Idx.got g0.start rfl ?_|with_reducible refine Idx.got g0.mode rfl ?_|(exfalso;omega)|with_reducible refine Br.yes (decide_eq_true ka1) ?_|with_reducible refine Br.yes (decide_eq_true ka2) ?_|refine gA ?_|(refine gB ?_ ?_<;>intro h)|(refine gI ?_;intro x hx)|(refine gJ ?_;intro j x hj hx)|refine gV ?_|refine gC (hHa) ?_|refine gC (hE) ?_|refine gC (Bj x ka m0 t l1 l2 l3) ?_|intro _))<;>try (conv=>whnf)
    all_goals
     refine nx ⟨m+1,bC x ka m0 t⟩ ?_
     exact⟨by omega,he⟩
  ·rw [show jy s d a=max d.at' t0 by unfold jy;rw [if_neg hk,Ug]] at he
   have hE:=ru q x a m0 (max d.at' t0) hq
   cases h1:bA q x a m0 (max d.at' t0) with
   |none=>
    rw [h1] at he
    dsimp only at he
    subst he
    rw [GL,h1] at hE
    dsimp only [Option.getD,Option.isSome] at hE
    rw [ng]
    (repeat' ((conv=>whnf);first|with_reducible refine Idx.got ha' rfl ?_|with_reducible refine Idx.got g0.start rfl ?_|with_reducible refine Idx.got g0.mode rfl ?_|(exfalso;omega)|refine gA ?_|(refine gB ?_ ?_<;>intro h)|(refine gI ?_;intro x hx)|(refine gJ ?_;intro j x hj hx)|refine gV ?_|refine gC (hHa) ?_|refine gC (hE) ?_|intro _))<;>try (conv=>whnf)
    all_goals first
     |(exfalso;exact hk ⟨by assumption,by assumption⟩)
     |exact fv
   |some t=>
    rw [h1] at he
    dsimp only at he
    rw [GL,h1] at hE
    dsimp only [Option.getD,Option.isSome] at hE
    have hfit:bf q x a m0 t=true:=kQ (by unfold bA at h1;exact h1)
    obtain⟨ka,y,qq,mo,e,g⟩:=zY hfit
    obtain rfl:ka=a:=by omega
    obtain⟨l1,l2,l3⟩:=zZ g
    (repeat' ((conv=>whnf);first|with_reducible refine Idx.got ha' rfl ?_|with_reducible refine Idx.got g0.start rfl ?_|with_reducible refine Idx.got g0.mode rfl ?_|(exfalso;omega)|refine gA ?_|(refine gB ?_ ?_<;>intro h)|(refine gI ?_;intro x hx)|(refine gJ ?_;intro j x hj hx)|refine gV ?_|refine gC (hHa) ?_|refine gC (hE) ?_|refine gC (Bj x ka m0 t l1 l2 l3) ?_|intro _))<;>try (conv=>whnf)
    all_goals first
     |(exfalso;exact hk ⟨by assumption,by assumption⟩)
     |(refine nx ⟨m+1,bC x ka m0 t⟩ ?_
       exact⟨by omega,he⟩)
end Go.Proofs.YtpfgedlimdeffaaGreat.Abs
namespace Go.Proofs.YtpfgedlimdeffaaGreat.Abs
open Go.Proofs Go.RowKit
theorem rC (x:Pln) (k:Nat) (m t:Int):(bC x k m t).done=setOf (x.done++[(k:Int)]):=rfl
theorem KM {l:List Int} {a b:Int} (h:b≠a):(setOf (l++[a])).contains b=l.contains b:=by
 rw [Bool.eq_iff_iff];simp [wO,h]
theorem Uh (n:Nat):((List.range n).map Int.ofNat).Pairwise (· < ·):=by
 rw [List.pairwise_map]
 exact List.pairwise_lt_range.imp fun h=>by show (_:Int) < _;exact Int.ofNat_lt.2 h
theorem Pz (l:List Int) (t:Int) (n:Nat):(fH l t n).Pairwise (· < ·):=by
 unfold fH
 rw [List.pairwise_map]
 exact (List.pairwise_lt_range.filter _).imp fun h=>by show (_:Int) < _;exact Int.ofNat_lt.2 h
theorem NJ {l:List Int} {t v:Int} {n:Nat} (h:v∈fH l t n):∃k:Nat,v=k∧k < n:=by
 unfold fH at h
 obtain⟨k,hk,rfl⟩:=List.mem_map.1 h
 exact⟨k,rfl,List.mem_range.1 (List.mem_filter.1 hk).1⟩
theorem Ui {l:List Int} {n:Nat} (hp:l.Pairwise (· < ·)) (hm:∀v∈l,∃k:Nat,v=k∧k < n) (ha:∀k:Nat,k < n→(k:Int)∈l):l.length=n:=by
 have:l=(List.range n).map Int.ofNat:=vU hp (Uh n) fun x=>⟨fun h=>by
  obtain⟨k,rfl,hk⟩:=hm x h
  exact List.mem_map.2 ⟨k,List.mem_range.2 hk,rfl⟩,fun h=>by
  obtain⟨k,hk,rfl⟩:=List.mem_map.1 h
  exact ha k (List.mem_range.1 hk)⟩
 rw [this];simp
structure yM (st:List Int) (O:List Nat) (n m:Nat) (x:Pln):Prop where
 same:∀(i a:Nat),m≤i→O[i]? =some a→x.done.contains (a:Int)=st.contains (a:Int)
 pw:x.done.Pairwise (· < ·)
 lt:∀v∈x.done,∃k:Nat,v=k∧k < n
 has:∀(i a:Nat),i < m→O[i]? =some a→(a:Int)∈x.done
theorem yM.skip {st:List Int} {O:List Nat} {n m:Nat} {x:Pln} (h:yM st O n m x) {a:Nat} (ha:O[m]? =some a) (hs:st.contains (a:Int)=true):yM st O n (m+1) x:=by
 refine⟨fun i b hi hb=>h.same i b (by omega) hb,h.pw,h.lt,fun i b hi hb=>?_⟩
 by_cases e:i=m
 ·subst e
  rw [ha] at hb;cases hb
  have:=h.same i a (Nat.le_refl _) ha
  rw [hs] at this
  simpa using this
 ·exact h.has i b (by omega) hb
theorem yM.put {st:List Int} {O:List Nat} {n m:Nat} {x:Pln} (h:yM st O n m x) (hO:O.Nodup) {a:Nat} (ha:O[m]? =some a) (hn:a < n) (md t:Int):yM st O n (m+1) (bC x a md t):=by
 have hne:∀(i b:Nat),m+1≤i→O[i]? =some b→b≠a:=fun i b hi hb e=>by
  subst e
  have h1:=List.getElem?_eq_some_iff.1 hb
  have h2:=List.getElem?_eq_some_iff.1 ha
  have:=List.pairwise_iff_getElem.1 hO m i h2.1 h1.1 (by omega)
  exact this (h2.2.trans h1.2.symm)
 refine⟨fun i b hi hb=>?_,?_,fun v hv=>?_,fun i b hi hb=>?_⟩
 ·rw [rC,KM (by have:=hne i b hi hb;omega)]
  exact h.same i b (by omega) hb
 ·rw [rC];exact Nt _
 ·rw [rC,wO] at hv
  rcases List.mem_append.1 hv with hv|hv
  ·exact h.lt v hv
  ·exact⟨a,List.mem_singleton.1 hv,hn⟩
 ·rw [rC,wO]
  by_cases e:i=m
  ·subst e
   rw [ha] at hb;cases hb
   simp
  ·exact List.mem_append.2 (.inl (h.has i b (by omega) hb))
theorem KN (q:Proj) (x:Pln):dR q x=if x.done.length=q.acts.length∧fA q x.sched=true then some x.sched else none:=rfl
theorem Gc {q:Proj} {x:Pln} (h:x.done.length=q.acts.length):dR q x=if fA q x.sched=true then some x.sched else none:=by
 rw [KN];simp only [h,true_and]
theorem Ap (s:aA) (t:Int):bR s t=fH s.starts t s.starts.length:=rfl
attribute [local irreducible] bf bA dR bC fA bg gU bR
theorem Gd (p:Proj) (s:aA) (d:Dly) (hp:p.fine) (hA:Con 20 [.d p.av,.d d.av] (qw (bg p d))):Con 6 [.d p.av,.d s.av,.d d.av] (QE (jS p s d)):=by
 refine con Tryz.func6 rfl rfl Tryz.call6 rfl fun hwf=>?_
 have hB:=yL s d.at'
 have hS:=uN p s hp
 have hH:=gZ (bR s d.at') d.a
 generalize hR:jS p s d=R
 unfold jS at hR
 cases hok:(bg p d).2 with
 |false=>
  rw [if_neg (by simp [hok])] at hR
  subst hR
  rw [qw,hok] at hA
  rw [ni]
  (repeat' ((conv=>whnf);first|refine gA ?_|(refine gB ?_ ?_<;>intro h)|(refine gI ?_;intro x hx)|(refine gJ ?_;intro j x hj hx)|refine gV ?_|refine gC (hA) ?_|intro _))<;>try (conv=>whnf)
  exact fv
 |true=>
 obtain⟨h1,h2,h3⟩:=vX hok
 rw [h1] at hA hR
 simp only [qw] at hA
 have hq:=kH (d:=d) hp
 have hqa:=Am p d
 generalize delayed p d=q at hA hR h3 hq hqa
 cases hso:fA p s with
 |false=>
  rw [if_neg (by simp [hso])] at hR
  subst hR
  rw [hso] at hS
  rw [ni]
  (repeat' ((conv=>whnf);first|refine gA ?_|(refine gB ?_ ?_<;>intro h)|(refine gI ?_;intro x hx)|(refine gJ ?_;intro j x hj hx)|refine gV ?_|refine gC (hA) ?_|refine gC (hS) ?_|intro _))<;>try (conv=>whnf)
  exact fv
 |true=>
 rw [hso] at hS
 by_cases hl:Al s d
 ·rw [if_neg (by simp [hl])] at hR
  subst hR
  obtain⟨hl1,hl2⟩:=hl
  rw [hl2] at hH
  rw [ni]
  (repeat' ((conv=>whnf);first|with_reducible refine Br.yes (decide_eq_true hl1) ?_|refine gA ?_|(refine gB ?_ ?_<;>intro h)|(refine gI ?_;intro x hx)|(refine gJ ?_;intro j x hj hx)|refine gV ?_|refine gC (hA) ?_|refine gC (hB) ?_|refine gC (hS) ?_|refine gC (hH) ?_|refine gC (pz s) ?_|intro _))<;>try (conv=>whnf)
  exact fv
 rw [if_pos ⟨rfl,hso,hl⟩] at hR
 obtain⟨hf,hn1,hn6,hn,hm⟩:=Ao hso
 have hSO:=Du s (by omega)
 rw [show eG s.starts=(dL s.starts s.starts.length).map Int.ofNat by unfold eG;rfl] at hSO
 have hol:=jR s.starts s.starts.length
 have hoi:=pJ s.starts s.starts.length
 have hoa:=Ga s.starts s.starts.length
 have hon:=CZ s.starts s.starts.length
 have hls:d.kind=1→(bR s d.at').contains d.a=false:=fun hk=>by
  cases h:(bR s d.at').contains d.a with
  |false=>rfl
  |true=>exact absurd ⟨hk,h⟩ hl
 have hsp:(bR s d.at').Pairwise (· < ·):=by rw [Ap];exact Pz _ _ _
 have hsm:∀v∈bR s d.at',∃k:Nat,v=k∧k < s.starts.length:=fun v hv=>by rw [Ap] at hv;exact NJ hv
 dsimp only at hR
 generalize bR s d.at'=st at hB hH hR hls hsp hsm
 generalize dL s.starts s.starts.length=O at hSO hol hoi hR hoa hon
 rcases Decidable.em (d.kind=1) with hk1|hk1
 case' inl=>
  rw [hls hk1] at hH
  (repeat' ((conv=>whnf);first|with_reducible refine Br.yes (decide_eq_true hk1) ?_|refine gA ?_|(refine gB ?_ ?_<;>intro h)|(refine gI ?_;intro x hx)|(refine gJ ?_;intro j x hj hx)|refine gV ?_|refine gC (hA) ?_|refine gC (hB) ?_|refine gC (hS) ?_|refine gC (hH) ?_|refine gC (pz s) ?_|refine gC (hSO) ?_|intro _))<;>try (conv=>whnf)
 case' inr=>
  (repeat' ((conv=>whnf);first|with_reducible refine Br.no (decide_eq_false hk1) ?_|refine gA ?_|(refine gB ?_ ?_<;>intro h)|(refine gI ?_;intro x hx)|(refine gJ ?_;intro j x hj hx)|refine gV ?_|refine gC (hA) ?_|refine gC (hB) ?_|refine gC (hS) ?_|refine gC (pz s) ?_|refine gC (hSO) ?_|intro _))<;>try (conv=>whnf)
 all_goals
  refine aG [4,5,6,8,10,50,51] [4,5,6,8] [] ?_
  (conv=>whnf)
  refine aC.go ((Nat)×(Pln)) (fun⟨m,x⟩=>(m≤O.length)∧(yM st O s.starts.length m x)∧(gU q s d st (O.drop m) x=R)) (fun⟨m,x⟩=>[(52,.data (i64 m))]) (fun⟨m,x⟩=>[(10,(AV.cells x.av).map SV.data)]) (fun _=>[]) (fun⟨m,x⟩=>O.length - m) ⟨0,⟨s,st⟩⟩ ?_ ?_
  ·exact⟨Nat.zero_le _,⟨fun _ _ _ _=>rfl,hsp,hsm,fun i _ hi=>absurd hi (by omega)⟩,hR⟩
  rintro⟨m,x⟩ ⟨hm',hd,he⟩
  by_cases hlt:m < O.length
  rotate_left
  ·rw [aQ (by omega),xJ] at he
   obtain rfl:m=O.length:=by omega
   have hdl:x.done.length=q.acts.length:=by
    rw [hqa, ← hn]
    exact Ui hd.pw hd.lt fun k hk=>by
     obtain⟨i,hi⟩:=List.mem_iff_getElem?.1 (hoa k hk)
     exact hd.has i k (List.getElem?_eq_some_iff.1 hi).1 hi
   have hF:=uN q x.sched hq
   rw [Gc hdl] at he
   cases hfn:fA q x.sched with
   |false=>
    rw [if_neg (by simp [hfn])] at he
    rw [hfn] at hF
    subst he
    rw [ni]
    (repeat' ((conv=>whnf);first|(exfalso;omega)|refine gA ?_|(refine gB ?_ ?_<;>intro h)|(refine gI ?_;intro x hx)|(refine gJ ?_;intro j x hj hx)|refine gV ?_|refine gC (hF) ?_|intro _))<;>try (conv=>whnf)
    exact fv
   |true=>
    rw [if_pos hfn] at he
    rw [hfn] at hF
    subst he
    rw [Pq]
    (repeat' ((conv=>whnf);first|(exfalso;omega)|refine gA ?_|(refine gB ?_ ?_<;>intro h)|(refine gI ?_;intro x hx)|(refine gJ ?_;intro j x hj hx)|refine gV ?_|refine gC (hF) ?_|intro _))<;>try (conv=>whnf)
    exact fv
  obtain⟨a,ha⟩:∃a,O[m]? =some a:=⟨O[m]'hlt,by simp⟩
  have hal:=hoi a (List.mem_of_getElem? ha)
  have ha':(O.map Int.ofNat)[m]? =some (a:Int):=by rw [List.getElem?_map,ha];rfl
  obtain⟨a0,t0,m0,q0,mo0,g0⟩:=iB hf (show a < p.acts.length by omega)
  have htb:=g0.tb
  have hHa:=gZ x.done a
  rw [hd.same m a (Nat.le_refl _) ha] at hHa
  rw [ay ha,qG] at he
  cases hst:st.contains (a:Int) with
  |true=>
   rw [if_pos hst] at he
   rw [hst] at hHa
   (repeat' ((conv=>whnf);first|with_reducible refine Idx.got ha' rfl ?_|(exfalso;omega)|refine gA ?_|(refine gB ?_ ?_<;>intro h)|(refine gI ?_;intro x hx)|(refine gJ ?_;intro j x hj hx)|refine gV ?_|refine gC (hHa) ?_|intro _))<;>try (conv=>whnf)
   refine nx ⟨m+1,x⟩ ?_
   exact⟨by omega,hd.skip ha hst,he⟩
  |false=>
  rw [if_neg (by rw [hst];exact Bool.false_ne_true)] at he
  rw [hst] at hHa
  rw [show s.modes.getD a 0=m0 by rw [List.getD_eq_getElem?_getD,g0.mode];rfl] at he
  have Ug:s.starts.getD a 0=t0:=by rw [List.getD_eq_getElem?_getD,g0.start];rfl
  have hM1:=nU d.at' t0
  have hM2:=nU (max d.at' t0) d.n
  by_cases hk:d.kind=1∧(a:Int)=d.a
  ·rw [show jy s d a=max (max d.at' t0) d.n by unfold jy;rw [if_pos hk,Ug]] at he
   obtain⟨ka1,ka2⟩:=hk
   have hE:=rA q x a m0 (max (max d.at' t0) d.n) hq
   cases h1:bA q x a m0 (max (max d.at' t0) d.n) with
   |none=>
    rw [h1] at he
    dsimp only at he
    subst he
    rw [GL,h1] at hE
    dsimp only [Option.getD,Option.isSome] at hE
    rw [ni]
    (repeat' ((conv=>whnf);first|with_reducible refine Idx.got ha' rfl ?_|with_reducible refine Idx.got g0.start rfl ?_|with_reducible refine Idx.got g0.mode rfl ?_|(exfalso;omega)|with_reducible refine Br.yes (decide_eq_true ka1) ?_|with_reducible refine Br.yes (decide_eq_true ka2) ?_|refine gA ?_|(refine gB ?_ ?_<;>intro h)|(refine gI ?_;intro x hx)|(refine gJ ?_;intro j x hj hx)|refine gV ?_|refine gC (hHa) ?_|refine gC (hM1) ?_|refine gC (hM2) ?_|refine gC (hE) ?_|intro _))<;>try (conv=>whnf)
    all_goals first
     |(exfalso;exact hk1 ka1)
     |exact fv
   |some t=>
    rw [h1] at he
    dsimp only at he
    rw [GL,h1] at hE
    dsimp only [Option.getD,Option.isSome] at hE
    have hfit:bf q x a m0 t=true:=kQ (by unfold bA at h1;exact h1)
    have hD:=Ae q x a m0 t hq
    rw [Uc,FU hfit] at hD
    dsimp only [Option.getD,Option.isSome] at hD
    (repeat' ((conv=>whnf);first|with_reducible refine Idx.got ha' rfl ?_|with_reducible refine Idx.got g0.start rfl ?_|with_reducible refine Idx.got g0.mode rfl ?_|(exfalso;omega)|with_reducible refine Br.yes (decide_eq_true ka1) ?_|with_reducible refine Br.yes (decide_eq_true ka2) ?_|refine gA ?_|(refine gB ?_ ?_<;>intro h)|(refine gI ?_;intro x hx)|(refine gJ ?_;intro j x hj hx)|refine gV ?_|refine gC (hHa) ?_|refine gC (hM1) ?_|refine gC (hM2) ?_|refine gC (hE) ?_|refine gC (hD) ?_|intro _))<;>try (conv=>whnf)
    all_goals first
     |(exfalso;exact hk1 ka1)
     |(refine nx ⟨m+1,bC x a m0 t⟩ ?_
       exact⟨by omega,hd.put hon ha hal m0 t,he⟩)
  ·rw [show jy s d a=max d.at' t0 by unfold jy;rw [if_neg hk,Ug]] at he
   have hE:=rA q x a m0 (max d.at' t0) hq
   cases h1:bA q x a m0 (max d.at' t0) with
   |none=>
    rw [h1] at he
    dsimp only at he
    subst he
    rw [GL,h1] at hE
    dsimp only [Option.getD,Option.isSome] at hE
    rw [ni]
    (repeat' ((conv=>whnf);first|with_reducible refine Idx.got ha' rfl ?_|with_reducible refine Idx.got g0.start rfl ?_|with_reducible refine Idx.got g0.mode rfl ?_|(exfalso;omega)|refine gA ?_|(refine gB ?_ ?_<;>intro h)|(refine gI ?_;intro x hx)|(refine gJ ?_;intro j x hj hx)|refine gV ?_|refine gC (hHa) ?_|refine gC (hM1) ?_|refine gC (hM2) ?_|refine gC (hE) ?_|intro _))<;>try (conv=>whnf)
    all_goals first
     |(exfalso;exact hk ⟨by assumption,by assumption⟩)
     |exact fv
   |some t=>
    rw [h1] at he
    dsimp only at he
    rw [GL,h1] at hE
    dsimp only [Option.getD,Option.isSome] at hE
    have hfit:bf q x a m0 t=true:=kQ (by unfold bA at h1;exact h1)
    have hD:=Ae q x a m0 t hq
    rw [Uc,FU hfit] at hD
    dsimp only [Option.getD,Option.isSome] at hD
    (repeat' ((conv=>whnf);first|with_reducible refine Idx.got ha' rfl ?_|with_reducible refine Idx.got g0.start rfl ?_|with_reducible refine Idx.got g0.mode rfl ?_|(exfalso;omega)|refine gA ?_|(refine gB ?_ ?_<;>intro h)|(refine gI ?_;intro x hx)|(refine gJ ?_;intro j x hj hx)|refine gV ?_|refine gC (hHa) ?_|refine gC (hM1) ?_|refine gC (hM2) ?_|refine gC (hE) ?_|refine gC (hD) ?_|intro _))<;>try (conv=>whnf)
    all_goals first
     |(exfalso;exact hk ⟨by assumption,by assumption⟩)
     |(refine nx ⟨m+1,bC x a m0 t⟩ ?_
       exact⟨by omega,hd.put hon ha hal m0 t,he⟩)
end Go.Proofs.YtpfgedlimdeffaaGreat.Abs
