/- Capacities that are reduced from a time on: two ways give the same steps. -/
import Derived.Test.YtpfgedlimdeffaaGreatC1
import Derived.Test.YtpfgedlimdeffaaGreatC35
import Derived.Test.YtpfgedlimdeffaaGreatC44
set_option linter.all false
set_option maxRecDepth 20000
set_option maxHeartbeats 0
namespace Go.Proofs.YtpfgedlimdeffaaGreat.Abs
open Go.Proofs
def kG (o:List Step):Int:=(o.getLast?.getD ⟨0,0⟩).cap
theorem uy (o:List Step) (s:Step):kG (o++[s])=s.cap:=by unfold kG;simp
def changes (f:Int→Int):Nat→List Step
 |0=>[]
 |t+1=>if t=0∨f t≠kG (changes f t) then changes f t++[⟨t,f t⟩] else changes f t
theorem Af (f:Int→Int):changes f 0= []:=rfl
theorem iF (f:Int→Int) (t:Nat):changes f (t+1)=if t=0∨f t≠kG (changes f t) then changes f t++[⟨t,f t⟩] else changes f t:=rfl
theorem rP {f g:Int→Int}:∀{n:Nat},(∀t:Nat,t < n→f t=g t)→changes f n=changes g n
 |0,_=>rfl
 |n+1,h=>by rw [iF,iF,rP (n:=n) fun t ht=>h t (by omega),h n (by omega)]
theorem yG (f:Int→Int):∀n:Nat,0 < n→changes f n≠[]
 |0,h=>by omega
 |n+1,_=>by
  rw [iF]
  split
  ·simp
  ·rename_i hc
   exact yG f n (by omega)
theorem uz {f:Int→Int} {c:Int} {T:Nat} (hT:0 < T) (hl:kG (changes f T)=c):∀n:Nat,(∀t:Nat,T≤t→t < T+n→f t=c)→changes f (T+n)=changes f T
 |0,_=>rfl
 |n+1,h=>by
  have ih:=uz hT hl n fun t h1 h2=>h t h1 (by omega)
  rw [← Nat.add_assoc,iF,ih,if_neg (by rw [hl,h (T+n) (by omega) (by omega)];omega)]
def cB:List Step→List Step→List Step
 |o,[]=>o
 |o,s::r=>if o= []∨kG o≠s.cap then cB (o++[s]) r else cB o r
theorem uD:∀(r o:List Step) (s:Step),cB o (r++[s])=if cB o r= []∨kG (cB o r)≠s.cap then cB o r++[s] else cB o r
 |[],o,s=>rfl
 |x::r,o,s=>by
  rw [List.cons_append,cB,cB]
  split
  ·exact uD r _ s
  ·exact uD r _ s
theorem pF (t:Int):∀(a b:List Step) (n:Int),aT t (a++b) n=aT t b (aT t a n)
 |[],b,n=>rfl
 |s::a,b,n=>by rw [List.cons_append,aT,aT,pF t a b]
theorem yH {t:Int}:∀{l:List Step} {n:Int},(∀s∈l,t < s.at')→aT t l n=n
 |[],n,_=>rfl
 |s::l,n,h=>by
  have:=h s (List.mem_cons_self ..)
  rw [aT,if_neg (by omega),yH fun x hx=>h x (List.mem_cons_of_mem _ hx)]
theorem yI (m:List Step):m= []∨∃r s,m=r++[s]:=by
 by_cases h:m= []
 ·exact .inl h
 ·exact .inr ⟨m.dropLast,m.getLast h,(List.dropLast_concat_getLast h).symm⟩
structure Steps (m:List Step):Prop where
 pw:m.Pairwise fun a b=>a.at' < b.at'
 zero:∃s,m.head? =some s∧s.at'=0
 nn:∀s∈m,0≤s.at'
theorem CU:∀(k:Nat) (m:List Step),m.length=k→Steps m→∀N:Nat,(∀s∈m,s.at' < N)→cB [] m=changes (fun t=>aT t m 0) N
 |0,m,hk,hs,_,_=>by
  obtain⟨s,h,_⟩:=hs.zero
  rw [List.eq_nil_of_length_eq_zero hk] at h;cases h
 |k+1,m,hk,hs,N,hN=>by
  rcases yI m with rfl|⟨r,s,rfl⟩
  ·cases hk
  have hpw:=List.pairwise_append.1 hs.pw
  have hrs:∀x∈r,x.at' < s.at':=fun x hx=>hpw.2.2 x hx s (by simp)
  have hs0:=hs.nn s (by simp)
  have hsN:=hN s (by simp)
  have hf:∀t:Int,aT t (r++[s]) 0=if s.at'≤t then s.cap else aT t r 0:=fun t=>by rw [pF];rfl
  rw [uD]
  obtain⟨T,hT⟩:∃T:Nat,s.at'=T:=⟨s.at'.toNat,by omega⟩
  by_cases hr:r= []
  ·subst hr
   obtain⟨s',h1,h2⟩:=hs.zero
   simp only [List.nil_append,List.head?_cons,Option.some.injEq] at h1
   subst h1
   rw [show cB [] []= [] from rfl,if_pos (.inl rfl)]
   have hc1:changes (fun t=>aT t ([]++[s]) 0) 1= [s]:=by
    rw [iF,if_pos (.inl rfl),Af,List.nil_append]
    (try dsimp only)
    rw [hf,if_pos (by omega)]
    obtain⟨a,c⟩:=s
    (try dsimp only at h2 ⊢)
    rw [h2];rfl
   have:=uz (f:=fun t=>aT t ([]++[s]) 0) (c:=s.cap) (T:=1) (by omega) (by rw [hc1];rfl) (N - 1) fun t _ _=>by
    (try dsimp only);rw [hf,if_pos (by omega)]
   rw [show 1+(N - 1)=N by omega,hc1] at this
   rw [this];rfl
  ·have hSr:Steps r:=⟨hpw.1,by
    obtain⟨s',h1,h2⟩:=hs.zero
    cases r with
    |nil=>exact absurd rfl hr
    |cons x y=>exact⟨x,rfl,by simp only [List.cons_append,List.head?_cons,Option.some.injEq] at h1;rw [h1];exact h2⟩,fun x hx=>hs.nn x (by simp [hx])⟩
   have ih:=CU k r (by simpa using hk) hSr T fun x hx=>by have:=hrs x hx;omega
   have hTp:0 < T:=by
    obtain⟨s',h1,h2⟩:=hSr.zero
    have:=hrs s' (List.mem_of_mem_head? h1)
    omega
   have e1:changes (fun t=>aT t (r++[s]) 0) T=changes (fun t=>aT t r 0) T:=rP fun t ht=>by
    (try dsimp only);rw [hf,if_neg (by omega)]
   rw [← ih] at e1
   have hne:cB [] r≠[]:=by rw [ih];exact yG _ T hTp
   have e2:changes (fun t=>aT t (r++[s]) 0) (T+1)=if cB [] r= []∨kG (cB [] r)≠s.cap then cB [] r++[s] else cB [] r:=by
    have hfT:=hf (T:Int)
    rw [if_pos (by omega)] at hfT
    rw [iF,e1]
    (try dsimp only)
    rw [hfT]
    by_cases hc:kG (cB [] r)=s.cap
    ·rw [if_neg (by rw [hc];omega),if_neg (by rw [hc];simp [hne])]
    ·rw [if_pos (.inr fun h=>hc h.symm),if_pos (.inr hc)]
     obtain⟨a,c⟩:=s
     (try dsimp only at hT ⊢)
     rw [hT]
   have hlc:kG (changes (fun t=>aT t (r++[s]) 0) (T+1))=s.cap:=by
    rw [e2]
    split
    ·exact uy _ _
    ·rename_i hc
     by_cases h:kG (cB [] r)=s.cap
     ·exact h
     ·exact absurd (.inr h) hc
   have:=uz (f:=fun t=>aT t (r++[s]) 0) (T:=T+1) (by omega) hlc (N - (T+1)) fun t h1 _=>by
    (try dsimp only);rw [hf,if_pos (by omega)]
   rw [show T+1+(N - (T+1))=N by omega,e2] at this
   exact this.symm
def Ag (l:List Step) (a n t:Int):Int:=if t≥a then max (aT t l 0 - n) 0 else aT t l 0
def pG (l:List Step) (a n:Int):List Step:=l.filter (fun s=>decide (s.at' < a))++[⟨a,max 0 (aT a l 0 - n)⟩]++(l.filter fun s=>decide (s.at' > a)).map fun s=>⟨s.at',max 0 (s.cap - n)⟩
theorem vV {a t:Int} (h:t < a):∀(l:List Step) (x:Int),aT t (l.filter fun s=>decide (s.at' < a)) x=aT t l x
 |[],x=>rfl
 |s::l,x=>by
  rw [List.filter_cons]
  by_cases hs:s.at' < a
  ·rw [if_pos (decide_eq_true hs),aT,aT,vV h l]
  ·rw [if_neg (by simp;omega),aT,if_neg (by omega),vV h l]
theorem yJ {t n:Int}:∀(l:List Step) (x:Int),aT t (l.map fun s=>(⟨s.at',max 0 (s.cap - n)⟩:Step)) (max 0 (x - n))=max 0 (aT t l x - n)
 |[],x=>rfl
 |s::l,x=>by
  rw [List.map_cons,aT,aT]
  (try dsimp only)
  by_cases hs:s.at'≤t
  ·rw [if_pos hs,if_pos hs];exact yJ l s.cap
  ·rw [if_neg hs,if_neg hs];exact yJ l x
theorem Ah {a t:Int} (h:a≤t):∀(l:List Step),l.Pairwise (fun p q=>p.at' < q.at')→∀x:Int,aT t (l.filter fun s=>decide (s.at' > a)) (aT a l x)=aT t l x
 |[],_,x=>rfl
 |s::l,hp,x=>by
  rw [List.pairwise_cons] at hp
  by_cases hs:s.at'≤a
  ·rw [List.filter_cons,if_neg (by simp;omega),aT,if_pos hs,Ah h l hp.2,aT,if_pos (by omega)]
  ·have hall:∀y∈s::l,a < y.at':=fun y hy=>by
    rcases List.mem_cons.1 hy with rfl|hy
    ·omega
    ·have:=hp.1 y hy;omega
   rw [yH hall,List.filter_eq_self.2 fun y hy=>decide_eq_true (hall y hy)]
theorem Ud {l:List Step} (hp:l.Pairwise fun p q=>p.at' < q.at') (a n t:Int):aT t (pG l a n) 0=Ag l a n t:=by
 unfold pG Ag
 rw [pF,pF]
 by_cases h:t≥a
 ·rw [if_pos h,aT,if_pos (by (try dsimp only);omega)]
  dsimp only [aT]
  rw [yJ,Ah h l hp]
  omega
 ·rw [if_neg h,aT,if_neg (by (try dsimp only);omega)]
  dsimp only [aT]
  rw [yH fun s hs=>?_,vV (by omega)]
  obtain⟨q,hq,rfl⟩:=List.mem_map.1 hs
  have:=of_decide_eq_true (List.mem_filter.1 hq).2
  (try dsimp only);omega
theorem rQ {l:List Step} (h:je l=true):Steps l∧(∀s∈l,s.at'≤60)∧l.length≤8:=by
 rw [Fb] at h
 simp only [Bool.and_eq_true,eY,within_iff] at h
 obtain⟨h1,h2,h3⟩:=h
 have hat:∀i (hi:i < l.length),(0≤l[i].at'∧l[i].at'≤60)∧(∀hj:0 < i,(l[i - 1]'(by omega)).at' < l[i].at'):=fun i hi=>by
  have:=h1 i hi
  unfold tT at this
  rw [List.getElem?_eq_getElem hi] at this
  simp only [Bool.and_eq_true,bM,within_iff,Bool.or_eq_true,Bool.not_eq_true',decide_eq_false_iff_not] at this
  refine⟨this.1.1,fun hj=>?_⟩
  rcases this.2 with hh|hh
  ·omega
  ·rw [List.getElem?_eq_getElem (by omega:i - 1 < l.length)] at hh
   simp at hh;omega
 refine⟨⟨?_,?_,?_⟩,?_,by omega⟩
 ·rw [List.pairwise_iff_getElem]
  intro i j hi hj hij
  induction j with
  |zero=>omega
  |succ j ih=>
   have h4:=(hat (j+1) hj).2 (by omega)
   simp only [Nat.add_sub_cancel] at h4
   by_cases e:i=j
   ·subst e;exact h4
   ·have:=ih (by omega) (by omega);omega
 ·cases l with
  |nil=>cases h3
  |cons s r=>exact⟨s,rfl,by simpa using h3⟩
 ·intro s hs
  obtain⟨i,hi,rfl⟩:=List.getElem_of_mem hs
  exact (hat i hi).1.1
 ·intro s hs
  obtain⟨i,hi,rfl⟩:=List.getElem_of_mem hs
  exact (hat i hi).1.2
theorem Pt {l:List Step} (hs:Steps l) {a:Int} (ha:0≤a) (n:Int):Steps (pG l a n):=by
 refine⟨?_,?_,?_⟩
 ·unfold pG
  rw [List.append_assoc,List.pairwise_append]
  refine⟨hs.pw.filter _,?_,fun x hx y hy=>?_⟩
  ·rw [List.singleton_append,List.pairwise_cons]
   refine⟨fun y hy=>?_,?_⟩
   ·obtain⟨q,hq,rfl⟩:=List.mem_map.1 hy
    have:=of_decide_eq_true (List.mem_filter.1 hq).2
    (try dsimp only);omega
   ·rw [List.pairwise_map]
    exact (hs.pw.filter _).imp fun h=>h
  ·have hx:=of_decide_eq_true (List.mem_filter.1 hx).2
   rcases List.mem_append.1 hy with hy|hy
   ·rw [List.mem_singleton.1 hy];exact hx
   ·obtain⟨q,hq,rfl⟩:=List.mem_map.1 hy
    have:=of_decide_eq_true (List.mem_filter.1 hq).2
    (try dsimp only);omega
 ·obtain⟨s,h1,h2⟩:=hs.zero
  unfold pG
  cases l with
  |nil=>cases h1
  |cons x r=>
   simp only [List.head?_cons,Option.some.injEq] at h1
   subst h1
   by_cases h:0 < a
   ·rw [List.filter_cons,if_pos (decide_eq_true (by omega))]
    exact⟨x,by simp,h2⟩
   ·have e:a=0:=by omega
    subst e
    have:(x::r).filter (fun s=>decide (s.at' < 0))= []:=List.filter_eq_nil_iff.2 fun y hy=>by have:=hs.nn y hy;simp;omega
    rw [this]
    exact⟨_,rfl,rfl⟩
 ·intro s h
  unfold pG at h
  rcases List.mem_append.1 h with h|h
  ·rcases List.mem_append.1 h with h|h
   ·exact hs.nn s (List.mem_filter.1 h).1
   ·rw [List.mem_singleton.1 h];exact ha
  ·obtain⟨q,hq,rfl⟩:=List.mem_map.1 h
   exact hs.nn q (List.mem_filter.1 hq).1
def jw (l:List Step) (a n:Int):List Step:=changes (Ag l a n) 61
def Bp (l:List Step) (a n:Int):List Step:=cB [] (pG l a n)
theorem KF {l:List Step} (h:je l=true) {a:Int} (ha:0≤a∧a≤60) (n:Int):Bp l a n=jw l a n:=by
 obtain⟨hs,h60,_⟩:=rQ h
 unfold Bp jw
 rw [CU _ _ rfl (Pt hs ha.1 n) 61 fun s hs'=>?_]
 ·exact rP fun t _=>Ud hs.pw a n t
 ·unfold pG at hs'
  rcases List.mem_append.1 hs' with h|h
  ·rcases List.mem_append.1 h with h|h
   ·have:=h60 s (List.mem_filter.1 h).1;omega
   ·rw [List.mem_singleton.1 h];(try dsimp only);omega
  ·obtain⟨q,hq,rfl⟩:=List.mem_map.1 h
   have:=h60 q (List.mem_filter.1 hq).1;(try dsimp only);omega
open Go.Proofs Go.RowKit
structure Dly where
 kind:Int
 a:Int
 n:Int
 at':Int
abbrev Dly.av (d:Dly):AV:=.agg [i64 d.kind,i64 d.a,i64 d.n,i64 d.at']
def iN (p:Proj) (d:Dly):Bool:=aY p&&(bM d.at'&&(if d.kind=1 then bH p d.a&&bM d.n else if d.kind=2 then bH p d.a&&within d.n 1 12 else if d.kind=3 then gD p d.a&&within d.n 1 20 else false))
theorem Ai (p:Proj) (d:Dly) (hp:p.fine):Con 68 [.d p.av,.d d.av] (.d (.bool (iN p d))):=by
 refine con Tryz.func68 rfl rfl Tryz.call68 rfl fun hwf=>?_
 have B0:=jJ p hp
 have B1:=kZ d.at'
 have B2:=kg p d.a
 have B3:=kZ d.n
 have B4:=bq d.n 1 12
 have B5:=mU p d.a
 have B6:=bq d.n 1 20
 unfold iN
 generalize aY p=b0 at B0 ⊢
 generalize bM d.at'=b1 at B1 ⊢
 generalize bH p d.a=b2 at B2 ⊢
 generalize bM d.n=b3 at B3 ⊢
 generalize within d.n 1 12=b4 at B4 ⊢
 generalize gD p d.a=b5 at B5 ⊢
 generalize within d.n 1 20=b6 at B6 ⊢
 cases b0 with
 |false=>
  (repeat' ((conv=>whnf);first|refine gA ?_|(refine gN ?_ ?_<;>intro h hw)|(refine gB ?_ ?_<;>intro h)|refine gC (B0) ?_|intro _))<;>try (conv=>whnf)
  exact fv
 |true=>
 cases b1 with
 |false=>
  (repeat' ((conv=>whnf);first|refine gA ?_|(refine gN ?_ ?_<;>intro h hw)|(refine gB ?_ ?_<;>intro h)|refine gC (B0) ?_|refine gC (B1) ?_|intro _))<;>try (conv=>whnf)
  exact fv
 |true=>
 by_cases h1:d.kind=1
 ·rw [if_pos h1]
  cases b2
  all_goals
   (repeat' ((conv=>whnf);first|with_reducible refine Br.yes (decide_eq_true h1) ?_|refine gA ?_|(refine gN ?_ ?_<;>intro h hw)|(refine gB ?_ ?_<;>intro h)|refine gC (B0) ?_|refine gC (B1) ?_|refine gC (B2) ?_|refine gC (B3) ?_|intro _))<;>try (conv=>whnf)
   exact fv
 rw [if_neg h1]
 by_cases h2:d.kind=2
 ·rw [if_pos h2]
  cases b2
  all_goals
   (repeat' ((conv=>whnf);first|with_reducible refine Br.no (decide_eq_false h1) ?_|with_reducible refine Br.yes (decide_eq_true h2) ?_|refine gA ?_|(refine gN ?_ ?_<;>intro h hw)|(refine gB ?_ ?_<;>intro h)|refine gC (B0) ?_|refine gC (B1) ?_|refine gC (B2) ?_|refine gC (B4) ?_|intro _))<;>try (conv=>whnf)
   exact fv
 rw [if_neg h2]
 by_cases h3:d.kind=3
 ·rw [if_pos h3]
  cases b5
  all_goals
   (repeat' ((conv=>whnf);first|with_reducible refine Br.no (decide_eq_false h1) ?_|with_reducible refine Br.no (decide_eq_false h2) ?_|with_reducible refine Br.yes (decide_eq_true h3) ?_|refine gA ?_|(refine gN ?_ ?_<;>intro h hw)|(refine gB ?_ ?_<;>intro h)|refine gC (B0) ?_|refine gC (B1) ?_|refine gC (B5) ?_|refine gC (B6) ?_|intro _))<;>try (conv=>whnf)
   exact fv
 rw [if_neg h3]
 (repeat' ((conv=>whnf);first|with_reducible refine Br.no (decide_eq_false h1) ?_|with_reducible refine Br.no (decide_eq_false h2) ?_|with_reducible refine Br.no (decide_eq_false h3) ?_|refine gA ?_|(refine gN ?_ ?_<;>intro h hw)|(refine gB ?_ ?_<;>intro h)|refine gC (B0) ?_|refine gC (B1) ?_|intro _))<;>try (conv=>whnf)
 exact fv
theorem Aj (p:Proj) (d:Dly) (hp:p.fine):Con 53 [.d p.av,.d d.av] (.d (.bool (iN p d))):=by
 refine con Tryz.func53 rfl rfl Tryz.call53 rfl fun hwf=>?_
 have B0:=mg p hp
 have B1:=dI d.at' 0 60
 have B2:=dI d.a 0 (((p.acts.map au.av).length:Int) - 1)
 rw [show within d.a 0 (((p.acts.map au.av).length:Int) - 1)=bH p d.a by rw [List.length_map];rfl] at B2
 have B3:=dI d.n 0 60
 have B4:=dI d.n 1 12
 have B5:=dI d.a 0 (((p.aU.map aP.av).length:Int) - 1)
 rw [show within d.a 0 (((p.aU.map aP.av).length:Int) - 1)=gD p d.a by rw [List.length_map];rfl] at B5
 have B6:=dI d.n 1 20
 rw [show within d.at' 0 60=bM d.at' from rfl] at B1
 rw [show within d.n 0 60=bM d.n from rfl] at B3
 simp only [ARs.wf,AR.wf,AV.wf,AV.wfs,lm,lim] at hwf
 unfold iN
 generalize aY p=b0 at B0 ⊢
 generalize bM d.at'=b1 at B1 ⊢
 generalize bH p d.a=b2 at B2 ⊢
 generalize bM d.n=b3 at B3 ⊢
 generalize within d.n 1 12=b4 at B4 ⊢
 generalize gD p d.a=b5 at B5 ⊢
 generalize within d.n 1 20=b6 at B6 ⊢
 cases b0 with
 |false=>
  (repeat' ((conv=>whnf);first|refine gA ?_|(refine gN ?_ ?_<;>intro h hw)|(refine gB ?_ ?_<;>intro h)|refine gV ?_|refine gC (B0) ?_|intro _))<;>try (conv=>whnf)
  exact fv
 |true=>
 cases b1 with
 |false=>
  (repeat' ((conv=>whnf);first|refine gA ?_|(refine gN ?_ ?_<;>intro h hw)|(refine gB ?_ ?_<;>intro h)|refine gV ?_|refine gC (B0) ?_|refine gC (B1) ?_|intro _))<;>try (conv=>whnf)
  exact fv
 |true=>
 by_cases h1:d.kind=1
 ·rw [if_pos h1]
  cases b2
  all_goals
   (repeat' ((conv=>whnf);first|with_reducible refine Br.yes (decide_eq_true h1) ?_|refine gA ?_|(refine gN ?_ ?_<;>intro h hw)|(refine gB ?_ ?_<;>intro h)|refine gV ?_|refine gC (B0) ?_|refine gC (B1) ?_|refine gC (B2) ?_|refine gC (B3) ?_|intro _))<;>try (conv=>whnf)
   exact fv
 rw [if_neg h1]
 by_cases h2:d.kind=2
 ·rw [if_pos h2]
  cases b2
  all_goals
   (repeat' ((conv=>whnf);first|with_reducible refine Br.no (decide_eq_false h1) ?_|with_reducible refine Br.yes (decide_eq_true h2) ?_|refine gA ?_|(refine gN ?_ ?_<;>intro h hw)|(refine gB ?_ ?_<;>intro h)|refine gV ?_|refine gC (B0) ?_|refine gC (B1) ?_|refine gC (B2) ?_|refine gC (B4) ?_|intro _))<;>try (conv=>whnf)
   exact fv
 rw [if_neg h2]
 by_cases h3:d.kind=3
 ·rw [if_pos h3]
  cases b5
  all_goals
   (repeat' ((conv=>whnf);first|with_reducible refine Br.no (decide_eq_false h1) ?_|with_reducible refine Br.no (decide_eq_false h2) ?_|with_reducible refine Br.yes (decide_eq_true h3) ?_|refine gA ?_|(refine gN ?_ ?_<;>intro h hw)|(refine gB ?_ ?_<;>intro h)|refine gV ?_|refine gC (B0) ?_|refine gC (B1) ?_|refine gC (B5) ?_|refine gC (B6) ?_|intro _))<;>try (conv=>whnf)
   exact fv
 rw [if_neg h3]
 (repeat' ((conv=>whnf);first|with_reducible refine Br.no (decide_eq_false h1) ?_|with_reducible refine Br.no (decide_eq_false h2) ?_|with_reducible refine Br.no (decide_eq_false h3) ?_|refine gA ?_|(refine gN ?_ ?_<;>intro h hw)|(refine gB ?_ ?_<;>intro h)|refine gV ?_|refine gC (B0) ?_|refine gC (B1) ?_|intro _))<;>try (conv=>whnf)
 exact fv
theorem CV (f:Int→Int):∀n,(changes f n).length≤n
 |0=>Nat.le_refl _
 |n+1=>by
  have:=CV f n
  rw [iF]
  split
  ·rw [List.length_append,List.length_singleton];omega
  ·omega
theorem KG {f:Int→Int} {t:Nat} (h:0 < t):∃(j:Nat) (s:Step),(changes f t).length=j+1∧(changes f t)[j]? =some s∧kG (changes f t)=s.cap:=by
 rcases yI (changes f t) with h0|⟨r,s,h0⟩
 ·exact absurd h0 (yG f t h)
 ·rw [h0]
  exact⟨r.length,s,by simp,by simp,uy r s⟩
theorem KH (l:List Step) (a n:Int) (hc:∀s∈l,0≤s.cap∧s.cap≤20) (hn:1≤n∧n≤20) (hl:l.length≤8):Con 70 [.d (.sl (l.map Step.av)),.d (i64 a),.d (i64 n)] (.own 131 ((jw l a n).map Step.av)):=by
 refine con Tryz.func70 rfl rfl Tryz.call70 rfl fun hwf=>?_
 unfold jw
 (repeat' ((conv=>whnf);first|refine gA ?_|(refine gB ?_ ?_<;>intro h)|(refine gI ?_;intro x hx)|(refine gJ ?_;intro j x hj hx)|refine gP ?_|refine gV ?_|intro _))<;>try (conv=>whnf)
 refine aG [0,1,2] [] [10] ?_
 (conv=>whnf)
 refine aC.go ((Nat)) (fun t=>(t≤61)) (fun t=>[(11,.data (i64 t)),(7,.own 10 0)]) (fun _=>[]) (fun t=>[(10,131,(changes (Ag l a n) t).map Step.av,0)]) (fun t=>61 - t) (0) ?_ ?_
 ·exact Nat.zero_le _
 rintro t ht
 have hcl:=CV (Ag l a n) t
 by_cases hlt:t < 61
 rotate_left
 ·obtain rfl:t=61:=by omega
  (repeat' ((conv=>whnf);first|(exfalso;omega)|refine gA ?_|(refine gB ?_ ?_<;>intro h)|(refine gI ?_;intro x hx)|(refine gJ ?_;intro j x hj hx)|refine gP ?_|refine gV ?_|intro _))<;>try (conv=>whnf)
  exact fv
 have hcb:=vO (t:=(t:Int)) (n:=0) hc (by omega)
 have hA:=ow l t
 have hs:=iF (Ag l a n) t
 have hv:Ag l a n t=if (t:Int)≥a then max (aT t l 0 - n) 0 else aT t l 0:=rfl
 generalize aT t l 0=c at hcb hA hv
 by_cases h0:t=0
 ·subst h0
  rw [if_pos (.inl rfl),Af,List.nil_append] at hs
  by_cases hg:((0:Nat):Int)≥a
  ·rw [if_pos hg] at hv
   (repeat' ((conv=>whnf);first|with_reducible refine Br.yes (decide_eq_true hg) ?_|(exfalso;omega)|refine gA ?_|(refine gB ?_ ?_<;>intro h)|(refine gI ?_;intro x hx)|(refine gJ ?_;intro j x hj hx)|refine gP ?_|refine gV ?_|refine gC (hA) ?_|intro _))<;>try (conv=>whnf)
   refine nw (1) ?_ ?_
   ·(repeat' ((conv=>whnf)<;>(first|exact trivial|exact rfl|with_reducible refine And.intro ?_ ?_)))<;>((conv=>whnf)<;>((rw [hs,hv];rfl)))
   exact (by omega:1≤61)
  ·rw [if_neg hg] at hv
   (repeat' ((conv=>whnf);first|with_reducible refine Br.no (decide_eq_false hg) ?_|(exfalso;omega)|refine gA ?_|(refine gB ?_ ?_<;>intro h)|(refine gI ?_;intro x hx)|(refine gJ ?_;intro j x hj hx)|refine gP ?_|refine gV ?_|refine gC (hA) ?_|intro _))<;>try (conv=>whnf)
   refine nw (1) ?_ ?_
   ·(repeat' ((conv=>whnf)<;>(first|exact trivial|exact rfl|with_reducible refine And.intro ?_ ?_)))<;>((conv=>whnf)<;>((rw [hs,hv];rfl)))
   exact (by omega:1≤61)
 obtain⟨j,s,hj,hsx,hlc⟩:=KG (f:=Ag l a n) (t:=t) (by omega)
 have ej:(((((changes (Ag l a n) t).map Step.av).length:Nat):Int) - 1)=(j:Nat):=by rw [List.length_map,hj];omega
 have ht0:¬((t:Int)=0):=by omega
 rw [hlc] at hs
 by_cases hg:(t:Int)≥a
 ·rw [if_pos hg] at hv
  by_cases he:max (c - n) 0=s.cap
  ·rw [if_neg (by rw [hv,he];omega)] at hs
   (repeat' ((conv=>whnf);first|with_reducible refine Br.yes (decide_eq_true hg) ?_|with_reducible refine Idx.got hsx rfl ?_|refine Idx.got hsx ej ?_|with_reducible refine Br.no (decide_eq_false ht0) ?_|(exfalso;omega)|refine gA ?_|(refine gB ?_ ?_<;>intro h)|(refine gI ?_;intro x hx)|(refine gJ ?_;intro j x hj hx)|refine gP ?_|refine gV ?_|refine gC (hA) ?_|intro _))<;>try (conv=>whnf)
   all_goals first
    |(exfalso;omega)
    |(refine nw (t+1) ?_ ?_
      ·(repeat' ((conv=>whnf)<;>(first|exact trivial|exact rfl|with_reducible refine And.intro ?_ ?_)))<;>((conv=>whnf)<;>((rw [hs])))
      exact (by omega:t+1≤61))
  ·rw [if_pos (.inr (by rw [hv];exact he))] at hs
   (repeat' ((conv=>whnf);first|with_reducible refine Br.yes (decide_eq_true hg) ?_|with_reducible refine Idx.got hsx rfl ?_|refine Idx.got hsx ej ?_|with_reducible refine Br.no (decide_eq_false ht0) ?_|(exfalso;omega)|refine gA ?_|(refine gB ?_ ?_<;>intro h)|(refine gI ?_;intro x hx)|(refine gJ ?_;intro j x hj hx)|refine gP ?_|refine gV ?_|refine gC (hA) ?_|intro _))<;>try (conv=>whnf)
   all_goals first
    |(exfalso;omega)
    |(refine nw (t+1) ?_ ?_
      ·(repeat' ((conv=>whnf)<;>(first|exact trivial|exact rfl|with_reducible refine And.intro ?_ ?_)))<;>((conv=>whnf)<;>((rw [hs,hv,List.map_append];rfl)))
      exact (by omega:t+1≤61))
 ·rw [if_neg hg] at hv
  by_cases he:c=s.cap
  ·rw [if_neg (by rw [hv,he];omega)] at hs
   (repeat' ((conv=>whnf);first|with_reducible refine Br.no (decide_eq_false hg) ?_|with_reducible refine Idx.got hsx rfl ?_|refine Idx.got hsx ej ?_|with_reducible refine Br.no (decide_eq_false ht0) ?_|(exfalso;omega)|refine gA ?_|(refine gB ?_ ?_<;>intro h)|(refine gI ?_;intro x hx)|(refine gJ ?_;intro j x hj hx)|refine gP ?_|refine gV ?_|refine gC (hA) ?_|intro _))<;>try (conv=>whnf)
   all_goals first
    |(exfalso;omega)
    |(refine nw (t+1) ?_ ?_
      ·(repeat' ((conv=>whnf)<;>(first|exact trivial|exact rfl|with_reducible refine And.intro ?_ ?_)))<;>((conv=>whnf)<;>((rw [hs])))
      exact (by omega:t+1≤61))
  ·rw [if_pos (.inr (by rw [hv];exact he))] at hs
   (repeat' ((conv=>whnf);first|with_reducible refine Br.no (decide_eq_false hg) ?_|with_reducible refine Idx.got hsx rfl ?_|refine Idx.got hsx ej ?_|with_reducible refine Br.no (decide_eq_false ht0) ?_|(exfalso;omega)|refine gA ?_|(refine gB ?_ ?_<;>intro h)|(refine gI ?_;intro x hx)|(refine gJ ?_;intro j x hj hx)|refine gP ?_|refine gV ?_|refine gC (hA) ?_|intro _))<;>try (conv=>whnf)
   all_goals first
    |(exfalso;omega)
    |(refine nw (t+1) ?_ ?_
      ·(repeat' ((conv=>whnf)<;>(first|exact trivial|exact rfl|with_reducible refine And.intro ?_ ?_)))<;>((conv=>whnf)<;>((rw [hs,hv,List.map_append];rfl)))
      exact (by omega:t+1≤61))
end Go.Proofs.YtpfgedlimdeffaaGreat.Abs
namespace Go.Proofs.YtpfgedlimdeffaaGreat.Abs
open Go.Proofs Go.RowKit
theorem NC (o:List Step):cB o []=o:=rfl
theorem KI (o:List Step) (s:Step) (r:List Step):cB o (s::r)=if o= []∨kG o≠s.cap then cB (o++[s]) r else cB o r:=rfl
theorem ND (l:List Step) (hl:l.length≤100):Con 95 [.d (.sl (l.map Step.av))] (.own 131 ((cB [] l).map Step.av)):=by
 refine con Tryz.func95 rfl rfl Tryz.call95 rfl fun hwf=>?_
 generalize hR:cB [] l=R
 (repeat' ((conv=>whnf);first|refine gA ?_|(refine gB ?_ ?_<;>intro h)|(refine gI ?_;intro x hx)|(refine gJ ?_;intro j x hj hx)|refine gP ?_|refine gV ?_|intro _))<;>try (conv=>whnf)
 refine aG [7,8] [] [6] ?_
 (conv=>whnf)
 refine aC.go ((Nat)×(List Step)) (fun⟨k,o⟩=>(k≤l.length)∧(o.length≤k)∧(cB o (l.drop k)=R)) (fun⟨k,o⟩=>[(9,.data (i64 k)),(3,.own 6 0)]) (fun _=>[]) (fun⟨k,o⟩=>[(6,131,o.map Step.av,0)]) (fun⟨k,o⟩=>l.length - k) ⟨0,[]⟩ ?_ ?_
 ·exact⟨Nat.zero_le _,Nat.le_refl _,hR⟩
 rintro⟨k,o⟩ ⟨hk,ho,he⟩
 by_cases hlt:k < l.length
 rotate_left
 ·rw [aQ (by omega),NC] at he
  subst he
  (repeat' ((conv=>whnf);first|(exfalso;omega)|refine gA ?_|(refine gB ?_ ?_<;>intro h)|(refine gI ?_;intro x hx)|(refine gJ ?_;intro j x hj hx)|refine gP ?_|refine gV ?_|intro _))<;>try (conv=>whnf)
  exact fv
 obtain⟨s,hs⟩:∃s,l[k]? =some s:=⟨l[k]'hlt,by simp⟩
 rw [ay hs,KI] at he
 rcases yI o with rfl|⟨r,x,rfl⟩
 ·rw [if_pos (.inl rfl)] at he
  (repeat' ((conv=>whnf);first|with_reducible refine Idx.got hs rfl ?_|(exfalso;omega)|refine gA ?_|(refine gB ?_ ?_<;>intro h)|(refine gI ?_;intro x hx)|(refine gJ ?_;intro j x hj hx)|refine gP ?_|refine gV ?_|intro _))<;>try (conv=>whnf)
  refine nx ⟨k+1,[s]⟩ ?_
  exact⟨by omega,by simp,he⟩
 ·have hne:¬(((((r++[x]).map Step.av).length:Nat):Int)=0):=by simp;omega
  have hx:(r++[x])[r.length]? =some x:=by simp
  have ex:(((((r++[x]).map Step.av).length:Nat):Int) - 1)=(r.length:Nat):=by simp
  rw [uy] at he
  have hl1:(List.map Step.av (r++[x])).length=r.length+1:=by simp
  have hl2:(r++[x]).length=r.length+1:=by simp
  by_cases hc:x.cap=s.cap
  ·rw [if_neg (by simp [hc])] at he
   (repeat' ((conv=>whnf);first|with_reducible refine Idx.got hs rfl ?_|with_reducible refine Br.no (decide_eq_false hne) ?_|with_reducible refine Idx.got hx rfl ?_|refine Idx.got hx ex ?_|(exfalso;omega)|refine gA ?_|(refine gB ?_ ?_<;>intro h)|(refine gI ?_;intro x hx)|(refine gJ ?_;intro j x hj hx)|refine gP ?_|refine gV ?_|intro _))<;>try (conv=>whnf)
   all_goals first
    |(exfalso;omega)
    |(refine nx ⟨k+1,r++[x]⟩ ?_
      exact⟨by omega,by simp;omega,he⟩)
  ·rw [if_pos (.inr hc)] at he
   (repeat' ((conv=>whnf);first|with_reducible refine Idx.got hs rfl ?_|with_reducible refine Br.no (decide_eq_false hne) ?_|with_reducible refine Idx.got hx rfl ?_|refine Idx.got hx ex ?_|(exfalso;omega)|refine gA ?_|(refine gB ?_ ?_<;>intro h)|(refine gI ?_;intro x hx)|(refine gJ ?_;intro j x hj hx)|refine gP ?_|refine gV ?_|intro _))<;>try (conv=>whnf)
   all_goals first
    |(exfalso;omega)
    |(refine nw ⟨k+1,r++[x]++[s]⟩ ?_ ?_
      ·(repeat' ((conv=>whnf)<;>(first|exact trivial|exact rfl|with_reducible refine And.intro ?_ ?_)))<;>((conv=>whnf)<;>(simp))
      exact⟨by omega,by simp;omega,he⟩)
theorem CW {α:Type} {l:List α} {k:Nat} {x:α} (p:α→Bool) (h:l[k]? =some x):(l.take (k+1)).filter p=if p x=true then (l.take k).filter p++[x] else (l.take k).filter p:=by
 rw [List.take_add_one,h,List.filter_append]
 cases hp:p x<;>simp [hp]
theorem uR {α:Type} {l:List α} (k:Nat) (p:α→Bool):((l.take k).filter p).length≤k:=Nat.le_trans (List.length_filter_le _ _) (by simp;omega)
def uE (l:List Step) (a n:Int):List Step:=l.filter (fun s=>decide (s.at' < a))++[⟨a,max 0 (aT a l 0 - n)⟩]
def NG (n:Int) (s:Step):Step:=⟨s.at',max 0 (s.cap - n)⟩
theorem Pv (l:List Step) (a n:Int):pG l a n=uE l a n++(l.filter fun s=>decide (s.at' > a)).map (NG n):=rfl
theorem KJ (l:List Step) (a n:Int) (hc:∀s∈l,0≤s.cap∧s.cap≤20) (hn:1≤n∧n≤20) (hl:l.length≤8):Con 56 [.d (.sl (l.map Step.av)),.d (i64 a),.d (i64 n)] (.own 131 ((Bp l a n).map Step.av)):=by
 refine con Tryz.func56 rfl rfl Tryz.call56 rfl fun hwf=>?_
 have hcb:=vO (t:=a) (n:=0) hc (by omega)
 have hA:=yw l a
 have hM:=nU 0 (aT a l 0 - n)
 have hE:Bp l a n=cB [] (uE l a n++(l.filter fun s=>decide (s.at' > a)).map (NG n)):=by unfold Bp;rw [Pv]
 have hmid:(l.take l.length).filter (fun s=>decide (s.at' < a))++[⟨a,max 0 (aT a l 0 - n)⟩]=uE l a n:=by rw [List.take_length];rfl
 have hml:(uE l a n).length≤9:=by
  unfold uE
  have:=List.length_filter_le (fun s:Step=>decide (s.at' < a)) l
  rw [List.length_append,List.length_singleton];omega
 have hfin:((l.take l.length).filter fun s=>decide (s.at' > a))=l.filter fun s=>decide (s.at' > a):=by rw [List.take_length]
 have hfl:=List.length_filter_le (fun s:Step=>decide (s.at' > a)) l
 have hL:=ND (uE l a n++(l.filter fun s=>decide (s.at' > a)).map (NG n)) (by rw [List.length_append,List.length_map];omega)
 rw [← hE] at hL
 generalize Bp l a n=R at hL
 generalize hcc:aT a l 0=c at hcb hA hM hmid
 generalize uE l a n=m at hmid hml hL
 (repeat' ((conv=>whnf);first|refine gA ?_|(refine gB ?_ ?_<;>intro h)|(refine gI ?_;intro x hx)|(refine gJ ?_;intro j x hj hx)|refine gP ?_|refine gV ?_|intro _))<;>try (conv=>whnf)
 refine aG [0,1,2,13,14] [] [12] ?_
 (conv=>whnf)
 refine aC.go ((Nat)) (fun k=>(k≤l.length)) (fun k=>[(15,.data (i64 k)),(7,.own 12 0)]) (fun _=>[]) (fun k=>[(12,131,((l.take k).filter fun s=>decide (s.at' < a)).map Step.av,0)]) (fun k=>l.length - k) (0) ?_ ?_
 ·exact Nat.zero_le _
 rintro k hk
 have h1:=uR (l:=l) k fun s=>decide (s.at' < a)
 by_cases hlt:k < l.length
 ·obtain⟨s,hs⟩:∃s,l[k]? =some s:=⟨l[k]'hlt,by simp⟩
  have ht:=CW (fun s=>decide (s.at' < a)) hs
  by_cases h:s.at' < a
  ·rw [if_pos (decide_eq_true h)] at ht
   (repeat' ((conv=>whnf);first|with_reducible refine Idx.got hs rfl ?_|with_reducible refine Br.yes (decide_eq_true h) ?_|(exfalso;omega)|refine gA ?_|(refine gB ?_ ?_<;>intro h)|(refine gI ?_;intro x hx)|(refine gJ ?_;intro j x hj hx)|refine gP ?_|refine gV ?_|intro _))<;>try (conv=>whnf)
   refine nw (k+1) ?_ ?_
   ·(repeat' ((conv=>whnf)<;>(first|exact trivial|exact rfl|with_reducible refine And.intro ?_ ?_)))<;>((conv=>whnf)<;>((rw [ht,List.map_append];rfl)))
   exact (by omega:k+1≤l.length)
  ·rw [if_neg (by simp [h])] at ht
   (repeat' ((conv=>whnf);first|with_reducible refine Idx.got hs rfl ?_|with_reducible refine Br.no (decide_eq_false h) ?_|(exfalso;omega)|refine gA ?_|(refine gB ?_ ?_<;>intro h)|(refine gI ?_;intro x hx)|(refine gJ ?_;intro j x hj hx)|refine gP ?_|refine gV ?_|intro _))<;>try (conv=>whnf)
   refine nw (k+1) ?_ ?_
   ·(repeat' ((conv=>whnf)<;>(first|exact trivial|exact rfl|with_reducible refine And.intro ?_ ?_)))<;>((conv=>whnf)<;>((rw [ht])))
   exact (by omega:k+1≤l.length)
 obtain rfl:k=l.length:=by omega
 (repeat' ((conv=>whnf);first|(exfalso;omega)|refine gA ?_|(refine gB ?_ ?_<;>intro h)|(refine gI ?_;intro x hx)|(refine gJ ?_;intro j x hj hx)|refine gP ?_|refine gV ?_|refine gC (hA) ?_|refine gC (hM) ?_|intro _))<;>try (conv=>whnf)
 refine aG [1,2,39,40] [] [12] ?_
 (conv=>whnf)
 refine aC.mk ((Nat)×(List Step)) (fun⟨j,o⟩=>(j≤l.length)∧(o=m++((l.take j).filter fun s=>decide (s.at' > a)).map (NG n))) (fun⟨j,o⟩=>[(41,.data (i64 j)),(7,.own 12 0)]) (fun _=>[]) (fun⟨j,o⟩=>[(12,131,o.map Step.av,0)]) (fun⟨j,o⟩=>l.length - j) ⟨0,m⟩ ?_ ?_ ?_
 rotate_left
 ·(repeat' ((conv=>whnf)<;>(first|exact trivial|exact rfl|with_reducible refine And.intro ?_ ?_)))<;>((conv=>whnf)<;>((rw [← hmid,List.map_append];rfl)))
 rotate_left
 ·exact⟨Nat.zero_le _,by simp⟩
 rintro⟨j,o⟩ ⟨hj,ho⟩
 have h2:=uR (l:=l) j fun s=>decide (s.at' > a)
 have hol:o.length≤9+j:=by rw [ho,List.length_append,List.length_map];omega
 by_cases hlt:j < l.length
 ·obtain⟨s,hs⟩:∃s,l[j]? =some s:=⟨l[j]'hlt,by simp⟩
  have hsc:=hc s (List.mem_of_getElem? hs)
  have ht:=CW (fun s=>decide (s.at' > a)) hs
  have hM2:=nU 0 (s.cap - n)
  by_cases h:s.at' > a
  ·rw [if_pos (decide_eq_true h)] at ht
   (repeat' ((conv=>whnf);first|with_reducible refine Idx.got hs rfl ?_|with_reducible refine Br.yes (decide_eq_true h) ?_|(exfalso;omega)|refine gA ?_|(refine gB ?_ ?_<;>intro h)|(refine gI ?_;intro x hx)|(refine gJ ?_;intro j x hj hx)|refine gP ?_|refine gV ?_|refine gC (hM2) ?_|intro _))<;>try (conv=>whnf)
   refine nw ⟨j+1,o++[NG n s]⟩ ?_ ?_
   ·(repeat' ((conv=>whnf)<;>(first|exact trivial|exact rfl|with_reducible refine And.intro ?_ ?_)))<;>((conv=>whnf)<;>((rw [List.map_append];rfl)))
   exact⟨by omega,by rw [ht,List.map_append,ho,List.append_assoc];rfl⟩
  ·rw [if_neg (by simp;omega)] at ht
   (repeat' ((conv=>whnf);first|with_reducible refine Idx.got hs rfl ?_|with_reducible refine Br.no (decide_eq_false h) ?_|(exfalso;omega)|refine gA ?_|(refine gB ?_ ?_<;>intro h)|(refine gI ?_;intro x hx)|(refine gJ ?_;intro j x hj hx)|refine gP ?_|refine gV ?_|intro _))<;>try (conv=>whnf)
   refine nx ⟨j+1,o⟩ ?_
   exact⟨by omega,by rw [ht,ho]⟩
 obtain rfl:j=l.length:=by omega
 rw [hfin] at ho
 rw [← ho] at hL
 (repeat' ((conv=>whnf);first|(exfalso;omega)|refine gA ?_|(refine gB ?_ ?_<;>intro h)|(refine gI ?_;intro x hx)|(refine gJ ?_;intro j x hj hx)|refine gP ?_|refine gV ?_|refine gC (hL) ?_|intro _))<;>try (conv=>whnf)
 exact fv
def fH (l:List Int) (t:Int) (k:Nat):List Int:=((List.range k).filter fun i=>decide (l.getD i 0 < t)).map Int.ofNat
theorem vW {l:List Int} {t x:Int} {k:Nat} (h:l[k]? =some x):fH l t (k+1)=if x < t then fH l t k++[(k:Int)] else fH l t k:=by
 have hx:l.getD k 0=x:=by rw [List.getD_eq_getElem?_getD,h];rfl
 unfold fH
 rw [List.range_succ,List.filter_append,List.map_append]
 by_cases hc:x < t
 ·rw [if_pos hc];simp [hx,hc, -List.getD_eq_getElem?_getD]
 ·rw [if_neg hc];simp [hx,hc, -List.getD_eq_getElem?_getD]
theorem xG (l:List Int) (t:Int) (k:Nat):(fH l t k).length≤k:=by
 unfold fH
 rw [List.length_map]
 exact Nat.le_trans (List.length_filter_le _ _) (by simp)
def bR (s:aA) (t:Int):List Int:=fH s.starts t s.starts.length
theorem yK (s:aA) (t:Int):Con 34 [.d s.av,.d (i64 t)] (.d (ints (bR s t))):=by
 refine con Tryz.func34 rfl rfl Tryz.call34 rfl fun hwf=>?_
 simp only [ARs.wf,AR.wf,AV.wf,AV.wfs,lm,lim] at hwf
 unfold bR
 (repeat' ((conv=>whnf);first|refine gA ?_|(refine gB ?_ ?_<;>intro h)|(refine gI ?_;intro x hx)|(refine gJ ?_;intro j x hj hx)|refine gP ?_|refine gV ?_|intro _))<;>try (conv=>whnf)
 refine aG [1,10,11] [] [8] ?_
 (conv=>whnf)
 refine aC.go ((Nat)) (fun k=>(k≤s.starts.length)) (fun k=>[(12,.data (i64 k)),(5,.own 8 0)]) (fun _=>[]) (fun k=>[(8,3,(fH s.starts t k).map i64,0)]) (fun k=>s.starts.length - k) (0) ?_ ?_
 ·exact Nat.zero_le _
 rintro k hk
 have hl:=xG s.starts t k
 by_cases hlt:k < s.starts.length
 ·obtain⟨x,hx⟩:∃x,s.starts[k]? =some x:=⟨s.starts[k]'hlt,by simp⟩
  have hn:=vW (t:=t) hx
  by_cases h:x < t
  ·rw [if_pos h] at hn
   (repeat' ((conv=>whnf);first|with_reducible refine Idx.got hx rfl ?_|with_reducible refine Br.yes (decide_eq_true h) ?_|(exfalso;omega)|refine gA ?_|(refine gB ?_ ?_<;>intro h)|(refine gI ?_;intro x hx)|(refine gJ ?_;intro j x hj hx)|refine gP ?_|refine gV ?_|intro _))<;>try (conv=>whnf)
   refine nw (k+1) ?_ ?_
   ·(repeat' ((conv=>whnf)<;>(first|exact trivial|exact rfl|with_reducible refine And.intro ?_ ?_)))<;>((conv=>whnf)<;>((rw [hn,List.map_append];rfl)))
   exact (by omega:k+1≤s.starts.length)
  ·rw [if_neg h] at hn
   (repeat' ((conv=>whnf);first|with_reducible refine Idx.got hx rfl ?_|with_reducible refine Br.no (decide_eq_false h) ?_|(exfalso;omega)|refine gA ?_|(refine gB ?_ ?_<;>intro h)|(refine gI ?_;intro x hx)|(refine gJ ?_;intro j x hj hx)|refine gP ?_|refine gV ?_|intro _))<;>try (conv=>whnf)
   refine nw (k+1) ?_ ?_
   ·(repeat' ((conv=>whnf)<;>(first|exact trivial|exact rfl|with_reducible refine And.intro ?_ ?_)))<;>((conv=>whnf)<;>((rw [hn])))
   exact (by omega:k+1≤s.starts.length)
 obtain rfl:k=s.starts.length:=by omega
 (repeat' ((conv=>whnf);first|(exfalso;omega)|refine gA ?_|(refine gB ?_ ?_<;>intro h)|(refine gI ?_;intro x hx)|(refine gJ ?_;intro j x hj hx)|refine gP ?_|refine gV ?_|intro _))<;>try (conv=>whnf)
 exact fv
theorem yL (s:aA) (t:Int):Con 23 [.d s.av,.d (i64 t)] (.d (ints (bR s t))):=by
 refine con Tryz.func23 rfl rfl Tryz.call23 rfl fun hwf=>?_
 simp only [ARs.wf,AR.wf,AV.wf,AV.wfs,lm,lim] at hwf
 unfold bR
 (repeat' ((conv=>whnf);first|refine gA ?_|(refine gB ?_ ?_<;>intro h)|(refine gI ?_;intro x hx)|(refine gJ ?_;intro j x hj hx)|refine gP ?_|refine gV ?_|intro _))<;>try (conv=>whnf)
 refine aG [1,10,11] [] [8] ?_
 (conv=>whnf)
 refine aC.go ((Nat)) (fun k=>(k≤s.starts.length)) (fun k=>[(12,.data (i64 k)),(5,.own 8 0)]) (fun _=>[]) (fun k=>[(8,3,(fH s.starts t k).map i64,0)]) (fun k=>s.starts.length - k) (0) ?_ ?_
 ·exact Nat.zero_le _
 rintro k hk
 have hl:=xG s.starts t k
 by_cases hlt:k < s.starts.length
 ·obtain⟨x,hx⟩:∃x,s.starts[k]? =some x:=⟨s.starts[k]'hlt,by simp⟩
  have hn:=vW (t:=t) hx
  by_cases h:x < t
  ·rw [if_pos h] at hn
   (repeat' ((conv=>whnf);first|with_reducible refine Idx.got hx rfl ?_|with_reducible refine Br.yes (decide_eq_true h) ?_|(exfalso;omega)|refine gA ?_|(refine gB ?_ ?_<;>intro h)|(refine gI ?_;intro x hx)|(refine gJ ?_;intro j x hj hx)|refine gP ?_|refine gV ?_|intro _))<;>try (conv=>whnf)
   refine nw (k+1) ?_ ?_
   ·(repeat' ((conv=>whnf)<;>(first|exact trivial|exact rfl|with_reducible refine And.intro ?_ ?_)))<;>((conv=>whnf)<;>((rw [hn,List.map_append];rfl)))
   exact (by omega:k+1≤s.starts.length)
  ·rw [if_neg h] at hn
   (repeat' ((conv=>whnf);first|with_reducible refine Idx.got hx rfl ?_|with_reducible refine Br.no (decide_eq_false h) ?_|(exfalso;omega)|refine gA ?_|(refine gB ?_ ?_<;>intro h)|(refine gI ?_;intro x hx)|(refine gJ ?_;intro j x hj hx)|refine gP ?_|refine gV ?_|intro _))<;>try (conv=>whnf)
   refine nw (k+1) ?_ ?_
   ·(repeat' ((conv=>whnf)<;>(first|exact trivial|exact rfl|with_reducible refine And.intro ?_ ?_)))<;>((conv=>whnf)<;>((rw [hn])))
   exact (by omega:k+1≤s.starts.length)
 obtain rfl:k=s.starts.length:=by omega
 (repeat' ((conv=>whnf);first|(exfalso;omega)|refine gA ?_|(refine gB ?_ ?_<;>intro h)|(refine gI ?_;intro x hx)|(refine gJ ?_;intro j x hj hx)|refine gP ?_|refine gV ?_|intro _))<;>try (conv=>whnf)
 exact fv
def Ue (n:Int) (m:Mode):Mode:={ m with dur:=min (m.dur+n) 12 }
def nM (n:Int) (a:au):au:={ a with modes:=a.modes.map (Ue n) }
def QF (t n:Int) (r:aP):aP:={ r with steps:=jw r.steps t n }
def delayed (p:Proj) (d:Dly):Proj:=
 if d.kind=2 then { p with acts:=p.acts.modify d.a.toNat (nM d.n) } else if d.kind=3 then { p with aU:=p.aU.modify d.a.toNat (QF d.at' d.n) } else p
def bg (p:Proj) (d:Dly):Proj×Bool:=if iN p d=true∧aY (delayed p d)=true then (delayed p d,true) else (EW,false)
open Go.Proofs Go.RowKit
def YA (a:au):RV:=.agg [.d (.str a.name),.d (i64 a.fam),.lin 98 (a.modes.map Mode.av)]
theorem Bq (a:au):Con 93 [.d a.av] (YA a):=by
 refine con Tryz.func93 rfl rfl Tryz.call93 rfl fun hwf=>?_
 simp only [ARs.wf,AR.wf,AV.wf,AV.wfs,lm,lim] at hwf
 (repeat' ((conv=>whnf);first|refine gA ?_|(refine gB ?_ ?_<;>intro h)|(refine gI ?_;intro x hx)|(refine gJ ?_;intro j x hj hx)|refine gP ?_|refine gV ?_|intro _))<;>try (conv=>whnf)
 refine aG [2,3,12,13] [2] [32] ?_
 (conv=>whnf)
 refine aC.go ((Nat)×(List Mode)) (fun⟨j,q⟩=>(j≤a.modes.length)∧(q=a.modes.take j)) (fun⟨j,q⟩=>[(14,.data (i64 j))]) (fun⟨j,q⟩=>[(3,[.data (.str a.name),.data (i64 a.fam),.own 32 0])]) (fun⟨j,q⟩=>[(32,98,q.map Mode.av,1)]) (fun⟨j,q⟩=>a.modes.length - j) ⟨0,[]⟩ ?_ ?_
 ·exact⟨Nat.zero_le _,rfl⟩
 rintro⟨j,q⟩ ⟨hj,hq⟩
 have hql:=take_len hq
 by_cases hjt:j < a.modes.length
 ·obtain⟨m,hm⟩:∃m,a.modes[j]? =some m:=⟨a.modes[j]'hjt,by simp⟩
  have hwm:=qW hwf.1.2.2.1.2 hm
  simp only [AV.wf,AV.wfs,List.length_map] at hwm
  (repeat' ((conv=>whnf);first|with_reducible refine Idx.got hm rfl ?_|(exfalso;omega)|refine gA ?_|(refine gB ?_ ?_<;>intro h)|(refine gI ?_;intro x hx)|(refine gJ ?_;intro j x hj hx)|refine gP ?_|refine gV ?_|intro _))<;>try (conv=>whnf)
  refine nw ⟨j+1,q++[m]⟩ ?_ ?_
  ·(repeat' ((conv=>whnf)<;>(first|exact trivial|exact rfl|with_reducible refine And.intro ?_ ?_)))<;>((conv=>whnf)<;>(simp))
  exact⟨by omega,lq hm hq⟩
 ·obtain rfl:=nV hjt hq
  (repeat' ((conv=>whnf);first|(exfalso;omega)|refine gA ?_|(refine gB ?_ ?_<;>intro h)|(refine gI ?_;intro x hx)|(refine gJ ?_;intro j x hj hx)|refine gP ?_|refine gV ?_|intro _))<;>try (conv=>whnf)
  exact fv
theorem nk (p:Proj):Con 54 [.d p.av] (KA p):=by
 refine con Tryz.func54 rfl rfl Tryz.call54 rfl fun hwf=>?_
 simp only [ARs.wf,AR.wf,AV.wf,AV.wfs,lm,lim] at hwf
 (repeat' ((conv=>whnf);first|refine gA ?_|(refine gB ?_ ?_<;>intro h)|(refine gI ?_;intro x hx)|(refine gJ ?_;intro j x hj hx)|refine gP ?_|refine gV ?_|intro _))<;>try (conv=>whnf)
 refine aG [1,2,3,23,24] [1,2] [34,13,17] ?_
 (conv=>whnf)
 refine aC.go ((Nat)×(List au)) (fun⟨k,o⟩=>(k≤p.acts.length)∧(o=p.acts.take k)) (fun⟨k,o⟩=>[(25,.data (i64 k))]) (fun⟨k,o⟩=>[(3,[.data (i64 p.dead),.own 34 0,.own 13 0,.aj,.own 17 0])]) (fun⟨k,o⟩=>[(34,96,o.map au.av,1),(13,112,p.links.map Link.av,1),(17,3,p.aL.map i64,1)]) (fun⟨k,o⟩=>p.acts.length - k) ⟨0,[]⟩ ?_ ?_
 ·exact⟨Nat.zero_le _,rfl⟩
 rintro⟨k,o⟩ ⟨hk,ho⟩
 have hol:=take_len ho
 by_cases hlt:k < p.acts.length
 ·obtain⟨a,ha⟩:∃a,p.acts[k]? =some a:=⟨p.acts[k]'hlt,by simp⟩
  (repeat' ((conv=>whnf);first|with_reducible refine Idx.got ha rfl ?_|(exfalso;omega)|refine gA ?_|(refine gB ?_ ?_<;>intro h)|(refine gI ?_;intro x hx)|(refine gJ ?_;intro j x hj hx)|refine gP ?_|refine gV ?_|refine gC (Bq a) ?_|intro _))<;>try (conv=>whnf)
  refine nw ⟨k+1,o++[a]⟩ ?_ ?_
  ·(repeat' ((conv=>whnf)<;>(first|exact trivial|exact rfl|with_reducible refine And.intro ?_ ?_)))<;>((conv=>whnf)<;>(simp))
  exact⟨by omega,lq ha ho⟩
 obtain rfl:=nV hlt ho
 (repeat' ((conv=>whnf);first|(exfalso;omega)|refine gA ?_|(refine gB ?_ ?_<;>intro h)|(refine gI ?_;intro x hx)|(refine gJ ?_;intro j x hj hx)|refine gP ?_|refine gV ?_|intro _))<;>try (conv=>whnf)
 refine aG [2,3,38,39] [2] [34,13,69,17] ?_
 (conv=>whnf)
 refine aC.go ((Nat)×(List aP)) (fun⟨r,o⟩=>(r≤p.aU.length)∧(o=p.aU.take r)) (fun⟨r,o⟩=>[(40,.data (i64 r))]) (fun⟨r,o⟩=>[(3,[.data (i64 p.dead),.own 34 0,.own 13 0,.own 69 0,.own 17 0])]) (fun⟨r,o⟩=>[(34,96,p.acts.map au.av,1),(13,112,p.links.map Link.av,1),(69,102,o.map aP.av,1),(17,3,p.aL.map i64,1)]) (fun⟨r,o⟩=>p.aU.length - r) ⟨0,[]⟩ ?_ ?_
 ·exact⟨Nat.zero_le _,rfl⟩
 rintro⟨r,o⟩ ⟨hk,ho⟩
 by_cases hlt:r < p.aU.length
 ·obtain⟨a,ha⟩:∃a,p.aU[r]? =some a:=⟨p.aU[r]'hlt,by simp⟩
  have hol:=take_len ho
  have hwa:=qW hwf.1.2.2.2.1.2 ha
  simp only [AV.wf,AV.wfs,List.length_map] at hwa
  (repeat' ((conv=>whnf);first|with_reducible refine Idx.got ha rfl ?_|(exfalso;omega)|refine gA ?_|(refine gB ?_ ?_<;>intro h)|(refine gI ?_;intro x hx)|(refine gJ ?_;intro j x hj hx)|refine gP ?_|refine gV ?_|intro _))<;>try (conv=>whnf)
  refine aG [2,3,8,38,39,40,50,51] [2,3] [44,62] ?_
  (conv=>whnf)
  refine aC.go ((Nat)×(List (List Int))) (fun⟨j,q⟩=>(j≤a.setup.length)∧(q=a.setup.take j)) (fun⟨j,q⟩=>[(52,.data (i64 j))]) (fun⟨j,q⟩=>[(8,[.own 44 0,.own 62 0])]) (fun⟨j,q⟩=>[(44,131,a.steps.map Step.av,1),(62,25,q.map ints,1)]) (fun⟨j,q⟩=>a.setup.length - j) ⟨0,[]⟩ ?_ ?_
  ·exact⟨Nat.zero_le _,rfl⟩
  rintro⟨j,q⟩ ⟨hj,hq⟩
  have hql:=take_len hq
  by_cases hjt:j < a.setup.length
  ·obtain⟨m,hm⟩:∃m,a.setup[j]? =some m:=⟨a.setup[j]'hjt,by simp⟩
   have hwm:=qW hwa.2.1.2 hm
   simp only [AV.wf,AV.wfs,List.length_map] at hwm
   (repeat' ((conv=>whnf);first|with_reducible refine Idx.got hm rfl ?_|(exfalso;omega)|refine gA ?_|(refine gB ?_ ?_<;>intro h)|(refine gI ?_;intro x hx)|(refine gJ ?_;intro j x hj hx)|refine gP ?_|refine gV ?_|intro _))<;>try (conv=>whnf)
   refine nw ⟨j+1,q++[m]⟩ ?_ ?_
   ·(repeat' ((conv=>whnf)<;>(first|exact trivial|exact rfl|with_reducible refine And.intro ?_ ?_)))<;>((conv=>whnf)<;>(simp))
   exact⟨by omega,lq hm hq⟩
  ·obtain rfl:=nV hjt hq
   (repeat' ((conv=>whnf);first|(exfalso;omega)|refine gA ?_|(refine gB ?_ ?_<;>intro h)|(refine gI ?_;intro x hx)|(refine gJ ?_;intro j x hj hx)|refine gP ?_|refine gV ?_|intro _))<;>try (conv=>whnf)
   refine nw ⟨r+1,o++[a]⟩ ?_ ?_
   ·(repeat' ((conv=>whnf)<;>(first|exact trivial|exact rfl|with_reducible refine And.intro ?_ ?_)))<;>((conv=>whnf)<;>(simp))
   exact⟨by omega,lq ha ho⟩
 obtain rfl:=nV hlt ho
 (repeat' ((conv=>whnf);first|(exfalso;omega)|refine gA ?_|(refine gB ?_ ?_<;>intro h)|(refine gI ?_;intro x hx)|(refine gJ ?_;intro j x hj hx)|refine gP ?_|refine gV ?_|intro _))<;>try (conv=>whnf)
 exact fv
theorem nN {p:Proj} {d:Dly} (h:iN p d=true):aY p=true∧bM d.at'=true∧((d.kind=1∧bH p d.a=true∧bM d.n=true)∨(d.kind=2∧bH p d.a=true∧within d.n 1 12=true)∨(d.kind=3∧gD p d.a=true∧within d.n 1 20=true)):=by
 unfold iN at h
 simp only [Bool.and_eq_true] at h
 refine⟨h.1,h.2.1,?_⟩
 have h:=h.2.2
 split at h
 ·rename_i k;simp only [Bool.and_eq_true] at h;exact .inl ⟨k,h⟩
 split at h
 ·rename_i k;simp only [Bool.and_eq_true] at h;exact .inr (.inl ⟨k,h⟩)
 split at h
 ·rename_i k;simp only [Bool.and_eq_true] at h;exact .inr (.inr ⟨k,h⟩)
 ·cases h
theorem kH {p:Proj} {d:Dly} (hp:p.fine):(delayed p d).fine:=by
 unfold delayed
 split
 ·intro a ha
  obtain⟨i,hi⟩:=List.mem_iff_getElem?.1 ha
  rw [show ({ p with acts:=p.acts.modify d.a.toNat (nM d.n) }:Proj).acts=p.acts.modify d.a.toNat (nM d.n) from rfl,List.getElem?_modify] at hi
  cases hx:p.acts[i]? with
  |none=>rw [hx] at hi;cases hi
  |some x=>
   rw [hx] at hi
   have hxm:=hp x (List.mem_of_getElem? hx)
   have hi:=Option.some.inj hi
   subst hi
   split
   ·exact hxm
   ·exact hxm
 ·split<;>exact hp
theorem Ak {p:Proj} {d:Dly} (h:d.kind=1):delayed p d=p:=by unfold delayed;rw [if_neg (by omega),if_neg (by omega)]
theorem nO {p:Proj} {d:Dly} (h:iN p d=false):bg p d=(EW,false):=by unfold bg;rw [if_neg (by simp [h])]
theorem rR {p:Proj} {d:Dly} (h:iN p d=true):bg p d=if aY (delayed p d)=true then (delayed p d,true) else (EW,false):=by unfold bg;simp only [h,true_and]
theorem qF {α:Type} {f:α→AV} {g:α→α}:∀{l:List α} {k:Nat} {x:α},l[k]? =some x→(l.modify k g).map f=(l.map f).set k (f (g x))
 |[],k,x,h=>by cases h
 |y::l,0,x,h=>by cases h;rfl
 |y::l,k+1,x,h=>by
  rw [List.modify_succ_cons,List.map_cons,List.map_cons,List.set_cons_succ,qF (by simpa using h)]
theorem VA {p:Proj} {k:Nat} {r:aP} (t n:Int) (h:p.aU[k]? =some r):((p.aU.modify k (QF t n)).map aP.av)=(p.aU.map aP.av).set k (bP r.av 0 (.sl ((jw r.steps t n).map Step.av))):=by
 rw [qF h];rfl
theorem CX {p:Proj} {d:Dly} {k:Nat} {r:aP} (h:d.kind=3) (ha:d.a=k) (hr:p.aU[k]? =some r):
  (delayed p d).av= .agg [i64 p.dead,.sl (p.acts.map au.av),.sl (p.links.map Link.av),.sl ((p.aU.map aP.av).set k (bP r.av 0 (.sl ((jw r.steps d.at' d.n).map Step.av)))),.sl (p.aL.map i64)]:=by
 unfold delayed
 rw [if_neg (by omega),if_pos h, ← VA _ _ hr,ha];rfl
theorem Bt {q:Proj} {a:AV} (h:q.av=a):qw (q,true)= .tup [.d a,.d (.bool true)]:=by subst h;rfl
theorem FV:qw (EW,false)= .tup [.d EW.av,.d (.bool false)]:=rfl
attribute [local irreducible] iN aY jw
theorem Bu (p:Proj) (d:Dly) (hp:p.fine) (h1:d.kind≠2):Con 33 [.d p.av,.d d.av] (qw (bg p d)):=by
 refine con Tryz.func33 rfl rfl Tryz.call33 rfl fun hwf=>?_
 have hD:=Ai p d hp
 cases hd:iN p d with
 |false=>
  rw [hd] at hD
  rw [nO hd]
  (repeat' ((conv=>whnf);first|refine gA ?_|(refine gB ?_ ?_<;>intro h)|(refine gI ?_;intro x hx)|(refine gJ ?_;intro j x hj hx)|refine gV ?_|refine gC (hD) ?_|intro _))<;>try (conv=>whnf)
  exact fv
 |true=>
 rw [hd] at hD
 rw [rR hd]
 obtain⟨hok,ht,hk⟩:=nN hd
 have hP:=jJ (delayed p d) (kH hp)
 rcases hk with⟨k1,_⟩|⟨k2,_⟩|⟨k3,hr,hn⟩
 ·rw [Ak k1] at hP ⊢
  have hC:=kM p
  rw [hok] at hP
  rw [if_pos hok]
  (repeat' ((conv=>whnf);first|with_reducible refine Br.no (decide_eq_false h1) ?_|with_reducible refine Br.no (decide_eq_false (show ¬ d.kind=3 by omega)) ?_|refine gA ?_|(refine gB ?_ ?_<;>intro h)|(refine gI ?_;intro x hx)|(refine gJ ?_;intro j x hj hx)|refine gV ?_|refine gC (hD) ?_|refine gC (hC) ?_|refine gC (hP) ?_|intro _))<;>try (conv=>whnf)
  exact fv
 ·exact absurd k2 h1
 ·obtain⟨k,r,ha,hr⟩:=qm hr
  have hro:=(fE hok).res k r hr
  have hso:je r.steps=true:=by simp only [lS,Bool.and_eq_true] at hro;simp [hro]
  have hE:=CX k3 ha hr
  have hR:=KH r.steps d.at' d.n (Cz hso) (within_iff.1 hn) (rQ hso).2.2
  have hC:=kM p
  rw [hE] at hP
  generalize jw r.steps d.at' d.n=L at hR hE hP
  cases hq:aY (delayed p d) with
  |true=>
   rw [hq] at hP
   rw [if_pos rfl,Bt hE]
   (repeat' ((conv=>whnf);first|with_reducible refine Br.no (decide_eq_false h1) ?_|with_reducible refine Br.yes (decide_eq_true k3) ?_|with_reducible refine Idx.got hr rfl ?_|with_reducible refine Idx.got hr ha ?_|refine gA ?_|(refine gB ?_ ?_<;>intro h)|(refine gI ?_;intro x hx)|(refine gJ ?_;intro j x hj hx)|refine gV ?_|refine gC (hD) ?_|refine gC (hC) ?_|refine gC (hR) ?_|refine gC (hP) ?_|intro _))<;>try (conv=>whnf)
   exact fv
  |false=>
   rw [hq] at hP
   rw [if_neg (by simp),FV]
   (repeat' ((conv=>whnf);first|with_reducible refine Br.no (decide_eq_false h1) ?_|with_reducible refine Br.yes (decide_eq_true k3) ?_|with_reducible refine Idx.got hr rfl ?_|with_reducible refine Idx.got hr ha ?_|refine gA ?_|(refine gB ?_ ?_<;>intro h)|(refine gI ?_;intro x hx)|(refine gJ ?_;intro j x hj hx)|refine gV ?_|refine gC (hD) ?_|refine gC (hC) ?_|refine gC (hR) ?_|refine gC (hP) ?_|intro _))<;>try (conv=>whnf)
   exact fv
theorem Bv (p:Proj) (d:Dly) (hp:p.fine) (h1:d.kind≠2):Con 20 [.d p.av,.d d.av] (qw (bg p d)):=by
 refine con Tryz.func20 rfl rfl Tryz.call20 rfl fun hwf=>?_
 have hD:=Aj p d hp
 cases hd:iN p d with
 |false=>
  rw [hd] at hD
  rw [nO hd]
  (repeat' ((conv=>whnf);first|refine gA ?_|(refine gB ?_ ?_<;>intro h)|(refine gI ?_;intro x hx)|(refine gJ ?_;intro j x hj hx)|refine gV ?_|refine gC (hD) ?_|intro _))<;>try (conv=>whnf)
  exact fv
 |true=>
 rw [hd] at hD
 rw [rR hd]
 obtain⟨hok,ht,hk⟩:=nN hd
 have hP:=mg (delayed p d) (kH hp)
 rcases hk with⟨k1,_⟩|⟨k2,_⟩|⟨k3,hr,hn⟩
 ·rw [Ak k1] at hP ⊢
  have hC:=nk p
  rw [hok] at hP
  rw [if_pos hok]
  (repeat' ((conv=>whnf);first|with_reducible refine Br.no (decide_eq_false h1) ?_|with_reducible refine Br.no (decide_eq_false (show ¬ d.kind=3 by omega)) ?_|refine gA ?_|(refine gB ?_ ?_<;>intro h)|(refine gI ?_;intro x hx)|(refine gJ ?_;intro j x hj hx)|refine gV ?_|refine gC (hD) ?_|refine gC (hC) ?_|refine gC (hP) ?_|intro _))<;>try (conv=>whnf)
  exact fv
 ·exact absurd k2 h1
 ·obtain⟨k,r,ha,hr⟩:=qm hr
  have hro:=(fE hok).res k r hr
  have hso:je r.steps=true:=by simp only [lS,Bool.and_eq_true] at hro;simp [hro]
  have hE:=CX k3 ha hr
  have hR:=KJ r.steps d.at' d.n (Cz hso) (within_iff.1 hn) (rQ hso).2.2
  rw [KF hso (within_iff.1 ht)] at hR
  have hC:=nk p
  rw [hE] at hP
  generalize jw r.steps d.at' d.n=L at hR hE hP
  cases hq:aY (delayed p d) with
  |true=>
   rw [hq] at hP
   rw [if_pos rfl,Bt hE]
   (repeat' ((conv=>whnf);first|with_reducible refine Br.no (decide_eq_false h1) ?_|with_reducible refine Br.yes (decide_eq_true k3) ?_|with_reducible refine Idx.got hr rfl ?_|with_reducible refine Idx.got hr ha ?_|refine gA ?_|(refine gB ?_ ?_<;>intro h)|(refine gI ?_;intro x hx)|(refine gJ ?_;intro j x hj hx)|refine gV ?_|refine gC (hD) ?_|refine gC (hC) ?_|refine gC (hR) ?_|refine gC (hP) ?_|intro _))<;>try (conv=>whnf)
   exact fv
  |false=>
   rw [hq] at hP
   rw [if_neg (by simp),FV]
   (repeat' ((conv=>whnf);first|with_reducible refine Br.no (decide_eq_false h1) ?_|with_reducible refine Br.yes (decide_eq_true k3) ?_|with_reducible refine Idx.got hr rfl ?_|with_reducible refine Idx.got hr ha ?_|refine gA ?_|(refine gB ?_ ?_<;>intro h)|(refine gI ?_;intro x hx)|(refine gJ ?_;intro j x hj hx)|refine gV ?_|refine gC (hD) ?_|refine gC (hC) ?_|refine gC (hR) ?_|refine gC (hP) ?_|intro _))<;>try (conv=>whnf)
   exact fv
end Go.Proofs.YtpfgedlimdeffaaGreat.Abs
