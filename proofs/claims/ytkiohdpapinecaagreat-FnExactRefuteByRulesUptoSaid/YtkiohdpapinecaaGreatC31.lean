/- Contracts: what follows from a rule; the first inference; fixpoints. No statement of a claim. -/
import Derived.Test.YtkiohdpapinecaaGreatC30
set_option linter.all false
set_option linter.unusedVariables false
set_option linter.unusedSimpArgs false
set_option maxRecDepth 20000
set_option maxHeartbeats 4000000
namespace Go.Proofs.YtkiohdpapinecaaGreat.Abs
open Go.Proofs
theorem users_mem {p:Proj} {r:Int} {a:Int} (h:a∈users p r):∃k:Nat,a=k∧k < p.acts.length:=by
 unfold users at h
 split at h
 ·have h1:=(List.mem_filter.1 h).1
  simp only [upTo,List.mem_map,List.mem_range] at h1
  obtain⟨k,hk,rfl⟩:=h1
  exact⟨k,rfl,hk⟩
 ·simp at h
theorem hasAct_lt {p:Proj} {a:Int} (h:hasAct p a=true):∃k:Nat,a=k∧k < p.acts.length:=by
 obtain⟨n,x,h1,h2⟩:=hasAct_get h
 exact⟨n,h1,(List.getElem?_eq_some_iff.1 h2).1⟩
theorem ruleActs_mem {p:Proj} {r:Rul} {a:Int} (h:a∈ruleActs p r):∃k:Nat,a=k∧k < p.acts.length:=by
 unfold ruleActs at h
 split at h
 ·rename_i ho
  have hpo:projOk p=true:=by simp only [ruleOk,Bool.and_eq_true] at ho;exact ho.1
  cases ruleKind ho with
  | link hk k l e1 hl=>
   rw [if_pos hk,setOf_mem] at h
   have e:linkOf p r.a=l:=by simp [linkOf,e1,List.getD_eq_getElem?_getD,hl]
   rw [e] at h
   have hlo:=(projForm hpo).link k l hl
   simp only [linkOk,Bool.and_eq_true] at hlo
   simp only [List.mem_cons,List.not_mem_nil,or_false] at h
   rcases h with rfl | rfl
   ·exact hasAct_lt hlo.1.1.1
   ·exact hasAct_lt hlo.1.1.2
  | fin hk ha=>
   simp [hk] at h
   subst h
   exact hasAct_lt ha
  | time hk ha hb=>simp [hk] at h;exact users_mem h
  | work hk ha hb hc hlt=>simp [hk] at h;exact users_mem h
  | pair hk ha hb hc hlt=>
   simp [hk] at h
   rcases h with rfl | rfl
   ·exact hasAct_lt hb
   ·exact hasAct_lt hc
  | stock hk ha=>simp [hk] at h;exact intRange_mem h
 ·simp at h
def refB (p:Proj) (b:Dom) (r:Rul) (k:Int) (a:Nat) (n:Int):Bool:=refutes p (restrict b ⟨k,a,n⟩) r
def goUp (f:Int→Bool) (hi:Int):Nat→Int→Int
 | 0,n=>n
 | k+1,n=>if n≤hi∧f n=true then goUp f hi k (n+1) else n
def goDn (f:Int→Bool) (lo:Int):Nat→Int→Int
 | 0,n=>n
 | k+1,n=>if n≥lo∧f n=true then goDn f lo k (n - 1) else n
theorem goUp_on {f:Int→Bool} {hi n:Int} (h:n≤hi) (hf:f n=true):goUp f hi (hi+1 - n).toNat n=goUp f hi (hi+1 - (n+1)).toNat (n+1):=by
 obtain⟨m,hm⟩:∃m,(hi+1 - n).toNat=m+1:=⟨(hi - n).toNat,by omega⟩
 rw [hm,goUp,if_pos ⟨h,hf⟩,show (hi+1 - (n+1)).toNat=m by omega]
theorem goUp_off {f:Int→Bool} {hi n:Int} (h:¬(n≤hi∧f n=true)):∀k,goUp f hi k n=n
 | 0=>rfl
 | k+1=>by rw [goUp,if_neg h]
theorem goDn_on {f:Int→Bool} {lo n:Int} (h:n≥lo) (hf:f n=true):goDn f lo (n+1 - lo).toNat n=goDn f lo (n - 1+1 - lo).toNat (n - 1):=by
 obtain⟨m,hm⟩:∃m,(n+1 - lo).toNat=m+1:=⟨(n - lo).toNat,by omega⟩
 rw [hm,goDn,if_pos ⟨h,hf⟩,show (n - 1+1 - lo).toNat=m by omega]
theorem goDn_off {f:Int→Bool} {lo n:Int} (h:¬(n≥lo∧f n=true)):∀k,goDn f lo k n=n
 | 0=>rfl
 | k+1=>by rw [goDn,if_neg h]
def atLeast (k:Nat) (lo n:Int):List Lit:=if n > lo then [⟨1,k,n⟩] else []
def atMost (k:Nat) (up n:Int):List Lit:=if n < up then [⟨2,k,n⟩] else []
theorem atLeast_len (k:Nat) (lo n:Int):(atLeast k lo n).length≤1:=by unfold atLeast;split <;> simp
theorem atMost_len (k:Nat) (up n:Int):(atMost k up n).length≤1:=by unfold atMost;split <;> simp
def inferAt (p:Proj) (b:Dom) (r:Rul) (k:Nat) (lo up:Int) (m:List Int):List Lit:=
 atLeast k lo (goUp (refB p b r 2 k) up (up+1 - lo).toNat lo)++atMost k up (goDn (refB p b r 1 k) lo (up+1 - lo).toNat up)++
  (m.filter fun v=>decide (m.length > 1)&&refB p b r 3 k v).map fun v=>⟨4,k,v⟩
def inferA (p:Proj) (b:Dom) (r:Rul) (k:Nat):List Lit:=
 match b.lo[k]?,b.hi[k]?,b.modes[k]? with
 | some lo,some up,some m=>inferAt p b r k lo up m
 | _,_,_=>[]
theorem inferA_eq {p:Proj} {b:Dom} {r:Rul} {k:Nat} {a:Activ} {x y:Int} {m:List Int} (g:DomGet p b k a x y m):inferA p b r k=inferAt p b r k x y m:=by
 simp only [inferA,g.lo,g.hi,g.modes]
theorem pw_len {l:List Int} (h:l.Pairwise (· < ·)):∀{lo hi:Int},(∀x∈l,lo≤x∧x < hi)→lo≤hi→(l.length:Int)≤hi - lo:=by
 induction l with
 | nil=>intro lo hi _ h;simp;omega
 | cons x r ih=>
  intro lo hi hx _
  rw [List.pairwise_cons] at h
  have h1:=hx x (by simp)
  have:=ih h.2 (lo:=x+1) (hi:=hi) (fun y hy=>⟨by have:=h.1 y hy;omega,(hx y (by simp [hy])).2⟩) (by omega)
  simp only [List.length_cons];push_cast;omega
theorem modes_in {p:Proj} {b:Dom} {k:Nat} {a:Activ} {x y:Int} {m:List Int} (g:DomGet p b k a x y m):m.length≤3:=by
 have h2:=g.aok
 simp only [activOk,Bool.and_eq_true,within_iff] at h2
 have:=pw_len (setOk_pw g.mok) (lo:=0) (hi:=3) (fun x hx=>by
  obtain⟨j,rfl,hj⟩:=g.msub x hx
  omega) (by omega)
 omega
theorem spec_l19No (p:Proj) (b:Dom) (r:Rul) (c:Int) (k:Nat) (n:Int) (hf:domForm p b=true) (hro:ruleOk p r=true) (hp:p.fine):Con 320 [.d p.av,.d b.av,.d r.av,.d (i64 c),.d (i64 k),.d (i64 n)] (.d (.bool (refB p b r c k n))):=by
 refine con Tryz.func320 rfl rfl Tryz.call320 rfl fun hwf=>?_
 have hfr:=restrict_form hf ⟨c,k,n⟩
 (repeat' ((conv=>whnf);first | refine gA ?_ | ((with_reducible first | refine gD (fun h=>?_) (fun h=>?_) | refine gE (fun h=>?_) (fun h=>?_)) <;> (try simp only [lm] at h) <;> try have hw:=wn h) | refine gC (spec_Restrict b ⟨c,k,n⟩ (fun m hm=>domForm_setOk' hf hm)) ?_ | refine gC (spec_DomainEmpty (restrict b ⟨c,k,n⟩)) ?_ | refine gC (spec_l17Refutes p (restrict b ⟨c,k,n⟩) r hfr hro) ?_ | intro _)) <;> (try (conv=>whnf))
 all_goals (refine⟨?_,rfl,trivial⟩;simp [refB,refutes,hfr,hro, *])
theorem impl_inferred (p:Proj) (b:Dom) (r:Rul) (k:Nat) (hp:p.fine) (hf:domForm p b=true) (hk:k < p.acts.length):Con 256 [.d p.av,.d b.av,.d r.av,.d (i64 k)] (.d (lits (inferA p b r k))):=by
 refine con Tryz.func256 rfl rfl Tryz.call256 rfl fun hwf=>?_
 simp only [ARs.wf,AR.wf,AV.wf,AV.wfs,List.length_map,lim] at hwf
 obtain⟨a,lo,up,m,g⟩:=dom_get hf hk
 rw [inferA_eq g,inferAt]
 have hlo:=g.lob
 have hup:=g.hib
 have hm3:=modes_in g
 obtain⟨N,hN⟩:∃N,N=goUp (refB p b r 2 k) up (up+1 - lo).toNat lo:=⟨_,rfl⟩
 obtain⟨M,hM⟩:∃M,M=goDn (refB p b r 1 k) lo (up+1 - lo).toNat up:=⟨_,rfl⟩
 rw [← hN, ← hM]
 (repeat' ((conv=>whnf);first | with_reducible refine Idx.got g.lo rfl ?_ | with_reducible refine Idx.got g.hi rfl ?_ | with_reducible refine Idx.got g.modes rfl ?_ | refine gA ?_ | ((with_reducible first | refine gD (fun h=>?_) (fun h=>?_) | refine gE (fun h=>?_) (fun h=>?_)) <;> (try simp only [lm] at h) <;> try have hw:=wn h) | with_reducible refine gI (fun x hx=>?_) | with_reducible refine gJ (fun j x hj hx=>?_) | refine gP ?_ | refine gV ?_ | intro _)) <;> (try (conv=>whnf))
 refine loopF [3,4,5,6,9] [4,5,6] [] ?_
 (conv=>whnf)
 refine LoopC.go ((Int)) (fun n=>(lo≤n)∧(n≤63)∧(goUp (refB p b r 2 k) up (up+1 - n).toNat n=N)) (fun n=>[(10,.data (i64 n))]) (fun _=>[]) (fun _=>[]) (fun n=>(up+1 - n).toNat) (lo) ?_ ?_
 ·exact⟨Int.le_refl _,by omega,hN.symm⟩
 rintro n ⟨hn,hn2,hi⟩
 (repeat' ((conv=>whnf);first | with_reducible refine Idx.got g.lo rfl ?_ | with_reducible refine Idx.got g.hi rfl ?_ | with_reducible refine Idx.got g.modes rfl ?_ | refine gA ?_ | ((with_reducible first | refine gD (fun h=>?_) (fun h=>?_) | refine gE (fun h=>?_) (fun h=>?_)) <;> (try simp only [lm] at h) <;> try have hw:=wn h) | with_reducible refine gI (fun x hx=>?_) | with_reducible refine gJ (fun j x hj hx=>?_) | refine gP ?_ | refine gV ?_ | refine gC (impl_Restrict b ⟨2,k,n⟩) ?_ | refine gC (impl_Refutes p (restrict b ⟨2,k,n⟩) r hp) ?_ | intro _)) <;> (try (conv=>whnf))
 ·refine nx (n+1) ?_
  exact⟨by omega,by omega,by rw [← goUp_on (by assumption) (by assumption)];exact hi⟩
 all_goals
  have hoff:¬(n≤up∧refB p b r 2 k n=true):=by
   rintro⟨h1,h2⟩
   first | omega | (simp only [refB] at*;simp_all)
  rw [goUp_off hoff] at hi
  subst hi
  clear hN hoff
  refine loopF [3,4,5,6,9] [4,5,6] [] ?_
  (conv=>whnf)
  refine LoopC.go ((Int)) (fun q=>(q≤up)∧(-3≤q)∧(goDn (refB p b r 1 k) lo (q+1 - lo).toNat q=M)) (fun q=>[(10,.data (i64 q))]) (fun _=>[]) (fun _=>[]) (fun q=>(q+1 - lo).toNat) (up) ?_ ?_
  ·exact⟨Int.le_refl _,by omega,hM.symm⟩
  rintro q ⟨hq,hq2,hj⟩
  (repeat' ((conv=>whnf);first | with_reducible refine Idx.got g.lo rfl ?_ | with_reducible refine Idx.got g.hi rfl ?_ | with_reducible refine Idx.got g.modes rfl ?_ | refine gA ?_ | ((with_reducible first | refine gD (fun h=>?_) (fun h=>?_) | refine gE (fun h=>?_) (fun h=>?_)) <;> (try simp only [lm] at h) <;> try have hw:=wn h) | with_reducible refine gI (fun x hx=>?_) | with_reducible refine gJ (fun j x hj hx=>?_) | refine gP ?_ | refine gV ?_ | refine gC (impl_Restrict b ⟨1,k,q⟩) ?_ | refine gC (impl_Refutes p (restrict b ⟨1,k,q⟩) r hp) ?_ | intro _)) <;> (try (conv=>whnf))
  ·refine nx (q - 1) ?_
   exact⟨by omega,by omega,by rw [← goDn_on (by assumption) (by assumption)];exact hj⟩
  all_goals
   have hoff2:¬(q≥lo∧refB p b r 1 k q=true):=by
    rintro⟨h1,h2⟩
    first | omega | (simp only [refB] at*;simp_all)
   rw [goDn_off hoff2] at hj
   subst hj
   clear hM hoff2
   refine loopF [3,4,5,6,92,93] [4,5,6] [13] ?_
   (conv=>whnf)
   refine LoopC.mk ((Nat)×(List Lit)) (fun⟨j,o⟩=>(j≤m.length)∧(o.length≤2+j)∧(o=(atLeast k lo n++atMost k up q)++((m.take j).filter fun v=>decide (m.length > 1)&&refB p b r 3 k v).map (fun v=>⟨4,k,v⟩))) (fun⟨j,o⟩=>[(94,.data (i64 j)),(9,.own 13 0)]) (fun _=>[]) (fun⟨j,o⟩=>[(13,184,o.map Lit.av,0)]) (fun⟨j,o⟩=>m.length - j) ⟨0,atLeast k lo n++atMost k up q⟩ ?_ ?_ ?_
   rotate_left
   ·(repeat' ((conv=>whnf) <;> (first | exact trivial | exact rfl | with_reducible refine And.intro ?_ ?_))) <;> ((conv=>whnf) <;> (simp [atLeast,atMost,Lit.av, *]))
   rotate_left
   ·exact⟨Nat.zero_le _,by have h1:=atLeast_len k lo n;have h2:=atMost_len k up q;simp only [List.length_append];omega,by simp⟩
   rintro⟨j,o⟩ ⟨hj3,ol,ho⟩
   by_cases hlt:j < m.length
   ·obtain⟨v,hv⟩:∃v,m[j]? =some v:=⟨m[j]'hlt,by simp⟩
    (repeat' ((conv=>whnf);first | with_reducible refine Idx.got hv rfl ?_ | with_reducible refine Idx.got g.lo rfl ?_ | with_reducible refine Idx.got g.hi rfl ?_ | with_reducible refine Idx.got g.modes rfl ?_ | refine gA ?_ | ((with_reducible first | refine gD (fun h=>?_) (fun h=>?_) | refine gE (fun h=>?_) (fun h=>?_)) <;> (try simp only [lm] at h) <;> try have hw:=wn h) | with_reducible refine gI (fun x hx=>?_) | with_reducible refine gJ (fun j x hj hx=>?_) | refine gP ?_ | refine gV ?_ | refine gC (impl_Restrict b ⟨3,k,v⟩) ?_ | refine gC (impl_Refutes p (restrict b ⟨3,k,v⟩) r hp) ?_ | intro _)) <;> (try (conv=>whnf))
    ·refine nw ⟨j+1,o++[⟨4,k,v⟩]⟩ ?_ ?_
     ·(repeat' ((conv=>whnf) <;> (first | exact trivial | exact rfl | with_reducible refine And.intro ?_ ?_))) <;> ((conv=>whnf) <;> (simp [Lit.av]))
     have hml:m.length > 1:=by omega
     exact⟨by omega,by simp;omega,(filt_step ho hv).1 (by simp only [refB] at*;simp [*])⟩
    ·refine nx ⟨j+1,o⟩ ?_
     exact⟨by omega,by omega,(filt_step ho hv).2 (by simp only [refB] at*;simp [*])⟩
    ·refine nx ⟨j+1,o⟩ ?_
     have hml:¬ m.length > 1:=by omega
     exact⟨by omega,by omega,(filt_step ho hv).2 (by simp only [refB] at*;simp [*])⟩
    ·exfalso;omega
   ·(repeat' ((conv=>whnf);first | (exfalso;omega) | refine gA ?_ | ((with_reducible first | refine gD (fun h=>?_) (fun h=>?_) | refine gE (fun h=>?_) (fun h=>?_)) <;> (try simp only [lm] at h) <;> try have hw:=wn h) | with_reducible refine gI (fun x hx=>?_) | with_reducible refine gJ (fun j x hj hx=>?_) | refine gP ?_ | refine gV ?_ | intro _)) <;> (try (conv=>whnf))
    all_goals (refine⟨?_,rfl,trivial⟩;rw [ho,List.take_of_length_le (by omega)])
theorem spec_l19Facts (p:Proj) (b:Dom) (r:Rul) (k:Nat) (hp:p.fine) (hf:domForm p b=true) (hro:ruleOk p r=true) (hk:k < p.acts.length):Con 238 [.d p.av,.d b.av,.d r.av,.d (i64 k)] (.d (lits (inferA p b r k))):=by
 refine con Tryz.func238 rfl rfl Tryz.call238 rfl fun hwf=>?_
 simp only [ARs.wf,AR.wf,AV.wf,AV.wfs,List.length_map,lim] at hwf
 obtain⟨a,lo,up,m,g⟩:=dom_get hf hk
 rw [inferA_eq g,inferAt]
 have hlo:=g.lob
 have hup:=g.hib
 have hm3:=modes_in g
 obtain⟨N,hN⟩:∃N,N=goUp (refB p b r 2 k) up (up+1 - lo).toNat lo:=⟨_,rfl⟩
 obtain⟨M,hM⟩:∃M,M=goDn (refB p b r 1 k) lo (up+1 - lo).toNat up:=⟨_,rfl⟩
 rw [← hN, ← hM]
 (repeat' ((conv=>whnf);first | with_reducible refine Idx.got g.lo rfl ?_ | with_reducible refine Idx.got g.hi rfl ?_ | with_reducible refine Idx.got g.modes rfl ?_ | refine gA ?_ | ((with_reducible first | refine gD (fun h=>?_) (fun h=>?_) | refine gE (fun h=>?_) (fun h=>?_)) <;> (try simp only [lm] at h) <;> try have hw:=wn h) | with_reducible refine gI (fun x hx=>?_) | with_reducible refine gJ (fun j x hj hx=>?_) | refine gP ?_ | refine gV ?_ | intro _)) <;> (try (conv=>whnf))
 refine loopF [3,4,5,6,9] [4,5,6] [] ?_
 (conv=>whnf)
 refine LoopC.go ((Int)) (fun n=>(lo≤n)∧(n≤63)∧(goUp (refB p b r 2 k) up (up+1 - n).toNat n=N)) (fun n=>[(10,.data (i64 n))]) (fun _=>[]) (fun _=>[]) (fun n=>(up+1 - n).toNat) (lo) ?_ ?_
 ·exact⟨Int.le_refl _,by omega,hN.symm⟩
 rintro n ⟨hn,hn2,hi⟩
 (repeat' ((conv=>whnf);first | with_reducible refine Idx.got g.lo rfl ?_ | with_reducible refine Idx.got g.hi rfl ?_ | with_reducible refine Idx.got g.modes rfl ?_ | refine gA ?_ | ((with_reducible first | refine gD (fun h=>?_) (fun h=>?_) | refine gE (fun h=>?_) (fun h=>?_)) <;> (try simp only [lm] at h) <;> try have hw:=wn h) | with_reducible refine gI (fun x hx=>?_) | with_reducible refine gJ (fun j x hj hx=>?_) | refine gP ?_ | refine gV ?_ | refine gC (spec_l19No p b r 2 k n hf hro hp) ?_ | intro _)) <;> (try (conv=>whnf))
 ·refine nx (n+1) ?_
  exact⟨by omega,by omega,by rw [← goUp_on (by assumption) (by assumption)];exact hi⟩
 all_goals
  have hoff:¬(n≤up∧refB p b r 2 k n=true):=by
   rintro⟨h1,h2⟩
   first | omega | (simp only [refB] at*;simp_all)
  rw [goUp_off hoff] at hi
  subst hi
  clear hN hoff
  refine loopF [3,4,5,6,9] [4,5,6] [] ?_
  (conv=>whnf)
  refine LoopC.go ((Int)) (fun q=>(q≤up)∧(-3≤q)∧(goDn (refB p b r 1 k) lo (q+1 - lo).toNat q=M)) (fun q=>[(10,.data (i64 q))]) (fun _=>[]) (fun _=>[]) (fun q=>(q+1 - lo).toNat) (up) ?_ ?_
  ·exact⟨Int.le_refl _,by omega,hM.symm⟩
  rintro q ⟨hq,hq2,hj⟩
  (repeat' ((conv=>whnf);first | with_reducible refine Idx.got g.lo rfl ?_ | with_reducible refine Idx.got g.hi rfl ?_ | with_reducible refine Idx.got g.modes rfl ?_ | refine gA ?_ | ((with_reducible first | refine gD (fun h=>?_) (fun h=>?_) | refine gE (fun h=>?_) (fun h=>?_)) <;> (try simp only [lm] at h) <;> try have hw:=wn h) | with_reducible refine gI (fun x hx=>?_) | with_reducible refine gJ (fun j x hj hx=>?_) | refine gP ?_ | refine gV ?_ | refine gC (spec_l19No p b r 1 k q hf hro hp) ?_ | intro _)) <;> (try (conv=>whnf))
  ·refine nx (q - 1) ?_
   exact⟨by omega,by omega,by rw [← goDn_on (by assumption) (by assumption)];exact hj⟩
  all_goals
   have hoff2:¬(q≥lo∧refB p b r 1 k q=true):=by
    rintro⟨h1,h2⟩
    first | omega | (simp only [refB] at*;simp_all)
   rw [goDn_off hoff2] at hj
   subst hj
   clear hM hoff2
   refine loopF [3,4,5,6,88,89] [4,5,6] [13] ?_
   (conv=>whnf)
   refine LoopC.mk ((Nat)×(List Lit)) (fun⟨j,o⟩=>(j≤m.length)∧(o.length≤2+j)∧(o=(atLeast k lo n++atMost k up q)++((m.take j).filter fun v=>decide (m.length > 1)&&refB p b r 3 k v).map (fun v=>⟨4,k,v⟩))) (fun⟨j,o⟩=>[(90,.data (i64 j)),(9,.own 13 0)]) (fun _=>[]) (fun⟨j,o⟩=>[(13,184,o.map Lit.av,0)]) (fun⟨j,o⟩=>m.length - j) ⟨0,atLeast k lo n++atMost k up q⟩ ?_ ?_ ?_
   rotate_left
   ·(repeat' ((conv=>whnf) <;> (first | exact trivial | exact rfl | with_reducible refine And.intro ?_ ?_))) <;> ((conv=>whnf) <;> (simp [atLeast,atMost,Lit.av, *]))
   rotate_left
   ·exact⟨Nat.zero_le _,by have h1:=atLeast_len k lo n;have h2:=atMost_len k up q;simp only [List.length_append];omega,by simp⟩
   rintro⟨j,o⟩ ⟨hj3,ol,ho⟩
   by_cases hlt:j < m.length
   ·obtain⟨v,hv⟩:∃v,m[j]? =some v:=⟨m[j]'hlt,by simp⟩
    (repeat' ((conv=>whnf);first | with_reducible refine Idx.got hv rfl ?_ | with_reducible refine Idx.got g.lo rfl ?_ | with_reducible refine Idx.got g.hi rfl ?_ | with_reducible refine Idx.got g.modes rfl ?_ | refine gA ?_ | ((with_reducible first | refine gD (fun h=>?_) (fun h=>?_) | refine gE (fun h=>?_) (fun h=>?_)) <;> (try simp only [lm] at h) <;> try have hw:=wn h) | with_reducible refine gI (fun x hx=>?_) | with_reducible refine gJ (fun j x hj hx=>?_) | refine gP ?_ | refine gV ?_ | refine gC (spec_l19No p b r 3 k v hf hro hp) ?_ | intro _)) <;> (try (conv=>whnf))
    ·refine nw ⟨j+1,o++[⟨4,k,v⟩]⟩ ?_ ?_
     ·(repeat' ((conv=>whnf) <;> (first | exact trivial | exact rfl | with_reducible refine And.intro ?_ ?_))) <;> ((conv=>whnf) <;> (simp [Lit.av]))
     have hml:m.length > 1:=by omega
     exact⟨by omega,by simp;omega,(filt_step ho hv).1 (by simp only [refB] at*;simp [*])⟩
    ·refine nx ⟨j+1,o⟩ ?_
     exact⟨by omega,by omega,(filt_step ho hv).2 (by simp only [refB] at*;simp [*])⟩
    ·refine nx ⟨j+1,o⟩ ?_
     have hml:¬ m.length > 1:=by omega
     exact⟨by omega,by omega,(filt_step ho hv).2 (by simp only [refB] at*;simp [*])⟩
    ·exfalso;omega
   ·(repeat' ((conv=>whnf);first | (exfalso;omega) | refine gA ?_ | ((with_reducible first | refine gD (fun h=>?_) (fun h=>?_) | refine gE (fun h=>?_) (fun h=>?_)) <;> (try simp only [lm] at h) <;> try have hw:=wn h) | with_reducible refine gI (fun x hx=>?_) | with_reducible refine gJ (fun j x hj hx=>?_) | refine gP ?_ | refine gV ?_ | intro _)) <;> (try (conv=>whnf))
    all_goals (refine⟨?_,rfl,trivial⟩;rw [ho,List.take_of_length_le (by omega)])
end Go.Proofs.YtkiohdpapinecaaGreat.Abs
