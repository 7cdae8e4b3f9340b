/- Contracts: usage and work in domains. No statement of a claim. -/
import Derived.Test.YtfhojdalheinaaaGreatC7b
set_option linter.all false
set_option linter.unusedVariables false
set_option linter.unusedSimpArgs false
set_option maxRecDepth 20000
set_option maxHeartbeats 4000000
namespace Go.Proofs.YtfhojdalheinaaaGreat.Abs
open Go.Proofs
structure ProjForm (p:Proj):Prop where
 dead:1≤p.dead∧p.dead≤60
 nact:1≤p.acts.length∧p.acts.length≤6
 act:∀(k:Nat) (a:Activ),p.acts[k]? =some a→activOk a p.ress.length p.stocks.length=true
 res:∀(k:Nat) (x:Resrc),p.ress[k]? =some x→resOk x=true
 stock:∀(k:Nat) (x:Int),p.stocks[k]? =some x→0≤x∧x≤100
 link:∀(k:Nat) (x:Link),p.links[k]? =some x→linkOk p x=true
theorem projForm {p:Proj} (h:projOk p=true):ProjForm p:=by
 simp only [projOk,headOk,Bool.and_eq_true,allN_iff,List.all_eq_true,within_iff,Bool.not_eq_true',decide_eq_false_iff_not] at h
 obtain⟨⟨⟨⟨h1,h2⟩,h3⟩,h4⟩,h5⟩:=h
 refine⟨h1.1.1.1.1,by omega,fun k a ha=>?_,fun k x hx=>h3 x (List.mem_of_getElem? hx),fun k x hx=>h4 x (List.mem_of_getElem? hx),fun k x hx=>h5 x (List.mem_of_getElem? hx)⟩
 have hk:=(List.getElem?_eq_some_iff.1 ha).1
 have:=h2 k hk
 simp only [actAt,ha,Bool.and_eq_true] at this
 exact this.1
theorem domForm_parts {p:Proj} {b:Dom} (h:domForm p b=true):projOk p=true∧b.lo.length=p.acts.length∧b.hi.length=p.acts.length∧b.modes.length=p.acts.length∧∀k,k < p.acts.length→domAt p b k=true:=by
 simp only [domForm,Bool.and_eq_true,allN_iff,Bool.not_eq_true',decide_eq_false_iff_not] at h
 obtain⟨⟨⟨⟨h1,h2⟩,h3⟩,h4⟩,h5⟩:=h
 exact⟨h1,by omega,by omega,by omega,h5⟩
structure DomGet (p:Proj) (b:Dom) (k:Nat) (a:Activ) (x y:Int) (m:List Int):Prop where
 act:p.acts[k]? =some a
 lo:b.lo[k]? =some x
 hi:b.hi[k]? =some y
 modes:b.modes[k]? =some m
 lob: -2≤x∧x≤62
 hib: -2≤y∧y≤62
 mok:setOk m=true
 msub:∀n∈m,∃j:Nat,n=j∧j < a.modes.length
 aok:activOk a p.ress.length p.stocks.length=true
theorem intRange_mem {c:Nat} {n:Int} (h:n∈intRange c):∃j:Nat,n=j∧j < c:=by
 unfold intRange at h
 split at h
 ·simp only [List.mem_map,List.mem_range] at h
  obtain⟨j,hj,rfl⟩:=h
  exact⟨j,rfl,by omega⟩
 ·simp at h
theorem dom_get {p:Proj} {b:Dom} (h:domForm p b=true) {k:Nat} (hk:k < p.acts.length):∃a x y m,DomGet p b k a x y m:=by
 obtain⟨h1,h2,h3,h4,h5⟩:=domForm_parts h
 have e1:p.acts[k]? =some (p.acts[k]'hk):=by simp
 have e2:b.lo[k]? =some (b.lo[k]'(by omega)):=by simp
 have e3:b.hi[k]? =some (b.hi[k]'(by omega)):=by simp
 have e4:b.modes[k]? =some (b.modes[k]'(by omega)):=by simp
 have hd:=h5 k hk
 simp only [domAt,e1,e2,e3,e4,Bool.and_eq_true,isStart,within_iff,subset,List.all_eq_true] at hd
 exact⟨_,_,_,_,e1,e2,e3,e4,hd.1.1.1,hd.1.1.2,hd.1.2,fun n hn=>intRange_mem (by simpa using hd.2 n hn),(projForm h1).act k _ e1⟩
theorem foldl_min_bound {c:Int}:∀(l:List Int) (n:Int),(0≤n∧n≤c)→(∀x∈l,0≤x∧x≤c)→0≤l.foldl min n∧l.foldl min n≤c
 | [],n,h,_=>h
 | x::r,n,h,h'=>foldl_min_bound r (min n x) (by have:=h' x (by simp);omega) (fun y hy=>h' y (by simp [hy]))
theorem least_bound {c:Int} {l:List Int} (hc:0≤c) (h:∀x∈l,0≤x∧x≤c):0≤least l∧least l≤c:=by
 cases l with
 | nil=>exact⟨Int.le_refl _,hc⟩
 | cons x r=>exact foldl_min_bound r x (h x (by simp)) (fun y hy=>h y (by simp [hy]))
theorem activ_mode {a:Activ} {r s:Int} (h:activOk a r s=true) {m:Mode} (hm:m∈a.modes):(1≤m.dur∧m.dur≤12)∧(∀x∈m.use,0≤x∧x≤20)∧(m.use.length:Int)=r∧(∀x∈m.con,0≤x∧x≤20)∧(m.con.length:Int)=s:=by
 simp only [activOk,Bool.and_eq_true,List.all_eq_true,modeOk,amountsOk,isAmount,within_iff,decide_eq_true_eq] at h
 have:=h.1 m hm
 exact⟨this.1.1,this.1.2.1,this.1.2.2,this.2.1,this.2.2⟩
theorem minDur_bound {a:Activ} {r s:Int} (h:activOk a r s=true) (ms:List Int):0≤minDur a ms∧minDur a ms≤12:=by
 refine least_bound (by omega) fun x hx=>?_
 obtain⟨m,hm,rfl⟩:=List.mem_map.1 hx
 have:=(activ_mode h (chosen_sub hm)).1
 omega
theorem elementAt_bound {c:Int} {l:List Int} (hc:0≤c) (h:∀x∈l,0≤x∧x≤c) (i:Int):0≤(elementAt l i).getD 0∧(elementAt l i).getD 0≤c:=by
 by_cases hw:within i 0 (l.length - 1)=true
 ·obtain⟨n,x,_,hx,e⟩:=elementAt_get hw
  rw [e];exact h x (List.mem_of_getElem? hx)
 ·rw [elementAt,if_neg hw];exact⟨Int.le_refl _,hc⟩
theorem leastOf_bound {c:Int} {l:List Mode} {f:Mode→Option Int} (hc:0≤c) (h:∀m∈l,0≤(f m).getD 0∧(f m).getD 0≤c):0≤leastOf l f∧leastOf l f≤c:=by
 unfold leastOf
 split
 ·refine least_bound hc fun x hx=>?_
  obtain⟨m,hm,rfl⟩:=List.mem_map.1 hx
  exact h m hm
 ·exact⟨Int.le_refl _,hc⟩
theorem minUse_bound {a:Activ} {r s:Int} (h:activOk a r s=true) (ms:List Int) (i:Int):0≤minUse a ms i∧minUse a ms i≤20:=
 leastOf_bound (by omega) fun m hm=>elementAt_bound (by omega) (activ_mode h (chosen_sub hm)).2.1 i
theorem minCon_bound {a:Activ} {r s:Int} (h:activOk a r s=true) (ms:List Int) (i:Int):0≤minCon a ms i∧minCon a ms i≤20:=
 leastOf_bound (by omega) fun m hm=>elementAt_bound (by omega) (activ_mode h (chosen_sub hm)).2.2.2.1 i
theorem sumTo_bound {f:Nat→Int} {c:Int}:∀{n:Nat},(∀k,k < n→0≤f k∧f k≤c)→0≤sumTo f n∧sumTo f n≤c*n
 | 0,_=>by simp [sumTo]
 | n+1,h=>by
  have h1:=sumTo_bound (n:=n) fun k hk=>h k (by omega)
  have h2:=h n (by omega)
  rw [sumTo,Int.natCast_succ,Int.mul_add]
  omega
theorem durOf_eq {p:Proj} {b:Dom} {k:Nat} {a:Activ} {x y:Int} {m:List Int} (h:DomGet p b k a x y m):durOf p b k=minDur a m:=by
 simp [durOf,actOf,List.getD_eq_getElem?_getD,h.act,h.modes]
theorem impl_duration (p:Proj) (b:Dom) (n:Int) {k:Nat} {a:Activ} {x y:Int} {m:List Int} (h:DomGet p b k a x y m) (hn:n=k):Con 333 [.d p.av,.d b.av,.d (i64 n)] (.d (i64 (durOf p b k))):=by
 refine con Tryz.func333 rfl rfl Tryz.call333 rfl fun hwf=>?_
 rw [durOf_eq h]
 (repeat' ((conv=>whnf);first | with_reducible refine Idx.got h.act hn ?_ | with_reducible refine Idx.got h.modes hn ?_ | refine gA ?_ | (refine gB ?_ ?_ <;> intro h) | (refine gI ?_;intro x hx) | (refine gJ ?_;intro j x hj hx) | refine gC (impl_MinDuration a m) ?_ | intro _)) <;> try (conv=>whnf)
 exact⟨rfl,rfl,trivial⟩
theorem spec_l14Short (p:Proj) (b:Dom) (n:Int) {k:Nat} {a:Activ} {x y:Int} {m:List Int} (h:DomGet p b k a x y m) (hn:n=k):Con 320 [.d p.av,.d b.av,.d (i64 n)] (.d (i64 (durOf p b k))):=by
 refine con Tryz.func320 rfl rfl Tryz.call320 rfl fun hwf=>?_
 rw [durOf_eq h]
 (repeat' ((conv=>whnf);first | with_reducible refine Idx.got h.act hn ?_ | with_reducible refine Idx.got h.modes hn ?_ | refine gA ?_ | (refine gB ?_ ?_ <;> intro h) | (refine gI ?_;intro x hx) | (refine gJ ?_;intro j x hj hx) | refine gC (spec_MinDuration a m) ?_ | intro _)) <;> try (conv=>whnf)
 exact⟨rfl,rfl,trivial⟩
def RTwo (x y:Int):RV:=.tup [.d (i64 x),.d (i64 y)]
theorem impl_compulsory (p:Proj) (b:Dom) (n:Int) {k:Nat} {a:Activ} {x y:Int} {m:List Int} (h:DomGet p b k a x y m) (hn:n=k):Con 373 [.d p.av,.d b.av,.d (i64 n)] (RTwo y (x+durOf p b k)):=by
 refine con Tryz.func373 rfl rfl Tryz.call373 rfl fun hwf=>?_
 have hd:=minDur_bound h.aok m
 rw [← durOf_eq h] at hd
 have:=h.lob
 (repeat' ((conv=>whnf);first | with_reducible refine Idx.got h.lo hn ?_ | with_reducible refine Idx.got h.hi hn ?_ | refine gA ?_ | (refine gB ?_ ?_ <;> intro h) | (refine gI ?_;intro x hx) | (refine gJ ?_;intro j x hj hx) | refine gV ?_ | refine gC (impl_duration p b n h hn) ?_ | intro _)) <;> try (conv=>whnf)
 (repeat' ((conv=>whnf) <;> (first | exact trivial | exact VC.nod (by kernel_rfl) | refine VC.mk rfl ?_)))
theorem useAt_bound {p:Proj} {b:Dom} (hf:domForm p b=true) (r t:Int) {k:Nat} (hk:k < p.acts.length):0≤useAt p b r t k∧useAt p b r t k≤20:=by
 obtain⟨a,x,y,m,h⟩:=dom_get hf hk
 unfold useAt
 split
 ·simp only [actOf,List.getD_eq_getElem?_getD,h.act,h.modes,Option.getD_some];exact minUse_bound h.aok _ _
 ·omega
theorem compUse_bound {p:Proj} {b:Dom} (hf:domForm p b=true) (r t:Int) {k:Nat} (hk:k≤p.acts.length):0≤sumTo (useAt p b r t) k∧sumTo (useAt p b r t) k≤20*k:=
 sumTo_bound fun i hi=>useAt_bound hf r t (by omega)
theorem impl_compulsoryUsage (p:Proj) (b:Dom) (r t:Int) (hf:domForm p b=true):Con 334 [.d p.av,.d b.av,.d (i64 r),.d (i64 t)] (.d (i64 (compUse p b r t))):=by
 refine con Tryz.func334 rfl rfl Tryz.call334 rfl fun hwf=>?_
 simp only [ARs.wf,AR.wf,AV.wf,AV.wfs,List.length_map,lim] at hwf
 (repeat' ((conv=>whnf);first | refine gA ?_ | (refine gB ?_ ?_ <;> intro h) | (refine gI ?_;intro x hx) | (refine gJ ?_;intro j x hj hx) | refine gV ?_ | intro _)) <;> try (conv=>whnf)
 refine loopF [2,3,4,5,15,16] [4,5] [] ?_
 (conv=>whnf)
 refine LoopC.go ((Nat)×(Int)) (fun⟨k,s⟩=>(k≤p.acts.length)∧(s=sumTo (useAt p b r t) k)) (fun⟨k,s⟩=>[(17,.data (i64 k)),(9,.data (i64 s))]) (fun _=>[]) (fun _=>[]) (fun⟨k,s⟩=>p.acts.length - k) ⟨0,0⟩ ?_ ?_
 ·exact⟨by omega,rfl⟩
 rintro⟨k,s⟩ ⟨hk,hs⟩
 by_cases hlt:k < p.acts.length
 ·obtain⟨a,x,y,m,hg⟩:=dom_get hf hlt
  have hu:=minUse_bound hg.aok m r
  have hb:=compUse_bound hf r t hk
  have ha:=hg.act
  have hm:=hg.modes
  have e:useAt p b r t k=if y≤t∧t < x+durOf p b k then minUse a m r else 0:=by
   simp [useAt,actOf,List.getD_eq_getElem?_getD,hg.act,hg.lo,hg.hi,hg.modes]
  (repeat' ((conv=>whnf);first | with_reducible refine Idx.got ha rfl ?_ | with_reducible refine Idx.got hm rfl ?_ | refine gA ?_ | (refine gB ?_ ?_ <;> intro h) | (refine gI ?_;intro x hx) | (refine gJ ?_;intro j x hj hx) | refine gV ?_ | refine gC (impl_compulsory p b _ hg rfl) ?_ | refine gC (impl_MinUsage a m r) ?_ | intro _)) <;> try (conv=>whnf)
  all_goals first
   | (exfalso;omega)
   | (refine nx ⟨k+1,s+minUse a m r⟩ ?_
      refine⟨by omega,?_⟩
      rw [sumTo,e,if_pos (by omega),hs];done)
   | (refine nx ⟨k+1,s⟩ ?_
      refine⟨by omega,?_⟩
      rw [sumTo,e,if_neg (by omega),hs];simp;done)
 ·(repeat' ((conv=>whnf);first | (exfalso;omega) | refine gA ?_ | (refine gB ?_ ?_ <;> intro h) | (refine gI ?_;intro x hx) | (refine gJ ?_;intro j x hj hx) | refine gV ?_ | intro _)) <;> try (conv=>whnf)
  refine⟨?_,rfl,trivial⟩
  rw [hs,show k=p.acts.length by omega];rfl
end Go.Proofs.YtfhojdalheinaaaGreat.Abs
