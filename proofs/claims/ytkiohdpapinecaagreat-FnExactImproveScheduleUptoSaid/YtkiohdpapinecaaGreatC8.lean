/- Contracts: usage and work in domains. No statement of a claim. -/
import Derived.Test.YtkiohdpapinecaaGreatC7b
set_option linter.all false
set_option linter.unusedVariables false
set_option linter.unusedSimpArgs false
set_option maxRecDepth 20000
set_option maxHeartbeats 4000000
namespace Go.Proofs.YtkiohdpapinecaaGreat.Abs
open Go.Proofs
structure ProjForm (p:Proj):Prop where
 dead:1≤p.dead∧p.dead≤60
 nact:1≤p.acts.length∧p.acts.length≤6
 act:∀(k:Nat) (a:Activ),p.acts[k]? =some a→activOk a p.ress.length p.stocks.length=true
 res:∀(k:Nat) (x:Resrc),p.ress[k]? =some x→resOk x=true
 stock:∀(k:Nat) (x:Int),p.stocks[k]? =some x→0≤x∧x≤100
 link:∀(k:Nat) (x:Link),p.links[k]? =some x→linkOk p x=true
theorem projForm {p:Proj} (h:projOk p=true):ProjForm p:=by
 simp only [projOk,headOk,Bool.and_eq_true,allN_iff,List.all_eq_true,within_iff,Bool.not_eq_true',decide_eq_false_iff_not] at h
 obtain⟨⟨⟨⟨h1,h2⟩,h3⟩,h4⟩,h5⟩:=h
 refine⟨h1.1.1.1.1,by omega,fun k a ha=>?_,fun k x hx=>h3 x (List.mem_of_getElem? hx),fun k x hx=>h4 x (List.mem_of_getElem? hx),fun k x hx=>h5 x (List.mem_of_getElem? hx)⟩
 have hk:=(List.getElem?_eq_some_iff.1 ha).1
 have:=h2 k hk
 simp only [actAt,ha,Bool.and_eq_true] at this
 exact this.1
structure DomGet (p:Proj) (b:Dom) (k:Nat) (a:Activ) (x y:Int) (m:List Int):Prop where
 act:p.acts[k]? =some a
 lo:b.lo[k]? =some x
 hi:b.hi[k]? =some y
 modes:b.modes[k]? =some m
 lob: -2≤x∧x≤62
 hib: -2≤y∧y≤62
 mok:setOk m=true
 msub:∀n∈m,∃j:Nat,n=j∧j < a.modes.length
 aok:activOk a p.ress.length p.stocks.length=true
theorem intRange_mem {c:Nat} {n:Int} (h:n∈intRange c):∃j:Nat,n=j∧j < c:=by
 unfold intRange at h
 split at h
 ·simp only [List.mem_map,List.mem_range] at h
  obtain⟨j,hj,rfl⟩:=h
  exact⟨j,rfl,by omega⟩
 ·simp at h
theorem foldl_min_bound {c:Int}:∀(l:List Int) (n:Int),(0≤n∧n≤c)→(∀x∈l,0≤x∧x≤c)→0≤l.foldl min n∧l.foldl min n≤c
 | [],n,h,_=>h
 | x::r,n,h,h'=>foldl_min_bound r (min n x) (by have:=h' x (by simp);omega) (fun y hy=>h' y (by simp [hy]))
theorem least_bound {c:Int} {l:List Int} (hc:0≤c) (h:∀x∈l,0≤x∧x≤c):0≤least l∧least l≤c:=by
 cases l with
 | nil=>exact⟨Int.le_refl _,hc⟩
 | cons x r=>exact foldl_min_bound r x (h x (by simp)) (fun y hy=>h y (by simp [hy]))
theorem activ_mode {a:Activ} {r s:Int} (h:activOk a r s=true) {m:Mode} (hm:m∈a.modes):(1≤m.dur∧m.dur≤12)∧(∀x∈m.use,0≤x∧x≤20)∧(m.use.length:Int)=r∧(∀x∈m.con,0≤x∧x≤20)∧(m.con.length:Int)=s:=by
 simp only [activOk,Bool.and_eq_true,List.all_eq_true,modeOk,amountsOk,isAmount,within_iff,decide_eq_true_eq] at h
 have:=h.1 m hm
 exact⟨this.1.1,this.1.2.1,this.1.2.2,this.2.1,this.2.2⟩
theorem minDur_bound {a:Activ} {r s:Int} (h:activOk a r s=true) (ms:List Int):0≤minDur a ms∧minDur a ms≤12:=by
 refine least_bound (by omega) fun x hx=>?_
 obtain⟨m,hm,rfl⟩:=List.mem_map.1 hx
 have:=(activ_mode h (chosen_sub hm)).1
 omega
theorem sumTo_bound {f:Nat→Int} {c:Int}:∀{n:Nat},(∀k,k < n→0≤f k∧f k≤c)→0≤sumTo f n∧sumTo f n≤c*n
 | 0,_=>by simp [sumTo]
 | n+1,h=>by
  have h1:=sumTo_bound (n:=n) fun k hk=>h k (by omega)
  have h2:=h n (by omega)
  rw [sumTo,Int.natCast_succ,Int.mul_add]
  omega
def RTwo (x y:Int):RV:=.tup [.d (i64 x),.d (i64 y)]
end Go.Proofs.YtkiohdpapinecaaGreat.Abs
