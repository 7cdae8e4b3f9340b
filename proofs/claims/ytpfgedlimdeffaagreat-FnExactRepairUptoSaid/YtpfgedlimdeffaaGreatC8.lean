/- Contracts: usage and work in domains. -/
import Derived.Test.YtpfgedlimdeffaaGreatCx
set_option linter.all false
set_option maxRecDepth 20000
set_option maxHeartbeats 0
namespace Go.Proofs.YtpfgedlimdeffaaGreat.Abs
open Go.Proofs
structure Tw (p:Proj):Prop where
 dead:1≤p.dead∧p.dead≤60
 Tx:1≤p.acts.length∧p.acts.length≤6
 act:∀(k:Nat) (a:au),p.acts[k]? =some a→dH a p.aU.length p.aL.length=true
 res:∀(k:Nat) (x:aP),p.aU[k]? =some x→lS x=true
 MZ:∀(k:Nat) (x:Int),p.aL[k]? =some x→0≤x∧x≤100
 link:∀(k:Nat) (x:Link),p.links[k]? =some x→lU p x=true
theorem fE {p:Proj} (h:aY p=true):Tw p:=by
 simp only [aY,rJ,Bool.and_eq_true,eY,List.all_eq_true,within_iff,Bool.not_eq_true',decide_eq_false_iff_not] at h
 obtain⟨⟨⟨⟨h1,h2⟩,h3⟩,h4⟩,h5⟩:=h
 refine⟨h1.1.1.1.1,by omega,fun k a ha=>?_,fun k x hx=>h3 x (List.mem_of_getElem? hx),fun k x hx=>h4 x (List.mem_of_getElem? hx),fun k x hx=>h5 x (List.mem_of_getElem? hx)⟩
 have hk:=(List.getElem?_eq_some_iff.1 ha).1
 have:=h2 k hk
 simp only [uK,ha,Bool.and_eq_true] at this
 exact this.1
structure ZH (p:Proj) (b:Dom) (k:Nat) (a:au) (x y:Int) (m:List Int):Prop where
 act:p.acts[k]? =some a
 lo:b.lo[k]? =some x
 hi:b.hi[k]? =some y
 modes:b.modes[k]? =some m
 lob: -2≤x∧x≤62
 hib: -2≤y∧y≤62
 mok:qU m=true
 aak:∀n∈m,∃j:Nat,n=j∧j < a.modes.length
 aok:dH a p.aU.length p.aL.length=true
theorem Kq {c:Nat} {n:Int} (h:n∈dX c):∃j:Nat,n=j∧j < c:=by
 unfold dX at h
 split at h
 ·simp only [List.mem_map,List.mem_range] at h
  obtain⟨j,hj,rfl⟩:=h
  exact⟨j,rfl,by omega⟩
 ·simp at h
theorem qp {a:au} {r s:Int} (h:dH a r s=true) {m:Mode} (hm:m∈a.modes):(1≤m.dur∧m.dur≤12)∧(∀x∈m.use,0≤x∧x≤20)∧(m.use.length:Int)=r∧(∀x∈m.con,0≤x∧x≤20)∧(m.con.length:Int)=s:=by
 simp only [dH,Bool.and_eq_true,List.all_eq_true,qj,bX,dY,within_iff,decide_eq_true_eq] at h
 have:=h.1 m hm
 exact⟨this.1.1,this.1.2.1,this.1.2.2,this.2.1,this.2.2⟩
theorem qX {f:Nat→Int} {c:Int}:∀{n:Nat},(∀k,k < n→0≤f k∧f k≤c)→0≤sumTo f n∧sumTo f n≤c*n
 |0,_=>by simp [sumTo]
 |n+1,h=>by
  have h1:=qX (n:=n) fun k hk=>h k (by omega)
  have h2:=h n (by omega)
  rw [sumTo,Int.natCast_succ,Int.mul_add]
  omega
end Go.Proofs.YtpfgedlimdeffaaGreat.Abs
