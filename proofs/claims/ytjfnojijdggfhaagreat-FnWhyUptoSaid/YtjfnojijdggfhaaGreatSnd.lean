/- Rules that refute a domain are broken by each of its schedules; clauses that follow hold. Plain Lean. -/
import Derived.Test.YtjfnojijdggfhaaGreatPlain
set_option linter.all false
namespace Go.Proofs.YtjfnojijdggfhaaGreat.Abs
def ow (b:Dom) (s:aM) (n:Nat):Prop:=∀k,k < n→b.lo.getD k 0≤s.starts.getD k 0∧s.starts.getD k 0≤b.hi.getD k 0∧s.modes.getD k 0∈b.modes.getD k []
def bM (l:Lit) (s:aM):Bool:=
 within l.act 0 ((s.starts.length:Int) - 1)&&within l.act 0 ((s.modes.length:Int) - 1)&&
  (if l.kind=1 then decide (s.starts.getD l.act.toNat 0≥l.val) else if l.kind=2 then decide (s.starts.getD l.act.toNat 0≤l.val)
   else if l.kind=3 then decide (s.modes.getD l.act.toNat 0=l.val) else decide (l.kind=4)&&decide (s.modes.getD l.act.toNat 0≠l.val))
def fD (l:List Lit) (s:aM):Bool:=l.any fun x=>bM x s
theorem gZ {p:Proj} {k:Nat} (hk:k < p.acts.length):p.acts[k]? =some (aV p k):=by
 unfold aV;rw [List.getD_eq_getElem?_getD,List.getElem?_eq_getElem hk];rfl
theorem FC {p:Proj} (h:aL p=true) {k:Nat} (hk:k < p.acts.length):bC (aV p k) p.bS.length p.bD.length=true:=by
 simp only [aL,Bool.and_eq_true] at h
 have h1:=aX.1 h.1.1.1.2 k hk
 unfold ru at h1
 rw [gZ hk] at h1
 simp only [Bool.and_eq_true] at h1
 exact h1.1
theorem oz {p:Proj} (h:aL p=true) {k:Nat} (hk:k < p.acts.length) {m:Mode} (hm:m∈(aV p k).modes):iN m p.bS.length p.bD.length=true:=by
 have h1:=FC h hk
 simp only [bC,Bool.and_eq_true,List.all_eq_true] at h1
 exact h1.1 m hm
theorem iT {p:Proj} (h:aL p=true) {k:Nat} (hk:k < p.acts.length):1≤(aV p k).modes.length∧(aV p k).modes.length≤3:=by
 have h1:=FC h hk
 simp only [bC,Bool.and_eq_true,within_iff] at h1
 have:=h1.2.2;omega
theorem jC {p:Proj} (h:aL p=true):1≤p.dead∧p.dead≤60∧1≤p.acts.length∧p.acts.length≤6:=by
 simp only [aL,oM,Bool.and_eq_true,within_iff] at h
 have h1:=h.1.1.1.1.1.1.1;omega
theorem FD {p:Proj} (h:aL p=true) {y:Link} (hy:y∈p.links):bg p y.src=true∧bg p y.dst=true:=by
 simp only [aL,Bool.and_eq_true,List.all_eq_true] at h
 have h1:=h.2 y hy
 simp only [jS,Bool.and_eq_true] at h1
 exact h1.1.1
theorem fC {p:Proj} {n:Int} (h:bg p n=true):0≤n∧n.toNat < p.acts.length:=by
 simp only [bg,within_iff] at h;omega
structure kI (p:Proj) (s:aM) (k:Nat):Prop where
 lo:0≤s.starts.getD k 0
 hi:s.starts.getD k 0≤60
 m0:0≤s.modes.getD k 0
 m1:(s.modes.getD k 0).toNat < (aV p k).modes.length
 mem:dZ p s k∈(aV p k).modes
 d1:1≤(dZ p s k).dur
 d2:(dZ p s k).dur≤12
 ok:iN (dZ p s k) p.bS.length p.bD.length=true
theorem jQ {p:Proj} {s:aM} (h:bn p s=true):aL p=true∧s.starts.length=p.acts.length∧s.modes.length=p.acts.length:=by
 simp only [bn,Bool.and_eq_true,Bool.not_eq_true',decide_eq_false_iff_not] at h
 exact⟨h.1.1.1,by omega,by omega⟩
theorem gM {p:Proj} {s:aM} (h:bn p s=true) {k:Nat} (hk:k < p.acts.length):kI p s k:=by
 obtain⟨hp,h1,h2⟩:=jQ h
 simp only [bn,Bool.and_eq_true] at h
 have h3:=aX.1 h.2 k hk
 unfold uS at h3
 rw [gZ hk,List.getElem?_eq_getElem (by omega:k < s.starts.length),List.getElem?_eq_getElem (by omega:k < s.modes.length)] at h3
 simp only [Bool.and_eq_true,dD,within_iff] at h3
 have e1:s.starts.getD k 0=s.starts[k]'(by omega):=by rw [List.getD_eq_getElem?_getD,List.getElem?_eq_getElem (by omega)];rfl
 have e2:s.modes.getD k 0=s.modes[k]'(by omega):=by rw [List.getD_eq_getElem?_getD,List.getElem?_eq_getElem (by omega)];rfl
 have hlt:(s.modes.getD k 0).toNat < (aV p k).modes.length:=by rw [e2];omega
 have hm:dZ p s k∈(aV p k).modes:=by
  unfold dZ;rw [List.getD_eq_getElem?_getD,List.getElem?_eq_getElem hlt];exact List.getElem_mem hlt
 have ho:=oz hp hk hm
 have ho':=ho
 simp only [iN,Bool.and_eq_true,within_iff] at ho'
 exact⟨by rw [e1];omega,by rw [e1];omega,by rw [e2];omega,hlt,hm,ho'.1.1.1,ho'.1.1.2,ho⟩
theorem rP {l:List Int} {n:Int} (h:bf l n=true) (i:Nat):0≤l.getD i 0∧l.getD i 0≤20:=by
 simp only [bf,Bool.and_eq_true,List.all_eq_true] at h
 by_cases hi:i < l.length
 ·have:=h.1 _ (List.getElem_mem hi)
  rw [List.getD_eq_getElem?_getD,List.getElem?_eq_getElem hi]
  simpa [dQ,within_iff] using this
 ·rw [List.getD_eq_getElem?_getD,List.getElem?_eq_none (by omega)];simp
theorem kI.use {p:Proj} {s:aM} {k:Nat} (h:kI p s k) (r:Nat):0≤(dZ p s k).use.getD r 0∧(dZ p s k).use.getD r 0≤20:=by
 have:=h.ok
 simp only [iN,Bool.and_eq_true] at this
 exact rP this.1.2 r
theorem kI.con {p:Proj} {s:aM} {k:Nat} (h:kI p s k) (r:Nat):0≤(dZ p s k).con.getD r 0:=by
 have:=h.ok
 simp only [iN,Bool.and_eq_true] at this
 exact (rP this.2 r).1
theorem vF:∀(l:List Int) (a:Int),l.foldl min a≤a∧∀x∈l,l.foldl min a≤x
 |[],a=>⟨Int.le_refl _,by simp⟩
 |y::l,a=>by
  obtain⟨h1,h2⟩:=vF l (min a y)
  refine⟨by simp only [List.foldl_cons];omega,fun x hx=>?_⟩
  simp only [List.foldl_cons]
  rcases List.mem_cons.1 hx with rfl|hx
  ·omega
  ·exact h2 x hx
theorem yH {l:List Int} {x:Int} (h:x∈l):least l≤x:=by
 cases l with
 |nil=>cases h
 |cons y l=>
  rcases List.mem_cons.1 h with rfl|h
  ·exact (vF l x).1
  ·exact (vF l y).2 x h
theorem qK {ms:List Int} {m:Mode}:∀(l:List Mode) (k j:Nat),l[j]? =some m→((k+j:Nat):Int)∈ms→m∈bQ ms l k
 |[],k,j,h,_=>by simp at h
 |y::l,k,0,h,hm=>by
  simp at h;subst h
  rw [bQ,if_pos (by simpa using hm)]
  exact List.mem_cons_self ..
 |y::l,k,j+1,h,hm=>by
  have:=qK l (k+1) j (by simpa using h) (by rw [show k+1+j=k+(j+1) by omega];exact hm)
  rw [bQ]
  split
  ·exact List.mem_cons_of_mem _ this
  ·exact this
theorem xM {p:Proj} {s:aM} {k:Nat} {ms:List Int} (h:kI p s k) (hm:s.modes.getD k 0∈ms):dZ p s k∈chosen (aV p k) ms:=by
 refine qK _ 0 (s.modes.getD k 0).toNat ?_ (by rw [Nat.zero_add,Int.toNat_of_nonneg h.m0];exact hm)
 unfold dZ
 rw [List.getD_eq_getElem?_getD (l:=(aV p k).modes),List.getElem?_eq_getElem h.m1];rfl
theorem qL {p:Proj} {s:aM} {k:Nat} {ms:List Int} (h:kI p s k) (hm:s.modes.getD k 0∈ms):sw (aV p k) ms≤(dZ p s k).dur:=
 yH (List.mem_map.2 ⟨_,xM h hm,rfl⟩)
theorem JB {l:List Mode} {f:Mode→Option Int} {m:Mode} {v:Int} (hm:m∈l) (hv:(f m).getD 0≤v) (h0:0≤v):leastOf l f≤v:=by
 unfold leastOf
 split
 ·exact Int.le_trans (yH (List.mem_map.2 ⟨m,hm,rfl⟩)) hv
 ·exact h0
theorem Da {l:List Int} {r:Int} (h:0≤l.getD r.toNat 0):(dM l r).getD 0≤l.getD r.toNat 0:=by
 unfold dM;split
 ·exact Int.le_refl _
 ·exact h
theorem Ev {p:Proj} {s:aM} {k:Nat} {ms:List Int} (h:kI p s k) (hm:s.modes.getD k 0∈ms) (r:Int):iA (aV p k) ms r≤(dZ p s k).use.getD r.toNat 0:=
 JB (xM h hm) (Da (h.use _).1) (h.use _).1
theorem Uy {p:Proj} {s:aM} {k:Nat} {ms:List Int} (h:kI p s k) (hm:s.modes.getD k 0∈ms) (r:Int):uR (aV p k) ms r≤(dZ p s k).con.getD r.toNat 0:=
 JB (xM h hm) (Da (h.con _)) (h.con _)
theorem sumTo_le {f g:Nat→Int}:∀{n:Nat},(∀k,k < n→f k≤g k)→sumTo f n≤sumTo g n
 |0,_=>Int.le_refl _
 |n+1,h=>by
  have h1:=sumTo_le (n:=n) (fun k hk=>h k (by omega))
  have h2:=h n (by omega)
  simp only [sumTo];omega
theorem LV {f g:Nat→Int}:∀{n:Nat},sumTo (fun k=>f k+g k) n=sumTo f n+sumTo g n
 |0=>rfl
 |n+1=>by simp only [sumTo];rw [LV];omega
theorem JC:∀{n:Nat},sumTo (fun _=>0) n=0
 |0=>rfl
 |n+1=>by simp only [sumTo];rw [JC];rfl
theorem nI {p:Proj} {s:aM} {r:Rul} (hr:r∈bA p) (hb:breaks p s r=true):dN p s=false:=by
 cases h:dN p s with
 |false=>rfl
 |true=>
  simp only [dN,Bool.and_eq_true,decide_eq_true_eq] at h
  have h1:=h.2
  unfold nW at h1
  rw [if_pos h.1] at h1
  have:r∈(bA p).filter (breaks p s):=List.mem_filter.2 ⟨hr,hb⟩
  have:=List.length_pos_of_mem this
  omega
theorem VX {p:Proj} {k:Nat} (h:k < p.links.length):kg k∈bA p:=by
 simp only [bA,List.mem_append];exact .inl (.inl (.inl (.inl (List.mem_map.2 ⟨k,List.mem_range.2 h,rfl⟩))))
theorem TI {p:Proj} {k:Nat} (h:k < p.acts.length):endRule k∈bA p:=by
 simp only [bA,List.mem_append];exact .inl (.inl (.inl (.inr (List.mem_map.2 ⟨k,List.mem_range.2 h,rfl⟩))))
theorem Qw {p:Proj} {r t:Nat} (h:r < p.bS.length) (ht:t≤60):lF r t∈bA p:=by
 simp only [bA,List.mem_append]
 exact .inl (.inl (.inr (List.mem_flatMap.2 ⟨r,List.mem_range.2 h,List.mem_map.2 ⟨t,List.mem_range.2 (by omega),rfl⟩⟩)))
theorem pair_mem {p:Proj} {r b c:Nat} (h:r < p.bS.length) (hm:gq p r=true) (hb:b < c) (hc:c < p.acts.length):lH r b c∈bA p:=by
 simp only [bA,List.mem_append]
 refine .inl (.inr (List.mem_flatMap.2 ⟨r,List.mem_range.2 h,List.mem_flatMap.2 ⟨b,List.mem_range.2 (by omega),?_⟩⟩))
 unfold fA
 rw [if_pos hm]
 exact List.mem_map.2 ⟨c - (b+1),List.mem_range.2 (by omega),by rw [show b+1+(c - (b+1))=c by omega]⟩
theorem Uz {p:Proj} {k:Nat} (h:k < p.bD.length):jm k∈bA p:=by
 simp only [bA,List.mem_append];exact .inr (List.mem_map.2 ⟨k,List.mem_range.2 h,rfl⟩)
theorem Ai {s d x y:Int} (hs:0≤s∧s≤100) (hd:1≤d∧d≤100) (hx:0≤x∧x≤100) (hy:0≤y∧y≤100):overlap s d x y=max (min (s+d) y - max s x) 0:=by
 unfold overlap fits
 rw [if_pos ⟨within_iff.2 (by omega),within_iff.2 (by omega),within_iff.2 (by omega),within_iff.2 (by omega)⟩,if_neg (by omega)]
theorem iU {s d x y:Int} (hs: -2≤s∧s≤62) (hd:1≤d∧d≤100) (hx:0≤x∧x≤100) (hy:0≤y∧y≤100):overlap s d x y=max (min (s+d) y - max s x) 0:=by
 unfold overlap fits
 rw [if_pos ⟨within_iff.2 (by omega),within_iff.2 (by omega),within_iff.2 (by omega),within_iff.2 (by omega)⟩,if_neg (by omega)]
theorem TJ {p:Proj} {s:aM} {k:Nat} (h:kI p s k) (r x:Int) (hx:0≤x):∀(n:Nat),x+n≤100→sumTo (fun i=>BM p s r (x+i) k) n=(dZ p s k).use.getD r.toNat 0*overlap (s.starts.getD k 0) (dZ p s k).dur x (x+n)
 |0,hn=>by
  rw [Ai ⟨h.lo,by have:=h.hi;omega⟩ ⟨h.d1,by have:=h.d2;omega⟩ ⟨hx,by omega⟩ ⟨by omega,by omega⟩]
  rw [show max (min (s.starts.getD k 0+(dZ p s k).dur) (x+((0:Nat):Int)) - max (s.starts.getD k 0) x) 0=0 by omega]
  simp [sumTo]
 |n+1,hn=>by
  have h1:=h.lo;have h2:=h.hi;have h3:=h.d1;have h4:=h.d2
  simp only [sumTo]
  rw [TJ h r x hx n (by omega)]
  rw [Ai ⟨h1,by omega⟩ ⟨h3,by omega⟩ ⟨hx,by omega⟩ ⟨by omega,by omega⟩,Ai ⟨h1,by omega⟩ ⟨h3,by omega⟩ ⟨hx,by omega⟩ ⟨by omega,by omega⟩]
  unfold BM runs mO
  generalize (dZ p s k).use.getD r.toNat 0=u
  generalize s.starts.getD k 0=a at*
  generalize (dZ p s k).dur=d at*
  by_cases hr:a≤x+n∧a+d > x+n
  ·rw [if_pos (by simp [hr])]
   rw [show max (min (a+d) (x+((n+1:Nat):Int)) - max a x) 0=max (min (a+d) (x+(n:Int)) - max a x) 0+1 by omega,Int.mul_add,Int.mul_one]
  ·rw [if_neg (by simp only [Bool.and_eq_true,decide_eq_true_eq];exact hr)]
   rw [show max (min (a+d) (x+((n+1:Nat):Int)) - max a x) 0=max (min (a+d) (x+(n:Int)) - max a x) 0 by omega,Int.add_zero]
theorem Qx (f:Nat→Nat→Int):∀(n m:Nat),sumTo (fun i=>sumTo (fun k=>f i k) m) n=sumTo (fun k=>sumTo (fun i=>f i k) n) m
 |0,m=>by simp only [sumTo];rw [JC]
 |n+1,m=>by
  have:=Qx f n m
  simp only [sumTo]
  rw [this,LV]
theorem RY {p:Proj} {s:aM} (r x:Int) (n:Nat):sumTo (fun i=>yD p s r (x+i)) n=sumTo (fun k=>sumTo (fun i=>BM p s r (x+i) k) n) p.acts.length:=
 Qx (fun i k=>BM p s r (x+i) k) n p.acts.length
theorem LW (l:List Step) (x:Int):∀n:Nat,sD l x n=sumTo (fun i=>mK (x+i) l 0) n
 |0=>rfl
 |n+1=>by simp only [sD,sumTo];rw [LW l x n]
theorem Qy {f g:Nat→Int}:∀{n:Nat},sumTo f n > sumTo g n→∃k,k < n∧f k > g k
 |0,h=>by simp [sumTo] at h
 |n+1,h=>by
  simp only [sumTo] at h
  by_cases hk:f n > g n
  ·exact⟨n,by omega,hk⟩
  ·obtain⟨k,h1,h2⟩:=Qy (f:=f) (g:=g) (n:=n) (by omega)
   exact⟨k,by omega,h2⟩
structure ZH (p:Proj) (b:Dom) (k:Nat):Prop where
 l1: -2≤b.lo.getD k 0
 l2:b.lo.getD k 0≤62
 h1: -2≤b.hi.getD k 0
 h2:b.hi.getD k 0≤62
 ms:∀m∈b.modes.getD k [],0≤m∧m.toNat < (aV p k).modes.length
theorem nP {n:Nat} {m:Int} (h:m∈aH n):0≤m∧m.toNat < n:=by
 unfold aH at h
 split at h
 ·obtain⟨k,h1,rfl⟩:=List.mem_map.1 h
  have:=List.mem_range.1 h1
  simp at this ⊢;omega
 ·simp at h
theorem NV {n:Nat} (hn:n≤200) {m:Int} (h0:0≤m) (h:m.toNat < n):m∈aH n:=by
 unfold aH
 rw [if_pos (within_iff.2 (by omega))]
 exact List.mem_map.2 ⟨m.toNat,List.mem_range.2 (by omega),by simp;omega⟩
theorem bN {p:Proj} {b:Dom} (h:ay p b=true):aL p=true∧b.lo.length=p.acts.length∧b.hi.length=p.acts.length∧b.modes.length=p.acts.length:=by
 simp only [ay,Bool.and_eq_true,Bool.not_eq_true',decide_eq_false_iff_not] at h
 exact⟨h.1.1.1.1,by omega,by omega,by omega⟩
theorem kJ {p:Proj} {b:Dom} (h:ay p b=true) {k:Nat} (hk:k < p.acts.length):ZH p b k:=by
 obtain⟨hp,h1,h2,h3⟩:=bN h
 simp only [ay,Bool.and_eq_true] at h
 have h4:=aX.1 h.2 k hk
 unfold oQ at h4
 rw [gZ hk,List.getElem?_eq_getElem (by omega:k < b.lo.length),List.getElem?_eq_getElem (by omega:k < b.hi.length),List.getElem?_eq_getElem (by omega:k < b.modes.length)] at h4
 simp only [Bool.and_eq_true,mM,within_iff,subset,List.all_eq_true,List.contains_iff_mem] at h4
 have e1:b.lo.getD k 0=b.lo[k]'(by omega):=by rw [List.getD_eq_getElem?_getD,List.getElem?_eq_getElem (by omega)];rfl
 have e2:b.hi.getD k 0=b.hi[k]'(by omega):=by rw [List.getD_eq_getElem?_getD,List.getElem?_eq_getElem (by omega)];rfl
 have e3:b.modes.getD k []=b.modes[k]'(by omega):=by rw [List.getD_eq_getElem?_getD,List.getElem?_eq_getElem (by omega)];rfl
 exact⟨by rw [e1];omega,by rw [e1];omega,by rw [e2];omega,by rw [e2];omega,fun m hm=>nP (h4.2 m (by rw [e3] at hm;exact hm))⟩
theorem Xi {p:Proj} {b:Dom} {s:aM} {k:Nat} (h:kI p s k) (hb:ZH p b k) (hin:b.lo.getD k 0≤s.starts.getD k 0∧s.starts.getD k 0≤b.hi.getD k 0∧s.modes.getD k 0∈b.modes.getD k []) {r x y:Int} (hx:0≤x∧x≤60) (hy:0≤y∧y≤60):
  oN p b r x y k≤(dZ p s k).use.getD r.toNat 0*overlap (s.starts.getD k 0) (dZ p s k).dur x y:=by
 unfold oN
 refine Int.le_trans (yH (List.mem_map.2 ⟨s.modes.getD k 0,hin.2.2,rfl⟩)) ?_
 unfold jL
 show min (overlap _ (dZ p s k).dur x y) (overlap _ (dZ p s k).dur x y)*(dZ p s k).use.getD r.toNat 0≤_
 have h1:=h.lo;have h2:=h.hi;have h3:=h.d1;have h4:=h.d2
 have k1:=hb.l1;have k2:=hb.l2;have k3:=hb.h1;have k4:=hb.h2
 rw [iU ⟨k1,k2⟩ ⟨h3,by omega⟩ ⟨hx.1,by omega⟩ ⟨hy.1,by omega⟩,iU ⟨k3,k4⟩ ⟨h3,by omega⟩ ⟨hx.1,by omega⟩ ⟨hy.1,by omega⟩,iU ⟨by omega,by omega⟩ ⟨h3,by omega⟩ ⟨hx.1,by omega⟩ ⟨hy.1,by omega⟩,Int.mul_comm]
 refine Int.mul_le_mul_of_nonneg_left ?_ (h.use _).1
 omega
theorem NW {p:Proj} {b:Dom} {s:aM} {r:Rul} (hf:ay p b=true) (hr:fT p r=true) (hs:bn p s=true) (hin:ow b s p.acts.length) (h:fails p b r=true):dN p s=false:=by
 obtain⟨hp,hl1,hl2⟩:=jQ hs
 simp only [fT,Bool.and_eq_true] at hr
 have hr:=hr.2
 unfold fails at h
 by_cases e1:r.kind=1
 ·rw [if_pos e1] at hr h
  simp only [Bool.and_eq_true,within_iff,decide_eq_true_eq] at hr
  have hk:r.a.toNat < p.links.length:=by omega
  refine nI (VX hk) ?_
  have el:gu p r.a=p.links[r.a.toNat]:=by unfold gu;rw [List.getD_eq_getElem?_getD,List.getElem?_eq_getElem hk];rfl
  obtain⟨hs1,hs2⟩:=FD hp (y:=gu p r.a) (by rw [el];exact List.getElem_mem hk)
  have e2:gu p ((r.a.toNat:Nat):Int)=gu p r.a:=by unfold gu;rw [Int.toNat_natCast]
  unfold breaks kg
  rw [if_pos rfl]
  show qz p s (gu p (r.a.toNat:Int))=true
  rw [e2]
  generalize gu p r.a=y at*
  have g1:=gM hs (fC hs1).2
  have i1:=hin _ (fC hs1).2
  have i2:=hin _ (fC hs2).2
  simp only [tF,decide_eq_true_eq] at h
  simp only [qz,decide_eq_true_eq]
  have hd:=qL g1 i1.2.2
  unfold lD at h
  unfold mO
  split at h
  ·rename_i hfe;rw [if_pos hfe];omega
  ·rename_i hfe;rw [if_neg hfe];omega
 rw [if_neg e1] at hr h
 by_cases e2:r.kind=2
 ·rw [if_pos e2] at hr h
  simp only [Bool.and_eq_true,decide_eq_true_eq] at hr h
  obtain⟨h0,hk⟩:=fC hr.1.1
  refine nI (TI hk) ?_
  have g1:=gM hs hk
  have i1:=hin _ hk
  have hd:=qL g1 i1.2.2
  unfold lD at h
  unfold breaks endRule
  rw [if_neg (by simp),if_pos rfl]
  simp only [decide_eq_true_eq,Int.toNat_natCast]
  unfold mO;omega
 rw [if_neg e2] at hr h
 by_cases e3:r.kind=3
 ·rw [if_pos e3] at hr h
  simp only [Bool.and_eq_true,decide_eq_true_eq,dD,within_iff] at hr h
  have hk:0≤r.a∧r.a.toNat < p.bS.length:=by have:=hr.1.1;simp only [eZ,within_iff] at this;omega
  refine nI (Qw (t:=r.b.toNat) hk.2 (by omega)) ?_
  unfold breaks lF
  rw [if_neg (by simp),if_neg (by simp),if_pos rfl]
  simp only [decide_eq_true_eq]
  have ea:((r.a.toNat:Nat):Int)=r.a:=by omega
  have eb:((r.b.toNat:Nat):Int)=r.b:=by omega
  rw [ea,eb]
  refine Int.lt_of_lt_of_le h ?_
  unfold Gz yD
  refine sumTo_le fun k hk=>?_
  have g1:=gM hs hk
  have i1:=hin k hk
  unfold wY BM
  split
  ·rename_i hc
   have hd:=qL g1 i1.2.2
   unfold lD at hc
   have hrun:runs p s r.b k=true:=by
    simp only [runs,mO,Bool.and_eq_true]
    exact⟨decide_eq_true (by omega),decide_eq_true (by omega)⟩
   rw [if_pos hrun]
   exact Ev g1 i1.2.2 r.a
  ·split
   ·exact (g1.use _).1
   ·exact Int.le_refl _
 rw [if_neg e3] at hr h
 by_cases e4:r.kind=4
 ·rw [if_pos e4] at hr h
  simp only [Bool.and_eq_true,decide_eq_true_eq,dD,within_iff] at hr h
  have hk:0≤r.a∧r.a.toNat < p.bS.length:=by have:=hr.1.1.1;simp only [eZ,within_iff] at this;omega
  unfold tC at h
  have hso:iY (vR p r.a).steps=true:=by
   have h9:=hp
   simp only [aL,Bool.and_eq_true,List.all_eq_true] at h9
   have h8:=h9.1.1.2 (vR p r.a) (by unfold vR;rw [List.getD_eq_getElem?_getD,List.getElem?_eq_getElem hk.2];exact List.getElem_mem hk.2)
   simp only [jV,Bool.and_eq_true] at h8
   exact h8.2.1
  rw [if_pos ⟨hso,by simp only [dD,within_iff];omega,by simp only [dD,within_iff];omega⟩,LW] at h
  have hle:pQ p b r.a r.b r.c≤sumTo (fun i=>yD p s r.a (r.b+i)) (r.c - r.b).toNat:=by
   rw [RY]
   unfold pQ
   refine sumTo_le fun k hk=>?_
   have g1:=gM hs hk
   have i1:=hin k hk
   rw [TJ g1 r.a r.b (by omega) _ (by omega)]
   rw [show r.b+((r.c - r.b).toNat:Int)=r.c by omega]
   exact Xi g1 (kJ hf hk) i1 (by omega) (by omega)
  obtain⟨i,hi,hgt⟩:=Qy (Int.lt_of_lt_of_le h hle)
  refine nI (Qw (t:=(r.b+i).toNat) hk.2 (by omega)) ?_
  unfold breaks lF
  rw [if_neg (by simp),if_neg (by simp),if_pos rfl]
  simp only [decide_eq_true_eq]
  have ea:((r.a.toNat:Nat):Int)=r.a:=by omega
  have eb:(((r.b+i).toNat:Nat):Int)=r.b+i:=by omega
  rw [ea,eb]
  exact hgt
 rw [if_neg e4] at hr h
 by_cases e5:r.kind=5
 ·rw [if_pos e5] at hr h
  simp only [Bool.and_eq_true,decide_eq_true_eq] at hr
  obtain⟨⟨⟨hm,hb⟩,hc⟩,hlt⟩:=hr
  have hk:0≤r.a∧r.a.toNat < p.bS.length:=by have:=hm;simp only [gq,eZ,Bool.and_eq_true,within_iff] at this;omega
  obtain⟨b0,hb⟩:=fC hb
  obtain⟨c0,hc⟩:=fC hc
  have ea:((r.a.toNat:Nat):Int)=r.a:=by omega
  have eb:((r.b.toNat:Nat):Int)=r.b:=by omega
  have ec:((r.c.toNat:Nat):Int)=r.c:=by omega
  refine nI (pair_mem (r:=r.a.toNat) (b:=r.b.toNat) (c:=r.c.toNat) hk.2 (by rw [ea];exact hm) (by omega) hc) ?_
  unfold breaks lH
  rw [if_neg (by simp),if_neg (by simp),if_neg (by simp),if_pos rfl]
  simp only [ea,eb,ec]
  have g1:=gM hs hb
  have i1:=hin _ hb
  have g2:=gM hs hc
  have i2:=hin _ hc
  unfold jam at h
  simp only [Bool.and_eq_true] at h
  obtain⟨⟨⟨q1,q2⟩,q3⟩,q4⟩:=h
  replace q1:=of_decide_eq_true q1
  replace q2:=of_decide_eq_true q2
  replace q3:=of_decide_eq_true q3
  replace q4:=of_decide_eq_true q4
  unfold lK lD at q3 q4
  have u1:=Ev g1 i1.2.2 r.a
  have u2:=Ev g2 i2.2.2 r.a
  have d1:=qL g1 i1.2.2
  have d2:=qL g2 i2.2.2
  simp only [tJ,BZ,mO,Bool.and_eq_true,Bool.not_eq_true']
  exact⟨⟨⟨decide_eq_false (by omega),decide_eq_false (by omega)⟩,decide_eq_false (by omega)⟩,decide_eq_false (by omega)⟩
 rw [if_neg e5] at hr h
 by_cases e6:r.kind=6
 ·rw [if_pos e6] at hr
  simp only [Bool.and_eq_true,decide_eq_true_eq] at hr
  have hk:0≤r.a∧r.a.toNat < p.bD.length:=by have:=hr.1.1;simp only [jk,within_iff] at this;omega
  refine nI (Uz hk.2) ?_
  unfold breaks jm
  rw [if_neg (by simp),if_neg (by simp),if_neg (by simp),if_neg (by simp)]
  simp only [decide_eq_true_eq]
  have ea:((r.a.toNat:Nat):Int)=r.a:=by omega
  rw [ea]
  simp only [qy,decide_eq_true_eq] at h
  refine Int.lt_of_lt_of_le h ?_
  unfold Iu
  refine sumTo_le fun k hk=>?_
  exact Uy (gM hs hk) (hin k hk).2.2 r.a
 ·rw [if_neg e6] at hr;cases hr
theorem sO {p:Proj} {b:Dom} {s:aM} {r:Rul} (h:refutes p b r=true) (hs:bn p s=true) (hin:ow b s p.acts.length):dN p s=false:=by
 simp only [refutes,Bool.and_eq_true,Bool.or_eq_true] at h
 obtain⟨hf,h|⟨hr,h⟩⟩:=h
 ·exfalso
  obtain⟨hp,h1,h2,h3⟩:=bN hf
  simp only [aR,Bool.or_eq_true,List.any_eq_true,List.mem_range] at h
  rcases h with⟨i,hi,hc⟩|⟨m,hm,hl⟩
  ·have:=hin i (by omega)
   unfold jW at hc
   rw [List.getElem?_eq_getElem (by omega:i < b.lo.length),List.getElem?_eq_getElem (by omega:i < b.hi.length)] at hc
   simp only [decide_eq_true_eq] at hc
   rw [List.getD_eq_getElem?_getD,List.getElem?_eq_getElem (by omega:i < b.lo.length),List.getD_eq_getElem?_getD (l:=b.hi),List.getElem?_eq_getElem (by omega:i < b.hi.length)] at this
   simp only [Option.getD_some] at this
   omega
  ·obtain⟨i,hi,rfl⟩:=List.getElem_of_mem hm
   have:=(hin i (by omega)).2.2
   rw [List.getD_eq_getElem?_getD,List.getElem?_eq_getElem hi] at this
   simp only [decide_eq_true_eq] at hl
   simp only [Option.getD_some] at this
   have:=List.length_pos_of_mem this
   omega
 ·exact NW hf hr hs hin h
structure yR (b:Dom) (n:Nat):Prop where
 lo:b.lo.length=n
 hi:b.hi.length=n
 ms:b.modes.length=n
theorem lY {v:Int} (h: -2≤v∧v≤62):clamped v=v:=by unfold clamped;omega
theorem jI {b:Dom} {n:Nat} (h:yR b n) (l:Lit):yR (restrict b l) n:=by
 obtain⟨h1,h2,h3⟩:=h
 unfold restrict
 split
 ·dsimp only
  split
  ·exact⟨by simpa using h1,h2,h3⟩
  ·split
   ·exact⟨h1,by simpa using h2,h3⟩
   ·split
    ·exact⟨h1,h2,by simpa using h3⟩
    ·split
     ·exact⟨h1,h2,by simpa using h3⟩
     ·exact⟨h1,h2,h3⟩
 ·exact⟨h1,h2,h3⟩
theorem aZ {α:Type} {l:List α} {i:Nat} {x d:α} (h:i < l.length):(l.set i x).getD i d=x:=by
 rw [List.getD_eq_getElem?_getD,List.getElem?_set_self h];rfl
theorem getD_set_ne {α:Type} {l:List α} {i j:Nat} {x d:α} (h:i≠j):(l.set i x).getD j d=l.getD j d:=by
 rw [List.getD_eq_getElem?_getD,List.getElem?_set_ne h,List.getD_eq_getElem?_getD]
def JD (l:Lit):Prop:= -2≤l.val∧l.val≤62
theorem qM {b:Dom} {s:aM} {n:Nat} {l:Lit} (hl:yR b n) (hin:ow b s n) (hf:JD l) (hh:bM l s=true):ow (restrict b l) s n:=by
 obtain⟨h1,h2,h3⟩:=hl
 simp only [bM,Bool.and_eq_true,within_iff] at hh
 obtain⟨⟨ha,hb⟩,hh⟩:=hh
 unfold restrict
 split
 ·rename_i hd
  simp only [fq,Bool.and_eq_true,decide_eq_true_eq] at hd
  have hn:l.act.toNat < n:=by omega
  dsimp only
  rw [lY hf]
  have hk:=hin _ hn
  intro k hkn
  have hk2:=hin k hkn
  split
  ·rename_i e
   rw [if_pos e] at hh
   have hh:=of_decide_eq_true hh
   refine⟨?_,hk2.2⟩
   by_cases ek:l.act.toNat=k
   ·subst ek;rw [aZ (by omega)];omega
   ·rw [getD_set_ne ek];exact hk2.1
  rename_i e1
  rw [if_neg e1] at hh
  split
  ·rename_i e
   rw [if_pos e] at hh
   have hh:=of_decide_eq_true hh
   refine⟨hk2.1,?_,hk2.2.2⟩
   by_cases ek:l.act.toNat=k
   ·subst ek;rw [aZ (by omega)];omega
   ·rw [getD_set_ne ek];exact hk2.2.1
  rename_i e2
  rw [if_neg e2] at hh
  split
  ·rename_i e
   rw [if_pos e] at hh
   have hh:=of_decide_eq_true hh
   refine⟨hk2.1,hk2.2.1,?_⟩
   by_cases ek:l.act.toNat=k
   ·subst ek;rw [aZ (by omega)]
    exact List.mem_filter.2 ⟨hk.2.2,decide_eq_true hh⟩
   ·rw [getD_set_ne ek];exact hk2.2.2
  rename_i e3
  rw [if_neg e3] at hh
  simp only [Bool.and_eq_true] at hh
  have e4:=of_decide_eq_true hh.1
  have hh:=of_decide_eq_true hh.2
  rw [if_pos e4]
  refine⟨hk2.1,hk2.2.1,?_⟩
  by_cases ek:l.act.toNat=k
  ·subst ek;rw [aZ (by omega)]
   exact List.mem_filter.2 ⟨hk.2.2,decide_eq_true hh⟩
  ·rw [getD_set_ne ek];exact hk2.2.2
 ·exact hin
theorem Aj {p:Proj} {l:Lit} (h:jA p l=true):aL p=true∧bg p l.act=true∧ -1≤l.val∧l.val≤61∧(l.kind=1∨l.kind=2∨l.kind=3∨l.kind=4):=by
 simp only [jA,Bool.and_eq_true] at h
 obtain⟨⟨h1,h2⟩,h3⟩:=h
 refine⟨h1,h2,?_⟩
 split at h3
 ·rename_i e;simp only [within_iff] at h3;omega
 ·split at h3
  ·rename_i e
   obtain⟨h4,h5⟩:=fC h2
   rw [gZ h5] at h3
   simp only [within_iff] at h3
   have:=iT h1 h5
   omega
  ·cases h3
theorem LX {p:Proj} {l:Lit} (h:jA p l=true):JD l:=by
 have:=Aj h;unfold JD;omega
theorem LY {p:Proj} {l:Lit} (h:jA p l=true):JD (negate l)∧(negate l).act=l.act:=by
 obtain⟨_,_,h1,h2,h3⟩:=Aj h
 unfold negate JD
 rw [if_pos (within_iff.2 (by omega))]
 rcases h3 with e|e|e|e<;>rw [e]<;>simp<;>omega
theorem Db {p:Proj} {s:aM} {l:Lit} (h:jA p l=true) (hs:bn p s=true):bM (negate l) s= !bM l s:=by
 obtain⟨hp,ha,h1,h2,h3⟩:=Aj h
 obtain⟨h4,h5⟩:=fC ha
 obtain⟨_,hl1,hl2⟩:=jQ hs
 have w1:within l.act 0 ((s.starts.length:Int) - 1)=true:=within_iff.2 (by omega)
 have w2:within l.act 0 ((s.modes.length:Int) - 1)=true:=within_iff.2 (by omega)
 have w3:within l.val (-100000) 100000=true:=within_iff.2 (by omega)
 clear h h1 h2 ha h4 h5
 obtain⟨k,a,v⟩:=l
 dsimp only at w1 w2 w3 h3
 unfold negate
 rw [if_pos w3]
 rcases h3 with rfl|rfl|rfl|rfl
 ·show bM ⟨2,a,v - 1⟩ s= !bM ⟨1,a,v⟩ s
  unfold bM
  dsimp only
  rw [w1,w2]
  show (decide (s.starts.getD a.toNat 0≤v - 1))= !(decide (s.starts.getD a.toNat 0≥v))
  by_cases hh:s.starts.getD a.toNat 0≥v
  ·rw [decide_eq_true hh,decide_eq_false (by omega)];rfl
  ·rw [decide_eq_false hh,decide_eq_true (by omega)];rfl
 ·show bM ⟨1,a,v+1⟩ s= !bM ⟨2,a,v⟩ s
  unfold bM
  dsimp only
  rw [w1,w2]
  show (decide (s.starts.getD a.toNat 0≥v+1))= !(decide (s.starts.getD a.toNat 0≤v))
  by_cases hh:s.starts.getD a.toNat 0≤v
  ·rw [decide_eq_true hh,decide_eq_false (by omega)];rfl
  ·rw [decide_eq_false hh,decide_eq_true (by omega)];rfl
 ·show bM ⟨4,a,v⟩ s= !bM ⟨3,a,v⟩ s
  unfold bM
  dsimp only
  rw [w1,w2]
  show (decide (s.modes.getD a.toNat 0≠v))= !(decide (s.modes.getD a.toNat 0=v))
  simp
 ·show bM ⟨3,a,v⟩ s= !bM ⟨4,a,v⟩ s
  unfold bM
  dsimp only
  rw [w1,w2]
  show (decide (s.modes.getD a.toNat 0=v))= !(decide (s.modes.getD a.toNat 0≠v))
  simp
theorem Kw {p:Proj} {l:List Lit} (h:lu p l=true):∀x∈l,jA p x=true:=by
 intro x hx
 simp only [lu,Bool.and_eq_true] at h
 obtain⟨i,hi,rfl⟩:=List.getElem_of_mem hx
 have:=aX.1 h.1 i hi
 unfold clauseAt at this
 rw [List.getElem?_eq_getElem hi] at this
 simp only [Bool.and_eq_true] at this
 exact this.1
theorem JE {p:Proj} {s:aM} {n:Nat} (hs:bn p s=true):∀(l:List Lit) (b:Dom),(∀x∈l,jA p x=true)→fD l s=false→yR b n→ow b s n→yR (against b l) n∧ow (against b l) s n
 |[],b,_,_,hl,hin=>⟨hl,hin⟩
 |x::l,b,hok,hf,hl,hin=>by
  simp only [fD,List.any_cons,Bool.or_eq_false_iff] at hf
  have hx:=hok x (List.mem_cons_self ..)
  exact JE hs l (restrict b (negate x)) (fun y hy=>hok y (List.mem_cons_of_mem _ hy)) hf.2 (jI hl _)
   (qM hl hin (LY hx).1 (by rw [Db hx hs,hf.1];rfl))
theorem mX {p:Proj} {s:aM} (h:dN p s=true):bn p s=true:=by
 simp only [dN,Bool.and_eq_true] at h;exact h.1
theorem Qz {p:Proj} {s:aM} (h:dN p s=true) {k:Nat} (hk:k < p.acts.length):mO p s k≤p.dead:=by
 by_cases hh:mO p s k≤p.dead
 ·exact hh
 ·have:=nI (s:=s) (TI hk) (by
   unfold breaks endRule
   rw [if_neg (by simp),if_pos rfl]
   exact decide_eq_true (by simp only [Int.toNat_natCast];omega))
  rw [h] at this;cases this
theorem oC {p:Proj} (h:aL p=true):yR (aW p) p.acts.length:=by
 unfold aW;rw [if_pos h];exact⟨by simp [lC],by simp [lC],by simp [lC]⟩
theorem jr {α β:Type} {l:List α} {f:α→β} {k:Nat} {d:β} (h:k < l.length):(l.map f).getD k d=f l[k]:=by
 rw [List.getD_eq_getElem?_getD,List.getElem?_map,List.getElem?_eq_getElem h];rfl
theorem Xj {p:Proj} {s:aM} (h:dN p s=true):ow (aW p) s p.acts.length:=by
 have hs:=mX h
 obtain⟨hp,_,_⟩:=jQ hs
 intro k hk
 have g:=gM hs hk
 have he:=Qz h hk
 have h1:=g.lo;have h2:=g.d1
 unfold mO at he
 unfold aW;rw [if_pos hp]
 unfold lC
 dsimp only
 rw [jr hk,jr hk,jr hk]
 refine⟨h1,by omega,?_⟩
 have ea:p.acts[k]=aV p k:=by
  have:=gZ hk
  rw [List.getElem?_eq_getElem hk] at this
  exact Option.some.inj this
 rw [ea]
 exact NV (by have:=iT hp hk;omega) g.m0 g.m1
theorem Ky {p:Proj} {s:aM} {r:Rul} {l:List Lit} (h:follows p r l=true) (hs:dN p s=true):fD l s=true:=by
 cases hc:fD l s with
 |true=>rfl
 |false=>
  simp only [follows,Bool.and_eq_true] at h
  have hf:=mX hs
  have:=JE hf l _ (Kw h.1) hc (oC (jQ hf).1) (Xj hs)
  have:=sO h.2 hf this.2
  rw [hs] at this;cases this
def dR (a b:Dom) (n:Nat):Prop:=∀k,k < n→b.lo.getD k 0≤a.lo.getD k 0∧a.hi.getD k 0≤b.hi.getD k 0∧∀m∈a.modes.getD k [],m∈b.modes.getD k []
theorem dR.refl (a:Dom) (n:Nat):dR a a n:=fun _ _=>⟨Int.le_refl _,Int.le_refl _,fun _ h=>h⟩
theorem dR.trans {a b c:Dom} {n:Nat} (h:dR a b n) (h':dR b c n):dR a c n:=fun k hk=>by
 obtain⟨h1,h2,h3⟩:=h k hk
 obtain⟨h4,h5,h6⟩:=h' k hk
 exact⟨by omega,by omega,fun m hm=>h6 m (h3 m hm)⟩
theorem zF:∀(l:List Int) (a:Int),l.foldl min a=a∨l.foldl min a∈l
 |[],a=>.inl rfl
 |y::l,a=>by
  simp only [List.foldl_cons]
  rcases zF l (min a y) with h|h
  ·rw [h]
   by_cases hh:a≤y
   ·rw [Int.min_eq_left hh];exact .inl rfl
   ·rw [Int.min_eq_right (by omega)];exact .inr (List.mem_cons_self ..)
  ·exact .inr (List.mem_cons_of_mem _ h)
theorem LZ {l:List Int} (h:l≠[]):least l∈l:=by
 cases l with
 |nil=>exact (h rfl).elim
 |cons y l=>
  rcases zF l y with e|e
  ·show l.foldl min y∈_;rw [e];exact List.mem_cons_self ..
  ·exact List.mem_cons_of_mem _ e
theorem Ew {l l':List Int} (hn:l'≠[]) (h:∀x∈l',∃y∈l,y≤x):least l≤least l':=by
 obtain⟨y,hy,hle⟩:=h _ (LZ hn)
 exact Int.le_trans (yH hy) hle
theorem jN {ms ms':List Int} (h:∀m∈ms',m∈ms):∀(l:List Mode) (k:Nat) (m:Mode),m∈bQ ms' l k→m∈bQ ms l k
 |[],k,m,hm=>hm
 |y::l,k,m,hm=>by
  rw [bQ] at hm ⊢
  split at hm
  ·rename_i hc
   rw [if_pos (by simp at hc ⊢;exact h _ hc)]
   rcases List.mem_cons.1 hm with rfl|hm
   ·exact List.mem_cons_self ..
   ·exact List.mem_cons_of_mem _ (jN h l (k+1) m hm)
  ·split
   ·exact List.mem_cons_of_mem _ (jN h l (k+1) m hm)
   ·exact jN h l (k+1) m hm
theorem lJ {ms:List Int}:∀(l:List Mode) (k:Nat) (m:Mode),m∈bQ ms l k→m∈l
 |[],k,m,hm=>hm
 |y::l,k,m,hm=>by
  rw [bQ] at hm
  split at hm
  ·rcases List.mem_cons.1 hm with rfl|hm
   ·exact List.mem_cons_self ..
   ·exact List.mem_cons_of_mem _ (lJ l (k+1) m hm)
  ·exact List.mem_cons_of_mem _ (lJ l (k+1) m hm)
structure qN (a:aK) (ms ms':List Int):Prop where
 ne:∃m∈ms',0≤m∧m.toNat < a.modes.length
 sub:∀m∈ms',m∈ms
theorem qN.chosen {a:aK} {ms ms':List Int} (h:qN a ms ms'):chosen a ms'≠[]:=by
 obtain⟨m,h1,h2,h3⟩:=h.ne
 have:=qK (ms:=ms') (m:=a.modes[m.toNat]) a.modes 0 m.toNat (List.getElem?_eq_getElem h3) (by rw [Nat.zero_add,Int.toNat_of_nonneg h2];exact h1)
 intro e
 unfold Abs.chosen at e
 rw [e] at this;cases this
theorem oD {a:aK} {ms ms':List Int} (h:qN a ms ms'):sw a ms≤sw a ms':=by
 refine Ew (by simpa using h.chosen) fun x hx=>?_
 obtain⟨m,hm,rfl⟩:=List.mem_map.1 hx
 exact⟨_,List.mem_map.2 ⟨m,jN h.sub _ _ m hm,rfl⟩,Int.le_refl _⟩
theorem Dc {a:aK} {ms ms':List Int} {f:Mode→Option Int} (h:qN a ms ms') (hf:∀m∈a.modes,(f m).isSome=true):leastOf (chosen a ms) f≤leastOf (chosen a ms') f:=by
 have h1:(chosen a ms).all (fun m=>(f m).isSome)=true:=List.all_eq_true.2 fun m hm=>hf m (lJ _ _ m hm)
 have h2:(chosen a ms').all (fun m=>(f m).isSome)=true:=List.all_eq_true.2 fun m hm=>hf m (lJ _ _ m hm)
 unfold leastOf
 rw [if_pos h1,if_pos h2]
 refine Ew (by simpa using h.chosen) fun x hx=>?_
 obtain⟨m,hm,rfl⟩:=List.mem_map.1 hx
 exact⟨_,List.mem_map.2 ⟨m,jN h.sub _ _ m hm,rfl⟩,Int.le_refl _⟩
theorem xO {l:List Int} {n:Nat} {r:Int} (h:bf l n=true) (hr:0≤r∧r.toNat < n):(dM l r).isSome=true:=by
 simp only [bf,Bool.and_eq_true,decide_eq_true_eq] at h
 unfold dM
 rw [if_pos (within_iff.2 (by omega))];rfl
theorem vG {m:Mode} {r s:Int} (h:iN m r s=true):bf m.use r=true∧bf m.con s=true:=by
 simp only [iN,Bool.and_eq_true] at h;exact⟨h.1.2,h.2⟩
theorem xP {p:Proj} (hp:aL p=true) {k:Nat} (hk:k < p.acts.length) {r:Int} (hr:0≤r∧r.toNat < p.bS.length) {ms ms':List Int} (h:qN (aV p k) ms ms'):iA (aV p k) ms r≤iA (aV p k) ms' r:=
 Dc h fun m hm=>xO (vG (oz hp hk hm)).1 hr
theorem QA {p:Proj} (hp:aL p=true) {k:Nat} (hk:k < p.acts.length) {r:Int} (hr:0≤r∧r.toNat < p.bD.length) {ms ms':List Int} (h:qN (aV p k) ms ms'):uR (aV p k) ms r≤uR (aV p k) ms' r:=
 Dc h fun m hm=>xO (vG (oz hp hk hm)).2 hr
theorem UA {p:Proj} (hp:aL p=true) {k:Nat} (hk:k < p.acts.length) (r:Int) (ms:List Int):0≤iA (aV p k) ms r:=by
 unfold iA leastOf
 split
 ·by_cases hn:(chosen (aV p k) ms).map (fun m=>(dM m.use r).getD 0)= []
  ·rw [hn];exact Int.le_refl _
  ·obtain⟨m,hm,e⟩:=List.mem_map.1 (LZ hn)
   rw [← e]
   unfold dM
   split
   ·exact (rP (vG (oz hp hk (lJ _ _ m hm))).1 _).1
   ·exact Int.le_refl _
 ·exact Int.le_refl _
theorem jv {p:Proj} {a b:Dom} (hf:ay p a=true) (he:aR a=false) (hs:dR a b p.acts.length) {k:Nat} (hk:k < p.acts.length):qN (aV p k) (b.modes.getD k []) (a.modes.getD k [])∧a.lo.getD k 0≤a.hi.getD k 0:=by
 obtain⟨hp,h1,h2,h3⟩:=bN hf
 have hb:=kJ hf hk
 simp only [aR,Bool.or_eq_false_iff,List.any_eq_false,List.mem_range] at he
 have hc:=he.1 k (by omega)
 unfold jW at hc
 rw [List.getElem?_eq_getElem (by omega:k < a.lo.length),List.getElem?_eq_getElem (by omega:k < a.hi.length)] at hc
 simp only [decide_eq_true_eq] at hc
 have hm:=he.2 a.modes[k] (List.getElem_mem (by omega))
 have e3:a.modes.getD k []=a.modes[k]'(by omega):=by rw [List.getD_eq_getElem?_getD,List.getElem?_eq_getElem (by omega)];rfl
 refine⟨⟨?_,(hs k hk).2.2⟩,?_⟩
 ·cases hx:a.modes.getD k [] with
  |nil=>rw [e3] at hx;rw [hx] at hm;simp at hm
  |cons m l=>exact⟨m,List.mem_cons_self ..,hb.ms m (by rw [hx];exact List.mem_cons_self ..)⟩
 ·rw [List.getD_eq_getElem?_getD,List.getElem?_eq_getElem (by omega:k < a.lo.length),List.getD_eq_getElem?_getD,List.getElem?_eq_getElem (by omega:k < a.hi.length)]
  simp only [Option.getD_some];omega
theorem RZ {p:Proj} {a b:Dom} {r:Rul} (hfa:ay p a=true) (hfb:ay p b=true) (he:aR a=false) (hs:dR a b p.acts.length) (hr:fT p r=true) (h:fails p b r=true):fails p a r=true:=by
 obtain⟨hp,_,_,_⟩:=bN hfa
 simp only [fT,Bool.and_eq_true] at hr
 have hr:=hr.2
 unfold fails at h ⊢
 by_cases e1:r.kind=1
 ·rw [if_pos e1] at hr h ⊢
  simp only [Bool.and_eq_true,within_iff,decide_eq_true_eq] at hr
  have hk:r.a.toNat < p.links.length:=by omega
  have el:gu p r.a=p.links[r.a.toNat]:=by unfold gu;rw [List.getD_eq_getElem?_getD,List.getElem?_eq_getElem hk];rfl
  obtain⟨hs1,hs2⟩:=FD hp (y:=gu p r.a) (by rw [el];exact List.getElem_mem hk)
  generalize gu p r.a=y at*
  have i1:=hs _ (fC hs1).2
  have i2:=hs _ (fC hs2).2
  have hd:=oD (jv hfa he hs (fC hs1).2).1
  unfold tF at h ⊢
  have h:=of_decide_eq_true h
  refine decide_eq_true ?_
  unfold lD at h ⊢
  split at h
  ·rename_i hfe;rw [if_pos hfe];omega
  ·rename_i hfe;rw [if_neg hfe];omega
 rw [if_neg e1] at hr h ⊢
 by_cases e2:r.kind=2
 ·rw [if_pos e2] at hr h ⊢
  simp only [Bool.and_eq_true,decide_eq_true_eq] at hr
  obtain⟨h0,hk⟩:=fC hr.1.1
  have i1:=hs _ hk
  have hd:=oD (jv hfa he hs hk).1
  have h:=of_decide_eq_true h
  unfold lD at h
  exact decide_eq_true (by unfold lD;omega)
 rw [if_neg e2] at hr h ⊢
 by_cases e3:r.kind=3
 ·rw [if_pos e3] at hr h ⊢
  simp only [Bool.and_eq_true,decide_eq_true_eq,dD,within_iff] at hr
  have hk:0≤r.a∧r.a.toNat < p.bS.length:=by have:=hr.1.1;simp only [eZ,within_iff] at this;omega
  have h:=of_decide_eq_true h
  refine decide_eq_true (Int.lt_of_lt_of_le h ?_)
  unfold Gz
  refine sumTo_le fun k hkn=>?_
  have i1:=hs k hkn
  have hm:=(jv hfa he hs hkn).1
  have hd:=oD hm
  have hu:=xP hp hkn hk hm
  have hn:=UA hp hkn r.a (a.modes.getD k [])
  unfold wY lD
  split
  ·rename_i hc
   rw [if_pos (by omega)];exact hu
  ·split
   ·exact hn
   ·exact Int.le_refl _
 rw [if_neg e3] at hr h ⊢
 by_cases e4:r.kind=4
 ·rw [if_pos e4] at hr h ⊢
  simp only [Bool.and_eq_true,decide_eq_true_eq,dD,within_iff] at hr
  have h:=of_decide_eq_true h
  refine decide_eq_true (Int.lt_of_lt_of_le h ?_)
  unfold pQ
  refine sumTo_le fun k hkn=>?_
  have i1:=hs k hkn
  obtain⟨hm,hlh⟩:=jv hfa he hs hkn
  have ga:=kJ hfa hkn
  have gb:=kJ hfb hkn
  unfold oN
  refine Ew ?_ fun x hx=>?_
  ·obtain⟨m,h1,_⟩:=hm.ne
   intro e
   have:jL p a k r.a r.b r.c m∈(a.modes.getD k []).map (jL p a k r.a r.b r.c):=List.mem_map.2 ⟨m,h1,rfl⟩
   rw [e] at this;cases this
  ·obtain⟨m,h1,rfl⟩:=List.mem_map.1 hx
   refine⟨_,List.mem_map.2 ⟨m,hm.sub m h1,rfl⟩,?_⟩
   obtain⟨m0,m1⟩:=ga.ms m h1
   have hmm:(aV p k).modes.getD m.toNat ⟨0,[],[]⟩∈(aV p k).modes:=by
    rw [List.getD_eq_getElem?_getD,List.getElem?_eq_getElem m1];exact List.getElem_mem m1
   have hok:=oz hp hkn hmm
   have hu:=(rP (vG hok).1 r.a.toNat).1
   simp only [iN,Bool.and_eq_true,within_iff] at hok
   have k1:=ga.l1;have k2:=ga.l2;have k3:=ga.h1;have k4:=ga.h2
   have j1:=gb.l1;have j2:=gb.l2;have j3:=gb.h1;have j4:=gb.h2
   unfold jL
   dsimp only
   generalize (aV p k).modes.getD m.toNat ⟨0,[],[]⟩=mo at*
   have d1:=hok.1.1.1;have d2:=hok.1.1.2
   rw [iU ⟨k1,k2⟩ ⟨d1,by omega⟩ ⟨by omega,by omega⟩ ⟨by omega,by omega⟩,iU ⟨k3,k4⟩ ⟨d1,by omega⟩ ⟨by omega,by omega⟩ ⟨by omega,by omega⟩,
    iU ⟨j1,j2⟩ ⟨d1,by omega⟩ ⟨by omega,by omega⟩ ⟨by omega,by omega⟩,iU ⟨j3,j4⟩ ⟨d1,by omega⟩ ⟨by omega,by omega⟩ ⟨by omega,by omega⟩]
   refine Int.mul_le_mul_of_nonneg_right ?_ hu
   omega
 rw [if_neg e4] at hr h ⊢
 by_cases e5:r.kind=5
 ·rw [if_pos e5] at hr h ⊢
  simp only [Bool.and_eq_true,decide_eq_true_eq] at hr
  obtain⟨⟨⟨hm,hb⟩,hc⟩,hlt⟩:=hr
  have hk:0≤r.a∧r.a.toNat < p.bS.length:=by have:=hm;simp only [gq,eZ,Bool.and_eq_true,within_iff] at this;omega
  obtain⟨b0,hb⟩:=fC hb
  obtain⟨c0,hc⟩:=fC hc
  have i1:=hs _ hb
  have i2:=hs _ hc
  have s1:=(jv hfa he hs hb).1
  have s2:=(jv hfa he hs hc).1
  have u1:=xP hp hb hk s1
  have u2:=xP hp hc hk s2
  have d1:=oD s1
  have d2:=oD s2
  unfold jam at h ⊢
  simp only [Bool.and_eq_true] at h ⊢
  obtain⟨⟨⟨q1,q2⟩,q3⟩,q4⟩:=h
  replace q1:=of_decide_eq_true q1
  replace q2:=of_decide_eq_true q2
  replace q3:=of_decide_eq_true q3
  replace q4:=of_decide_eq_true q4
  unfold lK lD at q3 q4
  exact⟨⟨⟨decide_eq_true (by omega),decide_eq_true (by omega)⟩,decide_eq_true (by unfold lK lD;omega)⟩,decide_eq_true (by unfold lK lD;omega)⟩
 rw [if_neg e5] at hr h ⊢
 by_cases e6:r.kind=6
 ·rw [if_pos e6] at hr
  simp only [Bool.and_eq_true,decide_eq_true_eq] at hr
  have hk:0≤r.a∧r.a.toNat < p.bD.length:=by have:=hr.1.1;simp only [jk,within_iff] at this;omega
  simp only [qy,decide_eq_true_eq] at h ⊢
  refine Int.lt_of_lt_of_le h (sumTo_le fun k hkn=>?_)
  exact QA hp hkn hk (jv hfa he hs hkn).1
 ·rw [if_neg e6] at hr;cases hr
theorem Sb {p:Proj} {a b:Dom} (hfa:ay p a=true) (hfb:ay p b=true) (hs:dR a b p.acts.length) (h:aR b=true):aR a=true:=by
 cases he:aR a with
 |true=>rfl
 |false=>
  exfalso
  obtain⟨hp,h1,h2,h3⟩:=bN hfb
  simp only [aR,Bool.or_eq_true,List.any_eq_true,List.mem_range] at h
  rcases h with⟨i,hi,hc⟩|⟨m,hm,hl⟩
  ·have:=hs i (by omega)
   have h5:=(jv hfa he hs (show i < p.acts.length by omega)).2
   unfold jW at hc
   rw [List.getElem?_eq_getElem (by omega:i < b.lo.length),List.getElem?_eq_getElem (by omega:i < b.hi.length)] at hc
   have hc:=of_decide_eq_true hc
   rw [List.getD_eq_getElem?_getD (l:=b.lo),List.getElem?_eq_getElem (by omega:i < b.lo.length),List.getD_eq_getElem?_getD (l:=b.hi),List.getElem?_eq_getElem (by omega:i < b.hi.length)] at this
   simp only [Option.getD_some] at this
   omega
  ·obtain⟨i,hi,rfl⟩:=List.getElem_of_mem hm
   obtain⟨m,g1,g2⟩:=(jv hfa he hs (show i < p.acts.length by omega)).1.ne
   have:=(hs i (by omega)).2.2 m g1
   rw [List.getD_eq_getElem?_getD,List.getElem?_eq_getElem hi] at this
   simp only [decide_eq_true_eq] at hl
   simp only [Option.getD_some] at this
   have:=List.length_pos_of_mem this
   omega
theorem Df {p:Proj} {a b:Dom} {r:Rul} (hfa:ay p a=true) (hs:dR a b p.acts.length) (h:refutes p b r=true):refutes p a r=true:=by
 simp only [refutes,Bool.and_eq_true,Bool.or_eq_true] at h ⊢
 obtain⟨hfb,h⟩:=h
 refine⟨hfa,?_⟩
 cases he:aR a with
 |true=>exact .inl rfl
 |false=>
  rcases h with h|⟨hr,h⟩
  ·rw [Sb hfa hfb hs h] at he;cases he
  ·exact .inr ⟨hr,RZ hfa hfb he hs hr h⟩
theorem pO (b:Dom) (l:Lit) {n:Nat} (hl:yR b n):dR (restrict b l) b n:=by
 obtain⟨h1,h2,h3⟩:=hl
 intro k hk
 unfold restrict
 split
 ·rename_i hd
  simp only [fq,Bool.and_eq_true,decide_eq_true_eq] at hd
  dsimp only
  split
  ·refine⟨?_,Int.le_refl _,fun _ h=>h⟩
   by_cases ek:l.act.toNat=k
   ·subst ek;rw [aZ (by omega)];omega
   ·rw [getD_set_ne ek];exact Int.le_refl _
  split
  ·refine⟨Int.le_refl _,?_,fun _ h=>h⟩
   by_cases ek:l.act.toNat=k
   ·subst ek;rw [aZ (by omega)];omega
   ·rw [getD_set_ne ek];exact Int.le_refl _
  split
  ·refine⟨Int.le_refl _,Int.le_refl _,fun m hm=>?_⟩
   by_cases ek:l.act.toNat=k
   ·subst ek;rw [aZ (by omega)] at hm;exact (List.mem_filter.1 hm).1
   ·rw [getD_set_ne ek] at hm;exact hm
  split
  ·refine⟨Int.le_refl _,Int.le_refl _,fun m hm=>?_⟩
   by_cases ek:l.act.toNat=k
   ·subst ek;rw [aZ (by omega)] at hm;exact (List.mem_filter.1 hm).1
   ·rw [getD_set_ne ek] at hm;exact hm
  ·exact⟨Int.le_refl _,Int.le_refl _,fun _ h=>h⟩
 ·exact⟨Int.le_refl _,Int.le_refl _,fun _ h=>h⟩
theorem Dh {a b c:Dom} {l:Lit} {n:Nat} (hb:yR b n) (hc:yR c n) (h1:dR a b n) (h2:dR a (restrict c l) n):dR a (restrict b l) n:=by
 obtain⟨b1,b2,b3⟩:=hb
 obtain⟨c1,c2,c3⟩:=hc
 intro k hk
 have k1:=h1 k hk
 have k2:=h2 k hk
 have hdd:fq b l.act=fq c l.act:=by unfold fq;rw [b1,b2,b3,c1,c2,c3]
 unfold restrict at k2 ⊢
 rw [hdd]
 split
 ·rename_i hd
  rw [if_pos hd] at k2
  have hd':=hd
  simp only [fq,Bool.and_eq_true,decide_eq_true_eq] at hd'
  dsimp only at k2 ⊢
  by_cases ek:l.act.toNat=k
  ·subst ek
   split
   ·rename_i e;rw [if_pos e] at k2;dsimp only at k2 ⊢
    rw [aZ (by omega)] at k2 ⊢
    exact⟨by omega,k1.2⟩
   rename_i e1;rw [if_neg e1] at k2
   split
   ·rename_i e;rw [if_pos e] at k2;dsimp only at k2 ⊢
    rw [aZ (by omega)] at k2 ⊢
    exact⟨k1.1,by omega,k1.2.2⟩
   rename_i e2;rw [if_neg e2] at k2
   split
   ·rename_i e;rw [if_pos e] at k2;dsimp only at k2 ⊢
    rw [aZ (by omega)] at k2 ⊢
    exact⟨k1.1,k1.2.1,fun m hm=>List.mem_filter.2 ⟨k1.2.2 m hm,(List.mem_filter.1 (k2.2.2 m hm)).2⟩⟩
   rename_i e3;rw [if_neg e3] at k2
   split
   ·rename_i e;rw [if_pos e] at k2;dsimp only at k2 ⊢
    rw [aZ (by omega)] at k2 ⊢
    exact⟨k1.1,k1.2.1,fun m hm=>List.mem_filter.2 ⟨k1.2.2 m hm,(List.mem_filter.1 (k2.2.2 m hm)).2⟩⟩
   ·exact k1
  ·split
   ·dsimp only;rw [getD_set_ne ek];exact k1
   split
   ·dsimp only;rw [getD_set_ne ek];exact k1
   split
   ·dsimp only;rw [getD_set_ne ek];exact k1
   split
   ·dsimp only;rw [getD_set_ne ek];exact k1
   ·exact k1
 ·exact k1
theorem oF {n:Nat}:∀(l:List Lit) (b:Dom),yR b n→yR (against b l) n∧dR (against b l) b n
 |[],b,h=>⟨h,dR.refl _ _⟩
 |x::l,b,h=>by
  obtain⟨h1,h2⟩:=oF l (restrict b (negate x)) (jI h _)
  exact⟨h1,h2.trans (pO b _ h)⟩
theorem vH {n:Nat}:∀(l:List Lit) (b:Dom),yR b n→∀x∈l,dR (against b l) (restrict b (negate x)) n
 |[],b,h,x,hx=>by cases hx
 |y::l,b,h,x,hx=>by
  rcases List.mem_cons.1 hx with rfl|hx
  ·exact (oF l _ (jI h _)).2
  ·have h1:=vH l (restrict b (negate y)) (jI h _) x hx
   have h2:=(oF l (restrict b (negate y)) (jI h _)).2
   exact Dh h (jI h _) (h2.trans (pO b _ h)) h1
end Go.Proofs.YtjfnojijdggfhaaGreat.Abs
