/- Rules that refute a domain are broken by each of its schedules; clauses that follow hold. Plain Lean. -/
import Derived.Test.YtefgamefajmdkaaGreatPlain
set_option linter.all false
namespace Go.Proofs.YtefgamefajmdkaaGreat.Abs
def sJ (b:Dom) (s:aM) (n:Nat):Prop:=∀k,k < n→b.lo.getD k 0≤s.starts.getD k 0∧s.starts.getD k 0≤b.hi.getD k 0∧s.modes.getD k 0∈b.modes.getD k []
def bS (l:Lit) (s:aM):Bool:=
 within l.act 0 ((s.starts.length:Int) - 1)&&within l.act 0 ((s.modes.length:Int) - 1)&&
  (if l.kind=1 then decide (s.starts.getD l.act.toNat 0≥l.val) else if l.kind=2 then decide (s.starts.getD l.act.toNat 0≤l.val)
   else if l.kind=3 then decide (s.modes.getD l.act.toNat 0=l.val) else decide (l.kind=4)&&decide (s.modes.getD l.act.toNat 0≠l.val))
def bO (l:List Lit) (s:aM):Bool:=l.any fun x=>bS x s
theorem fJ {p:Proj} {k:Nat} (hk:k < p.acts.length):p.acts[k]? =some (aY p k):=by
 unfold aY;rw [List.getD_eq_getElem?_getD,List.getElem?_eq_getElem hk];rfl
theorem Gi {p:Proj} (h:aF p=true) {k:Nat} (hk:k < p.acts.length):bC (aY p k) p.bg.length p.aX.length=true:=by
 simp only [aF,Bool.and_eq_true] at h
 have h1:=bE.1 h.1.1.1.2 k hk
 unfold rW at h1
 rw [fJ hk] at h1
 simp only [Bool.and_eq_true] at h1
 exact h1.1
theorem oW {p:Proj} (h:aF p=true) {k:Nat} (hk:k < p.acts.length) {m:Mode} (hm:m∈(aY p k).modes):jh m p.bg.length p.aX.length=true:=by
 have h1:=Gi h hk
 simp only [bC,Bool.and_eq_true,List.all_eq_true] at h1
 exact h1.1 m hm
theorem jo {p:Proj} (h:aF p=true) {k:Nat} (hk:k < p.acts.length):1≤(aY p k).modes.length∧(aY p k).modes.length≤3:=by
 have h1:=Gi h hk
 simp only [bC,Bool.and_eq_true,within_iff] at h1
 have:=h1.2.2;omega
theorem kS {p:Proj} (h:aF p=true):1≤p.dead∧p.dead≤60∧1≤p.acts.length∧p.acts.length≤6:=by
 simp only [aF,nE,Bool.and_eq_true,within_iff] at h
 have h1:=h.1.1.1.1.1.1.1;omega
theorem Gj {p:Proj} (h:aF p=true) {y:Link} (hy:y∈p.links):aZ p y.src=true∧aZ p y.dst=true:=by
 simp only [aF,Bool.and_eq_true,List.all_eq_true] at h
 have h1:=h.2 y hy
 simp only [jK,Bool.and_eq_true] at h1
 exact h1.1.1
theorem fA {p:Proj} {n:Int} (h:aZ p n=true):0≤n∧n.toNat < p.acts.length:=by
 simp only [aZ,within_iff] at h;omega
structure kT (p:Proj) (s:aM) (k:Nat):Prop where
 lo:0≤s.starts.getD k 0
 hi:s.starts.getD k 0≤60
 m0:0≤s.modes.getD k 0
 m1:(s.modes.getD k 0).toNat < (aY p k).modes.length
 mem:dW p s k∈(aY p k).modes
 d1:1≤(dW p s k).dur
 d2:(dW p s k).dur≤12
 ok:jh (dW p s k) p.bg.length p.aX.length=true
theorem jZ {p:Proj} {s:aM} (h:bB p s=true):aF p=true∧s.starts.length=p.acts.length∧s.modes.length=p.acts.length:=by
 simp only [bB,Bool.and_eq_true,Bool.not_eq_true',decide_eq_false_iff_not] at h
 exact⟨h.1.1.1,by omega,by omega⟩
theorem iy {p:Proj} {s:aM} (h:bB p s=true) {k:Nat} (hk:k < p.acts.length):kT p s k:=by
 obtain⟨hp,h1,h2⟩:=jZ h
 simp only [bB,Bool.and_eq_true] at h
 have h3:=bE.1 h.2 k hk
 unfold vB at h3
 rw [fJ hk,List.getElem?_eq_getElem (by omega:k < s.starts.length),List.getElem?_eq_getElem (by omega:k < s.modes.length)] at h3
 simp only [Bool.and_eq_true,bn,within_iff] at h3
 have e1:s.starts.getD k 0=s.starts[k]'(by omega):=by rw [List.getD_eq_getElem?_getD,List.getElem?_eq_getElem (by omega)];rfl
 have e2:s.modes.getD k 0=s.modes[k]'(by omega):=by rw [List.getD_eq_getElem?_getD,List.getElem?_eq_getElem (by omega)];rfl
 have hlt:(s.modes.getD k 0).toNat < (aY p k).modes.length:=by rw [e2];omega
 have hm:dW p s k∈(aY p k).modes:=by
  unfold dW;rw [List.getD_eq_getElem?_getD,List.getElem?_eq_getElem hlt];exact List.getElem_mem hlt
 have ho:=oW hp hk hm
 have ho':=ho
 simp only [jh,Bool.and_eq_true,within_iff] at ho'
 exact⟨by rw [e1];omega,by rw [e1];omega,by rw [e2];omega,hlt,hm,ho'.1.1.1,ho'.1.1.2,ho⟩
theorem sM {l:List Int} {n:Int} (h:bA l n=true) (i:Nat):0≤l.getD i 0∧l.getD i 0≤20:=by
 simp only [bA,Bool.and_eq_true,List.all_eq_true] at h
 by_cases hi:i < l.length
 ·have:=h.1 _ (List.getElem_mem hi)
  rw [List.getD_eq_getElem?_getD,List.getElem?_eq_getElem hi]
  simpa [dO,within_iff] using this
 ·rw [List.getD_eq_getElem?_getD,List.getElem?_eq_none (by omega)];simp
theorem kT.use {p:Proj} {s:aM} {k:Nat} (h:kT p s k) (r:Nat):0≤(dW p s k).use.getD r 0∧(dW p s k).use.getD r 0≤20:=by
 have:=h.ok
 simp only [jh,Bool.and_eq_true] at this
 exact sM this.1.2 r
theorem kT.con {p:Proj} {s:aM} {k:Nat} (h:kT p s k) (r:Nat):0≤(dW p s k).con.getD r 0:=by
 have:=h.ok
 simp only [jh,Bool.and_eq_true] at this
 exact (sM this.2 r).1
theorem vV:∀(l:List Int) (a:Int),l.foldl min a≤a∧∀x∈l,l.foldl min a≤x
 |[],a=>⟨Int.le_refl _,by simp⟩
 |y::l,a=>by
  obtain⟨h1,h2⟩:=vV l (min a y)
  refine⟨by simp only [List.foldl_cons];omega,fun x hx=>?_⟩
  simp only [List.foldl_cons]
  rcases List.mem_cons.1 hx with rfl|hx
  ·omega
  ·exact h2 x hx
theorem zk {l:List Int} {x:Int} (h:x∈l):least l≤x:=by
 cases l with
 |nil=>cases h
 |cons y l=>
  rcases List.mem_cons.1 h with rfl|h
  ·exact (vV l x).1
  ·exact (vV l y).2 x h
theorem rF {ms:List Int} {m:Mode}:∀(l:List Mode) (k j:Nat),l[j]? =some m→((k+j:Nat):Int)∈ms→m∈aS ms l k
 |[],k,j,h,_=>by simp at h
 |y::l,k,0,h,hm=>by
  simp at h;subst h
  rw [aS,if_pos (by simpa using hm)]
  exact List.mem_cons_self ..
 |y::l,k,j+1,h,hm=>by
  have:=rF l (k+1) j (by simpa using h) (by rw [show k+1+j=k+(j+1) by omega];exact hm)
  rw [aS]
  split
  ·exact List.mem_cons_of_mem _ this
  ·exact this
theorem yt {p:Proj} {s:aM} {k:Nat} {ms:List Int} (h:kT p s k) (hm:s.modes.getD k 0∈ms):dW p s k∈chosen (aY p k) ms:=by
 refine rF _ 0 (s.modes.getD k 0).toNat ?_ (by rw [Nat.zero_add,Int.toNat_of_nonneg h.m0];exact hm)
 unfold dW
 rw [List.getD_eq_getElem?_getD (l:=(aY p k).modes),List.getElem?_eq_getElem h.m1];rfl
theorem rG {p:Proj} {s:aM} {k:Nat} {ms:List Int} (h:kT p s k) (hm:s.modes.getD k 0∈ms):nQ (aY p k) ms≤(dW p s k).dur:=
 zk (List.mem_map.2 ⟨_,yt h hm,rfl⟩)
theorem JY {l:List Mode} {f:Mode→Option Int} {m:Mode} {v:Int} (hm:m∈l) (hv:(f m).getD 0≤v) (h0:0≤v):leastOf l f≤v:=by
 unfold leastOf
 split
 ·exact Int.le_trans (zk (List.mem_map.2 ⟨m,hm,rfl⟩)) hv
 ·exact h0
theorem DY {l:List Int} {r:Int} (h:0≤l.getD r.toNat 0):(bR l r).getD 0≤l.getD r.toNat 0:=by
 unfold bR;split
 ·exact Int.le_refl _
 ·exact h
theorem Fq {p:Proj} {s:aM} {k:Nat} {ms:List Int} (h:kT p s k) (hm:s.modes.getD k 0∈ms) (r:Int):fU (aY p k) ms r≤(dW p s k).use.getD r.toNat 0:=
 JY (yt h hm) (DY (h.use _).1) (h.use _).1
theorem UY {p:Proj} {s:aM} {k:Nat} {ms:List Int} (h:kT p s k) (hm:s.modes.getD k 0∈ms) (r:Int):qQ (aY p k) ms r≤(dW p s k).con.getD r.toNat 0:=
 JY (yt h hm) (DY (h.con _)) (h.con _)
theorem sumTo_le {f g:Nat→Int}:∀{n:Nat},(∀k,k < n→f k≤g k)→sumTo f n≤sumTo g n
 |0,_=>Int.le_refl _
 |n+1,h=>by
  have h1:=sumTo_le (n:=n) (fun k hk=>h k (by omega))
  have h2:=h n (by omega)
  simp only [sumTo];omega
theorem Mq {f g:Nat→Int}:∀{n:Nat},sumTo (fun k=>f k+g k) n=sumTo f n+sumTo g n
 |0=>rfl
 |n+1=>by simp only [sumTo];rw [Mq];omega
theorem JZ:∀{n:Nat},sumTo (fun _=>0) n=0
 |0=>rfl
 |n+1=>by simp only [sumTo];rw [JZ];rfl
theorem nZ {p:Proj} {s:aM} {r:Rul} (hr:r∈dY p) (hb:breaks p s r=true):dZ p s=false:=by
 cases h:dZ p s with
 |false=>rfl
 |true=>
  simp only [dZ,Bool.and_eq_true,decide_eq_true_eq] at h
  have h1:=h.2
  unfold oN at h1
  rw [if_pos h.1] at h1
  have:r∈(dY p).filter (breaks p s):=List.mem_filter.2 ⟨hr,hb⟩
  have:=List.length_pos_of_mem this
  omega
theorem WR {p:Proj} {k:Nat} (h:k < p.links.length):iZ k∈dY p:=by
 simp only [dY,List.mem_append];exact .inl (.inl (.inl (.inl (List.mem_map.2 ⟨k,List.mem_range.2 h,rfl⟩))))
theorem TR {p:Proj} {k:Nat} (h:k < p.acts.length):endRule k∈dY p:=by
 simp only [dY,List.mem_append];exact .inl (.inl (.inl (.inr (List.mem_map.2 ⟨k,List.mem_range.2 h,rfl⟩))))
theorem QO {p:Proj} {r t:Nat} (h:r < p.bg.length) (ht:t≤60):lZ r t∈dY p:=by
 simp only [dY,List.mem_append]
 exact .inl (.inl (.inr (List.mem_flatMap.2 ⟨r,List.mem_range.2 h,List.mem_map.2 ⟨t,List.mem_range.2 (by omega),rfl⟩⟩)))
theorem pair_mem {p:Proj} {r b c:Nat} (h:r < p.bg.length) (hm:eT p r=true) (hb:b < c) (hc:c < p.acts.length):jG r b c∈dY p:=by
 simp only [dY,List.mem_append]
 refine .inl (.inr (List.mem_flatMap.2 ⟨r,List.mem_range.2 h,List.mem_flatMap.2 ⟨b,List.mem_range.2 (by omega),?_⟩⟩))
 unfold fE
 rw [if_pos hm]
 exact List.mem_map.2 ⟨c - (b+1),List.mem_range.2 (by omega),by rw [show b+1+(c - (b+1))=c by omega]⟩
theorem UZ {p:Proj} {k:Nat} (h:k < p.aX.length):gF k∈dY p:=by
 simp only [dY,List.mem_append];exact .inr (List.mem_map.2 ⟨k,List.mem_range.2 h,rfl⟩)
theorem Bp {s d x y:Int} (hs:0≤s∧s≤100) (hd:1≤d∧d≤100) (hx:0≤x∧x≤100) (hy:0≤y∧y≤100):overlap s d x y=max (min (s+d) y - max s x) 0:=by
 unfold overlap fits
 rw [if_pos ⟨within_iff.2 (by omega),within_iff.2 (by omega),within_iff.2 (by omega),within_iff.2 (by omega)⟩,if_neg (by omega)]
theorem jq {s d x y:Int} (hs: -2≤s∧s≤62) (hd:1≤d∧d≤100) (hx:0≤x∧x≤100) (hy:0≤y∧y≤100):overlap s d x y=max (min (s+d) y - max s x) 0:=by
 unfold overlap fits
 rw [if_pos ⟨within_iff.2 (by omega),within_iff.2 (by omega),within_iff.2 (by omega),within_iff.2 (by omega)⟩,if_neg (by omega)]
theorem TS {p:Proj} {s:aM} {k:Nat} (h:kT p s k) (r x:Int) (hx:0≤x):∀(n:Nat),x+n≤100→sumTo (fun i=>Dc p s r (x+i) k) n=(dW p s k).use.getD r.toNat 0*overlap (s.starts.getD k 0) (dW p s k).dur x (x+n)
 |0,hn=>by
  rw [Bp ⟨h.lo,by have:=h.hi;omega⟩ ⟨h.d1,by have:=h.d2;omega⟩ ⟨hx,by omega⟩ ⟨by omega,by omega⟩]
  rw [show max (min (s.starts.getD k 0+(dW p s k).dur) (x+((0:Nat):Int)) - max (s.starts.getD k 0) x) 0=0 by omega]
  simp [sumTo]
 |n+1,hn=>by
  have h1:=h.lo;have h2:=h.hi;have h3:=h.d1;have h4:=h.d2
  simp only [sumTo]
  rw [TS h r x hx n (by omega)]
  rw [Bp ⟨h1,by omega⟩ ⟨h3,by omega⟩ ⟨hx,by omega⟩ ⟨by omega,by omega⟩,Bp ⟨h1,by omega⟩ ⟨h3,by omega⟩ ⟨hx,by omega⟩ ⟨by omega,by omega⟩]
  unfold Dc runs nH
  generalize (dW p s k).use.getD r.toNat 0=u
  generalize s.starts.getD k 0=a at*
  generalize (dW p s k).dur=d at*
  by_cases hr:a≤x+n∧a+d > x+n
  ·rw [if_pos (by simp [hr])]
   rw [show max (min (a+d) (x+((n+1:Nat):Int)) - max a x) 0=max (min (a+d) (x+(n:Int)) - max a x) 0+1 by omega,Int.mul_add,Int.mul_one]
  ·rw [if_neg (by simp only [Bool.and_eq_true,decide_eq_true_eq];exact hr)]
   rw [show max (min (a+d) (x+((n+1:Nat):Int)) - max a x) 0=max (min (a+d) (x+(n:Int)) - max a x) 0 by omega,Int.add_zero]
theorem QS (f:Nat→Nat→Int):∀(n m:Nat),sumTo (fun i=>sumTo (fun k=>f i k) m) n=sumTo (fun k=>sumTo (fun i=>f i k) n) m
 |0,m=>by simp only [sumTo];rw [JZ]
 |n+1,m=>by
  have:=QS f n m
  simp only [sumTo]
  rw [this,Mq]
theorem SG {p:Proj} {s:aM} (r x:Int) (n:Nat):sumTo (fun i=>yY p s r (x+i)) n=sumTo (fun k=>sumTo (fun i=>Dc p s r (x+i) k) n) p.acts.length:=
 QS (fun i k=>Dc p s r (x+i) k) n p.acts.length
theorem Mr (l:List Step) (x:Int):∀n:Nat,pK l x n=sumTo (fun i=>iO (x+i) l 0) n
 |0=>rfl
 |n+1=>by simp only [pK,sumTo];rw [Mr l x n]
theorem QT {f g:Nat→Int}:∀{n:Nat},sumTo f n > sumTo g n→∃k,k < n∧f k > g k
 |0,h=>by simp [sumTo] at h
 |n+1,h=>by
  simp only [sumTo] at h
  by_cases hk:f n > g n
  ·exact⟨n,by omega,hk⟩
  ·obtain⟨k,h1,h2⟩:=QT (f:=f) (g:=g) (n:=n) (by omega)
   exact⟨k,by omega,h2⟩
structure aan (p:Proj) (b:Dom) (k:Nat):Prop where
 l1: -2≤b.lo.getD k 0
 l2:b.lo.getD k 0≤62
 h1: -2≤b.hi.getD k 0
 h2:b.hi.getD k 0≤62
 ms:∀m∈b.modes.getD k [],0≤m∧m.toNat < (aY p k).modes.length
theorem tQ {n:Nat} {m:Int} (h:m∈aK n):0≤m∧m.toNat < n:=by
 unfold aK at h
 split at h
 ·obtain⟨k,h1,rfl⟩:=List.mem_map.1 h
  have:=List.mem_range.1 h1
  simp at this ⊢;omega
 ·simp at h
theorem Ox {n:Nat} (hn:n≤200) {m:Int} (h0:0≤m) (h:m.toNat < n):m∈aK n:=by
 unfold aK
 rw [if_pos (within_iff.2 (by omega))]
 exact List.mem_map.2 ⟨m.toNat,List.mem_range.2 (by omega),by simp;omega⟩
theorem iA {p:Proj} {b:Dom} (h:aC p b=true):aF p=true∧b.lo.length=p.acts.length∧b.hi.length=p.acts.length∧b.modes.length=p.acts.length:=by
 simp only [aC,Bool.and_eq_true,Bool.not_eq_true',decide_eq_false_iff_not] at h
 exact⟨h.1.1.1.1,by omega,by omega,by omega⟩
theorem kU {p:Proj} {b:Dom} (h:aC p b=true) {k:Nat} (hk:k < p.acts.length):aan p b k:=by
 obtain⟨hp,h1,h2,h3⟩:=iA h
 simp only [aC,Bool.and_eq_true] at h
 have h4:=bE.1 h.2 k hk
 unfold nG at h4
 rw [fJ hk,List.getElem?_eq_getElem (by omega:k < b.lo.length),List.getElem?_eq_getElem (by omega:k < b.hi.length),List.getElem?_eq_getElem (by omega:k < b.modes.length)] at h4
 simp only [Bool.and_eq_true,lq,within_iff,subset,List.all_eq_true,List.contains_iff_mem] at h4
 have e1:b.lo.getD k 0=b.lo[k]'(by omega):=by rw [List.getD_eq_getElem?_getD,List.getElem?_eq_getElem (by omega)];rfl
 have e2:b.hi.getD k 0=b.hi[k]'(by omega):=by rw [List.getD_eq_getElem?_getD,List.getElem?_eq_getElem (by omega)];rfl
 have e3:b.modes.getD k []=b.modes[k]'(by omega):=by rw [List.getD_eq_getElem?_getD,List.getElem?_eq_getElem (by omega)];rfl
 exact⟨by rw [e1];omega,by rw [e1];omega,by rw [e2];omega,by rw [e2];omega,fun m hm=>tQ (h4.2 m (by rw [e3] at hm;exact hm))⟩
theorem XO {p:Proj} {b:Dom} {s:aM} {k:Nat} (h:kT p s k) (hb:aan p b k) (hin:b.lo.getD k 0≤s.starts.getD k 0∧s.starts.getD k 0≤b.hi.getD k 0∧s.modes.getD k 0∈b.modes.getD k []) {r x y:Int} (hx:0≤x∧x≤60) (hy:0≤y∧y≤60):
  lS p b r x y k≤(dW p s k).use.getD r.toNat 0*overlap (s.starts.getD k 0) (dW p s k).dur x y:=by
 unfold lS
 refine Int.le_trans (zk (List.mem_map.2 ⟨s.modes.getD k 0,hin.2.2,rfl⟩)) ?_
 unfold gT
 show min (overlap _ (dW p s k).dur x y) (overlap _ (dW p s k).dur x y)*(dW p s k).use.getD r.toNat 0≤_
 have h1:=h.lo;have h2:=h.hi;have h3:=h.d1;have h4:=h.d2
 have k1:=hb.l1;have k2:=hb.l2;have k3:=hb.h1;have k4:=hb.h2
 rw [jq ⟨k1,k2⟩ ⟨h3,by omega⟩ ⟨hx.1,by omega⟩ ⟨hy.1,by omega⟩,jq ⟨k3,k4⟩ ⟨h3,by omega⟩ ⟨hx.1,by omega⟩ ⟨hy.1,by omega⟩,jq ⟨by omega,by omega⟩ ⟨h3,by omega⟩ ⟨hx.1,by omega⟩ ⟨hy.1,by omega⟩,Int.mul_comm]
 refine Int.mul_le_mul_of_nonneg_left ?_ (h.use _).1
 omega
theorem Oy {p:Proj} {b:Dom} {s:aM} {r:Rul} (hf:aC p b=true) (hr:fq p r=true) (hs:bB p s=true) (hin:sJ b s p.acts.length) (h:fails p b r=true):dZ p s=false:=by
 obtain⟨hp,hl1,hl2⟩:=jZ hs
 simp only [fq,Bool.and_eq_true] at hr
 have hr:=hr.2
 unfold fails at h
 by_cases e1:r.kind=1
 ·rw [if_pos e1] at hr h
  simp only [Bool.and_eq_true,within_iff,decide_eq_true_eq] at hr
  have hk:r.a.toNat < p.links.length:=by omega
  refine nZ (WR hk) ?_
  have el:gH p r.a=p.links[r.a.toNat]:=by unfold gH;rw [List.getD_eq_getElem?_getD,List.getElem?_eq_getElem hk];rfl
  obtain⟨hs1,hs2⟩:=Gj hp (y:=gH p r.a) (by rw [el];exact List.getElem_mem hk)
  have e2:gH p ((r.a.toNat:Nat):Int)=gH p r.a:=by unfold gH;rw [Int.toNat_natCast]
  unfold breaks iZ
  rw [if_pos rfl]
  show qU p s (gH p (r.a.toNat:Int))=true
  rw [e2]
  generalize gH p r.a=y at*
  have g1:=iy hs (fA hs1).2
  have i1:=hin _ (fA hs1).2
  have i2:=hin _ (fA hs2).2
  simp only [nS,decide_eq_true_eq] at h
  simp only [qU,decide_eq_true_eq]
  have hd:=rG g1 i1.2.2
  unfold kH at h
  unfold nH
  split at h
  ·rename_i hfe;rw [if_pos hfe];omega
  ·rename_i hfe;rw [if_neg hfe];omega
 rw [if_neg e1] at hr h
 by_cases e2:r.kind=2
 ·rw [if_pos e2] at hr h
  simp only [Bool.and_eq_true,decide_eq_true_eq] at hr h
  obtain⟨h0,hk⟩:=fA hr.1.1
  refine nZ (TR hk) ?_
  have g1:=iy hs hk
  have i1:=hin _ hk
  have hd:=rG g1 i1.2.2
  unfold kH at h
  unfold breaks endRule
  rw [if_neg (by simp),if_pos rfl]
  simp only [decide_eq_true_eq,Int.toNat_natCast]
  unfold nH;omega
 rw [if_neg e2] at hr h
 by_cases e3:r.kind=3
 ·rw [if_pos e3] at hr h
  simp only [Bool.and_eq_true,decide_eq_true_eq,bn,within_iff] at hr h
  have hk:0≤r.a∧r.a.toNat < p.bg.length:=by have:=hr.1.1;simp only [dP,within_iff] at this;omega
  refine nZ (QO (t:=r.b.toNat) hk.2 (by omega)) ?_
  unfold breaks lZ
  rw [if_neg (by simp),if_neg (by simp),if_pos rfl]
  simp only [decide_eq_true_eq]
  have ea:((r.a.toNat:Nat):Int)=r.a:=by omega
  have eb:((r.b.toNat:Nat):Int)=r.b:=by omega
  rw [ea,eb]
  refine Int.lt_of_lt_of_le h ?_
  unfold CY yY
  refine sumTo_le fun k hk=>?_
  have g1:=iy hs hk
  have i1:=hin k hk
  unfold rX Dc
  split
  ·rename_i hc
   have hd:=rG g1 i1.2.2
   unfold kH at hc
   have hrun:runs p s r.b k=true:=by
    simp only [runs,nH,Bool.and_eq_true]
    exact⟨decide_eq_true (by omega),decide_eq_true (by omega)⟩
   rw [if_pos hrun]
   exact Fq g1 i1.2.2 r.a
  ·split
   ·exact (g1.use _).1
   ·exact Int.le_refl _
 rw [if_neg e3] at hr h
 by_cases e4:r.kind=4
 ·rw [if_pos e4] at hr h
  simp only [Bool.and_eq_true,decide_eq_true_eq,bn,within_iff] at hr h
  have hk:0≤r.a∧r.a.toNat < p.bg.length:=by have:=hr.1.1.1;simp only [dP,within_iff] at this;omega
  unfold lY at h
  have hso:gD (uw p r.a).steps=true:=by
   have h9:=hp
   simp only [aF,Bool.and_eq_true,List.all_eq_true] at h9
   have h8:=h9.1.1.2 (uw p r.a) (by unfold uw;rw [List.getD_eq_getElem?_getD,List.getElem?_eq_getElem hk.2];exact List.getElem_mem hk.2)
   simp only [kF,Bool.and_eq_true] at h8
   exact h8.2.1
  rw [if_pos ⟨hso,by simp only [bn,within_iff];omega,by simp only [bn,within_iff];omega⟩,Mr] at h
  have hle:nR p b r.a r.b r.c≤sumTo (fun i=>yY p s r.a (r.b+i)) (r.c - r.b).toNat:=by
   rw [SG]
   unfold nR
   refine sumTo_le fun k hk=>?_
   have g1:=iy hs hk
   have i1:=hin k hk
   rw [TS g1 r.a r.b (by omega) _ (by omega)]
   rw [show r.b+((r.c - r.b).toNat:Int)=r.c by omega]
   exact XO g1 (kU hf hk) i1 (by omega) (by omega)
  obtain⟨i,hi,hgt⟩:=QT (Int.lt_of_lt_of_le h hle)
  refine nZ (QO (t:=(r.b+i).toNat) hk.2 (by omega)) ?_
  unfold breaks lZ
  rw [if_neg (by simp),if_neg (by simp),if_pos rfl]
  simp only [decide_eq_true_eq]
  have ea:((r.a.toNat:Nat):Int)=r.a:=by omega
  have eb:(((r.b+i).toNat:Nat):Int)=r.b+i:=by omega
  rw [ea,eb]
  exact hgt
 rw [if_neg e4] at hr h
 by_cases e5:r.kind=5
 ·rw [if_pos e5] at hr h
  simp only [Bool.and_eq_true,decide_eq_true_eq] at hr
  obtain⟨⟨⟨hm,hb⟩,hc⟩,hlt⟩:=hr
  have hk:0≤r.a∧r.a.toNat < p.bg.length:=by have:=hm;simp only [eT,dP,Bool.and_eq_true,within_iff] at this;omega
  obtain⟨b0,hb⟩:=fA hb
  obtain⟨c0,hc⟩:=fA hc
  have ea:((r.a.toNat:Nat):Int)=r.a:=by omega
  have eb:((r.b.toNat:Nat):Int)=r.b:=by omega
  have ec:((r.c.toNat:Nat):Int)=r.c:=by omega
  refine nZ (pair_mem (r:=r.a.toNat) (b:=r.b.toNat) (c:=r.c.toNat) hk.2 (by rw [ea];exact hm) (by omega) hc) ?_
  unfold breaks jG
  rw [if_neg (by simp),if_neg (by simp),if_neg (by simp),if_pos rfl]
  simp only [ea,eb,ec]
  have g1:=iy hs hb
  have i1:=hin _ hb
  have g2:=iy hs hc
  have i2:=hin _ hc
  unfold jam at h
  simp only [Bool.and_eq_true] at h
  obtain⟨⟨⟨q1,q2⟩,q3⟩,q4⟩:=h
  replace q1:=of_decide_eq_true q1
  replace q2:=of_decide_eq_true q2
  replace q3:=of_decide_eq_true q3
  replace q4:=of_decide_eq_true q4
  unfold jL kH at q3 q4
  have u1:=Fq g1 i1.2.2 r.a
  have u2:=Fq g2 i2.2.2 r.a
  have d1:=rG g1 i1.2.2
  have d2:=rG g2 i2.2.2
  simp only [uy,Df,nH,Bool.and_eq_true,Bool.not_eq_true']
  exact⟨⟨⟨decide_eq_false (by omega),decide_eq_false (by omega)⟩,decide_eq_false (by omega)⟩,decide_eq_false (by omega)⟩
 rw [if_neg e5] at hr h
 by_cases e6:r.kind=6
 ·rw [if_pos e6] at hr
  simp only [Bool.and_eq_true,decide_eq_true_eq] at hr
  have hk:0≤r.a∧r.a.toNat < p.aX.length:=by have:=hr.1.1;simp only [iG,within_iff] at this;omega
  refine nZ (UZ hk.2) ?_
  unfold breaks gF
  rw [if_neg (by simp),if_neg (by simp),if_neg (by simp),if_neg (by simp)]
  simp only [decide_eq_true_eq]
  have ea:((r.a.toNat:Nat):Int)=r.a:=by omega
  rw [ea]
  simp only [mH,decide_eq_true_eq] at h
  refine Int.lt_of_lt_of_le h ?_
  unfold Jl
  refine sumTo_le fun k hk=>?_
  exact UY (iy hs hk) (hin k hk).2.2 r.a
 ·rw [if_neg e6] at hr;cases hr
theorem KT {p:Proj} {b:Dom} {s:aM} {r:Rul} (h:refutes p b r=true) (hs:bB p s=true) (hin:sJ b s p.acts.length):dZ p s=false:=by
 simp only [refutes,Bool.and_eq_true,Bool.or_eq_true] at h
 obtain⟨hf,h|⟨hr,h⟩⟩:=h
 ·exfalso
  obtain⟨hp,h1,h2,h3⟩:=iA hf
  simp only [bF,Bool.or_eq_true,List.any_eq_true,List.mem_range] at h
  rcases h with⟨i,hi,hc⟩|⟨m,hm,hl⟩
  ·have:=hin i (by omega)
   unfold kG at hc
   rw [List.getElem?_eq_getElem (by omega:i < b.lo.length),List.getElem?_eq_getElem (by omega:i < b.hi.length)] at hc
   simp only [decide_eq_true_eq] at hc
   rw [List.getD_eq_getElem?_getD,List.getElem?_eq_getElem (by omega:i < b.lo.length),List.getD_eq_getElem?_getD (l:=b.hi),List.getElem?_eq_getElem (by omega:i < b.hi.length)] at this
   simp only [Option.getD_some] at this
   omega
  ·obtain⟨i,hi,rfl⟩:=List.getElem_of_mem hm
   have:=(hin i (by omega)).2.2
   rw [List.getD_eq_getElem?_getD,List.getElem?_eq_getElem hi] at this
   simp only [decide_eq_true_eq] at hl
   simp only [Option.getD_some] at this
   have:=List.length_pos_of_mem this
   omega
 ·exact Oy hf hr hs hin h
structure tT (b:Dom) (n:Nat):Prop where
 lo:b.lo.length=n
 hi:b.hi.length=n
 ms:b.modes.length=n
theorem vW {v:Int} (h: -2≤v∧v≤62):clamped v=v:=by unfold clamped;omega
theorem jO {b:Dom} {n:Nat} (h:tT b n) (l:Lit):tT (restrict b l) n:=by
 obtain⟨h1,h2,h3⟩:=h
 unfold restrict
 split
 ·dsimp only
  split
  ·exact⟨by simpa using h1,h2,h3⟩
  ·split
   ·exact⟨h1,by simpa using h2,h3⟩
   ·split
    ·exact⟨h1,h2,by simpa using h3⟩
    ·split
     ·exact⟨h1,h2,by simpa using h3⟩
     ·exact⟨h1,h2,h3⟩
 ·exact⟨h1,h2,h3⟩
theorem dG {α:Type} {l:List α} {i:Nat} {x d:α} (h:i < l.length):(l.set i x).getD i d=x:=by
 rw [List.getD_eq_getElem?_getD,List.getElem?_set_self h];rfl
theorem getD_set_ne {α:Type} {l:List α} {i j:Nat} {x d:α} (h:i≠j):(l.set i x).getD j d=l.getD j d:=by
 rw [List.getD_eq_getElem?_getD,List.getElem?_set_ne h,List.getD_eq_getElem?_getD]
def Fu (l:Lit):Prop:= -2≤l.val∧l.val≤62
theorem yu {b:Dom} {s:aM} {n:Nat} {l:Lit} (hl:tT b n) (hin:sJ b s n) (hf:Fu l) (hh:bS l s=true):sJ (restrict b l) s n:=by
 obtain⟨h1,h2,h3⟩:=hl
 simp only [bS,Bool.and_eq_true,within_iff] at hh
 obtain⟨⟨ha,hb⟩,hh⟩:=hh
 unfold restrict
 split
 ·rename_i hd
  simp only [fT,Bool.and_eq_true,decide_eq_true_eq] at hd
  have hn:l.act.toNat < n:=by omega
  dsimp only
  rw [vW hf]
  have hk:=hin _ hn
  intro k hkn
  have hk2:=hin k hkn
  split
  ·rename_i e
   rw [if_pos e] at hh
   have hh:=of_decide_eq_true hh
   refine⟨?_,hk2.2⟩
   by_cases ek:l.act.toNat=k
   ·subst ek;rw [dG (by omega)];omega
   ·rw [getD_set_ne ek];exact hk2.1
  rename_i e1
  rw [if_neg e1] at hh
  split
  ·rename_i e
   rw [if_pos e] at hh
   have hh:=of_decide_eq_true hh
   refine⟨hk2.1,?_,hk2.2.2⟩
   by_cases ek:l.act.toNat=k
   ·subst ek;rw [dG (by omega)];omega
   ·rw [getD_set_ne ek];exact hk2.2.1
  rename_i e2
  rw [if_neg e2] at hh
  split
  ·rename_i e
   rw [if_pos e] at hh
   have hh:=of_decide_eq_true hh
   refine⟨hk2.1,hk2.2.1,?_⟩
   by_cases ek:l.act.toNat=k
   ·subst ek;rw [dG (by omega)]
    exact List.mem_filter.2 ⟨hk.2.2,decide_eq_true hh⟩
   ·rw [getD_set_ne ek];exact hk2.2.2
  rename_i e3
  rw [if_neg e3] at hh
  simp only [Bool.and_eq_true] at hh
  have e4:=of_decide_eq_true hh.1
  have hh:=of_decide_eq_true hh.2
  rw [if_pos e4]
  refine⟨hk2.1,hk2.2.1,?_⟩
  by_cases ek:l.act.toNat=k
  ·subst ek;rw [dG (by omega)]
   exact List.mem_filter.2 ⟨hk.2.2,decide_eq_true hh⟩
  ·rw [getD_set_ne ek];exact hk2.2.2
 ·exact hin
theorem Bq {p:Proj} {l:Lit} (h:fQ p l=true):aF p=true∧aZ p l.act=true∧ -1≤l.val∧l.val≤61∧(l.kind=1∨l.kind=2∨l.kind=3∨l.kind=4):=by
 simp only [fQ,Bool.and_eq_true] at h
 obtain⟨⟨h1,h2⟩,h3⟩:=h
 refine⟨h1,h2,?_⟩
 split at h3
 ·rename_i e;simp only [within_iff] at h3;omega
 ·split at h3
  ·rename_i e
   obtain⟨h4,h5⟩:=fA h2
   rw [fJ h5] at h3
   simp only [within_iff] at h3
   have:=jo h1 h5
   omega
  ·cases h3
theorem Va {p:Proj} {l:Lit} (h:fQ p l=true):Fu l:=by
 have:=Bq h;unfold Fu;omega
theorem Vb {p:Proj} {l:Lit} (h:fQ p l=true):Fu (negate l)∧(negate l).act=l.act:=by
 obtain⟨_,_,h1,h2,h3⟩:=Bq h
 unfold negate Fu
 rw [if_pos (within_iff.2 (by omega))]
 rcases h3 with e|e|e|e<;>rw [e]<;>simp<;>omega
theorem Oz {p:Proj} {s:aM} {l:Lit} (h:fQ p l=true) (hs:bB p s=true):bS (negate l) s= !bS l s:=by
 obtain⟨hp,ha,h1,h2,h3⟩:=Bq h
 obtain⟨h4,h5⟩:=fA ha
 obtain⟨_,hl1,hl2⟩:=jZ hs
 have w1:within l.act 0 ((s.starts.length:Int) - 1)=true:=within_iff.2 (by omega)
 have w2:within l.act 0 ((s.modes.length:Int) - 1)=true:=within_iff.2 (by omega)
 have w3:within l.val (-100000) 100000=true:=within_iff.2 (by omega)
 clear h h1 h2 ha h4 h5
 obtain⟨k,a,v⟩:=l
 dsimp only at w1 w2 w3 h3
 unfold negate
 rw [if_pos w3]
 rcases h3 with rfl|rfl|rfl|rfl
 ·show bS ⟨2,a,v - 1⟩ s= !bS ⟨1,a,v⟩ s
  unfold bS
  dsimp only
  rw [w1,w2]
  show (decide (s.starts.getD a.toNat 0≤v - 1))= !(decide (s.starts.getD a.toNat 0≥v))
  by_cases hh:s.starts.getD a.toNat 0≥v
  ·rw [decide_eq_true hh,decide_eq_false (by omega)];rfl
  ·rw [decide_eq_false hh,decide_eq_true (by omega)];rfl
 ·show bS ⟨1,a,v+1⟩ s= !bS ⟨2,a,v⟩ s
  unfold bS
  dsimp only
  rw [w1,w2]
  show (decide (s.starts.getD a.toNat 0≥v+1))= !(decide (s.starts.getD a.toNat 0≤v))
  by_cases hh:s.starts.getD a.toNat 0≤v
  ·rw [decide_eq_true hh,decide_eq_false (by omega)];rfl
  ·rw [decide_eq_false hh,decide_eq_true (by omega)];rfl
 ·show bS ⟨4,a,v⟩ s= !bS ⟨3,a,v⟩ s
  unfold bS
  dsimp only
  rw [w1,w2]
  show (decide (s.modes.getD a.toNat 0≠v))= !(decide (s.modes.getD a.toNat 0=v))
  simp
 ·show bS ⟨3,a,v⟩ s= !bS ⟨4,a,v⟩ s
  unfold bS
  dsimp only
  rw [w1,w2]
  show (decide (s.modes.getD a.toNat 0=v))= !(decide (s.modes.getD a.toNat 0≠v))
  simp
theorem tV {p:Proj} {l:List Lit} (h:eZ p l=true):∀x∈l,fQ p x=true:=by
 intro x hx
 simp only [eZ,Bool.and_eq_true] at h
 obtain⟨i,hi,rfl⟩:=List.getElem_of_mem hx
 have:=bE.1 h.1 i hi
 unfold clauseAt at this
 rw [List.getElem?_eq_getElem hi] at this
 simp only [Bool.and_eq_true] at this
 exact this.1
theorem Bt {p:Proj} {s:aM} {n:Nat} (hs:bB p s=true):∀(l:List Lit) (b:Dom),(∀x∈l,fQ p x=true)→bO l s=false→tT b n→sJ b s n→tT (against b l) n∧sJ (against b l) s n
 |[],b,_,_,hl,hin=>⟨hl,hin⟩
 |x::l,b,hok,hf,hl,hin=>by
  simp only [bO,List.any_cons,Bool.or_eq_false_iff] at hf
  have hx:=hok x (List.mem_cons_self ..)
  exact Bt hs l (restrict b (negate x)) (fun y hy=>hok y (List.mem_cons_of_mem _ hy)) hf.2 (jO hl _)
   (yu hl hin (Vb hx).1 (by rw [Oz hx hs,hf.1];rfl))
theorem vX {p:Proj} {s:aM} (h:dZ p s=true):bB p s=true:=by
 simp only [dZ,Bool.and_eq_true] at h;exact h.1
theorem QU {p:Proj} {s:aM} (h:dZ p s=true) {k:Nat} (hk:k < p.acts.length):nH p s k≤p.dead:=by
 by_cases hh:nH p s k≤p.dead
 ·exact hh
 ·have:=nZ (s:=s) (TR hk) (by
   unfold breaks endRule
   rw [if_neg (by simp),if_pos rfl]
   exact decide_eq_true (by simp only [Int.toNat_natCast];omega))
  rw [h] at this;cases this
theorem uL {p:Proj} (h:aF p=true):tT (bM p) p.acts.length:=by
 unfold bM;rw [if_pos h];exact⟨by simp [fF],by simp [fF],by simp [fF]⟩
theorem jI {α β:Type} {l:List α} {f:α→β} {k:Nat} {d:β} (h:k < l.length):(l.map f).getD k d=f l[k]:=by
 rw [List.getD_eq_getElem?_getD,List.getElem?_map,List.getElem?_eq_getElem h];rfl
theorem TT {p:Proj} {s:aM} (h:dZ p s=true):sJ (bM p) s p.acts.length:=by
 have hs:=vX h
 obtain⟨hp,_,_⟩:=jZ hs
 intro k hk
 have g:=iy hs hk
 have he:=QU h hk
 have h1:=g.lo;have h2:=g.d1
 unfold nH at he
 unfold bM;rw [if_pos hp]
 unfold fF
 dsimp only
 rw [jI hk,jI hk,jI hk]
 refine⟨h1,by omega,?_⟩
 have ea:p.acts[k]=aY p k:=by
  have:=fJ hk
  rw [List.getElem?_eq_getElem hk] at this
  exact Option.some.inj this
 rw [ea]
 exact Ox (by have:=jo hp hk;omega) g.m0 g.m1
theorem KU {p:Proj} {s:aM} {r:Rul} {l:List Lit} (h:follows p r l=true) (hs:dZ p s=true):bO l s=true:=by
 cases hc:bO l s with
 |true=>rfl
 |false=>
  simp only [follows,Bool.and_eq_true] at h
  have hf:=vX hs
  have:=Bt hf l _ (tV h.1) hc (uL (jZ hf).1) (TT hs)
  have:=KT h.2 hf this.2
  rw [hs] at this;cases this
theorem vY {y n:Bool} (h:valueOf y n= -1):n=true:=by
 unfold valueOf at h;cases y<;>cases n<;>first|rfl|(simp at h)
theorem yw (b:Dom) (l:Lit):litValue b l=1∨litValue b l=0∨litValue b l= -1:=by
 have hv:∀y n:Bool,valueOf y n=1∨valueOf y n=0∨valueOf y n= -1:=by decide
 unfold litValue
 split
 ·dsimp only
  split
  ·exact hv _ _
  ·split
   ·exact hv _ _
   ·split
    ·exact hv _ _
    ·split
     ·exact hv _ _
     ·exact .inl rfl
 ·exact .inl rfl
theorem Gl {b:Dom} {s:aM} {n:Nat} {l:Lit} (hl:tT b n) (hin:sJ b s n) (h:litValue b l= -1):bS l s=false:=by
 unfold litValue at h
 split at h
 ·rename_i hd
  simp only [fT,Bool.and_eq_true,decide_eq_true_eq] at hd
  have h1:=hl.lo
  have hk:=hin l.act.toNat (by omega)
  dsimp only at h
  unfold bS
  split at h
  ·rename_i e
   rw [if_pos e]
   have:=of_decide_eq_true (vY h)
   rw [decide_eq_false (by omega),Bool.and_false]
  rename_i e1
  rw [if_neg e1]
  split at h
  ·rename_i e
   rw [if_pos e]
   have:=of_decide_eq_true (vY h)
   rw [decide_eq_false (by omega),Bool.and_false]
  rename_i e2
  rw [if_neg e2]
  split at h
  ·rename_i e
   rw [if_pos e]
   have:=vY h
   simp only [Bool.not_eq_true', ← Bool.not_eq_true,List.contains_iff_mem] at this
   rw [decide_eq_false (fun hh=>this (by rw [← hh];exact hk.2.2)),Bool.and_false]
  rename_i e3
  rw [if_neg e3]
  split at h
  ·rename_i e
   have:=of_decide_eq_true (vY h)
   have hm:=hk.2.2
   rw [this] at hm
   rw [decide_eq_false (p:=s.modes.getD l.act.toNat 0≠l.val) (by simpa using hm)]
   simp
  ·simp at h
 ·simp at h
theorem rH {b:Dom}:∀(l:List Lit) (n:Int) (x:Lit),0≤n→(aQ b l n x).1 < 0→n=0∧∀y∈l,litValue b y= -1
 |[],n,x,hn,h=>by
  rw [aQ] at h
  split at h
  ·rename_i e;exact⟨e,by simp⟩
  ·split at h<;>simp at h
 |y::l,n,x,hn,h=>by
  rw [aQ] at h
  split at h
  ·simp at h
  ·split at h
   ·have:=(rH l (n+1) y (by omega) h).1;omega
   ·rename_i h1 h0
    obtain⟨h2,h3⟩:=rH l n x hn h
    refine⟨h2,fun z hz=>?_⟩
    rcases List.mem_cons.1 hz with rfl|hz
    ·rcases yw b z with e|e|e
     ·exact (h1 e).elim
     ·exact (h0 e).elim
     ·exact e
    ·exact h3 z hz
theorem pW {b:Dom} {s:aM} {m:Nat} (hl:tT b m) (hin:sJ b s m):∀(l:List Lit) (n:Int) (x:Lit),0≤n→(aQ b l n x).1=0→
  (n=0→(aQ b l n x).2≠bf→(aQ b l n x).2∈l∧(bO l s=true→bS (aQ b l n x).2 s=true))∧(n=1→(aQ b l n x).2≠bf→(aQ b l n x).2=x∧bO l s=false)∧(2≤n→(aQ b l n x).2=bf)
 |[],n,x,hn,h=>by
  rw [aQ] at h ⊢
  split
  ·rename_i e;rw [if_pos e] at h;simp at h
  ·rename_i e0
   split
   ·rename_i e1;exact⟨fun e=>(e0 e).elim,fun _ _=>⟨rfl,rfl⟩,fun e=>by omega⟩
   ·rename_i e1;exact⟨fun e=>(e0 e).elim,fun e=>(e1 e).elim,fun _=>rfl⟩
 |y::l,n,x,hn,h=>by
  rw [aQ] at h ⊢
  split
  ·rename_i h1;rw [if_pos h1] at h;simp at h
  ·rename_i h1
   rw [if_neg h1] at h
   split
   ·rename_i h0
    rw [if_pos h0] at h
    obtain⟨a1,a2,a3⟩:=pW hl hin l (n+1) y (by omega) h
    refine⟨fun e hz=>?_,fun e hz=>?_,fun e=>a3 (by omega)⟩
    ·obtain⟨k1,k2⟩:=a2 (by omega) hz
     rw [k1]
     refine⟨List.mem_cons_self ..,fun hc=>?_⟩
     simp only [bO,List.any_cons,Bool.or_eq_true] at hc
     unfold bO at k2
     rw [k2] at hc
     simpa using hc
    ·exact (hz (a3 (by omega))).elim
   ·rename_i h0
    rw [if_neg h0] at h
    have hy:bS y s=false:=by
     refine Gl hl hin ?_
     rcases yw b y with e|e|e
     ·exact (h1 e).elim
     ·exact (h0 e).elim
     ·exact e
    obtain⟨a1,a2,a3⟩:=pW hl hin l n x hn h
    refine⟨fun e hz=>?_,fun e hz=>?_,a3⟩
    ·obtain⟨k1,k2⟩:=a1 e hz
     refine⟨List.mem_cons_of_mem _ k1,fun hc=>k2 ?_⟩
     simp only [bO,List.any_cons,hy,Bool.false_or] at hc
     exact hc
    ·obtain⟨k1,k2⟩:=a2 e hz
     refine⟨k1,?_⟩
     simp only [bO,List.any_cons,hy,Bool.false_or]
     exact k2
theorem QV {b:Dom} {l:List Lit} (h:bites b l=true):(status b l).1 < 0∨((status b l).1=0∧(status b l).2≠bf):=by
 simp only [bites,Bool.or_eq_true,Bool.and_eq_true,Bool.not_eq_true',decide_eq_true_eq] at h
 rcases h with h|⟨h1,h2⟩
 ·exact .inl h
 ·exact .inr ⟨h1,fun e=>by rw [iY.2 e] at h2;cases h2⟩
theorem QW {b:Dom} {s:aM} {n:Nat} (hl:tT b n) (hin:sJ b s n):bF b=false:=by
 cases h:bF b with
 |false=>rfl
 |true=>
  exfalso
  obtain⟨h1,h2,h3⟩:=hl
  simp only [bF,Bool.or_eq_true,List.any_eq_true,List.mem_range] at h
  rcases h with⟨i,hi,hc⟩|⟨m,hm,hl⟩
  ·have:=hin i (by omega)
   unfold kG at hc
   rw [List.getElem?_eq_getElem (by omega:i < b.lo.length),List.getElem?_eq_getElem (by omega:i < b.hi.length)] at hc
   simp only [decide_eq_true_eq] at hc
   rw [List.getD_eq_getElem?_getD,List.getElem?_eq_getElem (by omega:i < b.lo.length),List.getD_eq_getElem?_getD (l:=b.hi),List.getElem?_eq_getElem (by omega:i < b.hi.length)] at this
   simp only [Option.getD_some] at this
   omega
  ·obtain⟨i,hi,rfl⟩:=List.getElem_of_mem hm
   have:=(hin i (by omega)).2.2
   rw [List.getD_eq_getElem?_getD,List.getElem?_eq_getElem hi] at this
   simp only [decide_eq_true_eq] at hl
   simp only [Option.getD_some] at this
   have:=List.length_pos_of_mem this
   omega
def mU (s:aM) (list:List (List Lit)):Prop:=∀l∈list,(∀x∈l,Fu x)∧bO l s=true
theorem Gm {s:aM} {m:Nat} {list:List (List Lit)} (hc:mU s list):∀(n:Nat) (b:Dom),tT b m→sJ b s m→(wD list n b).2=false∧tT (wD list n b).1 m∧sJ (wD list n b).1 s m
 |0,b,hl,hin=>⟨rfl,hl,hin⟩
 |n+1,b,hl,hin=>by
  rw [wD]
  unfold NM
  rw [QW hl hin,if_neg (by simp)]
  cases hf:list.find? (bites b) with
  |none=>exact⟨rfl,hl,hin⟩
  |some l=>
   have hm:=List.mem_of_find?_eq_some hf
   have hb:bites b l=true:=by have:=List.find?_some hf;simpa using this
   obtain⟨h1,h2⟩:=hc l hm
   dsimp only
   by_cases hneg:(status b l).1 < 0
   ·exfalso
    have:=(rH l 0 bf (by omega) hneg).2
    have hno:bO l s=false:=by
     simp only [bO,List.any_eq_false]
     intro y hy
     rw [Gl hl hin (this y hy)];simp
    rw [h2] at hno;cases hno
   ·rw [if_neg hneg]
    dsimp only
    have hb:=(QV hb).resolve_left hneg
    obtain⟨k1,k2⟩:=(pW hl hin l 0 bf (by omega) hb.1).1 rfl hb.2
    exact Gm hc n _ (jO hl _) (yu hl hin (h1 _ k1) (k2 h2))
theorem Ka {p:Proj} {s:aM} {m:Nat} {list:List (List Lit)} {b:Dom} (hc:mU s list) (hl:tT b m) (hin:sJ b s m):(jF p list b).2=false∧tT (jF p list b).1 m∧sJ (jF p list b).1 s m:=by
 unfold jF
 split
 ·exact Gm hc _ _ hl hin
 ·exact⟨rfl,hl,hin⟩
theorem GZ {p:Proj} {s:aM} {ahead:List Lin} {l:Lin} (h:aL p ahead l=0) (hs:dZ p s=true) (hc:mU s (ahead.map Lin.clause)):bO l.clause s=true∧eZ p l.clause=true:=by
 unfold aL at h
 split at h
 ·rename_i hk
  have hok:eZ p l.clause=true:=by have:=hk.2.1;simp only [tu,Bool.and_eq_true] at this;exact this.1
  refine⟨?_,hok⟩
  split at h
  ·split at h
   ·rename_i hf;exact KU hf hs
   ·cases h
  ·split at h
   ·rename_i hu
    cases hcl:bO l.clause s with
    |true=>rfl
    |false=>
     have hf:=vX hs
     have h1:=Bt hf l.clause _ (tV hok) hcl (uL (jZ hf).1) (TT hs)
     have:=(Ka (p:=p) hc h1.1 h1.2).1
     unfold fH at hu
     rw [hu] at this;cases this
   ·cases h
 ·cases h
theorem DZ {p:Proj} {all:List Lin}:∀(l:List Lin) (k:Nat),(iQ p all l k).1=0→∀j,j < l.length→aL p (all.take (k+j)) (l.getD j ⟨0,⟨0,0,0,0⟩,[]⟩)=0
 |[],k,h,j,hj=>by simp at hj
 |x::l,k,h,j,hj=>by
  rw [iQ] at h
  split at h
  ·rename_i h1
   cases j with
   |zero=>simpa using h1
   |succ j=>
    have:=DZ l (k+1) h j (by simpa using hj)
    rw [show k+1+j=k+(j+1) by omega] at this
    simpa using this
  ·rename_i h1;exact (h1 h).elim
theorem yx {p:Proj} {lines:List Lin} (h:nT p lines=true) {j:Nat} (hj:j < lines.length):aL p (lines.take j) lines[j]=0:=by
 have:=DZ lines 0 (of_decide_eq_true h) j hj
 rw [Nat.zero_add,List.getD_eq_getElem?_getD,List.getElem?_eq_getElem hj] at this
 exact this
theorem wI {p:Proj} {s:aM} {lines:List Lin} (h:nT p lines=true) (hs:dZ p s=true):∀n,n≤lines.length→mU s ((lines.take n).map Lin.clause)
 |0,_=>by intro l hl;simp at hl
 |n+1,hn=>by
  have ih:=wI h hs n (by omega)
  have hc:=yx h (show n < lines.length by omega)
  obtain⟨h1,h2⟩:=GZ hc hs ih
  intro l hl
  rw [List.take_succ_eq_append_getElem (by omega:n < lines.length),List.map_append,List.mem_append] at hl
  rcases hl with hl|hl
  ·exact ih l hl
  ·simp only [List.map_cons,List.map_nil,List.mem_singleton] at hl
   subst hl
   exact⟨fun x hx=>Va (tV h2 x hx),h1⟩
theorem KV {p:Proj} {s:aM} {lines:List Lin} (h:nT p lines=true) (hs:dZ p s=true):mU s (lines.map Lin.clause):=by
 have:=wI h hs lines.length (Nat.le_refl _)
 rwa [List.take_length] at this
def gX (a b:Dom) (n:Nat):Prop:=∀k,k < n→b.lo.getD k 0≤a.lo.getD k 0∧a.hi.getD k 0≤b.hi.getD k 0∧∀m∈a.modes.getD k [],m∈b.modes.getD k []
theorem gX.refl (a:Dom) (n:Nat):gX a a n:=fun _ _=>⟨Int.le_refl _,Int.le_refl _,fun _ h=>h⟩
theorem gX.trans {a b c:Dom} {n:Nat} (h:gX a b n) (h':gX b c n):gX a c n:=fun k hk=>by
 obtain⟨h1,h2,h3⟩:=h k hk
 obtain⟨h4,h5,h6⟩:=h' k hk
 exact⟨by omega,by omega,fun m hm=>h6 m (h3 m hm)⟩
theorem Ai:∀(l:List Int) (a:Int),l.foldl min a=a∨l.foldl min a∈l
 |[],a=>.inl rfl
 |y::l,a=>by
  simp only [List.foldl_cons]
  rcases Ai l (min a y) with h|h
  ·rw [h]
   by_cases hh:a≤y
   ·rw [Int.min_eq_left hh];exact .inl rfl
   ·rw [Int.min_eq_right (by omega)];exact .inr (List.mem_cons_self ..)
  ·exact .inr (List.mem_cons_of_mem _ h)
theorem Ms {l:List Int} (h:l≠[]):least l∈l:=by
 cases l with
 |nil=>exact (h rfl).elim
 |cons y l=>
  rcases Ai l y with e|e
  ·show l.foldl min y∈_;rw [e];exact List.mem_cons_self ..
  ·exact List.mem_cons_of_mem _ e
theorem Fv {l l':List Int} (hn:l'≠[]) (h:∀x∈l',∃y∈l,y≤x):least l≤least l':=by
 obtain⟨y,hy,hle⟩:=h _ (Ms hn)
 exact Int.le_trans (zk hy) hle
theorem jU {ms ms':List Int} (h:∀m∈ms',m∈ms):∀(l:List Mode) (k:Nat) (m:Mode),m∈aS ms' l k→m∈aS ms l k
 |[],k,m,hm=>hm
 |y::l,k,m,hm=>by
  rw [aS] at hm ⊢
  split at hm
  ·rename_i hc
   rw [if_pos (by simp at hc ⊢;exact h _ hc)]
   rcases List.mem_cons.1 hm with rfl|hm
   ·exact List.mem_cons_self ..
   ·exact List.mem_cons_of_mem _ (jU h l (k+1) m hm)
  ·split
   ·exact List.mem_cons_of_mem _ (jU h l (k+1) m hm)
   ·exact jU h l (k+1) m hm
theorem mE {ms:List Int}:∀(l:List Mode) (k:Nat) (m:Mode),m∈aS ms l k→m∈l
 |[],k,m,hm=>hm
 |y::l,k,m,hm=>by
  rw [aS] at hm
  split at hm
  ·rcases List.mem_cons.1 hm with rfl|hm
   ·exact List.mem_cons_self ..
   ·exact List.mem_cons_of_mem _ (mE l (k+1) m hm)
  ·exact List.mem_cons_of_mem _ (mE l (k+1) m hm)
structure rJ (a:aG) (ms ms':List Int):Prop where
 ne:∃m∈ms',0≤m∧m.toNat < a.modes.length
 sub:∀m∈ms',m∈ms
theorem rJ.chosen {a:aG} {ms ms':List Int} (h:rJ a ms ms'):chosen a ms'≠[]:=by
 obtain⟨m,h1,h2,h3⟩:=h.ne
 have:=rF (ms:=ms') (m:=a.modes[m.toNat]) a.modes 0 m.toNat (List.getElem?_eq_getElem h3) (by rw [Nat.zero_add,Int.toNat_of_nonneg h2];exact h1)
 intro e
 unfold Abs.chosen at e
 rw [e] at this;cases this
theorem oZ {a:aG} {ms ms':List Int} (h:rJ a ms ms'):nQ a ms≤nQ a ms':=by
 refine Fv (by simpa using h.chosen) fun x hx=>?_
 obtain⟨m,hm,rfl⟩:=List.mem_map.1 hx
 exact⟨_,List.mem_map.2 ⟨m,jU h.sub _ _ m hm,rfl⟩,Int.le_refl _⟩
theorem Ea {a:aG} {ms ms':List Int} {f:Mode→Option Int} (h:rJ a ms ms') (hf:∀m∈a.modes,(f m).isSome=true):leastOf (chosen a ms) f≤leastOf (chosen a ms') f:=by
 have h1:(chosen a ms).all (fun m=>(f m).isSome)=true:=List.all_eq_true.2 fun m hm=>hf m (mE _ _ m hm)
 have h2:(chosen a ms').all (fun m=>(f m).isSome)=true:=List.all_eq_true.2 fun m hm=>hf m (mE _ _ m hm)
 unfold leastOf
 rw [if_pos h1,if_pos h2]
 refine Fv (by simpa using h.chosen) fun x hx=>?_
 obtain⟨m,hm,rfl⟩:=List.mem_map.1 hx
 exact⟨_,List.mem_map.2 ⟨m,jU h.sub _ _ m hm,rfl⟩,Int.le_refl _⟩
theorem yA {l:List Int} {n:Nat} {r:Int} (h:bA l n=true) (hr:0≤r∧r.toNat < n):(bR l r).isSome=true:=by
 simp only [bA,Bool.and_eq_true,decide_eq_true_eq] at h
 unfold bR
 rw [if_pos (within_iff.2 (by omega))];rfl
theorem vZ {m:Mode} {r s:Int} (h:jh m r s=true):bA m.use r=true∧bA m.con s=true:=by
 simp only [jh,Bool.and_eq_true] at h;exact⟨h.1.2,h.2⟩
theorem yB {p:Proj} (hp:aF p=true) {k:Nat} (hk:k < p.acts.length) {r:Int} (hr:0≤r∧r.toNat < p.bg.length) {ms ms':List Int} (h:rJ (aY p k) ms ms'):fU (aY p k) ms r≤fU (aY p k) ms' r:=
 Ea h fun m hm=>yA (vZ (oW hp hk hm)).1 hr
theorem QX {p:Proj} (hp:aF p=true) {k:Nat} (hk:k < p.acts.length) {r:Int} (hr:0≤r∧r.toNat < p.aX.length) {ms ms':List Int} (h:rJ (aY p k) ms ms'):qQ (aY p k) ms r≤qQ (aY p k) ms' r:=
 Ea h fun m hm=>yA (vZ (oW hp hk hm)).2 hr
theorem Vd {p:Proj} (hp:aF p=true) {k:Nat} (hk:k < p.acts.length) (r:Int) (ms:List Int):0≤fU (aY p k) ms r:=by
 unfold fU leastOf
 split
 ·by_cases hn:(chosen (aY p k) ms).map (fun m=>(bR m.use r).getD 0)= []
  ·rw [hn];exact Int.le_refl _
  ·obtain⟨m,hm,e⟩:=List.mem_map.1 (Ms hn)
   rw [← e]
   unfold bR
   split
   ·exact (sM (vZ (oW hp hk (mE _ _ m hm))).1 _).1
   ·exact Int.le_refl _
 ·exact Int.le_refl _
theorem lK {p:Proj} {a b:Dom} (hf:aC p a=true) (he:bF a=false) (hs:gX a b p.acts.length) {k:Nat} (hk:k < p.acts.length):rJ (aY p k) (b.modes.getD k []) (a.modes.getD k [])∧a.lo.getD k 0≤a.hi.getD k 0:=by
 obtain⟨hp,h1,h2,h3⟩:=iA hf
 have hb:=kU hf hk
 simp only [bF,Bool.or_eq_false_iff,List.any_eq_false,List.mem_range] at he
 have hc:=he.1 k (by omega)
 unfold kG at hc
 rw [List.getElem?_eq_getElem (by omega:k < a.lo.length),List.getElem?_eq_getElem (by omega:k < a.hi.length)] at hc
 simp only [decide_eq_true_eq] at hc
 have hm:=he.2 a.modes[k] (List.getElem_mem (by omega))
 have e3:a.modes.getD k []=a.modes[k]'(by omega):=by rw [List.getD_eq_getElem?_getD,List.getElem?_eq_getElem (by omega)];rfl
 refine⟨⟨?_,(hs k hk).2.2⟩,?_⟩
 ·cases hx:a.modes.getD k [] with
  |nil=>rw [e3] at hx;rw [hx] at hm;simp at hm
  |cons m l=>exact⟨m,List.mem_cons_self ..,hb.ms m (by rw [hx];exact List.mem_cons_self ..)⟩
 ·rw [List.getD_eq_getElem?_getD,List.getElem?_eq_getElem (by omega:k < a.lo.length),List.getD_eq_getElem?_getD,List.getElem?_eq_getElem (by omega:k < a.hi.length)]
  simp only [Option.getD_some];omega
theorem SH {p:Proj} {a b:Dom} {r:Rul} (hfa:aC p a=true) (hfb:aC p b=true) (he:bF a=false) (hs:gX a b p.acts.length) (hr:fq p r=true) (h:fails p b r=true):fails p a r=true:=by
 obtain⟨hp,_,_,_⟩:=iA hfa
 simp only [fq,Bool.and_eq_true] at hr
 have hr:=hr.2
 unfold fails at h ⊢
 by_cases e1:r.kind=1
 ·rw [if_pos e1] at hr h ⊢
  simp only [Bool.and_eq_true,within_iff,decide_eq_true_eq] at hr
  have hk:r.a.toNat < p.links.length:=by omega
  have el:gH p r.a=p.links[r.a.toNat]:=by unfold gH;rw [List.getD_eq_getElem?_getD,List.getElem?_eq_getElem hk];rfl
  obtain⟨hs1,hs2⟩:=Gj hp (y:=gH p r.a) (by rw [el];exact List.getElem_mem hk)
  generalize gH p r.a=y at*
  have i1:=hs _ (fA hs1).2
  have i2:=hs _ (fA hs2).2
  have hd:=oZ (lK hfa he hs (fA hs1).2).1
  unfold nS at h ⊢
  have h:=of_decide_eq_true h
  refine decide_eq_true ?_
  unfold kH at h ⊢
  split at h
  ·rename_i hfe;rw [if_pos hfe];omega
  ·rename_i hfe;rw [if_neg hfe];omega
 rw [if_neg e1] at hr h ⊢
 by_cases e2:r.kind=2
 ·rw [if_pos e2] at hr h ⊢
  simp only [Bool.and_eq_true,decide_eq_true_eq] at hr
  obtain⟨h0,hk⟩:=fA hr.1.1
  have i1:=hs _ hk
  have hd:=oZ (lK hfa he hs hk).1
  have h:=of_decide_eq_true h
  unfold kH at h
  exact decide_eq_true (by unfold kH;omega)
 rw [if_neg e2] at hr h ⊢
 by_cases e3:r.kind=3
 ·rw [if_pos e3] at hr h ⊢
  simp only [Bool.and_eq_true,decide_eq_true_eq,bn,within_iff] at hr
  have hk:0≤r.a∧r.a.toNat < p.bg.length:=by have:=hr.1.1;simp only [dP,within_iff] at this;omega
  have h:=of_decide_eq_true h
  refine decide_eq_true (Int.lt_of_lt_of_le h ?_)
  unfold CY
  refine sumTo_le fun k hkn=>?_
  have i1:=hs k hkn
  have hm:=(lK hfa he hs hkn).1
  have hd:=oZ hm
  have hu:=yB hp hkn hk hm
  have hn:=Vd hp hkn r.a (a.modes.getD k [])
  unfold rX kH
  split
  ·rename_i hc
   rw [if_pos (by omega)];exact hu
  ·split
   ·exact hn
   ·exact Int.le_refl _
 rw [if_neg e3] at hr h ⊢
 by_cases e4:r.kind=4
 ·rw [if_pos e4] at hr h ⊢
  simp only [Bool.and_eq_true,decide_eq_true_eq,bn,within_iff] at hr
  have h:=of_decide_eq_true h
  refine decide_eq_true (Int.lt_of_lt_of_le h ?_)
  unfold nR
  refine sumTo_le fun k hkn=>?_
  have i1:=hs k hkn
  obtain⟨hm,hlh⟩:=lK hfa he hs hkn
  have ga:=kU hfa hkn
  have gb:=kU hfb hkn
  unfold lS
  refine Fv ?_ fun x hx=>?_
  ·obtain⟨m,h1,_⟩:=hm.ne
   intro e
   have:gT p a k r.a r.b r.c m∈(a.modes.getD k []).map (gT p a k r.a r.b r.c):=List.mem_map.2 ⟨m,h1,rfl⟩
   rw [e] at this;cases this
  ·obtain⟨m,h1,rfl⟩:=List.mem_map.1 hx
   refine⟨_,List.mem_map.2 ⟨m,hm.sub m h1,rfl⟩,?_⟩
   obtain⟨m0,m1⟩:=ga.ms m h1
   have hmm:(aY p k).modes.getD m.toNat ⟨0,[],[]⟩∈(aY p k).modes:=by
    rw [List.getD_eq_getElem?_getD,List.getElem?_eq_getElem m1];exact List.getElem_mem m1
   have hok:=oW hp hkn hmm
   have hu:=(sM (vZ hok).1 r.a.toNat).1
   simp only [jh,Bool.and_eq_true,within_iff] at hok
   have k1:=ga.l1;have k2:=ga.l2;have k3:=ga.h1;have k4:=ga.h2
   have j1:=gb.l1;have j2:=gb.l2;have j3:=gb.h1;have j4:=gb.h2
   unfold gT
   dsimp only
   generalize (aY p k).modes.getD m.toNat ⟨0,[],[]⟩=mo at*
   have d1:=hok.1.1.1;have d2:=hok.1.1.2
   rw [jq ⟨k1,k2⟩ ⟨d1,by omega⟩ ⟨by omega,by omega⟩ ⟨by omega,by omega⟩,jq ⟨k3,k4⟩ ⟨d1,by omega⟩ ⟨by omega,by omega⟩ ⟨by omega,by omega⟩,
    jq ⟨j1,j2⟩ ⟨d1,by omega⟩ ⟨by omega,by omega⟩ ⟨by omega,by omega⟩,jq ⟨j3,j4⟩ ⟨d1,by omega⟩ ⟨by omega,by omega⟩ ⟨by omega,by omega⟩]
   refine Int.mul_le_mul_of_nonneg_right ?_ hu
   omega
 rw [if_neg e4] at hr h ⊢
 by_cases e5:r.kind=5
 ·rw [if_pos e5] at hr h ⊢
  simp only [Bool.and_eq_true,decide_eq_true_eq] at hr
  obtain⟨⟨⟨hm,hb⟩,hc⟩,hlt⟩:=hr
  have hk:0≤r.a∧r.a.toNat < p.bg.length:=by have:=hm;simp only [eT,dP,Bool.and_eq_true,within_iff] at this;omega
  obtain⟨b0,hb⟩:=fA hb
  obtain⟨c0,hc⟩:=fA hc
  have i1:=hs _ hb
  have i2:=hs _ hc
  have s1:=(lK hfa he hs hb).1
  have s2:=(lK hfa he hs hc).1
  have u1:=yB hp hb hk s1
  have u2:=yB hp hc hk s2
  have d1:=oZ s1
  have d2:=oZ s2
  unfold jam at h ⊢
  simp only [Bool.and_eq_true] at h ⊢
  obtain⟨⟨⟨q1,q2⟩,q3⟩,q4⟩:=h
  replace q1:=of_decide_eq_true q1
  replace q2:=of_decide_eq_true q2
  replace q3:=of_decide_eq_true q3
  replace q4:=of_decide_eq_true q4
  unfold jL kH at q3 q4
  exact⟨⟨⟨decide_eq_true (by omega),decide_eq_true (by omega)⟩,decide_eq_true (by unfold jL kH;omega)⟩,decide_eq_true (by unfold jL kH;omega)⟩
 rw [if_neg e5] at hr h ⊢
 by_cases e6:r.kind=6
 ·rw [if_pos e6] at hr
  simp only [Bool.and_eq_true,decide_eq_true_eq] at hr
  have hk:0≤r.a∧r.a.toNat < p.aX.length:=by have:=hr.1.1;simp only [iG,within_iff] at this;omega
  simp only [mH,decide_eq_true_eq] at h ⊢
  refine Int.lt_of_lt_of_le h (sumTo_le fun k hkn=>?_)
  exact QX hp hkn hk (lK hfa he hs hkn).1
 ·rw [if_neg e6] at hr;cases hr
theorem SI {p:Proj} {a b:Dom} (hfa:aC p a=true) (hfb:aC p b=true) (hs:gX a b p.acts.length) (h:bF b=true):bF a=true:=by
 cases he:bF a with
 |true=>rfl
 |false=>
  exfalso
  obtain⟨hp,h1,h2,h3⟩:=iA hfb
  simp only [bF,Bool.or_eq_true,List.any_eq_true,List.mem_range] at h
  rcases h with⟨i,hi,hc⟩|⟨m,hm,hl⟩
  ·have:=hs i (by omega)
   have h5:=(lK hfa he hs (show i < p.acts.length by omega)).2
   unfold kG at hc
   rw [List.getElem?_eq_getElem (by omega:i < b.lo.length),List.getElem?_eq_getElem (by omega:i < b.hi.length)] at hc
   have hc:=of_decide_eq_true hc
   rw [List.getD_eq_getElem?_getD (l:=b.lo),List.getElem?_eq_getElem (by omega:i < b.lo.length),List.getD_eq_getElem?_getD (l:=b.hi),List.getElem?_eq_getElem (by omega:i < b.hi.length)] at this
   simp only [Option.getD_some] at this
   omega
  ·obtain⟨i,hi,rfl⟩:=List.getElem_of_mem hm
   obtain⟨m,g1,g2⟩:=(lK hfa he hs (show i < p.acts.length by omega)).1.ne
   have:=(hs i (by omega)).2.2 m g1
   rw [List.getD_eq_getElem?_getD,List.getElem?_eq_getElem hi] at this
   simp only [decide_eq_true_eq] at hl
   simp only [Option.getD_some] at this
   have:=List.length_pos_of_mem this
   omega
theorem OA {p:Proj} {a b:Dom} {r:Rul} (hfa:aC p a=true) (hs:gX a b p.acts.length) (h:refutes p b r=true):refutes p a r=true:=by
 simp only [refutes,Bool.and_eq_true,Bool.or_eq_true] at h ⊢
 obtain⟨hfb,h⟩:=h
 refine⟨hfa,?_⟩
 cases he:bF a with
 |true=>exact .inl rfl
 |false=>
  rcases h with h|⟨hr,h⟩
  ·rw [SI hfa hfb hs h] at he;cases he
  ·exact .inr ⟨hr,SH hfa hfb he hs hr h⟩
theorem wh (b:Dom) (l:Lit) {n:Nat} (hl:tT b n):gX (restrict b l) b n:=by
 obtain⟨h1,h2,h3⟩:=hl
 intro k hk
 unfold restrict
 split
 ·rename_i hd
  simp only [fT,Bool.and_eq_true,decide_eq_true_eq] at hd
  dsimp only
  split
  ·refine⟨?_,Int.le_refl _,fun _ h=>h⟩
   by_cases ek:l.act.toNat=k
   ·subst ek;rw [dG (by omega)];omega
   ·rw [getD_set_ne ek];exact Int.le_refl _
  split
  ·refine⟨Int.le_refl _,?_,fun _ h=>h⟩
   by_cases ek:l.act.toNat=k
   ·subst ek;rw [dG (by omega)];omega
   ·rw [getD_set_ne ek];exact Int.le_refl _
  split
  ·refine⟨Int.le_refl _,Int.le_refl _,fun m hm=>?_⟩
   by_cases ek:l.act.toNat=k
   ·subst ek;rw [dG (by omega)] at hm;exact (List.mem_filter.1 hm).1
   ·rw [getD_set_ne ek] at hm;exact hm
  split
  ·refine⟨Int.le_refl _,Int.le_refl _,fun m hm=>?_⟩
   by_cases ek:l.act.toNat=k
   ·subst ek;rw [dG (by omega)] at hm;exact (List.mem_filter.1 hm).1
   ·rw [getD_set_ne ek] at hm;exact hm
  ·exact⟨Int.le_refl _,Int.le_refl _,fun _ h=>h⟩
 ·exact⟨Int.le_refl _,Int.le_refl _,fun _ h=>h⟩
theorem Eb {a b c:Dom} {l:Lit} {n:Nat} (hb:tT b n) (hc:tT c n) (h1:gX a b n) (h2:gX a (restrict c l) n):gX a (restrict b l) n:=by
 obtain⟨b1,b2,b3⟩:=hb
 obtain⟨c1,c2,c3⟩:=hc
 intro k hk
 have k1:=h1 k hk
 have k2:=h2 k hk
 have hdd:fT b l.act=fT c l.act:=by unfold fT;rw [b1,b2,b3,c1,c2,c3]
 unfold restrict at k2 ⊢
 rw [hdd]
 split
 ·rename_i hd
  rw [if_pos hd] at k2
  have hd':=hd
  simp only [fT,Bool.and_eq_true,decide_eq_true_eq] at hd'
  dsimp only at k2 ⊢
  by_cases ek:l.act.toNat=k
  ·subst ek
   split
   ·rename_i e;rw [if_pos e] at k2;dsimp only at k2 ⊢
    rw [dG (by omega)] at k2 ⊢
    exact⟨by omega,k1.2⟩
   rename_i e1;rw [if_neg e1] at k2
   split
   ·rename_i e;rw [if_pos e] at k2;dsimp only at k2 ⊢
    rw [dG (by omega)] at k2 ⊢
    exact⟨k1.1,by omega,k1.2.2⟩
   rename_i e2;rw [if_neg e2] at k2
   split
   ·rename_i e;rw [if_pos e] at k2;dsimp only at k2 ⊢
    rw [dG (by omega)] at k2 ⊢
    exact⟨k1.1,k1.2.1,fun m hm=>List.mem_filter.2 ⟨k1.2.2 m hm,(List.mem_filter.1 (k2.2.2 m hm)).2⟩⟩
   rename_i e3;rw [if_neg e3] at k2
   split
   ·rename_i e;rw [if_pos e] at k2;dsimp only at k2 ⊢
    rw [dG (by omega)] at k2 ⊢
    exact⟨k1.1,k1.2.1,fun m hm=>List.mem_filter.2 ⟨k1.2.2 m hm,(List.mem_filter.1 (k2.2.2 m hm)).2⟩⟩
   ·exact k1
  ·split
   ·dsimp only;rw [getD_set_ne ek];exact k1
   split
   ·dsimp only;rw [getD_set_ne ek];exact k1
   split
   ·dsimp only;rw [getD_set_ne ek];exact k1
   split
   ·dsimp only;rw [getD_set_ne ek];exact k1
   ·exact k1
 ·exact k1
theorem sN {n:Nat}:∀(l:List Lit) (b:Dom),tT b n→tT (against b l) n∧gX (against b l) b n
 |[],b,h=>⟨h,gX.refl _ _⟩
 |x::l,b,h=>by
  obtain⟨h1,h2⟩:=sN l (restrict b (negate x)) (jO h _)
  exact⟨h1,h2.trans (wh b _ h)⟩
theorem wo {n:Nat}:∀(l:List Lit) (b:Dom),tT b n→∀x∈l,gX (against b l) (restrict b (negate x)) n
 |[],b,h,x,hx=>by cases hx
 |y::l,b,h,x,hx=>by
  rcases List.mem_cons.1 hx with rfl|hx
  ·exact (sN l _ (jO h _)).2
  ·have h1:=wo l (restrict b (negate y)) (jO h _) x hx
   have h2:=(sN l (restrict b (negate y)) (jO h _)).2
   exact Eb h (jO h _) (h2.trans (wh b _ h)) h1
end Go.Proofs.YtefgamefajmdkaaGreat.Abs
