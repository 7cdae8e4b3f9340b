/- Rules that refute a domain are broken by each of its schedules; clauses that follow hold. Plain Lean. -/
import Derived.Test.YtjfnojijdggfhaaGreatPlain
set_option linter.all false
namespace Go.Proofs.YtjfnojijdggfhaaGreat.Abs
def qd (b:Dom) (s:aL) (n:Nat):Prop:=∀k,k < n→b.lo.getD k 0≤s.starts.getD k 0∧s.starts.getD k 0≤b.hi.getD k 0∧s.modes.getD k 0∈b.modes.getD k []
def bL (l:Lit) (s:aL):Bool:=
 within l.act 0 ((s.starts.length:Int) - 1)&&within l.act 0 ((s.modes.length:Int) - 1)&&
  (if l.kind=1 then decide (s.starts.getD l.act.toNat 0≥l.val) else if l.kind=2 then decide (s.starts.getD l.act.toNat 0≤l.val)
   else if l.kind=3 then decide (s.modes.getD l.act.toNat 0=l.val) else decide (l.kind=4)&&decide (s.modes.getD l.act.toNat 0≠l.val))
def iw (l:List Lit) (s:aL):Bool:=l.any fun x=>bL x s
theorem gF {p:Proj} {k:Nat} (hk:k < p.acts.length):p.acts[k]? =some (aT p k):=by
 unfold aT;rw [List.getD_eq_getElem?_getD,List.getElem?_eq_getElem hk];rfl
theorem DX {p:Proj} (h:aK p=true) {k:Nat} (hk:k < p.acts.length):bg (aT p k) p.bM.length p.bn.length=true:=by
 simp only [aK,Bool.and_eq_true] at h
 have h1:=bf.1 h.1.1.1.2 k hk
 unfold qE at h1
 rw [gF hk] at h1
 simp only [Bool.and_eq_true] at h1
 exact h1.1
theorem nM {p:Proj} (h:aK p=true) {k:Nat} (hk:k < p.acts.length) {m:Mode} (hm:m∈(aT p k).modes):iB m p.bM.length p.bn.length=true:=by
 have h1:=DX h hk
 simp only [bg,Bool.and_eq_true,List.all_eq_true] at h1
 exact h1.1 m hm
theorem iC {p:Proj} (h:aK p=true) {k:Nat} (hk:k < p.acts.length):1≤(aT p k).modes.length∧(aT p k).modes.length≤3:=by
 have h1:=DX h hk
 simp only [bg,Bool.and_eq_true,within_iff] at h1
 have:=h1.2.2;omega
theorem jQ {p:Proj} (h:aK p=true):1≤p.dead∧p.dead≤60∧1≤p.acts.length∧p.acts.length≤6:=by
 simp only [aK,nW,Bool.and_eq_true,within_iff] at h
 have h1:=h.1.1.1.1.1.1.1;omega
theorem DY {p:Proj} (h:aK p=true) {y:Link} (hy:y∈p.links):bA p y.src=true∧bA p y.dst=true:=by
 simp only [aK,Bool.and_eq_true,List.all_eq_true] at h
 have h1:=h.2 y hy
 simp only [jB,Bool.and_eq_true] at h1
 exact h1.1.1
theorem eD {p:Proj} {n:Int} (h:bA p n=true):0≤n∧n.toNat < p.acts.length:=by
 simp only [bA,within_iff] at h;omega
structure jR (p:Proj) (s:aL) (k:Nat):Prop where
 lo:0≤s.starts.getD k 0
 hi:s.starts.getD k 0≤60
 m0:0≤s.modes.getD k 0
 m1:(s.modes.getD k 0).toNat < (aT p k).modes.length
 mem:dR p s k∈(aT p k).modes
 d1:1≤(dR p s k).dur
 d2:(dR p s k).dur≤12
 ok:iB (dR p s k) p.bM.length p.bn.length=true
theorem jw {p:Proj} {s:aL} (h:aX p s=true):aK p=true∧s.starts.length=p.acts.length∧s.modes.length=p.acts.length:=by
 simp only [aX,Bool.and_eq_true,Bool.not_eq_true',decide_eq_false_iff_not] at h
 exact⟨h.1.1.1,by omega,by omega⟩
theorem fU {p:Proj} {s:aL} (h:aX p s=true) {k:Nat} (hk:k < p.acts.length):jR p s k:=by
 obtain⟨hp,h1,h2⟩:=jw h
 simp only [aX,Bool.and_eq_true] at h
 have h3:=bf.1 h.2 k hk
 unfold tK at h3
 rw [gF hk,List.getElem?_eq_getElem (by omega:k < s.starts.length),List.getElem?_eq_getElem (by omega:k < s.modes.length)] at h3
 simp only [Bool.and_eq_true,bZ,within_iff] at h3
 have e1:s.starts.getD k 0=s.starts[k]'(by omega):=by rw [List.getD_eq_getElem?_getD,List.getElem?_eq_getElem (by omega)];rfl
 have e2:s.modes.getD k 0=s.modes[k]'(by omega):=by rw [List.getD_eq_getElem?_getD,List.getElem?_eq_getElem (by omega)];rfl
 have hlt:(s.modes.getD k 0).toNat < (aT p k).modes.length:=by rw [e2];omega
 have hm:dR p s k∈(aT p k).modes:=by
  unfold dR;rw [List.getD_eq_getElem?_getD,List.getElem?_eq_getElem hlt];exact List.getElem_mem hlt
 have ho:=nM hp hk hm
 have ho':=ho
 simp only [iB,Bool.and_eq_true,within_iff] at ho'
 exact⟨by rw [e1];omega,by rw [e1];omega,by rw [e2];omega,hlt,hm,ho'.1.1.1,ho'.1.1.2,ho⟩
theorem qP {l:List Int} {n:Int} (h:aW l n=true) (i:Nat):0≤l.getD i 0∧l.getD i 0≤20:=by
 simp only [aW,Bool.and_eq_true,List.all_eq_true] at h
 by_cases hi:i < l.length
 ·have:=h.1 _ (List.getElem_mem hi)
  rw [List.getD_eq_getElem?_getD,List.getElem?_eq_getElem hi]
  simpa [dJ,within_iff] using this
 ·rw [List.getD_eq_getElem?_getD,List.getElem?_eq_none (by omega)];simp
theorem jR.use {p:Proj} {s:aL} {k:Nat} (h:jR p s k) (r:Nat):0≤(dR p s k).use.getD r 0∧(dR p s k).use.getD r 0≤20:=by
 have:=h.ok
 simp only [iB,Bool.and_eq_true] at this
 exact qP this.1.2 r
theorem jR.con {p:Proj} {s:aL} {k:Nat} (h:jR p s k) (r:Nat):0≤(dR p s k).con.getD r 0:=by
 have:=h.ok
 simp only [iB,Bool.and_eq_true] at this
 exact (qP this.2 r).1
theorem uf:∀(l:List Int) (a:Int),l.foldl min a≤a∧∀x∈l,l.foldl min a≤x
 |[],a=>⟨Int.le_refl _,by simp⟩
 |y::l,a=>by
  obtain⟨h1,h2⟩:=uf l (min a y)
  refine⟨by simp only [List.foldl_cons];omega,fun x hx=>?_⟩
  simp only [List.foldl_cons]
  rcases List.mem_cons.1 hx with rfl|hx
  ·omega
  ·exact h2 x hx
theorem wU {l:List Int} {x:Int} (h:x∈l):least l≤x:=by
 cases l with
 |nil=>cases h
 |cons y l=>
  rcases List.mem_cons.1 h with rfl|h
  ·exact (uf l x).1
  ·exact (uf l y).2 x h
theorem qg {ms:List Int} {m:Mode}:∀(l:List Mode) (k j:Nat),l[j]? =some m→((k+j:Nat):Int)∈ms→m∈bI ms l k
 |[],k,j,h,_=>by simp at h
 |y::l,k,0,h,hm=>by
  simp at h;subst h
  rw [bI,if_pos (by simpa using hm)]
  exact List.mem_cons_self ..
 |y::l,k,j+1,h,hm=>by
  have:=qg l (k+1) j (by simpa using h) (by rw [show k+1+j=k+(j+1) by omega];exact hm)
  rw [bI]
  split
  ·exact List.mem_cons_of_mem _ this
  ·exact this
theorem vV {p:Proj} {s:aL} {k:Nat} {ms:List Int} (h:jR p s k) (hm:s.modes.getD k 0∈ms):dR p s k∈chosen (aT p k) ms:=by
 refine qg _ 0 (s.modes.getD k 0).toNat ?_ (by rw [Nat.zero_add,Int.toNat_of_nonneg h.m0];exact hm)
 unfold dR
 rw [List.getD_eq_getElem?_getD (l:=(aT p k).modes),List.getElem?_eq_getElem h.m1];rfl
theorem qh {p:Proj} {s:aL} {k:Nat} {ms:List Int} (h:jR p s k) (hm:s.modes.getD k 0∈ms):rA (aT p k) ms≤(dR p s k).dur:=
 wU (List.mem_map.2 ⟨_,vV h hm,rfl⟩)
theorem HZ {l:List Mode} {f:Mode→Option Int} {m:Mode} {v:Int} (hm:m∈l) (hv:(f m).getD 0≤v) (h0:0≤v):leastOf l f≤v:=by
 unfold leastOf
 split
 ·exact Int.le_trans (wU (List.mem_map.2 ⟨m,hm,rfl⟩)) hv
 ·exact h0
theorem Bb {l:List Int} {r:Int} (h:0≤l.getD r.toNat 0):(dF l r).getD 0≤l.getD r.toNat 0:=by
 unfold dF;split
 ·exact Int.le_refl _
 ·exact h
theorem CU {p:Proj} {s:aL} {k:Nat} {ms:List Int} (h:jR p s k) (hm:s.modes.getD k 0∈ms) (r:Int):gL (aT p k) ms r≤(dR p s k).use.getD r.toNat 0:=
 HZ (vV h hm) (Bb (h.use _).1) (h.use _).1
theorem Sq {p:Proj} {s:aL} {k:Nat} {ms:List Int} (h:jR p s k) (hm:s.modes.getD k 0∈ms) (r:Int):tJ (aT p k) ms r≤(dR p s k).con.getD r.toNat 0:=
 HZ (vV h hm) (Bb (h.con _)) (h.con _)
theorem sumTo_le {f g:Nat→Int}:∀{n:Nat},(∀k,k < n→f k≤g k)→sumTo f n≤sumTo g n
 |0,_=>Int.le_refl _
 |n+1,h=>by
  have h1:=sumTo_le (n:=n) (fun k hk=>h k (by omega))
  have h2:=h n (by omega)
  simp only [sumTo];omega
theorem Ki {f g:Nat→Int}:∀{n:Nat},sumTo (fun k=>f k+g k) n=sumTo f n+sumTo g n
 |0=>rfl
 |n+1=>by simp only [sumTo];rw [Ki];omega
theorem Ia:∀{n:Nat},sumTo (fun _=>0) n=0
 |0=>rfl
 |n+1=>by simp only [sumTo];rw [Ia];rfl
theorem mO {p:Proj} {s:aL} {r:Rul} (hr:r∈aZ p) (hb:breaks p s r=true):dM p s=false:=by
 cases h:dM p s with
 |false=>rfl
 |true=>
  simp only [dM,Bool.and_eq_true,decide_eq_true_eq] at h
  have h1:=h.2
  unfold ny at h1
  rw [if_pos h.1] at h1
  have:r∈(aZ p).filter (breaks p s):=List.mem_filter.2 ⟨hr,hb⟩
  have:=List.length_pos_of_mem this
  omega
theorem Ug {p:Proj} {k:Nat} (h:k < p.links.length):kN k∈aZ p:=by
 simp only [aZ,List.mem_append];exact .inl (.inl (.inl (.inl (List.mem_map.2 ⟨k,List.mem_range.2 h,rfl⟩))))
theorem Rm {p:Proj} {k:Nat} (h:k < p.acts.length):endRule k∈aZ p:=by
 simp only [aZ,List.mem_append];exact .inl (.inl (.inl (.inr (List.mem_map.2 ⟨k,List.mem_range.2 h,rfl⟩))))
theorem OE {p:Proj} {r t:Nat} (h:r < p.bM.length) (ht:t≤60):kP r t∈aZ p:=by
 simp only [aZ,List.mem_append]
 exact .inl (.inl (.inr (List.mem_flatMap.2 ⟨r,List.mem_range.2 h,List.mem_map.2 ⟨t,List.mem_range.2 (by omega),rfl⟩⟩)))
theorem pair_mem {p:Proj} {r b c:Nat} (h:r < p.bM.length) (hm:fM p r=true) (hb:b < c) (hc:c < p.acts.length):lY r b c∈aZ p:=by
 simp only [aZ,List.mem_append]
 refine .inl (.inr (List.mem_flatMap.2 ⟨r,List.mem_range.2 h,List.mem_flatMap.2 ⟨b,List.mem_range.2 (by omega),?_⟩⟩))
 unfold eO
 rw [if_pos hm]
 exact List.mem_map.2 ⟨c - (b+1),List.mem_range.2 (by omega),by rw [show b+1+(c - (b+1))=c by omega]⟩
theorem Sr {p:Proj} {k:Nat} (h:k < p.bn.length):jq k∈aZ p:=by
 simp only [aZ,List.mem_append];exact .inr (List.mem_map.2 ⟨k,List.mem_range.2 h,rfl⟩)
theorem yV {s d x y:Int} (hs:0≤s∧s≤100) (hd:1≤d∧d≤100) (hx:0≤x∧x≤100) (hy:0≤y∧y≤100):overlap s d x y=max (min (s+d) y - max s x) 0:=by
 unfold overlap fits
 rw [if_pos ⟨within_iff.2 (by omega),within_iff.2 (by omega),within_iff.2 (by omega),within_iff.2 (by omega)⟩,if_neg (by omega)]
theorem iD {s d x y:Int} (hs: -2≤s∧s≤62) (hd:1≤d∧d≤100) (hx:0≤x∧x≤100) (hy:0≤y∧y≤100):overlap s d x y=max (min (s+d) y - max s x) 0:=by
 unfold overlap fits
 rw [if_pos ⟨within_iff.2 (by omega),within_iff.2 (by omega),within_iff.2 (by omega),within_iff.2 (by omega)⟩,if_neg (by omega)]
theorem Rn {p:Proj} {s:aL} {k:Nat} (h:jR p s k) (r x:Int) (hx:0≤x):∀(n:Nat),x+n≤100→sumTo (fun i=>zY p s r (x+i) k) n=(dR p s k).use.getD r.toNat 0*overlap (s.starts.getD k 0) (dR p s k).dur x (x+n)
 |0,hn=>by
  rw [yV ⟨h.lo,by have:=h.hi;omega⟩ ⟨h.d1,by have:=h.d2;omega⟩ ⟨hx,by omega⟩ ⟨by omega,by omega⟩]
  rw [show max (min (s.starts.getD k 0+(dR p s k).dur) (x+((0:Nat):Int)) - max (s.starts.getD k 0) x) 0=0 by omega]
  simp [sumTo]
 |n+1,hn=>by
  have h1:=h.lo;have h2:=h.hi;have h3:=h.d1;have h4:=h.d2
  simp only [sumTo]
  rw [Rn h r x hx n (by omega)]
  rw [yV ⟨h1,by omega⟩ ⟨h3,by omega⟩ ⟨hx,by omega⟩ ⟨by omega,by omega⟩,yV ⟨h1,by omega⟩ ⟨h3,by omega⟩ ⟨hx,by omega⟩ ⟨by omega,by omega⟩]
  unfold zY runs lV
  generalize (dR p s k).use.getD r.toNat 0=u
  generalize s.starts.getD k 0=a at*
  generalize (dR p s k).dur=d at*
  by_cases hr:a≤x+n∧a+d > x+n
  ·rw [if_pos (by simp [hr])]
   rw [show max (min (a+d) (x+((n+1:Nat):Int)) - max a x) 0=max (min (a+d) (x+(n:Int)) - max a x) 0+1 by omega,Int.mul_add,Int.mul_one]
  ·rw [if_neg (by simp only [Bool.and_eq_true,decide_eq_true_eq];exact hr)]
   rw [show max (min (a+d) (x+((n+1:Nat):Int)) - max a x) 0=max (min (a+d) (x+(n:Int)) - max a x) 0 by omega,Int.add_zero]
theorem OG (f:Nat→Nat→Int):∀(n m:Nat),sumTo (fun i=>sumTo (fun k=>f i k) m) n=sumTo (fun k=>sumTo (fun i=>f i k) n) m
 |0,m=>by simp only [sumTo];rw [Ia]
 |n+1,m=>by
  have:=OG f n m
  simp only [sumTo]
  rw [this,Ki]
theorem Qk {p:Proj} {s:aL} (r x:Int) (n:Nat):sumTo (fun i=>wO p s r (x+i)) n=sumTo (fun k=>sumTo (fun i=>zY p s r (x+i) k) n) p.acts.length:=
 OG (fun i k=>zY p s r (x+i) k) n p.acts.length
theorem Kj (l:List Step) (x:Int):∀n:Nat,rC l x n=sumTo (fun i=>lQ (x+i) l 0) n
 |0=>rfl
 |n+1=>by simp only [rC,sumTo];rw [Kj l x n]
theorem OH {f g:Nat→Int}:∀{n:Nat},sumTo f n > sumTo g n→∃k,k < n∧f k > g k
 |0,h=>by simp [sumTo] at h
 |n+1,h=>by
  simp only [sumTo] at h
  by_cases hk:f n > g n
  ·exact⟨n,by omega,hk⟩
  ·obtain⟨k,h1,h2⟩:=OH (f:=f) (g:=g) (n:=n) (by omega)
   exact⟨k,by omega,h2⟩
structure XU (p:Proj) (b:Dom) (k:Nat):Prop where
 l1: -2≤b.lo.getD k 0
 l2:b.lo.getD k 0≤62
 h1: -2≤b.hi.getD k 0
 h2:b.hi.getD k 0≤62
 ms:∀m∈b.modes.getD k [],0≤m∧m.toNat < (aT p k).modes.length
theorem mX {n:Nat} {m:Int} (h:m∈aH n):0≤m∧m.toNat < n:=by
 unfold aH at h
 split at h
 ·obtain⟨k,h1,rfl⟩:=List.mem_map.1 h
  have:=List.mem_range.1 h1
  simp at this ⊢;omega
 ·simp at h
theorem Mg {n:Nat} (hn:n≤200) {m:Int} (h0:0≤m) (h:m.toNat < n):m∈aH n:=by
 unfold aH
 rw [if_pos (within_iff.2 (by omega))]
 exact List.mem_map.2 ⟨m.toNat,List.mem_range.2 (by omega),by simp;omega⟩
theorem bU {p:Proj} {b:Dom} (h:aA p b=true):aK p=true∧b.lo.length=p.acts.length∧b.hi.length=p.acts.length∧b.modes.length=p.acts.length:=by
 simp only [aA,Bool.and_eq_true,Bool.not_eq_true',decide_eq_false_iff_not] at h
 exact⟨h.1.1.1.1,by omega,by omega,by omega⟩
theorem jS {p:Proj} {b:Dom} (h:aA p b=true) {k:Nat} (hk:k < p.acts.length):XU p b k:=by
 obtain⟨hp,h1,h2,h3⟩:=bU h
 simp only [aA,Bool.and_eq_true] at h
 have h4:=bf.1 h.2 k hk
 unfold oh at h4
 rw [gF hk,List.getElem?_eq_getElem (by omega:k < b.lo.length),List.getElem?_eq_getElem (by omega:k < b.hi.length),List.getElem?_eq_getElem (by omega:k < b.modes.length)] at h4
 simp only [Bool.and_eq_true,lU,within_iff,subset,List.all_eq_true,List.contains_iff_mem] at h4
 have e1:b.lo.getD k 0=b.lo[k]'(by omega):=by rw [List.getD_eq_getElem?_getD,List.getElem?_eq_getElem (by omega)];rfl
 have e2:b.hi.getD k 0=b.hi[k]'(by omega):=by rw [List.getD_eq_getElem?_getD,List.getElem?_eq_getElem (by omega)];rfl
 have e3:b.modes.getD k []=b.modes[k]'(by omega):=by rw [List.getD_eq_getElem?_getD,List.getElem?_eq_getElem (by omega)];rfl
 exact⟨by rw [e1];omega,by rw [e1];omega,by rw [e2];omega,by rw [e2];omega,fun m hm=>mX (h4.2 m (by rw [e3] at hm;exact hm))⟩
theorem Vo {p:Proj} {b:Dom} {s:aL} {k:Nat} (h:jR p s k) (hb:XU p b k) (hin:b.lo.getD k 0≤s.starts.getD k 0∧s.starts.getD k 0≤b.hi.getD k 0∧s.modes.getD k 0∈b.modes.getD k []) {r x y:Int} (hx:0≤x∧x≤60) (hy:0≤y∧y≤60):
  nX p b r x y k≤(dR p s k).use.getD r.toNat 0*overlap (s.starts.getD k 0) (dR p s k).dur x y:=by
 unfold nX
 refine Int.le_trans (wU (List.mem_map.2 ⟨s.modes.getD k 0,hin.2.2,rfl⟩)) ?_
 unfold ji
 show min (overlap _ (dR p s k).dur x y) (overlap _ (dR p s k).dur x y)*(dR p s k).use.getD r.toNat 0≤_
 have h1:=h.lo;have h2:=h.hi;have h3:=h.d1;have h4:=h.d2
 have k1:=hb.l1;have k2:=hb.l2;have k3:=hb.h1;have k4:=hb.h2
 rw [iD ⟨k1,k2⟩ ⟨h3,by omega⟩ ⟨hx.1,by omega⟩ ⟨hy.1,by omega⟩,iD ⟨k3,k4⟩ ⟨h3,by omega⟩ ⟨hx.1,by omega⟩ ⟨hy.1,by omega⟩,iD ⟨by omega,by omega⟩ ⟨h3,by omega⟩ ⟨hx.1,by omega⟩ ⟨hy.1,by omega⟩,Int.mul_comm]
 refine Int.mul_le_mul_of_nonneg_left ?_ (h.use _).1
 omega
theorem Mh {p:Proj} {b:Dom} {s:aL} {r:Rul} (hf:aA p b=true) (hr:kJ p r=true) (hs:aX p s=true) (hin:qd b s p.acts.length) (h:fails p b r=true):dM p s=false:=by
 obtain⟨hp,hl1,hl2⟩:=jw hs
 simp only [kJ,Bool.and_eq_true] at hr
 have hr:=hr.2
 unfold fails at h
 by_cases e1:r.kind=1
 ·rw [if_pos e1] at hr h
  simp only [Bool.and_eq_true,within_iff,decide_eq_true_eq] at hr
  have hk:r.a.toNat < p.links.length:=by omega
  refine mO (Ug hk) ?_
  have el:fO p r.a=p.links[r.a.toNat]:=by unfold fO;rw [List.getD_eq_getElem?_getD,List.getElem?_eq_getElem hk];rfl
  obtain⟨hs1,hs2⟩:=DY hp (y:=fO p r.a) (by rw [el];exact List.getElem_mem hk)
  have e2:fO p ((r.a.toNat:Nat):Int)=fO p r.a:=by unfold fO;rw [Int.toNat_natCast]
  unfold breaks kN
  rw [if_pos rfl]
  show pO p s (fO p (r.a.toNat:Int))=true
  rw [e2]
  generalize fO p r.a=y at*
  have g1:=fU hs (eD hs1).2
  have i1:=hin _ (eD hs1).2
  have i2:=hin _ (eD hs2).2
  simp only [rX,decide_eq_true_eq] at h
  simp only [pO,decide_eq_true_eq]
  have hd:=qh g1 i1.2.2
  unfold kM at h
  unfold lV
  split at h
  ·rename_i hfe;rw [if_pos hfe];omega
  ·rename_i hfe;rw [if_neg hfe];omega
 rw [if_neg e1] at hr h
 by_cases e2:r.kind=2
 ·rw [if_pos e2] at hr h
  simp only [Bool.and_eq_true,decide_eq_true_eq] at hr h
  obtain⟨h0,hk⟩:=eD hr.1.1
  refine mO (Rm hk) ?_
  have g1:=fU hs hk
  have i1:=hin _ hk
  have hd:=qh g1 i1.2.2
  unfold kM at h
  unfold breaks endRule
  rw [if_neg (by simp),if_pos rfl]
  simp only [decide_eq_true_eq,Int.toNat_natCast]
  unfold lV;omega
 rw [if_neg e2] at hr h
 by_cases e3:r.kind=3
 ·rw [if_pos e3] at hr h
  simp only [Bool.and_eq_true,decide_eq_true_eq,bZ,within_iff] at hr h
  have hk:0≤r.a∧r.a.toNat < p.bM.length:=by have:=hr.1.1;simp only [eF,within_iff] at this;omega
  refine mO (OE (t:=r.b.toNat) hk.2 (by omega)) ?_
  unfold breaks kP
  rw [if_neg (by simp),if_neg (by simp),if_pos rfl]
  simp only [decide_eq_true_eq]
  have ea:((r.a.toNat:Nat):Int)=r.a:=by omega
  have eb:((r.b.toNat:Nat):Int)=r.b:=by omega
  rw [ea,eb]
  refine Int.lt_of_lt_of_le h ?_
  unfold EP wO
  refine sumTo_le fun k hk=>?_
  have g1:=fU hs hk
  have i1:=hin k hk
  unfold vF zY
  split
  ·rename_i hc
   have hd:=qh g1 i1.2.2
   unfold kM at hc
   have hrun:runs p s r.b k=true:=by
    simp only [runs,lV,Bool.and_eq_true]
    exact⟨decide_eq_true (by omega),decide_eq_true (by omega)⟩
   rw [if_pos hrun]
   exact CU g1 i1.2.2 r.a
  ·split
   ·exact (g1.use _).1
   ·exact Int.le_refl _
 rw [if_neg e3] at hr h
 by_cases e4:r.kind=4
 ·rw [if_pos e4] at hr h
  simp only [Bool.and_eq_true,decide_eq_true_eq,bZ,within_iff] at hr h
  have hk:0≤r.a∧r.a.toNat < p.bM.length:=by have:=hr.1.1.1;simp only [eF,within_iff] at this;omega
  unfold rW at h
  have hso:iH (uE p r.a).steps=true:=by
   have h9:=hp
   simp only [aK,Bool.and_eq_true,List.all_eq_true] at h9
   have h8:=h9.1.1.2 (uE p r.a) (by unfold uE;rw [List.getD_eq_getElem?_getD,List.getElem?_eq_getElem hk.2];exact List.getElem_mem hk.2)
   simp only [jF,Bool.and_eq_true] at h8
   exact h8.2.1
  rw [if_pos ⟨hso,by simp only [bZ,within_iff];omega,by simp only [bZ,within_iff];omega⟩,Kj] at h
  have hle:oH p b r.a r.b r.c≤sumTo (fun i=>wO p s r.a (r.b+i)) (r.c - r.b).toNat:=by
   rw [Qk]
   unfold oH
   refine sumTo_le fun k hk=>?_
   have g1:=fU hs hk
   have i1:=hin k hk
   rw [Rn g1 r.a r.b (by omega) _ (by omega)]
   rw [show r.b+((r.c - r.b).toNat:Int)=r.c by omega]
   exact Vo g1 (jS hf hk) i1 (by omega) (by omega)
  obtain⟨i,hi,hgt⟩:=OH (Int.lt_of_lt_of_le h hle)
  refine mO (OE (t:=(r.b+i).toNat) hk.2 (by omega)) ?_
  unfold breaks kP
  rw [if_neg (by simp),if_neg (by simp),if_pos rfl]
  simp only [decide_eq_true_eq]
  have ea:((r.a.toNat:Nat):Int)=r.a:=by omega
  have eb:(((r.b+i).toNat:Nat):Int)=r.b+i:=by omega
  rw [ea,eb]
  exact hgt
 rw [if_neg e4] at hr h
 by_cases e5:r.kind=5
 ·rw [if_pos e5] at hr h
  simp only [Bool.and_eq_true,decide_eq_true_eq] at hr
  obtain⟨⟨⟨hm,hb⟩,hc⟩,hlt⟩:=hr
  have hk:0≤r.a∧r.a.toNat < p.bM.length:=by have:=hm;simp only [fM,eF,Bool.and_eq_true,within_iff] at this;omega
  obtain⟨b0,hb⟩:=eD hb
  obtain⟨c0,hc⟩:=eD hc
  have ea:((r.a.toNat:Nat):Int)=r.a:=by omega
  have eb:((r.b.toNat:Nat):Int)=r.b:=by omega
  have ec:((r.c.toNat:Nat):Int)=r.c:=by omega
  refine mO (pair_mem (r:=r.a.toNat) (b:=r.b.toNat) (c:=r.c.toNat) hk.2 (by rw [ea];exact hm) (by omega) hc) ?_
  unfold breaks lY
  rw [if_neg (by simp),if_neg (by simp),if_neg (by simp),if_pos rfl]
  simp only [ea,eb,ec]
  have g1:=fU hs hb
  have i1:=hin _ hb
  have g2:=fU hs hc
  have i2:=hin _ hc
  unfold jam at h
  simp only [Bool.and_eq_true] at h
  obtain⟨⟨⟨q1,q2⟩,q3⟩,q4⟩:=h
  replace q1:=of_decide_eq_true q1
  replace q2:=of_decide_eq_true q2
  replace q3:=of_decide_eq_true q3
  replace q4:=of_decide_eq_true q4
  unfold kU kM at q3 q4
  have u1:=CU g1 i1.2.2 r.a
  have u2:=CU g2 i2.2.2 r.a
  have d1:=qh g1 i1.2.2
  have d2:=qh g2 i2.2.2
  simp only [rY,zZ,lV,Bool.and_eq_true,Bool.not_eq_true']
  exact⟨⟨⟨decide_eq_false (by omega),decide_eq_false (by omega)⟩,decide_eq_false (by omega)⟩,decide_eq_false (by omega)⟩
 rw [if_neg e5] at hr h
 by_cases e6:r.kind=6
 ·rw [if_pos e6] at hr
  simp only [Bool.and_eq_true,decide_eq_true_eq] at hr
  have hk:0≤r.a∧r.a.toNat < p.bn.length:=by have:=hr.1.1;simp only [jh,within_iff] at this;omega
  refine mO (Sr hk.2) ?_
  unfold breaks jq
  rw [if_neg (by simp),if_neg (by simp),if_neg (by simp),if_neg (by simp)]
  simp only [decide_eq_true_eq]
  have ea:((r.a.toNat:Nat):Int)=r.a:=by omega
  rw [ea]
  simp only [pK,decide_eq_true_eq] at h
  refine Int.lt_of_lt_of_le h ?_
  unfold Gd
  refine sumTo_le fun k hk=>?_
  exact Sq (fU hs hk) (hin k hk).2.2 r.a
 ·rw [if_neg e6] at hr;cases hr
theorem xZ {p:Proj} {b:Dom} {s:aL} {r:Rul} (h:refutes p b r=true) (hs:aX p s=true) (hin:qd b s p.acts.length):dM p s=false:=by
 simp only [refutes,Bool.and_eq_true,Bool.or_eq_true] at h
 obtain⟨hf,h|⟨hr,h⟩⟩:=h
 ·exfalso
  obtain⟨hp,h1,h2,h3⟩:=bU hf
  simp only [aS,Bool.or_eq_true,List.any_eq_true,List.mem_range] at h
  rcases h with⟨i,hi,hc⟩|⟨m,hm,hl⟩
  ·have:=hin i (by omega)
   unfold jG at hc
   rw [List.getElem?_eq_getElem (by omega:i < b.lo.length),List.getElem?_eq_getElem (by omega:i < b.hi.length)] at hc
   simp only [decide_eq_true_eq] at hc
   rw [List.getD_eq_getElem?_getD,List.getElem?_eq_getElem (by omega:i < b.lo.length),List.getD_eq_getElem?_getD (l:=b.hi),List.getElem?_eq_getElem (by omega:i < b.hi.length)] at this
   simp only [Option.getD_some] at this
   omega
  ·obtain⟨i,hi,rfl⟩:=List.getElem_of_mem hm
   have:=(hin i (by omega)).2.2
   rw [List.getD_eq_getElem?_getD,List.getElem?_eq_getElem hi] at this
   simp only [decide_eq_true_eq] at hl
   simp only [Option.getD_some] at this
   have:=List.length_pos_of_mem this
   omega
 ·exact Mh hf hr hs hin h
structure xw (b:Dom) (n:Nat):Prop where
 lo:b.lo.length=n
 hi:b.hi.length=n
 ms:b.modes.length=n
theorem ug {v:Int} (h: -2≤v∧v≤62):clamped v=v:=by unfold clamped;omega
theorem je {b:Dom} {n:Nat} (h:xw b n) (l:Lit):xw (restrict b l) n:=by
 obtain⟨h1,h2,h3⟩:=h
 unfold restrict
 split
 ·dsimp only
  split
  ·exact⟨by simpa using h1,h2,h3⟩
  ·split
   ·exact⟨h1,by simpa using h2,h3⟩
   ·split
    ·exact⟨h1,h2,by simpa using h3⟩
    ·split
     ·exact⟨h1,h2,by simpa using h3⟩
     ·exact⟨h1,h2,h3⟩
 ·exact⟨h1,h2,h3⟩
theorem dh {α:Type} {l:List α} {i:Nat} {x d:α} (h:i < l.length):(l.set i x).getD i d=x:=by
 rw [List.getD_eq_getElem?_getD,List.getElem?_set_self h];rfl
theorem getD_set_ne {α:Type} {l:List α} {i j:Nat} {x d:α} (h:i≠j):(l.set i x).getD j d=l.getD j d:=by
 rw [List.getD_eq_getElem?_getD,List.getElem?_set_ne h,List.getD_eq_getElem?_getD]
def Ql (l:Lit):Prop:= -2≤l.val∧l.val≤62
theorem vW {b:Dom} {s:aL} {n:Nat} {l:Lit} (hl:xw b n) (hin:qd b s n) (hf:Ql l) (hh:bL l s=true):qd (restrict b l) s n:=by
 obtain⟨h1,h2,h3⟩:=hl
 simp only [bL,Bool.and_eq_true,within_iff] at hh
 obtain⟨⟨ha,hb⟩,hh⟩:=hh
 unfold restrict
 split
 ·rename_i hd
  simp only [fu,Bool.and_eq_true,decide_eq_true_eq] at hd
  have hn:l.act.toNat < n:=by omega
  dsimp only
  rw [ug hf]
  have hk:=hin _ hn
  intro k hkn
  have hk2:=hin k hkn
  split
  ·rename_i e
   rw [if_pos e] at hh
   have hh:=of_decide_eq_true hh
   refine⟨?_,hk2.2⟩
   by_cases ek:l.act.toNat=k
   ·subst ek;rw [dh (by omega)];omega
   ·rw [getD_set_ne ek];exact hk2.1
  rename_i e1
  rw [if_neg e1] at hh
  split
  ·rename_i e
   rw [if_pos e] at hh
   have hh:=of_decide_eq_true hh
   refine⟨hk2.1,?_,hk2.2.2⟩
   by_cases ek:l.act.toNat=k
   ·subst ek;rw [dh (by omega)];omega
   ·rw [getD_set_ne ek];exact hk2.2.1
  rename_i e2
  rw [if_neg e2] at hh
  split
  ·rename_i e
   rw [if_pos e] at hh
   have hh:=of_decide_eq_true hh
   refine⟨hk2.1,hk2.2.1,?_⟩
   by_cases ek:l.act.toNat=k
   ·subst ek;rw [dh (by omega)]
    exact List.mem_filter.2 ⟨hk.2.2,decide_eq_true hh⟩
   ·rw [getD_set_ne ek];exact hk2.2.2
  rename_i e3
  rw [if_neg e3] at hh
  simp only [Bool.and_eq_true] at hh
  have e4:=of_decide_eq_true hh.1
  have hh:=of_decide_eq_true hh.2
  rw [if_pos e4]
  refine⟨hk2.1,hk2.2.1,?_⟩
  by_cases ek:l.act.toNat=k
  ·subst ek;rw [dh (by omega)]
   exact List.mem_filter.2 ⟨hk.2.2,decide_eq_true hh⟩
  ·rw [getD_set_ne ek];exact hk2.2.2
 ·exact hin
theorem Ib {p:Proj} {l:Lit} (h:iV p l=true):aK p=true∧bA p l.act=true∧ -1≤l.val∧l.val≤61∧(l.kind=1∨l.kind=2∨l.kind=3∨l.kind=4):=by
 simp only [iV,Bool.and_eq_true] at h
 obtain⟨⟨h1,h2⟩,h3⟩:=h
 refine⟨h1,h2,?_⟩
 split at h3
 ·rename_i e;simp only [within_iff] at h3;omega
 ·split at h3
  ·rename_i e
   obtain⟨h4,h5⟩:=eD h2
   rw [gF h5] at h3
   simp only [within_iff] at h3
   have:=iC h1 h5
   omega
  ·cases h3
theorem Kk {p:Proj} {l:Lit} (h:iV p l=true):Ql (negate l)∧(negate l).act=l.act:=by
 obtain⟨_,_,h1,h2,h3⟩:=Ib h
 unfold negate Ql
 rw [if_pos (within_iff.2 (by omega))]
 rcases h3 with e|e|e|e<;>rw [e]<;>simp<;>omega
theorem Bc {p:Proj} {s:aL} {l:Lit} (h:iV p l=true) (hs:aX p s=true):bL (negate l) s= !bL l s:=by
 obtain⟨hp,ha,h1,h2,h3⟩:=Ib h
 obtain⟨h4,h5⟩:=eD ha
 obtain⟨_,hl1,hl2⟩:=jw hs
 have w1:within l.act 0 ((s.starts.length:Int) - 1)=true:=within_iff.2 (by omega)
 have w2:within l.act 0 ((s.modes.length:Int) - 1)=true:=within_iff.2 (by omega)
 have w3:within l.val (-100000) 100000=true:=within_iff.2 (by omega)
 clear h h1 h2 ha h4 h5
 obtain⟨k,a,v⟩:=l
 dsimp only at w1 w2 w3 h3
 unfold negate
 rw [if_pos w3]
 rcases h3 with rfl|rfl|rfl|rfl
 ·show bL ⟨2,a,v - 1⟩ s= !bL ⟨1,a,v⟩ s
  unfold bL
  dsimp only
  rw [w1,w2]
  show (decide (s.starts.getD a.toNat 0≤v - 1))= !(decide (s.starts.getD a.toNat 0≥v))
  by_cases hh:s.starts.getD a.toNat 0≥v
  ·rw [decide_eq_true hh,decide_eq_false (by omega)];rfl
  ·rw [decide_eq_false hh,decide_eq_true (by omega)];rfl
 ·show bL ⟨1,a,v+1⟩ s= !bL ⟨2,a,v⟩ s
  unfold bL
  dsimp only
  rw [w1,w2]
  show (decide (s.starts.getD a.toNat 0≥v+1))= !(decide (s.starts.getD a.toNat 0≤v))
  by_cases hh:s.starts.getD a.toNat 0≤v
  ·rw [decide_eq_true hh,decide_eq_false (by omega)];rfl
  ·rw [decide_eq_false hh,decide_eq_true (by omega)];rfl
 ·show bL ⟨4,a,v⟩ s= !bL ⟨3,a,v⟩ s
  unfold bL
  dsimp only
  rw [w1,w2]
  show (decide (s.modes.getD a.toNat 0≠v))= !(decide (s.modes.getD a.toNat 0=v))
  simp
 ·show bL ⟨3,a,v⟩ s= !bL ⟨4,a,v⟩ s
  unfold bL
  dsimp only
  rw [w1,w2]
  show (decide (s.modes.getD a.toNat 0=v))= !(decide (s.modes.getD a.toNat 0≠v))
  simp
theorem Je {p:Proj} {l:List Lit} (h:lT p l=true):∀x∈l,iV p x=true:=by
 intro x hx
 simp only [lT,Bool.and_eq_true] at h
 obtain⟨i,hi,rfl⟩:=List.getElem_of_mem hx
 have:=bf.1 h.1 i hi
 unfold clauseAt at this
 rw [List.getElem?_eq_getElem hi] at this
 simp only [Bool.and_eq_true] at this
 exact this.1
theorem Ic {p:Proj} {s:aL} {n:Nat} (hs:aX p s=true):∀(l:List Lit) (b:Dom),(∀x∈l,iV p x=true)→iw l s=false→xw b n→qd b s n→xw (against b l) n∧qd (against b l) s n
 |[],b,_,_,hl,hin=>⟨hl,hin⟩
 |x::l,b,hok,hf,hl,hin=>by
  simp only [iw,List.any_cons,Bool.or_eq_false_iff] at hf
  have hx:=hok x (List.mem_cons_self ..)
  exact Ic hs l (restrict b (negate x)) (fun y hy=>hok y (List.mem_cons_of_mem _ hy)) hf.2 (je hl _)
   (vW hl hin (Kk hx).1 (by rw [Bc hx hs,hf.1];rfl))
theorem oF {p:Proj} {s:aL} (h:dM p s=true):aX p s=true:=by
 simp only [dM,Bool.and_eq_true] at h;exact h.1
theorem OI {p:Proj} {s:aL} (h:dM p s=true) {k:Nat} (hk:k < p.acts.length):lV p s k≤p.dead:=by
 by_cases hh:lV p s k≤p.dead
 ·exact hh
 ·have:=mO (s:=s) (Rm hk) (by
   unfold breaks endRule
   rw [if_neg (by simp),if_pos rfl]
   exact decide_eq_true (by simp only [Int.toNat_natCast];omega))
  rw [h] at this;cases this
theorem kS {p:Proj} (h:aK p=true):xw (aV p) p.acts.length:=by
 unfold aV;rw [if_pos h];exact⟨by simp [kL],by simp [kL],by simp [kL]⟩
theorem iT {α β:Type} {l:List α} {f:α→β} {k:Nat} {d:β} (h:k < l.length):(l.map f).getD k d=f l[k]:=by
 rw [List.getD_eq_getElem?_getD,List.getElem?_map,List.getElem?_eq_getElem h];rfl
theorem Vp {p:Proj} {s:aL} (h:dM p s=true):qd (aV p) s p.acts.length:=by
 have hs:=oF h
 obtain⟨hp,_,_⟩:=jw hs
 intro k hk
 have g:=fU hs hk
 have he:=OI h hk
 have h1:=g.lo;have h2:=g.d1
 unfold lV at he
 unfold aV;rw [if_pos hp]
 unfold kL
 dsimp only
 rw [iT hk,iT hk,iT hk]
 refine⟨h1,by omega,?_⟩
 have ea:p.acts[k]=aT p k:=by
  have:=gF hk
  rw [List.getElem?_eq_getElem hk] at this
  exact Option.some.inj this
 rw [ea]
 exact Mg (by have:=iC hp hk;omega) g.m0 g.m1
theorem Jf {p:Proj} {s:aL} {r:Rul} {l:List Lit} (h:follows p r l=true) (hs:dM p s=true):iw l s=true:=by
 cases hc:iw l s with
 |true=>rfl
 |false=>
  simp only [follows,Bool.and_eq_true] at h
  have hf:=oF hs
  have:=Ic hf l _ (Je h.1) hc (kS (jw hf).1) (Vp hs)
  have:=xZ h.2 hf this.2
  rw [hs] at this;cases this
def eG (a b:Dom) (n:Nat):Prop:=∀k,k < n→b.lo.getD k 0≤a.lo.getD k 0∧a.hi.getD k 0≤b.hi.getD k 0∧∀m∈a.modes.getD k [],m∈b.modes.getD k []
theorem eG.refl (a:Dom) (n:Nat):eG a a n:=fun _ _=>⟨Int.le_refl _,Int.le_refl _,fun _ h=>h⟩
theorem eG.trans {a b c:Dom} {n:Nat} (h:eG a b n) (h':eG b c n):eG a c n:=fun k hk=>by
 obtain⟨h1,h2,h3⟩:=h k hk
 obtain⟨h4,h5,h6⟩:=h' k hk
 exact⟨by omega,by omega,fun m hm=>h6 m (h3 m hm)⟩
theorem yc:∀(l:List Int) (a:Int),l.foldl min a=a∨l.foldl min a∈l
 |[],a=>.inl rfl
 |y::l,a=>by
  simp only [List.foldl_cons]
  rcases yc l (min a y) with h|h
  ·rw [h]
   by_cases hh:a≤y
   ·rw [Int.min_eq_left hh];exact .inl rfl
   ·rw [Int.min_eq_right (by omega)];exact .inr (List.mem_cons_self ..)
  ·exact .inr (List.mem_cons_of_mem _ h)
theorem Kl {l:List Int} (h:l≠[]):least l∈l:=by
 cases l with
 |nil=>exact (h rfl).elim
 |cons y l=>
  rcases yc l y with e|e
  ·show l.foldl min y∈_;rw [e];exact List.mem_cons_self ..
  ·exact List.mem_cons_of_mem _ e
theorem CV {l l':List Int} (hn:l'≠[]) (h:∀x∈l',∃y∈l,y≤x):least l≤least l':=by
 obtain⟨y,hy,hle⟩:=h _ (Kl hn)
 exact Int.le_trans (wU hy) hle
theorem jm {ms ms':List Int} (h:∀m∈ms',m∈ms):∀(l:List Mode) (k:Nat) (m:Mode),m∈bI ms' l k→m∈bI ms l k
 |[],k,m,hm=>hm
 |y::l,k,m,hm=>by
  rw [bI] at hm ⊢
  split at hm
  ·rename_i hc
   rw [if_pos (by simp at hc ⊢;exact h _ hc)]
   rcases List.mem_cons.1 hm with rfl|hm
   ·exact List.mem_cons_self ..
   ·exact List.mem_cons_of_mem _ (jm h l (k+1) m hm)
  ·split
   ·exact List.mem_cons_of_mem _ (jm h l (k+1) m hm)
   ·exact jm h l (k+1) m hm
theorem kT {ms:List Int}:∀(l:List Mode) (k:Nat) (m:Mode),m∈bI ms l k→m∈l
 |[],k,m,hm=>hm
 |y::l,k,m,hm=>by
  rw [bI] at hm
  split at hm
  ·rcases List.mem_cons.1 hm with rfl|hm
   ·exact List.mem_cons_self ..
   ·exact List.mem_cons_of_mem _ (kT l (k+1) m hm)
  ·exact List.mem_cons_of_mem _ (kT l (k+1) m hm)
structure qj (a:aJ) (ms ms':List Int):Prop where
 ne:∃m∈ms',0≤m∧m.toNat < a.modes.length
 sub:∀m∈ms',m∈ms
theorem qj.chosen {a:aJ} {ms ms':List Int} (h:qj a ms ms'):chosen a ms'≠[]:=by
 obtain⟨m,h1,h2,h3⟩:=h.ne
 have:=qg (ms:=ms') (m:=a.modes[m.toNat]) a.modes 0 m.toNat (List.getElem?_eq_getElem h3) (by rw [Nat.zero_add,Int.toNat_of_nonneg h2];exact h1)
 intro e
 unfold Abs.chosen at e
 rw [e] at this;cases this
theorem nN {a:aJ} {ms ms':List Int} (h:qj a ms ms'):rA a ms≤rA a ms':=by
 refine CV (by simpa using h.chosen) fun x hx=>?_
 obtain⟨m,hm,rfl⟩:=List.mem_map.1 hx
 exact⟨_,List.mem_map.2 ⟨m,jm h.sub _ _ m hm,rfl⟩,Int.le_refl _⟩
theorem Bd {a:aJ} {ms ms':List Int} {f:Mode→Option Int} (h:qj a ms ms') (hf:∀m∈a.modes,(f m).isSome=true):leastOf (chosen a ms) f≤leastOf (chosen a ms') f:=by
 have h1:(chosen a ms).all (fun m=>(f m).isSome)=true:=List.all_eq_true.2 fun m hm=>hf m (kT _ _ m hm)
 have h2:(chosen a ms').all (fun m=>(f m).isSome)=true:=List.all_eq_true.2 fun m hm=>hf m (kT _ _ m hm)
 unfold leastOf
 rw [if_pos h1,if_pos h2]
 refine CV (by simpa using h.chosen) fun x hx=>?_
 obtain⟨m,hm,rfl⟩:=List.mem_map.1 hx
 exact⟨_,List.mem_map.2 ⟨m,jm h.sub _ _ m hm,rfl⟩,Int.le_refl _⟩
theorem vX {l:List Int} {n:Nat} {r:Int} (h:aW l n=true) (hr:0≤r∧r.toNat < n):(dF l r).isSome=true:=by
 simp only [aW,Bool.and_eq_true,decide_eq_true_eq] at h
 unfold dF
 rw [if_pos (within_iff.2 (by omega))];rfl
theorem uh {m:Mode} {r s:Int} (h:iB m r s=true):aW m.use r=true∧aW m.con s=true:=by
 simp only [iB,Bool.and_eq_true] at h;exact⟨h.1.2,h.2⟩
theorem vY {p:Proj} (hp:aK p=true) {k:Nat} (hk:k < p.acts.length) {r:Int} (hr:0≤r∧r.toNat < p.bM.length) {ms ms':List Int} (h:qj (aT p k) ms ms'):gL (aT p k) ms r≤gL (aT p k) ms' r:=
 Bd h fun m hm=>vX (uh (nM hp hk hm)).1 hr
theorem OJ {p:Proj} (hp:aK p=true) {k:Nat} (hk:k < p.acts.length) {r:Int} (hr:0≤r∧r.toNat < p.bn.length) {ms ms':List Int} (h:qj (aT p k) ms ms'):tJ (aT p k) ms r≤tJ (aT p k) ms' r:=
 Bd h fun m hm=>vX (uh (nM hp hk hm)).2 hr
theorem Sv {p:Proj} (hp:aK p=true) {k:Nat} (hk:k < p.acts.length) (r:Int) (ms:List Int):0≤gL (aT p k) ms r:=by
 unfold gL leastOf
 split
 ·by_cases hn:(chosen (aT p k) ms).map (fun m=>(dF m.use r).getD 0)= []
  ·rw [hn];exact Int.le_refl _
  ·obtain⟨m,hm,e⟩:=List.mem_map.1 (Kl hn)
   rw [← e]
   unfold dF
   split
   ·exact (qP (uh (nM hp hk (kT _ _ m hm))).1 _).1
   ·exact Int.le_refl _
 ·exact Int.le_refl _
theorem jy {p:Proj} {a b:Dom} (hf:aA p a=true) (he:aS a=false) (hs:eG a b p.acts.length) {k:Nat} (hk:k < p.acts.length):qj (aT p k) (b.modes.getD k []) (a.modes.getD k [])∧a.lo.getD k 0≤a.hi.getD k 0:=by
 obtain⟨hp,h1,h2,h3⟩:=bU hf
 have hb:=jS hf hk
 simp only [aS,Bool.or_eq_false_iff,List.any_eq_false,List.mem_range] at he
 have hc:=he.1 k (by omega)
 unfold jG at hc
 rw [List.getElem?_eq_getElem (by omega:k < a.lo.length),List.getElem?_eq_getElem (by omega:k < a.hi.length)] at hc
 simp only [decide_eq_true_eq] at hc
 have hm:=he.2 a.modes[k] (List.getElem_mem (by omega))
 have e3:a.modes.getD k []=a.modes[k]'(by omega):=by rw [List.getD_eq_getElem?_getD,List.getElem?_eq_getElem (by omega)];rfl
 refine⟨⟨?_,(hs k hk).2.2⟩,?_⟩
 ·cases hx:a.modes.getD k [] with
  |nil=>rw [e3] at hx;rw [hx] at hm;simp at hm
  |cons m l=>exact⟨m,List.mem_cons_self ..,hb.ms m (by rw [hx];exact List.mem_cons_self ..)⟩
 ·rw [List.getD_eq_getElem?_getD,List.getElem?_eq_getElem (by omega:k < a.lo.length),List.getD_eq_getElem?_getD,List.getElem?_eq_getElem (by omega:k < a.hi.length)]
  simp only [Option.getD_some];omega
theorem Qm {p:Proj} {a b:Dom} {r:Rul} (hfa:aA p a=true) (hfb:aA p b=true) (he:aS a=false) (hs:eG a b p.acts.length) (hr:kJ p r=true) (h:fails p b r=true):fails p a r=true:=by
 obtain⟨hp,_,_,_⟩:=bU hfa
 simp only [kJ,Bool.and_eq_true] at hr
 have hr:=hr.2
 unfold fails at h ⊢
 by_cases e1:r.kind=1
 ·rw [if_pos e1] at hr h ⊢
  simp only [Bool.and_eq_true,within_iff,decide_eq_true_eq] at hr
  have hk:r.a.toNat < p.links.length:=by omega
  have el:fO p r.a=p.links[r.a.toNat]:=by unfold fO;rw [List.getD_eq_getElem?_getD,List.getElem?_eq_getElem hk];rfl
  obtain⟨hs1,hs2⟩:=DY hp (y:=fO p r.a) (by rw [el];exact List.getElem_mem hk)
  generalize fO p r.a=y at*
  have i1:=hs _ (eD hs1).2
  have i2:=hs _ (eD hs2).2
  have hd:=nN (jy hfa he hs (eD hs1).2).1
  unfold rX at h ⊢
  have h:=of_decide_eq_true h
  refine decide_eq_true ?_
  unfold kM at h ⊢
  split at h
  ·rename_i hfe;rw [if_pos hfe];omega
  ·rename_i hfe;rw [if_neg hfe];omega
 rw [if_neg e1] at hr h ⊢
 by_cases e2:r.kind=2
 ·rw [if_pos e2] at hr h ⊢
  simp only [Bool.and_eq_true,decide_eq_true_eq] at hr
  obtain⟨h0,hk⟩:=eD hr.1.1
  have i1:=hs _ hk
  have hd:=nN (jy hfa he hs hk).1
  have h:=of_decide_eq_true h
  unfold kM at h
  exact decide_eq_true (by unfold kM;omega)
 rw [if_neg e2] at hr h ⊢
 by_cases e3:r.kind=3
 ·rw [if_pos e3] at hr h ⊢
  simp only [Bool.and_eq_true,decide_eq_true_eq,bZ,within_iff] at hr
  have hk:0≤r.a∧r.a.toNat < p.bM.length:=by have:=hr.1.1;simp only [eF,within_iff] at this;omega
  have h:=of_decide_eq_true h
  refine decide_eq_true (Int.lt_of_lt_of_le h ?_)
  unfold EP
  refine sumTo_le fun k hkn=>?_
  have i1:=hs k hkn
  have hm:=(jy hfa he hs hkn).1
  have hd:=nN hm
  have hu:=vY hp hkn hk hm
  have hn:=Sv hp hkn r.a (a.modes.getD k [])
  unfold vF kM
  split
  ·rename_i hc
   rw [if_pos (by omega)];exact hu
  ·split
   ·exact hn
   ·exact Int.le_refl _
 rw [if_neg e3] at hr h ⊢
 by_cases e4:r.kind=4
 ·rw [if_pos e4] at hr h ⊢
  simp only [Bool.and_eq_true,decide_eq_true_eq,bZ,within_iff] at hr
  have h:=of_decide_eq_true h
  refine decide_eq_true (Int.lt_of_lt_of_le h ?_)
  unfold oH
  refine sumTo_le fun k hkn=>?_
  have i1:=hs k hkn
  obtain⟨hm,hlh⟩:=jy hfa he hs hkn
  have ga:=jS hfa hkn
  have gb:=jS hfb hkn
  unfold nX
  refine CV ?_ fun x hx=>?_
  ·obtain⟨m,h1,_⟩:=hm.ne
   intro e
   have:ji p a k r.a r.b r.c m∈(a.modes.getD k []).map (ji p a k r.a r.b r.c):=List.mem_map.2 ⟨m,h1,rfl⟩
   rw [e] at this;cases this
  ·obtain⟨m,h1,rfl⟩:=List.mem_map.1 hx
   refine⟨_,List.mem_map.2 ⟨m,hm.sub m h1,rfl⟩,?_⟩
   obtain⟨m0,m1⟩:=ga.ms m h1
   have hmm:(aT p k).modes.getD m.toNat ⟨0,[],[]⟩∈(aT p k).modes:=by
    rw [List.getD_eq_getElem?_getD,List.getElem?_eq_getElem m1];exact List.getElem_mem m1
   have hok:=nM hp hkn hmm
   have hu:=(qP (uh hok).1 r.a.toNat).1
   simp only [iB,Bool.and_eq_true,within_iff] at hok
   have k1:=ga.l1;have k2:=ga.l2;have k3:=ga.h1;have k4:=ga.h2
   have j1:=gb.l1;have j2:=gb.l2;have j3:=gb.h1;have j4:=gb.h2
   unfold ji
   dsimp only
   generalize (aT p k).modes.getD m.toNat ⟨0,[],[]⟩=mo at*
   have d1:=hok.1.1.1;have d2:=hok.1.1.2
   rw [iD ⟨k1,k2⟩ ⟨d1,by omega⟩ ⟨by omega,by omega⟩ ⟨by omega,by omega⟩,iD ⟨k3,k4⟩ ⟨d1,by omega⟩ ⟨by omega,by omega⟩ ⟨by omega,by omega⟩,
    iD ⟨j1,j2⟩ ⟨d1,by omega⟩ ⟨by omega,by omega⟩ ⟨by omega,by omega⟩,iD ⟨j3,j4⟩ ⟨d1,by omega⟩ ⟨by omega,by omega⟩ ⟨by omega,by omega⟩]
   refine Int.mul_le_mul_of_nonneg_right ?_ hu
   omega
 rw [if_neg e4] at hr h ⊢
 by_cases e5:r.kind=5
 ·rw [if_pos e5] at hr h ⊢
  simp only [Bool.and_eq_true,decide_eq_true_eq] at hr
  obtain⟨⟨⟨hm,hb⟩,hc⟩,hlt⟩:=hr
  have hk:0≤r.a∧r.a.toNat < p.bM.length:=by have:=hm;simp only [fM,eF,Bool.and_eq_true,within_iff] at this;omega
  obtain⟨b0,hb⟩:=eD hb
  obtain⟨c0,hc⟩:=eD hc
  have i1:=hs _ hb
  have i2:=hs _ hc
  have s1:=(jy hfa he hs hb).1
  have s2:=(jy hfa he hs hc).1
  have u1:=vY hp hb hk s1
  have u2:=vY hp hc hk s2
  have d1:=nN s1
  have d2:=nN s2
  unfold jam at h ⊢
  simp only [Bool.and_eq_true] at h ⊢
  obtain⟨⟨⟨q1,q2⟩,q3⟩,q4⟩:=h
  replace q1:=of_decide_eq_true q1
  replace q2:=of_decide_eq_true q2
  replace q3:=of_decide_eq_true q3
  replace q4:=of_decide_eq_true q4
  unfold kU kM at q3 q4
  exact⟨⟨⟨decide_eq_true (by omega),decide_eq_true (by omega)⟩,decide_eq_true (by unfold kU kM;omega)⟩,decide_eq_true (by unfold kU kM;omega)⟩
 rw [if_neg e5] at hr h ⊢
 by_cases e6:r.kind=6
 ·rw [if_pos e6] at hr
  simp only [Bool.and_eq_true,decide_eq_true_eq] at hr
  have hk:0≤r.a∧r.a.toNat < p.bn.length:=by have:=hr.1.1;simp only [jh,within_iff] at this;omega
  simp only [pK,decide_eq_true_eq] at h ⊢
  refine Int.lt_of_lt_of_le h (sumTo_le fun k hkn=>?_)
  exact OJ hp hkn hk (jy hfa he hs hkn).1
 ·rw [if_neg e6] at hr;cases hr
theorem Qn {p:Proj} {a b:Dom} (hfa:aA p a=true) (hfb:aA p b=true) (hs:eG a b p.acts.length) (h:aS b=true):aS a=true:=by
 cases he:aS a with
 |true=>rfl
 |false=>
  exfalso
  obtain⟨hp,h1,h2,h3⟩:=bU hfb
  simp only [aS,Bool.or_eq_true,List.any_eq_true,List.mem_range] at h
  rcases h with⟨i,hi,hc⟩|⟨m,hm,hl⟩
  ·have:=hs i (by omega)
   have h5:=(jy hfa he hs (show i < p.acts.length by omega)).2
   unfold jG at hc
   rw [List.getElem?_eq_getElem (by omega:i < b.lo.length),List.getElem?_eq_getElem (by omega:i < b.hi.length)] at hc
   have hc:=of_decide_eq_true hc
   rw [List.getD_eq_getElem?_getD (l:=b.lo),List.getElem?_eq_getElem (by omega:i < b.lo.length),List.getD_eq_getElem?_getD (l:=b.hi),List.getElem?_eq_getElem (by omega:i < b.hi.length)] at this
   simp only [Option.getD_some] at this
   omega
  ·obtain⟨i,hi,rfl⟩:=List.getElem_of_mem hm
   obtain⟨m,g1,g2⟩:=(jy hfa he hs (show i < p.acts.length by omega)).1.ne
   have:=(hs i (by omega)).2.2 m g1
   rw [List.getD_eq_getElem?_getD,List.getElem?_eq_getElem hi] at this
   simp only [decide_eq_true_eq] at hl
   simp only [Option.getD_some] at this
   have:=List.length_pos_of_mem this
   omega
theorem Bf {p:Proj} {a b:Dom} {r:Rul} (hfa:aA p a=true) (hs:eG a b p.acts.length) (h:refutes p b r=true):refutes p a r=true:=by
 simp only [refutes,Bool.and_eq_true,Bool.or_eq_true] at h ⊢
 obtain⟨hfb,h⟩:=h
 refine⟨hfa,?_⟩
 cases he:aS a with
 |true=>exact .inl rfl
 |false=>
  rcases h with h|⟨hr,h⟩
  ·rw [Qn hfa hfb hs h] at he;cases he
  ·exact .inr ⟨hr,Qm hfa hfb he hs hr h⟩
theorem uj (b:Dom) (l:Lit) {n:Nat} (hl:xw b n):eG (restrict b l) b n:=by
 obtain⟨h1,h2,h3⟩:=hl
 intro k hk
 unfold restrict
 split
 ·rename_i hd
  simp only [fu,Bool.and_eq_true,decide_eq_true_eq] at hd
  dsimp only
  split
  ·refine⟨?_,Int.le_refl _,fun _ h=>h⟩
   by_cases ek:l.act.toNat=k
   ·subst ek;rw [dh (by omega)];omega
   ·rw [getD_set_ne ek];exact Int.le_refl _
  split
  ·refine⟨Int.le_refl _,?_,fun _ h=>h⟩
   by_cases ek:l.act.toNat=k
   ·subst ek;rw [dh (by omega)];omega
   ·rw [getD_set_ne ek];exact Int.le_refl _
  split
  ·refine⟨Int.le_refl _,Int.le_refl _,fun m hm=>?_⟩
   by_cases ek:l.act.toNat=k
   ·subst ek;rw [dh (by omega)] at hm;exact (List.mem_filter.1 hm).1
   ·rw [getD_set_ne ek] at hm;exact hm
  split
  ·refine⟨Int.le_refl _,Int.le_refl _,fun m hm=>?_⟩
   by_cases ek:l.act.toNat=k
   ·subst ek;rw [dh (by omega)] at hm;exact (List.mem_filter.1 hm).1
   ·rw [getD_set_ne ek] at hm;exact hm
  ·exact⟨Int.le_refl _,Int.le_refl _,fun _ h=>h⟩
 ·exact⟨Int.le_refl _,Int.le_refl _,fun _ h=>h⟩
theorem um {a b c:Dom} {l:Lit} {n:Nat} (hb:xw b n) (hc:xw c n) (h1:eG a b n) (h2:eG a (restrict c l) n):eG a (restrict b l) n:=by
 obtain⟨b1,b2,b3⟩:=hb
 obtain⟨c1,c2,c3⟩:=hc
 intro k hk
 have k1:=h1 k hk
 have k2:=h2 k hk
 have hdd:fu b l.act=fu c l.act:=by unfold fu;rw [b1,b2,b3,c1,c2,c3]
 unfold restrict at k2 ⊢
 rw [hdd]
 split
 ·rename_i hd
  rw [if_pos hd] at k2
  have hd':=hd
  simp only [fu,Bool.and_eq_true,decide_eq_true_eq] at hd'
  dsimp only at k2 ⊢
  by_cases ek:l.act.toNat=k
  ·subst ek
   split
   ·rename_i e;rw [if_pos e] at k2;dsimp only at k2 ⊢
    rw [dh (by omega)] at k2 ⊢
    exact⟨by omega,k1.2⟩
   rename_i e1;rw [if_neg e1] at k2
   split
   ·rename_i e;rw [if_pos e] at k2;dsimp only at k2 ⊢
    rw [dh (by omega)] at k2 ⊢
    exact⟨k1.1,by omega,k1.2.2⟩
   rename_i e2;rw [if_neg e2] at k2
   split
   ·rename_i e;rw [if_pos e] at k2;dsimp only at k2 ⊢
    rw [dh (by omega)] at k2 ⊢
    exact⟨k1.1,k1.2.1,fun m hm=>List.mem_filter.2 ⟨k1.2.2 m hm,(List.mem_filter.1 (k2.2.2 m hm)).2⟩⟩
   rename_i e3;rw [if_neg e3] at k2
   split
   ·rename_i e;rw [if_pos e] at k2;dsimp only at k2 ⊢
    rw [dh (by omega)] at k2 ⊢
    exact⟨k1.1,k1.2.1,fun m hm=>List.mem_filter.2 ⟨k1.2.2 m hm,(List.mem_filter.1 (k2.2.2 m hm)).2⟩⟩
   ·exact k1
  ·split
   ·dsimp only;rw [getD_set_ne ek];exact k1
   split
   ·dsimp only;rw [getD_set_ne ek];exact k1
   split
   ·dsimp only;rw [getD_set_ne ek];exact k1
   split
   ·dsimp only;rw [getD_set_ne ek];exact k1
   ·exact k1
 ·exact k1
theorem nO {n:Nat}:∀(l:List Lit) (b:Dom),xw b n→xw (against b l) n∧eG (against b l) b n
 |[],b,h=>⟨h,eG.refl _ _⟩
 |x::l,b,h=>by
  obtain⟨h1,h2⟩:=nO l (restrict b (negate x)) (je h _)
  exact⟨h1,h2.trans (uj b _ h)⟩
theorem oG {n:Nat}:∀(l:List Lit) (b:Dom),xw b n→∀x∈l,eG (against b l) (restrict b (negate x)) n
 |[],b,h,x,hx=>by cases hx
 |y::l,b,h,x,hx=>by
  rcases List.mem_cons.1 hx with rfl|hx
  ·exact (nO l _ (je h _)).2
  ·have h1:=oG l (restrict b (negate y)) (je h _) x hx
   have h2:=(nO l (restrict b (negate y)) (je h _)).2
   exact um h (je h _) (h2.trans (uj b _ h)) h1
end Go.Proofs.YtjfnojijdggfhaaGreat.Abs
