/- Rules that refute a domain are broken by each of its schedules; clauses that follow hold. Plain Lean. -/
import Derived.Test.YtgkfifiobmklcaaGreatPlain
set_option linter.all false
namespace Go.Proofs.YtgkfifiobmklcaaGreat.Abs
def jZ (b:Dom) (s:aK) (n:Nat):Prop:=∀k,k < n→b.lo.getD k 0≤s.starts.getD k 0∧s.starts.getD k 0≤b.hi.getD k 0∧s.modes.getD k 0∈b.modes.getD k []
def bR (l:Lit) (s:aK):Bool:=
 within l.act 0 ((s.starts.length:Int) - 1)&&within l.act 0 ((s.modes.length:Int) - 1)&&
  (if l.kind=1 then decide (s.starts.getD l.act.toNat 0≥l.val) else if l.kind=2 then decide (s.starts.getD l.act.toNat 0≤l.val)
   else if l.kind=3 then decide (s.modes.getD l.act.toNat 0=l.val) else decide (l.kind=4)&&decide (s.modes.getD l.act.toNat 0≠l.val))
def bN (l:List Lit) (s:aK):Bool:=l.any fun x=>bR x s
theorem gM {p:Proj} {k:Nat} (hk:k < p.acts.length):p.acts[k]? =some (bg p k):=by
 unfold bg;rw [List.getD_eq_getElem?_getD,List.getElem?_eq_getElem hk];rfl
theorem Js {p:Proj} (h:aG p=true) {k:Nat} (hk:k < p.acts.length):bT (bg p k) p.bC.length p.aX.length=true:=by
 simp only [aG,Bool.and_eq_true] at h
 have h1:=bL.1 h.1.1.1.2 k hk
 unfold uE at h1
 rw [gM hk] at h1
 simp only [Bool.and_eq_true] at h1
 exact h1.1
theorem qO {p:Proj} (h:aG p=true) {k:Nat} (hk:k < p.acts.length) {m:Mode} (hm:m∈(bg p k).modes):jA m p.bC.length p.aX.length=true:=by
 have h1:=Js h hk
 simp only [bT,Bool.and_eq_true,List.all_eq_true] at h1
 exact h1.1 m hm
theorem iA {p:Proj} (h:aG p=true) {k:Nat} (hk:k < p.acts.length):1≤(bg p k).modes.length∧(bg p k).modes.length≤3:=by
 have h1:=Js h hk
 simp only [bT,Bool.and_eq_true,within_iff] at h1
 have:=h1.2.2;omega
theorem kg {p:Proj} (h:aG p=true):1≤p.dead∧p.dead≤60∧1≤p.acts.length∧p.acts.length≤6:=by
 simp only [aG,pU,Bool.and_eq_true,within_iff] at h
 have h1:=h.1.1.1.1.1.1.1;omega
theorem Jt {p:Proj} (h:aG p=true) {y:Link} (hy:y∈p.links):bG p y.src=true∧bG p y.dst=true:=by
 simp only [aG,Bool.and_eq_true,List.all_eq_true] at h
 have h1:=h.2 y hy
 simp only [kV,Bool.and_eq_true] at h1
 exact h1.1.1
theorem fE {p:Proj} {n:Int} (h:bG p n=true):0≤n∧n.toNat < p.acts.length:=by
 simp only [bG,within_iff] at h;omega
structure lT (p:Proj) (s:aK) (k:Nat):Prop where
 lo:0≤s.starts.getD k 0
 hi:s.starts.getD k 0≤60
 m0:0≤s.modes.getD k 0
 m1:(s.modes.getD k 0).toNat < (bg p k).modes.length
 mem:fu p s k∈(bg p k).modes
 d1:1≤(fu p s k).dur
 d2:(fu p s k).dur≤12
 ok:jA (fu p s k) p.bC.length p.aX.length=true
theorem jC {p:Proj} {s:aK} (h:bP p s=true):aG p=true∧s.starts.length=p.acts.length∧s.modes.length=p.acts.length:=by
 simp only [bP,Bool.and_eq_true,Bool.not_eq_true',decide_eq_false_iff_not] at h
 exact⟨h.1.1.1,by omega,by omega⟩
theorem iK {p:Proj} {s:aK} (h:bP p s=true) {k:Nat} (hk:k < p.acts.length):lT p s k:=by
 obtain⟨hp,h1,h2⟩:=jC h
 simp only [bP,Bool.and_eq_true] at h
 have h3:=bL.1 h.2 k hk
 unfold xJ at h3
 rw [gM hk,List.getElem?_eq_getElem (by omega:k < s.starts.length),List.getElem?_eq_getElem (by omega:k < s.modes.length)] at h3
 simp only [Bool.and_eq_true,dS,within_iff] at h3
 have e1:s.starts.getD k 0=s.starts[k]'(by omega):=by rw [List.getD_eq_getElem?_getD,List.getElem?_eq_getElem (by omega)];rfl
 have e2:s.modes.getD k 0=s.modes[k]'(by omega):=by rw [List.getD_eq_getElem?_getD,List.getElem?_eq_getElem (by omega)];rfl
 have hlt:(s.modes.getD k 0).toNat < (bg p k).modes.length:=by rw [e2];omega
 have hm:fu p s k∈(bg p k).modes:=by
  unfold fu;rw [List.getD_eq_getElem?_getD,List.getElem?_eq_getElem hlt];exact List.getElem_mem hlt
 have ho:=qO hp hk hm
 have ho':=ho
 simp only [jA,Bool.and_eq_true,within_iff] at ho'
 exact⟨by rw [e1];omega,by rw [e1];omega,by rw [e2];omega,hlt,hm,ho'.1.1.1,ho'.1.1.2,ho⟩
theorem uR {l:List Int} {n:Int} (h:bO l n=true) (i:Nat):0≤l.getD i 0∧l.getD i 0≤20:=by
 simp only [bO,Bool.and_eq_true,List.all_eq_true] at h
 by_cases hi:i < l.length
 ·have:=h.1 _ (List.getElem_mem hi)
  rw [List.getD_eq_getElem?_getD,List.getElem?_eq_getElem hi]
  simpa [eG,within_iff] using this
 ·rw [List.getD_eq_getElem?_getD,List.getElem?_eq_none (by omega)];simp
theorem lT.use {p:Proj} {s:aK} {k:Nat} (h:lT p s k) (r:Nat):0≤(fu p s k).use.getD r 0∧(fu p s k).use.getD r 0≤20:=by
 have:=h.ok
 simp only [jA,Bool.and_eq_true] at this
 exact uR this.1.2 r
theorem lT.con {p:Proj} {s:aK} {k:Nat} (h:lT p s k) (r:Nat):0≤(fu p s k).con.getD r 0:=by
 have:=h.ok
 simp only [jA,Bool.and_eq_true] at this
 exact (uR this.2 r).1
theorem yj:∀(l:List Int) (a:Int),l.foldl min a≤a∧∀x∈l,l.foldl min a≤x
 |[],a=>⟨Int.le_refl _,by simp⟩
 |y::l,a=>by
  obtain⟨h1,h2⟩:=yj l (min a y)
  refine⟨by simp only [List.foldl_cons];omega,fun x hx=>?_⟩
  simp only [List.foldl_cons]
  rcases List.mem_cons.1 hx with rfl|hx
  ·omega
  ·exact h2 x hx
theorem Bh {l:List Int} {x:Int} (h:x∈l):least l≤x:=by
 cases l with
 |nil=>cases h
 |cons y l=>
  rcases List.mem_cons.1 h with rfl|h
  ·exact (yj l x).1
  ·exact (yj l y).2 x h
theorem tV {ms:List Int} {m:Mode}:∀(l:List Mode) (k j:Nat),l[j]? =some m→((k+j:Nat):Int)∈ms→m∈dz ms l k
 |[],k,j,h,_=>by simp at h
 |y::l,k,0,h,hm=>by
  simp at h;subst h
  rw [dz,if_pos (by simpa using hm)]
  exact List.mem_cons_self ..
 |y::l,k,j+1,h,hm=>by
  have:=tV l (k+1) j (by simpa using h) (by rw [show k+1+j=k+(j+1) by omega];exact hm)
  rw [dz]
  split
  ·exact List.mem_cons_of_mem _ this
  ·exact this
theorem Ah {p:Proj} {s:aK} {k:Nat} {ms:List Int} (h:lT p s k) (hm:s.modes.getD k 0∈ms):fu p s k∈chosen (bg p k) ms:=by
 refine tV _ 0 (s.modes.getD k 0).toNat ?_ (by rw [Nat.zero_add,Int.toNat_of_nonneg h.m0];exact hm)
 unfold fu
 rw [List.getD_eq_getElem?_getD (l:=(bg p k).modes),List.getElem?_eq_getElem h.m1];rfl
theorem tX {p:Proj} {s:aK} {k:Nat} {ms:List Int} (h:lT p s k) (hm:s.modes.getD k 0∈ms):vH (bg p k) ms≤(fu p s k).dur:=
 Bh (List.mem_map.2 ⟨_,Ah h hm,rfl⟩)
theorem Nf {l:List Mode} {f:Mode→Option Int} {m:Mode} {v:Int} (hm:m∈l) (hv:(f m).getD 0≤v) (h0:0≤v):leastOf l f≤v:=by
 unfold leastOf
 split
 ·exact Int.le_trans (Bh (List.mem_map.2 ⟨m,hm,rfl⟩)) hv
 ·exact h0
theorem FQ {l:List Int} {r:Int} (h:0≤l.getD r.toNat 0):(eu l r).getD 0≤l.getD r.toNat 0:=by
 unfold eu;split
 ·exact Int.le_refl _
 ·exact h
theorem Ih {p:Proj} {s:aK} {k:Nat} {ms:List Int} (h:lT p s k) (hm:s.modes.getD k 0∈ms) (r:Int):iW (bg p k) ms r≤(fu p s k).use.getD r.toNat 0:=
 Nf (Ah h hm) (FQ (h.use _).1) (h.use _).1
theorem Yz {p:Proj} {s:aK} {k:Nat} {ms:List Int} (h:lT p s k) (hm:s.modes.getD k 0∈ms) (r:Int):xI (bg p k) ms r≤(fu p s k).con.getD r.toNat 0:=
 Nf (Ah h hm) (FQ (h.con _)) (h.con _)
theorem sumTo_le {f g:Nat→Int}:∀{n:Nat},(∀k,k < n→f k≤g k)→sumTo f n≤sumTo g n
 |0,_=>Int.le_refl _
 |n+1,h=>by
  have h1:=sumTo_le (n:=n) (fun k hk=>h k (by omega))
  have h2:=h n (by omega)
  simp only [sumTo];omega
theorem PN {f g:Nat→Int}:∀{n:Nat},sumTo (fun k=>f k+g k) n=sumTo f n+sumTo g n
 |0=>rfl
 |n+1=>by simp only [sumTo];rw [PN];omega
theorem Ng:∀{n:Nat},sumTo (fun _=>0) n=0
 |0=>rfl
 |n+1=>by simp only [sumTo];rw [Ng];rfl
theorem qg {p:Proj} {s:aK} {r:Rul} (hr:r∈bQ p) (hb:breaks p s r=true):dF p s=false:=by
 cases h:dF p s with
 |false=>rfl
 |true=>
  simp only [dF,Bool.and_eq_true,decide_eq_true_eq] at h
  have h1:=h.2
  unfold qF at h1
  rw [if_pos h.1] at h1
  have:r∈(bQ p).filter (breaks p s):=List.mem_filter.2 ⟨hr,hb⟩
  have:=List.length_pos_of_mem this
  omega
theorem aac {p:Proj} {k:Nat} (h:k < p.links.length):lI k∈bQ p:=by
 simp only [bQ,List.mem_append];exact .inl (.inl (.inl (.inl (List.mem_map.2 ⟨k,List.mem_range.2 h,rfl⟩))))
theorem Xz {p:Proj} {k:Nat} (h:k < p.acts.length):endRule k∈bQ p:=by
 simp only [bQ,List.mem_append];exact .inl (.inl (.inl (.inr (List.mem_map.2 ⟨k,List.mem_range.2 h,rfl⟩))))
theorem UD {p:Proj} {r t:Nat} (h:r < p.bC.length) (ht:t≤60):nk r t∈bQ p:=by
 simp only [bQ,List.mem_append]
 exact .inl (.inl (.inr (List.mem_flatMap.2 ⟨r,List.mem_range.2 h,List.mem_map.2 ⟨t,List.mem_range.2 (by omega),rfl⟩⟩)))
theorem pair_mem {p:Proj} {r b c:Nat} (h:r < p.bC.length) (hm:iD p r=true) (hb:b < c) (hc:c < p.acts.length):nu r b c∈bQ p:=by
 simp only [bQ,List.mem_append]
 refine .inl (.inr (List.mem_flatMap.2 ⟨r,List.mem_range.2 h,List.mem_flatMap.2 ⟨b,List.mem_range.2 (by omega),?_⟩⟩))
 unfold fT
 rw [if_pos hm]
 exact List.mem_map.2 ⟨c - (b+1),List.mem_range.2 (by omega),by rw [show b+1+(c - (b+1))=c by omega]⟩
theorem YA {p:Proj} {k:Nat} (h:k < p.aX.length):jT k∈bQ p:=by
 simp only [bQ,List.mem_append];exact .inr (List.mem_map.2 ⟨k,List.mem_range.2 h,rfl⟩)
theorem DF {s d x y:Int} (hs:0≤s∧s≤100) (hd:1≤d∧d≤100) (hx:0≤x∧x≤100) (hy:0≤y∧y≤100):overlap s d x y=max (min (s+d) y - max s x) 0:=by
 unfold overlap fits
 rw [if_pos ⟨within_iff.2 (by omega),within_iff.2 (by omega),within_iff.2 (by omega),within_iff.2 (by omega)⟩,if_neg (by omega)]
theorem jD {s d x y:Int} (hs: -2≤s∧s≤62) (hd:1≤d∧d≤100) (hx:0≤x∧x≤100) (hy:0≤y∧y≤100):overlap s d x y=max (min (s+d) y - max s x) 0:=by
 unfold overlap fits
 rw [if_pos ⟨within_iff.2 (by omega),within_iff.2 (by omega),within_iff.2 (by omega),within_iff.2 (by omega)⟩,if_neg (by omega)]
theorem XA {p:Proj} {s:aK} {k:Nat} (h:lT p s k) (r x:Int) (hx:0≤x):∀(n:Nat),x+n≤100→sumTo (fun i=>ER p s r (x+i) k) n=(fu p s k).use.getD r.toNat 0*overlap (s.starts.getD k 0) (fu p s k).dur x (x+n)
 |0,hn=>by
  rw [DF ⟨h.lo,by have:=h.hi;omega⟩ ⟨h.d1,by have:=h.d2;omega⟩ ⟨hx,by omega⟩ ⟨by omega,by omega⟩]
  rw [show max (min (s.starts.getD k 0+(fu p s k).dur) (x+((0:Nat):Int)) - max (s.starts.getD k 0) x) 0=0 by omega]
  simp [sumTo]
 |n+1,hn=>by
  have h1:=h.lo;have h2:=h.hi;have h3:=h.d1;have h4:=h.d2
  simp only [sumTo]
  rw [XA h r x hx n (by omega)]
  rw [DF ⟨h1,by omega⟩ ⟨h3,by omega⟩ ⟨hx,by omega⟩ ⟨by omega,by omega⟩,DF ⟨h1,by omega⟩ ⟨h3,by omega⟩ ⟨hx,by omega⟩ ⟨by omega,by omega⟩]
  unfold ER runs oH
  generalize (fu p s k).use.getD r.toNat 0=u
  generalize s.starts.getD k 0=a at*
  generalize (fu p s k).dur=d at*
  by_cases hr:a≤x+n∧a+d > x+n
  ·rw [if_pos (by simp [hr])]
   rw [show max (min (a+d) (x+((n+1:Nat):Int)) - max a x) 0=max (min (a+d) (x+(n:Int)) - max a x) 0+1 by omega,Int.mul_add,Int.mul_one]
  ·rw [if_neg (by simp only [Bool.and_eq_true,decide_eq_true_eq];exact hr)]
   rw [show max (min (a+d) (x+((n+1:Nat):Int)) - max a x) 0=max (min (a+d) (x+(n:Int)) - max a x) 0 by omega,Int.add_zero]
theorem UE (f:Nat→Nat→Int):∀(n m:Nat),sumTo (fun i=>sumTo (fun k=>f i k) m) n=sumTo (fun k=>sumTo (fun i=>f i k) n) m
 |0,m=>by simp only [sumTo];rw [Ng]
 |n+1,m=>by
  have:=UE f n m
  simp only [sumTo]
  rw [this,PN]
theorem Wy {p:Proj} {s:aK} (r x:Int) (n:Nat):sumTo (fun i=>Bb p s r (x+i)) n=sumTo (fun k=>sumTo (fun i=>ER p s r (x+i) k) n) p.acts.length:=
 UE (fun i k=>ER p s r (x+i) k) n p.acts.length
theorem PO (l:List Step) (x:Int):∀n:Nat,vI l x n=sumTo (fun i=>oF (x+i) l 0) n
 |0=>rfl
 |n+1=>by simp only [vI,sumTo];rw [PO l x n]
theorem UF {f g:Nat→Int}:∀{n:Nat},sumTo f n > sumTo g n→∃k,k < n∧f k > g k
 |0,h=>by simp [sumTo] at h
 |n+1,h=>by
  simp only [sumTo] at h
  by_cases hk:f n > g n
  ·exact⟨n,by omega,hk⟩
  ·obtain⟨k,h1,h2⟩:=UF (f:=f) (g:=g) (n:=n) (by omega)
   exact⟨k,by omega,h2⟩
structure aee (p:Proj) (b:Dom) (k:Nat):Prop where
 l1: -2≤b.lo.getD k 0
 l2:b.lo.getD k 0≤62
 h1: -2≤b.hi.getD k 0
 h2:b.hi.getD k 0≤62
 ms:∀m∈b.modes.getD k [],0≤m∧m.toNat < (bg p k).modes.length
theorem qy {n:Nat} {m:Int} (h:m∈aN n):0≤m∧m.toNat < n:=by
 unfold aN at h
 split at h
 ·obtain⟨k,h1,rfl⟩:=List.mem_map.1 h
  have:=List.mem_range.1 h1
  simp at this ⊢;omega
 ·simp at h
theorem RN {n:Nat} (hn:n≤200) {m:Int} (h0:0≤m) (h:m.toNat < n):m∈aN n:=by
 unfold aN
 rw [if_pos (within_iff.2 (by omega))]
 exact List.mem_map.2 ⟨m.toNat,List.mem_range.2 (by omega),by simp;omega⟩
theorem aT {p:Proj} {b:Dom} (h:ak p b=true):aG p=true∧b.lo.length=p.acts.length∧b.hi.length=p.acts.length∧b.modes.length=p.acts.length:=by
 simp only [ak,Bool.and_eq_true,Bool.not_eq_true',decide_eq_false_iff_not] at h
 exact⟨h.1.1.1.1,by omega,by omega,by omega⟩
theorem lU {p:Proj} {b:Dom} (h:ak p b=true) {k:Nat} (hk:k < p.acts.length):aee p b k:=by
 obtain⟨hp,h1,h2,h3⟩:=aT h
 simp only [ak,Bool.and_eq_true] at h
 have h4:=bL.1 h.2 k hk
 unfold rE at h4
 rw [gM hk,List.getElem?_eq_getElem (by omega:k < b.lo.length),List.getElem?_eq_getElem (by omega:k < b.hi.length),List.getElem?_eq_getElem (by omega:k < b.modes.length)] at h4
 simp only [Bool.and_eq_true,oG,within_iff,subset,List.all_eq_true,List.contains_iff_mem] at h4
 have e1:b.lo.getD k 0=b.lo[k]'(by omega):=by rw [List.getD_eq_getElem?_getD,List.getElem?_eq_getElem (by omega)];rfl
 have e2:b.hi.getD k 0=b.hi[k]'(by omega):=by rw [List.getD_eq_getElem?_getD,List.getElem?_eq_getElem (by omega)];rfl
 have e3:b.modes.getD k []=b.modes[k]'(by omega):=by rw [List.getD_eq_getElem?_getD,List.getElem?_eq_getElem (by omega)];rfl
 exact⟨by rw [e1];omega,by rw [e1];omega,by rw [e2];omega,by rw [e2];omega,fun m hm=>qy (h4.2 m (by rw [e3] at hm;exact hm))⟩
theorem abq {p:Proj} {b:Dom} {s:aK} {k:Nat} (h:lT p s k) (hb:aee p b k) (hin:b.lo.getD k 0≤s.starts.getD k 0∧s.starts.getD k 0≤b.hi.getD k 0∧s.modes.getD k 0∈b.modes.getD k []) {r x y:Int} (hx:0≤x∧x≤60) (hy:0≤y∧y≤60):
  qX p b r x y k≤(fu p s k).use.getD r.toNat 0*overlap (s.starts.getD k 0) (fu p s k).dur x y:=by
 unfold qX
 refine Int.le_trans (Bh (List.mem_map.2 ⟨s.modes.getD k 0,hin.2.2,rfl⟩)) ?_
 unfold kN
 show min (overlap _ (fu p s k).dur x y) (overlap _ (fu p s k).dur x y)*(fu p s k).use.getD r.toNat 0≤_
 have h1:=h.lo;have h2:=h.hi;have h3:=h.d1;have h4:=h.d2
 have k1:=hb.l1;have k2:=hb.l2;have k3:=hb.h1;have k4:=hb.h2
 rw [jD ⟨k1,k2⟩ ⟨h3,by omega⟩ ⟨hx.1,by omega⟩ ⟨hy.1,by omega⟩,jD ⟨k3,k4⟩ ⟨h3,by omega⟩ ⟨hx.1,by omega⟩ ⟨hy.1,by omega⟩,jD ⟨by omega,by omega⟩ ⟨h3,by omega⟩ ⟨hx.1,by omega⟩ ⟨hy.1,by omega⟩,Int.mul_comm]
 refine Int.mul_le_mul_of_nonneg_left ?_ (h.use _).1
 omega
theorem RO {p:Proj} {b:Dom} {s:aK} {r:Rul} (hf:ak p b=true) (hr:iV p r=true) (hs:bP p s=true) (hin:jZ b s p.acts.length) (h:fails p b r=true):dF p s=false:=by
 obtain⟨hp,hl1,hl2⟩:=jC hs
 simp only [iV,Bool.and_eq_true] at hr
 have hr:=hr.2
 unfold fails at h
 by_cases e1:r.kind=1
 ·rw [if_pos e1] at hr h
  simp only [Bool.and_eq_true,within_iff,decide_eq_true_eq] at hr
  have hk:r.a.toNat < p.links.length:=by omega
  refine qg (aac hk) ?_
  have el:iE p r.a=p.links[r.a.toNat]:=by unfold iE;rw [List.getD_eq_getElem?_getD,List.getElem?_eq_getElem hk];rfl
  obtain⟨hs1,hs2⟩:=Jt hp (y:=iE p r.a) (by rw [el];exact List.getElem_mem hk)
  have e2:iE p ((r.a.toNat:Nat):Int)=iE p r.a:=by unfold iE;rw [Int.toNat_natCast]
  unfold breaks lI
  rw [if_pos rfl]
  show tq p s (iE p (r.a.toNat:Int))=true
  rw [e2]
  generalize iE p r.a=y at*
  have g1:=iK hs (fE hs1).2
  have i1:=hin _ (fE hs1).2
  have i2:=hin _ (fE hs2).2
  simp only [wu,decide_eq_true_eq] at h
  simp only [tq,decide_eq_true_eq]
  have hd:=tX g1 i1.2.2
  unfold ng at h
  unfold oH
  split at h
  ·rename_i hfe;rw [if_pos hfe];omega
  ·rename_i hfe;rw [if_neg hfe];omega
 rw [if_neg e1] at hr h
 by_cases e2:r.kind=2
 ·rw [if_pos e2] at hr h
  simp only [Bool.and_eq_true,decide_eq_true_eq] at hr h
  obtain⟨h0,hk⟩:=fE hr.1.1
  refine qg (Xz hk) ?_
  have g1:=iK hs hk
  have i1:=hin _ hk
  have hd:=tX g1 i1.2.2
  unfold ng at h
  unfold breaks endRule
  rw [if_neg (by simp),if_pos rfl]
  simp only [decide_eq_true_eq,Int.toNat_natCast]
  unfold oH;omega
 rw [if_neg e2] at hr h
 by_cases e3:r.kind=3
 ·rw [if_pos e3] at hr h
  simp only [Bool.and_eq_true,decide_eq_true_eq,dS,within_iff] at hr h
  have hk:0≤r.a∧r.a.toNat < p.bC.length:=by have:=hr.1.1;simp only [fQ,within_iff] at this;omega
  refine qg (UD (t:=r.b.toNat) hk.2 (by omega)) ?_
  unfold breaks nk
  rw [if_neg (by simp),if_neg (by simp),if_pos rfl]
  simp only [decide_eq_true_eq]
  have ea:((r.a.toNat:Nat):Int)=r.a:=by omega
  have eb:((r.b.toNat:Nat):Int)=r.b:=by omega
  rw [ea,eb]
  refine Int.lt_of_lt_of_le h ?_
  unfold Ko Bb
  refine sumTo_le fun k hk=>?_
  have g1:=iK hs hk
  have i1:=hin k hk
  unfold zL ER
  split
  ·rename_i hc
   have hd:=tX g1 i1.2.2
   unfold ng at hc
   have hrun:runs p s r.b k=true:=by
    simp only [runs,oH,Bool.and_eq_true]
    exact⟨decide_eq_true (by omega),decide_eq_true (by omega)⟩
   rw [if_pos hrun]
   exact Ih g1 i1.2.2 r.a
  ·split
   ·exact (g1.use _).1
   ·exact Int.le_refl _
 rw [if_neg e3] at hr h
 by_cases e4:r.kind=4
 ·rw [if_pos e4] at hr h
  simp only [Bool.and_eq_true,decide_eq_true_eq,dS,within_iff] at hr h
  have hk:0≤r.a∧r.a.toNat < p.bC.length:=by have:=hr.1.1.1;simp only [fQ,within_iff] at this;omega
  unfold wo at h
  have hso:jH (yK p r.a).steps=true:=by
   have h9:=hp
   simp only [aG,Bool.and_eq_true,List.all_eq_true] at h9
   have h8:=h9.1.1.2 (yK p r.a) (by unfold yK;rw [List.getD_eq_getElem?_getD,List.getElem?_eq_getElem hk.2];exact List.getElem_mem hk.2)
   simp only [kZ,Bool.and_eq_true] at h8
   exact h8.2.1
  rw [if_pos ⟨hso,by simp only [dS,within_iff];omega,by simp only [dS,within_iff];omega⟩,PO] at h
  have hle:rV p b r.a r.b r.c≤sumTo (fun i=>Bb p s r.a (r.b+i)) (r.c - r.b).toNat:=by
   rw [Wy]
   unfold rV
   refine sumTo_le fun k hk=>?_
   have g1:=iK hs hk
   have i1:=hin k hk
   rw [XA g1 r.a r.b (by omega) _ (by omega)]
   rw [show r.b+((r.c - r.b).toNat:Int)=r.c by omega]
   exact abq g1 (lU hf hk) i1 (by omega) (by omega)
  obtain⟨i,hi,hgt⟩:=UF (Int.lt_of_lt_of_le h hle)
  refine qg (UD (t:=(r.b+i).toNat) hk.2 (by omega)) ?_
  unfold breaks nk
  rw [if_neg (by simp),if_neg (by simp),if_pos rfl]
  simp only [decide_eq_true_eq]
  have ea:((r.a.toNat:Nat):Int)=r.a:=by omega
  have eb:(((r.b+i).toNat:Nat):Int)=r.b+i:=by omega
  rw [ea,eb]
  exact hgt
 rw [if_neg e4] at hr h
 by_cases e5:r.kind=5
 ·rw [if_pos e5] at hr h
  simp only [Bool.and_eq_true,decide_eq_true_eq] at hr
  obtain⟨⟨⟨hm,hb⟩,hc⟩,hlt⟩:=hr
  have hk:0≤r.a∧r.a.toNat < p.bC.length:=by have:=hm;simp only [iD,fQ,Bool.and_eq_true,within_iff] at this;omega
  obtain⟨b0,hb⟩:=fE hb
  obtain⟨c0,hc⟩:=fE hc
  have ea:((r.a.toNat:Nat):Int)=r.a:=by omega
  have eb:((r.b.toNat:Nat):Int)=r.b:=by omega
  have ec:((r.c.toNat:Nat):Int)=r.c:=by omega
  refine qg (pair_mem (r:=r.a.toNat) (b:=r.b.toNat) (c:=r.c.toNat) hk.2 (by rw [ea];exact hm) (by omega) hc) ?_
  unfold breaks nu
  rw [if_neg (by simp),if_neg (by simp),if_neg (by simp),if_pos rfl]
  simp only [ea,eb,ec]
  have g1:=iK hs hb
  have i1:=hin _ hb
  have g2:=iK hs hc
  have i2:=hin _ hc
  unfold jam at h
  simp only [Bool.and_eq_true] at h
  obtain⟨⟨⟨q1,q2⟩,q3⟩,q4⟩:=h
  replace q1:=of_decide_eq_true q1
  replace q2:=of_decide_eq_true q2
  replace q3:=of_decide_eq_true q3
  replace q4:=of_decide_eq_true q4
  unfold nI ng at q3 q4
  have u1:=Ih g1 i1.2.2 r.a
  have u2:=Ih g2 i2.2.2 r.a
  have d1:=tX g1 i1.2.2
  have d2:=tX g2 i2.2.2
  simp only [wC,ES,oH,Bool.and_eq_true,Bool.not_eq_true']
  exact⟨⟨⟨decide_eq_false (by omega),decide_eq_false (by omega)⟩,decide_eq_false (by omega)⟩,decide_eq_false (by omega)⟩
 rw [if_neg e5] at hr h
 by_cases e6:r.kind=6
 ·rw [if_pos e6] at hr
  simp only [Bool.and_eq_true,decide_eq_true_eq] at hr
  have hk:0≤r.a∧r.a.toNat < p.aX.length:=by have:=hr.1.1;simp only [jR,within_iff] at this;omega
  refine qg (YA hk.2) ?_
  unfold breaks jT
  rw [if_neg (by simp),if_neg (by simp),if_neg (by simp),if_neg (by simp)]
  simp only [decide_eq_true_eq]
  have ea:((r.a.toNat:Nat):Int)=r.a:=by omega
  rw [ea]
  simp only [sV,decide_eq_true_eq] at h
  refine Int.lt_of_lt_of_le h ?_
  unfold LG
  refine sumTo_le fun k hk=>?_
  exact Yz (iK hs hk) (hin k hk).2.2 r.a
 ·rw [if_neg e6] at hr;cases hr
theorem CG {p:Proj} {b:Dom} {s:aK} {r:Rul} (h:refutes p b r=true) (hs:bP p s=true) (hin:jZ b s p.acts.length):dF p s=false:=by
 simp only [refutes,Bool.and_eq_true,Bool.or_eq_true] at h
 obtain⟨hf,h|⟨hr,h⟩⟩:=h
 ·exfalso
  obtain⟨hp,h1,h2,h3⟩:=aT hf
  simp only [aL,Bool.or_eq_true,List.any_eq_true,List.mem_range] at h
  rcases h with⟨i,hi,hc⟩|⟨m,hm,hl⟩
  ·have:=hin i (by omega)
   unfold jI at hc
   rw [List.getElem?_eq_getElem (by omega:i < b.lo.length),List.getElem?_eq_getElem (by omega:i < b.hi.length)] at hc
   simp only [decide_eq_true_eq] at hc
   rw [List.getD_eq_getElem?_getD,List.getElem?_eq_getElem (by omega:i < b.lo.length),List.getD_eq_getElem?_getD (l:=b.hi),List.getElem?_eq_getElem (by omega:i < b.hi.length)] at this
   simp only [Option.getD_some] at this
   omega
  ·obtain⟨i,hi,rfl⟩:=List.getElem_of_mem hm
   have:=(hin i (by omega)).2.2
   rw [List.getD_eq_getElem?_getD,List.getElem?_eq_getElem hi] at this
   simp only [decide_eq_true_eq] at hl
   simp only [Option.getD_some] at this
   have:=List.length_pos_of_mem this
   omega
 ·exact RO hf hr hs hin h
structure pK (b:Dom) (n:Nat):Prop where
 lo:b.lo.length=n
 hi:b.hi.length=n
 ms:b.modes.length=n
theorem gT {v:Int} (h: -2≤v∧v≤62):clamped v=v:=by unfold clamped;omega
theorem fV {b:Dom} {n:Nat} (h:pK b n) (l:Lit):pK (restrict b l) n:=by
 obtain⟨h1,h2,h3⟩:=h
 unfold restrict
 split
 ·dsimp only
  split
  ·exact⟨by simpa using h1,h2,h3⟩
  ·split
   ·exact⟨h1,by simpa using h2,h3⟩
   ·split
    ·exact⟨h1,h2,by simpa using h3⟩
    ·split
     ·exact⟨h1,h2,by simpa using h3⟩
     ·exact⟨h1,h2,h3⟩
 ·exact⟨h1,h2,h3⟩
theorem aR {α:Type} {l:List α} {i:Nat} {x d:α} (h:i < l.length):(l.set i x).getD i d=x:=by
 rw [List.getD_eq_getElem?_getD,List.getElem?_set_self h];rfl
theorem getD_set_ne {α:Type} {l:List α} {i j:Nat} {x d:α} (h:i≠j):(l.set i x).getD j d=l.getD j d:=by
 rw [List.getD_eq_getElem?_getD,List.getElem?_set_ne h,List.getD_eq_getElem?_getD]
def Ii (l:Lit):Prop:= -2≤l.val∧l.val≤62
theorem oZ {b:Dom} {s:aK} {n:Nat} {l:Lit} (hl:pK b n) (hin:jZ b s n) (hf:Ii l) (hh:bR l s=true):jZ (restrict b l) s n:=by
 obtain⟨h1,h2,h3⟩:=hl
 simp only [bR,Bool.and_eq_true,within_iff] at hh
 obtain⟨⟨ha,hb⟩,hh⟩:=hh
 unfold restrict
 split
 ·rename_i hd
  simp only [dO,Bool.and_eq_true,decide_eq_true_eq] at hd
  have hn:l.act.toNat < n:=by omega
  dsimp only
  rw [gT hf]
  have hk:=hin _ hn
  intro k hkn
  have hk2:=hin k hkn
  split
  ·rename_i e
   rw [if_pos e] at hh
   have hh:=of_decide_eq_true hh
   refine⟨?_,hk2.2⟩
   by_cases ek:l.act.toNat=k
   ·subst ek;rw [aR (by omega)];omega
   ·rw [getD_set_ne ek];exact hk2.1
  rename_i e1
  rw [if_neg e1] at hh
  split
  ·rename_i e
   rw [if_pos e] at hh
   have hh:=of_decide_eq_true hh
   refine⟨hk2.1,?_,hk2.2.2⟩
   by_cases ek:l.act.toNat=k
   ·subst ek;rw [aR (by omega)];omega
   ·rw [getD_set_ne ek];exact hk2.2.1
  rename_i e2
  rw [if_neg e2] at hh
  split
  ·rename_i e
   rw [if_pos e] at hh
   have hh:=of_decide_eq_true hh
   refine⟨hk2.1,hk2.2.1,?_⟩
   by_cases ek:l.act.toNat=k
   ·subst ek;rw [aR (by omega)]
    exact List.mem_filter.2 ⟨hk.2.2,decide_eq_true hh⟩
   ·rw [getD_set_ne ek];exact hk2.2.2
  rename_i e3
  rw [if_neg e3] at hh
  simp only [Bool.and_eq_true] at hh
  have e4:=of_decide_eq_true hh.1
  have hh:=of_decide_eq_true hh.2
  rw [if_pos e4]
  refine⟨hk2.1,hk2.2.1,?_⟩
  by_cases ek:l.act.toNat=k
  ·subst ek;rw [aR (by omega)]
   exact List.mem_filter.2 ⟨hk.2.2,decide_eq_true hh⟩
  ·rw [getD_set_ne ek];exact hk2.2.2
 ·exact hin
theorem kH {p:Proj} {l:Lit} (h:bJ p l=true):aG p=true∧bG p l.act=true∧ -1≤l.val∧l.val≤61∧(l.kind=1∨l.kind=2∨l.kind=3∨l.kind=4):=by
 simp only [bJ,Bool.and_eq_true] at h
 obtain⟨⟨h1,h2⟩,h3⟩:=h
 refine⟨h1,h2,?_⟩
 split at h3
 ·rename_i e;simp only [within_iff] at h3;omega
 ·split at h3
  ·rename_i e
   obtain⟨h4,h5⟩:=fE h2
   rw [gM h5] at h3
   simp only [within_iff] at h3
   have:=iA h1 h5
   omega
  ·cases h3
theorem Ij {p:Proj} {l:Lit} (h:bJ p l=true):Ii l:=by
 have:=kH h;unfold Ii;omega
theorem PS {p:Proj} {l:Lit} (h:bJ p l=true):Ii (negate l)∧(negate l).act=l.act:=by
 obtain⟨_,_,h1,h2,h3⟩:=kH h
 unfold negate Ii
 rw [if_pos (within_iff.2 (by omega))]
 rcases h3 with e|e|e|e<;>rw [e]<;>simp<;>omega
theorem FR {p:Proj} {s:aK} {l:Lit} (h:bJ p l=true) (hs:bP p s=true):bR (negate l) s= !bR l s:=by
 obtain⟨hp,ha,h1,h2,h3⟩:=kH h
 obtain⟨h4,h5⟩:=fE ha
 obtain⟨_,hl1,hl2⟩:=jC hs
 have w1:within l.act 0 ((s.starts.length:Int) - 1)=true:=within_iff.2 (by omega)
 have w2:within l.act 0 ((s.modes.length:Int) - 1)=true:=within_iff.2 (by omega)
 have w3:within l.val (-100000) 100000=true:=within_iff.2 (by omega)
 clear h h1 h2 ha h4 h5
 obtain⟨k,a,v⟩:=l
 dsimp only at w1 w2 w3 h3
 unfold negate
 rw [if_pos w3]
 rcases h3 with rfl|rfl|rfl|rfl
 ·show bR ⟨2,a,v - 1⟩ s= !bR ⟨1,a,v⟩ s
  unfold bR
  dsimp only
  rw [w1,w2]
  show (decide (s.starts.getD a.toNat 0≤v - 1))= !(decide (s.starts.getD a.toNat 0≥v))
  by_cases hh:s.starts.getD a.toNat 0≥v
  ·rw [decide_eq_true hh,decide_eq_false (by omega)];rfl
  ·rw [decide_eq_false hh,decide_eq_true (by omega)];rfl
 ·show bR ⟨1,a,v+1⟩ s= !bR ⟨2,a,v⟩ s
  unfold bR
  dsimp only
  rw [w1,w2]
  show (decide (s.starts.getD a.toNat 0≥v+1))= !(decide (s.starts.getD a.toNat 0≤v))
  by_cases hh:s.starts.getD a.toNat 0≤v
  ·rw [decide_eq_true hh,decide_eq_false (by omega)];rfl
  ·rw [decide_eq_false hh,decide_eq_true (by omega)];rfl
 ·show bR ⟨4,a,v⟩ s= !bR ⟨3,a,v⟩ s
  unfold bR
  dsimp only
  rw [w1,w2]
  show (decide (s.modes.getD a.toNat 0≠v))= !(decide (s.modes.getD a.toNat 0=v))
  simp
 ·show bR ⟨3,a,v⟩ s= !bR ⟨4,a,v⟩ s
  unfold bR
  dsimp only
  rw [w1,w2]
  show (decide (s.modes.getD a.toNat 0=v))= !(decide (s.modes.getD a.toNat 0≠v))
  simp
theorem kU {p:Proj} {l:List Lit} (h:iO p l=true):∀x∈l,bJ p x=true:=by
 intro x hx
 simp only [iO,Bool.and_eq_true] at h
 obtain⟨i,hi,rfl⟩:=List.getElem_of_mem hx
 have:=bL.1 h.1 i hi
 unfold clauseAt at this
 rw [List.getElem?_eq_getElem hi] at this
 simp only [Bool.and_eq_true] at this
 exact this.1
theorem DI {p:Proj} {s:aK} {n:Nat} (hs:bP p s=true):∀(l:List Lit) (b:Dom),(∀x∈l,bJ p x=true)→bN l s=false→pK b n→jZ b s n→pK (against b l) n∧jZ (against b l) s n
 |[],b,_,_,hl,hin=>⟨hl,hin⟩
 |x::l,b,hok,hf,hl,hin=>by
  simp only [bN,List.any_cons,Bool.or_eq_false_iff] at hf
  have hx:=hok x (List.mem_cons_self ..)
  exact DI hs l (restrict b (negate x)) (fun y hy=>hok y (List.mem_cons_of_mem _ hy)) hf.2 (fV hl _)
   (oZ hl hin (PS hx).1 (by rw [FR hx hs,hf.1];rfl))
theorem pq {p:Proj} {s:aK} (h:dF p s=true):bP p s=true:=by
 simp only [dF,Bool.and_eq_true] at h;exact h.1
theorem UG {p:Proj} {s:aK} (h:dF p s=true) {k:Nat} (hk:k < p.acts.length):oH p s k≤p.dead:=by
 by_cases hh:oH p s k≤p.dead
 ·exact hh
 ·have:=qg (s:=s) (Xz hk) (by
   unfold breaks endRule
   rw [if_neg (by simp),if_pos rfl]
   exact decide_eq_true (by simp only [Int.toNat_natCast];omega))
  rw [h] at this;cases this
theorem jo {p:Proj} (h:aG p=true):pK (aW p) p.acts.length:=by
 unfold aW;rw [if_pos h];exact⟨by simp [mZ],by simp [mZ],by simp [mZ]⟩
theorem jV {α β:Type} {l:List α} {f:α→β} {k:Nat} {d:β} (h:k < l.length):(l.map f).getD k d=f l[k]:=by
 rw [List.getD_eq_getElem?_getD,List.getElem?_map,List.getElem?_eq_getElem h];rfl
theorem XB {p:Proj} {s:aK} (h:dF p s=true):jZ (aW p) s p.acts.length:=by
 have hs:=pq h
 obtain⟨hp,_,_⟩:=jC hs
 intro k hk
 have g:=iK hs hk
 have he:=UG h hk
 have h1:=g.lo;have h2:=g.d1
 unfold oH at he
 unfold aW;rw [if_pos hp]
 unfold mZ
 dsimp only
 rw [jV hk,jV hk,jV hk]
 refine⟨h1,by omega,?_⟩
 have ea:p.acts[k]=bg p k:=by
  have:=gM hk
  rw [List.getElem?_eq_getElem hk] at this
  exact Option.some.inj this
 rw [ea]
 exact RN (by have:=iA hp hk;omega) g.m0 g.m1
theorem Ol {p:Proj} {s:aK} {r:Rul} {l:List Lit} (h:follows p r l=true) (hs:dF p s=true):bN l s=true:=by
 cases hc:bN l s with
 |true=>rfl
 |false=>
  simp only [follows,Bool.and_eq_true] at h
  have hf:=pq hs
  have:=DI hf l _ (kU h.1) hc (jo (jC hf).1) (XB hs)
  have:=CG h.2 hf this.2
  rw [hs] at this;cases this
theorem yt {y n:Bool} (h:valueOf y n= -1):n=true:=by
 unfold valueOf at h;cases y<;>cases n<;>first|rfl|(simp at h)
theorem Ai (b:Dom) (l:Lit):litValue b l=1∨litValue b l=0∨litValue b l= -1:=by
 have hv:∀y n:Bool,valueOf y n=1∨valueOf y n=0∨valueOf y n= -1:=by decide
 unfold litValue
 split
 ·dsimp only
  split
  ·exact hv _ _
  ·split
   ·exact hv _ _
   ·split
    ·exact hv _ _
    ·split
     ·exact hv _ _
     ·exact .inl rfl
 ·exact .inl rfl
theorem Ju {b:Dom} {s:aK} {n:Nat} {l:Lit} (hl:pK b n) (hin:jZ b s n) (h:litValue b l= -1):bR l s=false:=by
 unfold litValue at h
 split at h
 ·rename_i hd
  simp only [dO,Bool.and_eq_true,decide_eq_true_eq] at hd
  have h1:=hl.lo
  have hk:=hin l.act.toNat (by omega)
  dsimp only at h
  unfold bR
  split at h
  ·rename_i e
   rw [if_pos e]
   have:=of_decide_eq_true (yt h)
   rw [decide_eq_false (by omega),Bool.and_false]
  rename_i e1
  rw [if_neg e1]
  split at h
  ·rename_i e
   rw [if_pos e]
   have:=of_decide_eq_true (yt h)
   rw [decide_eq_false (by omega),Bool.and_false]
  rename_i e2
  rw [if_neg e2]
  split at h
  ·rename_i e
   rw [if_pos e]
   have:=yt h
   simp only [Bool.not_eq_true', ← Bool.not_eq_true,List.contains_iff_mem] at this
   rw [decide_eq_false (fun hh=>this (by rw [← hh];exact hk.2.2)),Bool.and_false]
  rename_i e3
  rw [if_neg e3]
  split at h
  ·rename_i e
   have:=of_decide_eq_true (yt h)
   have hm:=hk.2.2
   rw [this] at hm
   rw [decide_eq_false (p:=s.modes.getD l.act.toNat 0≠l.val) (by simpa using hm)]
   simp
  ·simp at h
 ·simp at h
theorem pz {b:Dom}:∀(l:List Lit) (n:Int) (x:Lit),0≤n→(aO b l n x).1 < 0→n=0∧∀y∈l,litValue b y= -1
 |[],n,x,hn,h=>by
  rw [aO] at h
  split at h
  ·rename_i e;exact⟨e,by simp⟩
  ·split at h<;>simp at h
 |y::l,n,x,hn,h=>by
  rw [aO] at h
  split at h
  ·simp at h
  ·split at h
   ·have:=(pz l (n+1) y (by omega) h).1;omega
   ·rename_i h1 h0
    obtain⟨h2,h3⟩:=pz l n x hn h
    refine⟨h2,fun z hz=>?_⟩
    rcases List.mem_cons.1 hz with rfl|hz
    ·rcases Ai b z with e|e|e
     ·exact (h1 e).elim
     ·exact (h0 e).elim
     ·exact e
    ·exact h3 z hz
theorem rz {b:Dom} {s:aK} {m:Nat} (hl:pK b m) (hin:jZ b s m):∀(l:List Lit) (n:Int) (x:Lit),0≤n→(aO b l n x).1=0→
  (n=0→(aO b l n x).2≠bV→(aO b l n x).2∈l∧(bN l s=true→bR (aO b l n x).2 s=true))∧(n=1→(aO b l n x).2≠bV→(aO b l n x).2=x∧bN l s=false)∧(2≤n→(aO b l n x).2=bV)
 |[],n,x,hn,h=>by
  rw [aO] at h ⊢
  split
  ·rename_i e;rw [if_pos e] at h;simp at h
  ·rename_i e0
   split
   ·rename_i e1;exact⟨fun e=>(e0 e).elim,fun _ _=>⟨rfl,rfl⟩,fun e=>by omega⟩
   ·rename_i e1;exact⟨fun e=>(e0 e).elim,fun e=>(e1 e).elim,fun _=>rfl⟩
 |y::l,n,x,hn,h=>by
  rw [aO] at h ⊢
  split
  ·rename_i h1;rw [if_pos h1] at h;simp at h
  ·rename_i h1
   rw [if_neg h1] at h
   split
   ·rename_i h0
    rw [if_pos h0] at h
    obtain⟨a1,a2,a3⟩:=rz hl hin l (n+1) y (by omega) h
    refine⟨fun e hz=>?_,fun e hz=>?_,fun e=>a3 (by omega)⟩
    ·obtain⟨k1,k2⟩:=a2 (by omega) hz
     rw [k1]
     refine⟨List.mem_cons_self ..,fun hc=>?_⟩
     simp only [bN,List.any_cons,Bool.or_eq_true] at hc
     unfold bN at k2
     rw [k2] at hc
     simpa using hc
    ·exact (hz (a3 (by omega))).elim
   ·rename_i h0
    rw [if_neg h0] at h
    have hy:bR y s=false:=by
     refine Ju hl hin ?_
     rcases Ai b y with e|e|e
     ·exact (h1 e).elim
     ·exact (h0 e).elim
     ·exact e
    obtain⟨a1,a2,a3⟩:=rz hl hin l n x hn h
    refine⟨fun e hz=>?_,fun e hz=>?_,a3⟩
    ·obtain⟨k1,k2⟩:=a1 e hz
     refine⟨List.mem_cons_of_mem _ k1,fun hc=>k2 ?_⟩
     simp only [bN,List.any_cons,hy,Bool.false_or] at hc
     exact hc
    ·obtain⟨k1,k2⟩:=a2 e hz
     refine⟨k1,?_⟩
     simp only [bN,List.any_cons,hy,Bool.false_or]
     exact k2
theorem UH {b:Dom} {l:List Lit} (h:bites b l=true):(status b l).1 < 0∨((status b l).1=0∧(status b l).2≠bV):=by
 simp only [bites,Bool.or_eq_true,Bool.and_eq_true,Bool.not_eq_true',decide_eq_true_eq] at h
 rcases h with h|⟨h1,h2⟩
 ·exact .inl h
 ·exact .inr ⟨h1,fun e=>by rw [iI.2 e] at h2;cases h2⟩
theorem UJ {b:Dom} {s:aK} {n:Nat} (hl:pK b n) (hin:jZ b s n):aL b=false:=by
 cases h:aL b with
 |false=>rfl
 |true=>
  exfalso
  obtain⟨h1,h2,h3⟩:=hl
  simp only [aL,Bool.or_eq_true,List.any_eq_true,List.mem_range] at h
  rcases h with⟨i,hi,hc⟩|⟨m,hm,hl⟩
  ·have:=hin i (by omega)
   unfold jI at hc
   rw [List.getElem?_eq_getElem (by omega:i < b.lo.length),List.getElem?_eq_getElem (by omega:i < b.hi.length)] at hc
   simp only [decide_eq_true_eq] at hc
   rw [List.getD_eq_getElem?_getD,List.getElem?_eq_getElem (by omega:i < b.lo.length),List.getD_eq_getElem?_getD (l:=b.hi),List.getElem?_eq_getElem (by omega:i < b.hi.length)] at this
   simp only [Option.getD_some] at this
   omega
  ·obtain⟨i,hi,rfl⟩:=List.getElem_of_mem hm
   have:=(hin i (by omega)).2.2
   rw [List.getD_eq_getElem?_getD,List.getElem?_eq_getElem hi] at this
   simp only [decide_eq_true_eq] at hl
   simp only [Option.getD_some] at this
   have:=List.length_pos_of_mem this
   omega
def nW (s:aK) (list:List (List Lit)):Prop:=∀l∈list,(∀x∈l,Ii x)∧bN l s=true
theorem Jv {s:aK} {m:Nat} {list:List (List Lit)} (hc:nW s list):∀(n:Nat) (b:Dom),pK b m→jZ b s m→(sW list n b).2=false∧pK (sW list n b).1 m∧jZ (sW list n b).1 s m
 |0,b,hl,hin=>⟨rfl,hl,hin⟩
 |n+1,b,hl,hin=>by
  rw [sW]
  unfold iP
  rw [UJ hl hin,if_neg (by simp)]
  cases hf:list.find? (bites b) with
  |none=>exact⟨rfl,hl,hin⟩
  |some l=>
   have hm:=List.mem_of_find?_eq_some hf
   have hb:bites b l=true:=by have:=List.find?_some hf;simpa using this
   obtain⟨h1,h2⟩:=hc l hm
   dsimp only
   by_cases hneg:(status b l).1 < 0
   ·exfalso
    have:=(pz l 0 bV (by omega) hneg).2
    have hno:bN l s=false:=by
     simp only [bN,List.any_eq_false]
     intro y hy
     rw [Ju hl hin (this y hy)];simp
    rw [h2] at hno;cases hno
   ·rw [if_neg hneg]
    dsimp only
    have hb:=(UH hb).resolve_left hneg
    obtain⟨k1,k2⟩:=(rz hl hin l 0 bV (by omega) hb.1).1 rfl hb.2
    exact Jv hc n _ (fV hl _) (oZ hl hin (h1 _ k1) (k2 h2))
theorem Nh {p:Proj} {s:aK} {m:Nat} {list:List (List Lit)} {b:Dom} (hc:nW s list) (hl:pK b m) (hin:jZ b s m):(ji p list b).2=false∧pK (ji p list b).1 m∧jZ (ji p list b).1 s m:=by
 unfold ji
 split
 ·exact Jv hc _ _ hl hin
 ·exact⟨rfl,hl,hin⟩
theorem Ka {p:Proj} {s:aK} {ahead:List Lin} {l:Lin} (h:aH p ahead l=0) (hs:dF p s=true) (hc:nW s (ahead.map Lin.clause)):bN l.clause s=true∧iO p l.clause=true:=by
 unfold aH at h
 split at h
 ·rename_i hk
  have hok:iO p l.clause=true:=by have:=hk.2.1;simp only [Dl,Bool.and_eq_true] at this;exact this.1
  refine⟨?_,hok⟩
  split at h
  ·split at h
   ·rename_i hf;exact Ol hf hs
   ·cases h
  ·split at h
   ·rename_i hu
    cases hcl:bN l.clause s with
    |true=>rfl
    |false=>
     have hf:=pq hs
     have h1:=DI hf l.clause _ (kU hok) hcl (jo (jC hf).1) (XB hs)
     have:=(Nh (p:=p) hc h1.1 h1.2).1
     unfold fq at hu
     rw [hu] at this;cases this
   ·cases h
 ·cases h
theorem FT {p:Proj} {all:List Lin}:∀(l:List Lin) (k:Nat),(iZ p all l k).1=0→∀j,j < l.length→aH p (all.take (k+j)) (l.getD j ⟨0,⟨0,0,0,0⟩,[]⟩)=0
 |[],k,h,j,hj=>by simp at hj
 |x::l,k,h,j,hj=>by
  rw [iZ] at h
  split at h
  ·rename_i h1
   cases j with
   |zero=>simpa using h1
   |succ j=>
    have:=FT l (k+1) h j (by simpa using hj)
    rw [show k+1+j=k+(j+1) by omega] at this
    simpa using this
  ·rename_i h1;exact (h1 h).elim
theorem Aj {p:Proj} {lines:List Lin} (h:mE p lines=true) {j:Nat} (hj:j < lines.length):aH p (lines.take j) lines[j]=0:=by
 have:=FT lines 0 (of_decide_eq_true h) j hj
 rw [Nat.zero_add,List.getD_eq_getElem?_getD,List.getElem?_eq_getElem hj] at this
 exact this
theorem yT {p:Proj} {s:aK} {lines:List Lin} (h:mE p lines=true) (hs:dF p s=true):∀n,n≤lines.length→nW s ((lines.take n).map Lin.clause)
 |0,_=>by intro l hl;simp at hl
 |n+1,hn=>by
  have ih:=yT h hs n (by omega)
  have hc:=Aj h (show n < lines.length by omega)
  obtain⟨h1,h2⟩:=Ka hc hs ih
  intro l hl
  rw [List.take_succ_eq_append_getElem (by omega:n < lines.length),List.map_append,List.mem_append] at hl
  rcases hl with hl|hl
  ·exact ih l hl
  ·simp only [List.map_cons,List.map_nil,List.mem_singleton] at hl
   subst hl
   exact⟨fun x hx=>Ij (kU h2 x hx),h1⟩
theorem Om {p:Proj} {s:aK} {lines:List Lin} (h:mE p lines=true) (hs:dF p s=true):nW s (lines.map Lin.clause):=by
 have:=yT h hs lines.length (Nat.le_refl _)
 rwa [List.take_length] at this
def bn (a b:Dom) (n:Nat):Prop:=∀k,k < n→b.lo.getD k 0≤a.lo.getD k 0∧a.hi.getD k 0≤b.hi.getD k 0∧∀m∈a.modes.getD k [],m∈b.modes.getD k []
theorem bn.refl (a:Dom) (n:Nat):bn a a n:=fun _ _=>⟨Int.le_refl _,Int.le_refl _,fun _ h=>h⟩
theorem bn.trans {a b c:Dom} {n:Nat} (h:bn a b n) (h':bn b c n):bn a c n:=fun k hk=>by
 obtain⟨h1,h2,h3⟩:=h k hk
 obtain⟨h4,h5,h6⟩:=h' k hk
 exact⟨by omega,by omega,fun m hm=>h6 m (h3 m hm)⟩
theorem CJ:∀(l:List Int) (a:Int),l.foldl min a=a∨l.foldl min a∈l
 |[],a=>.inl rfl
 |y::l,a=>by
  simp only [List.foldl_cons]
  rcases CJ l (min a y) with h|h
  ·rw [h]
   by_cases hh:a≤y
   ·rw [Int.min_eq_left hh];exact .inl rfl
   ·rw [Int.min_eq_right (by omega)];exact .inr (List.mem_cons_self ..)
  ·exact .inr (List.mem_cons_of_mem _ h)
theorem PU {l:List Int} (h:l≠[]):least l∈l:=by
 cases l with
 |nil=>exact (h rfl).elim
 |cons y l=>
  rcases CJ l y with e|e
  ·show l.foldl min y∈_;rw [e];exact List.mem_cons_self ..
  ·exact List.mem_cons_of_mem _ e
theorem Ik {l l':List Int} (hn:l'≠[]) (h:∀x∈l',∃y∈l,y≤x):least l≤least l':=by
 obtain⟨y,hy,hle⟩:=h _ (PU hn)
 exact Int.le_trans (Bh hy) hle
theorem kR {ms ms':List Int} (h:∀m∈ms',m∈ms):∀(l:List Mode) (k:Nat) (m:Mode),m∈dz ms' l k→m∈dz ms l k
 |[],k,m,hm=>hm
 |y::l,k,m,hm=>by
  rw [dz] at hm ⊢
  split at hm
  ·rename_i hc
   rw [if_pos (by simp at hc ⊢;exact h _ hc)]
   rcases List.mem_cons.1 hm with rfl|hm
   ·exact List.mem_cons_self ..
   ·exact List.mem_cons_of_mem _ (kR h l (k+1) m hm)
  ·split
   ·exact List.mem_cons_of_mem _ (kR h l (k+1) m hm)
   ·exact kR h l (k+1) m hm
theorem nH {ms:List Int}:∀(l:List Mode) (k:Nat) (m:Mode),m∈dz ms l k→m∈l
 |[],k,m,hm=>hm
 |y::l,k,m,hm=>by
  rw [dz] at hm
  split at hm
  ·rcases List.mem_cons.1 hm with rfl|hm
   ·exact List.mem_cons_self ..
   ·exact List.mem_cons_of_mem _ (nH l (k+1) m hm)
  ·exact List.mem_cons_of_mem _ (nH l (k+1) m hm)
structure tY (a:aF) (ms ms':List Int):Prop where
 ne:∃m∈ms',0≤m∧m.toNat < a.modes.length
 sub:∀m∈ms',m∈ms
theorem tY.chosen {a:aF} {ms ms':List Int} (h:tY a ms ms'):chosen a ms'≠[]:=by
 obtain⟨m,h1,h2,h3⟩:=h.ne
 have:=tV (ms:=ms') (m:=a.modes[m.toNat]) a.modes 0 m.toNat (List.getElem?_eq_getElem h3) (by rw [Nat.zero_add,Int.toNat_of_nonneg h2];exact h1)
 intro e
 unfold Abs.chosen at e
 rw [e] at this;cases this
theorem qP {a:aF} {ms ms':List Int} (h:tY a ms ms'):vH a ms≤vH a ms':=by
 refine Ik (by simpa using h.chosen) fun x hx=>?_
 obtain⟨m,hm,rfl⟩:=List.mem_map.1 hx
 exact⟨_,List.mem_map.2 ⟨m,kR h.sub _ _ m hm,rfl⟩,Int.le_refl _⟩
theorem FU {a:aF} {ms ms':List Int} {f:Mode→Option Int} (h:tY a ms ms') (hf:∀m∈a.modes,(f m).isSome=true):leastOf (chosen a ms) f≤leastOf (chosen a ms') f:=by
 have h1:(chosen a ms).all (fun m=>(f m).isSome)=true:=List.all_eq_true.2 fun m hm=>hf m (nH _ _ m hm)
 have h2:(chosen a ms').all (fun m=>(f m).isSome)=true:=List.all_eq_true.2 fun m hm=>hf m (nH _ _ m hm)
 unfold leastOf
 rw [if_pos h1,if_pos h2]
 refine Ik (by simpa using h.chosen) fun x hx=>?_
 obtain⟨m,hm,rfl⟩:=List.mem_map.1 hx
 exact⟨_,List.mem_map.2 ⟨m,kR h.sub _ _ m hm,rfl⟩,Int.le_refl _⟩
theorem Ak {l:List Int} {n:Nat} {r:Int} (h:bO l n=true) (hr:0≤r∧r.toNat < n):(eu l r).isSome=true:=by
 simp only [bO,Bool.and_eq_true,decide_eq_true_eq] at h
 unfold eu
 rw [if_pos (within_iff.2 (by omega))];rfl
theorem yu {m:Mode} {r s:Int} (h:jA m r s=true):bO m.use r=true∧bO m.con s=true:=by
 simp only [jA,Bool.and_eq_true] at h;exact⟨h.1.2,h.2⟩
theorem Al {p:Proj} (hp:aG p=true) {k:Nat} (hk:k < p.acts.length) {r:Int} (hr:0≤r∧r.toNat < p.bC.length) {ms ms':List Int} (h:tY (bg p k) ms ms'):iW (bg p k) ms r≤iW (bg p k) ms' r:=
 FU h fun m hm=>Ak (yu (qO hp hk hm)).1 hr
theorem UK {p:Proj} (hp:aG p=true) {k:Nat} (hk:k < p.acts.length) {r:Int} (hr:0≤r∧r.toNat < p.aX.length) {ms ms':List Int} (h:tY (bg p k) ms ms'):xI (bg p k) ms r≤xI (bg p k) ms' r:=
 FU h fun m hm=>Ak (yu (qO hp hk hm)).2 hr
theorem YB {p:Proj} (hp:aG p=true) {k:Nat} (hk:k < p.acts.length) (r:Int) (ms:List Int):0≤iW (bg p k) ms r:=by
 unfold iW leastOf
 split
 ·by_cases hn:(chosen (bg p k) ms).map (fun m=>(eu m.use r).getD 0)= []
  ·rw [hn];exact Int.le_refl _
  ·obtain⟨m,hm,e⟩:=List.mem_map.1 (PU hn)
   rw [← e]
   unfold eu
   split
   ·exact (uR (yu (qO hp hk (nH _ _ m hm))).1 _).1
   ·exact Int.le_refl _
 ·exact Int.le_refl _
theorem gU {p:Proj} {a b:Dom} (hf:ak p a=true) (he:aL a=false) (hs:bn a b p.acts.length) {k:Nat} (hk:k < p.acts.length):tY (bg p k) (b.modes.getD k []) (a.modes.getD k [])∧a.lo.getD k 0≤a.hi.getD k 0:=by
 obtain⟨hp,h1,h2,h3⟩:=aT hf
 have hb:=lU hf hk
 simp only [aL,Bool.or_eq_false_iff,List.any_eq_false,List.mem_range] at he
 have hc:=he.1 k (by omega)
 unfold jI at hc
 rw [List.getElem?_eq_getElem (by omega:k < a.lo.length),List.getElem?_eq_getElem (by omega:k < a.hi.length)] at hc
 simp only [decide_eq_true_eq] at hc
 have hm:=he.2 a.modes[k] (List.getElem_mem (by omega))
 have e3:a.modes.getD k []=a.modes[k]'(by omega):=by rw [List.getD_eq_getElem?_getD,List.getElem?_eq_getElem (by omega)];rfl
 refine⟨⟨?_,(hs k hk).2.2⟩,?_⟩
 ·cases hx:a.modes.getD k [] with
  |nil=>rw [e3] at hx;rw [hx] at hm;simp at hm
  |cons m l=>exact⟨m,List.mem_cons_self ..,hb.ms m (by rw [hx];exact List.mem_cons_self ..)⟩
 ·rw [List.getD_eq_getElem?_getD,List.getElem?_eq_getElem (by omega:k < a.lo.length),List.getD_eq_getElem?_getD,List.getElem?_eq_getElem (by omega:k < a.hi.length)]
  simp only [Option.getD_some];omega
theorem Wz {p:Proj} {a b:Dom} {r:Rul} (hfa:ak p a=true) (hfb:ak p b=true) (he:aL a=false) (hs:bn a b p.acts.length) (hr:iV p r=true) (h:fails p b r=true):fails p a r=true:=by
 obtain⟨hp,_,_,_⟩:=aT hfa
 simp only [iV,Bool.and_eq_true] at hr
 have hr:=hr.2
 unfold fails at h ⊢
 by_cases e1:r.kind=1
 ·rw [if_pos e1] at hr h ⊢
  simp only [Bool.and_eq_true,within_iff,decide_eq_true_eq] at hr
  have hk:r.a.toNat < p.links.length:=by omega
  have el:iE p r.a=p.links[r.a.toNat]:=by unfold iE;rw [List.getD_eq_getElem?_getD,List.getElem?_eq_getElem hk];rfl
  obtain⟨hs1,hs2⟩:=Jt hp (y:=iE p r.a) (by rw [el];exact List.getElem_mem hk)
  generalize iE p r.a=y at*
  have i1:=hs _ (fE hs1).2
  have i2:=hs _ (fE hs2).2
  have hd:=qP (gU hfa he hs (fE hs1).2).1
  unfold wu at h ⊢
  have h:=of_decide_eq_true h
  refine decide_eq_true ?_
  unfold ng at h ⊢
  split at h
  ·rename_i hfe;rw [if_pos hfe];omega
  ·rename_i hfe;rw [if_neg hfe];omega
 rw [if_neg e1] at hr h ⊢
 by_cases e2:r.kind=2
 ·rw [if_pos e2] at hr h ⊢
  simp only [Bool.and_eq_true,decide_eq_true_eq] at hr
  obtain⟨h0,hk⟩:=fE hr.1.1
  have i1:=hs _ hk
  have hd:=qP (gU hfa he hs hk).1
  have h:=of_decide_eq_true h
  unfold ng at h
  exact decide_eq_true (by unfold ng;omega)
 rw [if_neg e2] at hr h ⊢
 by_cases e3:r.kind=3
 ·rw [if_pos e3] at hr h ⊢
  simp only [Bool.and_eq_true,decide_eq_true_eq,dS,within_iff] at hr
  have hk:0≤r.a∧r.a.toNat < p.bC.length:=by have:=hr.1.1;simp only [fQ,within_iff] at this;omega
  have h:=of_decide_eq_true h
  refine decide_eq_true (Int.lt_of_lt_of_le h ?_)
  unfold Ko
  refine sumTo_le fun k hkn=>?_
  have i1:=hs k hkn
  have hm:=(gU hfa he hs hkn).1
  have hd:=qP hm
  have hu:=Al hp hkn hk hm
  have hn:=YB hp hkn r.a (a.modes.getD k [])
  unfold zL ng
  split
  ·rename_i hc
   rw [if_pos (by omega)];exact hu
  ·split
   ·exact hn
   ·exact Int.le_refl _
 rw [if_neg e3] at hr h ⊢
 by_cases e4:r.kind=4
 ·rw [if_pos e4] at hr h ⊢
  simp only [Bool.and_eq_true,decide_eq_true_eq,dS,within_iff] at hr
  have h:=of_decide_eq_true h
  refine decide_eq_true (Int.lt_of_lt_of_le h ?_)
  unfold rV
  refine sumTo_le fun k hkn=>?_
  have i1:=hs k hkn
  obtain⟨hm,hlh⟩:=gU hfa he hs hkn
  have ga:=lU hfa hkn
  have gb:=lU hfb hkn
  unfold qX
  refine Ik ?_ fun x hx=>?_
  ·obtain⟨m,h1,_⟩:=hm.ne
   intro e
   have:kN p a k r.a r.b r.c m∈(a.modes.getD k []).map (kN p a k r.a r.b r.c):=List.mem_map.2 ⟨m,h1,rfl⟩
   rw [e] at this;cases this
  ·obtain⟨m,h1,rfl⟩:=List.mem_map.1 hx
   refine⟨_,List.mem_map.2 ⟨m,hm.sub m h1,rfl⟩,?_⟩
   obtain⟨m0,m1⟩:=ga.ms m h1
   have hmm:(bg p k).modes.getD m.toNat ⟨0,[],[]⟩∈(bg p k).modes:=by
    rw [List.getD_eq_getElem?_getD,List.getElem?_eq_getElem m1];exact List.getElem_mem m1
   have hok:=qO hp hkn hmm
   have hu:=(uR (yu hok).1 r.a.toNat).1
   simp only [jA,Bool.and_eq_true,within_iff] at hok
   have k1:=ga.l1;have k2:=ga.l2;have k3:=ga.h1;have k4:=ga.h2
   have j1:=gb.l1;have j2:=gb.l2;have j3:=gb.h1;have j4:=gb.h2
   unfold kN
   dsimp only
   generalize (bg p k).modes.getD m.toNat ⟨0,[],[]⟩=mo at*
   have d1:=hok.1.1.1;have d2:=hok.1.1.2
   rw [jD ⟨k1,k2⟩ ⟨d1,by omega⟩ ⟨by omega,by omega⟩ ⟨by omega,by omega⟩,jD ⟨k3,k4⟩ ⟨d1,by omega⟩ ⟨by omega,by omega⟩ ⟨by omega,by omega⟩,
    jD ⟨j1,j2⟩ ⟨d1,by omega⟩ ⟨by omega,by omega⟩ ⟨by omega,by omega⟩,jD ⟨j3,j4⟩ ⟨d1,by omega⟩ ⟨by omega,by omega⟩ ⟨by omega,by omega⟩]
   refine Int.mul_le_mul_of_nonneg_right ?_ hu
   omega
 rw [if_neg e4] at hr h ⊢
 by_cases e5:r.kind=5
 ·rw [if_pos e5] at hr h ⊢
  simp only [Bool.and_eq_true,decide_eq_true_eq] at hr
  obtain⟨⟨⟨hm,hb⟩,hc⟩,hlt⟩:=hr
  have hk:0≤r.a∧r.a.toNat < p.bC.length:=by have:=hm;simp only [iD,fQ,Bool.and_eq_true,within_iff] at this;omega
  obtain⟨b0,hb⟩:=fE hb
  obtain⟨c0,hc⟩:=fE hc
  have i1:=hs _ hb
  have i2:=hs _ hc
  have s1:=(gU hfa he hs hb).1
  have s2:=(gU hfa he hs hc).1
  have u1:=Al hp hb hk s1
  have u2:=Al hp hc hk s2
  have d1:=qP s1
  have d2:=qP s2
  unfold jam at h ⊢
  simp only [Bool.and_eq_true] at h ⊢
  obtain⟨⟨⟨q1,q2⟩,q3⟩,q4⟩:=h
  replace q1:=of_decide_eq_true q1
  replace q2:=of_decide_eq_true q2
  replace q3:=of_decide_eq_true q3
  replace q4:=of_decide_eq_true q4
  unfold nI ng at q3 q4
  exact⟨⟨⟨decide_eq_true (by omega),decide_eq_true (by omega)⟩,decide_eq_true (by unfold nI ng;omega)⟩,decide_eq_true (by unfold nI ng;omega)⟩
 rw [if_neg e5] at hr h ⊢
 by_cases e6:r.kind=6
 ·rw [if_pos e6] at hr
  simp only [Bool.and_eq_true,decide_eq_true_eq] at hr
  have hk:0≤r.a∧r.a.toNat < p.aX.length:=by have:=hr.1.1;simp only [jR,within_iff] at this;omega
  simp only [sV,decide_eq_true_eq] at h ⊢
  refine Int.lt_of_lt_of_le h (sumTo_le fun k hkn=>?_)
  exact UK hp hkn hk (gU hfa he hs hkn).1
 ·rw [if_neg e6] at hr;cases hr
theorem WA {p:Proj} {a b:Dom} (hfa:ak p a=true) (hfb:ak p b=true) (hs:bn a b p.acts.length) (h:aL b=true):aL a=true:=by
 cases he:aL a with
 |true=>rfl
 |false=>
  exfalso
  obtain⟨hp,h1,h2,h3⟩:=aT hfb
  simp only [aL,Bool.or_eq_true,List.any_eq_true,List.mem_range] at h
  rcases h with⟨i,hi,hc⟩|⟨m,hm,hl⟩
  ·have:=hs i (by omega)
   have h5:=(gU hfa he hs (show i < p.acts.length by omega)).2
   unfold jI at hc
   rw [List.getElem?_eq_getElem (by omega:i < b.lo.length),List.getElem?_eq_getElem (by omega:i < b.hi.length)] at hc
   have hc:=of_decide_eq_true hc
   rw [List.getD_eq_getElem?_getD (l:=b.lo),List.getElem?_eq_getElem (by omega:i < b.lo.length),List.getD_eq_getElem?_getD (l:=b.hi),List.getElem?_eq_getElem (by omega:i < b.hi.length)] at this
   simp only [Option.getD_some] at this
   omega
  ·obtain⟨i,hi,rfl⟩:=List.getElem_of_mem hm
   obtain⟨m,g1,g2⟩:=(gU hfa he hs (show i < p.acts.length by omega)).1.ne
   have:=(hs i (by omega)).2.2 m g1
   rw [List.getD_eq_getElem?_getD,List.getElem?_eq_getElem hi] at this
   simp only [decide_eq_true_eq] at hl
   simp only [Option.getD_some] at this
   have:=List.length_pos_of_mem this
   omega
theorem pF {p:Proj} {a b:Dom} {r:Rul} (hfa:ak p a=true) (hs:bn a b p.acts.length) (h:refutes p b r=true):refutes p a r=true:=by
 simp only [refutes,Bool.and_eq_true,Bool.or_eq_true] at h ⊢
 obtain⟨hfb,h⟩:=h
 refine⟨hfa,?_⟩
 cases he:aL a with
 |true=>exact .inl rfl
 |false=>
  rcases h with h|⟨hr,h⟩
  ·rw [WA hfa hfb hs h] at he;cases he
  ·exact .inr ⟨hr,Wz hfa hfb he hs hr h⟩
theorem kI (b:Dom) (l:Lit) {n:Nat} (hl:pK b n):bn (restrict b l) b n:=by
 obtain⟨h1,h2,h3⟩:=hl
 intro k hk
 unfold restrict
 split
 ·rename_i hd
  simp only [dO,Bool.and_eq_true,decide_eq_true_eq] at hd
  dsimp only
  split
  ·refine⟨?_,Int.le_refl _,fun _ h=>h⟩
   by_cases ek:l.act.toNat=k
   ·subst ek;rw [aR (by omega)];omega
   ·rw [getD_set_ne ek];exact Int.le_refl _
  split
  ·refine⟨Int.le_refl _,?_,fun _ h=>h⟩
   by_cases ek:l.act.toNat=k
   ·subst ek;rw [aR (by omega)];omega
   ·rw [getD_set_ne ek];exact Int.le_refl _
  split
  ·refine⟨Int.le_refl _,Int.le_refl _,fun m hm=>?_⟩
   by_cases ek:l.act.toNat=k
   ·subst ek;rw [aR (by omega)] at hm;exact (List.mem_filter.1 hm).1
   ·rw [getD_set_ne ek] at hm;exact hm
  split
  ·refine⟨Int.le_refl _,Int.le_refl _,fun m hm=>?_⟩
   by_cases ek:l.act.toNat=k
   ·subst ek;rw [aR (by omega)] at hm;exact (List.mem_filter.1 hm).1
   ·rw [getD_set_ne ek] at hm;exact hm
  ·exact⟨Int.le_refl _,Int.le_refl _,fun _ h=>h⟩
 ·exact⟨Int.le_refl _,Int.le_refl _,fun _ h=>h⟩
theorem kJ {a b c:Dom} {l:Lit} {n:Nat} (hb:pK b n) (hc:pK c n) (h1:bn a b n) (h2:bn a (restrict c l) n):bn a (restrict b l) n:=by
 obtain⟨b1,b2,b3⟩:=hb
 obtain⟨c1,c2,c3⟩:=hc
 intro k hk
 have k1:=h1 k hk
 have k2:=h2 k hk
 have hdd:dO b l.act=dO c l.act:=by unfold dO;rw [b1,b2,b3,c1,c2,c3]
 unfold restrict at k2 ⊢
 rw [hdd]
 split
 ·rename_i hd
  rw [if_pos hd] at k2
  have hd':=hd
  simp only [dO,Bool.and_eq_true,decide_eq_true_eq] at hd'
  dsimp only at k2 ⊢
  by_cases ek:l.act.toNat=k
  ·subst ek
   split
   ·rename_i e;rw [if_pos e] at k2;dsimp only at k2 ⊢
    rw [aR (by omega)] at k2 ⊢
    exact⟨by omega,k1.2⟩
   rename_i e1;rw [if_neg e1] at k2
   split
   ·rename_i e;rw [if_pos e] at k2;dsimp only at k2 ⊢
    rw [aR (by omega)] at k2 ⊢
    exact⟨k1.1,by omega,k1.2.2⟩
   rename_i e2;rw [if_neg e2] at k2
   split
   ·rename_i e;rw [if_pos e] at k2;dsimp only at k2 ⊢
    rw [aR (by omega)] at k2 ⊢
    exact⟨k1.1,k1.2.1,fun m hm=>List.mem_filter.2 ⟨k1.2.2 m hm,(List.mem_filter.1 (k2.2.2 m hm)).2⟩⟩
   rename_i e3;rw [if_neg e3] at k2
   split
   ·rename_i e;rw [if_pos e] at k2;dsimp only at k2 ⊢
    rw [aR (by omega)] at k2 ⊢
    exact⟨k1.1,k1.2.1,fun m hm=>List.mem_filter.2 ⟨k1.2.2 m hm,(List.mem_filter.1 (k2.2.2 m hm)).2⟩⟩
   ·exact k1
  ·split
   ·dsimp only;rw [getD_set_ne ek];exact k1
   split
   ·dsimp only;rw [getD_set_ne ek];exact k1
   split
   ·dsimp only;rw [getD_set_ne ek];exact k1
   split
   ·dsimp only;rw [getD_set_ne ek];exact k1
   ·exact k1
 ·exact k1
theorem nX {n:Nat}:∀(l:List Lit) (b:Dom),pK b n→pK (against b l) n∧bn (against b l) b n
 |[],b,h=>⟨h,bn.refl _ _⟩
 |x::l,b,h=>by
  obtain⟨h1,h2⟩:=nX l (restrict b (negate x)) (fV h _)
  exact⟨h1,h2.trans (kI b _ h)⟩
theorem pG {n:Nat}:∀(l:List Lit) (b:Dom),pK b n→∀x∈l,bn (against b l) (restrict b (negate x)) n
 |[],b,h,x,hx=>by cases hx
 |y::l,b,h,x,hx=>by
  rcases List.mem_cons.1 hx with rfl|hx
  ·exact (nX l _ (fV h _)).2
  ·have h1:=pG l (restrict b (negate y)) (fV h _) x hx
   have h2:=(nX l (restrict b (negate y)) (fV h _)).2
   exact kJ h (fV h _) (h2.trans (kI b _ h)) h1
end Go.Proofs.YtgkfifiobmklcaaGreat.Abs
