/- Rules that refute a domain are broken by each of its schedules; clauses that follow hold. Plain Lean. -/
import Derived.Test.YtmenphiahgkjkaaGreatDoorPlain
set_option linter.all false
namespace Go.Proofs.YtmenphiahgkjkaaGreatDoor.Abs
def mK (b:Dom) (s:aJ) (n:Nat):Prop:=∀k,k < n→b.lo.getD k 0≤s.starts.getD k 0∧s.starts.getD k 0≤b.hi.getD k 0∧s.modes.getD k 0∈b.modes.getD k []
def dG (l:Lit) (s:aJ):Bool:=
 within l.act 0 ((s.starts.length:Int) - 1)&&within l.act 0 ((s.modes.length:Int) - 1)&&
  (if l.kind=1 then decide (s.starts.getD l.act.toNat 0≥l.val) else if l.kind=2 then decide (s.starts.getD l.act.toNat 0≤l.val)
   else if l.kind=3 then decide (s.modes.getD l.act.toNat 0=l.val) else decide (l.kind=4)&&decide (s.modes.getD l.act.toNat 0≠l.val))
def dA (l:List Lit) (s:aJ):Bool:=l.any fun x=>dG x s
theorem iB {p:Proj} {k:Nat} (hk:k < p.acts.length):p.acts[k]? =some (aZ p k):=by
 unfold aZ;rw [List.getD_eq_getElem?_getD,List.getElem?_eq_getElem hk];rfl
theorem Iu {p:Proj} (h:aL p=true) {k:Nat} (hk:k < p.acts.length):dD (aZ p k) p.bB.length p.aW.length=true:=by
 simp only [aL,Bool.and_eq_true] at h
 have h1:=bX.1 h.1.1.1.2 k hk
 unfold Ep at h1
 rw [iB hk] at h1
 simp only [Bool.and_eq_true] at h1
 exact h1.1
theorem qM {p:Proj} (h:aL p=true) {k:Nat} (hk:k < p.acts.length) {m:Mode} (hm:m∈(aZ p k).modes):kW m p.bB.length p.aW.length=true:=by
 have h1:=Iu h hk
 simp only [dD,Bool.and_eq_true,List.all_eq_true] at h1
 exact h1.1 m hm
theorem jH {p:Proj} (h:aL p=true) {k:Nat} (hk:k < p.acts.length):1≤(aZ p k).modes.length∧(aZ p k).modes.length≤3:=by
 have h1:=Iu h hk
 simp only [dD,Bool.and_eq_true,within_iff] at h1
 have:=h1.2.2;omega
theorem uT {p:Proj} (h:aL p=true):1≤p.dead∧p.dead≤60∧1≤p.acts.length∧p.acts.length≤6:=by
 simp only [aL,xB,Bool.and_eq_true,within_iff] at h
 have h1:=h.1.1.1.1.1.1.1;omega
theorem Iw {p:Proj} (h:aL p=true) {y:Link} (hy:y∈p.links):bJ p y.src=true∧bJ p y.dst=true:=by
 simp only [aL,Bool.and_eq_true,List.all_eq_true] at h
 have h1:=h.2 y hy
 simp only [qX,Bool.and_eq_true] at h1
 exact h1.1.1
theorem fC {p:Proj} {n:Int} (h:bJ p n=true):0≤n∧n.toNat < p.acts.length:=by
 simp only [bJ,within_iff] at h;omega
structure lF (p:Proj) (s:aJ) (k:Nat):Prop where
 lo:0≤s.starts.getD k 0
 hi:s.starts.getD k 0≤60
 m0:0≤s.modes.getD k 0
 m1:(s.modes.getD k 0).toNat < (aZ p k).modes.length
 mem:eZ p s k∈(aZ p k).modes
 d1:1≤(eZ p s k).dur
 d2:(eZ p s k).dur≤12
 ok:kW (eZ p s k) p.bB.length p.aW.length=true
theorem jI {p:Proj} {s:aJ} (h:bG p s=true):aL p=true∧s.starts.length=p.acts.length∧s.modes.length=p.acts.length:=by
 simp only [bG,Bool.and_eq_true,Bool.not_eq_true',decide_eq_false_iff_not] at h
 exact⟨h.1.1.1,by omega,by omega⟩
theorem iP {p:Proj} {s:aJ} (h:bG p s=true) {k:Nat} (hk:k < p.acts.length):lF p s k:=by
 obtain⟨hp,h1,h2⟩:=jI h
 simp only [bG,Bool.and_eq_true] at h
 have h3:=bX.1 h.2 k hk
 unfold xE at h3
 rw [iB hk,List.getElem?_eq_getElem (by omega:k < s.starts.length),List.getElem?_eq_getElem (by omega:k < s.modes.length)] at h3
 simp only [Bool.and_eq_true,eY,within_iff] at h3
 have e1:s.starts.getD k 0=s.starts[k]'(by omega):=by rw [List.getD_eq_getElem?_getD,List.getElem?_eq_getElem (by omega)];rfl
 have e2:s.modes.getD k 0=s.modes[k]'(by omega):=by rw [List.getD_eq_getElem?_getD,List.getElem?_eq_getElem (by omega)];rfl
 have hlt:(s.modes.getD k 0).toNat < (aZ p k).modes.length:=by rw [e2];omega
 have hm:eZ p s k∈(aZ p k).modes:=by
  unfold eZ;rw [List.getD_eq_getElem?_getD,List.getElem?_eq_getElem hlt];exact List.getElem_mem hlt
 have ho:=qM hp hk hm
 have ho':=ho
 simp only [kW,Bool.and_eq_true,within_iff] at ho'
 exact⟨by rw [e1];omega,by rw [e1];omega,by rw [e2];omega,hlt,hm,ho'.1.1.1,ho'.1.1.2,ho⟩
theorem uU {l:List Int} {n:Int} (h:dX l n=true) (i:Nat):0≤l.getD i 0∧l.getD i 0≤20:=by
 simp only [dX,Bool.and_eq_true,List.all_eq_true] at h
 by_cases hi:i < l.length
 ·have:=h.1 _ (List.getElem_mem hi)
  rw [List.getD_eq_getElem?_getD,List.getElem?_eq_getElem hi]
  simpa [mU,within_iff] using this
 ·rw [List.getD_eq_getElem?_getD,List.getElem?_eq_none (by omega)];simp
theorem lF.use {p:Proj} {s:aJ} {k:Nat} (h:lF p s k) (r:Nat):0≤(eZ p s k).use.getD r 0∧(eZ p s k).use.getD r 0≤20:=by
 have:=h.ok
 simp only [kW,Bool.and_eq_true] at this
 exact uU this.1.2 r
theorem lF.con {p:Proj} {s:aJ} {k:Nat} (h:lF p s k) (r:Nat):0≤(eZ p s k).con.getD r 0:=by
 have:=h.ok
 simp only [kW,Bool.and_eq_true] at this
 exact (uU this.2 r).1
theorem xY:∀(l:List Int) (a:Int),l.foldl min a≤a∧∀x∈l,l.foldl min a≤x
 |[],a=>⟨Int.le_refl _,by simp⟩
 |y::l,a=>by
  obtain⟨h1,h2⟩:=xY l (min a y)
  refine⟨by simp only [List.foldl_cons];omega,fun x hx=>?_⟩
  simp only [List.foldl_cons]
  rcases List.mem_cons.1 hx with rfl|hx
  ·omega
  ·exact h2 x hx
theorem AQ {l:List Int} {x:Int} (h:x∈l):least l≤x:=by
 cases l with
 |nil=>cases h
 |cons y l=>
  rcases List.mem_cons.1 h with rfl|h
  ·exact (xY l x).1
  ·exact (xY l y).2 x h
theorem tV {ms:List Int} {m:Mode}:∀(l:List Mode) (k j:Nat),l[j]? =some m→((k+j:Nat):Int)∈ms→m∈bT ms l k
 |[],k,j,h,_=>by simp at h
 |y::l,k,0,h,hm=>by
  simp at h;subst h
  rw [bT,if_pos (by simpa using hm)]
  exact List.mem_cons_self ..
 |y::l,k,j+1,h,hm=>by
  have:=tV l (k+1) j (by simpa using h) (by rw [show k+1+j=k+(j+1) by omega];exact hm)
  rw [bT]
  split
  ·exact List.mem_cons_of_mem _ this
  ·exact this
theorem zZ {p:Proj} {s:aJ} {k:Nat} {ms:List Int} (h:lF p s k) (hm:s.modes.getD k 0∈ms):eZ p s k∈chosen (aZ p k) ms:=by
 refine tV _ 0 (s.modes.getD k 0).toNat ?_ (by rw [Nat.zero_add,Int.toNat_of_nonneg h.m0];exact hm)
 unfold eZ
 rw [List.getD_eq_getElem?_getD (l:=(aZ p k).modes),List.getElem?_eq_getElem h.m1];rfl
theorem tX {p:Proj} {s:aJ} {k:Nat} {ms:List Int} (h:lF p s k) (hm:s.modes.getD k 0∈ms):vF (aZ p k) ms≤(eZ p s k).dur:=
 AQ (List.mem_map.2 ⟨_,zZ h hm,rfl⟩)
theorem LX {l:List Mode} {f:Mode→Option Int} {m:Mode} {v:Int} (hm:m∈l) (hv:(f m).getD 0≤v) (h0:0≤v):leastOf l f≤v:=by
 unfold leastOf
 split
 ·exact Int.le_trans (AQ (List.mem_map.2 ⟨m,hm,rfl⟩)) hv
 ·exact h0
theorem Fb {l:List Int} {r:Int} (h:0≤l.getD r.toNat 0):(dY l r).getD 0≤l.getD r.toNat 0:=by
 unfold dY;split
 ·exact Int.le_refl _
 ·exact h
theorem GQ {p:Proj} {s:aJ} {k:Nat} {ms:List Int} (h:lF p s k) (hm:s.modes.getD k 0∈ms) (r:Int):je (aZ p k) ms r≤(eZ p s k).use.getD r.toNat 0:=
 LX (zZ h hm) (Fb (h.use _).1) (h.use _).1
theorem XO {p:Proj} {s:aJ} {k:Nat} {ms:List Int} (h:lF p s k) (hm:s.modes.getD k 0∈ms) (r:Int):xC (aZ p k) ms r≤(eZ p s k).con.getD r.toNat 0:=
 LX (zZ h hm) (Fb (h.con _)) (h.con _)
theorem sumTo_le {f g:Nat→Int}:∀{n:Nat},(∀k,k < n→f k≤g k)→sumTo f n≤sumTo g n
 |0,_=>Int.le_refl _
 |n+1,h=>by
  have h1:=sumTo_le (n:=n) (fun k hk=>h k (by omega))
  have h2:=h n (by omega)
  simp only [sumTo];omega
theorem OI {f g:Nat→Int}:∀{n:Nat},sumTo (fun k=>f k+g k) n=sumTo f n+sumTo g n
 |0=>rfl
 |n+1=>by simp only [sumTo];rw [OI];omega
theorem LY:∀{n:Nat},sumTo (fun _=>0) n=0
 |0=>rfl
 |n+1=>by simp only [sumTo];rw [LY];rfl
theorem pW {p:Proj} {s:aJ} {r:Rul} (hr:r∈bI p) (hb:breaks p s r=true):bg p s=false:=by
 cases h:bg p s with
 |false=>rfl
 |true=>
  simp only [bg,Bool.and_eq_true,decide_eq_true_eq] at h
  have h1:=h.2
  unfold qE at h1
  rw [if_pos h.1] at h1
  have:r∈(bI p).filter (breaks p s):=List.mem_filter.2 ⟨hr,hb⟩
  have:=List.length_pos_of_mem this
  omega
theorem Zm {p:Proj} {k:Nat} (h:k < p.links.length):kX k∈bI p:=by
 simp only [bI,List.mem_append];exact .inl (.inl (.inl (.inl (List.mem_map.2 ⟨k,List.mem_range.2 h,rfl⟩))))
theorem WT {p:Proj} {k:Nat} (h:k < p.acts.length):endRule k∈bI p:=by
 simp only [bI,List.mem_append];exact .inl (.inl (.inl (.inr (List.mem_map.2 ⟨k,List.mem_range.2 h,rfl⟩))))
theorem TQ {p:Proj} {r t:Nat} (h:r < p.bB.length) (ht:t≤60):mX r t∈bI p:=by
 simp only [bI,List.mem_append]
 exact .inl (.inl (.inr (List.mem_flatMap.2 ⟨r,List.mem_range.2 h,List.mem_map.2 ⟨t,List.mem_range.2 (by omega),rfl⟩⟩)))
theorem pair_mem {p:Proj} {r b c:Nat} (h:r < p.bB.length) (hm:iE p r=true) (hb:b < c) (hc:c < p.acts.length):mY r b c∈bI p:=by
 simp only [bI,List.mem_append]
 refine .inl (.inr (List.mem_flatMap.2 ⟨r,List.mem_range.2 h,List.mem_flatMap.2 ⟨b,List.mem_range.2 (by omega),?_⟩⟩))
 unfold fU
 rw [if_pos hm]
 exact List.mem_map.2 ⟨c - (b+1),List.mem_range.2 (by omega),by rw [show b+1+(c - (b+1))=c by omega]⟩
theorem XP {p:Proj} {k:Nat} (h:k < p.aW.length):jU k∈bI p:=by
 simp only [bI,List.mem_append];exact .inr (List.mem_map.2 ⟨k,List.mem_range.2 h,rfl⟩)
theorem Dm {s d x y:Int} (hs:0≤s∧s≤100) (hd:1≤d∧d≤100) (hx:0≤x∧x≤100) (hy:0≤y∧y≤100):overlap s d x y=max (min (s+d) y - max s x) 0:=by
 unfold overlap fits
 rw [if_pos ⟨within_iff.2 (by omega),within_iff.2 (by omega),within_iff.2 (by omega),within_iff.2 (by omega)⟩,if_neg (by omega)]
theorem jJ {s d x y:Int} (hs: -2≤s∧s≤62) (hd:1≤d∧d≤100) (hx:0≤x∧x≤100) (hy:0≤y∧y≤100):overlap s d x y=max (min (s+d) y - max s x) 0:=by
 unfold overlap fits
 rw [if_pos ⟨within_iff.2 (by omega),within_iff.2 (by omega),within_iff.2 (by omega),within_iff.2 (by omega)⟩,if_neg (by omega)]
theorem WU {p:Proj} {s:aJ} {k:Nat} (h:lF p s k) (r x:Int) (hx:0≤x):∀(n:Nat),x+n≤100→sumTo (fun i=>Es p s r (x+i) k) n=(eZ p s k).use.getD r.toNat 0*overlap (s.starts.getD k 0) (eZ p s k).dur x (x+n)
 |0,hn=>by
  rw [Dm ⟨h.lo,by have:=h.hi;omega⟩ ⟨h.d1,by have:=h.d2;omega⟩ ⟨hx,by omega⟩ ⟨by omega,by omega⟩]
  rw [show max (min (s.starts.getD k 0+(eZ p s k).dur) (x+((0:Nat):Int)) - max (s.starts.getD k 0) x) 0=0 by omega]
  simp [sumTo]
 |n+1,hn=>by
  have h1:=h.lo;have h2:=h.hi;have h3:=h.d1;have h4:=h.d2
  simp only [sumTo]
  rw [WU h r x hx n (by omega)]
  rw [Dm ⟨h1,by omega⟩ ⟨h3,by omega⟩ ⟨hx,by omega⟩ ⟨by omega,by omega⟩,Dm ⟨h1,by omega⟩ ⟨h3,by omega⟩ ⟨hx,by omega⟩ ⟨by omega,by omega⟩]
  unfold Es runs oH
  generalize (eZ p s k).use.getD r.toNat 0=u
  generalize s.starts.getD k 0=a at*
  generalize (eZ p s k).dur=d at*
  by_cases hr:a≤x+n∧a+d > x+n
  ·rw [if_pos (by simp [hr])]
   rw [show max (min (a+d) (x+((n+1:Nat):Int)) - max a x) 0=max (min (a+d) (x+(n:Int)) - max a x) 0+1 by omega,Int.mul_add,Int.mul_one]
  ·rw [if_neg (by simp only [Bool.and_eq_true,decide_eq_true_eq];exact hr)]
   rw [show max (min (a+d) (x+((n+1:Nat):Int)) - max a x) 0=max (min (a+d) (x+(n:Int)) - max a x) 0 by omega,Int.add_zero]
theorem TR (f:Nat→Nat→Int):∀(n m:Nat),sumTo (fun i=>sumTo (fun k=>f i k) m) n=sumTo (fun k=>sumTo (fun i=>f i k) n) m
 |0,m=>by simp only [sumTo];rw [LY]
 |n+1,m=>by
  have:=TR f n m
  simp only [sumTo]
  rw [this,OI]
theorem VE {p:Proj} {s:aJ} (r x:Int) (n:Nat):sumTo (fun i=>AJ p s r (x+i)) n=sumTo (fun k=>sumTo (fun i=>Es p s r (x+i) k) n) p.acts.length:=
 TR (fun i k=>Es p s r (x+i) k) n p.acts.length
theorem OJ (l:List Step) (x:Int):∀n:Nat,vG l x n=sumTo (fun i=>oF (x+i) l 0) n
 |0=>rfl
 |n+1=>by simp only [vG,sumTo];rw [OJ l x n]
theorem TS {f g:Nat→Int}:∀{n:Nat},sumTo f n > sumTo g n→∃k,k < n∧f k > g k
 |0,h=>by simp [sumTo] at h
 |n+1,h=>by
  simp only [sumTo] at h
  by_cases hk:f n > g n
  ·exact⟨n,by omega,hk⟩
  ·obtain⟨k,h1,h2⟩:=TS (f:=f) (g:=g) (n:=n) (by omega)
   exact⟨k,by omega,h2⟩
structure acZ (p:Proj) (b:Dom) (k:Nat):Prop where
 l1: -2≤b.lo.getD k 0
 l2:b.lo.getD k 0≤62
 h1: -2≤b.hi.getD k 0
 h2:b.hi.getD k 0≤62
 ms:∀m∈b.modes.getD k [],0≤m∧m.toNat < (aZ p k).modes.length
theorem qm {n:Nat} {m:Int} (h:m∈aO n):0≤m∧m.toNat < n:=by
 unfold aO at h
 split at h
 ·obtain⟨k,h1,rfl⟩:=List.mem_map.1 h
  have:=List.mem_range.1 h1
  simp at this ⊢;omega
 ·simp at h
theorem QU {n:Nat} (hn:n≤200) {m:Int} (h0:0≤m) (h:m.toNat < n):m∈aO n:=by
 unfold aO
 rw [if_pos (within_iff.2 (by omega))]
 exact List.mem_map.2 ⟨m.toNat,List.mem_range.2 (by omega),by simp;omega⟩
theorem bq {p:Proj} {b:Dom} (h:ak p b=true):aL p=true∧b.lo.length=p.acts.length∧b.hi.length=p.acts.length∧b.modes.length=p.acts.length:=by
 simp only [ak,Bool.and_eq_true,Bool.not_eq_true',decide_eq_false_iff_not] at h
 exact⟨h.1.1.1.1,by omega,by omega,by omega⟩
theorem lH {p:Proj} {b:Dom} (h:ak p b=true) {k:Nat} (hk:k < p.acts.length):acZ p b k:=by
 obtain⟨hp,h1,h2,h3⟩:=bq h
 simp only [ak,Bool.and_eq_true] at h
 have h4:=bX.1 h.2 k hk
 unfold rD at h4
 rw [iB hk,List.getElem?_eq_getElem (by omega:k < b.lo.length),List.getElem?_eq_getElem (by omega:k < b.hi.length),List.getElem?_eq_getElem (by omega:k < b.modes.length)] at h4
 simp only [Bool.and_eq_true,oG,within_iff,subset,List.all_eq_true,List.contains_iff_mem] at h4
 have e1:b.lo.getD k 0=b.lo[k]'(by omega):=by rw [List.getD_eq_getElem?_getD,List.getElem?_eq_getElem (by omega)];rfl
 have e2:b.hi.getD k 0=b.hi[k]'(by omega):=by rw [List.getD_eq_getElem?_getD,List.getElem?_eq_getElem (by omega)];rfl
 have e3:b.modes.getD k []=b.modes[k]'(by omega):=by rw [List.getD_eq_getElem?_getD,List.getElem?_eq_getElem (by omega)];rfl
 exact⟨by rw [e1];omega,by rw [e1];omega,by rw [e2];omega,by rw [e2];omega,fun m hm=>qm (h4.2 m (by rw [e3] at hm;exact hm))⟩
theorem aau {p:Proj} {b:Dom} {s:aJ} {k:Nat} (h:lF p s k) (hb:acZ p b k) (hin:b.lo.getD k 0≤s.starts.getD k 0∧s.starts.getD k 0≤b.hi.getD k 0∧s.modes.getD k 0∈b.modes.getD k []) {r x y:Int} (hx:0≤x∧x≤60) (hy:0≤y∧y≤60):
  qY p b r x y k≤(eZ p s k).use.getD r.toNat 0*overlap (s.starts.getD k 0) (eZ p s k).dur x y:=by
 unfold qY
 refine Int.le_trans (AQ (List.mem_map.2 ⟨s.modes.getD k 0,hin.2.2,rfl⟩)) ?_
 unfold kI
 show min (overlap _ (eZ p s k).dur x y) (overlap _ (eZ p s k).dur x y)*(eZ p s k).use.getD r.toNat 0≤_
 have h1:=h.lo;have h2:=h.hi;have h3:=h.d1;have h4:=h.d2
 have k1:=hb.l1;have k2:=hb.l2;have k3:=hb.h1;have k4:=hb.h2
 rw [jJ ⟨k1,k2⟩ ⟨h3,by omega⟩ ⟨hx.1,by omega⟩ ⟨hy.1,by omega⟩,jJ ⟨k3,k4⟩ ⟨h3,by omega⟩ ⟨hx.1,by omega⟩ ⟨hy.1,by omega⟩,jJ ⟨by omega,by omega⟩ ⟨h3,by omega⟩ ⟨hx.1,by omega⟩ ⟨hy.1,by omega⟩,Int.mul_comm]
 refine Int.mul_le_mul_of_nonneg_left ?_ (h.use _).1
 omega
theorem QV {p:Proj} {b:Dom} {s:aJ} {r:Rul} (hf:ak p b=true) (hr:jd p r=true) (hs:bG p s=true) (hin:mK b s p.acts.length) (h:fails p b r=true):bg p s=false:=by
 obtain⟨hp,hl1,hl2⟩:=jI hs
 simp only [jd,Bool.and_eq_true] at hr
 have hr:=hr.2
 unfold fails at h
 by_cases e1:r.kind=1
 ·rw [if_pos e1] at hr h
  simp only [Bool.and_eq_true,within_iff,decide_eq_true_eq] at hr
  have hk:r.a.toNat < p.links.length:=by omega
  refine pW (Zm hk) ?_
  have el:iF p r.a=p.links[r.a.toNat]:=by unfold iF;rw [List.getD_eq_getElem?_getD,List.getElem?_eq_getElem hk];rfl
  obtain⟨hs1,hs2⟩:=Iw hp (y:=iF p r.a) (by rw [el];exact List.getElem_mem hk)
  have e2:iF p ((r.a.toNat:Nat):Int)=iF p r.a:=by unfold iF;rw [Int.toNat_natCast]
  unfold breaks kX
  rw [if_pos rfl]
  show tC p s (iF p (r.a.toNat:Int))=true
  rw [e2]
  generalize iF p r.a=y at*
  have g1:=iP hs (fC hs1).2
  have i1:=hin _ (fC hs1).2
  have i2:=hin _ (fC hs2).2
  simp only [wh,decide_eq_true_eq] at h
  simp only [tC,decide_eq_true_eq]
  have hd:=tX g1 i1.2.2
  unfold mV at h
  unfold oH
  split at h
  ·rename_i hfe;rw [if_pos hfe];omega
  ·rename_i hfe;rw [if_neg hfe];omega
 rw [if_neg e1] at hr h
 by_cases e2:r.kind=2
 ·rw [if_pos e2] at hr h
  simp only [Bool.and_eq_true,decide_eq_true_eq] at hr h
  obtain⟨h0,hk⟩:=fC hr.1.1
  refine pW (WT hk) ?_
  have g1:=iP hs hk
  have i1:=hin _ hk
  have hd:=tX g1 i1.2.2
  unfold mV at h
  unfold breaks endRule
  rw [if_neg (by simp),if_pos rfl]
  simp only [decide_eq_true_eq,Int.toNat_natCast]
  unfold oH;omega
 rw [if_neg e2] at hr h
 by_cases e3:r.kind=3
 ·rw [if_pos e3] at hr h
  simp only [Bool.and_eq_true,decide_eq_true_eq,eY,within_iff] at hr h
  have hk:0≤r.a∧r.a.toNat < p.bB.length:=by have:=hr.1.1;simp only [fT,within_iff] at this;omega
  refine pW (TQ (t:=r.b.toNat) hk.2 (by omega)) ?_
  unfold breaks mX
  rw [if_neg (by simp),if_neg (by simp),if_pos rfl]
  simp only [decide_eq_true_eq]
  have ea:((r.a.toNat:Nat):Int)=r.a:=by omega
  have eb:((r.b.toNat:Nat):Int)=r.b:=by omega
  rw [ea,eb]
  refine Int.lt_of_lt_of_le h ?_
  unfold Ju AJ
  refine sumTo_le fun k hk=>?_
  have g1:=iP hs hk
  have i1:=hin k hk
  unfold zx Es
  split
  ·rename_i hc
   have hd:=tX g1 i1.2.2
   unfold mV at hc
   have hrun:runs p s r.b k=true:=by
    simp only [runs,oH,Bool.and_eq_true]
    exact⟨decide_eq_true (by omega),decide_eq_true (by omega)⟩
   rw [if_pos hrun]
   exact GQ g1 i1.2.2 r.a
  ·split
   ·exact (g1.use _).1
   ·exact Int.le_refl _
 rw [if_neg e3] at hr h
 by_cases e4:r.kind=4
 ·rw [if_pos e4] at hr h
  simp only [Bool.and_eq_true,decide_eq_true_eq,eY,within_iff] at hr h
  have hk:0≤r.a∧r.a.toNat < p.bB.length:=by have:=hr.1.1.1;simp only [fT,within_iff] at this;omega
  unfold vZ at h
  have hso:lV (yE p r.a).steps=true:=by
   have h9:=hp
   simp only [aL,Bool.and_eq_true,List.all_eq_true] at h9
   have h8:=h9.1.1.2 (yE p r.a) (by unfold yE;rw [List.getD_eq_getElem?_getD,List.getElem?_eq_getElem hk.2];exact List.getElem_mem hk.2)
   simp only [qC,Bool.and_eq_true] at h8
   exact h8.2.1
  rw [if_pos ⟨hso,by simp only [eY,within_iff];omega,by simp only [eY,within_iff];omega⟩,OJ] at h
  have hle:rY p b r.a r.b r.c≤sumTo (fun i=>AJ p s r.a (r.b+i)) (r.c - r.b).toNat:=by
   rw [VE]
   unfold rY
   refine sumTo_le fun k hk=>?_
   have g1:=iP hs hk
   have i1:=hin k hk
   rw [WU g1 r.a r.b (by omega) _ (by omega)]
   rw [show r.b+((r.c - r.b).toNat:Int)=r.c by omega]
   exact aau g1 (lH hf hk) i1 (by omega) (by omega)
  obtain⟨i,hi,hgt⟩:=TS (Int.lt_of_lt_of_le h hle)
  refine pW (TQ (t:=(r.b+i).toNat) hk.2 (by omega)) ?_
  unfold breaks mX
  rw [if_neg (by simp),if_neg (by simp),if_pos rfl]
  simp only [decide_eq_true_eq]
  have ea:((r.a.toNat:Nat):Int)=r.a:=by omega
  have eb:(((r.b+i).toNat:Nat):Int)=r.b+i:=by omega
  rw [ea,eb]
  exact hgt
 rw [if_neg e4] at hr h
 by_cases e5:r.kind=5
 ·rw [if_pos e5] at hr h
  simp only [Bool.and_eq_true,decide_eq_true_eq] at hr
  obtain⟨⟨⟨hm,hb⟩,hc⟩,hlt⟩:=hr
  have hk:0≤r.a∧r.a.toNat < p.bB.length:=by have:=hm;simp only [iE,fT,Bool.and_eq_true,within_iff] at this;omega
  obtain⟨b0,hb⟩:=fC hb
  obtain⟨c0,hc⟩:=fC hc
  have ea:((r.a.toNat:Nat):Int)=r.a:=by omega
  have eb:((r.b.toNat:Nat):Int)=r.b:=by omega
  have ec:((r.c.toNat:Nat):Int)=r.c:=by omega
  refine pW (pair_mem (r:=r.a.toNat) (b:=r.b.toNat) (c:=r.c.toNat) hk.2 (by rw [ea];exact hm) (by omega) hc) ?_
  unfold breaks mY
  rw [if_neg (by simp),if_neg (by simp),if_neg (by simp),if_pos rfl]
  simp only [ea,eb,ec]
  have g1:=iP hs hb
  have i1:=hin _ hb
  have g2:=iP hs hc
  have i2:=hin _ hc
  unfold jam at h
  simp only [Bool.and_eq_true] at h
  obtain⟨⟨⟨q1,q2⟩,q3⟩,q4⟩:=h
  replace q1:=of_decide_eq_true q1
  replace q2:=of_decide_eq_true q2
  replace q3:=of_decide_eq_true q3
  replace q4:=of_decide_eq_true q4
  unfold nG mV at q3 q4
  have u1:=GQ g1 i1.2.2 r.a
  have u2:=GQ g2 i2.2.2 r.a
  have d1:=tX g1 i1.2.2
  have d2:=tX g2 i2.2.2
  simp only [wu,Et,oH,Bool.and_eq_true,Bool.not_eq_true']
  exact⟨⟨⟨decide_eq_false (by omega),decide_eq_false (by omega)⟩,decide_eq_false (by omega)⟩,decide_eq_false (by omega)⟩
 rw [if_neg e5] at hr h
 by_cases e6:r.kind=6
 ·rw [if_pos e6] at hr
  simp only [Bool.and_eq_true,decide_eq_true_eq] at hr
  have hk:0≤r.a∧r.a.toNat < p.aW.length:=by have:=hr.1.1;simp only [jS,within_iff] at this;omega
  refine pW (XP hk.2) ?_
  unfold breaks jU
  rw [if_neg (by simp),if_neg (by simp),if_neg (by simp),if_neg (by simp)]
  simp only [decide_eq_true_eq]
  have ea:((r.a.toNat:Nat):Int)=r.a:=by omega
  rw [ea]
  simp only [sZ,decide_eq_true_eq] at h
  refine Int.lt_of_lt_of_le h ?_
  unfold KG
  refine sumTo_le fun k hk=>?_
  exact XO (iP hs hk) (hin k hk).2.2 r.a
 ·rw [if_neg e6] at hr;cases hr
theorem Ch {p:Proj} {b:Dom} {s:aJ} {r:Rul} (h:refutes p b r=true) (hs:bG p s=true) (hin:mK b s p.acts.length):bg p s=false:=by
 simp only [refutes,Bool.and_eq_true,Bool.or_eq_true] at h
 obtain⟨hf,h|⟨hr,h⟩⟩:=h
 ·exfalso
  obtain⟨hp,h1,h2,h3⟩:=bq hf
  simp only [aP,Bool.or_eq_true,List.any_eq_true,List.mem_range] at h
  rcases h with⟨i,hi,hc⟩|⟨m,hm,hl⟩
  ·have:=hin i (by omega)
   unfold nE at hc
   rw [List.getElem?_eq_getElem (by omega:i < b.lo.length),List.getElem?_eq_getElem (by omega:i < b.hi.length)] at hc
   simp only [decide_eq_true_eq] at hc
   rw [List.getD_eq_getElem?_getD,List.getElem?_eq_getElem (by omega:i < b.lo.length),List.getD_eq_getElem?_getD (l:=b.hi),List.getElem?_eq_getElem (by omega:i < b.hi.length)] at this
   simp only [Option.getD_some] at this
   omega
  ·obtain⟨i,hi,rfl⟩:=List.getElem_of_mem hm
   have:=(hin i (by omega)).2.2
   rw [List.getD_eq_getElem?_getD,List.getElem?_eq_getElem hi] at this
   simp only [decide_eq_true_eq] at hl
   simp only [Option.getD_some] at this
   have:=List.length_pos_of_mem this
   omega
 ·exact QV hf hr hs hin h
structure rz (b:Dom) (n:Nat):Prop where
 lo:b.lo.length=n
 hi:b.hi.length=n
 ms:b.modes.length=n
theorem gU {v:Int} (h: -2≤v∧v≤62):clamped v=v:=by unfold clamped;omega
theorem iI {b:Dom} {n:Nat} (h:rz b n) (l:Lit):rz (restrict b l) n:=by
 obtain⟨h1,h2,h3⟩:=h
 unfold restrict
 split
 ·dsimp only
  split
  ·exact⟨by simpa using h1,h2,h3⟩
  ·split
   ·exact⟨h1,by simpa using h2,h3⟩
   ·split
    ·exact⟨h1,h2,by simpa using h3⟩
    ·split
     ·exact⟨h1,h2,by simpa using h3⟩
     ·exact⟨h1,h2,h3⟩
 ·exact⟨h1,h2,h3⟩
theorem aM {α:Type} {l:List α} {i:Nat} {x d:α} (h:i < l.length):(l.set i x).getD i d=x:=by
 rw [List.getD_eq_getElem?_getD,List.getElem?_set_self h];rfl
theorem getD_set_ne {α:Type} {l:List α} {i j:Nat} {x d:α} (h:i≠j):(l.set i x).getD j d=l.getD j d:=by
 rw [List.getD_eq_getElem?_getD,List.getElem?_set_ne h,List.getD_eq_getElem?_getD]
def GR (l:Lit):Prop:= -2≤l.val∧l.val≤62
theorem oU {b:Dom} {s:aJ} {n:Nat} {l:Lit} (hl:rz b n) (hin:mK b s n) (hf:GR l) (hh:dG l s=true):mK (restrict b l) s n:=by
 obtain⟨h1,h2,h3⟩:=hl
 simp only [dG,Bool.and_eq_true,within_iff] at hh
 obtain⟨⟨ha,hb⟩,hh⟩:=hh
 unfold restrict
 split
 ·rename_i hd
  simp only [eF,Bool.and_eq_true,decide_eq_true_eq] at hd
  have hn:l.act.toNat < n:=by omega
  dsimp only
  rw [gU hf]
  have hk:=hin _ hn
  intro k hkn
  have hk2:=hin k hkn
  split
  ·rename_i e
   rw [if_pos e] at hh
   have hh:=of_decide_eq_true hh
   refine⟨?_,hk2.2⟩
   by_cases ek:l.act.toNat=k
   ·subst ek;rw [aM (by omega)];omega
   ·rw [getD_set_ne ek];exact hk2.1
  rename_i e1
  rw [if_neg e1] at hh
  split
  ·rename_i e
   rw [if_pos e] at hh
   have hh:=of_decide_eq_true hh
   refine⟨hk2.1,?_,hk2.2.2⟩
   by_cases ek:l.act.toNat=k
   ·subst ek;rw [aM (by omega)];omega
   ·rw [getD_set_ne ek];exact hk2.2.1
  rename_i e2
  rw [if_neg e2] at hh
  split
  ·rename_i e
   rw [if_pos e] at hh
   have hh:=of_decide_eq_true hh
   refine⟨hk2.1,hk2.2.1,?_⟩
   by_cases ek:l.act.toNat=k
   ·subst ek;rw [aM (by omega)]
    exact List.mem_filter.2 ⟨hk.2.2,decide_eq_true hh⟩
   ·rw [getD_set_ne ek];exact hk2.2.2
  rename_i e3
  rw [if_neg e3] at hh
  simp only [Bool.and_eq_true] at hh
  have e4:=of_decide_eq_true hh.1
  have hh:=of_decide_eq_true hh.2
  rw [if_pos e4]
  refine⟨hk2.1,hk2.2.1,?_⟩
  by_cases ek:l.act.toNat=k
  ·subst ek;rw [aM (by omega)]
   exact List.mem_filter.2 ⟨hk.2.2,decide_eq_true hh⟩
  ·rw [getD_set_ne ek];exact hk2.2.2
 ·exact hin
theorem nO {p:Proj} {l:Lit} (h:dI p l=true):aL p=true∧bJ p l.act=true∧ -1≤l.val∧l.val≤61∧(l.kind=1∨l.kind=2∨l.kind=3∨l.kind=4):=by
 simp only [dI,Bool.and_eq_true] at h
 obtain⟨⟨h1,h2⟩,h3⟩:=h
 refine⟨h1,h2,?_⟩
 split at h3
 ·rename_i e;simp only [within_iff] at h3;omega
 ·split at h3
  ·rename_i e
   obtain⟨h4,h5⟩:=fC h2
   rw [iB h5] at h3
   simp only [within_iff] at h3
   have:=jH h1 h5
   omega
  ·cases h3
theorem GU {p:Proj} {l:Lit} (h:dI p l=true):GR l:=by
 have:=nO h;unfold GR;omega
theorem OL {p:Proj} {l:Lit} (h:dI p l=true):GR (negate l)∧(negate l).act=l.act:=by
 obtain⟨_,_,h1,h2,h3⟩:=nO h
 unfold negate GR
 rw [if_pos (within_iff.2 (by omega))]
 rcases h3 with e|e|e|e<;>rw [e]<;>simp<;>omega
theorem Fe {p:Proj} {s:aJ} {l:Lit} (h:dI p l=true) (hs:bG p s=true):dG (negate l) s= !dG l s:=by
 obtain⟨hp,ha,h1,h2,h3⟩:=nO h
 obtain⟨h4,h5⟩:=fC ha
 obtain⟨_,hl1,hl2⟩:=jI hs
 have w1:within l.act 0 ((s.starts.length:Int) - 1)=true:=within_iff.2 (by omega)
 have w2:within l.act 0 ((s.modes.length:Int) - 1)=true:=within_iff.2 (by omega)
 have w3:within l.val (-100000) 100000=true:=within_iff.2 (by omega)
 clear h h1 h2 ha h4 h5
 obtain⟨k,a,v⟩:=l
 dsimp only at w1 w2 w3 h3
 unfold negate
 rw [if_pos w3]
 rcases h3 with rfl|rfl|rfl|rfl
 ·show dG ⟨2,a,v - 1⟩ s= !dG ⟨1,a,v⟩ s
  unfold dG
  dsimp only
  rw [w1,w2]
  show (decide (s.starts.getD a.toNat 0≤v - 1))= !(decide (s.starts.getD a.toNat 0≥v))
  by_cases hh:s.starts.getD a.toNat 0≥v
  ·rw [decide_eq_true hh,decide_eq_false (by omega)];rfl
  ·rw [decide_eq_false hh,decide_eq_true (by omega)];rfl
 ·show dG ⟨1,a,v+1⟩ s= !dG ⟨2,a,v⟩ s
  unfold dG
  dsimp only
  rw [w1,w2]
  show (decide (s.starts.getD a.toNat 0≥v+1))= !(decide (s.starts.getD a.toNat 0≤v))
  by_cases hh:s.starts.getD a.toNat 0≤v
  ·rw [decide_eq_true hh,decide_eq_false (by omega)];rfl
  ·rw [decide_eq_false hh,decide_eq_true (by omega)];rfl
 ·show dG ⟨4,a,v⟩ s= !dG ⟨3,a,v⟩ s
  unfold dG
  dsimp only
  rw [w1,w2]
  show (decide (s.modes.getD a.toNat 0≠v))= !(decide (s.modes.getD a.toNat 0=v))
  simp
 ·show dG ⟨3,a,v⟩ s= !dG ⟨4,a,v⟩ s
  unfold dG
  dsimp only
  rw [w1,w2]
  show (decide (s.modes.getD a.toNat 0=v))= !(decide (s.modes.getD a.toNat 0≠v))
  simp
theorem nu {p:Proj} {l:List Lit} (h:jw p l=true):∀x∈l,dI p x=true:=by
 intro x hx
 simp only [jw,Bool.and_eq_true] at h
 obtain⟨i,hi,rfl⟩:=List.getElem_of_mem hx
 have:=bX.1 h.1 i hi
 unfold clauseAt at this
 rw [List.getElem?_eq_getElem hi] at this
 simp only [Bool.and_eq_true] at this
 exact this.1
theorem Dn {p:Proj} {s:aJ} {n:Nat} (hs:bG p s=true):∀(l:List Lit) (b:Dom),(∀x∈l,dI p x=true)→dA l s=false→rz b n→mK b s n→rz (against b l) n∧mK (against b l) s n
 |[],b,_,_,hl,hin=>⟨hl,hin⟩
 |x::l,b,hok,hf,hl,hin=>by
  simp only [dA,List.any_cons,Bool.or_eq_false_iff] at hf
  have hx:=hok x (List.mem_cons_self ..)
  exact Dn hs l (restrict b (negate x)) (fun y hy=>hok y (List.mem_cons_of_mem _ hy)) hf.2 (iI hl _)
   (oU hl hin (OL hx).1 (by rw [Fe hx hs,hf.1];rfl))
theorem oV {p:Proj} {s:aJ} (h:bg p s=true):bG p s=true:=by
 simp only [bg,Bool.and_eq_true] at h;exact h.1
theorem TT {p:Proj} {s:aJ} (h:bg p s=true) {k:Nat} (hk:k < p.acts.length):oH p s k≤p.dead:=by
 by_cases hh:oH p s k≤p.dead
 ·exact hh
 ·have:=pW (s:=s) (WT hk) (by
   unfold breaks endRule
   rw [if_neg (by simp),if_pos rfl]
   exact decide_eq_true (by simp only [Int.toNat_natCast];omega))
  rw [h] at this;cases this
theorem jW {p:Proj} (h:aL p=true):rz (bf p) p.acts.length:=by
 unfold bf;rw [if_pos h];exact⟨by simp [qD],by simp [qD],by simp [qD]⟩
theorem jX {α β:Type} {l:List α} {f:α→β} {k:Nat} {d:β} (h:k < l.length):(l.map f).getD k d=f l[k]:=by
 rw [List.getD_eq_getElem?_getD,List.getElem?_map,List.getElem?_eq_getElem h];rfl
theorem QW {p:Proj} {s:aJ} (h:bg p s=true):mK (bf p) s p.acts.length:=by
 have hs:=oV h
 obtain⟨hp,_,_⟩:=jI hs
 intro k hk
 have g:=iP hs hk
 have he:=TT h hk
 have h1:=g.lo;have h2:=g.d1
 unfold oH at he
 unfold bf;rw [if_pos hp]
 unfold qD
 dsimp only
 rw [jX hk,jX hk,jX hk]
 refine⟨h1,by omega,?_⟩
 have ea:p.acts[k]=aZ p k:=by
  have:=iB hk
  rw [List.getElem?_eq_getElem hk] at this
  exact Option.some.inj this
 rw [ea]
 exact QU (by have:=jH hp hk;omega) g.m0 g.m1
theorem Nh {p:Proj} {s:aJ} {r:Rul} {l:List Lit} (h:follows p r l=true) (hs:bg p s=true):dA l s=true:=by
 cases hc:dA l s with
 |true=>rfl
 |false=>
  simp only [follows,Bool.and_eq_true] at h
  have hf:=oV hs
  have:=Dn hf l _ (nu h.1) hc (jW (jI hf).1) (QW hs)
  have:=Ch h.2 hf this.2
  rw [hs] at this;cases this
theorem xZ {y n:Bool} (h:valueOf y n= -1):n=true:=by
 unfold valueOf at h;cases y<;>cases n<;>first|rfl|(simp at h)
theorem Aa (b:Dom) (l:Lit):litValue b l=1∨litValue b l=0∨litValue b l= -1:=by
 have hv:∀y n:Bool,valueOf y n=1∨valueOf y n=0∨valueOf y n= -1:=by decide
 unfold litValue
 split
 ·dsimp only
  split
  ·exact hv _ _
  ·split
   ·exact hv _ _
   ·split
    ·exact hv _ _
    ·split
     ·exact hv _ _
     ·exact .inl rfl
 ·exact .inl rfl
theorem Iy {b:Dom} {s:aJ} {n:Nat} {l:Lit} (hl:rz b n) (hin:mK b s n) (h:litValue b l= -1):dG l s=false:=by
 unfold litValue at h
 split at h
 ·rename_i hd
  simp only [eF,Bool.and_eq_true,decide_eq_true_eq] at hd
  have h1:=hl.lo
  have hk:=hin l.act.toNat (by omega)
  dsimp only at h
  unfold dG
  split at h
  ·rename_i e
   rw [if_pos e]
   have:=of_decide_eq_true (xZ h)
   rw [decide_eq_false (by omega),Bool.and_false]
  rename_i e1
  rw [if_neg e1]
  split at h
  ·rename_i e
   rw [if_pos e]
   have:=of_decide_eq_true (xZ h)
   rw [decide_eq_false (by omega),Bool.and_false]
  rename_i e2
  rw [if_neg e2]
  split at h
  ·rename_i e
   rw [if_pos e]
   have:=xZ h
   simp only [Bool.not_eq_true', ← Bool.not_eq_true,List.contains_iff_mem] at this
   rw [decide_eq_false (fun hh=>this (by rw [← hh];exact hk.2.2)),Bool.and_false]
  rename_i e3
  rw [if_neg e3]
  split at h
  ·rename_i e
   have:=of_decide_eq_true (xZ h)
   have hm:=hk.2.2
   rw [this] at hm
   rw [decide_eq_false (p:=s.modes.getD l.act.toNat 0≠l.val) (by simpa using hm)]
   simp
  ·simp at h
 ·simp at h
theorem oW {b:Dom}:∀(l:List Lit) (n:Int) (x:Lit),0≤n→(aN b l n x).1 < 0→n=0∧∀y∈l,litValue b y= -1
 |[],n,x,hn,h=>by
  rw [aN] at h
  split at h
  ·rename_i e;exact⟨e,by simp⟩
  ·split at h<;>simp at h
 |y::l,n,x,hn,h=>by
  rw [aN] at h
  split at h
  ·simp at h
  ·split at h
   ·have:=(oW l (n+1) y (by omega) h).1;omega
   ·rename_i h1 h0
    obtain⟨h2,h3⟩:=oW l n x hn h
    refine⟨h2,fun z hz=>?_⟩
    rcases List.mem_cons.1 hz with rfl|hz
    ·rcases Aa b z with e|e|e
     ·exact (h1 e).elim
     ·exact (h0 e).elim
     ·exact e
    ·exact h3 z hz
theorem rA {b:Dom} {s:aJ} {m:Nat} (hl:rz b m) (hin:mK b s m):∀(l:List Lit) (n:Int) (x:Lit),0≤n→(aN b l n x).1=0→
  (n=0→(aN b l n x).2≠bU→(aN b l n x).2∈l∧(dA l s=true→dG (aN b l n x).2 s=true))∧(n=1→(aN b l n x).2≠bU→(aN b l n x).2=x∧dA l s=false)∧(2≤n→(aN b l n x).2=bU)
 |[],n,x,hn,h=>by
  rw [aN] at h ⊢
  split
  ·rename_i e;rw [if_pos e] at h;simp at h
  ·rename_i e0
   split
   ·rename_i e1;exact⟨fun e=>(e0 e).elim,fun _ _=>⟨rfl,rfl⟩,fun e=>by omega⟩
   ·rename_i e1;exact⟨fun e=>(e0 e).elim,fun e=>(e1 e).elim,fun _=>rfl⟩
 |y::l,n,x,hn,h=>by
  rw [aN] at h ⊢
  split
  ·rename_i h1;rw [if_pos h1] at h;simp at h
  ·rename_i h1
   rw [if_neg h1] at h
   split
   ·rename_i h0
    rw [if_pos h0] at h
    obtain⟨a1,a2,a3⟩:=rA hl hin l (n+1) y (by omega) h
    refine⟨fun e hz=>?_,fun e hz=>?_,fun e=>a3 (by omega)⟩
    ·obtain⟨k1,k2⟩:=a2 (by omega) hz
     rw [k1]
     refine⟨List.mem_cons_self ..,fun hc=>?_⟩
     simp only [dA,List.any_cons,Bool.or_eq_true] at hc
     unfold dA at k2
     rw [k2] at hc
     simpa using hc
    ·exact (hz (a3 (by omega))).elim
   ·rename_i h0
    rw [if_neg h0] at h
    have hy:dG y s=false:=by
     refine Iy hl hin ?_
     rcases Aa b y with e|e|e
     ·exact (h1 e).elim
     ·exact (h0 e).elim
     ·exact e
    obtain⟨a1,a2,a3⟩:=rA hl hin l n x hn h
    refine⟨fun e hz=>?_,fun e hz=>?_,a3⟩
    ·obtain⟨k1,k2⟩:=a1 e hz
     refine⟨List.mem_cons_of_mem _ k1,fun hc=>k2 ?_⟩
     simp only [dA,List.any_cons,hy,Bool.false_or] at hc
     exact hc
    ·obtain⟨k1,k2⟩:=a2 e hz
     refine⟨k1,?_⟩
     simp only [dA,List.any_cons,hy,Bool.false_or]
     exact k2
theorem TU {b:Dom} {l:List Lit} (h:bites b l=true):(status b l).1 < 0∨((status b l).1=0∧(status b l).2≠bU):=by
 simp only [bites,Bool.or_eq_true,Bool.and_eq_true,Bool.not_eq_true',decide_eq_true_eq] at h
 rcases h with h|⟨h1,h2⟩
 ·exact .inl h
 ·exact .inr ⟨h1,fun e=>by rw [iN.2 e] at h2;cases h2⟩
theorem TV {b:Dom} {s:aJ} {n:Nat} (hl:rz b n) (hin:mK b s n):aP b=false:=by
 cases h:aP b with
 |false=>rfl
 |true=>
  exfalso
  obtain⟨h1,h2,h3⟩:=hl
  simp only [aP,Bool.or_eq_true,List.any_eq_true,List.mem_range] at h
  rcases h with⟨i,hi,hc⟩|⟨m,hm,hl⟩
  ·have:=hin i (by omega)
   unfold nE at hc
   rw [List.getElem?_eq_getElem (by omega:i < b.lo.length),List.getElem?_eq_getElem (by omega:i < b.hi.length)] at hc
   simp only [decide_eq_true_eq] at hc
   rw [List.getD_eq_getElem?_getD,List.getElem?_eq_getElem (by omega:i < b.lo.length),List.getD_eq_getElem?_getD (l:=b.hi),List.getElem?_eq_getElem (by omega:i < b.hi.length)] at this
   simp only [Option.getD_some] at this
   omega
  ·obtain⟨i,hi,rfl⟩:=List.getElem_of_mem hm
   have:=(hin i (by omega)).2.2
   rw [List.getD_eq_getElem?_getD,List.getElem?_eq_getElem hi] at this
   simp only [decide_eq_true_eq] at hl
   simp only [Option.getD_some] at this
   have:=List.length_pos_of_mem this
   omega
def qN (s:aJ) (list:List (List Lit)):Prop:=∀l∈list,(∀x∈l,GR x)∧dA l s=true
theorem Iz {s:aJ} {m:Nat} {list:List (List Lit)} (hc:qN s list):∀(n:Nat) (b:Dom),rz b m→mK b s m→(tq list n b).2=false∧rz (tq list n b).1 m∧mK (tq list n b).1 s m
 |0,b,hl,hin=>⟨rfl,hl,hin⟩
 |n+1,b,hl,hin=>by
  rw [tq]
  unfold ku
  rw [TV hl hin,if_neg (by simp)]
  cases hf:list.find? (bites b) with
  |none=>exact⟨rfl,hl,hin⟩
  |some l=>
   have hm:=List.mem_of_find?_eq_some hf
   have hb:bites b l=true:=by have:=List.find?_some hf;simpa using this
   obtain⟨h1,h2⟩:=hc l hm
   dsimp only
   by_cases hneg:(status b l).1 < 0
   ·exfalso
    have:=(oW l 0 bU (by omega) hneg).2
    have hno:dA l s=false:=by
     simp only [dA,List.any_eq_false]
     intro y hy
     rw [Iy hl hin (this y hy)];simp
    rw [h2] at hno;cases hno
   ·rw [if_neg hneg]
    dsimp only
    have hb:=(TU hb).resolve_left hneg
    obtain⟨k1,k2⟩:=(rA hl hin l 0 bU (by omega) hb.1).1 rfl hb.2
    exact Iz hc n _ (iI hl _) (oU hl hin (h1 _ k1) (k2 h2))
theorem LZ {p:Proj} {s:aJ} {m:Nat} {list:List (List Lit)} {b:Dom} (hc:qN s list) (hl:rz b m) (hin:mK b s m):(jy p list b).2=false∧rz (jy p list b).1 m∧mK (jy p list b).1 s m:=by
 unfold jy
 split
 ·exact Iz hc _ _ hl hin
 ·exact⟨rfl,hl,hin⟩
theorem Ji {p:Proj} {s:aJ} {ahead:List Lin} {l:Lin} (h:aD p ahead l=0) (hs:bg p s=true) (hc:qN s (ahead.map Lin.clause)):dA l.clause s=true∧jw p l.clause=true:=by
 unfold aD at h
 split at h
 ·rename_i hk
  have hok:jw p l.clause=true:=by have:=hk.2.1;simp only [KD,Bool.and_eq_true] at this;exact this.1
  refine⟨?_,hok⟩
  split at h
  ·split at h
   ·rename_i hf;exact Nh hf hs
   ·cases h
  ·split at h
   ·rename_i hu
    cases hcl:dA l.clause s with
    |true=>rfl
    |false=>
     have hf:=oV hs
     have h1:=Dn hf l.clause _ (nu hok) hcl (jW (jI hf).1) (QW hs)
     have:=(LZ (p:=p) hc h1.1 h1.2).1
     unfold fP at hu
     rw [hu] at this;cases this
   ·cases h
 ·cases h
theorem Fg {p:Proj} {all:List Lin}:∀(l:List Lin) (k:Nat),(jh p all l k).1=0→∀j,j < l.length→aD p (all.take (k+j)) (l.getD j ⟨0,⟨0,0,0,0⟩,[]⟩)=0
 |[],k,h,j,hj=>by simp at hj
 |x::l,k,h,j,hj=>by
  rw [jh] at h
  split at h
  ·rename_i h1
   cases j with
   |zero=>simpa using h1
   |succ j=>
    have:=Fg l (k+1) h j (by simpa using hj)
    rw [show k+1+j=k+(j+1) by omega] at this
    simpa using this
  ·rename_i h1;exact (h1 h).elim
theorem Ab {p:Proj} {lines:List Lin} (h:jT p lines=true) {j:Nat} (hj:j < lines.length):aD p (lines.take j) lines[j]=0:=by
 have:=Fg lines 0 (of_decide_eq_true h) j hj
 rw [Nat.zero_add,List.getD_eq_getElem?_getD,List.getElem?_eq_getElem hj] at this
 exact this
theorem yN {p:Proj} {s:aJ} {lines:List Lin} (h:jT p lines=true) (hs:bg p s=true):∀n,n≤lines.length→qN s ((lines.take n).map Lin.clause)
 |0,_=>by intro l hl;simp at hl
 |n+1,hn=>by
  have ih:=yN h hs n (by omega)
  have hc:=Ab h (show n < lines.length by omega)
  obtain⟨h1,h2⟩:=Ji hc hs ih
  intro l hl
  rw [List.take_succ_eq_append_getElem (by omega:n < lines.length),List.map_append,List.mem_append] at hl
  rcases hl with hl|hl
  ·exact ih l hl
  ·simp only [List.map_cons,List.map_nil,List.mem_singleton] at hl
   subst hl
   exact⟨fun x hx=>GU (nu h2 x hx),h1⟩
theorem Ni {p:Proj} {s:aJ} {lines:List Lin} (h:jT p lines=true) (hs:bg p s=true):qN s (lines.map Lin.clause):=by
 have:=yN h hs lines.length (Nat.le_refl _)
 rwa [List.take_length] at this
theorem GV {p:Proj} {s:aJ} {lines:List Lin} (h:nI p lines=true):bg p s=false:=by
 cases hs:bg p s with
 |false=>rfl
 |true=>
  simp only [nI,Bool.and_eq_true,List.any_eq_true] at h
  obtain⟨h1,l,hl,h2⟩:=h
  have:=(Ni h1 hs l.clause (List.mem_map.2 ⟨l,hl,rfl⟩)).2
  have h2:=of_decide_eq_true h2
  have hn:l.clause= []:=List.eq_nil_of_length_eq_zero (by omega)
  rw [hn] at this
  cases this
def bA (a b:Dom) (n:Nat):Prop:=∀k,k < n→b.lo.getD k 0≤a.lo.getD k 0∧a.hi.getD k 0≤b.hi.getD k 0∧∀m∈a.modes.getD k [],m∈b.modes.getD k []
theorem bA.refl (a:Dom) (n:Nat):bA a a n:=fun _ _=>⟨Int.le_refl _,Int.le_refl _,fun _ h=>h⟩
theorem bA.trans {a b c:Dom} {n:Nat} (h:bA a b n) (h':bA b c n):bA a c n:=fun k hk=>by
 obtain⟨h1,h2,h3⟩:=h k hk
 obtain⟨h4,h5,h6⟩:=h' k hk
 exact⟨by omega,by omega,fun m hm=>h6 m (h3 m hm)⟩
theorem Ci:∀(l:List Int) (a:Int),l.foldl min a=a∨l.foldl min a∈l
 |[],a=>.inl rfl
 |y::l,a=>by
  simp only [List.foldl_cons]
  rcases Ci l (min a y) with h|h
  ·rw [h]
   by_cases hh:a≤y
   ·rw [Int.min_eq_left hh];exact .inl rfl
   ·rw [Int.min_eq_right (by omega)];exact .inr (List.mem_cons_self ..)
  ·exact .inr (List.mem_cons_of_mem _ h)
theorem OM {l:List Int} (h:l≠[]):least l∈l:=by
 cases l with
 |nil=>exact (h rfl).elim
 |cons y l=>
  rcases Ci l y with e|e
  ·show l.foldl min y∈_;rw [e];exact List.mem_cons_self ..
  ·exact List.mem_cons_of_mem _ e
theorem GX {l l':List Int} (hn:l'≠[]) (h:∀x∈l',∃y∈l,y≤x):least l≤least l':=by
 obtain⟨y,hy,hle⟩:=h _ (OM hn)
 exact Int.le_trans (AQ hy) hle
theorem kK {ms ms':List Int} (h:∀m∈ms',m∈ms):∀(l:List Mode) (k:Nat) (m:Mode),m∈bT ms' l k→m∈bT ms l k
 |[],k,m,hm=>hm
 |y::l,k,m,hm=>by
  rw [bT] at hm ⊢
  split at hm
  ·rename_i hc
   rw [if_pos (by simp at hc ⊢;exact h _ hc)]
   rcases List.mem_cons.1 hm with rfl|hm
   ·exact List.mem_cons_self ..
   ·exact List.mem_cons_of_mem _ (kK h l (k+1) m hm)
  ·split
   ·exact List.mem_cons_of_mem _ (kK h l (k+1) m hm)
   ·exact kK h l (k+1) m hm
theorem ny {ms:List Int}:∀(l:List Mode) (k:Nat) (m:Mode),m∈bT ms l k→m∈l
 |[],k,m,hm=>hm
 |y::l,k,m,hm=>by
  rw [bT] at hm
  split at hm
  ·rcases List.mem_cons.1 hm with rfl|hm
   ·exact List.mem_cons_self ..
   ·exact List.mem_cons_of_mem _ (ny l (k+1) m hm)
  ·exact List.mem_cons_of_mem _ (ny l (k+1) m hm)
structure tY (a:aC) (ms ms':List Int):Prop where
 ne:∃m∈ms',0≤m∧m.toNat < a.modes.length
 sub:∀m∈ms',m∈ms
theorem tY.chosen {a:aC} {ms ms':List Int} (h:tY a ms ms'):chosen a ms'≠[]:=by
 obtain⟨m,h1,h2,h3⟩:=h.ne
 have:=tV (ms:=ms') (m:=a.modes[m.toNat]) a.modes 0 m.toNat (List.getElem?_eq_getElem h3) (by rw [Nat.zero_add,Int.toNat_of_nonneg h2];exact h1)
 intro e
 unfold Abs.chosen at e
 rw [e] at this;cases this
theorem qO {a:aC} {ms ms':List Int} (h:tY a ms ms'):vF a ms≤vF a ms':=by
 refine GX (by simpa using h.chosen) fun x hx=>?_
 obtain⟨m,hm,rfl⟩:=List.mem_map.1 hx
 exact⟨_,List.mem_map.2 ⟨m,kK h.sub _ _ m hm,rfl⟩,Int.le_refl _⟩
theorem Fh {a:aC} {ms ms':List Int} {f:Mode→Option Int} (h:tY a ms ms') (hf:∀m∈a.modes,(f m).isSome=true):leastOf (chosen a ms) f≤leastOf (chosen a ms') f:=by
 have h1:(chosen a ms).all (fun m=>(f m).isSome)=true:=List.all_eq_true.2 fun m hm=>hf m (ny _ _ m hm)
 have h2:(chosen a ms').all (fun m=>(f m).isSome)=true:=List.all_eq_true.2 fun m hm=>hf m (ny _ _ m hm)
 unfold leastOf
 rw [if_pos h1,if_pos h2]
 refine GX (by simpa using h.chosen) fun x hx=>?_
 obtain⟨m,hm,rfl⟩:=List.mem_map.1 hx
 exact⟨_,List.mem_map.2 ⟨m,kK h.sub _ _ m hm,rfl⟩,Int.le_refl _⟩
theorem Ac {l:List Int} {n:Nat} {r:Int} (h:dX l n=true) (hr:0≤r∧r.toNat < n):(dY l r).isSome=true:=by
 simp only [dX,Bool.and_eq_true,decide_eq_true_eq] at h
 unfold dY
 rw [if_pos (within_iff.2 (by omega))];rfl
theorem yc {m:Mode} {r s:Int} (h:kW m r s=true):dX m.use r=true∧dX m.con s=true:=by
 simp only [kW,Bool.and_eq_true] at h;exact⟨h.1.2,h.2⟩
theorem Ad {p:Proj} (hp:aL p=true) {k:Nat} (hk:k < p.acts.length) {r:Int} (hr:0≤r∧r.toNat < p.bB.length) {ms ms':List Int} (h:tY (aZ p k) ms ms'):je (aZ p k) ms r≤je (aZ p k) ms' r:=
 Fh h fun m hm=>Ac (yc (qM hp hk hm)).1 hr
theorem TW {p:Proj} (hp:aL p=true) {k:Nat} (hk:k < p.acts.length) {r:Int} (hr:0≤r∧r.toNat < p.aW.length) {ms ms':List Int} (h:tY (aZ p k) ms ms'):xC (aZ p k) ms r≤xC (aZ p k) ms' r:=
 Fh h fun m hm=>Ac (yc (qM hp hk hm)).2 hr
theorem XQ {p:Proj} (hp:aL p=true) {k:Nat} (hk:k < p.acts.length) (r:Int) (ms:List Int):0≤je (aZ p k) ms r:=by
 unfold je leastOf
 split
 ·by_cases hn:(chosen (aZ p k) ms).map (fun m=>(dY m.use r).getD 0)= []
  ·rw [hn];exact Int.le_refl _
  ·obtain⟨m,hm,e⟩:=List.mem_map.1 (OM hn)
   rw [← e]
   unfold dY
   split
   ·exact (uU (yc (qM hp hk (ny _ _ m hm))).1 _).1
   ·exact Int.le_refl _
 ·exact Int.le_refl _
theorem iA {p:Proj} {a b:Dom} (hf:ak p a=true) (he:aP a=false) (hs:bA a b p.acts.length) {k:Nat} (hk:k < p.acts.length):tY (aZ p k) (b.modes.getD k []) (a.modes.getD k [])∧a.lo.getD k 0≤a.hi.getD k 0:=by
 obtain⟨hp,h1,h2,h3⟩:=bq hf
 have hb:=lH hf hk
 simp only [aP,Bool.or_eq_false_iff,List.any_eq_false,List.mem_range] at he
 have hc:=he.1 k (by omega)
 unfold nE at hc
 rw [List.getElem?_eq_getElem (by omega:k < a.lo.length),List.getElem?_eq_getElem (by omega:k < a.hi.length)] at hc
 simp only [decide_eq_true_eq] at hc
 have hm:=he.2 a.modes[k] (List.getElem_mem (by omega))
 have e3:a.modes.getD k []=a.modes[k]'(by omega):=by rw [List.getD_eq_getElem?_getD,List.getElem?_eq_getElem (by omega)];rfl
 refine⟨⟨?_,(hs k hk).2.2⟩,?_⟩
 ·cases hx:a.modes.getD k [] with
  |nil=>rw [e3] at hx;rw [hx] at hm;simp at hm
  |cons m l=>exact⟨m,List.mem_cons_self ..,hb.ms m (by rw [hx];exact List.mem_cons_self ..)⟩
 ·rw [List.getD_eq_getElem?_getD,List.getElem?_eq_getElem (by omega:k < a.lo.length),List.getD_eq_getElem?_getD,List.getElem?_eq_getElem (by omega:k < a.hi.length)]
  simp only [Option.getD_some];omega
theorem VF {p:Proj} {a b:Dom} {r:Rul} (hfa:ak p a=true) (hfb:ak p b=true) (he:aP a=false) (hs:bA a b p.acts.length) (hr:jd p r=true) (h:fails p b r=true):fails p a r=true:=by
 obtain⟨hp,_,_,_⟩:=bq hfa
 simp only [jd,Bool.and_eq_true] at hr
 have hr:=hr.2
 unfold fails at h ⊢
 by_cases e1:r.kind=1
 ·rw [if_pos e1] at hr h ⊢
  simp only [Bool.and_eq_true,within_iff,decide_eq_true_eq] at hr
  have hk:r.a.toNat < p.links.length:=by omega
  have el:iF p r.a=p.links[r.a.toNat]:=by unfold iF;rw [List.getD_eq_getElem?_getD,List.getElem?_eq_getElem hk];rfl
  obtain⟨hs1,hs2⟩:=Iw hp (y:=iF p r.a) (by rw [el];exact List.getElem_mem hk)
  generalize iF p r.a=y at*
  have i1:=hs _ (fC hs1).2
  have i2:=hs _ (fC hs2).2
  have hd:=qO (iA hfa he hs (fC hs1).2).1
  unfold wh at h ⊢
  have h:=of_decide_eq_true h
  refine decide_eq_true ?_
  unfold mV at h ⊢
  split at h
  ·rename_i hfe;rw [if_pos hfe];omega
  ·rename_i hfe;rw [if_neg hfe];omega
 rw [if_neg e1] at hr h ⊢
 by_cases e2:r.kind=2
 ·rw [if_pos e2] at hr h ⊢
  simp only [Bool.and_eq_true,decide_eq_true_eq] at hr
  obtain⟨h0,hk⟩:=fC hr.1.1
  have i1:=hs _ hk
  have hd:=qO (iA hfa he hs hk).1
  have h:=of_decide_eq_true h
  unfold mV at h
  exact decide_eq_true (by unfold mV;omega)
 rw [if_neg e2] at hr h ⊢
 by_cases e3:r.kind=3
 ·rw [if_pos e3] at hr h ⊢
  simp only [Bool.and_eq_true,decide_eq_true_eq,eY,within_iff] at hr
  have hk:0≤r.a∧r.a.toNat < p.bB.length:=by have:=hr.1.1;simp only [fT,within_iff] at this;omega
  have h:=of_decide_eq_true h
  refine decide_eq_true (Int.lt_of_lt_of_le h ?_)
  unfold Ju
  refine sumTo_le fun k hkn=>?_
  have i1:=hs k hkn
  have hm:=(iA hfa he hs hkn).1
  have hd:=qO hm
  have hu:=Ad hp hkn hk hm
  have hn:=XQ hp hkn r.a (a.modes.getD k [])
  unfold zx mV
  split
  ·rename_i hc
   rw [if_pos (by omega)];exact hu
  ·split
   ·exact hn
   ·exact Int.le_refl _
 rw [if_neg e3] at hr h ⊢
 by_cases e4:r.kind=4
 ·rw [if_pos e4] at hr h ⊢
  simp only [Bool.and_eq_true,decide_eq_true_eq,eY,within_iff] at hr
  have h:=of_decide_eq_true h
  refine decide_eq_true (Int.lt_of_lt_of_le h ?_)
  unfold rY
  refine sumTo_le fun k hkn=>?_
  have i1:=hs k hkn
  obtain⟨hm,hlh⟩:=iA hfa he hs hkn
  have ga:=lH hfa hkn
  have gb:=lH hfb hkn
  unfold qY
  refine GX ?_ fun x hx=>?_
  ·obtain⟨m,h1,_⟩:=hm.ne
   intro e
   have:kI p a k r.a r.b r.c m∈(a.modes.getD k []).map (kI p a k r.a r.b r.c):=List.mem_map.2 ⟨m,h1,rfl⟩
   rw [e] at this;cases this
  ·obtain⟨m,h1,rfl⟩:=List.mem_map.1 hx
   refine⟨_,List.mem_map.2 ⟨m,hm.sub m h1,rfl⟩,?_⟩
   obtain⟨m0,m1⟩:=ga.ms m h1
   have hmm:(aZ p k).modes.getD m.toNat ⟨0,[],[]⟩∈(aZ p k).modes:=by
    rw [List.getD_eq_getElem?_getD,List.getElem?_eq_getElem m1];exact List.getElem_mem m1
   have hok:=qM hp hkn hmm
   have hu:=(uU (yc hok).1 r.a.toNat).1
   simp only [kW,Bool.and_eq_true,within_iff] at hok
   have k1:=ga.l1;have k2:=ga.l2;have k3:=ga.h1;have k4:=ga.h2
   have j1:=gb.l1;have j2:=gb.l2;have j3:=gb.h1;have j4:=gb.h2
   unfold kI
   dsimp only
   generalize (aZ p k).modes.getD m.toNat ⟨0,[],[]⟩=mo at*
   have d1:=hok.1.1.1;have d2:=hok.1.1.2
   rw [jJ ⟨k1,k2⟩ ⟨d1,by omega⟩ ⟨by omega,by omega⟩ ⟨by omega,by omega⟩,jJ ⟨k3,k4⟩ ⟨d1,by omega⟩ ⟨by omega,by omega⟩ ⟨by omega,by omega⟩,
    jJ ⟨j1,j2⟩ ⟨d1,by omega⟩ ⟨by omega,by omega⟩ ⟨by omega,by omega⟩,jJ ⟨j3,j4⟩ ⟨d1,by omega⟩ ⟨by omega,by omega⟩ ⟨by omega,by omega⟩]
   refine Int.mul_le_mul_of_nonneg_right ?_ hu
   omega
 rw [if_neg e4] at hr h ⊢
 by_cases e5:r.kind=5
 ·rw [if_pos e5] at hr h ⊢
  simp only [Bool.and_eq_true,decide_eq_true_eq] at hr
  obtain⟨⟨⟨hm,hb⟩,hc⟩,hlt⟩:=hr
  have hk:0≤r.a∧r.a.toNat < p.bB.length:=by have:=hm;simp only [iE,fT,Bool.and_eq_true,within_iff] at this;omega
  obtain⟨b0,hb⟩:=fC hb
  obtain⟨c0,hc⟩:=fC hc
  have i1:=hs _ hb
  have i2:=hs _ hc
  have s1:=(iA hfa he hs hb).1
  have s2:=(iA hfa he hs hc).1
  have u1:=Ad hp hb hk s1
  have u2:=Ad hp hc hk s2
  have d1:=qO s1
  have d2:=qO s2
  unfold jam at h ⊢
  simp only [Bool.and_eq_true] at h ⊢
  obtain⟨⟨⟨q1,q2⟩,q3⟩,q4⟩:=h
  replace q1:=of_decide_eq_true q1
  replace q2:=of_decide_eq_true q2
  replace q3:=of_decide_eq_true q3
  replace q4:=of_decide_eq_true q4
  unfold nG mV at q3 q4
  exact⟨⟨⟨decide_eq_true (by omega),decide_eq_true (by omega)⟩,decide_eq_true (by unfold nG mV;omega)⟩,decide_eq_true (by unfold nG mV;omega)⟩
 rw [if_neg e5] at hr h ⊢
 by_cases e6:r.kind=6
 ·rw [if_pos e6] at hr
  simp only [Bool.and_eq_true,decide_eq_true_eq] at hr
  have hk:0≤r.a∧r.a.toNat < p.aW.length:=by have:=hr.1.1;simp only [jS,within_iff] at this;omega
  simp only [sZ,decide_eq_true_eq] at h ⊢
  refine Int.lt_of_lt_of_le h (sumTo_le fun k hkn=>?_)
  exact TW hp hkn hk (iA hfa he hs hkn).1
 ·rw [if_neg e6] at hr;cases hr
theorem VG {p:Proj} {a b:Dom} (hfa:ak p a=true) (hfb:ak p b=true) (hs:bA a b p.acts.length) (h:aP b=true):aP a=true:=by
 cases he:aP a with
 |true=>rfl
 |false=>
  exfalso
  obtain⟨hp,h1,h2,h3⟩:=bq hfb
  simp only [aP,Bool.or_eq_true,List.any_eq_true,List.mem_range] at h
  rcases h with⟨i,hi,hc⟩|⟨m,hm,hl⟩
  ·have:=hs i (by omega)
   have h5:=(iA hfa he hs (show i < p.acts.length by omega)).2
   unfold nE at hc
   rw [List.getElem?_eq_getElem (by omega:i < b.lo.length),List.getElem?_eq_getElem (by omega:i < b.hi.length)] at hc
   have hc:=of_decide_eq_true hc
   rw [List.getD_eq_getElem?_getD (l:=b.lo),List.getElem?_eq_getElem (by omega:i < b.lo.length),List.getD_eq_getElem?_getD (l:=b.hi),List.getElem?_eq_getElem (by omega:i < b.hi.length)] at this
   simp only [Option.getD_some] at this
   omega
  ·obtain⟨i,hi,rfl⟩:=List.getElem_of_mem hm
   obtain⟨m,g1,g2⟩:=(iA hfa he hs (show i < p.acts.length by omega)).1.ne
   have:=(hs i (by omega)).2.2 m g1
   rw [List.getD_eq_getElem?_getD,List.getElem?_eq_getElem hi] at this
   simp only [decide_eq_true_eq] at hl
   simp only [Option.getD_some] at this
   have:=List.length_pos_of_mem this
   omega
theorem rW {p:Proj} {a b:Dom} {r:Rul} (hfa:ak p a=true) (hs:bA a b p.acts.length) (h:refutes p b r=true):refutes p a r=true:=by
 simp only [refutes,Bool.and_eq_true,Bool.or_eq_true] at h ⊢
 obtain⟨hfb,h⟩:=h
 refine⟨hfa,?_⟩
 cases he:aP a with
 |true=>exact .inl rfl
 |false=>
  rcases h with h|⟨hr,h⟩
  ·rw [VG hfa hfb hs h] at he;cases he
  ·exact .inr ⟨hr,VF hfa hfb he hs hr h⟩
theorem mI (b:Dom) (l:Lit) {n:Nat} (hl:rz b n):bA (restrict b l) b n:=by
 obtain⟨h1,h2,h3⟩:=hl
 intro k hk
 unfold restrict
 split
 ·rename_i hd
  simp only [eF,Bool.and_eq_true,decide_eq_true_eq] at hd
  dsimp only
  split
  ·refine⟨?_,Int.le_refl _,fun _ h=>h⟩
   by_cases ek:l.act.toNat=k
   ·subst ek;rw [aM (by omega)];omega
   ·rw [getD_set_ne ek];exact Int.le_refl _
  split
  ·refine⟨Int.le_refl _,?_,fun _ h=>h⟩
   by_cases ek:l.act.toNat=k
   ·subst ek;rw [aM (by omega)];omega
   ·rw [getD_set_ne ek];exact Int.le_refl _
  split
  ·refine⟨Int.le_refl _,Int.le_refl _,fun m hm=>?_⟩
   by_cases ek:l.act.toNat=k
   ·subst ek;rw [aM (by omega)] at hm;exact (List.mem_filter.1 hm).1
   ·rw [getD_set_ne ek] at hm;exact hm
  split
  ·refine⟨Int.le_refl _,Int.le_refl _,fun m hm=>?_⟩
   by_cases ek:l.act.toNat=k
   ·subst ek;rw [aM (by omega)] at hm;exact (List.mem_filter.1 hm).1
   ·rw [getD_set_ne ek] at hm;exact hm
  ·exact⟨Int.le_refl _,Int.le_refl _,fun _ h=>h⟩
 ·exact⟨Int.le_refl _,Int.le_refl _,fun _ h=>h⟩
theorem oZ {a b c:Dom} {l:Lit} {n:Nat} (hb:rz b n) (hc:rz c n) (h1:bA a b n) (h2:bA a (restrict c l) n):bA a (restrict b l) n:=by
 obtain⟨b1,b2,b3⟩:=hb
 obtain⟨c1,c2,c3⟩:=hc
 intro k hk
 have k1:=h1 k hk
 have k2:=h2 k hk
 have hdd:eF b l.act=eF c l.act:=by unfold eF;rw [b1,b2,b3,c1,c2,c3]
 unfold restrict at k2 ⊢
 rw [hdd]
 split
 ·rename_i hd
  rw [if_pos hd] at k2
  have hd':=hd
  simp only [eF,Bool.and_eq_true,decide_eq_true_eq] at hd'
  dsimp only at k2 ⊢
  by_cases ek:l.act.toNat=k
  ·subst ek
   split
   ·rename_i e;rw [if_pos e] at k2;dsimp only at k2 ⊢
    rw [aM (by omega)] at k2 ⊢
    exact⟨by omega,k1.2⟩
   rename_i e1;rw [if_neg e1] at k2
   split
   ·rename_i e;rw [if_pos e] at k2;dsimp only at k2 ⊢
    rw [aM (by omega)] at k2 ⊢
    exact⟨k1.1,by omega,k1.2.2⟩
   rename_i e2;rw [if_neg e2] at k2
   split
   ·rename_i e;rw [if_pos e] at k2;dsimp only at k2 ⊢
    rw [aM (by omega)] at k2 ⊢
    exact⟨k1.1,k1.2.1,fun m hm=>List.mem_filter.2 ⟨k1.2.2 m hm,(List.mem_filter.1 (k2.2.2 m hm)).2⟩⟩
   rename_i e3;rw [if_neg e3] at k2
   split
   ·rename_i e;rw [if_pos e] at k2;dsimp only at k2 ⊢
    rw [aM (by omega)] at k2 ⊢
    exact⟨k1.1,k1.2.1,fun m hm=>List.mem_filter.2 ⟨k1.2.2 m hm,(List.mem_filter.1 (k2.2.2 m hm)).2⟩⟩
   ·exact k1
  ·split
   ·dsimp only;rw [getD_set_ne ek];exact k1
   split
   ·dsimp only;rw [getD_set_ne ek];exact k1
   split
   ·dsimp only;rw [getD_set_ne ek];exact k1
   split
   ·dsimp only;rw [getD_set_ne ek];exact k1
   ·exact k1
 ·exact k1
theorem qP {n:Nat}:∀(l:List Lit) (b:Dom),rz b n→rz (against b l) n∧bA (against b l) b n
 |[],b,h=>⟨h,bA.refl _ _⟩
 |x::l,b,h=>by
  obtain⟨h1,h2⟩:=qP l (restrict b (negate x)) (iI h _)
  exact⟨h1,h2.trans (mI b _ h)⟩
theorem rX {n:Nat}:∀(l:List Lit) (b:Dom),rz b n→∀x∈l,bA (against b l) (restrict b (negate x)) n
 |[],b,h,x,hx=>by cases hx
 |y::l,b,h,x,hx=>by
  rcases List.mem_cons.1 hx with rfl|hx
  ·exact (qP l _ (iI h _)).2
  ·have h1:=rX l (restrict b (negate y)) (iI h _) x hx
   have h2:=(qP l (restrict b (negate y)) (iI h _)).2
   exact oZ h (iI h _) (h2.trans (mI b _ h)) h1
end Go.Proofs.YtmenphiahgkjkaaGreatDoor.Abs
