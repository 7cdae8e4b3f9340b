/- Rules that refute a domain are broken by each of its schedules; clauses that follow hold. Plain Lean. -/
import Derived.Test.YtefgamefajmdkaaGreatPlain
set_option linter.all false
namespace Go.Proofs.YtefgamefajmdkaaGreat.Abs
def qy (b:Dom) (s:aJ) (n:Nat):Prop:=∀k,k < n→b.lo.getD k 0≤s.starts.getD k 0∧s.starts.getD k 0≤b.hi.getD k 0∧s.modes.getD k 0∈b.modes.getD k []
def bU (l:Lit) (s:aJ):Bool:=
 within l.act 0 ((s.starts.length:Int) - 1)&&within l.act 0 ((s.modes.length:Int) - 1)&&
  (if l.kind=1 then decide (s.starts.getD l.act.toNat 0≥l.val) else if l.kind=2 then decide (s.starts.getD l.act.toNat 0≤l.val)
   else if l.kind=3 then decide (s.modes.getD l.act.toNat 0=l.val) else decide (l.kind=4)&&decide (s.modes.getD l.act.toNat 0≠l.val))
def bI (l:List Lit) (s:aJ):Bool:=l.any fun x=>bU x s
theorem fV {p:Proj} {k:Nat} (hk:k < p.acts.length):p.acts[k]? =some (bf p k):=by
 unfold bf;rw [List.getD_eq_getElem?_getD,List.getElem?_eq_getElem hk];rfl
theorem HZ {p:Proj} (h:aF p=true) {k:Nat} (hk:k < p.acts.length):bG (bf p k) p.bB.length p.aY.length=true:=by
 simp only [aF,Bool.and_eq_true] at h
 have h1:=bg.1 h.1.1.1.2 k hk
 unfold sS at h1
 rw [fV hk] at h1
 simp only [Bool.and_eq_true] at h1
 exact h1.1
theorem pK {p:Proj} (h:aF p=true) {k:Nat} (hk:k < p.acts.length) {m:Mode} (hm:m∈(bf p k).modes):jC m p.bB.length p.aY.length=true:=by
 have h1:=HZ h hk
 simp only [bG,Bool.and_eq_true,List.all_eq_true] at h1
 exact h1.1 m hm
theorem iT {p:Proj} (h:aF p=true) {k:Nat} (hk:k < p.acts.length):1≤(bf p k).modes.length∧(bf p k).modes.length≤3:=by
 have h1:=HZ h hk
 simp only [bG,Bool.and_eq_true,within_iff] at h1
 have:=h1.2.2;omega
theorem jw {p:Proj} (h:aF p=true):1≤p.dead∧p.dead≤60∧1≤p.acts.length∧p.acts.length≤6:=by
 simp only [aF,nN,Bool.and_eq_true,within_iff] at h
 have h1:=h.1.1.1.1.1.1.1;omega
theorem Ia {p:Proj} (h:aF p=true) {y:Link} (hy:y∈p.links):bn p y.src=true∧bn p y.dst=true:=by
 simp only [aF,Bool.and_eq_true,List.all_eq_true] at h
 have h1:=h.2 y hy
 simp only [jR,Bool.and_eq_true] at h1
 exact h1.1.1
theorem fI {p:Proj} {n:Int} (h:bn p n=true):0≤n∧n.toNat < p.acts.length:=by
 simp only [bn,within_iff] at h;omega
structure kZ (p:Proj) (s:aJ) (k:Nat):Prop where
 lo:0≤s.starts.getD k 0
 hi:s.starts.getD k 0≤60
 m0:0≤s.modes.getD k 0
 m1:(s.modes.getD k 0).toNat < (bf p k).modes.length
 mem:eB p s k∈(bf p k).modes
 d1:1≤(eB p s k).dur
 d2:(eB p s k).dur≤12
 ok:jC (eB p s k) p.bB.length p.aY.length=true
theorem jE {p:Proj} {s:aJ} (h:bF p s=true):aF p=true∧s.starts.length=p.acts.length∧s.modes.length=p.acts.length:=by
 simp only [bF,Bool.and_eq_true,Bool.not_eq_true',decide_eq_false_iff_not] at h
 exact⟨h.1.1.1,by omega,by omega⟩
theorem iI {p:Proj} {s:aJ} (h:bF p s=true) {k:Nat} (hk:k < p.acts.length):kZ p s k:=by
 obtain⟨hp,h1,h2⟩:=jE h
 simp only [bF,Bool.and_eq_true] at h
 have h3:=bg.1 h.2 k hk
 unfold vW at h3
 rw [fV hk,List.getElem?_eq_getElem (by omega:k < s.starts.length),List.getElem?_eq_getElem (by omega:k < s.modes.length)] at h3
 simp only [Bool.and_eq_true,bC,within_iff] at h3
 have e1:s.starts.getD k 0=s.starts[k]'(by omega):=by rw [List.getD_eq_getElem?_getD,List.getElem?_eq_getElem (by omega)];rfl
 have e2:s.modes.getD k 0=s.modes[k]'(by omega):=by rw [List.getD_eq_getElem?_getD,List.getElem?_eq_getElem (by omega)];rfl
 have hlt:(s.modes.getD k 0).toNat < (bf p k).modes.length:=by rw [e2];omega
 have hm:eB p s k∈(bf p k).modes:=by
  unfold eB;rw [List.getD_eq_getElem?_getD,List.getElem?_eq_getElem hlt];exact List.getElem_mem hlt
 have ho:=pK hp hk hm
 have ho':=ho
 simp only [jC,Bool.and_eq_true,within_iff] at ho'
 exact⟨by rw [e1];omega,by rw [e1];omega,by rw [e2];omega,hlt,hm,ho'.1.1.1,ho'.1.1.2,ho⟩
theorem tL {l:List Int} {n:Int} (h:bE l n=true) (i:Nat):0≤l.getD i 0∧l.getD i 0≤20:=by
 simp only [bE,Bool.and_eq_true,List.all_eq_true] at h
 by_cases hi:i < l.length
 ·have:=h.1 _ (List.getElem_mem hi)
  rw [List.getD_eq_getElem?_getD,List.getElem?_eq_getElem hi]
  simpa [dU,within_iff] using this
 ·rw [List.getD_eq_getElem?_getD,List.getElem?_eq_none (by omega)];simp
theorem kZ.use {p:Proj} {s:aJ} {k:Nat} (h:kZ p s k) (r:Nat):0≤(eB p s k).use.getD r 0∧(eB p s k).use.getD r 0≤20:=by
 have:=h.ok
 simp only [jC,Bool.and_eq_true] at this
 exact tL this.1.2 r
theorem kZ.con {p:Proj} {s:aJ} {k:Nat} (h:kZ p s k) (r:Nat):0≤(eB p s k).con.getD r 0:=by
 have:=h.ok
 simp only [jC,Bool.and_eq_true] at this
 exact (tL this.2 r).1
theorem wP:∀(l:List Int) (a:Int),l.foldl min a≤a∧∀x∈l,l.foldl min a≤x
 |[],a=>⟨Int.le_refl _,by simp⟩
 |y::l,a=>by
  obtain⟨h1,h2⟩:=wP l (min a y)
  refine⟨by simp only [List.foldl_cons];omega,fun x hx=>?_⟩
  simp only [List.foldl_cons]
  rcases List.mem_cons.1 hx with rfl|hx
  ·omega
  ·exact h2 x hx
theorem Ab {l:List Int} {x:Int} (h:x∈l):least l≤x:=by
 cases l with
 |nil=>cases h
 |cons y l=>
  rcases List.mem_cons.1 h with rfl|h
  ·exact (wP l x).1
  ·exact (wP l y).2 x h
theorem rY {ms:List Int} {m:Mode}:∀(l:List Mode) (k j:Nat),l[j]? =some m→((k+j:Nat):Int)∈ms→m∈aS ms l k
 |[],k,j,h,_=>by simp at h
 |y::l,k,0,h,hm=>by
  simp at h;subst h
  rw [aS,if_pos (by simpa using hm)]
  exact List.mem_cons_self ..
 |y::l,k,j+1,h,hm=>by
  have:=rY l (k+1) j (by simpa using h) (by rw [show k+1+j=k+(j+1) by omega];exact hm)
  rw [aS]
  split
  ·exact List.mem_cons_of_mem _ this
  ·exact this
theorem zf {p:Proj} {s:aJ} {k:Nat} {ms:List Int} (h:kZ p s k) (hm:s.modes.getD k 0∈ms):eB p s k∈chosen (bf p k) ms:=by
 refine rY _ 0 (s.modes.getD k 0).toNat ?_ (by rw [Nat.zero_add,Int.toNat_of_nonneg h.m0];exact hm)
 unfold eB
 rw [List.getD_eq_getElem?_getD (l:=(bf p k).modes),List.getElem?_eq_getElem h.m1];rfl
theorem rZ {p:Proj} {s:aJ} {k:Nat} {ms:List Int} (h:kZ p s k) (hm:s.modes.getD k 0∈ms):oh (bf p k) ms≤(eB p s k).dur:=
 Ab (List.mem_map.2 ⟨_,zf h hm,rfl⟩)
theorem KR {l:List Mode} {f:Mode→Option Int} {m:Mode} {v:Int} (hm:m∈l) (hv:(f m).getD 0≤v) (h0:0≤v):leastOf l f≤v:=by
 unfold leastOf
 split
 ·exact Int.le_trans (Ab (List.mem_map.2 ⟨m,hm,rfl⟩)) hv
 ·exact h0
theorem ES {l:List Int} {r:Int} (h:0≤l.getD r.toNat 0):(bT l r).getD 0≤l.getD r.toNat 0:=by
 unfold bT;split
 ·exact Int.le_refl _
 ·exact h
theorem Gv {p:Proj} {s:aJ} {k:Nat} {ms:List Int} (h:kZ p s k) (hm:s.modes.getD k 0∈ms) (r:Int):gL (bf p k) ms r≤(eB p s k).use.getD r.toNat 0:=
 KR (zf h hm) (ES (h.use _).1) (h.use _).1
theorem VG {p:Proj} {s:aJ} {k:Nat} {ms:List Int} (h:kZ p s k) (hm:s.modes.getD k 0∈ms) (r:Int):rE (bf p k) ms r≤(eB p s k).con.getD r.toNat 0:=
 KR (zf h hm) (ES (h.con _)) (h.con _)
theorem sumTo_le {f g:Nat→Int}:∀{n:Nat},(∀k,k < n→f k≤g k)→sumTo f n≤sumTo g n
 |0,_=>Int.le_refl _
 |n+1,h=>by
  have h1:=sumTo_le (n:=n) (fun k hk=>h k (by omega))
  have h2:=h n (by omega)
  simp only [sumTo];omega
theorem Nn {f g:Nat→Int}:∀{n:Nat},sumTo (fun k=>f k+g k) n=sumTo f n+sumTo g n
 |0=>rfl
 |n+1=>by simp only [sumTo];rw [Nn];omega
theorem KS:∀{n:Nat},sumTo (fun _=>0) n=0
 |0=>rfl
 |n+1=>by simp only [sumTo];rw [KS];rfl
theorem oG {p:Proj} {s:aJ} {r:Rul} (hr:r∈eF p) (hb:breaks p s r=true):dA p s=false:=by
 cases h:dA p s with
 |false=>rfl
 |true=>
  simp only [dA,Bool.and_eq_true,decide_eq_true_eq] at h
  have h1:=h.2
  unfold pq at h1
  rw [if_pos h.1] at h1
  have:r∈(eF p).filter (breaks p s):=List.mem_filter.2 ⟨hr,hb⟩
  have:=List.length_pos_of_mem this
  omega
theorem Xw {p:Proj} {k:Nat} (h:k < p.links.length):jo k∈eF p:=by
 simp only [eF,List.mem_append];exact .inl (.inl (.inl (.inl (List.mem_map.2 ⟨k,List.mem_range.2 h,rfl⟩))))
theorem UC {p:Proj} {k:Nat} (h:k < p.acts.length):endRule k∈eF p:=by
 simp only [eF,List.mem_append];exact .inl (.inl (.inl (.inr (List.mem_map.2 ⟨k,List.mem_range.2 h,rfl⟩))))
theorem RL {p:Proj} {r t:Nat} (h:r < p.bB.length) (ht:t≤60):mI r t∈eF p:=by
 simp only [eF,List.mem_append]
 exact .inl (.inl (.inr (List.mem_flatMap.2 ⟨r,List.mem_range.2 h,List.mem_map.2 ⟨t,List.mem_range.2 (by omega),rfl⟩⟩)))
theorem pair_mem {p:Proj} {r b c:Nat} (h:r < p.bB.length) (hm:fA p r=true) (hb:b < c) (hc:c < p.acts.length):jN r b c∈eF p:=by
 simp only [eF,List.mem_append]
 refine .inl (.inr (List.mem_flatMap.2 ⟨r,List.mem_range.2 h,List.mem_flatMap.2 ⟨b,List.mem_range.2 (by omega),?_⟩⟩))
 unfold fO
 rw [if_pos hm]
 exact List.mem_map.2 ⟨c - (b+1),List.mem_range.2 (by omega),by rw [show b+1+(c - (b+1))=c by omega]⟩
theorem VH {p:Proj} {k:Nat} (h:k < p.aY.length):gZ k∈eF p:=by
 simp only [eF,List.mem_append];exact .inr (List.mem_map.2 ⟨k,List.mem_range.2 h,rfl⟩)
theorem CV {s d x y:Int} (hs:0≤s∧s≤100) (hd:1≤d∧d≤100) (hx:0≤x∧x≤100) (hy:0≤y∧y≤100):overlap s d x y=max (min (s+d) y - max s x) 0:=by
 unfold overlap fits
 rw [if_pos ⟨within_iff.2 (by omega),within_iff.2 (by omega),within_iff.2 (by omega),within_iff.2 (by omega)⟩,if_neg (by omega)]
theorem jF {s d x y:Int} (hs: -2≤s∧s≤62) (hd:1≤d∧d≤100) (hx:0≤x∧x≤100) (hy:0≤y∧y≤100):overlap s d x y=max (min (s+d) y - max s x) 0:=by
 unfold overlap fits
 rw [if_pos ⟨within_iff.2 (by omega),within_iff.2 (by omega),within_iff.2 (by omega),within_iff.2 (by omega)⟩,if_neg (by omega)]
theorem UD {p:Proj} {s:aJ} {k:Nat} (h:kZ p s k) (r x:Int) (hx:0≤x):∀(n:Nat),x+n≤100→sumTo (fun i=>Ei p s r (x+i) k) n=(eB p s k).use.getD r.toNat 0*overlap (s.starts.getD k 0) (eB p s k).dur x (x+n)
 |0,hn=>by
  rw [CV ⟨h.lo,by have:=h.hi;omega⟩ ⟨h.d1,by have:=h.d2;omega⟩ ⟨hx,by omega⟩ ⟨by omega,by omega⟩]
  rw [show max (min (s.starts.getD k 0+(eB p s k).dur) (x+((0:Nat):Int)) - max (s.starts.getD k 0) x) 0=0 by omega]
  simp [sumTo]
 |n+1,hn=>by
  have h1:=h.lo;have h2:=h.hi;have h3:=h.d1;have h4:=h.d2
  simp only [sumTo]
  rw [UD h r x hx n (by omega)]
  rw [CV ⟨h1,by omega⟩ ⟨h3,by omega⟩ ⟨hx,by omega⟩ ⟨by omega,by omega⟩,CV ⟨h1,by omega⟩ ⟨h3,by omega⟩ ⟨hx,by omega⟩ ⟨by omega,by omega⟩]
  unfold Ei runs nQ
  generalize (eB p s k).use.getD r.toNat 0=u
  generalize s.starts.getD k 0=a at*
  generalize (eB p s k).dur=d at*
  by_cases hr:a≤x+n∧a+d > x+n
  ·rw [if_pos (by simp [hr])]
   rw [show max (min (a+d) (x+((n+1:Nat):Int)) - max a x) 0=max (min (a+d) (x+(n:Int)) - max a x) 0+1 by omega,Int.mul_add,Int.mul_one]
  ·rw [if_neg (by simp only [Bool.and_eq_true,decide_eq_true_eq];exact hr)]
   rw [show max (min (a+d) (x+((n+1:Nat):Int)) - max a x) 0=max (min (a+d) (x+(n:Int)) - max a x) 0 by omega,Int.add_zero]
theorem RN (f:Nat→Nat→Int):∀(n m:Nat),sumTo (fun i=>sumTo (fun k=>f i k) m) n=sumTo (fun k=>sumTo (fun i=>f i k) n) m
 |0,m=>by simp only [sumTo];rw [KS]
 |n+1,m=>by
  have:=RN f n m
  simp only [sumTo]
  rw [this,Nn]
theorem TL {p:Proj} {s:aJ} (r x:Int) (n:Nat):sumTo (fun i=>zU p s r (x+i)) n=sumTo (fun k=>sumTo (fun i=>Ei p s r (x+i) k) n) p.acts.length:=
 RN (fun i k=>Ei p s r (x+i) k) n p.acts.length
theorem Np (l:List Step) (x:Int):∀n:Nat,qd l x n=sumTo (fun i=>iZ (x+i) l 0) n
 |0=>rfl
 |n+1=>by simp only [qd,sumTo];rw [Np l x n]
theorem RO {f g:Nat→Int}:∀{n:Nat},sumTo f n > sumTo g n→∃k,k < n∧f k > g k
 |0,h=>by simp [sumTo] at h
 |n+1,h=>by
  simp only [sumTo] at h
  by_cases hk:f n > g n
  ·exact⟨n,by omega,hk⟩
  ·obtain⟨k,h1,h2⟩:=RO (f:=f) (g:=g) (n:=n) (by omega)
   exact⟨k,by omega,h2⟩
structure aaU (p:Proj) (b:Dom) (k:Nat):Prop where
 l1: -2≤b.lo.getD k 0
 l2:b.lo.getD k 0≤62
 h1: -2≤b.hi.getD k 0
 h2:b.hi.getD k 0≤62
 ms:∀m∈b.modes.getD k [],0≤m∧m.toNat < (bf p k).modes.length
theorem uF {n:Nat} {m:Int} (h:m∈aK n):0≤m∧m.toNat < n:=by
 unfold aK at h
 split at h
 ·obtain⟨k,h1,rfl⟩:=List.mem_map.1 h
  have:=List.mem_range.1 h1
  simp at this ⊢;omega
 ·simp at h
theorem Pq {n:Nat} (hn:n≤200) {m:Int} (h0:0≤m) (h:m.toNat < n):m∈aK n:=by
 unfold aK
 rw [if_pos (within_iff.2 (by omega))]
 exact List.mem_map.2 ⟨m.toNat,List.mem_range.2 (by omega),by simp;omega⟩
theorem eX {p:Proj} {b:Dom} (h:aC p b=true):aF p=true∧b.lo.length=p.acts.length∧b.hi.length=p.acts.length∧b.modes.length=p.acts.length:=by
 simp only [aC,Bool.and_eq_true,Bool.not_eq_true',decide_eq_false_iff_not] at h
 exact⟨h.1.1.1.1,by omega,by omega,by omega⟩
theorem lq {p:Proj} {b:Dom} (h:aC p b=true) {k:Nat} (hk:k < p.acts.length):aaU p b k:=by
 obtain⟨hp,h1,h2,h3⟩:=eX h
 simp only [aC,Bool.and_eq_true] at h
 have h4:=bg.1 h.2 k hk
 unfold nO at h4
 rw [fV hk,List.getElem?_eq_getElem (by omega:k < b.lo.length),List.getElem?_eq_getElem (by omega:k < b.hi.length),List.getElem?_eq_getElem (by omega:k < b.modes.length)] at h4
 simp only [Bool.and_eq_true,lH,within_iff,subset,List.all_eq_true,List.contains_iff_mem] at h4
 have e1:b.lo.getD k 0=b.lo[k]'(by omega):=by rw [List.getD_eq_getElem?_getD,List.getElem?_eq_getElem (by omega)];rfl
 have e2:b.hi.getD k 0=b.hi[k]'(by omega):=by rw [List.getD_eq_getElem?_getD,List.getElem?_eq_getElem (by omega)];rfl
 have e3:b.modes.getD k []=b.modes[k]'(by omega):=by rw [List.getD_eq_getElem?_getD,List.getElem?_eq_getElem (by omega)];rfl
 exact⟨by rw [e1];omega,by rw [e1];omega,by rw [e2];omega,by rw [e2];omega,fun m hm=>uF (h4.2 m (by rw [e3] at hm;exact hm))⟩
theorem Yz {p:Proj} {b:Dom} {s:aJ} {k:Nat} (h:kZ p s k) (hb:aaU p b k) (hin:b.lo.getD k 0≤s.starts.getD k 0∧s.starts.getD k 0≤b.hi.getD k 0∧s.modes.getD k 0∈b.modes.getD k []) {r x y:Int} (hx:0≤x∧x≤60) (hy:0≤y∧y≤60):
  mg p b r x y k≤(eB p s k).use.getD r.toNat 0*overlap (s.starts.getD k 0) (eB p s k).dur x y:=by
 unfold mg
 refine Int.le_trans (Ab (List.mem_map.2 ⟨s.modes.getD k 0,hin.2.2,rfl⟩)) ?_
 unfold iB
 show min (overlap _ (eB p s k).dur x y) (overlap _ (eB p s k).dur x y)*(eB p s k).use.getD r.toNat 0≤_
 have h1:=h.lo;have h2:=h.hi;have h3:=h.d1;have h4:=h.d2
 have k1:=hb.l1;have k2:=hb.l2;have k3:=hb.h1;have k4:=hb.h2
 rw [jF ⟨k1,k2⟩ ⟨h3,by omega⟩ ⟨hx.1,by omega⟩ ⟨hy.1,by omega⟩,jF ⟨k3,k4⟩ ⟨h3,by omega⟩ ⟨hx.1,by omega⟩ ⟨hy.1,by omega⟩,jF ⟨by omega,by omega⟩ ⟨h3,by omega⟩ ⟨hx.1,by omega⟩ ⟨hy.1,by omega⟩,Int.mul_comm]
 refine Int.mul_le_mul_of_nonneg_left ?_ (h.use _).1
 omega
theorem Pt {p:Proj} {b:Dom} {s:aJ} {r:Rul} (hf:aC p b=true) (hr:fG p r=true) (hs:bF p s=true) (hin:qy b s p.acts.length) (h:fails p b r=true):dA p s=false:=by
 obtain⟨hp,hl1,hl2⟩:=jE hs
 simp only [fG,Bool.and_eq_true] at hr
 have hr:=hr.2
 unfold fails at h
 by_cases e1:r.kind=1
 ·rw [if_pos e1] at hr h
  simp only [Bool.and_eq_true,within_iff,decide_eq_true_eq] at hr
  have hk:r.a.toNat < p.links.length:=by omega
  refine oG (Xw hk) ?_
  have el:iy p r.a=p.links[r.a.toNat]:=by unfold iy;rw [List.getD_eq_getElem?_getD,List.getElem?_eq_getElem hk];rfl
  obtain⟨hs1,hs2⟩:=Ia hp (y:=iy p r.a) (by rw [el];exact List.getElem_mem hk)
  have e2:iy p ((r.a.toNat:Nat):Int)=iy p r.a:=by unfold iy;rw [Int.toNat_natCast]
  unfold breaks jo
  rw [if_pos rfl]
  show rG p s (iy p (r.a.toNat:Int))=true
  rw [e2]
  generalize iy p r.a=y at*
  have g1:=iI hs (fI hs1).2
  have i1:=hin _ (fI hs1).2
  have i2:=hin _ (fI hs2).2
  simp only [oq,decide_eq_true_eq] at h
  simp only [rG,decide_eq_true_eq]
  have hd:=rZ g1 i1.2.2
  unfold kP at h
  unfold nQ
  split at h
  ·rename_i hfe;rw [if_pos hfe];omega
  ·rename_i hfe;rw [if_neg hfe];omega
 rw [if_neg e1] at hr h
 by_cases e2:r.kind=2
 ·rw [if_pos e2] at hr h
  simp only [Bool.and_eq_true,decide_eq_true_eq] at hr h
  obtain⟨h0,hk⟩:=fI hr.1.1
  refine oG (UC hk) ?_
  have g1:=iI hs hk
  have i1:=hin _ hk
  have hd:=rZ g1 i1.2.2
  unfold kP at h
  unfold breaks endRule
  rw [if_neg (by simp),if_pos rfl]
  simp only [decide_eq_true_eq,Int.toNat_natCast]
  unfold nQ;omega
 rw [if_neg e2] at hr h
 by_cases e3:r.kind=3
 ·rw [if_pos e3] at hr h
  simp only [Bool.and_eq_true,decide_eq_true_eq,bC,within_iff] at hr h
  have hk:0≤r.a∧r.a.toNat < p.bB.length:=by have:=hr.1.1;simp only [dV,within_iff] at this;omega
  refine oG (RL (t:=r.b.toNat) hk.2 (by omega)) ?_
  unfold breaks mI
  rw [if_neg (by simp),if_neg (by simp),if_pos rfl]
  simp only [decide_eq_true_eq]
  have ea:((r.a.toNat:Nat):Int)=r.a:=by omega
  have eb:((r.b.toNat:Nat):Int)=r.b:=by omega
  rw [ea,eb]
  refine Int.lt_of_lt_of_le h ?_
  unfold Ed zU
  refine sumTo_le fun k hk=>?_
  have g1:=iI hs hk
  have i1:=hin k hk
  unfold sU Ei
  split
  ·rename_i hc
   have hd:=rZ g1 i1.2.2
   unfold kP at hc
   have hrun:runs p s r.b k=true:=by
    simp only [runs,nQ,Bool.and_eq_true]
    exact⟨decide_eq_true (by omega),decide_eq_true (by omega)⟩
   rw [if_pos hrun]
   exact Gv g1 i1.2.2 r.a
  ·split
   ·exact (g1.use _).1
   ·exact Int.le_refl _
 rw [if_neg e3] at hr h
 by_cases e4:r.kind=4
 ·rw [if_pos e4] at hr h
  simp only [Bool.and_eq_true,decide_eq_true_eq,bC,within_iff] at hr h
  have hk:0≤r.a∧r.a.toNat < p.bB.length:=by have:=hr.1.1.1;simp only [dV,within_iff] at this;omega
  unfold mG at h
  have hso:gY (uS p r.a).steps=true:=by
   have h9:=hp
   simp only [aF,Bool.and_eq_true,List.all_eq_true] at h9
   have h8:=h9.1.1.2 (uS p r.a) (by unfold uS;rw [List.getD_eq_getElem?_getD,List.getElem?_eq_getElem hk.2];exact List.getElem_mem hk.2)
   simp only [kN,Bool.and_eq_true] at h8
   exact h8.2.1
  rw [if_pos ⟨hso,by simp only [bC,within_iff];omega,by simp only [bC,within_iff];omega⟩,Np] at h
  have hle:oo p b r.a r.b r.c≤sumTo (fun i=>zU p s r.a (r.b+i)) (r.c - r.b).toNat:=by
   rw [TL]
   unfold oo
   refine sumTo_le fun k hk=>?_
   have g1:=iI hs hk
   have i1:=hin k hk
   rw [UD g1 r.a r.b (by omega) _ (by omega)]
   rw [show r.b+((r.c - r.b).toNat:Int)=r.c by omega]
   exact Yz g1 (lq hf hk) i1 (by omega) (by omega)
  obtain⟨i,hi,hgt⟩:=RO (Int.lt_of_lt_of_le h hle)
  refine oG (RL (t:=(r.b+i).toNat) hk.2 (by omega)) ?_
  unfold breaks mI
  rw [if_neg (by simp),if_neg (by simp),if_pos rfl]
  simp only [decide_eq_true_eq]
  have ea:((r.a.toNat:Nat):Int)=r.a:=by omega
  have eb:(((r.b+i).toNat:Nat):Int)=r.b+i:=by omega
  rw [ea,eb]
  exact hgt
 rw [if_neg e4] at hr h
 by_cases e5:r.kind=5
 ·rw [if_pos e5] at hr h
  simp only [Bool.and_eq_true,decide_eq_true_eq] at hr
  obtain⟨⟨⟨hm,hb⟩,hc⟩,hlt⟩:=hr
  have hk:0≤r.a∧r.a.toNat < p.bB.length:=by have:=hm;simp only [fA,dV,Bool.and_eq_true,within_iff] at this;omega
  obtain⟨b0,hb⟩:=fI hb
  obtain⟨c0,hc⟩:=fI hc
  have ea:((r.a.toNat:Nat):Int)=r.a:=by omega
  have eb:((r.b.toNat:Nat):Int)=r.b:=by omega
  have ec:((r.c.toNat:Nat):Int)=r.c:=by omega
  refine oG (pair_mem (r:=r.a.toNat) (b:=r.b.toNat) (c:=r.c.toNat) hk.2 (by rw [ea];exact hm) (by omega) hc) ?_
  unfold breaks jN
  rw [if_neg (by simp),if_neg (by simp),if_neg (by simp),if_pos rfl]
  simp only [ea,eb,ec]
  have g1:=iI hs hb
  have i1:=hin _ hb
  have g2:=iI hs hc
  have i2:=hin _ hc
  unfold jam at h
  simp only [Bool.and_eq_true] at h
  obtain⟨⟨⟨q1,q2⟩,q3⟩,q4⟩:=h
  replace q1:=of_decide_eq_true q1
  replace q2:=of_decide_eq_true q2
  replace q3:=of_decide_eq_true q3
  replace q4:=of_decide_eq_true q4
  unfold jT kP at q3 q4
  have u1:=Gv g1 i1.2.2 r.a
  have u2:=Gv g2 i2.2.2 r.a
  have d1:=rZ g1 i1.2.2
  have d2:=rZ g2 i2.2.2
  simp only [uU,Ej,nQ,Bool.and_eq_true,Bool.not_eq_true']
  exact⟨⟨⟨decide_eq_false (by omega),decide_eq_false (by omega)⟩,decide_eq_false (by omega)⟩,decide_eq_false (by omega)⟩
 rw [if_neg e5] at hr h
 by_cases e6:r.kind=6
 ·rw [if_pos e6] at hr
  simp only [Bool.and_eq_true,decide_eq_true_eq] at hr
  have hk:0≤r.a∧r.a.toNat < p.aY.length:=by have:=hr.1.1;simp only [iO,within_iff] at this;omega
  refine oG (VH hk.2) ?_
  unfold breaks gZ
  rw [if_neg (by simp),if_neg (by simp),if_neg (by simp),if_neg (by simp)]
  simp only [decide_eq_true_eq]
  have ea:((r.a.toNat:Nat):Int)=r.a:=by omega
  rw [ea]
  simp only [mU,decide_eq_true_eq] at h
  refine Int.lt_of_lt_of_le h ?_
  unfold Ke
  refine sumTo_le fun k hk=>?_
  exact VG (iI hs hk) (hin k hk).2.2 r.a
 ·rw [if_neg e6] at hr;cases hr
theorem LW {p:Proj} {b:Dom} {s:aJ} {r:Rul} (h:refutes p b r=true) (hs:bF p s=true) (hin:qy b s p.acts.length):dA p s=false:=by
 simp only [refutes,Bool.and_eq_true,Bool.or_eq_true] at h
 obtain⟨hf,h|⟨hr,h⟩⟩:=h
 ·exfalso
  obtain⟨hp,h1,h2,h3⟩:=eX hf
  simp only [aZ,Bool.or_eq_true,List.any_eq_true,List.mem_range] at h
  rcases h with⟨i,hi,hc⟩|⟨m,hm,hl⟩
  ·have:=hin i (by omega)
   unfold jS at hc
   rw [List.getElem?_eq_getElem (by omega:i < b.lo.length),List.getElem?_eq_getElem (by omega:i < b.hi.length)] at hc
   simp only [decide_eq_true_eq] at hc
   rw [List.getD_eq_getElem?_getD,List.getElem?_eq_getElem (by omega:i < b.lo.length),List.getD_eq_getElem?_getD (l:=b.hi),List.getElem?_eq_getElem (by omega:i < b.hi.length)] at this
   simp only [Option.getD_some] at this
   omega
  ·obtain⟨i,hi,rfl⟩:=List.getElem_of_mem hm
   have:=(hin i (by omega)).2.2
   rw [List.getD_eq_getElem?_getD,List.getElem?_eq_getElem hi] at this
   simp only [decide_eq_true_eq] at hl
   simp only [Option.getD_some] at this
   have:=List.length_pos_of_mem this
   omega
 ·exact Pt hf hr hs hin h
structure uG (b:Dom) (n:Nat):Prop where
 lo:b.lo.length=n
 hi:b.hi.length=n
 ms:b.modes.length=n
theorem wQ {v:Int} (h: -2≤v∧v≤62):clamped v=v:=by unfold clamped;omega
theorem jX {b:Dom} {n:Nat} (h:uG b n) (l:Lit):uG (restrict b l) n:=by
 obtain⟨h1,h2,h3⟩:=h
 unfold restrict
 split
 ·dsimp only
  split
  ·exact⟨by simpa using h1,h2,h3⟩
  ·split
   ·exact⟨h1,by simpa using h2,h3⟩
   ·split
    ·exact⟨h1,h2,by simpa using h3⟩
    ·split
     ·exact⟨h1,h2,by simpa using h3⟩
     ·exact⟨h1,h2,h3⟩
 ·exact⟨h1,h2,h3⟩
theorem dJ {α:Type} {l:List α} {i:Nat} {x d:α} (h:i < l.length):(l.set i x).getD i d=x:=by
 rw [List.getD_eq_getElem?_getD,List.getElem?_set_self h];rfl
theorem getD_set_ne {α:Type} {l:List α} {i j:Nat} {x d:α} (h:i≠j):(l.set i x).getD j d=l.getD j d:=by
 rw [List.getD_eq_getElem?_getD,List.getElem?_set_ne h,List.getD_eq_getElem?_getD]
def Gw (l:Lit):Prop:= -2≤l.val∧l.val≤62
theorem zh {b:Dom} {s:aJ} {n:Nat} {l:Lit} (hl:uG b n) (hin:qy b s n) (hf:Gw l) (hh:bU l s=true):qy (restrict b l) s n:=by
 obtain⟨h1,h2,h3⟩:=hl
 simp only [bU,Bool.and_eq_true,within_iff] at hh
 obtain⟨⟨ha,hb⟩,hh⟩:=hh
 unfold restrict
 split
 ·rename_i hd
  simp only [gH,Bool.and_eq_true,decide_eq_true_eq] at hd
  have hn:l.act.toNat < n:=by omega
  dsimp only
  rw [wQ hf]
  have hk:=hin _ hn
  intro k hkn
  have hk2:=hin k hkn
  split
  ·rename_i e
   rw [if_pos e] at hh
   have hh:=of_decide_eq_true hh
   refine⟨?_,hk2.2⟩
   by_cases ek:l.act.toNat=k
   ·subst ek;rw [dJ (by omega)];omega
   ·rw [getD_set_ne ek];exact hk2.1
  rename_i e1
  rw [if_neg e1] at hh
  split
  ·rename_i e
   rw [if_pos e] at hh
   have hh:=of_decide_eq_true hh
   refine⟨hk2.1,?_,hk2.2.2⟩
   by_cases ek:l.act.toNat=k
   ·subst ek;rw [dJ (by omega)];omega
   ·rw [getD_set_ne ek];exact hk2.2.1
  rename_i e2
  rw [if_neg e2] at hh
  split
  ·rename_i e
   rw [if_pos e] at hh
   have hh:=of_decide_eq_true hh
   refine⟨hk2.1,hk2.2.1,?_⟩
   by_cases ek:l.act.toNat=k
   ·subst ek;rw [dJ (by omega)]
    exact List.mem_filter.2 ⟨hk.2.2,decide_eq_true hh⟩
   ·rw [getD_set_ne ek];exact hk2.2.2
  rename_i e3
  rw [if_neg e3] at hh
  simp only [Bool.and_eq_true] at hh
  have e4:=of_decide_eq_true hh.1
  have hh:=of_decide_eq_true hh.2
  rw [if_pos e4]
  refine⟨hk2.1,hk2.2.1,?_⟩
  by_cases ek:l.act.toNat=k
  ·subst ek;rw [dJ (by omega)]
   exact List.mem_filter.2 ⟨hk.2.2,decide_eq_true hh⟩
  ·rw [getD_set_ne ek];exact hk2.2.2
 ·exact hin
theorem CW {p:Proj} {l:Lit} (h:gG p l=true):aF p=true∧bn p l.act=true∧ -1≤l.val∧l.val≤61∧(l.kind=1∨l.kind=2∨l.kind=3∨l.kind=4):=by
 simp only [gG,Bool.and_eq_true] at h
 obtain⟨⟨h1,h2⟩,h3⟩:=h
 refine⟨h1,h2,?_⟩
 split at h3
 ·rename_i e;simp only [within_iff] at h3;omega
 ·split at h3
  ·rename_i e
   obtain⟨h4,h5⟩:=fI h2
   rw [fV h5] at h3
   simp only [within_iff] at h3
   have:=iT h1 h5
   omega
  ·cases h3
theorem VI {p:Proj} {l:Lit} (h:gG p l=true):Gw l:=by
 have:=CW h;unfold Gw;omega
theorem VJ {p:Proj} {l:Lit} (h:gG p l=true):Gw (negate l)∧(negate l).act=l.act:=by
 obtain⟨_,_,h1,h2,h3⟩:=CW h
 unfold negate Gw
 rw [if_pos (within_iff.2 (by omega))]
 rcases h3 with e|e|e|e<;>rw [e]<;>simp<;>omega
theorem Pv {p:Proj} {s:aJ} {l:Lit} (h:gG p l=true) (hs:bF p s=true):bU (negate l) s= !bU l s:=by
 obtain⟨hp,ha,h1,h2,h3⟩:=CW h
 obtain⟨h4,h5⟩:=fI ha
 obtain⟨_,hl1,hl2⟩:=jE hs
 have w1:within l.act 0 ((s.starts.length:Int) - 1)=true:=within_iff.2 (by omega)
 have w2:within l.act 0 ((s.modes.length:Int) - 1)=true:=within_iff.2 (by omega)
 have w3:within l.val (-100000) 100000=true:=within_iff.2 (by omega)
 clear h h1 h2 ha h4 h5
 obtain⟨k,a,v⟩:=l
 dsimp only at w1 w2 w3 h3
 unfold negate
 rw [if_pos w3]
 rcases h3 with rfl|rfl|rfl|rfl
 ·show bU ⟨2,a,v - 1⟩ s= !bU ⟨1,a,v⟩ s
  unfold bU
  dsimp only
  rw [w1,w2]
  show (decide (s.starts.getD a.toNat 0≤v - 1))= !(decide (s.starts.getD a.toNat 0≥v))
  by_cases hh:s.starts.getD a.toNat 0≥v
  ·rw [decide_eq_true hh,decide_eq_false (by omega)];rfl
  ·rw [decide_eq_false hh,decide_eq_true (by omega)];rfl
 ·show bU ⟨1,a,v+1⟩ s= !bU ⟨2,a,v⟩ s
  unfold bU
  dsimp only
  rw [w1,w2]
  show (decide (s.starts.getD a.toNat 0≥v+1))= !(decide (s.starts.getD a.toNat 0≤v))
  by_cases hh:s.starts.getD a.toNat 0≤v
  ·rw [decide_eq_true hh,decide_eq_false (by omega)];rfl
  ·rw [decide_eq_false hh,decide_eq_true (by omega)];rfl
 ·show bU ⟨4,a,v⟩ s= !bU ⟨3,a,v⟩ s
  unfold bU
  dsimp only
  rw [w1,w2]
  show (decide (s.modes.getD a.toNat 0≠v))= !(decide (s.modes.getD a.toNat 0=v))
  simp
 ·show bU ⟨3,a,v⟩ s= !bU ⟨4,a,v⟩ s
  unfold bU
  dsimp only
  rw [w1,w2]
  show (decide (s.modes.getD a.toNat 0=v))= !(decide (s.modes.getD a.toNat 0≠v))
  simp
theorem uH {p:Proj} {l:List Lit} (h:fF p l=true):∀x∈l,gG p x=true:=by
 intro x hx
 simp only [fF,Bool.and_eq_true] at h
 obtain⟨i,hi,rfl⟩:=List.getElem_of_mem hx
 have:=bg.1 h.1 i hi
 unfold clauseAt at this
 rw [List.getElem?_eq_getElem hi] at this
 simp only [Bool.and_eq_true] at this
 exact this.1
theorem CX {p:Proj} {s:aJ} {n:Nat} (hs:bF p s=true):∀(l:List Lit) (b:Dom),(∀x∈l,gG p x=true)→bI l s=false→uG b n→qy b s n→uG (against b l) n∧qy (against b l) s n
 |[],b,_,_,hl,hin=>⟨hl,hin⟩
 |x::l,b,hok,hf,hl,hin=>by
  simp only [bI,List.any_cons,Bool.or_eq_false_iff] at hf
  have hx:=hok x (List.mem_cons_self ..)
  exact CX hs l (restrict b (negate x)) (fun y hy=>hok y (List.mem_cons_of_mem _ hy)) hf.2 (jX hl _)
   (zh hl hin (VJ hx).1 (by rw [Pv hx hs,hf.1];rfl))
theorem qK {p:Proj} {s:aJ} (h:dA p s=true):bF p s=true:=by
 simp only [dA,Bool.and_eq_true] at h;exact h.1
theorem RP {p:Proj} {s:aJ} (h:dA p s=true) {k:Nat} (hk:k < p.acts.length):nQ p s k≤p.dead:=by
 by_cases hh:nQ p s k≤p.dead
 ·exact hh
 ·have:=oG (s:=s) (UC hk) (by
   unfold breaks endRule
   rw [if_neg (by simp),if_pos rfl]
   exact decide_eq_true (by simp only [Int.toNat_natCast];omega))
  rw [h] at this;cases this
theorem sj {p:Proj} (h:aF p=true):uG (aT p) p.acts.length:=by
 unfold aT;rw [if_pos h];exact⟨by simp [fP],by simp [fP],by simp [fP]⟩
theorem jP {α β:Type} {l:List α} {f:α→β} {k:Nat} {d:β} (h:k < l.length):(l.map f).getD k d=f l[k]:=by
 rw [List.getD_eq_getElem?_getD,List.getElem?_map,List.getElem?_eq_getElem h];rfl
theorem UE {p:Proj} {s:aJ} (h:dA p s=true):qy (aT p) s p.acts.length:=by
 have hs:=qK h
 obtain⟨hp,_,_⟩:=jE hs
 intro k hk
 have g:=iI hs hk
 have he:=RP h hk
 have h1:=g.lo;have h2:=g.d1
 unfold nQ at he
 unfold aT;rw [if_pos hp]
 unfold fP
 dsimp only
 rw [jP hk,jP hk,jP hk]
 refine⟨h1,by omega,?_⟩
 have ea:p.acts[k]=bf p k:=by
  have:=fV hk
  rw [List.getElem?_eq_getElem hk] at this
  exact Option.some.inj this
 rw [ea]
 exact Pq (by have:=iT hp hk;omega) g.m0 g.m1
theorem LX {p:Proj} {s:aJ} {r:Rul} {l:List Lit} (h:follows p r l=true) (hs:dA p s=true):bI l s=true:=by
 cases hc:bI l s with
 |true=>rfl
 |false=>
  simp only [follows,Bool.and_eq_true] at h
  have hf:=qK hs
  have:=CX hf l _ (uH h.1) hc (sj (jE hf).1) (UE hs)
  have:=LW h.2 hf this.2
  rw [hs] at this;cases this
theorem wR {y n:Bool} (h:valueOf y n= -1):n=true:=by
 unfold valueOf at h;cases y<;>cases n<;>first|rfl|(simp at h)
theorem zi (b:Dom) (l:Lit):litValue b l=1∨litValue b l=0∨litValue b l= -1:=by
 have hv:∀y n:Bool,valueOf y n=1∨valueOf y n=0∨valueOf y n= -1:=by decide
 unfold litValue
 split
 ·dsimp only
  split
  ·exact hv _ _
  ·split
   ·exact hv _ _
   ·split
    ·exact hv _ _
    ·split
     ·exact hv _ _
     ·exact .inl rfl
 ·exact .inl rfl
theorem Ib {b:Dom} {s:aJ} {n:Nat} {l:Lit} (hl:uG b n) (hin:qy b s n) (h:litValue b l= -1):bU l s=false:=by
 unfold litValue at h
 split at h
 ·rename_i hd
  simp only [gH,Bool.and_eq_true,decide_eq_true_eq] at hd
  have h1:=hl.lo
  have hk:=hin l.act.toNat (by omega)
  dsimp only at h
  unfold bU
  split at h
  ·rename_i e
   rw [if_pos e]
   have:=of_decide_eq_true (wR h)
   rw [decide_eq_false (by omega),Bool.and_false]
  rename_i e1
  rw [if_neg e1]
  split at h
  ·rename_i e
   rw [if_pos e]
   have:=of_decide_eq_true (wR h)
   rw [decide_eq_false (by omega),Bool.and_false]
  rename_i e2
  rw [if_neg e2]
  split at h
  ·rename_i e
   rw [if_pos e]
   have:=wR h
   simp only [Bool.not_eq_true', ← Bool.not_eq_true,List.contains_iff_mem] at this
   rw [decide_eq_false (fun hh=>this (by rw [← hh];exact hk.2.2)),Bool.and_false]
  rename_i e3
  rw [if_neg e3]
  split at h
  ·rename_i e
   have:=of_decide_eq_true (wR h)
   have hm:=hk.2.2
   rw [this] at hm
   rw [decide_eq_false (p:=s.modes.getD l.act.toNat 0≠l.val) (by simpa using hm)]
   simp
  ·simp at h
 ·simp at h
theorem sw {b:Dom}:∀(l:List Lit) (n:Int) (x:Lit),0≤n→(aR b l n x).1 < 0→n=0∧∀y∈l,litValue b y= -1
 |[],n,x,hn,h=>by
  rw [aR] at h
  split at h
  ·rename_i e;exact⟨e,by simp⟩
  ·split at h<;>simp at h
 |y::l,n,x,hn,h=>by
  rw [aR] at h
  split at h
  ·simp at h
  ·split at h
   ·have:=(sw l (n+1) y (by omega) h).1;omega
   ·rename_i h1 h0
    obtain⟨h2,h3⟩:=sw l n x hn h
    refine⟨h2,fun z hz=>?_⟩
    rcases List.mem_cons.1 hz with rfl|hz
    ·rcases zi b z with e|e|e
     ·exact (h1 e).elim
     ·exact (h0 e).elim
     ·exact e
    ·exact h3 z hz
theorem qo {b:Dom} {s:aJ} {m:Nat} (hl:uG b m) (hin:qy b s m):∀(l:List Lit) (n:Int) (x:Lit),0≤n→(aR b l n x).1=0→
  (n=0→(aR b l n x).2≠bq→(aR b l n x).2∈l∧(bI l s=true→bU (aR b l n x).2 s=true))∧(n=1→(aR b l n x).2≠bq→(aR b l n x).2=x∧bI l s=false)∧(2≤n→(aR b l n x).2=bq)
 |[],n,x,hn,h=>by
  rw [aR] at h ⊢
  split
  ·rename_i e;rw [if_pos e] at h;simp at h
  ·rename_i e0
   split
   ·rename_i e1;exact⟨fun e=>(e0 e).elim,fun _ _=>⟨rfl,rfl⟩,fun e=>by omega⟩
   ·rename_i e1;exact⟨fun e=>(e0 e).elim,fun e=>(e1 e).elim,fun _=>rfl⟩
 |y::l,n,x,hn,h=>by
  rw [aR] at h ⊢
  split
  ·rename_i h1;rw [if_pos h1] at h;simp at h
  ·rename_i h1
   rw [if_neg h1] at h
   split
   ·rename_i h0
    rw [if_pos h0] at h
    obtain⟨a1,a2,a3⟩:=qo hl hin l (n+1) y (by omega) h
    refine⟨fun e hz=>?_,fun e hz=>?_,fun e=>a3 (by omega)⟩
    ·obtain⟨k1,k2⟩:=a2 (by omega) hz
     rw [k1]
     refine⟨List.mem_cons_self ..,fun hc=>?_⟩
     simp only [bI,List.any_cons,Bool.or_eq_true] at hc
     unfold bI at k2
     rw [k2] at hc
     simpa using hc
    ·exact (hz (a3 (by omega))).elim
   ·rename_i h0
    rw [if_neg h0] at h
    have hy:bU y s=false:=by
     refine Ib hl hin ?_
     rcases zi b y with e|e|e
     ·exact (h1 e).elim
     ·exact (h0 e).elim
     ·exact e
    obtain⟨a1,a2,a3⟩:=qo hl hin l n x hn h
    refine⟨fun e hz=>?_,fun e hz=>?_,a3⟩
    ·obtain⟨k1,k2⟩:=a1 e hz
     refine⟨List.mem_cons_of_mem _ k1,fun hc=>k2 ?_⟩
     simp only [bI,List.any_cons,hy,Bool.false_or] at hc
     exact hc
    ·obtain⟨k1,k2⟩:=a2 e hz
     refine⟨k1,?_⟩
     simp only [bI,List.any_cons,hy,Bool.false_or]
     exact k2
theorem RQ {b:Dom} {l:List Lit} (h:bites b l=true):(status b l).1 < 0∨((status b l).1=0∧(status b l).2≠bq):=by
 simp only [bites,Bool.or_eq_true,Bool.and_eq_true,Bool.not_eq_true',decide_eq_true_eq] at h
 rcases h with h|⟨h1,h2⟩
 ·exact .inl h
 ·exact .inr ⟨h1,fun e=>by rw [jm.2 e] at h2;cases h2⟩
theorem RS {b:Dom} {s:aJ} {n:Nat} (hl:uG b n) (hin:qy b s n):aZ b=false:=by
 cases h:aZ b with
 |false=>rfl
 |true=>
  exfalso
  obtain⟨h1,h2,h3⟩:=hl
  simp only [aZ,Bool.or_eq_true,List.any_eq_true,List.mem_range] at h
  rcases h with⟨i,hi,hc⟩|⟨m,hm,hl⟩
  ·have:=hin i (by omega)
   unfold jS at hc
   rw [List.getElem?_eq_getElem (by omega:i < b.lo.length),List.getElem?_eq_getElem (by omega:i < b.hi.length)] at hc
   simp only [decide_eq_true_eq] at hc
   rw [List.getD_eq_getElem?_getD,List.getElem?_eq_getElem (by omega:i < b.lo.length),List.getD_eq_getElem?_getD (l:=b.hi),List.getElem?_eq_getElem (by omega:i < b.hi.length)] at this
   simp only [Option.getD_some] at this
   omega
  ·obtain⟨i,hi,rfl⟩:=List.getElem_of_mem hm
   have:=(hin i (by omega)).2.2
   rw [List.getD_eq_getElem?_getD,List.getElem?_eq_getElem hi] at this
   simp only [decide_eq_true_eq] at hl
   simp only [Option.getD_some] at this
   have:=List.length_pos_of_mem this
   omega
def nu (s:aJ) (list:List (List Lit)):Prop:=∀l∈list,(∀x∈l,Gw x)∧bI l s=true
theorem Ic {s:aJ} {m:Nat} {list:List (List Lit)} (hc:nu s list):∀(n:Nat) (b:Dom),uG b m→qy b s m→(nP list n b).2=false∧uG (nP list n b).1 m∧qy (nP list n b).1 s m
 |0,b,hl,hin=>⟨rfl,hl,hin⟩
 |n+1,b,hl,hin=>by
  rw [nP]
  unfold yD
  rw [RS hl hin,if_neg (by simp)]
  cases hf:list.find? (bites b) with
  |none=>exact⟨rfl,hl,hin⟩
  |some l=>
   have hm:=List.mem_of_find?_eq_some hf
   have hb:bites b l=true:=by have:=List.find?_some hf;simpa using this
   obtain⟨h1,h2⟩:=hc l hm
   dsimp only
   by_cases hneg:(status b l).1 < 0
   ·exfalso
    have:=(sw l 0 bq (by omega) hneg).2
    have hno:bI l s=false:=by
     simp only [bI,List.any_eq_false]
     intro y hy
     rw [Ib hl hin (this y hy)];simp
    rw [h2] at hno;cases hno
   ·rw [if_neg hneg]
    dsimp only
    have hb:=(RQ hb).resolve_left hneg
    obtain⟨k1,k2⟩:=(qo hl hin l 0 bq (by omega) hb.1).1 rfl hb.2
    exact Ic hc n _ (jX hl _) (zh hl hin (h1 _ k1) (k2 h2))
theorem zk {p:Proj} {s:aJ} {m:Nat} {list:List (List Lit)} {b:Dom} (hc:nu s list) (hl:uG b m) (hin:qy b s m):(bX p list b).2=false∧uG (bX p list b).1 m∧qy (bX p list b).1 s m:=by
 unfold bX
 split
 ·exact Ic hc _ _ hl hin
 ·exact⟨rfl,hl,hin⟩
theorem qp {p:Proj} {s:aJ} {ahead:List Lin} {l:Lin} (h:aM p ahead l=0) (hs:dA p s=true) (hc:nu s (ahead.map Lin.clause)):bI l.clause s=true∧fF p l.clause=true:=by
 unfold aM at h
 split at h
 ·rename_i hk
  have hok:fF p l.clause=true:=by have:=hk.2.1;simp only [rF,Bool.and_eq_true] at this;exact this.1
  refine⟨?_,hok⟩
  split at h
  ·split at h
   ·rename_i hf;exact LX hf hs
   ·cases h
  ·split at h
   ·rename_i hu
    cases hcl:bI l.clause s with
    |true=>rfl
    |false=>
     have hf:=qK hs
     have h1:=CX hf l.clause _ (uH hok) hcl (sj (jE hf).1) (UE hs)
     have:=(zk (p:=p) hc h1.1 h1.2).1
     unfold fT at hu
     rw [hu] at this;cases this
   ·cases h
 ·cases h
theorem ET {p:Proj} {all:List Lin}:∀(l:List Lin) (k:Nat),(jd p all l k).1=0→∀j,j < l.length→aM p (all.take (k+j)) (l.getD j ⟨0,⟨0,0,0,0⟩,[]⟩)=0
 |[],k,h,j,hj=>by simp at hj
 |x::l,k,h,j,hj=>by
  rw [jd] at h
  split at h
  ·rename_i h1
   cases j with
   |zero=>simpa using h1
   |succ j=>
    have:=ET l (k+1) h j (by simpa using hj)
    rw [show k+1+j=k+(j+1) by omega] at this
    simpa using this
  ·rename_i h1;exact (h1 h).elim
theorem zl {p:Proj} {lines:List Lin} (h:kG p lines=true) {j:Nat} (hj:j < lines.length):aM p (lines.take j) lines[j]=0:=by
 have:=ET lines 0 (of_decide_eq_true h) j hj
 rw [Nat.zero_add,List.getD_eq_getElem?_getD,List.getElem?_eq_getElem hj] at this
 exact this
theorem xA {p:Proj} {s:aJ} {lines:List Lin} (h:kG p lines=true) (hs:dA p s=true):∀n,n≤lines.length→nu s ((lines.take n).map Lin.clause)
 |0,_=>by intro l hl;simp at hl
 |n+1,hn=>by
  have ih:=xA h hs n (by omega)
  have hc:=zl h (show n < lines.length by omega)
  obtain⟨h1,h2⟩:=qp hc hs ih
  intro l hl
  rw [List.take_succ_eq_append_getElem (by omega:n < lines.length),List.map_append,List.mem_append] at hl
  rcases hl with hl|hl
  ·exact ih l hl
  ·simp only [List.map_cons,List.map_nil,List.mem_singleton] at hl
   subst hl
   exact⟨fun x hx=>VI (uH h2 x hx),h1⟩
theorem Bu {p:Proj} {s:aJ} {lines:List Lin} (h:kG p lines=true) (hs:dA p s=true):nu s (lines.map Lin.clause):=by
 have:=xA h hs lines.length (Nat.le_refl _)
 rwa [List.take_length] at this
theorem Gx {p:Proj} {s:aJ} {lines:List Lin} (h:jU p lines=true):dA p s=false:=by
 cases hs:dA p s with
 |false=>rfl
 |true=>
  simp only [jU,Bool.and_eq_true,List.any_eq_true] at h
  obtain⟨h1,l,hl,h2⟩:=h
  have:=(Bu h1 hs l.clause (List.mem_map.2 ⟨l,hl,rfl⟩)).2
  have h2:=of_decide_eq_true h2
  have hn:l.clause= []:=List.eq_nil_of_length_eq_zero (by omega)
  rw [hn] at this
  cases this
def fB (a b:Dom) (n:Nat):Prop:=∀k,k < n→b.lo.getD k 0≤a.lo.getD k 0∧a.hi.getD k 0≤b.hi.getD k 0∧∀m∈a.modes.getD k [],m∈b.modes.getD k []
theorem fB.refl (a:Dom) (n:Nat):fB a a n:=fun _ _=>⟨Int.le_refl _,Int.le_refl _,fun _ h=>h⟩
theorem fB.trans {a b c:Dom} {n:Nat} (h:fB a b n) (h':fB b c n):fB a c n:=fun k hk=>by
 obtain⟨h1,h2,h3⟩:=h k hk
 obtain⟨h4,h5,h6⟩:=h' k hk
 exact⟨by omega,by omega,fun m hm=>h6 m (h3 m hm)⟩
theorem Bv:∀(l:List Int) (a:Int),l.foldl min a=a∨l.foldl min a∈l
 |[],a=>.inl rfl
 |y::l,a=>by
  simp only [List.foldl_cons]
  rcases Bv l (min a y) with h|h
  ·rw [h]
   by_cases hh:a≤y
   ·rw [Int.min_eq_left hh];exact .inl rfl
   ·rw [Int.min_eq_right (by omega)];exact .inr (List.mem_cons_self ..)
  ·exact .inr (List.mem_cons_of_mem _ h)
theorem Nq {l:List Int} (h:l≠[]):least l∈l:=by
 cases l with
 |nil=>exact (h rfl).elim
 |cons y l=>
  rcases Bv l y with e|e
  ·show l.foldl min y∈_;rw [e];exact List.mem_cons_self ..
  ·exact List.mem_cons_of_mem _ e
theorem Gy {l l':List Int} (hn:l'≠[]) (h:∀x∈l',∃y∈l,y≤x):least l≤least l':=by
 obtain⟨y,hy,hle⟩:=h _ (Nq hn)
 exact Int.le_trans (Ab hy) hle
theorem ku {ms ms':List Int} (h:∀m∈ms',m∈ms):∀(l:List Mode) (k:Nat) (m:Mode),m∈aS ms' l k→m∈aS ms l k
 |[],k,m,hm=>hm
 |y::l,k,m,hm=>by
  rw [aS] at hm ⊢
  split at hm
  ·rename_i hc
   rw [if_pos (by simp at hc ⊢;exact h _ hc)]
   rcases List.mem_cons.1 hm with rfl|hm
   ·exact List.mem_cons_self ..
   ·exact List.mem_cons_of_mem _ (ku h l (k+1) m hm)
  ·split
   ·exact List.mem_cons_of_mem _ (ku h l (k+1) m hm)
   ·exact ku h l (k+1) m hm
theorem mP {ms:List Int}:∀(l:List Mode) (k:Nat) (m:Mode),m∈aS ms l k→m∈l
 |[],k,m,hm=>hm
 |y::l,k,m,hm=>by
  rw [aS] at hm
  split at hm
  ·rcases List.mem_cons.1 hm with rfl|hm
   ·exact List.mem_cons_self ..
   ·exact List.mem_cons_of_mem _ (mP l (k+1) m hm)
  ·exact List.mem_cons_of_mem _ (mP l (k+1) m hm)
structure sD (a:aH) (ms ms':List Int):Prop where
 ne:∃m∈ms',0≤m∧m.toNat < a.modes.length
 sub:∀m∈ms',m∈ms
theorem sD.chosen {a:aH} {ms ms':List Int} (h:sD a ms ms'):chosen a ms'≠[]:=by
 obtain⟨m,h1,h2,h3⟩:=h.ne
 have:=rY (ms:=ms') (m:=a.modes[m.toNat]) a.modes 0 m.toNat (List.getElem?_eq_getElem h3) (by rw [Nat.zero_add,Int.toNat_of_nonneg h2];exact h1)
 intro e
 unfold Abs.chosen at e
 rw [e] at this;cases this
theorem pO {a:aH} {ms ms':List Int} (h:sD a ms ms'):oh a ms≤oh a ms':=by
 refine Gy (by simpa using h.chosen) fun x hx=>?_
 obtain⟨m,hm,rfl⟩:=List.mem_map.1 hx
 exact⟨_,List.mem_map.2 ⟨m,ku h.sub _ _ m hm,rfl⟩,Int.le_refl _⟩
theorem EU {a:aH} {ms ms':List Int} {f:Mode→Option Int} (h:sD a ms ms') (hf:∀m∈a.modes,(f m).isSome=true):leastOf (chosen a ms) f≤leastOf (chosen a ms') f:=by
 have h1:(chosen a ms).all (fun m=>(f m).isSome)=true:=List.all_eq_true.2 fun m hm=>hf m (mP _ _ m hm)
 have h2:(chosen a ms').all (fun m=>(f m).isSome)=true:=List.all_eq_true.2 fun m hm=>hf m (mP _ _ m hm)
 unfold leastOf
 rw [if_pos h1,if_pos h2]
 refine Gy (by simpa using h.chosen) fun x hx=>?_
 obtain⟨m,hm,rfl⟩:=List.mem_map.1 hx
 exact⟨_,List.mem_map.2 ⟨m,ku h.sub _ _ m hm,rfl⟩,Int.le_refl _⟩
theorem zm {l:List Int} {n:Nat} {r:Int} (h:bE l n=true) (hr:0≤r∧r.toNat < n):(bT l r).isSome=true:=by
 simp only [bE,Bool.and_eq_true,decide_eq_true_eq] at h
 unfold bT
 rw [if_pos (within_iff.2 (by omega))];rfl
theorem wS {m:Mode} {r s:Int} (h:jC m r s=true):bE m.use r=true∧bE m.con s=true:=by
 simp only [jC,Bool.and_eq_true] at h;exact⟨h.1.2,h.2⟩
theorem zn {p:Proj} (hp:aF p=true) {k:Nat} (hk:k < p.acts.length) {r:Int} (hr:0≤r∧r.toNat < p.bB.length) {ms ms':List Int} (h:sD (bf p k) ms ms'):gL (bf p k) ms r≤gL (bf p k) ms' r:=
 EU h fun m hm=>zm (wS (pK hp hk hm)).1 hr
theorem RU {p:Proj} (hp:aF p=true) {k:Nat} (hk:k < p.acts.length) {r:Int} (hr:0≤r∧r.toNat < p.aY.length) {ms ms':List Int} (h:sD (bf p k) ms ms'):rE (bf p k) ms r≤rE (bf p k) ms' r:=
 EU h fun m hm=>zm (wS (pK hp hk hm)).2 hr
theorem VK {p:Proj} (hp:aF p=true) {k:Nat} (hk:k < p.acts.length) (r:Int) (ms:List Int):0≤gL (bf p k) ms r:=by
 unfold gL leastOf
 split
 ·by_cases hn:(chosen (bf p k) ms).map (fun m=>(bT m.use r).getD 0)= []
  ·rw [hn];exact Int.le_refl _
  ·obtain⟨m,hm,e⟩:=List.mem_map.1 (Nq hn)
   rw [← e]
   unfold bT
   split
   ·exact (tL (wS (pK hp hk (mP _ _ m hm))).1 _).1
   ·exact Int.le_refl _
 ·exact Int.le_refl _
theorem lU {p:Proj} {a b:Dom} (hf:aC p a=true) (he:aZ a=false) (hs:fB a b p.acts.length) {k:Nat} (hk:k < p.acts.length):sD (bf p k) (b.modes.getD k []) (a.modes.getD k [])∧a.lo.getD k 0≤a.hi.getD k 0:=by
 obtain⟨hp,h1,h2,h3⟩:=eX hf
 have hb:=lq hf hk
 simp only [aZ,Bool.or_eq_false_iff,List.any_eq_false,List.mem_range] at he
 have hc:=he.1 k (by omega)
 unfold jS at hc
 rw [List.getElem?_eq_getElem (by omega:k < a.lo.length),List.getElem?_eq_getElem (by omega:k < a.hi.length)] at hc
 simp only [decide_eq_true_eq] at hc
 have hm:=he.2 a.modes[k] (List.getElem_mem (by omega))
 have e3:a.modes.getD k []=a.modes[k]'(by omega):=by rw [List.getD_eq_getElem?_getD,List.getElem?_eq_getElem (by omega)];rfl
 refine⟨⟨?_,(hs k hk).2.2⟩,?_⟩
 ·cases hx:a.modes.getD k [] with
  |nil=>rw [e3] at hx;rw [hx] at hm;simp at hm
  |cons m l=>exact⟨m,List.mem_cons_self ..,hb.ms m (by rw [hx];exact List.mem_cons_self ..)⟩
 ·rw [List.getD_eq_getElem?_getD,List.getElem?_eq_getElem (by omega:k < a.lo.length),List.getD_eq_getElem?_getD,List.getElem?_eq_getElem (by omega:k < a.hi.length)]
  simp only [Option.getD_some];omega
theorem TM {p:Proj} {a b:Dom} {r:Rul} (hfa:aC p a=true) (hfb:aC p b=true) (he:aZ a=false) (hs:fB a b p.acts.length) (hr:fG p r=true) (h:fails p b r=true):fails p a r=true:=by
 obtain⟨hp,_,_,_⟩:=eX hfa
 simp only [fG,Bool.and_eq_true] at hr
 have hr:=hr.2
 unfold fails at h ⊢
 by_cases e1:r.kind=1
 ·rw [if_pos e1] at hr h ⊢
  simp only [Bool.and_eq_true,within_iff,decide_eq_true_eq] at hr
  have hk:r.a.toNat < p.links.length:=by omega
  have el:iy p r.a=p.links[r.a.toNat]:=by unfold iy;rw [List.getD_eq_getElem?_getD,List.getElem?_eq_getElem hk];rfl
  obtain⟨hs1,hs2⟩:=Ia hp (y:=iy p r.a) (by rw [el];exact List.getElem_mem hk)
  generalize iy p r.a=y at*
  have i1:=hs _ (fI hs1).2
  have i2:=hs _ (fI hs2).2
  have hd:=pO (lU hfa he hs (fI hs1).2).1
  unfold oq at h ⊢
  have h:=of_decide_eq_true h
  refine decide_eq_true ?_
  unfold kP at h ⊢
  split at h
  ·rename_i hfe;rw [if_pos hfe];omega
  ·rename_i hfe;rw [if_neg hfe];omega
 rw [if_neg e1] at hr h ⊢
 by_cases e2:r.kind=2
 ·rw [if_pos e2] at hr h ⊢
  simp only [Bool.and_eq_true,decide_eq_true_eq] at hr
  obtain⟨h0,hk⟩:=fI hr.1.1
  have i1:=hs _ hk
  have hd:=pO (lU hfa he hs hk).1
  have h:=of_decide_eq_true h
  unfold kP at h
  exact decide_eq_true (by unfold kP;omega)
 rw [if_neg e2] at hr h ⊢
 by_cases e3:r.kind=3
 ·rw [if_pos e3] at hr h ⊢
  simp only [Bool.and_eq_true,decide_eq_true_eq,bC,within_iff] at hr
  have hk:0≤r.a∧r.a.toNat < p.bB.length:=by have:=hr.1.1;simp only [dV,within_iff] at this;omega
  have h:=of_decide_eq_true h
  refine decide_eq_true (Int.lt_of_lt_of_le h ?_)
  unfold Ed
  refine sumTo_le fun k hkn=>?_
  have i1:=hs k hkn
  have hm:=(lU hfa he hs hkn).1
  have hd:=pO hm
  have hu:=zn hp hkn hk hm
  have hn:=VK hp hkn r.a (a.modes.getD k [])
  unfold sU kP
  split
  ·rename_i hc
   rw [if_pos (by omega)];exact hu
  ·split
   ·exact hn
   ·exact Int.le_refl _
 rw [if_neg e3] at hr h ⊢
 by_cases e4:r.kind=4
 ·rw [if_pos e4] at hr h ⊢
  simp only [Bool.and_eq_true,decide_eq_true_eq,bC,within_iff] at hr
  have h:=of_decide_eq_true h
  refine decide_eq_true (Int.lt_of_lt_of_le h ?_)
  unfold oo
  refine sumTo_le fun k hkn=>?_
  have i1:=hs k hkn
  obtain⟨hm,hlh⟩:=lU hfa he hs hkn
  have ga:=lq hfa hkn
  have gb:=lq hfb hkn
  unfold mg
  refine Gy ?_ fun x hx=>?_
  ·obtain⟨m,h1,_⟩:=hm.ne
   intro e
   have:iB p a k r.a r.b r.c m∈(a.modes.getD k []).map (iB p a k r.a r.b r.c):=List.mem_map.2 ⟨m,h1,rfl⟩
   rw [e] at this;cases this
  ·obtain⟨m,h1,rfl⟩:=List.mem_map.1 hx
   refine⟨_,List.mem_map.2 ⟨m,hm.sub m h1,rfl⟩,?_⟩
   obtain⟨m0,m1⟩:=ga.ms m h1
   have hmm:(bf p k).modes.getD m.toNat ⟨0,[],[]⟩∈(bf p k).modes:=by
    rw [List.getD_eq_getElem?_getD,List.getElem?_eq_getElem m1];exact List.getElem_mem m1
   have hok:=pK hp hkn hmm
   have hu:=(tL (wS hok).1 r.a.toNat).1
   simp only [jC,Bool.and_eq_true,within_iff] at hok
   have k1:=ga.l1;have k2:=ga.l2;have k3:=ga.h1;have k4:=ga.h2
   have j1:=gb.l1;have j2:=gb.l2;have j3:=gb.h1;have j4:=gb.h2
   unfold iB
   dsimp only
   generalize (bf p k).modes.getD m.toNat ⟨0,[],[]⟩=mo at*
   have d1:=hok.1.1.1;have d2:=hok.1.1.2
   rw [jF ⟨k1,k2⟩ ⟨d1,by omega⟩ ⟨by omega,by omega⟩ ⟨by omega,by omega⟩,jF ⟨k3,k4⟩ ⟨d1,by omega⟩ ⟨by omega,by omega⟩ ⟨by omega,by omega⟩,
    jF ⟨j1,j2⟩ ⟨d1,by omega⟩ ⟨by omega,by omega⟩ ⟨by omega,by omega⟩,jF ⟨j3,j4⟩ ⟨d1,by omega⟩ ⟨by omega,by omega⟩ ⟨by omega,by omega⟩]
   refine Int.mul_le_mul_of_nonneg_right ?_ hu
   omega
 rw [if_neg e4] at hr h ⊢
 by_cases e5:r.kind=5
 ·rw [if_pos e5] at hr h ⊢
  simp only [Bool.and_eq_true,decide_eq_true_eq] at hr
  obtain⟨⟨⟨hm,hb⟩,hc⟩,hlt⟩:=hr
  have hk:0≤r.a∧r.a.toNat < p.bB.length:=by have:=hm;simp only [fA,dV,Bool.and_eq_true,within_iff] at this;omega
  obtain⟨b0,hb⟩:=fI hb
  obtain⟨c0,hc⟩:=fI hc
  have i1:=hs _ hb
  have i2:=hs _ hc
  have s1:=(lU hfa he hs hb).1
  have s2:=(lU hfa he hs hc).1
  have u1:=zn hp hb hk s1
  have u2:=zn hp hc hk s2
  have d1:=pO s1
  have d2:=pO s2
  unfold jam at h ⊢
  simp only [Bool.and_eq_true] at h ⊢
  obtain⟨⟨⟨q1,q2⟩,q3⟩,q4⟩:=h
  replace q1:=of_decide_eq_true q1
  replace q2:=of_decide_eq_true q2
  replace q3:=of_decide_eq_true q3
  replace q4:=of_decide_eq_true q4
  unfold jT kP at q3 q4
  exact⟨⟨⟨decide_eq_true (by omega),decide_eq_true (by omega)⟩,decide_eq_true (by unfold jT kP;omega)⟩,decide_eq_true (by unfold jT kP;omega)⟩
 rw [if_neg e5] at hr h ⊢
 by_cases e6:r.kind=6
 ·rw [if_pos e6] at hr
  simp only [Bool.and_eq_true,decide_eq_true_eq] at hr
  have hk:0≤r.a∧r.a.toNat < p.aY.length:=by have:=hr.1.1;simp only [iO,within_iff] at this;omega
  simp only [mU,decide_eq_true_eq] at h ⊢
  refine Int.lt_of_lt_of_le h (sumTo_le fun k hkn=>?_)
  exact RU hp hkn hk (lU hfa he hs hkn).1
 ·rw [if_neg e6] at hr;cases hr
theorem TN {p:Proj} {a b:Dom} (hfa:aC p a=true) (hfb:aC p b=true) (hs:fB a b p.acts.length) (h:aZ b=true):aZ a=true:=by
 cases he:aZ a with
 |true=>rfl
 |false=>
  exfalso
  obtain⟨hp,h1,h2,h3⟩:=eX hfb
  simp only [aZ,Bool.or_eq_true,List.any_eq_true,List.mem_range] at h
  rcases h with⟨i,hi,hc⟩|⟨m,hm,hl⟩
  ·have:=hs i (by omega)
   have h5:=(lU hfa he hs (show i < p.acts.length by omega)).2
   unfold jS at hc
   rw [List.getElem?_eq_getElem (by omega:i < b.lo.length),List.getElem?_eq_getElem (by omega:i < b.hi.length)] at hc
   have hc:=of_decide_eq_true hc
   rw [List.getD_eq_getElem?_getD (l:=b.lo),List.getElem?_eq_getElem (by omega:i < b.lo.length),List.getD_eq_getElem?_getD (l:=b.hi),List.getElem?_eq_getElem (by omega:i < b.hi.length)] at this
   simp only [Option.getD_some] at this
   omega
  ·obtain⟨i,hi,rfl⟩:=List.getElem_of_mem hm
   obtain⟨m,g1,g2⟩:=(lU hfa he hs (show i < p.acts.length by omega)).1.ne
   have:=(hs i (by omega)).2.2 m g1
   rw [List.getD_eq_getElem?_getD,List.getElem?_eq_getElem hi] at this
   simp only [decide_eq_true_eq] at hl
   simp only [Option.getD_some] at this
   have:=List.length_pos_of_mem this
   omega
theorem Pw {p:Proj} {a b:Dom} {r:Rul} (hfa:aC p a=true) (hs:fB a b p.acts.length) (h:refutes p b r=true):refutes p a r=true:=by
 simp only [refutes,Bool.and_eq_true,Bool.or_eq_true] at h ⊢
 obtain⟨hfb,h⟩:=h
 refine⟨hfa,?_⟩
 cases he:aZ a with
 |true=>exact .inl rfl
 |false=>
  rcases h with h|⟨hr,h⟩
  ·rw [TN hfa hfb hs h] at he;cases he
  ·exact .inr ⟨hr,TM hfa hfb he hs hr h⟩
theorem qL (b:Dom) (l:Lit) {n:Nat} (hl:uG b n):fB (restrict b l) b n:=by
 obtain⟨h1,h2,h3⟩:=hl
 intro k hk
 unfold restrict
 split
 ·rename_i hd
  simp only [gH,Bool.and_eq_true,decide_eq_true_eq] at hd
  dsimp only
  split
  ·refine⟨?_,Int.le_refl _,fun _ h=>h⟩
   by_cases ek:l.act.toNat=k
   ·subst ek;rw [dJ (by omega)];omega
   ·rw [getD_set_ne ek];exact Int.le_refl _
  split
  ·refine⟨Int.le_refl _,?_,fun _ h=>h⟩
   by_cases ek:l.act.toNat=k
   ·subst ek;rw [dJ (by omega)];omega
   ·rw [getD_set_ne ek];exact Int.le_refl _
  split
  ·refine⟨Int.le_refl _,Int.le_refl _,fun m hm=>?_⟩
   by_cases ek:l.act.toNat=k
   ·subst ek;rw [dJ (by omega)] at hm;exact (List.mem_filter.1 hm).1
   ·rw [getD_set_ne ek] at hm;exact hm
  split
  ·refine⟨Int.le_refl _,Int.le_refl _,fun m hm=>?_⟩
   by_cases ek:l.act.toNat=k
   ·subst ek;rw [dJ (by omega)] at hm;exact (List.mem_filter.1 hm).1
   ·rw [getD_set_ne ek] at hm;exact hm
  ·exact⟨Int.le_refl _,Int.le_refl _,fun _ h=>h⟩
 ·exact⟨Int.le_refl _,Int.le_refl _,fun _ h=>h⟩
theorem EW {a b c:Dom} {l:Lit} {n:Nat} (hb:uG b n) (hc:uG c n) (h1:fB a b n) (h2:fB a (restrict c l) n):fB a (restrict b l) n:=by
 obtain⟨b1,b2,b3⟩:=hb
 obtain⟨c1,c2,c3⟩:=hc
 intro k hk
 have k1:=h1 k hk
 have k2:=h2 k hk
 have hdd:gH b l.act=gH c l.act:=by unfold gH;rw [b1,b2,b3,c1,c2,c3]
 unfold restrict at k2 ⊢
 rw [hdd]
 split
 ·rename_i hd
  rw [if_pos hd] at k2
  have hd':=hd
  simp only [gH,Bool.and_eq_true,decide_eq_true_eq] at hd'
  dsimp only at k2 ⊢
  by_cases ek:l.act.toNat=k
  ·subst ek
   split
   ·rename_i e;rw [if_pos e] at k2;dsimp only at k2 ⊢
    rw [dJ (by omega)] at k2 ⊢
    exact⟨by omega,k1.2⟩
   rename_i e1;rw [if_neg e1] at k2
   split
   ·rename_i e;rw [if_pos e] at k2;dsimp only at k2 ⊢
    rw [dJ (by omega)] at k2 ⊢
    exact⟨k1.1,by omega,k1.2.2⟩
   rename_i e2;rw [if_neg e2] at k2
   split
   ·rename_i e;rw [if_pos e] at k2;dsimp only at k2 ⊢
    rw [dJ (by omega)] at k2 ⊢
    exact⟨k1.1,k1.2.1,fun m hm=>List.mem_filter.2 ⟨k1.2.2 m hm,(List.mem_filter.1 (k2.2.2 m hm)).2⟩⟩
   rename_i e3;rw [if_neg e3] at k2
   split
   ·rename_i e;rw [if_pos e] at k2;dsimp only at k2 ⊢
    rw [dJ (by omega)] at k2 ⊢
    exact⟨k1.1,k1.2.1,fun m hm=>List.mem_filter.2 ⟨k1.2.2 m hm,(List.mem_filter.1 (k2.2.2 m hm)).2⟩⟩
   ·exact k1
  ·split
   ·dsimp only;rw [getD_set_ne ek];exact k1
   split
   ·dsimp only;rw [getD_set_ne ek];exact k1
   split
   ·dsimp only;rw [getD_set_ne ek];exact k1
   split
   ·dsimp only;rw [getD_set_ne ek];exact k1
   ·exact k1
 ·exact k1
theorem tN {n:Nat}:∀(l:List Lit) (b:Dom),uG b n→uG (against b l) n∧fB (against b l) b n
 |[],b,h=>⟨h,fB.refl _ _⟩
 |x::l,b,h=>by
  obtain⟨h1,h2⟩:=tN l (restrict b (negate x)) (jX h _)
  exact⟨h1,h2.trans (qL b _ h)⟩
theorem wT {n:Nat}:∀(l:List Lit) (b:Dom),uG b n→∀x∈l,fB (against b l) (restrict b (negate x)) n
 |[],b,h,x,hx=>by cases hx
 |y::l,b,h,x,hx=>by
  rcases List.mem_cons.1 hx with rfl|hx
  ·exact (tN l _ (jX h _)).2
  ·have h1:=wT l (restrict b (negate y)) (jX h _) x hx
   have h2:=(tN l (restrict b (negate y)) (jX h _)).2
   exact EW h (jX h _) (h2.trans (qL b _ h)) h1
end Go.Proofs.YtefgamefajmdkaaGreat.Abs
