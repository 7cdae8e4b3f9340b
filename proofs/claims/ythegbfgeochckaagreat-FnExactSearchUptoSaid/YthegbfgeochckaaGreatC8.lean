/- Part of a proof. -/
import Derived.Test.YthegbfgeochckaaGreatC7b
set_option linter.all false
set_option maxRecDepth 20000
set_option maxHeartbeats 0
namespace Go.Proofs.YthegbfgeochckaaGreat.Abs
open Go.Proofs
structure ady (p:Proj):Prop where
 dead:1<=p.dead/\p.dead<=60
 Cy:1<=p.acts.length/\p.acts.length<=6
 act:∀(k:Nat) (a:aB),p.acts[k]? =some a->dV a p.aS.length p.aH.length=true
 res:∀(k:Nat) (x:aK),p.aS[k]? =some x->sF x=true
 Cz:∀(k:Nat) (x:Int),p.aH[k]? =some x->0<=x/\x<=100
 link:∀(k:Nat) (x:Link),p.links[k]? =some x->nM p x=true
theorem bX {p:Proj} (h:bI p=true):ady p:=by
 simp only [bI,wH,Bool.and_eq_true,dB,List.all_eq_true,within_iff,Bool.not_eq_true',decide_eq_false_iff_not] at h
 obtain⟨⟨⟨⟨h1,h2⟩,h3⟩,h4⟩,h5⟩:=h
 refine⟨h1.1.1.1.1,by omega,fun k a ha=>?_,fun k x hx=>h3 x (List.mem_of_getElem? hx),fun k x hx=>h4 x (List.mem_of_getElem? hx),fun k x hx=>h5 x (List.mem_of_getElem? hx)⟩
 have hk:=(List.getElem?_eq_some_iff.1 ha).1
 have:=h2 k hk
 simp only [Bp,ha,Bool.and_eq_true] at this
 exact this.1
theorem bA {p:Proj} {b:Dom} (h:aW p b=true):bI p=true/\b.lo.length=p.acts.length/\b.hi.length=p.acts.length/\b.modes.length=p.acts.length/\∀k,k < p.acts.length->uD p b k=true:=by
 simp only [aW,Bool.and_eq_true,dB,Bool.not_eq_true',decide_eq_false_iff_not] at h
 obtain⟨⟨⟨⟨h1,h2⟩,h3⟩,h4⟩,h5⟩:=h
 exact⟨h1,by omega,by omega,by omega,h5⟩
structure eG (p:Proj) (b:Dom) (k:Nat) (a:aB) (x y:Int) (m:List Int):Prop where
 act:p.acts[k]? =some a
 lo:b.lo[k]? =some x
 hi:b.hi[k]? =some y
 modes:b.modes[k]? =some m
 lob: -2<=x/\x<=62
 hib: -2<=y/\y<=62
 mok:jU m=true
 aeP:∀n∈m,∃j:Nat,n=j/\j < a.modes.length
 aok:dV a p.aS.length p.aH.length=true
theorem Ak {c:Nat} {n:Int} (h:n∈aT c):∃j:Nat,n=j/\j < c:=by
 unfold aT at h
 split at h
 ·simp only [List.mem_map,List.mem_range] at h
  obtain⟨j,hj,rfl⟩:=h
  exact⟨j,rfl,by omega⟩
 ·simp at h
theorem dN {p:Proj} {b:Dom} (h:aW p b=true) {k:Nat} (hk:k < p.acts.length):∃a x y m,eG p b k a x y m:=by
 obtain⟨h1,h2,h3,h4,h5⟩:=bA h
 have e1:p.acts[k]? =some (p.acts[k]'hk):=by simp
 have e2:b.lo[k]? =some (b.lo[k]'(by omega)):=by simp
 have e3:b.hi[k]? =some (b.hi[k]'(by omega)):=by simp
 have e4:b.modes[k]? =some (b.modes[k]'(by omega)):=by simp
 have hd:=h5 k hk
 simp only [uD,e1,e2,e3,e4,Bool.and_eq_true,rz,within_iff,subset,List.all_eq_true] at hd
 exact⟨_,_,_,_,e1,e2,e3,e4,hd.1.1.1,hd.1.1.2,hd.1.2,fun n hn=>Ak (by simpa using hd.2 n hn),(bX h1).act k _ e1⟩
theorem Bt {c:Int}:∀(l:List Int) (n:Int),(0<=n/\n<=c)->(∀x∈l,0<=x/\x<=c)->0<=l.foldl min n/\l.foldl min n<=c
 |[],n,h,_=>h
 |x::r,n,h,h'=>Bt r (min n x) (by have:=h' x (by simp);omega) (fun y hy=>h' y (by simp [hy]))
theorem xS {c:Int} {l:List Int} (hc:0<=c) (h:∀x∈l,0<=x/\x<=c):0<=least l/\least l<=c:=by
 cases l with
 |nil=>exact⟨Int.le_refl _,hc⟩
 |cons x r=>exact Bt r x (h x (by simp)) (fun y hy=>h y (by simp [hy]))
theorem mQ {a:aB} {r s:Int} (h:dV a r s=true) {m:Mode} (hm:m∈a.modes):(1<=m.dur/\m.dur<=12)/\(∀x∈m.use,0<=x/\x<=20)/\(m.use.length:Int)=r/\(∀x∈m.con,0<=x/\x<=20)/\(m.con.length:Int)=s:=by
 simp only [dV,Bool.and_eq_true,List.all_eq_true,yF,eZ,iA,within_iff,decide_eq_true_eq] at h
 have:=h.1 m hm
 exact⟨this.1.1,this.1.2.1,this.1.2.2,this.2.1,this.2.2⟩
theorem kX {a:aB} {r s:Int} (h:dV a r s=true) (ms:List Int):0<=yG a ms/\yG a ms<=12:=by
 refine xS (by omega) fun x hx=>?_
 obtain⟨m,hm,rfl⟩:=List.mem_map.1 hx
 have:=(mQ h (Aj hm)).1
 omega
theorem Bu {c:Int} {l:List Int} (hc:0<=c) (h:∀x∈l,0<=x/\x<=c) (i:Int):0<=(fH l i).getD 0/\(fH l i).getD 0<=c:=by
 by_cases hw:within i 0 (l.length - 1)=true
 ·obtain⟨n,x,_,hx,e⟩:=tV hw
  rw [e];exact h x (List.mem_of_getElem? hx)
 ·rw [fH,if_neg hw];exact⟨Int.le_refl _,hc⟩
theorem Fq {c:Int} {l:List Mode} {f:Mode->Option Int} (hc:0<=c) (h:∀m∈l,0<=(f m).getD 0/\(f m).getD 0<=c):0<=leastOf l f/\leastOf l f<=c:=by
 unfold leastOf
 split
 ·refine xS hc fun x hx=>?_
  obtain⟨m,hm,rfl⟩:=List.mem_map.1 hx
  exact h m hm
 ·exact⟨Int.le_refl _,hc⟩
theorem Al {a:aB} {r s:Int} (h:dV a r s=true) (ms:List Int) (i:Int):0<=lK a ms i/\lK a ms i<=20:=
 Fq (by omega) fun m hm=>Bu (by omega) (mQ h (Aj hm)).2.1 i
theorem UN {a:aB} {r s:Int} (h:dV a r s=true) (ms:List Int) (i:Int):0<=Cj a ms i/\Cj a ms i<=20:=
 Fq (by omega) fun m hm=>Bu (by omega) (mQ h (Aj hm)).2.2.2.1 i
theorem kY {f:Nat->Int} {c:Int}:∀{n:Nat},(∀k,k < n->0<=f k/\f k<=c)->0<=sumTo f n/\sumTo f n<=c*n
 |0,_=>by simp [sumTo]
 |n+1,h=>by
  have h1:=kY (n:=n) fun k hk=>h k (by omega)
  have h2:=h n (by omega)
  rw [sumTo,Int.natCast_succ,Int.mul_add]
  omega
theorem qg {p:Proj} {b:Dom} {k:Nat} {a:aB} {x y:Int} {m:List Int} (h:eG p b k a x y m):zm p b k=yG a m:=by
 simp [zm,nQ,List.getD_eq_getElem?_getD,h.act,h.modes]
theorem tX (p:Proj) (b:Dom) (n:Int) {k:Nat} {a:aB} {x y:Int} {m:List Int} (h:eG p b k a x y m) (hn:n=k):Con 294 [.d p.av,.d b.av,.d (i64 n)] (.d (i64 (zm p b k))):=by
 refine con Tryz.func294 rfl rfl Tryz.call294 rfl fun hwf=>?_
 rw [qg h]
 (repeat' ((conv=>whnf);first|(with_reducible first|refine Idx.got h.act hn ?_|refine Idx.got h.modes hn ?_)|refine gA ?_|refine gC (Ku a m) ?_|intro _))
 exact⟨rfl,rfl,trivial⟩
theorem tY (p:Proj) (b:Dom) (n:Int) {k:Nat} {a:aB} {x y:Int} {m:List Int} (h:eG p b k a x y m) (hn:n=k):Con 266 [.d p.av,.d b.av,.d (i64 n)] (.d (i64 (zm p b k))):=by
 refine con Tryz.func266 rfl rfl Tryz.call266 rfl fun hwf=>?_
 rw [qg h]
 (repeat' ((conv=>whnf);first|(with_reducible first|refine Idx.got h.act hn ?_|refine Idx.got h.modes hn ?_)|refine gA ?_|refine gC (Kv a m) ?_|intro _))
 exact⟨rfl,rfl,trivial⟩
def ajp (x y:Int):RV:=.tup [.d (i64 x),.d (i64 y)]
theorem MB (p:Proj) (b:Dom) (n:Int) {k:Nat} {a:aB} {x y:Int} {m:List Int} (h:eG p b k a x y m) (hn:n=k):Con 345 [.d p.av,.d b.av,.d (i64 n)] (ajp y (x+zm p b k)):=by
 refine con Tryz.func345 rfl rfl Tryz.call345 rfl fun hwf=>?_
 have hd:=kX h.aok m
 rw [<- qg h] at hd
 have:=h.lob
 (repeat' ((conv=>whnf);first|(with_reducible first|refine Idx.got h.lo hn ?_|refine Idx.got h.hi hn ?_)|refine gA ?_|refine gC (tX p b n h hn) ?_|intro _))
 exact fv
theorem Xq {p:Proj} {b:Dom} (hf:aW p b=true) (r t:Int) {k:Nat} (hk:k < p.acts.length):0<=Bq p b r t k/\Bq p b r t k<=20:=by
 obtain⟨a,x,y,m,h⟩:=dN hf hk
 unfold Bq
 split
 ·simp only [nQ,List.getD_eq_getElem?_getD,h.act,h.modes,Option.getD_some];exact Al h.aok _ _
 ·omega
theorem Fu {p:Proj} {b:Dom} (hf:aW p b=true) (r t:Int) {k:Nat} (hk:k<=p.acts.length):0<=sumTo (Bq p b r t) k/\sumTo (Bq p b r t) k<=20*k:=
 kY fun i hi=>Xq hf r t (by omega)
theorem CB (p:Proj) (b:Dom) (r t:Int) (hf:aW p b=true):Con 295 [.d p.av,.d b.av,.d (i64 r),.d (i64 t)] (.d (i64 (UF p b r t))):=by
 refine con Tryz.func295 rfl rfl Tryz.call295 rfl fun hwf=>?_
 simp only [ARs.wf,AR.wf,AV.wf,AV.wfs,lm,lim] at hwf
 try (conv=>whnf)
 refine ay [2,3,4,5,15,16] [4,5] [] ?_
 (conv=>whnf)
 refine au.go ((Nat)×(Int)) (fun⟨k,s⟩=>(k<=p.acts.length)/\(s=sumTo (Bq p b r t) k)) (fun⟨k,s⟩=>[(17,.data (i64 k)),(9,.data (i64 s))]) lE lE (fun⟨k,s⟩=>p.acts.length - k) ⟨0,0⟩ ?_ ?_
 ·exact⟨by omega,rfl⟩
 rintro⟨k,s⟩ ⟨hk,hs⟩
 by_cases hlt:k < p.acts.length
 ·obtain⟨a,x,y,m,hg⟩:=dN hf hlt
  have hu:=Al hg.aok m r
  have hb:=Fu hf r t hk
  have ha:=hg.act
  have hm:=hg.modes
  have e:Bq p b r t k=if y<=t/\t < x+zm p b k then lK a m r else 0:=by
   simp [Bq,nQ,List.getD_eq_getElem?_getD,hg.act,hg.lo,hg.hi,hg.modes]
  (repeat' ((conv=>whnf);first|(with_reducible first|refine Idx.got ha rfl ?_|refine Idx.got hm rfl ?_)|refine gAV ?_|(refine gB ?_ ?_<;>intro h)|refine gC (MB p b _ hg rfl) ?_|refine gC (Fj a m r) ?_|intro _))<;>try (conv=>whnf)
  all_goals first
   |(exfalso;omega)
   |(refine nx ⟨k+1,s+lK a m r⟩ ?_
     refine⟨by omega,?_⟩
     rw [sumTo,e,if_pos (by omega),hs];done)
   |(refine nx ⟨k+1,s⟩ ?_
     refine⟨by omega,?_⟩
     rw [sumTo,e,if_neg (by omega),hs];simp;done)
 ·(repeat' ((conv=>whnf);first|(exfalso;omega)|(refine gB ?_ ?_<;>intro h)))<;>try (conv=>whnf)
  refine⟨?_,rfl,trivial⟩
  rw [hs,show k=p.acts.length by omega];rfl
end Go.Proofs.YthegbfgeochckaaGreat.Abs
