/- Contracts: usage and work in domains. -/
import Derived.Test.YtmenphiahgkjkaaGreatDoorCx
set_option linter.all false
set_option maxRecDepth 20000
set_option maxHeartbeats 0
namespace Go.Proofs.YtmenphiahgkjkaaGreatDoor.Abs
open Go.Proofs
structure YX (p:Proj):Prop where
 dead:1≤p.dead∧p.dead≤60
 KS:1≤p.acts.length∧p.acts.length≤6
 act:∀(k:Nat) (a:aC),p.acts[k]? =some a→dD a p.bB.length p.aW.length=true
 res:∀(k:Nat) (x:dR),p.bB[k]? =some x→qC x=true
 Ie:∀(k:Nat) (x:Int),p.aW[k]? =some x→0≤x∧x≤100
 link:∀(k:Nat) (x:Link),p.links[k]? =some x→qX p x=true
theorem fG {p:Proj} (h:aL p=true):YX p:=by
 simp only [aL,xB,Bool.and_eq_true,bX,List.all_eq_true,within_iff,Bool.not_eq_true',decide_eq_false_iff_not] at h
 obtain⟨⟨⟨⟨h1,h2⟩,h3⟩,h4⟩,h5⟩:=h
 refine⟨h1.1.1.1.1,by omega,fun k a ha=>?_,fun k x hx=>h3 x (List.mem_of_getElem? hx),fun k x hx=>h4 x (List.mem_of_getElem? hx),fun k x hx=>h5 x (List.mem_of_getElem? hx)⟩
 have hk:=(List.getElem?_eq_some_iff.1 ha).1
 have:=h2 k hk
 simp only [Ep,ha,Bool.and_eq_true] at this
 exact this.1
theorem bZ {p:Proj} {b:Dom} (h:ak p b=true):aL p=true∧b.lo.length=p.acts.length∧b.hi.length=p.acts.length∧b.modes.length=p.acts.length∧∀k,k < p.acts.length→rD p b k=true:=by
 simp only [ak,Bool.and_eq_true,bX,Bool.not_eq_true',decide_eq_false_iff_not] at h
 obtain⟨⟨⟨⟨h1,h2⟩,h3⟩,h4⟩,h5⟩:=h
 exact⟨h1,by omega,by omega,by omega,h5⟩
structure fV (p:Proj) (b:Dom) (k:Nat) (a:aC) (x y:Int) (m:List Int):Prop where
 act:p.acts[k]? =some a
 lo:b.lo[k]? =some x
 hi:b.hi[k]? =some y
 modes:b.modes[k]? =some m
 lob: -2≤x∧x≤62
 hib: -2≤y∧y≤62
 mok:uE m=true
 aah:∀n∈m,∃j:Nat,n=j∧j < a.modes.length
 aok:dD a p.bB.length p.aW.length=true
theorem xK {c:Nat} {n:Int} (h:n∈aO c):∃j:Nat,n=j∧j < c:=by
 unfold aO at h
 split at h
 ·simp only [List.mem_map,List.mem_range] at h
  obtain⟨j,hj,rfl⟩:=h
  exact⟨j,rfl,by omega⟩
 ·simp at h
theorem dL {p:Proj} {b:Dom} (h:ak p b=true) {k:Nat} (hk:k < p.acts.length):∃a x y m,fV p b k a x y m:=by
 obtain⟨h1,h2,h3,h4,h5⟩:=bZ h
 have e1:p.acts[k]? =some (p.acts[k]'hk):=by simp
 have e2:b.lo[k]? =some (b.lo[k]'(by omega)):=by simp
 have e3:b.hi[k]? =some (b.hi[k]'(by omega)):=by simp
 have e4:b.modes[k]? =some (b.modes[k]'(by omega)):=by simp
 have hd:=h5 k hk
 simp only [rD,e1,e2,e3,e4,Bool.and_eq_true,oG,within_iff,subset,List.all_eq_true] at hd
 exact⟨_,_,_,_,e1,e2,e3,e4,hd.1.1.1,hd.1.1.2,hd.1.2,fun n hn=>xK (by simpa using hd.2 n hn),(fG h1).act k _ e1⟩
theorem yG {c:Int}:∀(l:List Int) (n:Int),(0≤n∧n≤c)→(∀x∈l,0≤x∧x≤c)→0≤l.foldl min n∧l.foldl min n≤c
 |[],n,h,_=>h
 |x::r,n,h,h'=>yG r (min n x) (by have:=h' x (by simp);omega) (fun y hy=>h' y (by simp [hy]))
theorem zH {c:Int} {l:List Int} (hc:0≤c) (h:∀x∈l,0≤x∧x≤c):0≤least l∧least l≤c:=by
 cases l with
 |nil=>exact⟨Int.le_refl _,hc⟩
 |cons x r=>exact yG r x (h x (by simp)) (fun y hy=>h y (by simp [hy]))
theorem kE {a:aC} {r s:Int} (h:dD a r s=true) {m:Mode} (hm:m∈a.modes):(1≤m.dur∧m.dur≤12)∧(∀x∈m.use,0≤x∧x≤20)∧(m.use.length:Int)=r∧(∀x∈m.con,0≤x∧x≤20)∧(m.con.length:Int)=s:=by
 simp only [dD,Bool.and_eq_true,List.all_eq_true,kW,dX,mU,within_iff,decide_eq_true_eq] at h
 have:=h.1 m hm
 exact⟨this.1.1,this.1.2.1,this.1.2.2,this.2.1,this.2.2⟩
theorem rQ {a:aC} {r s:Int} (h:dD a r s=true) (ms:List Int):0≤vF a ms∧vF a ms≤12:=by
 refine zH (by omega) fun x hx=>?_
 obtain⟨m,hm,rfl⟩:=List.mem_map.1 hx
 have:=(kE h (xJ hm)).1
 omega
theorem yH {c:Int} {l:List Int} (hc:0≤c) (h:∀x∈l,0≤x∧x≤c) (i:Int):0≤(dY l i).getD 0∧(dY l i).getD 0≤c:=by
 by_cases hw:within i 0 (l.length - 1)=true
 ·obtain⟨n,x,_,hx,e⟩:=BQ hw
  rw [e];exact h x (List.mem_of_getElem? hx)
 ·rw [dY,if_neg hw];exact⟨Int.le_refl _,hc⟩
theorem BX {c:Int} {l:List Mode} {f:Mode→Option Int} (hc:0≤c) (h:∀m∈l,0≤(f m).getD 0∧(f m).getD 0≤c):0≤leastOf l f∧leastOf l f≤c:=by
 unfold leastOf
 split
 ·refine zH hc fun x hx=>?_
  obtain⟨m,hm,rfl⟩:=List.mem_map.1 hx
  exact h m hm
 ·exact⟨Int.le_refl _,hc⟩
theorem EJ {a:aC} {r s:Int} (h:dD a r s=true) (ms:List Int) (i:Int):0≤je a ms i∧je a ms i≤20:=
 BX (by omega) fun m hm=>yH (by omega) (kE h (xJ hm)).2.1 i
theorem Qy {a:aC} {r s:Int} (h:dD a r s=true) (ms:List Int) (i:Int):0≤xC a ms i∧xC a ms i≤20:=
 BX (by omega) fun m hm=>yH (by omega) (kE h (xJ hm)).2.2.2.1 i
theorem qG {f:Nat→Int} {c:Int}:∀{n:Nat},(∀k,k < n→0≤f k∧f k≤c)→0≤sumTo f n∧sumTo f n≤c*n
 |0,_=>by simp [sumTo]
 |n+1,h=>by
  have h1:=qG (n:=n) fun k hk=>h k (by omega)
  have h2:=h n (by omega)
  rw [sumTo,Int.natCast_succ,Int.mul_add]
  omega
theorem zI {p:Proj} {b:Dom} {k:Nat} {a:aC} {x y:Int} {m:List Int} (h:fV p b k a x y m):mV p b k=vF a m:=by
 simp [mV,aZ,List.getD_eq_getElem?_getD,h.act,h.modes]
theorem qd (p:Proj) (b:Dom) (n:Int) {k:Nat} {a:aC} {x y:Int} {m:List Int} (h:fV p b k a x y m) (hn:n=k):Con 135 [.d p.av,.d b.av,.d (i64 n)] (.d (i64 (mV p b k))):=by
 refine con Tryz.func135 rfl rfl Tryz.call135 rfl fun hwf=>?_
 rw [zI h]
 (repeat' ((conv=>whnf);first|with_reducible refine Idx.got h.act hn ?_|with_reducible refine Idx.got h.modes hn ?_|refine gA ?_|(refine gB ?_ ?_<;>intro h)|(refine gI ?_;intro x hx)|(refine gJ ?_;intro j x hj hx)|refine gC (Gz a m) ?_|intro _))<;>try (conv=>whnf)
 exact⟨rfl,rfl,trivial⟩
def aec (x y:Int):RV:=.tup [.d (i64 x),.d (i64 y)]
theorem Jh (p:Proj) (b:Dom) (n:Int) {k:Nat} {a:aC} {x y:Int} {m:List Int} (h:fV p b k a x y m) (hn:n=k):Con 172 [.d p.av,.d b.av,.d (i64 n)] (aec y (x+mV p b k)):=by
 refine con Tryz.func172 rfl rfl Tryz.call172 rfl fun hwf=>?_
 have hd:=rQ h.aok m
 rw [← zI h] at hd
 have:=h.lob
 (repeat' ((conv=>whnf);first|with_reducible refine Idx.got h.lo hn ?_|with_reducible refine Idx.got h.hi hn ?_|refine gA ?_|(refine gB ?_ ?_<;>intro h)|(refine gI ?_;intro x hx)|(refine gJ ?_;intro j x hj hx)|refine gV ?_|refine gC (qd p b n h hn) ?_|intro _))<;>try (conv=>whnf)
 exact fv
theorem Tm {p:Proj} {b:Dom} (hf:ak p b=true) (r t:Int) {k:Nat} (hk:k < p.acts.length):0≤zx p b r t k∧zx p b r t k≤20:=by
 obtain⟨a,x,y,m,h⟩:=dL hf hk
 unfold zx
 split
 ·simp only [aZ,List.getD_eq_getElem?_getD,h.act,h.modes,Option.getD_some];exact EJ h.aok _ _
 ·omega
theorem MU {p:Proj} {b:Dom} (hf:ak p b=true) (r t:Int) {k:Nat} (hk:k≤p.acts.length):0≤sumTo (zx p b r t) k∧sumTo (zx p b r t) k≤20*k:=
 qG fun i hi=>Tm hf r t (by omega)
theorem zJ (p:Proj) (b:Dom) (r t:Int) (hf:ak p b=true):Con 136 [.d p.av,.d b.av,.d (i64 r),.d (i64 t)] (.d (i64 (Ju p b r t))):=by
 refine con Tryz.func136 rfl rfl Tryz.call136 rfl fun hwf=>?_
 simp only [ARs.wf,AR.wf,AV.wf,AV.wfs,lm,lim] at hwf
 (repeat' ((conv=>whnf);first|refine gA ?_|(refine gB ?_ ?_<;>intro h)|(refine gI ?_;intro x hx)|(refine gJ ?_;intro j x hj hx)|refine gV ?_|intro _))<;>try (conv=>whnf)
 refine aB [2,3,4,5,15,16] [4,5] [] ?_
 (conv=>whnf)
 refine aA.go ((Nat)×(Int)) (fun⟨k,s⟩=>(k≤p.acts.length)∧(s=sumTo (zx p b r t) k)) (fun⟨k,s⟩=>[(17,.data (i64 k)),(9,.data (i64 s))]) (fun _=>[]) (fun _=>[]) (fun⟨k,s⟩=>p.acts.length - k) ⟨0,0⟩ ?_ ?_
 ·exact⟨by omega,rfl⟩
 rintro⟨k,s⟩ ⟨hk,hs⟩
 by_cases hlt:k < p.acts.length
 ·obtain⟨a,x,y,m,hg⟩:=dL hf hlt
  have hu:=EJ hg.aok m r
  have hb:=MU hf r t hk
  have ha:=hg.act
  have hm:=hg.modes
  have e:zx p b r t k=if y≤t∧t < x+mV p b k then je a m r else 0:=by
   simp [zx,aZ,List.getD_eq_getElem?_getD,hg.act,hg.lo,hg.hi,hg.modes]
  (repeat' ((conv=>whnf);first|with_reducible refine Idx.got ha rfl ?_|with_reducible refine Idx.got hm rfl ?_|refine gA ?_|(refine gB ?_ ?_<;>intro h)|(refine gI ?_;intro x hx)|(refine gJ ?_;intro j x hj hx)|refine gV ?_|refine gC (Jh p b _ hg rfl) ?_|refine gC (BR a m r) ?_|intro _))<;>try (conv=>whnf)
  all_goals first
   |(exfalso;omega)
   |(refine nx ⟨k+1,s+je a m r⟩ ?_
     refine⟨by omega,?_⟩
     rw [sumTo,e,if_pos (by omega),hs];done)
   |(refine nx ⟨k+1,s⟩ ?_
     refine⟨by omega,?_⟩
     rw [sumTo,e,if_neg (by omega),hs];simp;done)
 ·(repeat' ((conv=>whnf);first|(exfalso;omega)|refine gA ?_|(refine gB ?_ ?_<;>intro h)|(refine gI ?_;intro x hx)|(refine gJ ?_;intro j x hj hx)|refine gV ?_|intro _))<;>try (conv=>whnf)
  refine⟨?_,rfl,trivial⟩
  rw [hs,show k=p.acts.length by omega];rfl
end Go.Proofs.YtmenphiahgkjkaaGreatDoor.Abs
