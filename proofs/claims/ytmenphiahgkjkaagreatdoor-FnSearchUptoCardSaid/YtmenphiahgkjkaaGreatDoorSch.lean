/- Contracts: schedules. -/
import Derived.Test.YtmenphiahgkjkaaGreatDoorC12
import Derived.Test.YtmenphiahgkjkaaGreatDoorPlain
import Derived.Test.YtmenphiahgkjkaaGreatDoorC20a
set_option linter.all false
set_option maxRecDepth 20000
set_option maxHeartbeats 0
namespace Go.Proofs.YtmenphiahgkjkaaGreatDoor.Abs
open Go.Proofs
structure Jj (p:Proj) (s:aJ) (k:Nat) (a:aC) (t m:Int) (q:Nat) (mo:Mode):Prop where
 act:p.acts[k]? =some a
 start:s.starts[k]? =some t
 mode:s.modes[k]? =some m
 mq:m=q
 moE:a.modes[q]? =some mo
 tb:0≤t∧t≤60
 aok:dD a p.bB.length p.aW.length=true
theorem jk {p:Proj} {s:aJ} (h:bG p s=true):aL p=true∧s.starts.length=p.acts.length∧s.modes.length=p.acts.length∧∀k,k < p.acts.length→xE p s k=true:=by
 simp only [bG,Bool.and_eq_true,bX,Bool.not_eq_true',decide_eq_false_iff_not] at h
 exact⟨h.1.1.1,by omega,by omega,h.2⟩
theorem Cj {p:Proj} {s:aJ} (h:bG p s=true) {k:Nat} (hk:k < p.acts.length):∃a t m q mo,Jj p s k a t m q mo:=by
 obtain⟨h1,h2,h3,h4⟩:=jk h
 have e1:p.acts[k]? =some (p.acts[k]'hk):=by simp
 have e2:s.starts[k]? =some (s.starts[k]'(by omega)):=by simp
 have e3:s.modes[k]? =some (s.modes[k]'(by omega)):=by simp
 have hd:=h4 k hk
 simp only [xE,e1,e2,e3,Bool.and_eq_true,eY,within_iff] at hd
 exact⟨_,_,_,(s.modes[k]'(by omega)).toNat,(p.acts[k]'hk).modes[(s.modes[k]'(by omega)).toNat]'(by omega),e1,e2,e3,by omega,by simp,hd.1,(fG h1).act k _ e1⟩
theorem kT (p:Proj) (s:aJ) (hp:p.fine):Con 36 [.d p.av,.d s.av] (.d (.bool (bG p s))):=by
 refine con Tryz.func36 rfl rfl Tryz.call36 rfl fun hwf=>?_
 simp only [ARs.wf,AR.wf,AV.wf,AV.wfs,lm,lim] at hwf
 (repeat' ((conv=>whnf);first|refine gA ?_|(refine gN ?_ ?_<;>intro h hw)|(refine gB ?_ ?_<;>intro h)|(refine gI ?_;intro x hx)|(refine gJ ?_;intro j x hj hx)|refine gV ?_|refine gC (bn p hp) ?_|intro _))<;>try (conv=>whnf)
 all_goals try (refine⟨?_,rfl,trivial⟩;simp [bG, *];done)
 refine aB [2,3,29] [2,3] [] ?_
 (conv=>whnf)
 refine aA.go ((Nat)) (fun k=>(k≤p.acts.length)∧(∀i,i < k→xE p s i=true)) (fun k=>[(30,.data (i64 k))]) (fun _=>[]) (fun _=>[]) (fun k=>p.acts.length - k) (0) ?_ ?_
 ·exact⟨by omega,by omega⟩
 rintro k ⟨hk,hi⟩
 by_cases hlt:k < p.acts.length
 ·obtain⟨t,e2⟩:∃x,s.starts[k]? =some x:=⟨s.starts[k]'(by omega),by simp⟩
  obtain⟨m,e3⟩:∃x,s.modes[k]? =some x:=⟨s.modes[k]'(by omega),by simp⟩
  obtain⟨a,e4⟩:∃x,p.acts[k]? =some x:=⟨p.acts[k]'(by omega),by simp⟩
  have hm:=rP hwf.1.2.1.2 e4
  simp only [AV.wf,AV.wfs,List.length_map] at hm
  have e:xE p s k=(eY t&&within m 0 (a.modes.length - 1)):=by simp only [xE,e2,e3,e4]
  (repeat' ((conv=>whnf);first|with_reducible refine Idx.got e2 rfl ?_|with_reducible refine Idx.got e3 rfl ?_|with_reducible refine Idx.got e4 rfl ?_|refine gA ?_|(refine gN ?_ ?_<;>intro h hw)|(refine gB ?_ ?_<;>intro h)|(refine gI ?_;intro x hx)|(refine gJ ?_;intro j x hj hx)|refine gV ?_|refine gC (jZ _) ?_|refine gC (aS _ _ _) ?_|intro _))<;>try (conv=>whnf)
  all_goals first
   |(exfalso;omega)
   |(refine⟨?_,rfl,trivial⟩;rw [bG,lT k hlt (by rw [e];simp [*])];simp;done)
   |(refine nx (k+1) ?_
     exact⟨by omega,lU hi (by rw [e];simp [*])⟩)
 ·(repeat' ((conv=>whnf);first|(exfalso;omega)|refine gA ?_|(refine gN ?_ ?_<;>intro h hw)|(refine gB ?_ ?_<;>intro h)|(refine gI ?_;intro x hx)|(refine gJ ?_;intro j x hj hx)|refine gV ?_|intro _))<;>try (conv=>whnf)
  refine⟨?_,rfl,trivial⟩
  rw [bG,bX.2 fun i hh=>hi i (by omega)];simp [*]
theorem pX {p:Proj} {s:aJ} {k:Nat} {a:aC} {t m:Int} {q:Nat} {mo:Mode} (g:Jj p s k a t m q mo):eZ p s k=mo:=by
 have:=g.mq;subst this
 simp [eZ,aZ,List.getD_eq_getElem?_getD,g.act,g.mode,g.moE]
theorem Fw {p:Proj} {s:aJ} {k:Nat} {a:aC} {t m:Int} {q:Nat} {mo:Mode} (g:Jj p s k a t m q mo):oH p s k=t+mo.dur:=by
 rw [oH,pX g];simp [List.getD_eq_getElem?_getD,g.start]
theorem WV {p:Proj} {s:aJ} {k:Nat} {a:aC} {t m:Int} {q:Nat} {mo:Mode} (g:Jj p s k a t m q mo):1≤mo.dur∧mo.dur≤12:=(kE g.aok (List.mem_of_getElem? g.moE)).1
theorem wJ (p:Proj) (s:aJ) (n:Int) {k:Nat} {a:aC} {t m:Int} {q:Nat} {mo:Mode} (g:Jj p s k a t m q mo) (hn:n=k):Con 145 [.d p.av,.d s.av,.d (i64 n)] (.d mo.av):=by
 refine con Tryz.func145 rfl rfl Tryz.call145 rfl fun hwf=>?_
 (repeat' ((conv=>whnf);first|with_reducible refine Idx.got g.act hn ?_|with_reducible refine Idx.got g.mode hn ?_|with_reducible refine Idx.got g.moE g.mq ?_|refine gA ?_|(refine gB ?_ ?_<;>intro h)|(refine gI ?_;intro x hx)|(refine gJ ?_;intro j x hj hx)|intro _))<;>try (conv=>whnf)
 exact⟨rfl,rfl,trivial⟩
theorem Af (p:Proj) (s:aJ) (n:Int) {k:Nat} {a:aC} {t m:Int} {q:Nat} {mo:Mode} (g:Jj p s k a t m q mo) (hn:n=k):Con 112 [.d p.av,.d s.av,.d (i64 n)] (.d (i64 (oH p s k))):=by
 refine con Tryz.func112 rfl rfl Tryz.call112 rfl fun hwf=>?_
 have hd:=WV g
 have ht:=g.tb
 rw [Fw g]
 (repeat' ((conv=>whnf);first|with_reducible refine Idx.got g.start hn ?_|refine gA ?_|(refine gB ?_ ?_<;>intro h)|(refine gI ?_;intro x hx)|(refine gJ ?_;intro j x hj hx)|refine gV ?_|refine gC (wJ p s n g hn) ?_|intro _))<;>try (conv=>whnf)
 exact⟨rfl,rfl,trivial⟩
open Go.Proofs
theorem Ub (l:List Int) (fc:Nat) (caps:List AV) (p:Int→Bool) (hc:∀n∈l,Con fc ([.d (i64 n)]++caps.map .ref) (.d (.bool (p n)))):Con 75 [.d (ints l),.fn fc caps] (.d (ints (l.filter p))):=by
 refine con Tryz.func75 rfl rfl Tryz.call75 rfl fun hwf=>?_
 simp only [ARs.wf,AR.wf,AV.wf,AV.wfs,lm,lim] at hwf
 (repeat' ((conv=>whnf);first|refine gA ?_|(refine gB ?_ ?_<;>intro h)|(refine gI ?_;intro x hx)|(refine gJ ?_;intro j x hj hx)|refine gP ?_|refine gV ?_|intro _))<;>try (conv=>whnf)
 refine aB [1,9,10] [] [8] ?_
 (conv=>whnf)
 refine aA.go ((Nat)×(List Int)) (fun⟨k,o⟩=>(k≤l.length)∧(o.length≤k)∧(o++(l.drop k).filter p=l.filter p)) (fun⟨k,o⟩=>[(11,.data (i64 k)),(5,.own 8 0)]) (fun _=>[]) (fun⟨k,o⟩=>[(8,3,o.map i64,0)]) (fun⟨k,o⟩=>l.length - k) ⟨0,[]⟩ ?_ ?_
 ·exact⟨by omega,by simp,rfl⟩
 rintro⟨k,o⟩ ⟨hk,ho,hi⟩
 by_cases hlt:k < l.length
 ·obtain⟨x,hx⟩:∃x,l[k]? =some x:=⟨l[k]'hlt,by simp⟩
  (repeat' ((conv=>whnf);first|with_reducible refine Idx.got hx rfl ?_|refine gA ?_|(refine gB ?_ ?_<;>intro h)|(refine gI ?_;intro x hx)|(refine gJ ?_;intro j x hj hx)|refine gP ?_|refine gV ?_|refine gC (hc x (List.mem_of_getElem? hx)) ?_|intro _))<;>try (conv=>whnf)
  ·refine nw ⟨k+1,o++[x]⟩ ?_ ?_
   ·(repeat' ((conv=>whnf)<;>(first|exact trivial|exact rfl|with_reducible refine And.intro ?_ ?_)))<;>((conv=>whnf)<;>(simp))
   exact⟨by omega,by simp;omega,(uJ hi hx).1 h⟩
  ·refine nx ⟨k+1,o⟩ ?_
   exact⟨by omega,by omega,(uJ hi hx).2 h⟩
  ·exfalso;omega
 ·(repeat' ((conv=>whnf);first|(exfalso;omega)|refine gA ?_|(refine gB ?_ ?_<;>intro h)|(refine gI ?_;intro x hx)|(refine gJ ?_;intro j x hj hx)|refine gP ?_|refine gV ?_|intro _))<;>try (conv=>whnf)
  refine⟨?_,rfl,trivial⟩
  rw [← hi,sW hlt];simp
def Ra (p:Proj) (s:aJ) (t:Int) (n:Int):Bool:=runs p s t n.toNat
theorem aay {p:Proj} {s:aJ} {k:Nat} {a:aC} {t m:Int} {q:Nat} {mo:Mode} (g:Jj p s k a t m q mo) (x:Int):runs p s x k=(decide (t≤x)&&decide (oH p s k > x)):=by
 simp [runs,List.getD_eq_getElem?_getD,g.start]
theorem Nj (p:Proj) (s:aJ) (t:Int) (n:Int) {k:Nat} {a:aC} {u m:Int} {q:Nat} {mo:Mode} (g:Jj p s k a u m q mo) (hn:n=k):Con 180 [.d (i64 n),.ref s.av,.ref (i64 t),.ref p.av] (.d (.bool (Ra p s t n))):=by
 refine con Tryz.func180 rfl rfl Tryz.call180 rfl fun hwf=>?_
 have e:Ra p s t n=(decide (u≤t)&&decide (oH p s k > t)):=by subst hn;rw [Ra];exact aay g t
 rw [e]
 (repeat' ((conv=>whnf);first|with_reducible refine Idx.got g.start hn ?_|refine gA ?_|(refine gB ?_ ?_<;>intro h)|(refine gI ?_;intro x hx)|(refine gJ ?_;intro j x hj hx)|refine gC (Af p s n g hn) ?_|intro _))<;>try (conv=>whnf)
 all_goals (refine⟨?_,rfl,trivial⟩;simp [*])
theorem Nk {n:Nat} (h:n≤200):aO n=upTo n:=by
 rw [aO,if_pos (within_iff.2 (by omega))];simp [upTo]
theorem Uc {n:Nat} {x:Int} (h:x∈upTo n):∃k:Nat,x=k∧k < n:=by
 simp only [upTo,List.mem_map,List.mem_range] at h
 obtain⟨k,hk,rfl⟩:=h
 exact⟨k,rfl,hk⟩
theorem Rb (p:Proj) (s:aJ) (t:Int) (hf:bG p s=true):Con 146 [.d p.av,.d s.av,.d (i64 t)] (.d (ints ((upTo p.acts.length).filter (Ra p s t)))):=by
 refine con Tryz.func146 rfl rfl Tryz.call146 rfl fun hwf=>?_
 simp only [ARs.wf,AR.wf,AV.wf,AV.wfs,lm,lim] at hwf
 have hna:=(fG (jk hf).1).KS
 have hR:=vI (p.acts.map aC.av).length
 rw [show aO (((p.acts.map aC.av).length:Nat):Int)=upTo p.acts.length by rw [List.length_map];exact Nk (by omega)] at hR
 have hc:∀n∈upTo p.acts.length,Con 180 ([.d (i64 n)]++[s.av,i64 t,p.av].map .ref) (.d (.bool (Ra p s t n))):=fun n hn=>by
  obtain⟨k,e,hk⟩:=Uc hn
  obtain⟨a,u,m,q,mo,g⟩:=Cj hf hk
  exact Nj p s t n g e
 (repeat' ((conv=>whnf);first|refine gA ?_|(refine gB ?_ ?_<;>intro h)|refine gC (hR) ?_|refine gC (Ub (upTo p.acts.length) 180 [s.av,i64 t,p.av] _ hc) ?_|intro _))<;>try (conv=>whnf)
 exact⟨rfl,rfl,trivial⟩
end Go.Proofs.YtmenphiahgkjkaaGreatDoor.Abs
namespace Go.Proofs.YtmenphiahgkjkaaGreatDoor.Abs
open Go.Proofs
theorem Fx {p:Proj} {s:aJ} {k:Nat} {a:aC} {t m:Int} {q:Nat} {mo:Mode} (g:Jj p s k a t m q mo) {r:Int} (hr:fT p r=true) (x:Int):
  ∃(ρ:Nat) (u:Int),r=ρ∧mo.use[ρ]? =some u∧(0≤u∧u≤20)∧Es p s r x k=if runs p s x k=true then u else 0:=by
 have hm:=kE g.aok (List.mem_of_getElem? g.moE)
 have hw:=within_iff.1 hr
 have e2:mo.use[r.toNat]? =some (mo.use[r.toNat]'(by omega)):=by simp
 refine⟨r.toNat,_,by omega,e2,hm.2.1 _ (List.mem_of_getElem? e2),?_⟩
 rw [Es,pX g,List.getD_eq_getElem?_getD,e2];rfl
def qo (f:Int→Int):List Int→Int→Int
 |[],s=>s
 |x::r,s=>qo f r (s+f x)
theorem IE (f:Int→Int):∀(l m:List Int) (s:Int),qo f (l++m) s=qo f m (qo f l s)
 |[],_,_=>rfl
 |x::l,m,s=>IE f l m (s+f x)
theorem Fy {f:Int→Int} {P:Int→Bool} {g:Nat→Int}:∀(n:Nat),(∀k,k < n→g k=if P k=true then f k else 0)→qo f ((upTo n).filter P) 0=sumTo g n
 |0,_=>rfl
 |n+1,h=>by
  have e:upTo (n+1)=upTo n++[(n:Int)]:=by simp [upTo,List.range_succ]
  rw [e,List.filter_append,IE,Fy n fun k hk=>h k (by omega),sumTo,h n (by omega)]
  by_cases hp:P n=true
  ·rw [if_pos hp,List.filter_cons,if_pos hp];rfl
  ·rw [if_neg hp,List.filter_cons,if_neg hp];simp [qo]
def FB (p:Proj) (s:aJ) (r:Int) (n:Int):Int:=(eZ p s n.toNat).use.getD r.toNat 0
theorem XR {p:Proj} {s:aJ} (hf:bG p s=true) (r t:Int):qo (FB p s r) ((upTo p.acts.length).filter (Ra p s t)) 0=AJ p s r t:=
 Fy _ fun k hk=>by simp [Es,Ra,FB]
theorem VK (p:Proj) (s:aJ) (r t:Int) (hf:bG p s=true) (hr:fT p r=true):Con 113 [.d p.av,.d s.av,.d (i64 r),.d (i64 t)] (.d (i64 (AJ p s r t))):=by
 refine con Tryz.func113 rfl rfl Tryz.call113 rfl fun hwf=>?_
 simp only [ARs.wf,AR.wf,AV.wf,AV.wfs,lm,lim] at hwf
 have hna:=(fG (jk hf).1).KS
 obtain⟨l,hl⟩:∃l,l=(upTo p.acts.length).filter (Ra p s t):=⟨_,rfl⟩
 have hlen:l.length≤p.acts.length:=by rw [hl];have:=List.length_filter_le (Ra p s t) (upTo p.acts.length);rw [KE] at this;exact this
 have hmem:∀x∈l,∃k:Nat,x=k∧k < p.acts.length:=fun x hx=>by rw [hl] at hx;exact Uc (List.mem_filter.1 hx).1
 have hrun:=Rb p s t hf
 rw [← hl] at hrun
 rw [← XR hf r t, ← hl]
 have hb:∀x∈l,0≤FB p s r x∧FB p s r x≤20:=fun x hx=>by
  obtain⟨k,rfl,hk⟩:=hmem x hx
  obtain⟨a,u,m,q,mo,g⟩:=Cj hf hk
  obtain⟨ρ,v,e1,e2,e3,_⟩:=Fx g hr t
  subst e1
  simpa [FB,pX g,List.getD_eq_getElem?_getD,e2] using e3
 (repeat' ((conv=>whnf);first|refine gA ?_|(refine gB ?_ ?_<;>intro h)|(refine gI ?_;intro x hx)|(refine gJ ?_;intro j x hj hx)|refine gV ?_|refine gC (hrun) ?_|intro _))<;>try (conv=>whnf)
 refine aB [2,4,5,15,16] [4,5] [] ?_
 (conv=>whnf)
 refine aA.go ((Nat)×(Int)) (fun⟨j,n⟩=>(j≤l.length)∧(0≤n∧n≤20*j)∧(qo (FB p s r) (l.drop j) n=qo (FB p s r) l 0)) (fun⟨j,n⟩=>[(17,.data (i64 j)),(9,.data (i64 n))]) (fun _=>[]) (fun _=>[]) (fun⟨j,n⟩=>l.length - j) ⟨0,0⟩ ?_ ?_
 ·exact⟨by omega,by omega,rfl⟩
 rintro⟨j,n⟩ ⟨hj,hn,hi⟩
 by_cases hlt:j < l.length
 ·obtain⟨x,hx⟩:∃x,l[j]? =some x:=⟨l[j]'hlt,by simp⟩
  have hxb:=hb x (List.mem_of_getElem? hx)
  obtain⟨k,rfl,hk⟩:=hmem x (List.mem_of_getElem? hx)
  obtain⟨a,u,m,q,mo,g⟩:=Cj hf hk
  obtain⟨ρ,v,e1,e2,e3,_⟩:=Fx g hr t
  have ev:FB p s r (k:Int)=v:=by subst e1;simp [FB,pX g,List.getD_eq_getElem?_getD,e2]
  rw [ev] at hxb
  rw [aF hx,qo,ev] at hi
  (repeat' ((conv=>whnf);first|with_reducible refine Idx.got hx rfl ?_|with_reducible refine Idx.got e2 e1 ?_|refine gA ?_|(refine gB ?_ ?_<;>intro h)|(refine gI ?_;intro x hx)|(refine gJ ?_;intro j x hj hx)|refine gV ?_|refine gC (wJ p s _ g rfl) ?_|intro _))<;>try (conv=>whnf)
  ·refine nx ⟨j+1,n+v⟩ ?_
   exact⟨by omega,by omega,hi⟩
  ·exfalso;omega
 ·(repeat' ((conv=>whnf);first|(exfalso;omega)|refine gA ?_|(refine gB ?_ ?_<;>intro h)|(refine gI ?_;intro x hx)|(refine gJ ?_;intro j x hj hx)|refine gV ?_|intro _))<;>try (conv=>whnf)
  refine⟨?_,rfl,trivial⟩
  rw [sW hlt] at hi
  rw [← hi];rfl
open Go.Proofs
end Go.Proofs.YtmenphiahgkjkaaGreatDoor.Abs
