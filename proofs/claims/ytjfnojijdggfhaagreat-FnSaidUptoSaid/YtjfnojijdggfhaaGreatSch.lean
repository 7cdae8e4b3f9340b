/- Contracts: schedules. -/
import Derived.Test.YtjfnojijdggfhaaGreatC12
import Derived.Test.YtjfnojijdggfhaaGreatPlain
import Derived.Test.YtjfnojijdggfhaaGreatC20a
set_option linter.all false
set_option maxRecDepth 20000
set_option maxHeartbeats 0
namespace Go.Proofs.YtjfnojijdggfhaaGreat.Abs
open Go.Proofs
structure EG (p:Proj) (s:aL) (k:Nat) (a:aJ) (t m:Int) (q:Nat) (mo:Mode):Prop where
 act:p.acts[k]? =some a
 start:s.starts[k]? =some t
 mode:s.modes[k]? =some m
 mq:m=q
 moE:a.modes[q]? =some mo
 tb:0≤t∧t≤60
 aok:bg a p.bM.length p.bn.length=true
theorem gU {p:Proj} {s:aL} (h:aX p s=true):aK p=true∧s.starts.length=p.acts.length∧s.modes.length=p.acts.length∧∀k,k < p.acts.length→tK p s k=true:=by
 simp only [aX,Bool.and_eq_true,bf,Bool.not_eq_true',decide_eq_false_iff_not] at h
 exact⟨h.1.1.1,by omega,by omega,h.2⟩
theorem yg {p:Proj} {s:aL} (h:aX p s=true) {k:Nat} (hk:k < p.acts.length):∃a t m q mo,EG p s k a t m q mo:=by
 obtain⟨h1,h2,h3,h4⟩:=gU h
 have e1:p.acts[k]? =some (p.acts[k]'hk):=by simp
 have e2:s.starts[k]? =some (s.starts[k]'(by omega)):=by simp
 have e3:s.modes[k]? =some (s.modes[k]'(by omega)):=by simp
 have hd:=h4 k hk
 simp only [tK,e1,e2,e3,Bool.and_eq_true,bZ,within_iff] at hd
 exact⟨_,_,_,(s.modes[k]'(by omega)).toNat,(p.acts[k]'hk).modes[(s.modes[k]'(by omega)).toNat]'(by omega),e1,e2,e3,by omega,by simp,hd.1,(eB h1).act k _ e1⟩
theorem jH (p:Proj) (s:aL) (hp:p.fine):Con 123 [.d p.av,.d s.av] (.d (.bool (aX p s))):=by
 refine con Tryz.func123 rfl rfl Tryz.call123 rfl fun hwf=>?_
 simp only [ARs.wf,AR.wf,AV.wf,AV.wfs,lm,lim] at hwf
 (repeat' ((conv=>whnf);first|refine gA ?_|(refine gN ?_ ?_<;>intro h hw)|(refine gB ?_ ?_<;>intro h)|(refine gI ?_;intro x hx)|(refine gJ ?_;intro j x hj hx)|refine gV ?_|refine gC (bN p hp) ?_|intro _))<;>try (conv=>whnf)
 all_goals try (refine⟨?_,rfl,trivial⟩;simp [aX, *];done)
 refine aC [2,3,29] [2,3] [] ?_
 (conv=>whnf)
 refine aB.go ((Nat)) (fun k=>(k≤p.acts.length)∧(∀i,i < k→tK p s i=true)) (fun k=>[(30,.data (i64 k))]) (fun _=>[]) (fun _=>[]) (fun k=>p.acts.length - k) (0) ?_ ?_
 ·exact⟨by omega,by omega⟩
 rintro k ⟨hk,hi⟩
 by_cases hlt:k < p.acts.length
 ·obtain⟨t,e2⟩:∃x,s.starts[k]? =some x:=⟨s.starts[k]'(by omega),by simp⟩
  obtain⟨m,e3⟩:∃x,s.modes[k]? =some x:=⟨s.modes[k]'(by omega),by simp⟩
  obtain⟨a,e4⟩:∃x,p.acts[k]? =some x:=⟨p.acts[k]'(by omega),by simp⟩
  have hm:=Af hwf.1.2.1.2 e4
  simp only [AV.wf,AV.wfs,List.length_map] at hm
  have e:tK p s k=(bZ t&&within m 0 (a.modes.length - 1)):=by simp only [tK,e2,e3,e4]
  (repeat' ((conv=>whnf);first|with_reducible refine Idx.got e2 rfl ?_|with_reducible refine Idx.got e3 rfl ?_|with_reducible refine Idx.got e4 rfl ?_|refine gA ?_|(refine gN ?_ ?_<;>intro h hw)|(refine gB ?_ ?_<;>intro h)|(refine gI ?_;intro x hx)|(refine gJ ?_;intro j x hj hx)|refine gV ?_|refine gC (iW _) ?_|refine gC (aO _ _ _) ?_|intro _))<;>try (conv=>whnf)
  all_goals first
   |(exfalso;omega)
   |(refine⟨?_,rfl,trivial⟩;rw [aX,jE k hlt (by rw [e];simp [*])];simp;done)
   |(refine nx (k+1) ?_
     exact⟨by omega,iP hi (by rw [e];simp [*])⟩)
 ·(repeat' ((conv=>whnf);first|(exfalso;omega)|refine gA ?_|(refine gN ?_ ?_<;>intro h hw)|(refine gB ?_ ?_<;>intro h)|(refine gI ?_;intro x hx)|(refine gJ ?_;intro j x hj hx)|refine gV ?_|intro _))<;>try (conv=>whnf)
  refine⟨?_,rfl,trivial⟩
  rw [aX,bf.2 fun i hh=>hi i (by omega)];simp [*]
theorem mP {p:Proj} {s:aL} {k:Nat} {a:aJ} {t m:Int} {q:Nat} {mo:Mode} (g:EG p s k a t m q mo):dR p s k=mo:=by
 have:=g.mq;subst this
 simp [dR,aT,List.getD_eq_getElem?_getD,g.act,g.mode,g.moE]
theorem Bo {p:Proj} {s:aL} {k:Nat} {a:aJ} {t m:Int} {q:Nat} {mo:Mode} (g:EG p s k a t m q mo):lV p s k=t+mo.dur:=by
 rw [lV,mP g];simp [List.getD_eq_getElem?_getD,g.start]
theorem Ro {p:Proj} {s:aL} {k:Nat} {a:aJ} {t m:Int} {q:Nat} {mo:Mode} (g:EG p s k a t m q mo):1≤mo.dur∧mo.dur≤12:=(jc g.aok (List.mem_of_getElem? g.moE)).1
theorem sH (p:Proj) (s:aL) (n:Int) {k:Nat} {a:aJ} {t m:Int} {q:Nat} {mo:Mode} (g:EG p s k a t m q mo) (hn:n=k):Con 223 [.d p.av,.d s.av,.d (i64 n)] (.d mo.av):=by
 refine con Tryz.func223 rfl rfl Tryz.call223 rfl fun hwf=>?_
 (repeat' ((conv=>whnf);first|with_reducible refine Idx.got g.act hn ?_|with_reducible refine Idx.got g.mode hn ?_|with_reducible refine Idx.got g.moE g.mq ?_|refine gA ?_|(refine gB ?_ ?_<;>intro h)|(refine gI ?_;intro x hx)|(refine gJ ?_;intro j x hj hx)|intro _))<;>try (conv=>whnf)
 exact⟨rfl,rfl,trivial⟩
theorem wo (p:Proj) (s:aL) (n:Int) {k:Nat} {a:aJ} {t m:Int} {q:Nat} {mo:Mode} (g:EG p s k a t m q mo) (hn:n=k):Con 200 [.d p.av,.d s.av,.d (i64 n)] (.d (i64 (lV p s k))):=by
 refine con Tryz.func200 rfl rfl Tryz.call200 rfl fun hwf=>?_
 have hd:=Ro g
 have ht:=g.tb
 rw [Bo g]
 (repeat' ((conv=>whnf);first|with_reducible refine Idx.got g.start hn ?_|refine gA ?_|(refine gB ?_ ?_<;>intro h)|(refine gI ?_;intro x hx)|(refine gJ ?_;intro j x hj hx)|refine gV ?_|refine gC (sH p s n g hn) ?_|intro _))<;>try (conv=>whnf)
 exact⟨rfl,rfl,trivial⟩
open Go.Proofs
theorem OT (l:List Int) (fc:Nat) (caps:List AV) (p:Int→Bool) (hc:∀n∈l,Con fc ([.d (i64 n)]++caps.map .ref) (.d (.bool (p n)))):Con 82 [.d (ints l),.fn fc caps] (.d (ints (l.filter p))):=by
 refine con Tryz.func82 rfl rfl Tryz.call82 rfl fun hwf=>?_
 simp only [ARs.wf,AR.wf,AV.wf,AV.wfs,lm,lim] at hwf
 (repeat' ((conv=>whnf);first|refine gA ?_|(refine gB ?_ ?_<;>intro h)|(refine gI ?_;intro x hx)|(refine gJ ?_;intro j x hj hx)|refine gP ?_|refine gV ?_|intro _))<;>try (conv=>whnf)
 refine aC [1,9,10] [] [8] ?_
 (conv=>whnf)
 refine aB.go ((Nat)×(List Int)) (fun⟨k,o⟩=>(k≤l.length)∧(o.length≤k)∧(o++(l.drop k).filter p=l.filter p)) (fun⟨k,o⟩=>[(11,.data (i64 k)),(5,.own 8 0)]) (fun _=>[]) (fun⟨k,o⟩=>[(8,3,o.map i64,0)]) (fun⟨k,o⟩=>l.length - k) ⟨0,[]⟩ ?_ ?_
 ·exact⟨by omega,by simp,rfl⟩
 rintro⟨k,o⟩ ⟨hk,ho,hi⟩
 by_cases hlt:k < l.length
 ·obtain⟨x,hx⟩:∃x,l[k]? =some x:=⟨l[k]'hlt,by simp⟩
  (repeat' ((conv=>whnf);first|with_reducible refine Idx.got hx rfl ?_|refine gA ?_|(refine gB ?_ ?_<;>intro h)|(refine gI ?_;intro x hx)|(refine gJ ?_;intro j x hj hx)|refine gP ?_|refine gV ?_|refine gC (hc x (List.mem_of_getElem? hx)) ?_|intro _))<;>try (conv=>whnf)
  ·refine nw ⟨k+1,o++[x]⟩ ?_ ?_
   ·(repeat' ((conv=>whnf)<;>(first|exact trivial|exact rfl|with_reducible refine And.intro ?_ ?_)))<;>((conv=>whnf)<;>(simp))
   exact⟨by omega,by simp;omega,(iX hi hx).1 h⟩
  ·refine nx ⟨k+1,o⟩ ?_
   exact⟨by omega,by omega,(iX hi hx).2 h⟩
  ·exfalso;omega
 ·(repeat' ((conv=>whnf);first|(exfalso;omega)|refine gA ?_|(refine gB ?_ ?_<;>intro h)|(refine gI ?_;intro x hx)|(refine gJ ?_;intro j x hj hx)|refine gP ?_|refine gV ?_|intro _))<;>try (conv=>whnf)
  refine⟨?_,rfl,trivial⟩
  rw [← hi,vC hlt];simp
def Ml (p:Proj) (s:aL) (t:Int) (n:Int):Bool:=runs p s t n.toNat
theorem Vt {p:Proj} {s:aL} {k:Nat} {a:aJ} {t m:Int} {q:Nat} {mo:Mode} (g:EG p s k a t m q mo) (x:Int):runs p s x k=(decide (t≤x)&&decide (lV p s k > x)):=by
 simp [runs,List.getD_eq_getElem?_getD,g.start]
theorem Jg (p:Proj) (s:aL) (t:Int) (n:Int) {k:Nat} {a:aJ} {u m:Int} {q:Nat} {mo:Mode} (g:EG p s k a u m q mo) (hn:n=k):Con 229 [.d (i64 n),.ref s.av,.ref (i64 t),.ref p.av] (.d (.bool (Ml p s t n))):=by
 refine con Tryz.func229 rfl rfl Tryz.call229 rfl fun hwf=>?_
 have e:Ml p s t n=(decide (u≤t)&&decide (lV p s k > t)):=by subst hn;rw [Ml];exact Vt g t
 rw [e]
 (repeat' ((conv=>whnf);first|with_reducible refine Idx.got g.start hn ?_|refine gA ?_|(refine gB ?_ ?_<;>intro h)|(refine gI ?_;intro x hx)|(refine gJ ?_;intro j x hj hx)|refine gC (wo p s n g hn) ?_|intro _))<;>try (conv=>whnf)
 all_goals (refine⟨?_,rfl,trivial⟩;simp [*])
theorem Jh {n:Nat} (h:n≤200):aH n=upTo n:=by
 rw [aH,if_pos (within_iff.2 (by omega))];simp [upTo]
theorem OU {n:Nat} {x:Int} (h:x∈upTo n):∃k:Nat,x=k∧k < n:=by
 simp only [upTo,List.mem_map,List.mem_range] at h
 obtain⟨k,hk,rfl⟩:=h
 exact⟨k,rfl,hk⟩
theorem Mq (p:Proj) (s:aL) (t:Int) (hf:aX p s=true):Con 224 [.d p.av,.d s.av,.d (i64 t)] (.d (ints ((upTo p.acts.length).filter (Ml p s t)))):=by
 refine con Tryz.func224 rfl rfl Tryz.call224 rfl fun hwf=>?_
 simp only [ARs.wf,AR.wf,AV.wf,AV.wfs,lm,lim] at hwf
 have hna:=(eB (gU hf).1).IV
 have hR:=rF (p.acts.map aJ.av).length
 rw [show aH (((p.acts.map aJ.av).length:Nat):Int)=upTo p.acts.length by rw [List.length_map];exact Jh (by omega)] at hR
 have hc:∀n∈upTo p.acts.length,Con 229 ([.d (i64 n)]++[s.av,i64 t,p.av].map .ref) (.d (.bool (Ml p s t n))):=fun n hn=>by
  obtain⟨k,e,hk⟩:=OU hn
  obtain⟨a,u,m,q,mo,g⟩:=yg hf hk
  exact Jg p s t n g e
 (repeat' ((conv=>whnf);first|refine gA ?_|(refine gB ?_ ?_<;>intro h)|refine gC (hR) ?_|refine gC (OT (upTo p.acts.length) 229 [s.av,i64 t,p.av] _ hc) ?_|intro _))<;>try (conv=>whnf)
 exact⟨rfl,rfl,trivial⟩
end Go.Proofs.YtjfnojijdggfhaaGreat.Abs
namespace Go.Proofs.YtjfnojijdggfhaaGreat.Abs
open Go.Proofs
theorem Bp {p:Proj} {s:aL} {k:Nat} {a:aJ} {t m:Int} {q:Nat} {mo:Mode} (g:EG p s k a t m q mo) {r:Int} (hr:eF p r=true) (x:Int):
  ∃(ρ:Nat) (u:Int),r=ρ∧mo.use[ρ]? =some u∧(0≤u∧u≤20)∧zY p s r x k=if runs p s x k=true then u else 0:=by
 have hm:=jc g.aok (List.mem_of_getElem? g.moE)
 have hw:=within_iff.1 hr
 have e2:mo.use[r.toNat]? =some (mo.use[r.toNat]'(by omega)):=by simp
 refine⟨r.toNat,_,by omega,e2,hm.2.1 _ (List.mem_of_getElem? e2),?_⟩
 rw [zY,mP g,List.getD_eq_getElem?_getD,e2];rfl
def mY (f:Int→Int):List Int→Int→Int
 |[],s=>s
 |x::r,s=>mY f r (s+f x)
theorem Ee (f:Int→Int):∀(l m:List Int) (s:Int),mY f (l++m) s=mY f m (mY f l s)
 |[],_,_=>rfl
 |x::l,m,s=>Ee f l m (s+f x)
theorem Bq {f:Int→Int} {P:Int→Bool} {g:Nat→Int}:∀(n:Nat),(∀k,k < n→g k=if P k=true then f k else 0)→mY f ((upTo n).filter P) 0=sumTo g n
 |0,_=>rfl
 |n+1,h=>by
  have e:upTo (n+1)=upTo n++[(n:Int)]:=by simp [upTo,List.range_succ]
  rw [e,List.filter_append,Ee,Bq n fun k hk=>h k (by omega),sumTo,h n (by omega)]
  by_cases hp:P n=true
  ·rw [if_pos hp,List.filter_cons,if_pos hp];rfl
  ·rw [if_neg hp,List.filter_cons,if_neg hp];simp [mY]
def Bt (p:Proj) (s:aL) (r:Int) (n:Int):Int:=(dR p s n.toNat).use.getD r.toNat 0
theorem Sy {p:Proj} {s:aL} (hf:aX p s=true) (r t:Int):mY (Bt p s r) ((upTo p.acts.length).filter (Ml p s t)) 0=wO p s r t:=
 Bq _ fun k hk=>by simp [zY,Ml,Bt]
theorem Qt (p:Proj) (s:aL) (r t:Int) (hf:aX p s=true) (hr:eF p r=true):Con 201 [.d p.av,.d s.av,.d (i64 r),.d (i64 t)] (.d (i64 (wO p s r t))):=by
 refine con Tryz.func201 rfl rfl Tryz.call201 rfl fun hwf=>?_
 simp only [ARs.wf,AR.wf,AV.wf,AV.wfs,lm,lim] at hwf
 have hna:=(eB (gU hf).1).IV
 obtain⟨l,hl⟩:∃l,l=(upTo p.acts.length).filter (Ml p s t):=⟨_,rfl⟩
 have hlen:l.length≤p.acts.length:=by rw [hl];have:=List.length_filter_le (Ml p s t) (upTo p.acts.length);rw [zX] at this;exact this
 have hmem:∀x∈l,∃k:Nat,x=k∧k < p.acts.length:=fun x hx=>by rw [hl] at hx;exact OU (List.mem_filter.1 hx).1
 have hrun:=Mq p s t hf
 rw [← hl] at hrun
 rw [← Sy hf r t, ← hl]
 have hb:∀x∈l,0≤Bt p s r x∧Bt p s r x≤20:=fun x hx=>by
  obtain⟨k,rfl,hk⟩:=hmem x hx
  obtain⟨a,u,m,q,mo,g⟩:=yg hf hk
  obtain⟨ρ,v,e1,e2,e3,_⟩:=Bp g hr t
  subst e1
  simpa [Bt,mP g,List.getD_eq_getElem?_getD,e2] using e3
 (repeat' ((conv=>whnf);first|refine gA ?_|(refine gB ?_ ?_<;>intro h)|(refine gI ?_;intro x hx)|(refine gJ ?_;intro j x hj hx)|refine gV ?_|refine gC (hrun) ?_|intro _))<;>try (conv=>whnf)
 refine aC [2,4,5,15,16] [4,5] [] ?_
 (conv=>whnf)
 refine aB.go ((Nat)×(Int)) (fun⟨j,n⟩=>(j≤l.length)∧(0≤n∧n≤20*j)∧(mY (Bt p s r) (l.drop j) n=mY (Bt p s r) l 0)) (fun⟨j,n⟩=>[(17,.data (i64 j)),(9,.data (i64 n))]) (fun _=>[]) (fun _=>[]) (fun⟨j,n⟩=>l.length - j) ⟨0,0⟩ ?_ ?_
 ·exact⟨by omega,by omega,rfl⟩
 rintro⟨j,n⟩ ⟨hj,hn,hi⟩
 by_cases hlt:j < l.length
 ·obtain⟨x,hx⟩:∃x,l[j]? =some x:=⟨l[j]'hlt,by simp⟩
  have hxb:=hb x (List.mem_of_getElem? hx)
  obtain⟨k,rfl,hk⟩:=hmem x (List.mem_of_getElem? hx)
  obtain⟨a,u,m,q,mo,g⟩:=yg hf hk
  obtain⟨ρ,v,e1,e2,e3,_⟩:=Bp g hr t
  have ev:Bt p s r (k:Int)=v:=by subst e1;simp [Bt,mP g,List.getD_eq_getElem?_getD,e2]
  rw [ev] at hxb
  rw [au hx,mY,ev] at hi
  (repeat' ((conv=>whnf);first|with_reducible refine Idx.got hx rfl ?_|with_reducible refine Idx.got e2 e1 ?_|refine gA ?_|(refine gB ?_ ?_<;>intro h)|(refine gI ?_;intro x hx)|(refine gJ ?_;intro j x hj hx)|refine gV ?_|refine gC (sH p s _ g rfl) ?_|intro _))<;>try (conv=>whnf)
  ·refine nx ⟨j+1,n+v⟩ ?_
   exact⟨by omega,by omega,hi⟩
  ·exfalso;omega
 ·(repeat' ((conv=>whnf);first|(exfalso;omega)|refine gA ?_|(refine gB ?_ ?_<;>intro h)|(refine gI ?_;intro x hx)|(refine gJ ?_;intro j x hj hx)|refine gV ?_|intro _))<;>try (conv=>whnf)
  refine⟨?_,rfl,trivial⟩
  rw [vC hlt] at hi
  rw [← hi];rfl
open Go.Proofs
end Go.Proofs.YtjfnojijdggfhaaGreat.Abs
