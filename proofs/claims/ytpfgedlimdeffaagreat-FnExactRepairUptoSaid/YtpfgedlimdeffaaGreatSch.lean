/- Contracts: schedules. -/
import Derived.Test.YtpfgedlimdeffaaGreatC12
import Derived.Test.YtpfgedlimdeffaaGreatPlain
import Derived.Test.YtpfgedlimdeffaaGreatC20a
set_option linter.all false
set_option maxRecDepth 20000
set_option maxHeartbeats 0
namespace Go.Proofs.YtpfgedlimdeffaaGreat.Abs
open Go.Proofs
structure vR (p:Proj) (s:aA) (k:Nat) (a:au) (t m:Int) (q:Nat) (mo:Mode):Prop where
 act:p.acts[k]? =some a
 start:s.starts[k]? =some t
 mode:s.modes[k]? =some m
 mq:m=q
 moE:a.modes[q]? =some mo
 tb:0≤t∧t≤60
 aok:dH a p.aU.length p.aL.length=true
theorem aJ {p:Proj} {s:aA} (h:aK p s=true):aY p=true∧s.starts.length=p.acts.length∧s.modes.length=p.acts.length∧∀k,k < p.acts.length→lV p s k=true:=by
 simp only [aK,Bool.and_eq_true,eY,Bool.not_eq_true',decide_eq_false_iff_not] at h
 exact⟨h.1.1.1,by omega,by omega,h.2⟩
theorem iB {p:Proj} {s:aA} (h:aK p s=true) {k:Nat} (hk:k < p.acts.length):∃a t m q mo,vR p s k a t m q mo:=by
 obtain⟨h1,h2,h3,h4⟩:=aJ h
 have e1:p.acts[k]? =some (p.acts[k]'hk):=by simp
 have e2:s.starts[k]? =some (s.starts[k]'(by omega)):=by simp
 have e3:s.modes[k]? =some (s.modes[k]'(by omega)):=by simp
 have hd:=h4 k hk
 simp only [lV,e1,e2,e3,Bool.and_eq_true,bM,within_iff] at hd
 exact⟨_,_,_,(s.modes[k]'(by omega)).toNat,(p.acts[k]'hk).modes[(s.modes[k]'(by omega)).toNat]'(by omega),e1,e2,e3,by omega,by simp,hd.1,(fE h1).act k _ e1⟩
theorem iC (p:Proj) (s:aA) (hp:p.fine):Con 72 [.d p.av,.d s.av] (.d (.bool (aK p s))):=by
 refine con Tryz.func72 rfl rfl Tryz.call72 rfl fun hwf=>?_
 simp only [ARs.wf,AR.wf,AV.wf,AV.wfs,lm,lim] at hwf
 (repeat' ((conv=>whnf);first|refine gA ?_|(refine gN ?_ ?_<;>intro h hw)|(refine gB ?_ ?_<;>intro h)|(refine gI ?_;intro x hx)|(refine gJ ?_;intro j x hj hx)|refine gV ?_|refine gC (jJ p hp) ?_|intro _))<;>try (conv=>whnf)
 all_goals try (refine⟨?_,rfl,trivial⟩;simp [aK, *];done)
 refine aG [2,3,29] [2,3] [] ?_
 (conv=>whnf)
 refine aC.go ((Nat)) (fun k=>(k≤p.acts.length)∧(∀i,i < k→lV p s i=true)) (fun k=>[(30,.data (i64 k))]) (fun _=>[]) (fun _=>[]) (fun k=>p.acts.length - k) (0) ?_ ?_
 ·exact⟨by omega,by omega⟩
 rintro k ⟨hk,hi⟩
 by_cases hlt:k < p.acts.length
 ·obtain⟨t,e2⟩:∃x,s.starts[k]? =some x:=⟨s.starts[k]'(by omega),by simp⟩
  obtain⟨m,e3⟩:∃x,s.modes[k]? =some x:=⟨s.modes[k]'(by omega),by simp⟩
  obtain⟨a,e4⟩:∃x,p.acts[k]? =some x:=⟨p.acts[k]'(by omega),by simp⟩
  have hm:=qW hwf.1.2.1.2 e4
  simp only [AV.wf,AV.wfs,List.length_map] at hm
  have e:lV p s k=(bM t&&within m 0 (a.modes.length - 1)):=by simp only [lV,e2,e3,e4]
  (repeat' ((conv=>whnf);first|with_reducible refine Idx.got e2 rfl ?_|with_reducible refine Idx.got e3 rfl ?_|with_reducible refine Idx.got e4 rfl ?_|refine gA ?_|(refine gN ?_ ?_<;>intro h hw)|(refine gB ?_ ?_<;>intro h)|(refine gI ?_;intro x hx)|(refine gJ ?_;intro j x hj hx)|refine gV ?_|refine gC (kZ _) ?_|refine gC (bq _ _ _) ?_|intro _))<;>try (conv=>whnf)
  all_goals first
   |(exfalso;omega)
   |(refine⟨?_,rfl,trivial⟩;rw [aK,kR k hlt (by rw [e];simp [*])];simp;done)
   |(refine nx (k+1) ?_
     exact⟨by omega,jv hi (by rw [e];simp [*])⟩)
 ·(repeat' ((conv=>whnf);first|(exfalso;omega)|refine gA ?_|(refine gN ?_ ?_<;>intro h hw)|(refine gB ?_ ?_<;>intro h)|(refine gI ?_;intro x hx)|(refine gJ ?_;intro j x hj hx)|refine gV ?_|intro _))<;>try (conv=>whnf)
  refine⟨?_,rfl,trivial⟩
  rw [aK,eY.2 fun i hh=>hi i (by omega)];simp [*]
theorem iD (p:Proj) (s:aA) (hp:p.fine):Con 58 [.d p.av,.d s.av] (.d (.bool (aK p s))):=by
 refine con Tryz.func58 rfl rfl Tryz.call58 rfl fun hwf=>?_
 simp only [ARs.wf,AR.wf,AV.wf,AV.wfs,lm,lim] at hwf
 (repeat' ((conv=>whnf);first|refine gA ?_|(refine gN ?_ ?_<;>intro h hw)|(refine gB ?_ ?_<;>intro h)|(refine gI ?_;intro x hx)|(refine gJ ?_;intro j x hj hx)|refine gV ?_|refine gC (mg p hp) ?_|intro _))<;>try (conv=>whnf)
 all_goals try (refine⟨?_,rfl,trivial⟩;simp [aK, *];done)
 refine aG [3,29,30] [3] [] ?_
 (conv=>whnf)
 refine aC.go ((Nat)) (fun k=>(k≤p.acts.length)∧(∀i,i < k→lV p s i=true)) (fun k=>[(31,.data (i64 k))]) (fun _=>[]) (fun _=>[]) (fun k=>p.acts.length - k) (0) ?_ ?_
 ·exact⟨by omega,by omega⟩
 rintro k ⟨hk,hi⟩
 by_cases hlt:k < p.acts.length
 ·obtain⟨t,e2⟩:∃x,s.starts[k]? =some x:=⟨s.starts[k]'(by omega),by simp⟩
  obtain⟨m,e3⟩:∃x,s.modes[k]? =some x:=⟨s.modes[k]'(by omega),by simp⟩
  obtain⟨a,e4⟩:∃x,p.acts[k]? =some x:=⟨p.acts[k]'(by omega),by simp⟩
  have hm:=qW hwf.1.2.1.2 e4
  simp only [AV.wf,AV.wfs,List.length_map] at hm
  have e:lV p s k=(bM t&&within m 0 (a.modes.length - 1)):=by simp only [lV,e2,e3,e4]
  (repeat' ((conv=>whnf);first|with_reducible refine Idx.got e2 rfl ?_|with_reducible refine Idx.got e3 rfl ?_|with_reducible refine Idx.got e4 rfl ?_|refine gA ?_|(refine gN ?_ ?_<;>intro h hw)|(refine gB ?_ ?_<;>intro h)|(refine gI ?_;intro x hx)|(refine gJ ?_;intro j x hj hx)|refine gV ?_|refine gC (dI _ _ _) ?_|intro _))<;>try (conv=>whnf)
  all_goals first
   |(exfalso;omega)
   |(refine⟨?_,rfl,trivial⟩;rw [aK,kR k hlt (by rw [e];simp [bM, *])];simp;done)
   |(refine nx (k+1) ?_
     exact⟨by omega,jv hi (by rw [e];simp [bM, *])⟩)
 ·(repeat' ((conv=>whnf);first|(exfalso;omega)|refine gA ?_|(refine gN ?_ ?_<;>intro h hw)|(refine gB ?_ ?_<;>intro h)|(refine gI ?_;intro x hx)|(refine gJ ?_;intro j x hj hx)|refine gV ?_|intro _))<;>try (conv=>whnf)
  refine⟨?_,rfl,trivial⟩
  rw [aK,eY.2 fun i hh=>hi i (by omega)];simp [*]
theorem dQ {p:Proj} {s:aA} {k:Nat} {a:au} {t m:Int} {q:Nat} {mo:Mode} (g:vR p s k a t m q mo):lY p s k=mo:=by
 have:=g.mq;subst this
 simp [lY,jG,List.getD_eq_getElem?_getD,g.act,g.mode,g.moE]
theorem kP {p:Proj} {s:aA} {k:Nat} {a:au} {t m:Int} {q:Nat} {mo:Mode} (g:vR p s k a t m q mo):sJ p s k=t+mo.dur:=by
 rw [sJ,dQ g];simp [List.getD_eq_getElem?_getD,g.start]
theorem zW {p:Proj} {s:aA} {k:Nat} {a:au} {t m:Int} {q:Nat} {mo:Mode} (g:vR p s k a t m q mo):1≤mo.dur∧mo.dur≤12:=(qp g.aok (List.mem_of_getElem? g.moE)).1
theorem lu (p:Proj) (s:aA) (n:Int) {k:Nat} {a:au} {t m:Int} {q:Nat} {mo:Mode} (g:vR p s k a t m q mo) (hn:n=k):Con 170 [.d p.av,.d s.av,.d (i64 n)] (.d mo.av):=by
 refine con Tryz.func170 rfl rfl Tryz.call170 rfl fun hwf=>?_
 (repeat' ((conv=>whnf);first|with_reducible refine Idx.got g.act hn ?_|with_reducible refine Idx.got g.mode hn ?_|with_reducible refine Idx.got g.moE g.mq ?_|refine gA ?_|(refine gB ?_ ?_<;>intro h)|(refine gI ?_;intro x hx)|(refine gJ ?_;intro j x hj hx)|intro _))<;>try (conv=>whnf)
 exact⟨rfl,rfl,trivial⟩
theorem fB (p:Proj) (s:aA) (n:Int) {k:Nat} {a:au} {t m:Int} {q:Nat} {mo:Mode} (g:vR p s k a t m q mo) (hn:n=k):Con 147 [.d p.av,.d s.av,.d (i64 n)] (.d mo.av):=by
 refine con Tryz.func147 rfl rfl Tryz.call147 rfl fun hwf=>?_
 (repeat' ((conv=>whnf);first|with_reducible refine Idx.got g.act hn ?_|with_reducible refine Idx.got g.mode hn ?_|with_reducible refine Idx.got g.moE g.mq ?_|refine gA ?_|(refine gB ?_ ?_<;>intro h)|(refine gI ?_;intro x hx)|(refine gJ ?_;intro j x hj hx)|intro _))<;>try (conv=>whnf)
 exact⟨rfl,rfl,trivial⟩
theorem mE (p:Proj) (s:aA) (n:Int) {k:Nat} {a:au} {t m:Int} {q:Nat} {mo:Mode} (g:vR p s k a t m q mo) (hn:n=k):Con 159 [.d p.av,.d s.av,.d (i64 n)] (.d (i64 (sJ p s k))):=by
 refine con Tryz.func159 rfl rfl Tryz.call159 rfl fun hwf=>?_
 have hd:=zW g
 have ht:=g.tb
 rw [kP g]
 (repeat' ((conv=>whnf);first|with_reducible refine Idx.got g.start hn ?_|refine gA ?_|(refine gB ?_ ?_<;>intro h)|(refine gI ?_;intro x hx)|(refine gJ ?_;intro j x hj hx)|refine gV ?_|refine gC (lu p s n g hn) ?_|intro _))<;>try (conv=>whnf)
 exact⟨rfl,rfl,trivial⟩
theorem iE (p:Proj) (s:aA) (n:Int) {k:Nat} {a:au} {t m:Int} {q:Nat} {mo:Mode} (g:vR p s k a t m q mo) (hn:n=k):Con 102 [.d p.av,.d s.av,.d (i64 n)] (.d (i64 (sJ p s k))):=by
 refine con Tryz.func102 rfl rfl Tryz.call102 rfl fun hwf=>?_
 have hd:=zW g
 have ht:=g.tb
 rw [kP g]
 (repeat' ((conv=>whnf);first|with_reducible refine Idx.got g.start hn ?_|refine gA ?_|(refine gB ?_ ?_<;>intro h)|(refine gI ?_;intro x hx)|(refine gJ ?_;intro j x hj hx)|refine gV ?_|refine gC (fB p s n g hn) ?_|intro _))<;>try (conv=>whnf)
 exact⟨rfl,rfl,trivial⟩
open Go.Proofs
theorem Nj (l:List Int) (fc:Nat) (caps:List AV) (p:Int→Bool) (hc:∀n∈l,Con fc ([.d (i64 n)]++caps.map .ref) (.d (.bool (p n)))):Con 187 [.d (ints l),.fn fc caps] (.d (ints (l.filter p))):=by
 refine con Tryz.func187 rfl rfl Tryz.call187 rfl fun hwf=>?_
 simp only [ARs.wf,AR.wf,AV.wf,AV.wfs,lm,lim] at hwf
 (repeat' ((conv=>whnf);first|refine gA ?_|(refine gB ?_ ?_<;>intro h)|(refine gI ?_;intro x hx)|(refine gJ ?_;intro j x hj hx)|refine gP ?_|refine gV ?_|intro _))<;>try (conv=>whnf)
 refine aG [1,9,10] [] [8] ?_
 (conv=>whnf)
 refine aC.go ((Nat)×(List Int)) (fun⟨k,o⟩=>(k≤l.length)∧(o.length≤k)∧(o++(l.drop k).filter p=l.filter p)) (fun⟨k,o⟩=>[(11,.data (i64 k)),(5,.own 8 0)]) (fun _=>[]) (fun⟨k,o⟩=>[(8,3,o.map i64,0)]) (fun⟨k,o⟩=>l.length - k) ⟨0,[]⟩ ?_ ?_
 ·exact⟨by omega,by simp,rfl⟩
 rintro⟨k,o⟩ ⟨hk,ho,hi⟩
 by_cases hlt:k < l.length
 ·obtain⟨x,hx⟩:∃x,l[k]? =some x:=⟨l[k]'hlt,by simp⟩
  (repeat' ((conv=>whnf);first|with_reducible refine Idx.got hx rfl ?_|refine gA ?_|(refine gB ?_ ?_<;>intro h)|(refine gI ?_;intro x hx)|(refine gJ ?_;intro j x hj hx)|refine gP ?_|refine gV ?_|refine gC (hc x (List.mem_of_getElem? hx)) ?_|intro _))<;>try (conv=>whnf)
  ·refine nw ⟨k+1,o++[x]⟩ ?_ ?_
   ·(repeat' ((conv=>whnf)<;>(first|exact trivial|exact rfl|with_reducible refine And.intro ?_ ?_)))<;>((conv=>whnf)<;>(simp))
   exact⟨by omega,by simp;omega,(Cw hi hx).1 h⟩
  ·refine nx ⟨k+1,o⟩ ?_
   exact⟨by omega,by omega,(Cw hi hx).2 h⟩
  ·exfalso;omega
 ·(repeat' ((conv=>whnf);first|(exfalso;omega)|refine gA ?_|(refine gB ?_ ?_<;>intro h)|(refine gI ?_;intro x hx)|(refine gJ ?_;intro j x hj hx)|refine gP ?_|refine gV ?_|intro _))<;>try (conv=>whnf)
  refine⟨?_,rfl,trivial⟩
  rw [← hi,zJ hlt];simp
def wT (p:Proj) (s:aA) (t:Int) (n:Int):Bool:=runs p s t n.toNat
theorem wN {p:Proj} {s:aA} {k:Nat} {a:au} {t m:Int} {q:Nat} {mo:Mode} (g:vR p s k a t m q mo) (x:Int):runs p s x k=(decide (t≤x)&&decide (sJ p s k > x)):=by
 simp [runs,List.getD_eq_getElem?_getD,g.start]
theorem GR (p:Proj) (s:aA) (t:Int) (n:Int) {k:Nat} {a:au} {u m:Int} {q:Nat} {mo:Mode} (g:vR p s k a u m q mo) (hn:n=k):Con 188 [.d (i64 n),.ref s.av,.ref (i64 t),.ref p.av] (.d (.bool (wT p s t n))):=by
 refine con Tryz.func188 rfl rfl Tryz.call188 rfl fun hwf=>?_
 have e:wT p s t n=(decide (u≤t)&&decide (sJ p s k > t)):=by subst hn;rw [wT];exact wN g t
 rw [e]
 (repeat' ((conv=>whnf);first|with_reducible refine Idx.got g.start hn ?_|refine gA ?_|(refine gB ?_ ?_<;>intro h)|(refine gI ?_;intro x hx)|(refine gJ ?_;intro j x hj hx)|refine gC (mE p s n g hn) ?_|intro _))<;>try (conv=>whnf)
 all_goals (refine⟨?_,rfl,trivial⟩;simp [*])
theorem GU {n:Nat} (h:n≤200):dX n=upTo n:=by
 rw [dX,if_pos (within_iff.2 (by omega))];simp [upTo]
theorem Nk {n:Nat} {x:Int} (h:x∈upTo n):∃k:Nat,x=k∧k < n:=by
 simp only [upTo,List.mem_map,List.mem_range] at h
 obtain⟨k,hk,rfl⟩:=h
 exact⟨k,rfl,hk⟩
theorem KC (p:Proj) (s:aA) (t:Int) (hf:aK p s=true):Con 181 [.d p.av,.d s.av,.d (i64 t)] (.d (ints ((upTo p.acts.length).filter (wT p s t)))):=by
 refine con Tryz.func181 rfl rfl Tryz.call181 rfl fun hwf=>?_
 simp only [ARs.wf,AR.wf,AV.wf,AV.wfs,lm,lim] at hwf
 have hna:=(fE (aJ hf).1).Tx
 have hR:=xB (p.acts.map au.av).length
 rw [show dX (((p.acts.map au.av).length:Nat):Int)=upTo p.acts.length by rw [List.length_map];exact GU (by omega)] at hR
 have hc:∀n∈upTo p.acts.length,Con 188 ([.d (i64 n)]++[s.av,i64 t,p.av].map .ref) (.d (.bool (wT p s t n))):=fun n hn=>by
  obtain⟨k,e,hk⟩:=Nk hn
  obtain⟨a,u,m,q,mo,g⟩:=iB hf hk
  exact GR p s t n g e
 (repeat' ((conv=>whnf);first|refine gA ?_|(refine gB ?_ ?_<;>intro h)|refine gC (hR) ?_|refine gC (Nj (upTo p.acts.length) 188 [s.av,i64 t,p.av] _ hc) ?_|intro _))<;>try (conv=>whnf)
 exact⟨rfl,rfl,trivial⟩
end Go.Proofs.YtpfgedlimdeffaaGreat.Abs
namespace Go.Proofs.YtpfgedlimdeffaaGreat.Abs
open Go.Proofs
theorem jr {p:Proj} {s:aA} {k:Nat} {a:au} {t m:Int} {q:Nat} {mo:Mode} (g:vR p s k a t m q mo) {r:Int} (hr:gD p r=true) (x:Int):
  ∃(ρ:Nat) (u:Int),r=ρ∧mo.use[ρ]? =some u∧(0≤u∧u≤20)∧zN p s r x k=if runs p s x k=true then u else 0:=by
 have hm:=qp g.aok (List.mem_of_getElem? g.moE)
 have hw:=within_iff.1 hr
 have e2:mo.use[r.toNat]? =some (mo.use[r.toNat]'(by omega)):=by simp
 refine⟨r.toNat,_,by omega,e2,hm.2.1 _ (List.mem_of_getElem? e2),?_⟩
 rw [zN,dQ g,List.getD_eq_getElem?_getD,e2];rfl
theorem Nl {p:Proj} {s:aA} (hf:aK p s=true) {r:Int} (hr:gD p r=true) (x:Int) {k:Nat} (hk:k < p.acts.length):0≤zN p s r x k∧zN p s r x k≤20:=by
 obtain⟨a,t,m,q,mo,g⟩:=iB hf hk
 obtain⟨ρ,u,_,_,hb,e⟩:=jr g hr x
 rw [e];split<;>omega
theorem Nn {p:Proj} {s:aA} (hf:aK p s=true) {r:Int} (hr:gD p r=true) (x:Int) {k:Nat} (hk:k≤p.acts.length):0≤sumTo (zN p s r x) k∧sumTo (zN p s r x) k≤20*k:=
 qX fun i hi=>Nl hf hr x (by omega)
def cu (f:Int→Int):List Int→Int→Int
 |[],s=>s
 |x::r,s=>cu f r (s+f x)
theorem CJ (f:Int→Int):∀(l m:List Int) (s:Int),cu f (l++m) s=cu f m (cu f l s)
 |[],_,_=>rfl
 |x::l,m,s=>CJ f l m (s+f x)
theorem zX {f:Int→Int} {P:Int→Bool} {g:Nat→Int}:∀(n:Nat),(∀k,k < n→g k=if P k=true then f k else 0)→cu f ((upTo n).filter P) 0=sumTo g n
 |0,_=>rfl
 |n+1,h=>by
  have e:upTo (n+1)=upTo n++[(n:Int)]:=by simp [upTo,List.range_succ]
  rw [e,List.filter_append,CJ,zX n fun k hk=>h k (by omega),sumTo,h n (by omega)]
  by_cases hp:P n=true
  ·rw [if_pos hp,List.filter_cons,if_pos hp];rfl
  ·rw [if_neg hp,List.filter_cons,if_neg hp];simp [cu]
def qZ (p:Proj) (s:aA) (r:Int) (n:Int):Int:=(lY p s n.toNat).use.getD r.toNat 0
theorem Rq {p:Proj} {s:aA} (hf:aK p s=true) (r t:Int):cu (qZ p s r) ((upTo p.acts.length).filter (wT p s t)) 0=DV p s r t:=
 zX _ fun k hk=>by simp [zN,wT,qZ]
theorem Pg (p:Proj) (s:aA) (r t:Int) (hf:aK p s=true) (hr:gD p r=true):Con 160 [.d p.av,.d s.av,.d (i64 r),.d (i64 t)] (.d (i64 (DV p s r t))):=by
 refine con Tryz.func160 rfl rfl Tryz.call160 rfl fun hwf=>?_
 simp only [ARs.wf,AR.wf,AV.wf,AV.wfs,lm,lim] at hwf
 have hna:=(fE (aJ hf).1).Tx
 obtain⟨l,hl⟩:∃l,l=(upTo p.acts.length).filter (wT p s t):=⟨_,rfl⟩
 have hlen:l.length≤p.acts.length:=by rw [hl];have:=List.length_filter_le (wT p s t) (upTo p.acts.length);rw [sI] at this;exact this
 have hmem:∀x∈l,∃k:Nat,x=k∧k < p.acts.length:=fun x hx=>by rw [hl] at hx;exact Nk (List.mem_filter.1 hx).1
 have hrun:=KC p s t hf
 rw [← hl] at hrun
 rw [← Rq hf r t, ← hl]
 have hb:∀x∈l,0≤qZ p s r x∧qZ p s r x≤20:=fun x hx=>by
  obtain⟨k,rfl,hk⟩:=hmem x hx
  obtain⟨a,u,m,q,mo,g⟩:=iB hf hk
  obtain⟨ρ,v,e1,e2,e3,_⟩:=jr g hr t
  subst e1
  simpa [qZ,dQ g,List.getD_eq_getElem?_getD,e2] using e3
 (repeat' ((conv=>whnf);first|refine gA ?_|(refine gB ?_ ?_<;>intro h)|(refine gI ?_;intro x hx)|(refine gJ ?_;intro j x hj hx)|refine gV ?_|refine gC (hrun) ?_|intro _))<;>try (conv=>whnf)
 refine aG [2,4,5,15,16] [4,5] [] ?_
 (conv=>whnf)
 refine aC.go ((Nat)×(Int)) (fun⟨j,n⟩=>(j≤l.length)∧(0≤n∧n≤20*j)∧(cu (qZ p s r) (l.drop j) n=cu (qZ p s r) l 0)) (fun⟨j,n⟩=>[(17,.data (i64 j)),(9,.data (i64 n))]) (fun _=>[]) (fun _=>[]) (fun⟨j,n⟩=>l.length - j) ⟨0,0⟩ ?_ ?_
 ·exact⟨by omega,by omega,rfl⟩
 rintro⟨j,n⟩ ⟨hj,hn,hi⟩
 by_cases hlt:j < l.length
 ·obtain⟨x,hx⟩:∃x,l[j]? =some x:=⟨l[j]'hlt,by simp⟩
  have hxb:=hb x (List.mem_of_getElem? hx)
  obtain⟨k,rfl,hk⟩:=hmem x (List.mem_of_getElem? hx)
  obtain⟨a,u,m,q,mo,g⟩:=iB hf hk
  obtain⟨ρ,v,e1,e2,e3,_⟩:=jr g hr t
  have ev:qZ p s r (k:Int)=v:=by subst e1;simp [qZ,dQ g,List.getD_eq_getElem?_getD,e2]
  rw [ev] at hxb
  rw [ay hx,cu,ev] at hi
  (repeat' ((conv=>whnf);first|with_reducible refine Idx.got hx rfl ?_|with_reducible refine Idx.got e2 e1 ?_|refine gA ?_|(refine gB ?_ ?_<;>intro h)|(refine gI ?_;intro x hx)|(refine gJ ?_;intro j x hj hx)|refine gV ?_|refine gC (lu p s _ g rfl) ?_|intro _))<;>try (conv=>whnf)
  ·refine nx ⟨j+1,n+v⟩ ?_
   exact⟨by omega,by omega,hi⟩
  ·exfalso;omega
 ·(repeat' ((conv=>whnf);first|(exfalso;omega)|refine gA ?_|(refine gB ?_ ?_<;>intro h)|(refine gI ?_;intro x hx)|(refine gJ ?_;intro j x hj hx)|refine gV ?_|intro _))<;>try (conv=>whnf)
  refine⟨?_,rfl,trivial⟩
  rw [zJ hlt] at hi
  rw [← hi];rfl
theorem Np (p:Proj) (s:aA) (r t:Int) (hf:aK p s=true) (hr:gD p r=true):Con 140 [.d p.av,.d s.av,.d (i64 r),.d (i64 t)] (.d (i64 (DV p s r t))):=by
 refine con Tryz.func140 rfl rfl Tryz.call140 rfl fun hwf=>?_
 simp only [ARs.wf,AR.wf,AV.wf,AV.wfs,lm,lim] at hwf
 (repeat' ((conv=>whnf);first|refine gA ?_|(refine gB ?_ ?_<;>intro h)|(refine gI ?_;intro x hx)|(refine gJ ?_;intro j x hj hx)|refine gV ?_|intro _))<;>try (conv=>whnf)
 refine aG [2,3,4,5,13] [4,5] [] ?_
 (conv=>whnf)
 refine aC.go ((Nat)×(Int)) (fun⟨k,n⟩=>(k≤p.acts.length)∧(n=sumTo (zN p s r t) k)) (fun⟨k,n⟩=>[(14,.data (i64 k)),(9,.data (i64 n))]) (fun _=>[]) (fun _=>[]) (fun⟨k,n⟩=>p.acts.length - k) ⟨0,0⟩ ?_ ?_
 ·exact⟨by omega,rfl⟩
 rintro⟨k,n⟩ ⟨hk,hn⟩
 by_cases hlt:k < p.acts.length
 ·obtain⟨a,u,m,q,mo,g⟩:=iB hf hlt
  obtain⟨ρ,v,e1,e2,e3,e4⟩:=jr g hr t
  have hb:=Nn hf hr t hk
  rw [wN g] at e4
  (repeat' ((conv=>whnf);first|with_reducible refine Idx.got g.start rfl ?_|with_reducible refine Idx.got e2 e1 ?_|refine gA ?_|(refine gB ?_ ?_<;>intro h)|(refine gI ?_;intro x hx)|(refine gJ ?_;intro j x hj hx)|refine gV ?_|refine gC (iE p s _ g rfl) ?_|refine gC (fB p s _ g rfl) ?_|intro _))<;>try (conv=>whnf)
  ·refine nx ⟨k+1,n+v⟩ ?_
   exact⟨by omega,by rw [sumTo,hn,e4,if_pos (by simp [*])]⟩
  ·refine nx ⟨k+1,n⟩ ?_
   exact⟨by omega,by rw [sumTo,hn,e4,if_neg (by simp [*])];simp⟩
  ·refine nx ⟨k+1,n⟩ ?_
   exact⟨by omega,by rw [sumTo,hn,e4,if_neg (by simp [*])];simp⟩
  ·exfalso;omega
 ·(repeat' ((conv=>whnf);first|(exfalso;omega)|refine gA ?_|(refine gB ?_ ?_<;>intro h)|(refine gI ?_;intro x hx)|(refine gJ ?_;intro j x hj hx)|refine gV ?_|intro _))<;>try (conv=>whnf)
  refine⟨?_,rfl,trivial⟩
  rw [hn,show k=p.acts.length by omega];rfl
open Go.Proofs
theorem Ph (p:Proj) (hok:aY p=true):Con 99 [.d p.av] (.d (.sl ((fu p).map Rul.av))):=by
 refine con Tryz.func99 rfl rfl Tryz.call99 rfl fun hwf=>?_
 simp only [ARs.wf,AR.wf,AV.wf,AV.wfs,lm,lim] at hwf
 obtain⟨ha,hr,hs,hl⟩:=jf hok
 (repeat' ((conv=>whnf);first|refine gA ?_|(refine gB ?_ ?_<;>intro h)|refine gP ?_|refine gV ?_|intro _))<;>try (conv=>whnf)
 refine aG [1,15] [1] [12] ?_
 (conv=>whnf)
 refine aC.go ((Nat)×(List Rul)) (fun⟨k,o⟩=>(k≤p.links.length)∧(o.length≤k)∧(o=(List.range k).map fV)) (fun⟨k,o⟩=>[(16,.data (i64 k)),(3,.own 12 0)]) (fun _=>[]) (fun⟨k,o⟩=>[(12,138,o.map Rul.av,0)]) (fun⟨k,o⟩=>p.links.length - k) ⟨0,[]⟩ ?_ ?_
 ·exact⟨by omega,by simp,rfl⟩
 rintro⟨k,o⟩ ⟨hk,ol,ho⟩
 by_cases hlt:k < p.links.length
 ·(repeat' ((conv=>whnf);first|refine gA ?_|(refine gB ?_ ?_<;>intro h)|refine gP ?_|refine gV ?_|intro _))<;>try (conv=>whnf)
  ·refine nw ⟨k+1,o++[fV k]⟩ ?_ ?_
   ·(repeat' ((conv=>whnf)<;>(first|exact trivial|exact rfl|with_reducible refine And.intro ?_ ?_)))<;>((conv=>whnf)<;>((simp [fV]<;>rfl)))
   exact⟨by omega,by simp;omega,by rw [ho,List.range_succ,List.map_append];rfl⟩
  ·exfalso;omega
 (repeat' ((conv=>whnf);first|(exfalso;omega)|refine gA ?_|(refine gB ?_ ?_<;>intro h)|refine gP ?_|refine gV ?_|intro _))<;>try (conv=>whnf)
 rw [show k=p.links.length by omega] at ho ol
 clear hlt hk
 refine aG [1,27] [1] [12] ?_
 (conv=>whnf)
 refine aC.go ((Nat)×(List Rul)) (fun⟨k2,o2⟩=>(k2≤p.acts.length)∧(o2.length≤12+k2)∧(o2=o++(List.range k2).map endRule)) (fun⟨k2,o2⟩=>[(28,.data (i64 k2)),(3,.own 12 0)]) (fun _=>[]) (fun⟨k2,o2⟩=>[(12,138,o2.map Rul.av,0)]) (fun⟨k2,o2⟩=>p.acts.length - k2) ⟨0,o⟩ ?_ ?_
 ·exact⟨by omega,by omega,by simp⟩
 rintro⟨k2,o2⟩ ⟨hk2,ol2,ho2⟩
 by_cases hlt:k2 < p.acts.length
 ·(repeat' ((conv=>whnf);first|refine gA ?_|(refine gB ?_ ?_<;>intro h)|refine gP ?_|refine gV ?_|intro _))<;>try (conv=>whnf)
  ·refine nw ⟨k2+1,o2++[endRule k2]⟩ ?_ ?_
   ·(repeat' ((conv=>whnf)<;>(first|exact trivial|exact rfl|with_reducible refine And.intro ?_ ?_)))<;>((conv=>whnf)<;>((simp [endRule]<;>rfl)))
   exact⟨by omega,by simp;omega,by rw [ho2,List.range_succ,List.map_append,List.append_assoc];rfl⟩
  ·exfalso;omega
 (repeat' ((conv=>whnf);first|(exfalso;omega)|refine gA ?_|(refine gB ?_ ?_<;>intro h)|refine gP ?_|refine gV ?_|intro _))<;>try (conv=>whnf)
 rw [show k2=p.acts.length by omega] at ho2 ol2
 clear hlt hk2
 refine aG [1,39] [1] [12] ?_
 (conv=>whnf)
 refine aC.go ((Nat)×(List Rul)) (fun⟨r,o3⟩=>(r≤p.aU.length)∧(o3.length≤18+61*r)∧(o3=o2++(List.range r).flatMap qV)) (fun⟨r,o3⟩=>[(40,.data (i64 r)),(3,.own 12 0)]) (fun _=>[]) (fun⟨r,o3⟩=>[(12,138,o3.map Rul.av,0)]) (fun⟨r,o3⟩=>p.aU.length - r) ⟨0,o2⟩ ?_ ?_
 ·exact⟨by omega,by omega,by simp⟩
 rintro⟨r,o3⟩ ⟨hk3,ol3,ho3⟩
 by_cases hlt:r < p.aU.length
 ·(repeat' ((conv=>whnf);first|(exfalso;omega)|refine gA ?_|(refine gB ?_ ?_<;>intro h)|refine gP ?_|refine gV ?_|intro _))<;>try (conv=>whnf)
  refine aG [1,6,39,40] [1] [12] ?_
  (conv=>whnf)
  refine aC.go ((Nat)×(List Rul)) (fun⟨t,o4⟩=>(t≤61)∧(o4.length≤18+61*r+t)∧(o4=o3++(List.range t).map (ji r))) (fun⟨t,o4⟩=>[(7,.data (i64 t)),(3,.own 12 0)]) (fun _=>[]) (fun⟨t,o4⟩=>[(12,138,o4.map Rul.av,0)]) (fun⟨t,o4⟩=>61 - t) ⟨0,o3⟩ ?_ ?_
  ·exact⟨by omega,by omega,by simp⟩
  rintro⟨t,o4⟩ ⟨hk4,ol4,ho4⟩
  by_cases ZT:t < 61
  ·(repeat' ((conv=>whnf);first|(exfalso;omega)|refine gA ?_|(refine gB ?_ ?_<;>intro h)|refine gP ?_|refine gV ?_|intro _))<;>try (conv=>whnf)
   refine nw ⟨t+1,o4++[ji r t]⟩ ?_ ?_
   ·(repeat' ((conv=>whnf)<;>(first|exact trivial|exact rfl|with_reducible refine And.intro ?_ ?_)))<;>((conv=>whnf)<;>((simp [ji]<;>rfl)))
   exact⟨by omega,by simp;omega,by rw [ho4,List.range_succ,List.map_append,List.append_assoc];rfl⟩
  ·(repeat' ((conv=>whnf);first|(exfalso;omega)|refine gA ?_|(refine gB ?_ ?_<;>intro h)|refine gP ?_|refine gV ?_|intro _))<;>try (conv=>whnf)
   refine nx ⟨r+1,o4⟩ ?_
   refine⟨by omega,by omega,?_⟩
   rw [ho4,ho3,List.range_succ,List.flatMap_append,show t=61 by omega]
   simp [qV]
 (repeat' ((conv=>whnf);first|(exfalso;omega)|refine gA ?_|(refine gB ?_ ?_<;>intro h)|refine gP ?_|refine gV ?_|intro _))<;>try (conv=>whnf)
 rw [show r=p.aU.length by omega] at ho3 ol3
 clear hlt hk3
 refine aG [1,56] [1] [12] ?_
 (conv=>whnf)
 refine aC.go ((Nat)×(List Rul)) (fun⟨r5,o5⟩=>(r5≤p.aU.length)∧(o5.length≤201+36*r5)∧(o5=o3++(List.range r5).flatMap (fun r=>(List.range p.acts.length).flatMap (jY p r)))) (fun⟨r5,o5⟩=>[(57,.data (i64 r5)),(3,.own 12 0)]) (fun _=>[]) (fun⟨r5,o5⟩=>[(12,138,o5.map Rul.av,0)]) (fun⟨r5,o5⟩=>p.aU.length - r5) ⟨0,o3⟩ ?_ ?_
 ·exact⟨by omega,by omega,by simp⟩
 rintro⟨r5,o5⟩ ⟨hk5,ol5,ho5⟩
 by_cases hlt:r5 < p.aU.length
 ·(repeat' ((conv=>whnf);first|(exfalso;omega)|refine gA ?_|(refine gB ?_ ?_<;>intro h)|refine gP ?_|refine gV ?_|intro _))<;>try (conv=>whnf)
  refine aG [1,8,56,57,62] [1] [12] ?_
  (conv=>whnf)
  refine aC.go ((Nat)×(List Rul)) (fun⟨b,o6⟩=>(b≤p.acts.length)∧(o6.length≤201+36*r5+6*b)∧(o6=o5++(List.range b).flatMap (jY p r5))) (fun⟨b,o6⟩=>[(63,.data (i64 b)),(3,.own 12 0)]) (fun _=>[]) (fun⟨b,o6⟩=>[(12,138,o6.map Rul.av,0)]) (fun⟨b,o6⟩=>p.acts.length - b) ⟨0,o5⟩ ?_ ?_
  ·exact⟨by omega,by omega,by simp⟩
  rintro⟨b,o6⟩ ⟨hk6,ol6,ho6⟩
  by_cases ZU:b < p.acts.length
  ·(repeat' ((conv=>whnf);first|(exfalso;omega)|refine gA ?_|(refine gB ?_ ?_<;>intro h)|refine gP ?_|refine gV ?_|intro _))<;>try (conv=>whnf)
   refine aG [1,8,9,56,57,62,63] [1] [12] ?_
   (conv=>whnf)
   refine aC.go ((Nat)×(Int)×(List Rul)) (fun⟨j,c,o7⟩=>(c=b+1+j)∧(b+1+j≤p.acts.length)∧(fC p r5=false→j=0)∧(o7.length≤o6.length+j)∧(o7=o6++(List.range j).map (fun i=>iR r5 b (b+1+i)))) (fun⟨j,c,o7⟩=>[(10,.data (i64 c)),(3,.own 12 0)]) (fun _=>[]) (fun⟨j,c,o7⟩=>[(12,138,o7.map Rul.av,0)]) (fun⟨j,c,o7⟩=>p.acts.length - j) ⟨0,(b:Int)+1,o6⟩ ?_ ?_
   ·exact⟨by omega,by omega,fun _=>rfl,by omega,by simp⟩
   rintro⟨j,c,o7⟩ ⟨hc,hj,hz,ol7,ho7⟩
   cases hm:fC p r5 with
   |true=>
    (repeat' ((conv=>whnf);first|refine gA ?_|(refine gB ?_ ?_<;>intro h)|refine gP ?_|refine gV ?_|refine gC (iT p _) ?_|intro _))<;>try (conv=>whnf)
    ·refine nw ⟨j+1,c+1,o7++[iR r5 b (b+1+j)]⟩ ?_ ?_
     ·(repeat' ((conv=>whnf)<;>(first|exact trivial|exact rfl|with_reducible refine And.intro ?_ ?_)))<;>((conv=>whnf)<;>((subst hc;simp [iR,Int.natCast_add];try rfl)))
     exact⟨by omega,by omega,(fun e=>by cases e),(by simp;omega),by rw [ho7,List.range_succ,List.map_append,List.append_assoc];rfl⟩
    ·refine nx ⟨b+1,o7⟩ ?_
     refine⟨by omega,by omega,?_⟩
     rw [ho7,ho6,List.range_succ,List.flatMap_append,List.append_assoc,show j=p.acts.length - (b+1) by omega]
     simp [jY,hm]
   |false=>
    have hj0:=hz hm
    subst hj0
    (repeat' ((conv=>whnf);first|refine gA ?_|(refine gB ?_ ?_<;>intro h)|refine gP ?_|refine gV ?_|refine gC (iT p _) ?_|intro _))<;>try (conv=>whnf)
    all_goals
     refine nx ⟨b+1,o7⟩ ?_
     refine⟨by omega,by omega,?_⟩
     rw [ho7,ho6,List.range_succ,List.flatMap_append,List.append_assoc]
     simp [jY,hm]
  ·(repeat' ((conv=>whnf);first|(exfalso;omega)|refine gA ?_|(refine gB ?_ ?_<;>intro h)|refine gP ?_|refine gV ?_|intro _))<;>try (conv=>whnf)
   refine nx ⟨r5+1,o6⟩ ?_
   refine⟨by omega,by omega,?_⟩
   rw [ho6,ho5,List.range_succ,List.flatMap_append,List.append_assoc,show b=p.acts.length by omega]
   simp
 (repeat' ((conv=>whnf);first|(exfalso;omega)|refine gA ?_|(refine gB ?_ ?_<;>intro h)|refine gP ?_|refine gV ?_|intro _))<;>try (conv=>whnf)
 rw [show r5=p.aU.length by omega] at ho5 ol5
 clear hlt hk5
 refine aG [91] [] [12] ?_
 (conv=>whnf)
 refine aC.go ((Nat)×(List Rul)) (fun⟨k8,o8⟩=>(k8≤p.aL.length)∧(o8.length≤400+k8)∧(o8=o5++(List.range k8).map gT)) (fun⟨k8,o8⟩=>[(92,.data (i64 k8)),(3,.own 12 0)]) (fun _=>[]) (fun⟨k8,o8⟩=>[(12,138,o8.map Rul.av,0)]) (fun⟨k8,o8⟩=>p.aL.length - k8) ⟨0,o5⟩ ?_ ?_
 ·exact⟨by omega,by omega,by simp⟩
 rintro⟨k8,o8⟩ ⟨hk8,ol8,ho8⟩
 by_cases hlt:k8 < p.aL.length
 ·(repeat' ((conv=>whnf);first|(exfalso;omega)|refine gA ?_|(refine gB ?_ ?_<;>intro h)|refine gP ?_|refine gV ?_|intro _))<;>try (conv=>whnf)
  refine nw ⟨k8+1,o8++[gT k8]⟩ ?_ ?_
  ·(repeat' ((conv=>whnf)<;>(first|exact trivial|exact rfl|with_reducible refine And.intro ?_ ?_)))<;>((conv=>whnf)<;>((simp [gT]<;>rfl)))
  exact⟨by omega,by simp;omega,by rw [ho8,List.range_succ,List.map_append,List.append_assoc];rfl⟩
 (repeat' ((conv=>whnf);first|(exfalso;omega)|refine gA ?_|(refine gB ?_ ?_<;>intro h)|refine gP ?_|refine gV ?_|intro _))<;>try (conv=>whnf)
 refine⟨?_,rfl,trivial⟩
 rw [ho8,ho5,ho3,ho2,ho,show k8=p.aL.length by omega];rfl
end Go.Proofs.YtpfgedlimdeffaaGreat.Abs
