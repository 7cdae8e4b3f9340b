/- Part of a proof. -/
import Derived.Test.YthegbfgeochckaaGreatC12
import Derived.Test.YthegbfgeochckaaGreatPlain
import Derived.Test.YthegbfgeochckaaGreatC20a
set_option linter.all false
set_option maxRecDepth 20000
set_option maxHeartbeats 0
namespace Go.Proofs.YthegbfgeochckaaGreat.Abs
open Go.Proofs
structure EI (p:Proj) (s:bB) (k:Nat) (a:aB) (t m:Int) (q:Nat) (mo:Mode):Prop where
 act:p.acts[k]? =some a
 start:s.starts[k]? =some t
 mode:s.modes[k]? =some m
 mq:m=q
 moE:a.modes[q]? =some mo
 tb:0<=t/\t<=60
 aok:dV a p.aS.length p.aH.length=true
theorem eT {p:Proj} {s:bB} (h:bN p s=true):bI p=true/\s.starts.length=p.acts.length/\s.modes.length=p.acts.length/\∀k,k < p.acts.length->vH p s k=true:=by
 simp only [bN,Bool.and_eq_true,dB,Bool.not_eq_true',decide_eq_false_iff_not] at h
 exact⟨h.1.1.1,by omega,by omega,h.2⟩
theorem sG {p:Proj} {s:bB} (h:bN p s=true) {k:Nat} (hk:k < p.acts.length):∃a t m q mo,EI p s k a t m q mo:=by
 obtain⟨h1,h2,h3,h4⟩:=eT h
 have e1:p.acts[k]? =some (p.acts[k]'hk):=by simp
 have e2:s.starts[k]? =some (s.starts[k]'(by omega)):=by simp
 have e3:s.modes[k]? =some (s.modes[k]'(by omega)):=by simp
 have hd:=h4 k hk
 simp only [vH,e1,e2,e3,Bool.and_eq_true,cu,within_iff] at hd
 exact⟨_,_,_,(s.modes[k]'(by omega)).toNat,(p.acts[k]'hk).modes[(s.modes[k]'(by omega)).toNat]'(by omega),e1,e2,e3,by omega,by simp,hd.1,(bX h1).act k _ e1⟩
theorem nS (p:Proj) (s:bB) (hp:p.fine):Con 166 [.d p.av,.d s.av] (.d (.bool (bN p s))):=by
 refine con Tryz.func166 rfl rfl Tryz.call166 rfl fun hwf=>?_
 simp only [ARs.wf,AR.wf,AV.wf,AV.wfs,lm,lim] at hwf
 (repeat' ((conv=>whnf);first|refine gA ?_|(refine gB ?_ ?_<;>intro h)|refine gC (dJ p hp) ?_|intro _))<;>try (conv=>whnf)
 all_goals try (refine⟨?_,rfl,trivial⟩;simp [bN, *];done)
 refine ay [2,3,29] [2,3] [] ?_
 (conv=>whnf)
 refine au.go ((Nat)) (fun k=>(k<=p.acts.length)/\(∀i,i < k->vH p s i=true)) (fun k=>[(30,.data (i64 k))]) lE lE (fun k=>p.acts.length - k) (0) ?_ ?_
 ·exact⟨by omega,by omega⟩
 rintro k ⟨hk,hi⟩
 by_cases hlt:k < p.acts.length
 ·obtain⟨t,e2⟩:∃x,s.starts[k]? =some x:=⟨s.starts[k]'(by omega),by simp⟩
  obtain⟨m,e3⟩:∃x,s.modes[k]? =some x:=⟨s.modes[k]'(by omega),by simp⟩
  obtain⟨a,e4⟩:∃x,p.acts[k]? =some x:=⟨p.acts[k]'(by omega),by simp⟩
  have hm:=jD hwf.1.2.1.2 e4
  simp only [AV.wf,AV.wfs,List.length_map] at hm
  have e:vH p s k=(cu t&&within m 0 (a.modes.length - 1)):=by simp only [vH,e2,e3,e4]
  (repeat' ((conv=>whnf);first|(with_reducible first|refine Idx.got e2 rfl ?_|refine Idx.got e3 rfl ?_|refine Idx.got e4 rfl ?_)|refine gAV ?_|(refine gN ?_ ?_<;>intro h hw)|(refine gB ?_ ?_<;>intro h)|refine gC (mK _) ?_|refine gC (bO _ _ _) ?_|intro _))<;>try (conv=>whnf)
  all_goals first
   |(exfalso;omega)
   |(refine⟨?_,rfl,trivial⟩;rw [bN,fT k hlt (by rw [e];simp [*])];simp;done)
   |(refine nx (k+1) ?_
     exact⟨by omega,eY hi (by rw [e];simp [*])⟩)
 ·(repeat' ((conv=>whnf);first|(exfalso;omega)|(refine gB ?_ ?_<;>intro h)))<;>try (conv=>whnf)
  refine⟨?_,rfl,trivial⟩
  rw [bN,dB.2 fun i hh=>hi i (by omega)];simp [*]
theorem nT (p:Proj) (s:bB) (hp:p.fine):Con 130 [.d p.av,.d s.av] (.d (.bool (bN p s))):=by
 refine con Tryz.func130 rfl rfl Tryz.call130 rfl fun hwf=>?_
 simp only [ARs.wf,AR.wf,AV.wf,AV.wfs,lm,lim] at hwf
 (repeat' ((conv=>whnf);first|refine gA ?_|(refine gB ?_ ?_<;>intro h)|refine gC (dP p hp) ?_|intro _))<;>try (conv=>whnf)
 all_goals try (refine⟨?_,rfl,trivial⟩;simp [bN, *];done)
 refine ay [3,29,30] [3] [] ?_
 (conv=>whnf)
 refine au.go ((Nat)) (fun k=>(k<=p.acts.length)/\(∀i,i < k->vH p s i=true)) (fun k=>[(31,.data (i64 k))]) lE lE (fun k=>p.acts.length - k) (0) ?_ ?_
 ·exact⟨by omega,by omega⟩
 rintro k ⟨hk,hi⟩
 by_cases hlt:k < p.acts.length
 ·obtain⟨t,e2⟩:∃x,s.starts[k]? =some x:=⟨s.starts[k]'(by omega),by simp⟩
  obtain⟨m,e3⟩:∃x,s.modes[k]? =some x:=⟨s.modes[k]'(by omega),by simp⟩
  obtain⟨a,e4⟩:∃x,p.acts[k]? =some x:=⟨p.acts[k]'(by omega),by simp⟩
  have hm:=jD hwf.1.2.1.2 e4
  simp only [AV.wf,AV.wfs,List.length_map] at hm
  have e:vH p s k=(cu t&&within m 0 (a.modes.length - 1)):=by simp only [vH,e2,e3,e4]
  (repeat' ((conv=>whnf);first|(with_reducible first|refine Idx.got e2 rfl ?_|refine Idx.got e3 rfl ?_|refine Idx.got e4 rfl ?_)|refine gAV ?_|(refine gN ?_ ?_<;>intro h hw)|(refine gB ?_ ?_<;>intro h)|refine gC (dG _ _ _) ?_|intro _))<;>try (conv=>whnf)
  all_goals first
   |(exfalso;omega)
   |(refine⟨?_,rfl,trivial⟩;rw [bN,fT k hlt (by rw [e];simp [cu, *])];simp;done)
   |(refine nx (k+1) ?_
     exact⟨by omega,eY hi (by rw [e];simp [cu, *])⟩)
 ·(repeat' ((conv=>whnf);first|(exfalso;omega)|(refine gB ?_ ?_<;>intro h)))<;>try (conv=>whnf)
  refine⟨?_,rfl,trivial⟩
  rw [bN,dB.2 fun i hh=>hi i (by omega)];simp [*]
theorem pJ {p:Proj} {s:bB} {k:Nat} {a:aB} {t m:Int} {q:Nat} {mo:Mode} (g:EI p s k a t m q mo):Cq p s k=mo:=by
 have:=g.mq;subst this
 simp [Cq,nQ,List.getD_eq_getElem?_getD,g.act,g.mode,g.moE]
theorem xq {p:Proj} {s:bB} {k:Nat} {a:aB} {t m:Int} {q:Nat} {mo:Mode} (g:EI p s k a t m q mo):zw p s k=t+mo.dur:=by
 rw [zw,pJ g];simp [List.getD_eq_getElem?_getD,g.start]
theorem PV {p:Proj} {s:bB} {k:Nat} {a:aB} {t m:Int} {q:Nat} {mo:Mode} (g:EI p s k a t m q mo):1<=mo.dur/\mo.dur<=12:=(mQ g.aok (List.mem_of_getElem? g.moE)).1
theorem zK (p:Proj) (s:bB) (n:Int) {k:Nat} {a:aB} {t m:Int} {q:Nat} {mo:Mode} (g:EI p s k a t m q mo) (hn:n=k):Con 354 [.d p.av,.d s.av,.d (i64 n)] (.d mo.av):=by
 refine con Tryz.func354 rfl rfl Tryz.call354 rfl fun hwf=>?_
 (repeat' ((conv=>whnf);first|(with_reducible first|refine Idx.got g.act hn ?_|refine Idx.got g.mode hn ?_|refine Idx.got g.moE g.mq ?_)|refine gA ?_))
 exact⟨rfl,rfl,trivial⟩
theorem rV (p:Proj) (s:bB) (n:Int) {k:Nat} {a:aB} {t m:Int} {q:Nat} {mo:Mode} (g:EI p s k a t m q mo) (hn:n=k):Con 332 [.d p.av,.d s.av,.d (i64 n)] (.d mo.av):=by
 refine con Tryz.func332 rfl rfl Tryz.call332 rfl fun hwf=>?_
 (repeat' ((conv=>whnf);first|(with_reducible first|refine Idx.got g.act hn ?_|refine Idx.got g.mode hn ?_|refine Idx.got g.moE g.mq ?_)|refine gA ?_))
 exact⟨rfl,rfl,trivial⟩
theorem Dn (p:Proj) (s:bB) (n:Int) {k:Nat} {a:aB} {t m:Int} {q:Nat} {mo:Mode} (g:EI p s k a t m q mo) (hn:n=k):Con 304 [.d p.av,.d s.av,.d (i64 n)] (.d (i64 (zw p s k))):=by
 refine con Tryz.func304 rfl rfl Tryz.call304 rfl fun hwf=>?_
 have hd:=PV g
 have ht:=g.tb
 rw [xq g]
 (repeat' ((conv=>whnf);first|with_reducible refine Idx.got g.start hn ?_|refine gA ?_|refine gC (zK p s n g hn) ?_|intro _))
 exact⟨rfl,rfl,trivial⟩
theorem yt (p:Proj) (s:bB) (n:Int) {k:Nat} {a:aB} {t m:Int} {q:Nat} {mo:Mode} (g:EI p s k a t m q mo) (hn:n=k):Con 274 [.d p.av,.d s.av,.d (i64 n)] (.d (i64 (zw p s k))):=by
 refine con Tryz.func274 rfl rfl Tryz.call274 rfl fun hwf=>?_
 have hd:=PV g
 have ht:=g.tb
 rw [xq g]
 (repeat' ((conv=>whnf);first|with_reducible refine Idx.got g.start hn ?_|refine gA ?_|refine gC (rV p s n g hn) ?_|intro _))
 exact⟨rfl,rfl,trivial⟩
open Go.Proofs
theorem Ya (l:List Int) (fc:Nat) (caps:List AV) (p:Int->Bool) (hc:∀n∈l,Con fc ([.d (i64 n)]++caps.map .ref) (.d (.bool (p n)))):Con 154 [.d (ints l),.fn fc caps] (.d (ints (l.filter p))):=by
 refine con Tryz.func154 rfl rfl Tryz.call154 rfl fun hwf=>?_
 simp only [ARs.wf,AR.wf,AV.wf,AV.wfs,lm,lim] at hwf
 try (conv=>whnf)
 refine ay [1,9,10] [] [8] ?_
 (conv=>whnf)
 refine au.go ((Nat)×(List Int)) (fun⟨k,o⟩=>(k<=l.length)/\(o.length<=k)/\(o++(l.drop k).filter p=l.filter p)) (fun⟨k,o⟩=>[(11,.data (i64 k)),(5,.own 8 0)]) lE (fun⟨k,o⟩=>[(8,3,o.map i64,0)]) (fun⟨k,o⟩=>l.length - k) ⟨0,[]⟩ ?_ ?_
 ·exact⟨by omega,by simp,rfl⟩
 rintro⟨k,o⟩ ⟨hk,ho,hi⟩
 by_cases hlt:k < l.length
 ·obtain⟨x,hx⟩:∃x,l[k]? =some x:=⟨l[k]'hlt,by simp⟩
  (repeat' ((conv=>whnf);first|with_reducible refine Idx.got hx rfl ?_|refine gAX ?_|(refine gB ?_ ?_<;>intro h)|refine gC (hc x (List.mem_of_getElem? hx)) ?_|intro _))<;>try (conv=>whnf)
  ·refine nwS ⟨k+1,o++[x]⟩ ?_
   exact⟨by omega,by simp;omega,(jK hi hx).1 h⟩
  ·refine nx ⟨k+1,o⟩ ?_
   exact⟨by omega,by omega,(jK hi hx).2 h⟩
  ·exfalso;omega
 ·(repeat' ((conv=>whnf);first|(exfalso;omega)|(refine gB ?_ ?_<;>intro h)))<;>try (conv=>whnf)
  refine⟨?_,rfl,trivial⟩
  rw [<- hi,mg hlt];simp
def Vn (p:Proj) (s:bB) (t:Int) (n:Int):Bool:=runs p s t n.toNat
theorem abg {p:Proj} {s:bB} {k:Nat} {a:aB} {t m:Int} {q:Nat} {mo:Mode} (g:EI p s k a t m q mo) (x:Int):runs p s x k=(decide (t<=x)&&decide (zw p s k > x)):=by
 simp [runs,List.getD_eq_getElem?_getD,g.start]
theorem Rk (p:Proj) (s:bB) (t:Int) (n:Int) {k:Nat} {a:aB} {u m:Int} {q:Nat} {mo:Mode} (g:EI p s k a u m q mo) (hn:n=k):Con 378 [.d (i64 n),.ref s.av,.ref (i64 t),.ref p.av] (.d (.bool (Vn p s t n))):=by
 refine con Tryz.func378 rfl rfl Tryz.call378 rfl fun hwf=>?_
 have e:Vn p s t n=(decide (u<=t)&&decide (zw p s k > t)):=by subst hn;rw [Vn];exact abg g t
 rw [e]
 (repeat' ((conv=>whnf);first|with_reducible refine Idx.got g.start hn ?_|refine gA ?_|(refine gB ?_ ?_<;>intro h)|refine gC (Dn p s n g hn) ?_|intro _))
 all_goals (refine⟨?_,rfl,trivial⟩;simp [*])
theorem Rl {n:Nat} (h:n<=200):aT n=upTo n:=by
 rw [aT,if_pos (within_iff.2 (by omega))];simp [upTo]
theorem Yb {n:Nat} {x:Int} (h:x∈upTo n):∃k:Nat,x=k/\k < n:=by
 simp only [upTo,List.mem_map,List.mem_range] at h
 obtain⟨k,hk,rfl⟩:=h
 exact⟨k,rfl,hk⟩
theorem Vo (p:Proj) (s:bB) (t:Int) (hf:bN p s=true):Con 355 [.d p.av,.d s.av,.d (i64 t)] (.d (ints ((upTo p.acts.length).filter (Vn p s t)))):=by
 refine con Tryz.func355 rfl rfl Tryz.call355 rfl fun hwf=>?_
 have hna:=(bX (eT hf).1).Cy
 have hR:=yL (p.acts.map aB.av).length
 rw [show aT (((p.acts.map aB.av).length:Nat):Int)=upTo p.acts.length by rw [List.length_map];exact Rl (by omega)] at hR
 have hc:∀n∈upTo p.acts.length,Con 378 ([.d (i64 n)]++[s.av,i64 t,p.av].map .ref) (.d (.bool (Vn p s t n))):=fun n hn=>by
  obtain⟨k,e,hk⟩:=Yb hn
  obtain⟨a,u,m,q,mo,g⟩:=sG hf hk
  exact Rk p s t n g e
 (repeat' ((conv=>whnf);first|refine gA ?_|refine gC hR ?_|refine gC (Ya (upTo p.acts.length) 378 [s.av,i64 t,p.av] _ hc) ?_|intro _))
 exact⟨rfl,rfl,trivial⟩
end Go.Proofs.YthegbfgeochckaaGreat.Abs
namespace Go.Proofs.YthegbfgeochckaaGreat.Abs
open Go.Proofs
theorem uL {p:Proj} {s:bB} {k:Nat} {a:aB} {t m:Int} {q:Nat} {mo:Mode} (g:EI p s k a t m q mo) {r:Int} (hr:fM p r=true) (x:Int):
  ∃(ρ:Nat) (u:Int),r=ρ/\mo.use[ρ]? =some u/\(0<=u/\u<=20)/\IB p s r x k=if runs p s x k=true then u else 0:=by
 have hm:=mQ g.aok (List.mem_of_getElem? g.moE)
 have hw:=within_iff.1 hr
 have e2:mo.use[r.toNat]? =some (mo.use[r.toNat]'(by omega)):=by simp
 refine⟨r.toNat,_,by omega,e2,hm.2.1 _ (List.mem_of_getElem? e2),?_⟩
 rw [IB,pJ g,List.getD_eq_getElem?_getD,e2];rfl
theorem Yc {p:Proj} {s:bB} (hf:bN p s=true) {r:Int} (hr:fM p r=true) (x:Int) {k:Nat} (hk:k < p.acts.length):0<=IB p s r x k/\IB p s r x k<=20:=by
 obtain⟨a,t,m,q,mo,g⟩:=sG hf hk
 obtain⟨ρ,u,_,_,hb,e⟩:=uL g hr x
 rw [e];split<;>omega
theorem Yd {p:Proj} {s:bB} (hf:bN p s=true) {r:Int} (hr:fM p r=true) (x:Int) {k:Nat} (hk:k<=p.acts.length):0<=sumTo (IB p s r x) k/\sumTo (IB p s r x) k<=20*k:=
 kY fun i hi=>Yc hf hr x (by omega)
def uh (f:Int->Int):List Int->Int->Int
 |[],s=>s
 |x::r,s=>uh f r (s+f x)
theorem LW (f:Int->Int):∀(l m:List Int) (s:Int),uh f (l++m) s=uh f m (uh f l s)
 |[],_,_=>rfl
 |x::l,m,s=>LW f l m (s+f x)
theorem Jw {f:Int->Int} {P:Int->Bool} {g:Nat->Int}:∀(n:Nat),(∀k,k < n->g k=if P k=true then f k else 0)->uh f ((upTo n).filter P) 0=sumTo g n
 |0,_=>rfl
 |n+1,h=>by
  have e:upTo (n+1)=upTo n++[(n:Int)]:=by simp [upTo,List.range_succ]
  rw [e,List.filter_append,LW,Jw n fun k hk=>h k (by omega),sumTo,h n (by omega)]
  by_cases hp:P n=true
  ·rw [if_pos hp,List.filter_cons,if_pos hp];rfl
  ·rw [if_neg hp,List.filter_cons,if_neg hp];simp [uh]
def Jy (p:Proj) (s:bB) (r:Int) (n:Int):Int:=(Cq p s n.toNat).use.getD r.toNat 0
theorem aci {p:Proj} {s:bB} (hf:bN p s=true) (r t:Int):uh (Jy p s r) ((upTo p.acts.length).filter (Vn p s t)) 0=Nk p s r t:=
 Jw _ fun k hk=>by simp [IB,Vn,Jy]
theorem ZV (p:Proj) (s:bB) (r t:Int) (hf:bN p s=true) (hr:fM p r=true):Con 305 [.d p.av,.d s.av,.d (i64 r),.d (i64 t)] (.d (i64 (Nk p s r t))):=by
 refine con Tryz.func305 rfl rfl Tryz.call305 rfl fun hwf=>?_
 have hna:=(bX (eT hf).1).Cy
 obtain⟨l,hl⟩:∃l,l=(upTo p.acts.length).filter (Vn p s t):=⟨_,rfl⟩
 have hlen:l.length<=p.acts.length:=by rw [hl];have:=List.length_filter_le (Vn p s t) (upTo p.acts.length);rw [zq] at this;exact this
 have hmem:∀x∈l,∃k:Nat,x=k/\k < p.acts.length:=fun x hx=>by rw [hl] at hx;exact Yb (List.mem_filter.1 hx).1
 have hrun:=Vo p s t hf
 rw [<- hl] at hrun
 rw [<- aci hf r t, <- hl]
 have hb:∀x∈l,0<=Jy p s r x/\Jy p s r x<=20:=fun x hx=>by
  obtain⟨k,rfl,hk⟩:=hmem x hx
  obtain⟨a,u,m,q,mo,g⟩:=sG hf hk
  obtain⟨ρ,v,e1,e2,e3,_⟩:=uL g hr t
  subst e1
  simpa [Jy,pJ g,List.getD_eq_getElem?_getD,e2] using e3
 (repeat' ((conv=>whnf);first|refine gA ?_|refine gC hrun ?_|intro _))
 refine ay [2,4,5,15,16] [4,5] [] ?_
 (conv=>whnf)
 refine au.go ((Nat)×(Int)) (fun⟨j,n⟩=>(j<=l.length)/\(0<=n/\n<=20*j)/\(uh (Jy p s r) (l.drop j) n=uh (Jy p s r) l 0)) (fun⟨j,n⟩=>[(17,.data (i64 j)),(9,.data (i64 n))]) lE lE (fun⟨j,n⟩=>l.length - j) ⟨0,0⟩ ?_ ?_
 ·exact⟨by omega,by omega,rfl⟩
 rintro⟨j,n⟩ ⟨hj,hn,hi⟩
 by_cases hlt:j < l.length
 ·obtain⟨x,hx⟩:∃x,l[j]? =some x:=⟨l[j]'hlt,by simp⟩
  have hxb:=hb x (List.mem_of_getElem? hx)
  obtain⟨k,rfl,hk⟩:=hmem x (List.mem_of_getElem? hx)
  obtain⟨a,u,m,q,mo,g⟩:=sG hf hk
  obtain⟨ρ,v,e1,e2,e3,_⟩:=uL g hr t
  have ev:Jy p s r (k:Int)=v:=by subst e1;simp [Jy,pJ g,List.getD_eq_getElem?_getD,e2]
  rw [ev] at hxb
  rw [aA hx,uh,ev] at hi
  (repeat' ((conv=>whnf);first|(with_reducible first|refine Idx.got hx rfl ?_|refine Idx.got e2 e1 ?_)|refine gAV ?_|(refine gB ?_ ?_<;>intro h)|refine gC (zK p s _ g rfl) ?_|intro _))
  ·refine nx ⟨j+1,n+v⟩ ?_
   exact⟨by omega,by omega,hi⟩
  ·exfalso;omega
 ·(repeat' ((conv=>whnf);first|(exfalso;omega)|(refine gB ?_ ?_<;>intro h)))
  refine⟨?_,rfl,trivial⟩
  rw [mg hlt] at hi
  rw [<- hi];rfl
theorem Ye (p:Proj) (s:bB) (r t:Int) (hf:bN p s=true) (hr:fM p r=true):Con 275 [.d p.av,.d s.av,.d (i64 r),.d (i64 t)] (.d (i64 (Nk p s r t))):=by
 refine con Tryz.func275 rfl rfl Tryz.call275 rfl fun hwf=>?_
 simp only [ARs.wf,AR.wf,AV.wf,AV.wfs,lm,lim] at hwf
 try (conv=>whnf)
 refine ay [2,3,4,5,13] [4,5] [] ?_
 (conv=>whnf)
 refine au.go ((Nat)×(Int)) (fun⟨k,n⟩=>(k<=p.acts.length)/\(n=sumTo (IB p s r t) k)) (fun⟨k,n⟩=>[(14,.data (i64 k)),(9,.data (i64 n))]) lE lE (fun⟨k,n⟩=>p.acts.length - k) ⟨0,0⟩ ?_ ?_
 ·exact⟨by omega,rfl⟩
 rintro⟨k,n⟩ ⟨hk,hn⟩
 by_cases hlt:k < p.acts.length
 ·obtain⟨a,u,m,q,mo,g⟩:=sG hf hlt
  obtain⟨ρ,v,e1,e2,e3,e4⟩:=uL g hr t
  have hb:=Yd hf hr t hk
  rw [abg g] at e4
  (repeat' ((conv=>whnf);first|(with_reducible first|refine Idx.got g.start rfl ?_|refine Idx.got e2 e1 ?_)|refine gAV ?_|(refine gB ?_ ?_<;>intro h)|refine gC (yt p s _ g rfl) ?_|refine gC (rV p s _ g rfl) ?_|intro _))<;>try (conv=>whnf)
  ·refine nx ⟨k+1,n+v⟩ ?_
   exact⟨by omega,by rw [sumTo,hn,e4,if_pos (by simp [*])]⟩
  ·refine nx ⟨k+1,n⟩ ?_
   exact⟨by omega,by rw [sumTo,hn,e4,if_neg (by simp [*])];simp⟩
  ·refine nx ⟨k+1,n⟩ ?_
   exact⟨by omega,by rw [sumTo,hn,e4,if_neg (by simp [*])];simp⟩
  ·exfalso;omega
 ·(repeat' ((conv=>whnf);first|(exfalso;omega)|(refine gB ?_ ?_<;>intro h)))<;>try (conv=>whnf)
  refine⟨?_,rfl,trivial⟩
  rw [hn,show k=p.acts.length by omega];rfl
open Go.Proofs
theorem ZW (p:Proj) (hok:bI p=true):Con 217 [.d p.av] (.d (.sl ((dw p).map Rul.av))):=by
 refine con Tryz.func217 rfl rfl Tryz.call217 rfl fun hwf=>?_
 obtain⟨ha,hr,hs,hl⟩:=mW hok
 try (conv=>whnf)
 refine ay [1,15] [1] [12] ?_
 (conv=>whnf)
 refine au.go ((Nat)×(List Rul)) (fun⟨k,o⟩=>(k<=p.links.length)/\(o.length<=k)/\(o=(List.range k).map jc)) (fun⟨k,o⟩=>[(16,.data (i64 k)),(3,.own 12 0)]) lE (fun⟨k,o⟩=>[(12,128,o.map Rul.av,0)]) (fun⟨k,o⟩=>p.links.length - k) ⟨0,[]⟩ ?_ ?_
 ·exact⟨by omega,by simp,rfl⟩
 rintro⟨k,o⟩ ⟨hk,ol,ho⟩
 by_cases hlt:k < p.links.length
 ·(repeat' ((conv=>whnf);first|refine gAX ?_|(refine gB ?_ ?_<;>intro h)))
  ·refine nw ⟨k+1,o++[jc k]⟩ ?_ ?_
   ·(repeat' ((conv=>whnf)<;>(first|exact trivial|exact rfl|with_reducible refine And.intro ?_ ?_)))<;>((conv=>whnf)<;>((simp [jc]<;>rfl)))
   exact⟨by omega,by simp;omega,by rw [ho,List.range_succ,List.map_append];rfl⟩
  ·exfalso;omega
 (repeat' ((conv=>whnf);first|(exfalso;omega)|(refine gB ?_ ?_<;>intro h)))
 rw [show k=p.links.length by omega] at ho ol
 clear hlt hk
 refine ay [1,27] [1] [12] ?_
 (conv=>whnf)
 refine au.go ((Nat)×(List Rul)) (fun⟨k2,o2⟩=>(k2<=p.acts.length)/\(o2.length<=12+k2)/\(o2=o++(List.range k2).map endRule)) (fun⟨k2,o2⟩=>[(28,.data (i64 k2)),(3,.own 12 0)]) lE (fun⟨k2,o2⟩=>[(12,128,o2.map Rul.av,0)]) (fun⟨k2,o2⟩=>p.acts.length - k2) ⟨0,o⟩ ?_ ?_
 ·exact⟨by omega,by omega,by simp⟩
 rintro⟨k2,o2⟩ ⟨hk2,ol2,ho2⟩
 by_cases hlt:k2 < p.acts.length
 ·(repeat' ((conv=>whnf);first|refine gAX ?_|(refine gB ?_ ?_<;>intro h)))
  ·refine nw ⟨k2+1,o2++[endRule k2]⟩ ?_ ?_
   ·(repeat' ((conv=>whnf)<;>(first|exact trivial|exact rfl|with_reducible refine And.intro ?_ ?_)))<;>((conv=>whnf)<;>((simp [endRule]<;>rfl)))
   exact⟨by omega,by simp;omega,by rw [ho2,List.range_succ,List.map_append,List.append_assoc];rfl⟩
  ·exfalso;omega
 (repeat' ((conv=>whnf);first|(exfalso;omega)|(refine gB ?_ ?_<;>intro h)))
 rw [show k2=p.acts.length by omega] at ho2 ol2
 clear hlt hk2
 refine ay [1,39] [1] [12] ?_
 (conv=>whnf)
 refine au.go ((Nat)×(List Rul)) (fun⟨r,o3⟩=>(r<=p.aS.length)/\(o3.length<=18+61*r)/\(o3=o2++(List.range r).flatMap pq)) (fun⟨r,o3⟩=>[(40,.data (i64 r)),(3,.own 12 0)]) lE (fun⟨r,o3⟩=>[(12,128,o3.map Rul.av,0)]) (fun⟨r,o3⟩=>p.aS.length - r) ⟨0,o2⟩ ?_ ?_
 ·exact⟨by omega,by omega,by simp⟩
 rintro⟨r,o3⟩ ⟨hk3,ol3,ho3⟩
 by_cases hlt:r < p.aS.length
 ·(repeat' ((conv=>whnf);first|(exfalso;omega)|(refine gB ?_ ?_<;>intro h)))
  refine ay [1,6,39,40] [1] [12] ?_
  (conv=>whnf)
  refine au.go ((Nat)×(List Rul)) (fun⟨t,o4⟩=>(t<=61)/\(o4.length<=18+61*r+t)/\(o4=o3++(List.range t).map (nE r))) (fun⟨t,o4⟩=>[(7,.data (i64 t)),(3,.own 12 0)]) lE (fun⟨t,o4⟩=>[(12,128,o4.map Rul.av,0)]) (fun⟨t,o4⟩=>61 - t) ⟨0,o3⟩ ?_ ?_
  ·exact⟨by omega,by omega,by simp⟩
  rintro⟨t,o4⟩ ⟨hk4,ol4,ho4⟩
  by_cases ajC:t < 61
  ·(repeat' ((conv=>whnf);first|(exfalso;omega)|refine gAX ?_|(refine gB ?_ ?_<;>intro h)))
   refine nw ⟨t+1,o4++[nE r t]⟩ ?_ ?_
   ·(repeat' ((conv=>whnf)<;>(first|exact trivial|exact rfl|with_reducible refine And.intro ?_ ?_)))<;>((conv=>whnf)<;>((simp [nE]<;>rfl)))
   exact⟨by omega,by simp;omega,by rw [ho4,List.range_succ,List.map_append,List.append_assoc];rfl⟩
  ·(repeat' ((conv=>whnf);first|(exfalso;omega)|refine gA ?_|(refine gB ?_ ?_<;>intro h)))
   refine nx ⟨r+1,o4⟩ ?_
   refine⟨by omega,by omega,?_⟩
   rw [ho4,ho3,List.range_succ,List.flatMap_append,show t=61 by omega]
   simp [pq]
 (repeat' ((conv=>whnf);first|(exfalso;omega)|(refine gB ?_ ?_<;>intro h)))
 rw [show r=p.aS.length by omega] at ho3 ol3
 clear hlt hk3
 refine ay [1,56] [1] [12] ?_
 (conv=>whnf)
 refine au.go ((Nat)×(List Rul)) (fun⟨r5,o5⟩=>(r5<=p.aS.length)/\(o5.length<=201+36*r5)/\(o5=o3++(List.range r5).flatMap (fun r=>(List.range p.acts.length).flatMap (dW p r)))) (fun⟨r5,o5⟩=>[(57,.data (i64 r5)),(3,.own 12 0)]) lE (fun⟨r5,o5⟩=>[(12,128,o5.map Rul.av,0)]) (fun⟨r5,o5⟩=>p.aS.length - r5) ⟨0,o3⟩ ?_ ?_
 ·exact⟨by omega,by omega,by simp⟩
 rintro⟨r5,o5⟩ ⟨hk5,ol5,ho5⟩
 by_cases hlt:r5 < p.aS.length
 ·(repeat' ((conv=>whnf);first|(exfalso;omega)|(refine gB ?_ ?_<;>intro h)))
  refine ay [1,8,56,57,62] [1] [12] ?_
  (conv=>whnf)
  refine au.go ((Nat)×(List Rul)) (fun⟨b,o6⟩=>(b<=p.acts.length)/\(o6.length<=201+36*r5+6*b)/\(o6=o5++(List.range b).flatMap (dW p r5))) (fun⟨b,o6⟩=>[(63,.data (i64 b)),(3,.own 12 0)]) lE (fun⟨b,o6⟩=>[(12,128,o6.map Rul.av,0)]) (fun⟨b,o6⟩=>p.acts.length - b) ⟨0,o5⟩ ?_ ?_
  ·exact⟨by omega,by omega,by simp⟩
  rintro⟨b,o6⟩ ⟨hk6,ol6,ho6⟩
  by_cases aiq:b < p.acts.length
  ·(repeat' ((conv=>whnf);first|(exfalso;omega)|refine gA ?_|(refine gB ?_ ?_<;>intro h)))
   refine ay [1,8,9,56,57,62,63] [1] [12] ?_
   (conv=>whnf)
   refine au.go ((Nat)×(Int)×(List Rul)) (fun⟨j,c,o7⟩=>(c=b+1+j)/\(b+1+j<=p.acts.length)/\(gu p r5=false->j=0)/\(o7.length<=o6.length+j)/\(o7=o6++(List.range j).map (fun i=>jd r5 b (b+1+i)))) (fun⟨j,c,o7⟩=>[(10,.data (i64 c)),(3,.own 12 0)]) lE (fun⟨j,c,o7⟩=>[(12,128,o7.map Rul.av,0)]) (fun⟨j,c,o7⟩=>p.acts.length - j) ⟨0,(b:Int)+1,o6⟩ ?_ ?_
   ·exact⟨by omega,by omega,fun _=>rfl,by omega,by simp⟩
   rintro⟨j,c,o7⟩ ⟨hc,hj,hz,ol7,ho7⟩
   cases hm:gu p r5 with
   |true=>
    (repeat' ((conv=>whnf);first|refine gAX ?_|(refine gB ?_ ?_<;>intro h)|refine gC (ow p _) ?_|intro _))
    ·refine nw ⟨j+1,c+1,o7++[jd r5 b (b+1+j)]⟩ ?_ ?_
     ·(repeat' ((conv=>whnf)<;>(first|exact trivial|exact rfl|with_reducible refine And.intro ?_ ?_)))<;>((conv=>whnf)<;>((subst hc;simp [jd,Int.natCast_add];try rfl)))
     exact⟨by omega,by omega,(fun e=>by cases e),(by simp;omega),by rw [ho7,List.range_succ,List.map_append,List.append_assoc];rfl⟩
    ·refine nx ⟨b+1,o7⟩ ?_
     refine⟨by omega,by omega,?_⟩
     rw [ho7,ho6,List.range_succ,List.flatMap_append,List.append_assoc,show j=p.acts.length - (b+1) by omega]
     simp [dW,hm]
   |false=>
    have hj0:=hz hm
    subst hj0
    (repeat' ((conv=>whnf);first|refine gA ?_|(refine gB ?_ ?_<;>intro h)|refine gC (ow p _) ?_|intro _))
    all_goals
     refine nx ⟨b+1,o7⟩ ?_
     refine⟨by omega,by omega,?_⟩
     rw [ho7,ho6,List.range_succ,List.flatMap_append,List.append_assoc]
     simp [dW,hm]
  ·(repeat' ((conv=>whnf);first|(exfalso;omega)|refine gA ?_|(refine gB ?_ ?_<;>intro h)))
   refine nx ⟨r5+1,o6⟩ ?_
   refine⟨by omega,by omega,?_⟩
   rw [ho6,ho5,List.range_succ,List.flatMap_append,List.append_assoc,show b=p.acts.length by omega]
   simp
 (repeat' ((conv=>whnf);first|(exfalso;omega)|(refine gB ?_ ?_<;>intro h)))
 rw [show r5=p.aS.length by omega] at ho5 ol5
 clear hlt hk5
 refine ay [91] [] [12] ?_
 (conv=>whnf)
 refine au.go ((Nat)×(List Rul)) (fun⟨k8,o8⟩=>(k8<=p.aH.length)/\(o8.length<=400+k8)/\(o8=o5++(List.range k8).map gL)) (fun⟨k8,o8⟩=>[(92,.data (i64 k8)),(3,.own 12 0)]) lE (fun⟨k8,o8⟩=>[(12,128,o8.map Rul.av,0)]) (fun⟨k8,o8⟩=>p.aH.length - k8) ⟨0,o5⟩ ?_ ?_
 ·exact⟨by omega,by omega,by simp⟩
 rintro⟨k8,o8⟩ ⟨hk8,ol8,ho8⟩
 by_cases hlt:k8 < p.aH.length
 ·(repeat' ((conv=>whnf);first|(exfalso;omega)|refine gAX ?_|(refine gB ?_ ?_<;>intro h)))
  refine nw ⟨k8+1,o8++[gL k8]⟩ ?_ ?_
  ·(repeat' ((conv=>whnf)<;>(first|exact trivial|exact rfl|with_reducible refine And.intro ?_ ?_)))<;>((conv=>whnf)<;>((simp [gL]<;>rfl)))
  exact⟨by omega,by simp;omega,by rw [ho8,List.range_succ,List.map_append,List.append_assoc];rfl⟩
 (repeat' ((conv=>whnf);first|(exfalso;omega)|(refine gB ?_ ?_<;>intro h)))
 refine⟨?_,rfl,trivial⟩
 rw [ho8,ho5,ho3,ho2,ho,show k8=p.aH.length by omega];rfl
end Go.Proofs.YthegbfgeochckaaGreat.Abs
