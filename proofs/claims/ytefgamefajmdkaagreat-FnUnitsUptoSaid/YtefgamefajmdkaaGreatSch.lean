/- Contracts: schedules. -/
import Derived.Test.YtefgamefajmdkaaGreatC12
import Derived.Test.YtefgamefajmdkaaGreatPlain
import Derived.Test.YtefgamefajmdkaaGreatC20a
set_option linter.all false
set_option maxRecDepth 20000
set_option maxHeartbeats 0
namespace Go.Proofs.YtefgamefajmdkaaGreat.Abs
open Go.Proofs
structure IQ (p:Proj) (s:aJ) (k:Nat) (a:aH) (t m:Int) (q:Nat) (mo:Mode):Prop where
 act:p.acts[k]? =some a
 start:s.starts[k]? =some t
 mode:s.modes[k]? =some m
 mq:m=q
 moE:a.modes[q]? =some mo
 tb:0≤t∧t≤60
 aok:bG a p.bB.length p.aY.length=true
theorem jg {p:Proj} {s:aJ} (h:bF p s=true):aF p=true∧s.starts.length=p.acts.length∧s.modes.length=p.acts.length∧∀k,k < p.acts.length→vW p s k=true:=by
 simp only [bF,Bool.and_eq_true,bg,Bool.not_eq_true',decide_eq_false_iff_not] at h
 exact⟨h.1.1.1,by omega,by omega,h.2⟩
theorem Bw {p:Proj} {s:aJ} (h:bF p s=true) {k:Nat} (hk:k < p.acts.length):∃a t m q mo,IQ p s k a t m q mo:=by
 obtain⟨h1,h2,h3,h4⟩:=jg h
 have e1:p.acts[k]? =some (p.acts[k]'hk):=by simp
 have e2:s.starts[k]? =some (s.starts[k]'(by omega)):=by simp
 have e3:s.modes[k]? =some (s.modes[k]'(by omega)):=by simp
 have hd:=h4 k hk
 simp only [vW,e1,e2,e3,Bool.and_eq_true,bC,within_iff] at hd
 exact⟨_,_,_,(s.modes[k]'(by omega)).toNat,(p.acts[k]'hk).modes[(s.modes[k]'(by omega)).toNat]'(by omega),e1,e2,e3,by omega,by simp,hd.1,(eD h1).act k _ e1⟩
theorem kR (p:Proj) (s:aJ) (hp:p.fine):Con 126 [.d p.av,.d s.av] (.d (.bool (bF p s))):=by
 refine con Tryz.func126 rfl rfl Tryz.call126 rfl fun hwf=>?_
 simp only [ARs.wf,AR.wf,AV.wf,AV.wfs,lm,lim] at hwf
 (repeat' ((conv=>whnf);first|refine gA ?_|(refine gN ?_ ?_<;>intro h hw)|(refine gB ?_ ?_<;>intro h)|(refine gI ?_;intro x hx)|(refine gJ ?_;intro j x hj hx)|refine gV ?_|refine gC (dH p hp) ?_|intro _))<;>try (conv=>whnf)
 all_goals try (refine⟨?_,rfl,trivial⟩;simp [bF, *];done)
 refine aB [2,3,29] [2,3] [] ?_
 (conv=>whnf)
 refine aA.go ((Nat)) (fun k=>(k≤p.acts.length)∧(∀i,i < k→vW p s i=true)) (fun k=>[(30,.data (i64 k))]) (fun _=>[]) (fun _=>[]) (fun k=>p.acts.length - k) (0) ?_ ?_
 ·exact⟨by omega,by omega⟩
 rintro k ⟨hk,hi⟩
 by_cases hlt:k < p.acts.length
 ·obtain⟨t,e2⟩:∃x,s.starts[k]? =some x:=⟨s.starts[k]'(by omega),by simp⟩
  obtain⟨m,e3⟩:∃x,s.modes[k]? =some x:=⟨s.modes[k]'(by omega),by simp⟩
  obtain⟨a,e4⟩:∃x,p.acts[k]? =some x:=⟨p.acts[k]'(by omega),by simp⟩
  have hm:=qE hwf.1.2.1.2 e4
  simp only [AV.wf,AV.wfs,List.length_map] at hm
  have e:vW p s k=(bC t&&within m 0 (a.modes.length - 1)):=by simp only [vW,e2,e3,e4]
  (repeat' ((conv=>whnf);first|with_reducible refine Idx.got e2 rfl ?_|with_reducible refine Idx.got e3 rfl ?_|with_reducible refine Idx.got e4 rfl ?_|refine gA ?_|(refine gN ?_ ?_<;>intro h hw)|(refine gB ?_ ?_<;>intro h)|(refine gI ?_;intro x hx)|(refine gJ ?_;intro j x hj hx)|refine gV ?_|refine gC (mY _) ?_|refine gC (aV _ _ _) ?_|intro _))<;>try (conv=>whnf)
  all_goals first
   |(exfalso;omega)
   |(refine⟨?_,rfl,trivial⟩;rw [bF,gX k hlt (by rw [e];simp [*])];simp;done)
   |(refine nx (k+1) ?_
     exact⟨by omega,fJ hi (by rw [e];simp [*])⟩)
 ·(repeat' ((conv=>whnf);first|(exfalso;omega)|refine gA ?_|(refine gN ?_ ?_<;>intro h hw)|(refine gB ?_ ?_<;>intro h)|(refine gI ?_;intro x hx)|(refine gJ ?_;intro j x hj hx)|refine gV ?_|intro _))<;>try (conv=>whnf)
  refine⟨?_,rfl,trivial⟩
  rw [bF,bg.2 fun i hh=>hi i (by omega)];simp [*]
theorem oH {p:Proj} {s:aJ} {k:Nat} {a:aH} {t m:Int} {q:Nat} {mo:Mode} (g:IQ p s k a t m q mo):eB p s k=mo:=by
 have:=g.mq;subst this
 simp [eB,bf,List.getD_eq_getElem?_getD,g.act,g.mode,g.moE]
theorem Fg {p:Proj} {s:aJ} {k:Nat} {a:aH} {t m:Int} {q:Nat} {mo:Mode} (g:IQ p s k a t m q mo):nQ p s k=t+mo.dur:=by
 rw [nQ,oH g];simp [List.getD_eq_getElem?_getD,g.start]
theorem UH {p:Proj} {s:aJ} {k:Nat} {a:aH} {t m:Int} {q:Nat} {mo:Mode} (g:IQ p s k a t m q mo):1≤mo.dur∧mo.dur≤12:=(jV g.aok (List.mem_of_getElem? g.moE)).1
theorem vw (p:Proj) (s:aJ) (n:Int) {k:Nat} {a:aH} {t m:Int} {q:Nat} {mo:Mode} (g:IQ p s k a t m q mo) (hn:n=k):Con 264 [.d p.av,.d s.av,.d (i64 n)] (.d mo.av):=by
 refine con Tryz.func264 rfl rfl Tryz.call264 rfl fun hwf=>?_
 (repeat' ((conv=>whnf);first|with_reducible refine Idx.got g.act hn ?_|with_reducible refine Idx.got g.mode hn ?_|with_reducible refine Idx.got g.moE g.mq ?_|refine gA ?_|(refine gB ?_ ?_<;>intro h)|(refine gI ?_;intro x hx)|(refine gJ ?_;intro j x hj hx)|intro _))<;>try (conv=>whnf)
 exact⟨rfl,rfl,trivial⟩
theorem zy (p:Proj) (s:aJ) (n:Int) {k:Nat} {a:aH} {t m:Int} {q:Nat} {mo:Mode} (g:IQ p s k a t m q mo) (hn:n=k):Con 230 [.d p.av,.d s.av,.d (i64 n)] (.d (i64 (nQ p s k))):=by
 refine con Tryz.func230 rfl rfl Tryz.call230 rfl fun hwf=>?_
 have hd:=UH g
 have ht:=g.tb
 rw [Fg g]
 (repeat' ((conv=>whnf);first|with_reducible refine Idx.got g.start hn ?_|refine gA ?_|(refine gB ?_ ?_<;>intro h)|(refine gI ?_;intro x hx)|(refine gJ ?_;intro j x hj hx)|refine gV ?_|refine gC (vw p s n g hn) ?_|intro _))<;>try (conv=>whnf)
 exact⟨rfl,rfl,trivial⟩
open Go.Proofs
theorem Sb (l:List Int) (fc:Nat) (caps:List AV) (p:Int→Bool) (hc:∀n∈l,Con fc ([.d (i64 n)]++caps.map .ref) (.d (.bool (p n)))):Con 122 [.d (ints l),.fn fc caps] (.d (ints (l.filter p))):=by
 refine con Tryz.func122 rfl rfl Tryz.call122 rfl fun hwf=>?_
 simp only [ARs.wf,AR.wf,AV.wf,AV.wfs,lm,lim] at hwf
 (repeat' ((conv=>whnf);first|refine gA ?_|(refine gB ?_ ?_<;>intro h)|(refine gI ?_;intro x hx)|(refine gJ ?_;intro j x hj hx)|refine gP ?_|refine gV ?_|intro _))<;>try (conv=>whnf)
 refine aB [1,9,10] [] [8] ?_
 (conv=>whnf)
 refine aA.go ((Nat)×(List Int)) (fun⟨k,o⟩=>(k≤l.length)∧(o.length≤k)∧(o++(l.drop k).filter p=l.filter p)) (fun⟨k,o⟩=>[(11,.data (i64 k)),(5,.own 8 0)]) (fun _=>[]) (fun⟨k,o⟩=>[(8,3,o.map i64,0)]) (fun⟨k,o⟩=>l.length - k) ⟨0,[]⟩ ?_ ?_
 ·exact⟨by omega,by simp,rfl⟩
 rintro⟨k,o⟩ ⟨hk,ho,hi⟩
 by_cases hlt:k < l.length
 ·obtain⟨x,hx⟩:∃x,l[k]? =some x:=⟨l[k]'hlt,by simp⟩
  (repeat' ((conv=>whnf);first|with_reducible refine Idx.got hx rfl ?_|refine gA ?_|(refine gB ?_ ?_<;>intro h)|(refine gI ?_;intro x hx)|(refine gJ ?_;intro j x hj hx)|refine gP ?_|refine gV ?_|refine gC (hc x (List.mem_of_getElem? hx)) ?_|intro _))<;>try (conv=>whnf)
  ·refine nw ⟨k+1,o++[x]⟩ ?_ ?_
   ·(repeat' ((conv=>whnf)<;>(first|exact trivial|exact rfl|with_reducible refine And.intro ?_ ?_)))<;>((conv=>whnf)<;>(simp))
   exact⟨by omega,by simp;omega,(iG hi hx).1 h⟩
  ·refine nx ⟨k+1,o⟩ ?_
   exact⟨by omega,by omega,(iG hi hx).2 h⟩
  ·exfalso;omega
 ·(repeat' ((conv=>whnf);first|(exfalso;omega)|refine gA ?_|(refine gB ?_ ?_<;>intro h)|(refine gI ?_;intro x hx)|(refine gJ ?_;intro j x hj hx)|refine gP ?_|refine gV ?_|intro _))<;>try (conv=>whnf)
  refine⟨?_,rfl,trivial⟩
  rw [← hi,nL hlt];simp
def PE (p:Proj) (s:aJ) (t:Int) (n:Int):Bool:=runs p s t n.toNat
theorem YB {p:Proj} {s:aJ} {k:Nat} {a:aH} {t m:Int} {q:Nat} {mo:Mode} (g:IQ p s k a t m q mo) (x:Int):runs p s x k=(decide (t≤x)&&decide (nQ p s k > x)):=by
 simp [runs,List.getD_eq_getElem?_getD,g.start]
theorem LY (p:Proj) (s:aJ) (t:Int) (n:Int) {k:Nat} {a:aH} {u m:Int} {q:Nat} {mo:Mode} (g:IQ p s k a u m q mo) (hn:n=k):Con 298 [.d (i64 n),.ref s.av,.ref (i64 t),.ref p.av] (.d (.bool (PE p s t n))):=by
 refine con Tryz.func298 rfl rfl Tryz.call298 rfl fun hwf=>?_
 have e:PE p s t n=(decide (u≤t)&&decide (nQ p s k > t)):=by subst hn;rw [PE];exact YB g t
 rw [e]
 (repeat' ((conv=>whnf);first|with_reducible refine Idx.got g.start hn ?_|refine gA ?_|(refine gB ?_ ?_<;>intro h)|(refine gI ?_;intro x hx)|(refine gJ ?_;intro j x hj hx)|refine gC (zy p s n g hn) ?_|intro _))<;>try (conv=>whnf)
 all_goals (refine⟨?_,rfl,trivial⟩;simp [*])
theorem LZ {n:Nat} (h:n≤200):aK n=upTo n:=by
 rw [aK,if_pos (within_iff.2 (by omega))];simp [upTo]
theorem Sd {n:Nat} {x:Int} (h:x∈upTo n):∃k:Nat,x=k∧k < n:=by
 simp only [upTo,List.mem_map,List.mem_range] at h
 obtain⟨k,hk,rfl⟩:=h
 exact⟨k,rfl,hk⟩
theorem PG (p:Proj) (s:aJ) (t:Int) (hf:bF p s=true):Con 265 [.d p.av,.d s.av,.d (i64 t)] (.d (ints ((upTo p.acts.length).filter (PE p s t)))):=by
 refine con Tryz.func265 rfl rfl Tryz.call265 rfl fun hwf=>?_
 simp only [ARs.wf,AR.wf,AV.wf,AV.wfs,lm,lim] at hwf
 have hna:=(eD (jg hf).1).LG
 have hR:=AB (p.acts.map aH.av).length
 rw [show aK (((p.acts.map aH.av).length:Nat):Int)=upTo p.acts.length by rw [List.length_map];exact LZ (by omega)] at hR
 have hc:∀n∈upTo p.acts.length,Con 298 ([.d (i64 n)]++[s.av,i64 t,p.av].map .ref) (.d (.bool (PE p s t n))):=fun n hn=>by
  obtain⟨k,e,hk⟩:=Sd hn
  obtain⟨a,u,m,q,mo,g⟩:=Bw hf hk
  exact LY p s t n g e
 (repeat' ((conv=>whnf);first|refine gA ?_|(refine gB ?_ ?_<;>intro h)|refine gC (hR) ?_|refine gC (Sb (upTo p.acts.length) 298 [s.av,i64 t,p.av] _ hc) ?_|intro _))<;>try (conv=>whnf)
 exact⟨rfl,rfl,trivial⟩
end Go.Proofs.YtefgamefajmdkaaGreat.Abs
namespace Go.Proofs.YtefgamefajmdkaaGreat.Abs
open Go.Proofs
theorem Fh {p:Proj} {s:aJ} {k:Nat} {a:aH} {t m:Int} {q:Nat} {mo:Mode} (g:IQ p s k a t m q mo) {r:Int} (hr:dV p r=true) (x:Int):
  ∃(ρ:Nat) (u:Int),r=ρ∧mo.use[ρ]? =some u∧(0≤u∧u≤20)∧Ei p s r x k=if runs p s x k=true then u else 0:=by
 have hm:=jV g.aok (List.mem_of_getElem? g.moE)
 have hw:=within_iff.1 hr
 have e2:mo.use[r.toNat]? =some (mo.use[r.toNat]'(by omega)):=by simp
 refine⟨r.toNat,_,by omega,e2,hm.2.1 _ (List.mem_of_getElem? e2),?_⟩
 rw [Ei,oH g,List.getD_eq_getElem?_getD,e2];rfl
def oO (f:Int→Int):List Int→Int→Int
 |[],s=>s
 |x::r,s=>oO f r (s+f x)
theorem Ii (f:Int→Int):∀(l m:List Int) (s:Int),oO f (l++m) s=oO f m (oO f l s)
 |[],_,_=>rfl
 |x::l,m,s=>Ii f l m (s+f x)
theorem Fj {f:Int→Int} {P:Int→Bool} {g:Nat→Int}:∀(n:Nat),(∀k,k < n→g k=if P k=true then f k else 0)→oO f ((upTo n).filter P) 0=sumTo g n
 |0,_=>rfl
 |n+1,h=>by
  have e:upTo (n+1)=upTo n++[(n:Int)]:=by simp [upTo,List.range_succ]
  rw [e,List.filter_append,Ii,Fj n fun k hk=>h k (by omega),sumTo,h n (by omega)]
  by_cases hp:P n=true
  ·rw [if_pos hp,List.filter_cons,if_pos hp];rfl
  ·rw [if_neg hp,List.filter_cons,if_neg hp];simp [oO]
def Fp (p:Proj) (s:aJ) (r:Int) (n:Int):Int:=(eB p s n.toNat).use.getD r.toNat 0
theorem VN {p:Proj} {s:aJ} (hf:bF p s=true) (r t:Int):oO (Fp p s r) ((upTo p.acts.length).filter (PE p s t)) 0=zU p s r t:=
 Fj _ fun k hk=>by simp [Ei,PE,Fp]
theorem TR (p:Proj) (s:aJ) (r t:Int) (hf:bF p s=true) (hr:dV p r=true):Con 231 [.d p.av,.d s.av,.d (i64 r),.d (i64 t)] (.d (i64 (zU p s r t))):=by
 refine con Tryz.func231 rfl rfl Tryz.call231 rfl fun hwf=>?_
 simp only [ARs.wf,AR.wf,AV.wf,AV.wfs,lm,lim] at hwf
 have hna:=(eD (jg hf).1).LG
 obtain⟨l,hl⟩:∃l,l=(upTo p.acts.length).filter (PE p s t):=⟨_,rfl⟩
 have hlen:l.length≤p.acts.length:=by rw [hl];have:=List.length_filter_le (PE p s t) (upTo p.acts.length);rw [Ef] at this;exact this
 have hmem:∀x∈l,∃k:Nat,x=k∧k < p.acts.length:=fun x hx=>by rw [hl] at hx;exact Sd (List.mem_filter.1 hx).1
 have hrun:=PG p s t hf
 rw [← hl] at hrun
 rw [← VN hf r t, ← hl]
 have hb:∀x∈l,0≤Fp p s r x∧Fp p s r x≤20:=fun x hx=>by
  obtain⟨k,rfl,hk⟩:=hmem x hx
  obtain⟨a,u,m,q,mo,g⟩:=Bw hf hk
  obtain⟨ρ,v,e1,e2,e3,_⟩:=Fh g hr t
  subst e1
  simpa [Fp,oH g,List.getD_eq_getElem?_getD,e2] using e3
 (repeat' ((conv=>whnf);first|refine gA ?_|(refine gB ?_ ?_<;>intro h)|(refine gI ?_;intro x hx)|(refine gJ ?_;intro j x hj hx)|refine gV ?_|refine gC (hrun) ?_|intro _))<;>try (conv=>whnf)
 refine aB [2,4,5,15,16] [4,5] [] ?_
 (conv=>whnf)
 refine aA.go ((Nat)×(Int)) (fun⟨j,n⟩=>(j≤l.length)∧(0≤n∧n≤20*j)∧(oO (Fp p s r) (l.drop j) n=oO (Fp p s r) l 0)) (fun⟨j,n⟩=>[(17,.data (i64 j)),(9,.data (i64 n))]) (fun _=>[]) (fun _=>[]) (fun⟨j,n⟩=>l.length - j) ⟨0,0⟩ ?_ ?_
 ·exact⟨by omega,by omega,rfl⟩
 rintro⟨j,n⟩ ⟨hj,hn,hi⟩
 by_cases hlt:j < l.length
 ·obtain⟨x,hx⟩:∃x,l[j]? =some x:=⟨l[j]'hlt,by simp⟩
  have hxb:=hb x (List.mem_of_getElem? hx)
  obtain⟨k,rfl,hk⟩:=hmem x (List.mem_of_getElem? hx)
  obtain⟨a,u,m,q,mo,g⟩:=Bw hf hk
  obtain⟨ρ,v,e1,e2,e3,_⟩:=Fh g hr t
  have ev:Fp p s r (k:Int)=v:=by subst e1;simp [Fp,oH g,List.getD_eq_getElem?_getD,e2]
  rw [ev] at hxb
  rw [au hx,oO,ev] at hi
  (repeat' ((conv=>whnf);first|with_reducible refine Idx.got hx rfl ?_|with_reducible refine Idx.got e2 e1 ?_|refine gA ?_|(refine gB ?_ ?_<;>intro h)|(refine gI ?_;intro x hx)|(refine gJ ?_;intro j x hj hx)|refine gV ?_|refine gC (vw p s _ g rfl) ?_|intro _))<;>try (conv=>whnf)
  ·refine nx ⟨j+1,n+v⟩ ?_
   exact⟨by omega,by omega,hi⟩
  ·exfalso;omega
 ·(repeat' ((conv=>whnf);first|(exfalso;omega)|refine gA ?_|(refine gB ?_ ?_<;>intro h)|(refine gI ?_;intro x hx)|(refine gJ ?_;intro j x hj hx)|refine gV ?_|intro _))<;>try (conv=>whnf)
  refine⟨?_,rfl,trivial⟩
  rw [nL hlt] at hi
  rw [← hi];rfl
open Go.Proofs
end Go.Proofs.YtefgamefajmdkaaGreat.Abs
