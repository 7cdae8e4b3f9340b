/- Part of a proof. -/
import Derived.Test.YthegbfgeochckaaGreatSch
import Derived.Test.YthegbfgeochckaaGreatC12
set_option linter.all false
set_option maxRecDepth 20000
set_option maxHeartbeats 0
namespace Go.Proofs.YthegbfgeochckaaGreat.Abs
open Go.Proofs
inductive RIn (p:Proj) (r:Rul):Prop
 |link (k:Nat) (l:Link) (h:r=jc k) (hl:p.links[k]? =some l)
 |fin (k:Nat) (h:r=endRule k) (hk:k < p.acts.length)
 |time (ρ t:Nat) (h:r=nE ρ t) (hρ:ρ < p.aS.length) (ht:t < 61)
 |pair (ρ b c:Nat) (h:r=jd ρ b c) (hm:gu p ρ=true) (hb:b < c) (hc:c < p.acts.length)
 |Cz (k:Nat) (h:r=gL k) (hk:k < p.aH.length)
theorem LX {p:Proj} {r:Rul} (h:r∈dw p):RIn p r:=by
 simp only [dw,List.mem_append,List.mem_map,List.mem_range,List.mem_flatMap,pq,dW] at h
 rcases h with (((h|h)|h)|h)|h
 ·obtain⟨k,hk,rfl⟩:=h
  exact .link k _ rfl (List.getElem?_eq_getElem hk)
 ·obtain⟨k,hk,rfl⟩:=h
  exact .fin k rfl hk
 ·obtain⟨ρ,hρ,t,ht,rfl⟩:=h
  exact .time ρ t rfl hρ ht
 ·obtain⟨ρ,hρ,b,hb,h⟩:=h
  split at h
  ·rename_i hm
   simp only [List.mem_map,List.mem_range] at h
   obtain⟨j,hj,rfl⟩:=h
   exact .pair ρ b (b+1+j) rfl hm (by omega) (by omega)
  ·simp at h
 ·obtain⟨k,hk,rfl⟩:=h
  exact .Cz k rfl hk
theorem PW {p:Proj} {s:bB} {k:Nat} {a:aB} {t m:Int} {q:Nat} {mo:Mode} (g:EI p s k a t m q mo) {r:Int} (hr:kV p r=true):
  ∃(ρ:Nat) (u:Int),r=ρ/\mo.con[ρ]? =some u/\(0<=u/\u<=20)/\IC p s r k=u:=by
 have hm:=mQ g.aok (List.mem_of_getElem? g.moE)
 have hw:=within_iff.1 hr
 have e2:mo.con[r.toNat]? =some (mo.con[r.toNat]'(by omega)):=by simp
 refine⟨r.toNat,_,by omega,e2,hm.2.2.2.1 _ (List.mem_of_getElem? e2),?_⟩
 rw [IC,pJ g,List.getD_eq_getElem?_getD,e2];rfl
theorem LY {p:Proj} {s:bB} (hf:bN p s=true) {r:Int} (hr:kV p r=true) {k:Nat} (hk:k < p.acts.length):0<=IC p s r k/\IC p s r k<=20:=by
 obtain⟨a,t,m,q,mo,g⟩:=sG hf hk
 obtain⟨ρ,u,_,_,hb,e⟩:=PW g hr
 rw [e];exact hb
theorem GL (p:Proj) (s:bB) (r:Int) (hp:p.fine) (hf:bN p s=true) (hr:kV p r=true):Con 309 [.d p.av,.d s.av,.d (i64 r)] (.d (i64 (Om p s r))):=by
 refine con Tryz.func309 rfl rfl Tryz.call309 rfl fun hwf=>?_
 simp only [ARs.wf,AR.wf,AV.wf,AV.wfs,lm,lim] at hwf
 (repeat' ((conv=>whnf);first|refine gA ?_|refine gC (nS p s hp) ?_|refine gC (Fh p _) ?_|intro _))<;>try (conv=>whnf)
 refine ay [2,3,4,21] [3,4] [] ?_
 (conv=>whnf)
 refine au.go ((Nat)×(Int)) (fun⟨k,n⟩=>(k<=p.acts.length)/\(n=sumTo (IC p s r) k)) (fun⟨k,n⟩=>[(22,.data (i64 k)),(7,.data (i64 n))]) lE lE (fun⟨k,n⟩=>p.acts.length - k) ⟨0,0⟩ ?_ ?_
 ·exact⟨by omega,rfl⟩
 rintro⟨k,n⟩ ⟨hk,hn⟩
 by_cases hlt:k < p.acts.length
 ·obtain⟨a,u,m,q,mo,g⟩:=sG hf hlt
  obtain⟨ρ,v,e1,e2,e3,e4⟩:=PW g hr
  have hb:=kY (f:=IC p s r) (c:=20) (n:=k) fun i hi=>LY hf hr (by omega)
  (repeat' ((conv=>whnf);first|(exfalso;omega)|with_reducible refine Idx.got e2 e1 ?_|refine gA ?_|(refine gB ?_ ?_<;>intro h)|refine gC (zK p s _ g rfl) ?_|intro _))<;>try (conv=>whnf)
  refine nx ⟨k+1,n+v⟩ ?_
  exact⟨by omega,by rw [sumTo,hn,e4]⟩
 ·(repeat' ((conv=>whnf);first|(exfalso;omega)|(refine gB ?_ ?_<;>intro h)))<;>try (conv=>whnf)
  refine⟨?_,rfl,trivial⟩
  rw [hn,show k=p.acts.length by omega];rfl
theorem GN (p:Proj) (s:bB) (r:Int) (hp:p.fine) (hf:bN p s=true) (hr:kV p r=true):Con 278 [.d p.av,.d s.av,.d (i64 r)] (.d (i64 (Om p s r))):=by
 refine con Tryz.func278 rfl rfl Tryz.call278 rfl fun hwf=>?_
 simp only [ARs.wf,AR.wf,AV.wf,AV.wfs,lm,lim] at hwf
 have hr':within r 0 (((p.aH.map i64).length:Int) - 1)=true:=by rw [List.length_map];exact hr
 (repeat' ((conv=>whnf);first|refine gA ?_|refine gC (nT p s hp) ?_|refine gC (dG _ _ _) ?_|intro _))
 refine ay [2,3,4,24] [3,4] [] ?_
 (conv=>whnf)
 refine au.go ((Nat)×(Int)) (fun⟨k,n⟩=>(k<=p.acts.length)/\(n=sumTo (IC p s r) k)) (fun⟨k,n⟩=>[(25,.data (i64 k)),(7,.data (i64 n))]) lE lE (fun⟨k,n⟩=>p.acts.length - k) ⟨0,0⟩ ?_ ?_
 ·exact⟨by omega,rfl⟩
 rintro⟨k,n⟩ ⟨hk,hn⟩
 by_cases hlt:k < p.acts.length
 ·obtain⟨a,u,m,q,mo,g⟩:=sG hf hlt
  obtain⟨ρ,v,e1,e2,e3,e4⟩:=PW g hr
  have hb:=kY (f:=IC p s r) (c:=20) (n:=k) fun i hi=>LY hf hr (by omega)
  (repeat' ((conv=>whnf);first|(exfalso;omega)|with_reducible refine Idx.got e2 e1 ?_|refine gA ?_|(refine gB ?_ ?_<;>intro h)|refine gC (rV p s _ g rfl) ?_|intro _))
  refine nx ⟨k+1,n+v⟩ ?_
  exact⟨by omega,by rw [sumTo,hn,e4]⟩
 ·(repeat' ((conv=>whnf);first|(exfalso;omega)|(refine gB ?_ ?_<;>intro h)))
  refine⟨?_,rfl,trivial⟩
  rw [hn,show k=p.acts.length by omega];rfl
theorem PX (p:Proj) (s:bB) (l:Link) (hf:bN p s=true) (hl:nM p l=true):Con 303 [.d p.av,.d s.av,.d l.av] (.d (.bool (!Ab p s l))):=by
 refine con Tryz.func303 rfl rfl Tryz.call303 rfl fun hwf=>?_
 simp only [nM,Bool.and_eq_true] at hl
 obtain⟨k,_,e1,e2⟩:=jr hl.1.1.1
 obtain⟨k',_,e1',e2'⟩:=jr hl.1.1.2
 have agx:=within_iff.1 hl.2
 obtain⟨a,t,m,q,mo,g⟩:=sG hf (List.getElem?_eq_some_iff.1 e2).1
 obtain⟨a',t',m',q',mo',g'⟩:=sG hf (List.getElem?_eq_some_iff.1 e2').1
 have hd:=PV g
 have h1:=g.tb
 have he:=xq g
 (repeat' ((conv=>whnf);first|(with_reducible first|refine Idx.got g.start e1 ?_|refine Idx.got g'.start e1' ?_)|refine gA ?_|(refine gB ?_ ?_<;>intro h)|refine gC (Dn p s _ g e1) ?_|intro _))
 all_goals
  refine⟨?_,rfl,trivial⟩
  simp only [AV.bool.injEq]
  rw [Bool.eq_iff_iff]
  simp [Ab,e1,e1',List.getD_eq_getElem?_getD,g.start,g'.start, *]
theorem PY (p:Proj) (s:bB) (r b c:Int) {k k':Nat} {ka ko:aB} {t m t' m':Int} {q q':Nat} {mo mo':Mode} (g:EI p s k ka t m q mo) (e:b=k) (g':EI p s k' ko t' m' q' mo') (e':c=k') (hp:p.fine)
  (hf:bN p s=true) (hm:gu p r=true) (hb:dI p b=true) (hc:dI p c=true):Con 308 [.d p.av,.d s.av,.d (i64 r),.d (i64 b),.d (i64 c)] (.d (.bool (!sP p s r b c))):=by
 refine con Tryz.func308 rfl rfl Tryz.call308 rfl fun hwf=>?_
 have hok:=(eT hf).1
 obtain⟨re,ρ,i,j,row,v,hM⟩:=zx hok hm g.act g'.act e e'
 obtain⟨re',ρ',i',j',row',v',hM'⟩:=zx hok hm g'.act g.act e' e
 obtain⟨ρ1,u,f1,f2,f3,_⟩:=uL g (sV hm) 0
 obtain⟨ρ2,u',f1',f2',f3',_⟩:=uL g' (sV hm) 0
 have hd:=PV g;have hd':=PV g'
 have h1:=g.tb;have h1':=g'.tb
 have he:=xq g;have he':=xq g'
 have hv:=hM.vb;have hv':=hM'.vb
 have ep:sP p s r b c=(!decide (u=0)&& !decide (u'=0)&& !decide (zw p s k+v<=t')&& !decide (zw p s k'+v'<=t)):=by
  rw [sP,vI,vI,hM.eq,hM'.eq]
  subst e e' f1
  obtain rfl:ρ2=ρ1:=by omega
  simp [pJ g,pJ g',List.getD_eq_getElem?_getD,f2,f2',g.start,g'.start]
 rw [ep]
 (repeat' ((conv=>whnf);first|(with_reducible first|refine Idx.got f2 f1 ?_|refine Idx.got f2' f1' ?_|refine Idx.got g.start e ?_|refine Idx.got g'.start e' ?_)|refine gA ?_|(refine gB ?_ ?_<;>intro h)|refine gC (zK p s _ g e) ?_|refine gC (zK p s _ g' e') ?_|refine gC (Dn p s _ g e) ?_|refine gC (Dn p s _ g' e') ?_|refine gC (wP p r b c g.act e g'.act e' hp hok hm hb hc hM) ?_|refine gC (wP p r c b g'.act e' g.act e hp hok hm hc hb hM') ?_|intro _))
 all_goals
  refine⟨?_,rfl,trivial⟩
  clear he he' ep
  simp only [AV.bool.injEq]
  rw [Bool.eq_iff_iff]
  simp [*]
theorem PZ {p:Proj} {k:Nat} (h:k < p.acts.length):dI p k=true:=within_iff.2 (by omega)
theorem Qb {p:Proj} {k:Nat} (h:k < p.aS.length):fM p k=true:=within_iff.2 (by omega)
theorem Jz {p:Proj} {k:Nat} (h:k < p.aH.length):kV p k=true:=within_iff.2 (by omega)
theorem Qc (p:Proj) (s:bB) (r:Rul) (hp:p.fine) (hf:bN p s=true) (hr:RIn p r):Con 244 [.d p.av,.d s.av,.d r.av] (.d (.bool (!breaks p s r))):=by
 refine con Tryz.func244 rfl rfl Tryz.call244 rfl fun hwf=>?_
 have hok:=(eT hf).1
 cases hr with
 |link k l h hl=>
  subst h
  have hkd:(jc k).kind=1:=rfl
  have hlo:=(bX hok).link k l hl
  (repeat' ((conv=>whnf);first|(with_reducible first|refine Br.yes (decide_eq_true (by omega)) ?_|refine Idx.got hl rfl ?_)|refine gA ?_|refine gC (PX p s l hf hlo) ?_|intro _))
  refine⟨?_,rfl,trivial⟩
  simp [breaks,jc,pV,List.getD_eq_getElem?_getD,hl]
 |fin k h hk=>
  subst h
  have hkd:(endRule k).kind=2:=rfl
  obtain⟨a,t,m,q,mo,g⟩:=sG hf hk
  (repeat' ((conv=>whnf);first|(with_reducible first|refine Br.no (decide_eq_false (by omega)) ?_|refine Br.yes (decide_eq_true (by omega)) ?_)|refine gA ?_|refine gC (Dn p s _ g rfl) ?_|intro _))
  refine⟨?_,rfl,trivial⟩
  simp only [AV.bool.injEq]
  rw [Bool.eq_iff_iff]
  simp [breaks,endRule]
 |time ρ t h hρ ht=>
  subst h
  have hkd:(nE ρ t).kind=3:=rfl
  have hr:=Qb hρ
  obtain⟨x,hx⟩:∃x,p.aS[ρ]? =some x:=⟨p.aS[ρ]'hρ,by simp⟩
  (repeat' ((conv=>whnf);first|(with_reducible first|refine Br.no (decide_eq_false (by omega)) ?_|refine Br.yes (decide_eq_true (by omega)) ?_|refine Idx.got hx rfl ?_)|refine gA ?_|refine gC (ZV p s (ρ:Int) (t:Int) hf hr) ?_|refine gC (uT x.steps (t:Int)) ?_|intro _))
  refine⟨?_,rfl,trivial⟩
  simp only [AV.bool.injEq]
  rw [Bool.eq_iff_iff]
  simp [breaks,nE,Cn,List.getD_eq_getElem?_getD,hx]
 |pair ρ b c h hm hb hc=>
  subst h
  have hkd:(jd ρ b c).kind=5:=rfl
  obtain⟨a,t,m,q,mo,g⟩:=sG hf (show b < p.acts.length by omega)
  obtain⟨a',t',m',q',mo',g'⟩:=sG hf hc
  (repeat' ((conv=>whnf);first|(with_reducible first|refine Br.no (decide_eq_false (by omega)) ?_|refine Br.yes (decide_eq_true (by omega)) ?_)|refine gA ?_|refine gC (PY p s (ρ:Int) (b:Int) (c:Int) g rfl g' rfl hp hf hm (PZ (by omega)) (PZ hc)) ?_|intro _))
  refine⟨?_,rfl,trivial⟩
  simp [breaks,jd]
 |Cz k h hkn=>
  subst h
  have hkd:(gL k).kind=6:=rfl
  obtain⟨x,hx⟩:∃x,p.aH[k]? =some x:=⟨p.aH[k]'hkn,by simp⟩
  (repeat' ((conv=>whnf);first|(with_reducible first|refine Br.no (decide_eq_false (by omega)) ?_|refine Idx.got hx rfl ?_)|refine gA ?_|refine gC (GL p s (k:Int) hp hf (Jz hkn)) ?_|intro _))
  refine⟨?_,rfl,trivial⟩
  simp only [AV.bool.injEq]
  rw [Bool.eq_iff_iff]
  simp [breaks,gL,List.getD_eq_getElem?_getD,hx]
theorem FK (p:Proj) (s:bB) (r b c:Int) {k k':Nat} {ka ko:aB} {t m t' m':Int} {q q':Nat} {mo mo':Mode} (g:EI p s k ka t m q mo) (e:b=k) (g':EI p s k' ko t' m' q' mo') (e':c=k')
  (hf:bN p s=true) (hm:gu p r=true):Con 334 [.d p.av,.d s.av,.d (i64 r),.d (i64 b),.d (i64 c)] (.d (.bool (vI p s r b c))):=by
 refine con Tryz.func334 rfl rfl Tryz.call334 rfl fun hwf=>?_
 have hok:=(eT hf).1
 obtain⟨re,ρ,i,j,row,v,hM⟩:=zx hok hm g.act g'.act e e'
 have hd:=PV g
 have h1:=g.tb
 have he:=xq g
 have hv:=hM.vb
 have ea:vI p s r b c=decide (zw p s k+v<=t'):=by
  rw [vI,hM.eq];subst e e';simp [List.getD_eq_getElem?_getD,g'.start]
 rw [ea]
 (repeat' ((conv=>whnf);first|(with_reducible first|refine Idx.got hM.res hM.rρ ?_|refine Idx.got g.act e ?_|refine Idx.got g'.act e' ?_|refine Idx.got hM.agv hM.fi ?_|refine Idx.got hM.agw hM.fj ?_|refine Idx.got g'.start e' ?_)|refine gA ?_|refine gC (yt p s _ g e) ?_|intro _))
 exact⟨rfl,rfl,trivial⟩
theorem Vp (p:Proj) (s:bB) (ρ b c:Nat) (hf:bN p s=true) (hm:gu p ρ=true) (hb:b < c) (hc:c < p.acts.length):Con 277 [.d p.av,.d s.av,.d (jd ρ b c).av] (.d (.bool (sP p s ρ b c))):=by
 refine con Tryz.func277 rfl rfl Tryz.call277 rfl fun hwf=>?_
 obtain⟨a,t,m,q,mo,g⟩:=sG hf (show b < p.acts.length by omega)
 obtain⟨a',t',m',q',mo',g'⟩:=sG hf hc
 obtain⟨ρ1,u,f1,f2,f3,_⟩:=uL g (sV hm) 0
 obtain⟨ρ2,u',f1',f2',f3',_⟩:=uL g' (sV hm) 0
 have ep:sP p s ρ b c=(!decide (u=0)&& !decide (u'=0)&& !vI p s ρ b c&& !vI p s ρ c b):=by
  obtain rfl:ρ1=ρ:=by omega
  obtain rfl:ρ2=ρ1:=by omega
  rw [sP]
  simp [pJ g,pJ g',List.getD_eq_getElem?_getD,f2,f2']
 rw [ep]
 (repeat' ((conv=>whnf);first|refine Idx.got f2 f1 ?_|refine Idx.got f2' f1' ?_|refine gA ?_|(refine gB ?_ ?_<;>intro h)|refine gC (rV p s _ g rfl) ?_|refine gC (rV p s _ g' rfl) ?_|refine gC (FK p s (ρ:Int) (b:Int) (c:Int) g rfl g' rfl hf hm) ?_|refine gC (FK p s (ρ:Int) (c:Int) (b:Int) g' rfl g rfl hf hm) ?_|intro _))
 all_goals (clear f1 f1' ep;refine⟨?_,rfl,trivial⟩;simp [*])
theorem Rm (p:Proj) (s:bB) (r:Rul) (hp:p.fine) (hf:bN p s=true) (hr:RIn p r):Con 218 [.d p.av,.d s.av,.d r.av] (.d (.bool (breaks p s r))):=by
 refine con Tryz.func218 rfl rfl Tryz.call218 rfl fun hwf=>?_
 have hok:=(eT hf).1
 cases hr with
 |link k l h hl=>
  subst h
  have hkd:(jc k).kind=1:=rfl
  have hlo:=(bX hok).link k l hl
  simp only [nM,Bool.and_eq_true] at hlo
  obtain⟨k1,_,e1,e2⟩:=jr hlo.1.1.1
  obtain⟨k',_,e1',e2'⟩:=jr hlo.1.1.2
  have agx:=within_iff.1 hlo.2
  obtain⟨a,t,m,q,mo,g⟩:=sG hf (List.getElem?_eq_some_iff.1 e2).1
  obtain⟨a',t',m',q',mo',g'⟩:=sG hf (List.getElem?_eq_some_iff.1 e2').1
  have hd:=PV g
  have h1:=g.tb
  have he:=xq g
  (repeat' ((conv=>whnf);first|(with_reducible first|refine Br.yes (decide_eq_true (by omega)) ?_|refine Idx.got hl rfl ?_|refine Idx.got g.start e1 ?_|refine Idx.got g'.start e1' ?_)|refine gA ?_|(refine gB ?_ ?_<;>intro h)|refine gC (yt p s _ g e1) ?_|intro _))
  all_goals
   clear he
   refine⟨?_,rfl,trivial⟩
   simp only [AV.bool.injEq]
   rw [Bool.eq_iff_iff]
   simp [breaks,Ab,jc,pV,hl,e1,e1',List.getD_eq_getElem?_getD,g.start,g'.start, *]
 |fin k h hk=>
  subst h
  have hkd:(endRule k).kind=2:=rfl
  obtain⟨a,t,m,q,mo,g⟩:=sG hf hk
  (repeat' ((conv=>whnf);first|(with_reducible first|refine Br.no (decide_eq_false (by omega)) ?_|refine Br.yes (decide_eq_true (by omega)) ?_)|refine gA ?_|refine gC (yt p s _ g rfl) ?_|intro _))
  refine⟨?_,rfl,trivial⟩
  simp [breaks,endRule]
 |time ρ t h hρ ht=>
  subst h
  have hkd:(nE ρ t).kind=3:=rfl
  have hr:=Qb hρ
  obtain⟨x,hx⟩:∃x,p.aS[ρ]? =some x:=⟨p.aS[ρ]'hρ,by simp⟩
  (repeat' ((conv=>whnf);first|(with_reducible first|refine Br.no (decide_eq_false (by omega)) ?_|refine Br.yes (decide_eq_true (by omega)) ?_|refine Idx.got hx rfl ?_)|refine gA ?_|refine gC (Ye p s (ρ:Int) (t:Int) hf hr) ?_|refine gC (Gi x.steps (t:Int)) ?_|intro _))
  refine⟨?_,rfl,trivial⟩
  simp [breaks,nE,Cn,List.getD_eq_getElem?_getD,hx]
 |pair ρ b c h hm hb hc=>
  subst h
  have hkd:(jd ρ b c).kind=5:=rfl
  (repeat' ((conv=>whnf);first|(with_reducible first|refine Br.no (decide_eq_false (by omega)) ?_|refine Br.yes (decide_eq_true (by omega)) ?_)|refine gA ?_|refine gC (Vp p s ρ b c hf hm hb hc) ?_|intro _))
  refine⟨?_,rfl,trivial⟩
  simp [breaks,jd]
 |Cz k h hkn=>
  subst h
  have hkd:(gL k).kind=6:=rfl
  obtain⟨x,hx⟩:∃x,p.aH[k]? =some x:=⟨p.aH[k]'hkn,by simp⟩
  (repeat' ((conv=>whnf);first|(with_reducible first|refine Br.no (decide_eq_false (by omega)) ?_|refine Idx.got hx rfl ?_)|refine gA ?_|refine gC (GN p s (k:Int) hp hf (Jz hkn)) ?_|intro _))
  refine⟨?_,rfl,trivial⟩
  simp [breaks,gL,List.getD_eq_getElem?_getD,hx]
open Go.Proofs
theorem LZ {p:Proj} (h:bI p=true):(dw p).length<=1000:=by
 obtain⟨ha,hr,hs,hl⟩:=mW h
 have key:∀{α:Type} (n c:Nat) (f:Nat->List α),(∀k,(f k).length<=c)->((List.range n).flatMap f).length<=n*c:=by
  intro α n c f hf
  induction n with
  |zero=>simp
  |succ n ih=>
   rw [List.range_succ,List.flatMap_append,List.length_append,Nat.succ_mul]
   have:=hf n
   simp only [List.flatMap_cons,List.flatMap_nil,List.append_nil]
   omega
 have h1:=key p.aS.length 61 pq fun k=>by simp [pq]
 have h2:=key p.aS.length 36 (fun r=>(List.range p.acts.length).flatMap (dW p r)) fun r=>by
  have:=key p.acts.length 6 (dW p r) fun b=>by unfold dW;split<;>simp;omega
  have h6:p.acts.length*6<=36:=by omega
  omega
 simp only [dw,List.length_append,List.length_map,List.length_range]
 omega
theorem vO {P:Rul->Bool} {l o:List Rul} {k:Nat} {x:Rul} (hi:o++(l.drop k).filter P=l.filter P) (hx:l[k]? =some x):
  (P x=true->(o++[x])++(l.drop (k+1)).filter P=l.filter P)/\(P x=false->o++(l.drop (k+1)).filter P=l.filter P):=by
 rw [aA hx,List.filter_cons] at hi
 exact⟨fun h=>by rw [<- hi,if_pos h];simp,fun h=>by rw [<- hi,if_neg (by simp [h])]⟩
theorem GQ (p:Proj) (s:bB) (hp:p.fine):Con 167 [.d p.av,.d s.av] (.d (.sl ((nZ p s).map Rul.av))):=by
 refine con Tryz.func167 rfl rfl Tryz.call167 rfl fun hwf=>?_
 cases hf:bN p s with
 |false=>
  (repeat' ((conv=>whnf);first|refine gA ?_|refine gC (nS p s hp) ?_|intro _))
  refine⟨?_,rfl,trivial⟩
  rw [nZ,if_neg (by simp [hf])];rfl
 |true=>
  have hok:=(eT hf).1
  have hlen:=LZ hok
  rw [nZ,if_pos hf]
  (repeat' ((conv=>whnf);first|refine gA ?_|refine gC (nS p s hp) ?_|refine gC (Pt p hok) ?_|intro _))
  refine ay [2,3,14,15] [2,3] [12] ?_
  (conv=>whnf)
  refine au.go ((Nat)×(List Rul)) (fun⟨k,o⟩=>(k<=(dw p).length)/\(o.length<=k)/\(o++((dw p).drop k).filter (breaks p s)=(dw p).filter (breaks p s))) (fun⟨k,o⟩=>[(16,.data (i64 k)),(5,.own 12 0)]) lE (fun⟨k,o⟩=>[(12,128,o.map Rul.av,0)]) (fun⟨k,o⟩=>(dw p).length - k) ⟨0,[]⟩ ?_ ?_
  ·exact⟨by omega,by simp,rfl⟩
  rintro⟨k,o⟩ ⟨hk,ho,hi⟩
  by_cases hlt:k < (dw p).length
  ·obtain⟨x,hx⟩:∃x,(dw p)[k]? =some x:=⟨(dw p)[k]'hlt,by simp⟩
   (repeat' ((conv=>whnf);first|with_reducible refine Idx.got hx rfl ?_|(exfalso;omega)|refine gAX ?_|(refine gB ?_ ?_<;>intro h)|refine gC (Qc p s x hp hf (LX (List.mem_of_getElem? hx))) ?_|intro _))
   ·refine nwS ⟨k+1,o++[x]⟩ ?_
    exact⟨by omega,by simp;omega,(vO hi hx).1 h⟩
   ·refine nx ⟨k+1,o⟩ ?_
    exact⟨by omega,by omega,(vO hi hx).2 h⟩
  ·(repeat' ((conv=>whnf);first|(exfalso;omega)|(refine gB ?_ ?_<;>intro h)))
   refine⟨?_,rfl,trivial⟩
   rw [<- hi,mg hlt];simp
theorem qw (p:Proj) (s:bB) (hp:p.fine):Con 85 [.d p.av,.d s.av] (.d (.bool (tT p s))):=by
 refine con Tryz.func85 rfl rfl Tryz.call85 rfl fun hwf=>?_
 (repeat' ((conv=>whnf);first|refine gA ?_|(refine gB ?_ ?_<;>intro h)|refine gC (nS p s hp) ?_|refine gC (GQ p s hp) ?_|intro _))
 all_goals (refine⟨?_,rfl,trivial⟩;simp [tT, *])
theorem GR (p:Proj) (s:bB) (hp:p.fine):Con 131 [.d p.av,.d s.av] (.d (.sl ((nZ p s).map Rul.av))):=by
 refine con Tryz.func131 rfl rfl Tryz.call131 rfl fun hwf=>?_
 cases hf:bN p s with
 |false=>
  (repeat' ((conv=>whnf);first|refine gA ?_|refine gC (nT p s hp) ?_|intro _))
  refine⟨?_,rfl,trivial⟩
  rw [nZ,if_neg (by simp [hf])];rfl
 |true=>
  have hok:=(eT hf).1
  have hlen:=LZ hok
  rw [nZ,if_pos hf]
  (repeat' ((conv=>whnf);first|refine gA ?_|refine gC (nT p s hp) ?_|refine gC (ZW p hok) ?_|intro _))
  refine ay [2,3,14,15] [2,3] [8] ?_
  (conv=>whnf)
  refine au.go ((Nat)×(List Rul)) (fun⟨k,o⟩=>(k<=(dw p).length)/\(o.length<=k)/\(o++((dw p).drop k).filter (breaks p s)=(dw p).filter (breaks p s))) (fun⟨k,o⟩=>[(16,.data (i64 k)),(5,.own 8 0)]) lE (fun⟨k,o⟩=>[(8,128,o.map Rul.av,0)]) (fun⟨k,o⟩=>(dw p).length - k) ⟨0,[]⟩ ?_ ?_
  ·exact⟨by omega,by simp,rfl⟩
  rintro⟨k,o⟩ ⟨hk,ho,hi⟩
  by_cases hlt:k < (dw p).length
  ·obtain⟨x,hx⟩:∃x,(dw p)[k]? =some x:=⟨(dw p)[k]'hlt,by simp⟩
   (repeat' ((conv=>whnf);first|with_reducible refine Idx.got hx rfl ?_|(exfalso;omega)|refine gAX ?_|(refine gB ?_ ?_<;>intro h)|refine gC (Rm p s x hp hf (LX (List.mem_of_getElem? hx))) ?_|intro _))
   ·refine nwS ⟨k+1,o++[x]⟩ ?_
    exact⟨by omega,by simp;omega,(vO hi hx).1 h⟩
   ·refine nx ⟨k+1,o⟩ ?_
    exact⟨by omega,by omega,(vO hi hx).2 h⟩
  ·(repeat' ((conv=>whnf);first|(exfalso;omega)|(refine gB ?_ ?_<;>intro h)))
   refine⟨?_,rfl,trivial⟩
   rw [<- hi,mg hlt];simp
theorem BA (p:Proj) (s:bB) (hp:p.fine):Con 60 [.d p.av,.d s.av] (.d (.bool (tT p s))):=by
 refine con Tryz.func60 rfl rfl Tryz.call60 rfl fun hwf=>?_
 (repeat' ((conv=>whnf);first|refine gA ?_|(refine gB ?_ ?_<;>intro h)|refine gC (nT p s hp) ?_|refine gC (GR p s hp) ?_|intro _))
 all_goals (refine⟨?_,rfl,trivial⟩;simp [tT, *])
end Go.Proofs.YthegbfgeochckaaGreat.Abs
