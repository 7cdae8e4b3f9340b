/- Contracts: schedules that keep all rules. -/
import Derived.Test.YtefgamefajmdkaaGreatSch
import Derived.Test.YtefgamefajmdkaaGreatC12
set_option linter.all false
set_option maxRecDepth 20000
set_option maxHeartbeats 0
namespace Go.Proofs.YtefgamefajmdkaaGreat.Abs
open Go.Proofs
inductive RIn (p:Proj) (r:Rul):Prop
 |link (k:Nat) (l:Link) (h:r=jo k) (hl:p.links[k]? =some l)
 |fin (k:Nat) (h:r=endRule k) (hk:k < p.acts.length)
 |time (ρ t:Nat) (h:r=mI ρ t) (hρ:ρ < p.bB.length) (ht:t < 61)
 |pair (ρ b c:Nat) (h:r=jN ρ b c) (hm:fA p ρ=true) (hb:b < c) (hc:c < p.acts.length)
 |EA (k:Nat) (h:r=gZ k) (hk:k < p.aY.length)
theorem Sg {p:Proj} {r:Rul} (h:r∈eF p):RIn p r:=by
 simp only [eF,List.mem_append,List.mem_map,List.mem_range,List.mem_flatMap,zV,fO] at h
 rcases h with (((h|h)|h)|h)|h
 ·obtain⟨k,hk,rfl⟩:=h
  exact .link k _ rfl (List.getElem?_eq_getElem hk)
 ·obtain⟨k,hk,rfl⟩:=h
  exact .fin k rfl hk
 ·obtain⟨ρ,hρ,t,ht,rfl⟩:=h
  exact .time ρ t rfl hρ ht
 ·obtain⟨ρ,hρ,b,hb,h⟩:=h
  split at h
  ·rename_i hm
   simp only [List.mem_map,List.mem_range] at h
   obtain⟨j,hj,rfl⟩:=h
   exact .pair ρ b (b+1+j) rfl hm (by omega) (by omega)
  ·simp at h
 ·obtain⟨k,hk,rfl⟩:=h
  exact .EA k rfl hk
theorem Si {p:Proj} {s:aJ} {k:Nat} {a:aH} {t m:Int} {q:Nat} {mo:Mode} (g:IQ p s k a t m q mo) {r:Int} (hr:iO p r=true):
  ∃(ρ:Nat) (u:Int),r=ρ∧mo.con[ρ]? =some u∧(0≤u∧u≤20)∧Kc p s r k=u:=by
 have hm:=jV g.aok (List.mem_of_getElem? g.moE)
 have hw:=within_iff.1 hr
 have e2:mo.con[r.toNat]? =some (mo.con[r.toNat]'(by omega)):=by simp
 refine⟨r.toNat,_,by omega,e2,hm.2.2.2.1 _ (List.mem_of_getElem? e2),?_⟩
 rw [Kc,oH g,List.getD_eq_getElem?_getD,e2];rfl
theorem Sj {p:Proj} {s:aJ} (hf:bF p s=true) {r:Int} (hr:iO p r=true) {k:Nat} (hk:k < p.acts.length):0≤Kc p s r k∧Kc p s r k≤20:=by
 obtain⟨a,t,m,q,mo,g⟩:=Bw hf hk
 obtain⟨ρ,u,_,_,hb,e⟩:=Si g hr
 rw [e];exact hb
theorem CZ (p:Proj) (s:aJ) (r:Int) (hp:p.fine) (hf:bF p s=true) (hr:iO p r=true):Con 235 [.d p.av,.d s.av,.d (i64 r)] (.d (i64 (Ke p s r))):=by
 refine con Tryz.func235 rfl rfl Tryz.call235 rfl fun hwf=>?_
 simp only [ARs.wf,AR.wf,AV.wf,AV.wfs,lm,lim] at hwf
 (repeat' ((conv=>whnf);first|refine gA ?_|(refine gB ?_ ?_<;>intro h)|(refine gI ?_;intro x hx)|(refine gJ ?_;intro j x hj hx)|refine gV ?_|refine gC (kR p s hp) ?_|refine gC (AQ p _) ?_|intro _))<;>try (conv=>whnf)
 refine aB [2,3,4,21] [3,4] [] ?_
 (conv=>whnf)
 refine aA.go ((Nat)×(Int)) (fun⟨k,n⟩=>(k≤p.acts.length)∧(n=sumTo (Kc p s r) k)) (fun⟨k,n⟩=>[(22,.data (i64 k)),(7,.data (i64 n))]) (fun _=>[]) (fun _=>[]) (fun⟨k,n⟩=>p.acts.length - k) ⟨0,0⟩ ?_ ?_
 ·exact⟨by omega,rfl⟩
 rintro⟨k,n⟩ ⟨hk,hn⟩
 by_cases hlt:k < p.acts.length
 ·obtain⟨a,u,m,q,mo,g⟩:=Bw hf hlt
  obtain⟨ρ,v,e1,e2,e3,e4⟩:=Si g hr
  have hb:=kY (f:=Kc p s r) (c:=20) (n:=k) fun i hi=>Sj hf hr (by omega)
  (repeat' ((conv=>whnf);first|(exfalso;omega)|with_reducible refine Idx.got e2 e1 ?_|refine gA ?_|(refine gB ?_ ?_<;>intro h)|(refine gI ?_;intro x hx)|(refine gJ ?_;intro j x hj hx)|refine gV ?_|refine gC (vw p s _ g rfl) ?_|intro _))<;>try (conv=>whnf)
  refine nx ⟨k+1,n+v⟩ ?_
  exact⟨by omega,by rw [sumTo,hn,e4]⟩
 ·(repeat' ((conv=>whnf);first|(exfalso;omega)|refine gA ?_|(refine gB ?_ ?_<;>intro h)|(refine gI ?_;intro x hx)|(refine gJ ?_;intro j x hj hx)|refine gV ?_|intro _))<;>try (conv=>whnf)
  refine⟨?_,rfl,trivial⟩
  rw [hn,show k=p.acts.length by omega];rfl
theorem KV (p:Proj) (s:aJ) (l:Link) (hf:bF p s=true) (hl:jR p l=true):Con 229 [.d p.av,.d s.av,.d l.av] (.d (.bool (!rG p s l))):=by
 refine con Tryz.func229 rfl rfl Tryz.call229 rfl fun hwf=>?_
 simp only [jR,Bool.and_eq_true] at hl
 obtain⟨k,_,e1,e2⟩:=jD hl.1.1.1
 obtain⟨k',_,e1',e2'⟩:=jD hl.1.1.2
 have aaS:=within_iff.1 hl.2
 obtain⟨a,t,m,q,mo,g⟩:=Bw hf (List.getElem?_eq_some_iff.1 e2).1
 obtain⟨a',t',m',q',mo',g'⟩:=Bw hf (List.getElem?_eq_some_iff.1 e2').1
 have hd:=UH g
 have h1:=g.tb
 have he:=Fg g
 (repeat' ((conv=>whnf);first|with_reducible refine Idx.got g.start e1 ?_|with_reducible refine Idx.got g'.start e1' ?_|refine gA ?_|(refine gB ?_ ?_<;>intro h)|(refine gI ?_;intro x hx)|(refine gJ ?_;intro j x hj hx)|refine gV ?_|refine gC (zy p s _ g e1) ?_|intro _))<;>try (conv=>whnf)
 all_goals
  refine⟨?_,rfl,trivial⟩
  simp only [AV.bool.injEq]
  rw [Bool.eq_iff_iff]
  simp [rG,e1,e1',List.getD_eq_getElem?_getD,g.start,g'.start, *]
theorem KW (p:Proj) (s:aJ) (r b c:Int) {k k':Nat} {ka ko:aH} {t m t' m':Int} {q q':Nat} {mo mo':Mode} (g:IQ p s k ka t m q mo) (e:b=k) (g':IQ p s k' ko t' m' q' mo') (e':c=k') (hp:p.fine)
  (hf:bF p s=true) (hm:fA p r=true) (hb:bn p b=true) (hc:bn p c=true):Con 234 [.d p.av,.d s.av,.d (i64 r),.d (i64 b),.d (i64 c)] (.d (.bool (!uU p s r b c))):=by
 refine con Tryz.func234 rfl rfl Tryz.call234 rfl fun hwf=>?_
 have hok:=(jg hf).1
 obtain⟨re,ρ,i,j,row,v,hM⟩:=yQ hok hm g.act g'.act e e'
 obtain⟨re',ρ',i',j',row',v',hM'⟩:=yQ hok hm g'.act g.act e' e
 obtain⟨ρ1,u,f1,f2,f3,_⟩:=Fh g (wF hm) 0
 obtain⟨ρ2,u',f1',f2',f3',_⟩:=Fh g' (wF hm) 0
 have hd:=UH g;have hd':=UH g'
 have h1:=g.tb;have h1':=g'.tb
 have he:=Fg g;have he':=Fg g'
 have hv:=hM.vb;have hv':=hM'.vb
 have ep:uU p s r b c=(!decide (u=0)&& !decide (u'=0)&& !decide (nQ p s k+v≤t')&& !decide (nQ p s k'+v'≤t)):=by
  rw [uU,Ej,Ej,hM.eq,hM'.eq]
  subst e e' f1
  obtain rfl:ρ2=ρ1:=by omega
  simp [oH g,oH g',List.getD_eq_getElem?_getD,f2,f2',g.start,g'.start]
 rw [ep]
 (repeat' ((conv=>whnf);first|with_reducible refine Idx.got f2 f1 ?_|with_reducible refine Idx.got f2' f1' ?_|with_reducible refine Idx.got g.start e ?_|with_reducible refine Idx.got g'.start e' ?_|refine gA ?_|(refine gB ?_ ?_<;>intro h)|(refine gI ?_;intro x hx)|(refine gJ ?_;intro j x hj hx)|refine gV ?_|refine gC (vw p s _ g e) ?_|refine gC (vw p s _ g' e') ?_|refine gC (zy p s _ g e) ?_|refine gC (zy p s _ g' e') ?_|refine gC (rT p r b c g.act e g'.act e' hp hok hm hb hc hM) ?_|refine gC (rT p r c b g'.act e' g.act e hp hok hm hc hb hM') ?_|intro _))<;>try (conv=>whnf)
 all_goals
  refine⟨?_,rfl,trivial⟩
  clear he he' ep
  simp only [AV.bool.injEq]
  rw [Bool.eq_iff_iff]
  simp [*]
theorem KZ {p:Proj} {k:Nat} (h:k < p.acts.length):bn p k=true:=within_iff.2 (by omega)
theorem TS {p:Proj} {k:Nat} (h:k < p.bB.length):dV p k=true:=within_iff.2 (by omega)
theorem PI {p:Proj} {k:Nat} (h:k < p.aY.length):iO p k=true:=within_iff.2 (by omega)
theorem La (p:Proj) (s:aJ) (r:Rul) (hp:p.fine) (hf:bF p s=true) (hr:RIn p r):Con 188 [.d p.av,.d s.av,.d r.av] (.d (.bool (!breaks p s r))):=by
 refine con Tryz.func188 rfl rfl Tryz.call188 rfl fun hwf=>?_
 have hok:=(jg hf).1
 cases hr with
 |link k l h hl=>
  subst h
  have hkd:(jo k).kind=1:=rfl
  have hlo:=(eD hok).link k l hl
  (repeat' ((conv=>whnf);first|with_reducible refine Br.no (decide_eq_false (by omega)) ?_|with_reducible refine Br.yes (decide_eq_true (by omega)) ?_|with_reducible refine Idx.got hl rfl ?_|refine gA ?_|(refine gB ?_ ?_<;>intro h)|(refine gI ?_;intro x hx)|(refine gJ ?_;intro j x hj hx)|refine gC (KV p s l hf hlo) ?_|intro _))<;>try (conv=>whnf)
  refine⟨?_,rfl,trivial⟩
  simp [breaks,jo,iy,List.getD_eq_getElem?_getD,hl]
 |fin k h hk=>
  subst h
  have hkd:(endRule k).kind=2:=rfl
  obtain⟨a,t,m,q,mo,g⟩:=Bw hf hk
  (repeat' ((conv=>whnf);first|with_reducible refine Br.no (decide_eq_false (by omega)) ?_|with_reducible refine Br.yes (decide_eq_true (by omega)) ?_|refine gA ?_|(refine gB ?_ ?_<;>intro h)|(refine gI ?_;intro x hx)|(refine gJ ?_;intro j x hj hx)|refine gC (zy p s _ g rfl) ?_|intro _))<;>try (conv=>whnf)
  refine⟨?_,rfl,trivial⟩
  simp only [AV.bool.injEq]
  rw [Bool.eq_iff_iff]
  simp [breaks,endRule]
 |time ρ t h hρ ht=>
  subst h
  have hkd:(mI ρ t).kind=3:=rfl
  have hr:=TS hρ
  obtain⟨x,hx⟩:∃x,p.bB[ρ]? =some x:=⟨p.bB[ρ]'hρ,by simp⟩
  (repeat' ((conv=>whnf);first|with_reducible refine Br.no (decide_eq_false (by omega)) ?_|with_reducible refine Br.yes (decide_eq_true (by omega)) ?_|with_reducible refine Idx.got hx rfl ?_|refine gA ?_|(refine gB ?_ ?_<;>intro h)|(refine gI ?_;intro x hx)|(refine gJ ?_;intro j x hj hx)|refine gC (TR p s (ρ:Int) (t:Int) hf hr) ?_|refine gC (qh x.steps (t:Int)) ?_|intro _))<;>try (conv=>whnf)
  refine⟨?_,rfl,trivial⟩
  simp only [AV.bool.injEq]
  rw [Bool.eq_iff_iff]
  simp [breaks,mI,uS,List.getD_eq_getElem?_getD,hx]
 |pair ρ b c h hm hb hc=>
  subst h
  have hkd:(jN ρ b c).kind=5:=rfl
  obtain⟨a,t,m,q,mo,g⟩:=Bw hf (show b < p.acts.length by omega)
  obtain⟨a',t',m',q',mo',g'⟩:=Bw hf hc
  (repeat' ((conv=>whnf);first|with_reducible refine Br.no (decide_eq_false (by omega)) ?_|with_reducible refine Br.yes (decide_eq_true (by omega)) ?_|refine gA ?_|(refine gB ?_ ?_<;>intro h)|(refine gI ?_;intro x hx)|(refine gJ ?_;intro j x hj hx)|refine gC (KW p s (ρ:Int) (b:Int) (c:Int) g rfl g' rfl hp hf hm (KZ (by omega)) (KZ hc)) ?_|intro _))<;>try (conv=>whnf)
  refine⟨?_,rfl,trivial⟩
  simp [breaks,jN]
 |EA k h hkn=>
  subst h
  have hkd:(gZ k).kind=6:=rfl
  obtain⟨x,hx⟩:∃x,p.aY[k]? =some x:=⟨p.aY[k]'hkn,by simp⟩
  (repeat' ((conv=>whnf);first|with_reducible refine Br.no (decide_eq_false (by omega)) ?_|with_reducible refine Br.yes (decide_eq_true (by omega)) ?_|with_reducible refine Idx.got hx rfl ?_|refine gA ?_|(refine gB ?_ ?_<;>intro h)|(refine gI ?_;intro x hx)|(refine gJ ?_;intro j x hj hx)|refine gC (CZ p s (k:Int) hp hf (PI hkn)) ?_|intro _))<;>try (conv=>whnf)
  refine⟨?_,rfl,trivial⟩
  simp only [AV.bool.injEq]
  rw [Bool.eq_iff_iff]
  simp [breaks,gZ,List.getD_eq_getElem?_getD,hx]
open Go.Proofs
theorem Sk {p:Proj} (h:aF p=true):(eF p).length≤1000:=by
 obtain⟨ha,hr,hs,hl⟩:=oC h
 have key:∀{α:Type} (n c:Nat) (f:Nat→List α),(∀k,(f k).length≤c)→((List.range n).flatMap f).length≤n*c:=by
  intro α n c f hf
  induction n with
  |zero=>simp
  |succ n ih=>
   rw [List.range_succ,List.flatMap_append,List.length_append,Nat.succ_mul]
   have:=hf n
   simp only [List.flatMap_cons,List.flatMap_nil,List.append_nil]
   omega
 have h1:=key p.bB.length 61 zV fun k=>by simp [zV]
 have h2:=key p.bB.length 36 (fun r=>(List.range p.acts.length).flatMap (fO p r)) fun r=>by
  have:=key p.acts.length 6 (fO p r) fun b=>by unfold fO;split<;>simp;omega
  have h6:p.acts.length*6≤36:=by omega
  omega
 simp only [eF,List.length_append,List.length_map,List.length_range]
 omega
theorem Fq {P:Rul→Bool} {l o:List Rul} {k:Nat} {x:Rul} (hi:o++(l.drop k).filter P=l.filter P) (hx:l[k]? =some x):
  (P x=true→(o++[x])++(l.drop (k+1)).filter P=l.filter P)∧(P x=false→o++(l.drop (k+1)).filter P=l.filter P):=by
 rw [au hx,List.filter_cons] at hi
 exact⟨fun h=>by rw [← hi,if_pos h];simp,fun h=>by rw [← hi,if_neg (by simp [h])]⟩
theorem Da (p:Proj) (s:aJ) (hp:p.fine):Con 127 [.d p.av,.d s.av] (.d (.sl ((pq p s).map Rul.av))):=by
 refine con Tryz.func127 rfl rfl Tryz.call127 rfl fun hwf=>?_
 simp only [ARs.wf,AR.wf,AV.wf,AV.wfs,lm,lim] at hwf
 cases hf:bF p s with
 |false=>
  (repeat' ((conv=>whnf);first|refine gA ?_|(refine gB ?_ ?_<;>intro h)|(refine gI ?_;intro x hx)|(refine gJ ?_;intro j x hj hx)|refine gP ?_|refine gV ?_|refine gC (kR p s hp) ?_|intro _))<;>try (conv=>whnf)
  refine⟨?_,rfl,trivial⟩
  rw [pq,if_neg (by simp [hf])];rfl
 |true=>
  have hok:=(jg hf).1
  have hlen:=Sk hok
  rw [pq,if_pos hf]
  (repeat' ((conv=>whnf);first|refine gA ?_|(refine gB ?_ ?_<;>intro h)|(refine gI ?_;intro x hx)|(refine gJ ?_;intro j x hj hx)|refine gP ?_|refine gV ?_|refine gC (kR p s hp) ?_|refine gC (TG p hok) ?_|intro _))<;>try (conv=>whnf)
  refine aB [2,3,14,15] [2,3] [12] ?_
  (conv=>whnf)
  refine aA.go ((Nat)×(List Rul)) (fun⟨k,o⟩=>(k≤(eF p).length)∧(o.length≤k)∧(o++((eF p).drop k).filter (breaks p s)=(eF p).filter (breaks p s))) (fun⟨k,o⟩=>[(16,.data (i64 k)),(5,.own 12 0)]) (fun _=>[]) (fun⟨k,o⟩=>[(12,51,o.map Rul.av,0)]) (fun⟨k,o⟩=>(eF p).length - k) ⟨0,[]⟩ ?_ ?_
  ·exact⟨by omega,by simp,rfl⟩
  rintro⟨k,o⟩ ⟨hk,ho,hi⟩
  by_cases hlt:k < (eF p).length
  ·obtain⟨x,hx⟩:∃x,(eF p)[k]? =some x:=⟨(eF p)[k]'hlt,by simp⟩
   (repeat' ((conv=>whnf);first|with_reducible refine Idx.got hx rfl ?_|(exfalso;omega)|refine gA ?_|(refine gB ?_ ?_<;>intro h)|(refine gI ?_;intro x hx)|(refine gJ ?_;intro j x hj hx)|refine gP ?_|refine gV ?_|refine gC (La p s x hp hf (Sg (List.mem_of_getElem? hx))) ?_|intro _))<;>try (conv=>whnf)
   ·refine nw ⟨k+1,o++[x]⟩ ?_ ?_
    ·(repeat' ((conv=>whnf)<;>(first|exact trivial|exact rfl|with_reducible refine And.intro ?_ ?_)))<;>((conv=>whnf)<;>(simp))
    exact⟨by omega,by simp;omega,(Fq hi hx).1 h⟩
   ·refine nx ⟨k+1,o⟩ ?_
    exact⟨by omega,by omega,(Fq hi hx).2 h⟩
  ·(repeat' ((conv=>whnf);first|(exfalso;omega)|refine gA ?_|(refine gB ?_ ?_<;>intro h)|(refine gI ?_;intro x hx)|(refine gJ ?_;intro j x hj hx)|refine gP ?_|refine gV ?_|intro _))<;>try (conv=>whnf)
   refine⟨?_,rfl,trivial⟩
   rw [← hi,nL hlt];simp
theorem IU (p:Proj) (s:aJ) (hp:p.fine):Con 56 [.d p.av,.d s.av] (.d (.bool (dA p s))):=by
 refine con Tryz.func56 rfl rfl Tryz.call56 rfl fun hwf=>?_
 (repeat' ((conv=>whnf);first|refine gA ?_|(refine gB ?_ ?_<;>intro h)|refine gC (kR p s hp) ?_|refine gC (Da p s hp) ?_|intro _))<;>try (conv=>whnf)
 all_goals (refine⟨?_,rfl,trivial⟩;simp [dA, *])
end Go.Proofs.YtefgamefajmdkaaGreat.Abs
