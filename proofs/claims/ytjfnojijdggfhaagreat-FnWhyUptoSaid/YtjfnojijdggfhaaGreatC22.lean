/- Contracts: schedules that keep all rules. -/
import Derived.Test.YtjfnojijdggfhaaGreatSch
import Derived.Test.YtjfnojijdggfhaaGreatC12
set_option linter.all false
set_option maxRecDepth 20000
set_option maxHeartbeats 0
namespace Go.Proofs.YtjfnojijdggfhaaGreat.Abs
open Go.Proofs
inductive RIn (p:Proj) (r:Rul):Prop
 |link (k:Nat) (l:Link) (h:r=kg k) (hl:p.links[k]? =some l)
 |fin (k:Nat) (h:r=endRule k) (hk:k < p.acts.length)
 |time (ρ t:Nat) (h:r=lF ρ t) (hρ:ρ < p.bS.length) (ht:t < 61)
 |pair (ρ b c:Nat) (h:r=lH ρ b c) (hm:gq p ρ=true) (hb:b < c) (hc:c < p.acts.length)
 |Ct (k:Nat) (h:r=jm k) (hk:k < p.bD.length)
theorem QK {p:Proj} {r:Rul} (h:r∈bA p):RIn p r:=by
 simp only [bA,List.mem_append,List.mem_map,List.mem_range,List.mem_flatMap,mP,fA] at h
 rcases h with (((h|h)|h)|h)|h
 ·obtain⟨k,hk,rfl⟩:=h
  exact .link k _ rfl (List.getElem?_eq_getElem hk)
 ·obtain⟨k,hk,rfl⟩:=h
  exact .fin k rfl hk
 ·obtain⟨ρ,hρ,t,ht,rfl⟩:=h
  exact .time ρ t rfl hρ ht
 ·obtain⟨ρ,hρ,b,hb,h⟩:=h
  split at h
  ·rename_i hm
   simp only [List.mem_map,List.mem_range] at h
   obtain⟨j,hj,rfl⟩:=h
   exact .pair ρ b (b+1+j) rfl hm (by omega) (by omega)
  ·simp at h
 ·obtain⟨k,hk,rfl⟩:=h
  exact .Ct k rfl hk
theorem QL {p:Proj} {s:aM} {k:Nat} {a:aK} {t m:Int} {q:Nat} {mo:Mode} (g:Gp p s k a t m q mo) {r:Int} (hr:jk p r=true):
  ∃(ρ:Nat) (u:Int),r=ρ∧mo.con[ρ]? =some u∧(0≤u∧u≤20)∧Ir p s r k=u:=by
 have hm:=jF g.aok (List.mem_of_getElem? g.moE)
 have hw:=within_iff.1 hr
 have e2:mo.con[r.toNat]? =some (mo.con[r.toNat]'(by omega)):=by simp
 refine⟨r.toNat,_,by omega,e2,hm.2.2.2.1 _ (List.mem_of_getElem? e2),?_⟩
 rw [Ir,nJ g,List.getD_eq_getElem?_getD,e2];rfl
theorem QM {p:Proj} {s:aM} (hf:bn p s=true) {r:Int} (hr:jk p r=true) {k:Nat} (hk:k < p.acts.length):0≤Ir p s r k∧Ir p s r k≤20:=by
 obtain⟨a,t,m,q,mo,g⟩:=zI hf hk
 obtain⟨ρ,u,_,_,hb,e⟩:=QL g hr
 rw [e];exact hb
theorem Al (p:Proj) (s:aM) (r:Int) (hp:p.fine) (hf:bn p s=true) (hr:jk p r=true):Con 204 [.d p.av,.d s.av,.d (i64 r)] (.d (i64 (Iu p s r))):=by
 refine con Tryz.func204 rfl rfl Tryz.call204 rfl fun hwf=>?_
 simp only [ARs.wf,AR.wf,AV.wf,AV.wfs,lm,lim] at hwf
 (repeat' ((conv=>whnf);first|refine gA ?_|(refine gB ?_ ?_<;>intro h)|(refine gI ?_;intro x hx)|(refine gJ ?_;intro j x hj hx)|refine gV ?_|refine gC (jX p s hp) ?_|refine gC (zm p _) ?_|intro _))<;>try (conv=>whnf)
 refine aB [2,3,4,21] [3,4] [] ?_
 (conv=>whnf)
 refine aA.go ((Nat)×(Int)) (fun⟨k,n⟩=>(k≤p.acts.length)∧(n=sumTo (Ir p s r) k)) (fun⟨k,n⟩=>[(22,.data (i64 k)),(7,.data (i64 n))]) (fun _=>[]) (fun _=>[]) (fun⟨k,n⟩=>p.acts.length - k) ⟨0,0⟩ ?_ ?_
 ·exact⟨by omega,rfl⟩
 rintro⟨k,n⟩ ⟨hk,hn⟩
 by_cases hlt:k < p.acts.length
 ·obtain⟨a,u,m,q,mo,g⟩:=zI hf hlt
  obtain⟨ρ,v,e1,e2,e3,e4⟩:=QL g hr
  have hb:=nZ (f:=Ir p s r) (c:=20) (n:=k) fun i hi=>QM hf hr (by omega)
  (repeat' ((conv=>whnf);first|(exfalso;omega)|with_reducible refine Idx.got e2 e1 ?_|refine gA ?_|(refine gB ?_ ?_<;>intro h)|(refine gI ?_;intro x hx)|(refine gJ ?_;intro j x hj hx)|refine gV ?_|refine gC (uh p s _ g rfl) ?_|intro _))<;>try (conv=>whnf)
  refine nx ⟨k+1,n+v⟩ ?_
  exact⟨by omega,by rw [sumTo,hn,e4]⟩
 ·(repeat' ((conv=>whnf);first|(exfalso;omega)|refine gA ?_|(refine gB ?_ ?_<;>intro h)|(refine gI ?_;intro x hx)|(refine gJ ?_;intro j x hj hx)|refine gV ?_|intro _))<;>try (conv=>whnf)
  refine⟨?_,rfl,trivial⟩
  rw [hn,show k=p.acts.length by omega];rfl
theorem JK (p:Proj) (s:aM) (l:Link) (hf:bn p s=true) (hl:jS p l=true):Con 199 [.d p.av,.d s.av,.d l.av] (.d (.bool (!qz p s l))):=by
 refine con Tryz.func199 rfl rfl Tryz.call199 rfl fun hwf=>?_
 simp only [jS,Bool.and_eq_true] at hl
 obtain⟨k,_,e1,e2⟩:=lT hl.1.1.1
 obtain⟨k',_,e1',e2'⟩:=lT hl.1.1.2
 have aaD:=within_iff.1 hl.2
 obtain⟨a,t,m,q,mo,g⟩:=zI hf (List.getElem?_eq_some_iff.1 e2).1
 obtain⟨a',t',m',q',mo',g'⟩:=zI hf (List.getElem?_eq_some_iff.1 e2').1
 have hd:=TL g
 have h1:=g.tb
 have he:=Dp g
 (repeat' ((conv=>whnf);first|with_reducible refine Idx.got g.start e1 ?_|with_reducible refine Idx.got g'.start e1' ?_|refine gA ?_|(refine gB ?_ ?_<;>intro h)|(refine gI ?_;intro x hx)|(refine gJ ?_;intro j x hj hx)|refine gV ?_|refine gC (xU p s _ g e1) ?_|intro _))<;>try (conv=>whnf)
 all_goals
  refine⟨?_,rfl,trivial⟩
  simp only [AV.bool.injEq]
  rw [Bool.eq_iff_iff]
  simp [qz,e1,e1',List.getD_eq_getElem?_getD,g.start,g'.start, *]
theorem JL (p:Proj) (s:aM) (r b c:Int) {k k':Nat} {ka ko:aK} {t m t' m':Int} {q q':Nat} {mo mo':Mode} (g:Gp p s k ka t m q mo) (e:b=k) (g':Gp p s k' ko t' m' q' mo') (e':c=k') (hp:p.fine)
  (hf:bn p s=true) (hm:gq p r=true) (hb:bg p b=true) (hc:bg p c=true):Con 203 [.d p.av,.d s.av,.d (i64 r),.d (i64 b),.d (i64 c)] (.d (.bool (!tJ p s r b c))):=by
 refine con Tryz.func203 rfl rfl Tryz.call203 rfl fun hwf=>?_
 have hok:=(iE hf).1
 obtain⟨re,ρ,i,j,row,v,hM⟩:=IV hok hm g.act g'.act e e'
 obtain⟨re',ρ',i',j',row',v',hM'⟩:=IV hok hm g'.act g.act e' e
 obtain⟨ρ1,u,f1,f2,f3,_⟩:=Dq g (uY hm) 0
 obtain⟨ρ2,u',f1',f2',f3',_⟩:=Dq g' (uY hm) 0
 have hd:=TL g;have hd':=TL g'
 have h1:=g.tb;have h1':=g'.tb
 have he:=Dp g;have he':=Dp g'
 have hv:=hM.vb;have hv':=hM'.vb
 have ep:tJ p s r b c=(!decide (u=0)&& !decide (u'=0)&& !decide (mO p s k+v≤t')&& !decide (mO p s k'+v'≤t)):=by
  rw [tJ,BZ,BZ,hM.eq,hM'.eq]
  subst e e' f1
  obtain rfl:ρ2=ρ1:=by omega
  simp [nJ g,nJ g',List.getD_eq_getElem?_getD,f2,f2',g.start,g'.start]
 rw [ep]
 (repeat' ((conv=>whnf);first|with_reducible refine Idx.got f2 f1 ?_|with_reducible refine Idx.got f2' f1' ?_|with_reducible refine Idx.got g.start e ?_|with_reducible refine Idx.got g'.start e' ?_|refine gA ?_|(refine gB ?_ ?_<;>intro h)|(refine gI ?_;intro x hx)|(refine gJ ?_;intro j x hj hx)|refine gV ?_|refine gC (uh p s _ g e) ?_|refine gC (uh p s _ g' e') ?_|refine gC (xU p s _ g e) ?_|refine gC (xU p s _ g' e') ?_|refine gC (qE p r b c g.act e g'.act e' hp hok hm hb hc hM) ?_|refine gC (qE p r c b g'.act e' g.act e hp hok hm hc hb hM') ?_|intro _))<;>try (conv=>whnf)
 all_goals
  refine⟨?_,rfl,trivial⟩
  clear he he' ep
  simp only [AV.bool.injEq]
  rw [Bool.eq_iff_iff]
  simp [*]
theorem JM {p:Proj} {k:Nat} (h:k < p.acts.length):bg p k=true:=within_iff.2 (by omega)
theorem SA {p:Proj} {k:Nat} (h:k < p.bS.length):eZ p k=true:=within_iff.2 (by omega)
theorem Og {p:Proj} {k:Nat} (h:k < p.bD.length):jk p k=true:=within_iff.2 (by omega)
theorem JN (p:Proj) (s:aM) (r:Rul) (hp:p.fine) (hf:bn p s=true) (hr:RIn p r):Con 167 [.d p.av,.d s.av,.d r.av] (.d (.bool (!breaks p s r))):=by
 refine con Tryz.func167 rfl rfl Tryz.call167 rfl fun hwf=>?_
 have hok:=(iE hf).1
 cases hr with
 |link k l h hl=>
  subst h
  have hkd:(kg k).kind=1:=rfl
  have hlo:=(fB hok).link k l hl
  (repeat' ((conv=>whnf);first|with_reducible refine Br.no (decide_eq_false (by omega)) ?_|with_reducible refine Br.yes (decide_eq_true (by omega)) ?_|with_reducible refine Idx.got hl rfl ?_|refine gA ?_|(refine gB ?_ ?_<;>intro h)|(refine gI ?_;intro x hx)|(refine gJ ?_;intro j x hj hx)|refine gC (JK p s l hf hlo) ?_|intro _))<;>try (conv=>whnf)
  refine⟨?_,rfl,trivial⟩
  simp [breaks,kg,gu,List.getD_eq_getElem?_getD,hl]
 |fin k h hk=>
  subst h
  have hkd:(endRule k).kind=2:=rfl
  obtain⟨a,t,m,q,mo,g⟩:=zI hf hk
  (repeat' ((conv=>whnf);first|with_reducible refine Br.no (decide_eq_false (by omega)) ?_|with_reducible refine Br.yes (decide_eq_true (by omega)) ?_|refine gA ?_|(refine gB ?_ ?_<;>intro h)|(refine gI ?_;intro x hx)|(refine gJ ?_;intro j x hj hx)|refine gC (xU p s _ g rfl) ?_|intro _))<;>try (conv=>whnf)
  refine⟨?_,rfl,trivial⟩
  simp only [AV.bool.injEq]
  rw [Bool.eq_iff_iff]
  simp [breaks,endRule]
 |time ρ t h hρ ht=>
  subst h
  have hkd:(lF ρ t).kind=3:=rfl
  have hr:=SA hρ
  obtain⟨x,hx⟩:∃x,p.bS[ρ]? =some x:=⟨p.bS[ρ]'hρ,by simp⟩
  (repeat' ((conv=>whnf);first|with_reducible refine Br.no (decide_eq_false (by omega)) ?_|with_reducible refine Br.yes (decide_eq_true (by omega)) ?_|with_reducible refine Idx.got hx rfl ?_|refine gA ?_|(refine gB ?_ ?_<;>intro h)|(refine gI ?_;intro x hx)|(refine gJ ?_;intro j x hj hx)|refine gC (Sz p s (ρ:Int) (t:Int) hf hr) ?_|refine gC (oO x.steps (t:Int)) ?_|intro _))<;>try (conv=>whnf)
  refine⟨?_,rfl,trivial⟩
  simp only [AV.bool.injEq]
  rw [Bool.eq_iff_iff]
  simp [breaks,lF,vR,List.getD_eq_getElem?_getD,hx]
 |pair ρ b c h hm hb hc=>
  subst h
  have hkd:(lH ρ b c).kind=5:=rfl
  obtain⟨a,t,m,q,mo,g⟩:=zI hf (show b < p.acts.length by omega)
  obtain⟨a',t',m',q',mo',g'⟩:=zI hf hc
  (repeat' ((conv=>whnf);first|with_reducible refine Br.no (decide_eq_false (by omega)) ?_|with_reducible refine Br.yes (decide_eq_true (by omega)) ?_|refine gA ?_|(refine gB ?_ ?_<;>intro h)|(refine gI ?_;intro x hx)|(refine gJ ?_;intro j x hj hx)|refine gC (JL p s (ρ:Int) (b:Int) (c:Int) g rfl g' rfl hp hf hm (JM (by omega)) (JM hc)) ?_|intro _))<;>try (conv=>whnf)
  refine⟨?_,rfl,trivial⟩
  simp [breaks,lH]
 |Ct k h hkn=>
  subst h
  have hkd:(jm k).kind=6:=rfl
  obtain⟨x,hx⟩:∃x,p.bD[k]? =some x:=⟨p.bD[k]'hkn,by simp⟩
  (repeat' ((conv=>whnf);first|with_reducible refine Br.no (decide_eq_false (by omega)) ?_|with_reducible refine Br.yes (decide_eq_true (by omega)) ?_|with_reducible refine Idx.got hx rfl ?_|refine gA ?_|(refine gB ?_ ?_<;>intro h)|(refine gI ?_;intro x hx)|(refine gJ ?_;intro j x hj hx)|refine gC (Al p s (k:Int) hp hf (Og hkn)) ?_|intro _))<;>try (conv=>whnf)
  refine⟨?_,rfl,trivial⟩
  simp only [AV.bool.injEq]
  rw [Bool.eq_iff_iff]
  simp [breaks,jm,List.getD_eq_getElem?_getD,hx]
open Go.Proofs
theorem QN {p:Proj} (h:aL p=true):(bA p).length≤1000:=by
 obtain⟨ha,hr,hs,hl⟩:=lV h
 have key:∀{α:Type} (n c:Nat) (f:Nat→List α),(∀k,(f k).length≤c)→((List.range n).flatMap f).length≤n*c:=by
  intro α n c f hf
  induction n with
  |zero=>simp
  |succ n ih=>
   rw [List.range_succ,List.flatMap_append,List.length_append,Nat.succ_mul]
   have:=hf n
   simp only [List.flatMap_cons,List.flatMap_nil,List.append_nil]
   omega
 have h1:=key p.bS.length 61 mP fun k=>by simp [mP]
 have h2:=key p.bS.length 36 (fun r=>(List.range p.acts.length).flatMap (fA p r)) fun r=>by
  have:=key p.acts.length 6 (fA p r) fun b=>by unfold fA;split<;>simp;omega
  have h6:p.acts.length*6≤36:=by omega
  omega
 simp only [bA,List.length_append,List.length_map,List.length_range]
 omega
theorem Du {P:Rul→Bool} {l o:List Rul} {k:Nat} {x:Rul} (hi:o++(l.drop k).filter P=l.filter P) (hx:l[k]? =some x):
  (P x=true→(o++[x])++(l.drop (k+1)).filter P=l.filter P)∧(P x=false→o++(l.drop (k+1)).filter P=l.filter P):=by
 rw [au hx,List.filter_cons] at hi
 exact⟨fun h=>by rw [← hi,if_pos h];simp,fun h=>by rw [← hi,if_neg (by simp [h])]⟩
theorem Am (p:Proj) (s:aM) (hp:p.fine):Con 124 [.d p.av,.d s.av] (.d (.sl ((nW p s).map Rul.av))):=by
 refine con Tryz.func124 rfl rfl Tryz.call124 rfl fun hwf=>?_
 simp only [ARs.wf,AR.wf,AV.wf,AV.wfs,lm,lim] at hwf
 cases hf:bn p s with
 |false=>
  (repeat' ((conv=>whnf);first|refine gA ?_|(refine gB ?_ ?_<;>intro h)|(refine gI ?_;intro x hx)|(refine gJ ?_;intro j x hj hx)|refine gP ?_|refine gV ?_|refine gC (jX p s hp) ?_|intro _))<;>try (conv=>whnf)
  refine⟨?_,rfl,trivial⟩
  rw [nW,if_neg (by simp [hf])];rfl
 |true=>
  have hok:=(iE hf).1
  have hlen:=QN hok
  rw [nW,if_pos hf]
  (repeat' ((conv=>whnf);first|refine gA ?_|(refine gB ?_ ?_<;>intro h)|(refine gI ?_;intro x hx)|(refine gJ ?_;intro j x hj hx)|refine gP ?_|refine gV ?_|refine gC (jX p s hp) ?_|refine gC (Jo p hok) ?_|intro _))<;>try (conv=>whnf)
  refine aB [2,3,14,15] [2,3] [12] ?_
  (conv=>whnf)
  refine aA.go ((Nat)×(List Rul)) (fun⟨k,o⟩=>(k≤(bA p).length)∧(o.length≤k)∧(o++((bA p).drop k).filter (breaks p s)=(bA p).filter (breaks p s))) (fun⟨k,o⟩=>[(16,.data (i64 k)),(5,.own 12 0)]) (fun _=>[]) (fun⟨k,o⟩=>[(12,35,o.map Rul.av,0)]) (fun⟨k,o⟩=>(bA p).length - k) ⟨0,[]⟩ ?_ ?_
  ·exact⟨by omega,by simp,rfl⟩
  rintro⟨k,o⟩ ⟨hk,ho,hi⟩
  by_cases hlt:k < (bA p).length
  ·obtain⟨x,hx⟩:∃x,(bA p)[k]? =some x:=⟨(bA p)[k]'hlt,by simp⟩
   (repeat' ((conv=>whnf);first|with_reducible refine Idx.got hx rfl ?_|(exfalso;omega)|refine gA ?_|(refine gB ?_ ?_<;>intro h)|(refine gI ?_;intro x hx)|(refine gJ ?_;intro j x hj hx)|refine gP ?_|refine gV ?_|refine gC (JN p s x hp hf (QK (List.mem_of_getElem? hx))) ?_|intro _))<;>try (conv=>whnf)
   ·refine nw ⟨k+1,o++[x]⟩ ?_ ?_
    ·(repeat' ((conv=>whnf)<;>(first|exact trivial|exact rfl|with_reducible refine And.intro ?_ ?_)))<;>((conv=>whnf)<;>(simp))
    exact⟨by omega,by simp;omega,(Du hi hx).1 h⟩
   ·refine nx ⟨k+1,o⟩ ?_
    exact⟨by omega,by omega,(Du hi hx).2 h⟩
  ·(repeat' ((conv=>whnf);first|(exfalso;omega)|refine gA ?_|(refine gB ?_ ?_<;>intro h)|(refine gI ?_;intro x hx)|(refine gJ ?_;intro j x hj hx)|refine gP ?_|refine gV ?_|intro _))<;>try (conv=>whnf)
   refine⟨?_,rfl,trivial⟩
   rw [← hi,wU hlt];simp
theorem Gq (p:Proj) (s:aM) (hp:p.fine):Con 56 [.d p.av,.d s.av] (.d (.bool (dN p s))):=by
 refine con Tryz.func56 rfl rfl Tryz.call56 rfl fun hwf=>?_
 (repeat' ((conv=>whnf);first|refine gA ?_|(refine gB ?_ ?_<;>intro h)|refine gC (jX p s hp) ?_|refine gC (Am p s hp) ?_|intro _))<;>try (conv=>whnf)
 all_goals (refine⟨?_,rfl,trivial⟩;simp [dN, *])
end Go.Proofs.YtjfnojijdggfhaaGreat.Abs
