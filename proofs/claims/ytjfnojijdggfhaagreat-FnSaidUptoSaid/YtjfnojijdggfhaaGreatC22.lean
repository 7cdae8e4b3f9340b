/- Contracts: schedules that keep all rules. -/
import Derived.Test.YtjfnojijdggfhaaGreatSch
import Derived.Test.YtjfnojijdggfhaaGreatC12
set_option linter.all false
set_option maxRecDepth 20000
set_option maxHeartbeats 0
namespace Go.Proofs.YtjfnojijdggfhaaGreat.Abs
open Go.Proofs
inductive RIn (p:Proj) (r:Rul):Prop
 |link (k:Nat) (l:Link) (h:r=kN k) (hl:p.links[k]? =some l)
 |fin (k:Nat) (h:r=endRule k) (hk:k < p.acts.length)
 |time (ρ t:Nat) (h:r=kP ρ t) (hρ:ρ < p.bM.length) (ht:t < 61)
 |pair (ρ b c:Nat) (h:r=lY ρ b c) (hm:fM p ρ=true) (hb:b < c) (hc:c < p.acts.length)
 |Aq (k:Nat) (h:r=jq k) (hk:k < p.bn.length)
theorem OV {p:Proj} {r:Rul} (h:r∈aZ p):RIn p r:=by
 simp only [aZ,List.mem_append,List.mem_map,List.mem_range,List.mem_flatMap,lZ,eO] at h
 rcases h with (((h|h)|h)|h)|h
 ·obtain⟨k,hk,rfl⟩:=h
  exact .link k _ rfl (List.getElem?_eq_getElem hk)
 ·obtain⟨k,hk,rfl⟩:=h
  exact .fin k rfl hk
 ·obtain⟨ρ,hρ,t,ht,rfl⟩:=h
  exact .time ρ t rfl hρ ht
 ·obtain⟨ρ,hρ,b,hb,h⟩:=h
  split at h
  ·rename_i hm
   simp only [List.mem_map,List.mem_range] at h
   obtain⟨j,hj,rfl⟩:=h
   exact .pair ρ b (b+1+j) rfl hm (by omega) (by omega)
  ·simp at h
 ·obtain⟨k,hk,rfl⟩:=h
  exact .Aq k rfl hk
theorem OW {p:Proj} {s:aL} {k:Nat} {a:aJ} {t m:Int} {q:Nat} {mo:Mode} (g:EG p s k a t m q mo) {r:Int} (hr:jh p r=true):
  ∃(ρ:Nat) (u:Int),r=ρ∧mo.con[ρ]? =some u∧(0≤u∧u≤20)∧Gc p s r k=u:=by
 have hm:=jc g.aok (List.mem_of_getElem? g.moE)
 have hw:=within_iff.1 hr
 have e2:mo.con[r.toNat]? =some (mo.con[r.toNat]'(by omega)):=by simp
 refine⟨r.toNat,_,by omega,e2,hm.2.2.2.1 _ (List.mem_of_getElem? e2),?_⟩
 rw [Gc,mP g,List.getD_eq_getElem?_getD,e2];rfl
theorem OX {p:Proj} {s:aL} (hf:aX p s=true) {r:Int} (hr:jh p r=true) {k:Nat} (hk:k < p.acts.length):0≤Gc p s r k∧Gc p s r k≤20:=by
 obtain⟨a,t,m,q,mo,g⟩:=yg hf hk
 obtain⟨ρ,u,_,_,hb,e⟩:=OW g hr
 rw [e];exact hb
theorem za (p:Proj) (s:aL) (r:Int) (hp:p.fine) (hf:aX p s=true) (hr:jh p r=true):Con 204 [.d p.av,.d s.av,.d (i64 r)] (.d (i64 (Gd p s r))):=by
 refine con Tryz.func204 rfl rfl Tryz.call204 rfl fun hwf=>?_
 simp only [ARs.wf,AR.wf,AV.wf,AV.wfs,lm,lim] at hwf
 (repeat' ((conv=>whnf);first|refine gA ?_|(refine gB ?_ ?_<;>intro h)|(refine gI ?_;intro x hx)|(refine gJ ?_;intro j x hj hx)|refine gV ?_|refine gC (jH p s hp) ?_|refine gC (xO p _) ?_|intro _))<;>try (conv=>whnf)
 refine aC [2,3,4,21] [3,4] [] ?_
 (conv=>whnf)
 refine aB.go ((Nat)×(Int)) (fun⟨k,n⟩=>(k≤p.acts.length)∧(n=sumTo (Gc p s r) k)) (fun⟨k,n⟩=>[(22,.data (i64 k)),(7,.data (i64 n))]) (fun _=>[]) (fun _=>[]) (fun⟨k,n⟩=>p.acts.length - k) ⟨0,0⟩ ?_ ?_
 ·exact⟨by omega,rfl⟩
 rintro⟨k,n⟩ ⟨hk,hn⟩
 by_cases hlt:k < p.acts.length
 ·obtain⟨a,u,m,q,mo,g⟩:=yg hf hlt
  obtain⟨ρ,v,e1,e2,e3,e4⟩:=OW g hr
  have hb:=nH (f:=Gc p s r) (c:=20) (n:=k) fun i hi=>OX hf hr (by omega)
  (repeat' ((conv=>whnf);first|(exfalso;omega)|with_reducible refine Idx.got e2 e1 ?_|refine gA ?_|(refine gB ?_ ?_<;>intro h)|(refine gI ?_;intro x hx)|(refine gJ ?_;intro j x hj hx)|refine gV ?_|refine gC (sH p s _ g rfl) ?_|intro _))<;>try (conv=>whnf)
  refine nx ⟨k+1,n+v⟩ ?_
  exact⟨by omega,by rw [sumTo,hn,e4]⟩
 ·(repeat' ((conv=>whnf);first|(exfalso;omega)|refine gA ?_|(refine gB ?_ ?_<;>intro h)|(refine gI ?_;intro x hx)|(refine gJ ?_;intro j x hj hx)|refine gV ?_|intro _))<;>try (conv=>whnf)
  refine⟨?_,rfl,trivial⟩
  rw [hn,show k=p.acts.length by omega];rfl
theorem Ii (p:Proj) (s:aL) (l:Link) (hf:aX p s=true) (hl:jB p l=true):Con 199 [.d p.av,.d s.av,.d l.av] (.d (.bool (!pO p s l))):=by
 refine con Tryz.func199 rfl rfl Tryz.call199 rfl fun hwf=>?_
 simp only [jB,Bool.and_eq_true] at hl
 obtain⟨k,_,e1,e2⟩:=kY hl.1.1.1
 obtain⟨k',_,e1',e2'⟩:=kY hl.1.1.2
 have YP:=within_iff.1 hl.2
 obtain⟨a,t,m,q,mo,g⟩:=yg hf (List.getElem?_eq_some_iff.1 e2).1
 obtain⟨a',t',m',q',mo',g'⟩:=yg hf (List.getElem?_eq_some_iff.1 e2').1
 have hd:=Ro g
 have h1:=g.tb
 have he:=Bo g
 (repeat' ((conv=>whnf);first|with_reducible refine Idx.got g.start e1 ?_|with_reducible refine Idx.got g'.start e1' ?_|refine gA ?_|(refine gB ?_ ?_<;>intro h)|(refine gI ?_;intro x hx)|(refine gJ ?_;intro j x hj hx)|refine gV ?_|refine gC (wo p s _ g e1) ?_|intro _))<;>try (conv=>whnf)
 all_goals
  refine⟨?_,rfl,trivial⟩
  simp only [AV.bool.injEq]
  rw [Bool.eq_iff_iff]
  simp [pO,e1,e1',List.getD_eq_getElem?_getD,g.start,g'.start, *]
theorem Ij (p:Proj) (s:aL) (r b c:Int) {k k':Nat} {ka ko:aJ} {t m t' m':Int} {q q':Nat} {mo mo':Mode} (g:EG p s k ka t m q mo) (e:b=k) (g':EG p s k' ko t' m' q' mo') (e':c=k') (hp:p.fine)
  (hf:aX p s=true) (hm:fM p r=true) (hb:bA p b=true) (hc:bA p c=true):Con 203 [.d p.av,.d s.av,.d (i64 r),.d (i64 b),.d (i64 c)] (.d (.bool (!rY p s r b c))):=by
 refine con Tryz.func203 rfl rfl Tryz.call203 rfl fun hwf=>?_
 have hok:=(gU hf).1
 obtain⟨re,ρ,i,j,row,v,hM⟩:=Gz hok hm g.act g'.act e e'
 obtain⟨re',ρ',i',j',row',v',hM'⟩:=Gz hok hm g'.act g.act e' e
 obtain⟨ρ1,u,f1,f2,f3,_⟩:=Bp g (tQ hm) 0
 obtain⟨ρ2,u',f1',f2',f3',_⟩:=Bp g' (tQ hm) 0
 have hd:=Ro g;have hd':=Ro g'
 have h1:=g.tb;have h1':=g'.tb
 have he:=Bo g;have he':=Bo g'
 have hv:=hM.vb;have hv':=hM'.vb
 have ep:rY p s r b c=(!decide (u=0)&& !decide (u'=0)&& !decide (lV p s k+v≤t')&& !decide (lV p s k'+v'≤t)):=by
  rw [rY,zZ,zZ,hM.eq,hM'.eq]
  subst e e' f1
  obtain rfl:ρ2=ρ1:=by omega
  simp [mP g,mP g',List.getD_eq_getElem?_getD,f2,f2',g.start,g'.start]
 rw [ep]
 (repeat' ((conv=>whnf);first|with_reducible refine Idx.got f2 f1 ?_|with_reducible refine Idx.got f2' f1' ?_|with_reducible refine Idx.got g.start e ?_|with_reducible refine Idx.got g'.start e' ?_|refine gA ?_|(refine gB ?_ ?_<;>intro h)|(refine gI ?_;intro x hx)|(refine gJ ?_;intro j x hj hx)|refine gV ?_|refine gC (sH p s _ g e) ?_|refine gC (sH p s _ g' e') ?_|refine gC (wo p s _ g e) ?_|refine gC (wo p s _ g' e') ?_|refine gC (pW p r b c g.act e g'.act e' hp hok hm hb hc hM) ?_|refine gC (pW p r c b g'.act e' g.act e hp hok hm hc hb hM') ?_|intro _))<;>try (conv=>whnf)
 all_goals
  refine⟨?_,rfl,trivial⟩
  clear he he' ep
  simp only [AV.bool.injEq]
  rw [Bool.eq_iff_iff]
  simp [*]
theorem Ik {p:Proj} {k:Nat} (h:k < p.acts.length):bA p k=true:=within_iff.2 (by omega)
theorem Qu {p:Proj} {k:Nat} (h:k < p.bM.length):eF p k=true:=within_iff.2 (by omega)
theorem Mr {p:Proj} {k:Nat} (h:k < p.bn.length):jh p k=true:=within_iff.2 (by omega)
theorem Il (p:Proj) (s:aL) (r:Rul) (hp:p.fine) (hf:aX p s=true) (hr:RIn p r):Con 167 [.d p.av,.d s.av,.d r.av] (.d (.bool (!breaks p s r))):=by
 refine con Tryz.func167 rfl rfl Tryz.call167 rfl fun hwf=>?_
 have hok:=(gU hf).1
 cases hr with
 |link k l h hl=>
  subst h
  have hkd:(kN k).kind=1:=rfl
  have hlo:=(eB hok).link k l hl
  (repeat' ((conv=>whnf);first|with_reducible refine Br.no (decide_eq_false (by omega)) ?_|with_reducible refine Br.yes (decide_eq_true (by omega)) ?_|with_reducible refine Idx.got hl rfl ?_|refine gA ?_|(refine gB ?_ ?_<;>intro h)|(refine gI ?_;intro x hx)|(refine gJ ?_;intro j x hj hx)|refine gC (Ii p s l hf hlo) ?_|intro _))<;>try (conv=>whnf)
  refine⟨?_,rfl,trivial⟩
  simp [breaks,kN,fO,List.getD_eq_getElem?_getD,hl]
 |fin k h hk=>
  subst h
  have hkd:(endRule k).kind=2:=rfl
  obtain⟨a,t,m,q,mo,g⟩:=yg hf hk
  (repeat' ((conv=>whnf);first|with_reducible refine Br.no (decide_eq_false (by omega)) ?_|with_reducible refine Br.yes (decide_eq_true (by omega)) ?_|refine gA ?_|(refine gB ?_ ?_<;>intro h)|(refine gI ?_;intro x hx)|(refine gJ ?_;intro j x hj hx)|refine gC (wo p s _ g rfl) ?_|intro _))<;>try (conv=>whnf)
  refine⟨?_,rfl,trivial⟩
  simp only [AV.bool.injEq]
  rw [Bool.eq_iff_iff]
  simp [breaks,endRule]
 |time ρ t h hρ ht=>
  subst h
  have hkd:(kP ρ t).kind=3:=rfl
  have hr:=Qu hρ
  obtain⟨x,hx⟩:∃x,p.bM[ρ]? =some x:=⟨p.bM[ρ]'hρ,by simp⟩
  (repeat' ((conv=>whnf);first|with_reducible refine Br.no (decide_eq_false (by omega)) ?_|with_reducible refine Br.yes (decide_eq_true (by omega)) ?_|with_reducible refine Idx.got hx rfl ?_|refine gA ?_|(refine gB ?_ ?_<;>intro h)|(refine gI ?_;intro x hx)|(refine gJ ?_;intro j x hj hx)|refine gC (Qt p s (ρ:Int) (t:Int) hf hr) ?_|refine gC (nY x.steps (t:Int)) ?_|intro _))<;>try (conv=>whnf)
  refine⟨?_,rfl,trivial⟩
  simp only [AV.bool.injEq]
  rw [Bool.eq_iff_iff]
  simp [breaks,kP,uE,List.getD_eq_getElem?_getD,hx]
 |pair ρ b c h hm hb hc=>
  subst h
  have hkd:(lY ρ b c).kind=5:=rfl
  obtain⟨a,t,m,q,mo,g⟩:=yg hf (show b < p.acts.length by omega)
  obtain⟨a',t',m',q',mo',g'⟩:=yg hf hc
  (repeat' ((conv=>whnf);first|with_reducible refine Br.no (decide_eq_false (by omega)) ?_|with_reducible refine Br.yes (decide_eq_true (by omega)) ?_|refine gA ?_|(refine gB ?_ ?_<;>intro h)|(refine gI ?_;intro x hx)|(refine gJ ?_;intro j x hj hx)|refine gC (Ij p s (ρ:Int) (b:Int) (c:Int) g rfl g' rfl hp hf hm (Ik (by omega)) (Ik hc)) ?_|intro _))<;>try (conv=>whnf)
  refine⟨?_,rfl,trivial⟩
  simp [breaks,lY]
 |Aq k h hkn=>
  subst h
  have hkd:(jq k).kind=6:=rfl
  obtain⟨x,hx⟩:∃x,p.bn[k]? =some x:=⟨p.bn[k]'hkn,by simp⟩
  (repeat' ((conv=>whnf);first|with_reducible refine Br.no (decide_eq_false (by omega)) ?_|with_reducible refine Br.yes (decide_eq_true (by omega)) ?_|with_reducible refine Idx.got hx rfl ?_|refine gA ?_|(refine gB ?_ ?_<;>intro h)|(refine gI ?_;intro x hx)|(refine gJ ?_;intro j x hj hx)|refine gC (za p s (k:Int) hp hf (Mr hkn)) ?_|intro _))<;>try (conv=>whnf)
  refine⟨?_,rfl,trivial⟩
  simp only [AV.bool.injEq]
  rw [Bool.eq_iff_iff]
  simp [breaks,jq,List.getD_eq_getElem?_getD,hx]
open Go.Proofs
theorem OY {p:Proj} (h:aK p=true):(aZ p).length≤1000:=by
 obtain⟨ha,hr,hs,hl⟩:=kZ h
 have key:∀{α:Type} (n c:Nat) (f:Nat→List α),(∀k,(f k).length≤c)→((List.range n).flatMap f).length≤n*c:=by
  intro α n c f hf
  induction n with
  |zero=>simp
  |succ n ih=>
   rw [List.range_succ,List.flatMap_append,List.length_append,Nat.succ_mul]
   have:=hf n
   simp only [List.flatMap_cons,List.flatMap_nil,List.append_nil]
   omega
 have h1:=key p.bM.length 61 lZ fun k=>by simp [lZ]
 have h2:=key p.bM.length 36 (fun r=>(List.range p.acts.length).flatMap (eO p r)) fun r=>by
  have:=key p.acts.length 6 (eO p r) fun b=>by unfold eO;split<;>simp;omega
  have h6:p.acts.length*6≤36:=by omega
  omega
 simp only [aZ,List.length_append,List.length_map,List.length_range]
 omega
theorem Bu {P:Rul→Bool} {l o:List Rul} {k:Nat} {x:Rul} (hi:o++(l.drop k).filter P=l.filter P) (hx:l[k]? =some x):
  (P x=true→(o++[x])++(l.drop (k+1)).filter P=l.filter P)∧(P x=false→o++(l.drop (k+1)).filter P=l.filter P):=by
 rw [au hx,List.filter_cons] at hi
 exact⟨fun h=>by rw [← hi,if_pos h];simp,fun h=>by rw [← hi,if_neg (by simp [h])]⟩
theorem ze (p:Proj) (s:aL) (hp:p.fine):Con 124 [.d p.av,.d s.av] (.d (.sl ((ny p s).map Rul.av))):=by
 refine con Tryz.func124 rfl rfl Tryz.call124 rfl fun hwf=>?_
 simp only [ARs.wf,AR.wf,AV.wf,AV.wfs,lm,lim] at hwf
 cases hf:aX p s with
 |false=>
  (repeat' ((conv=>whnf);first|refine gA ?_|(refine gB ?_ ?_<;>intro h)|(refine gI ?_;intro x hx)|(refine gJ ?_;intro j x hj hx)|refine gP ?_|refine gV ?_|refine gC (jH p s hp) ?_|intro _))<;>try (conv=>whnf)
  refine⟨?_,rfl,trivial⟩
  rw [ny,if_neg (by simp [hf])];rfl
 |true=>
  have hok:=(gU hf).1
  have hlen:=OY hok
  rw [ny,if_pos hf]
  (repeat' ((conv=>whnf);first|refine gA ?_|(refine gB ?_ ?_<;>intro h)|(refine gI ?_;intro x hx)|(refine gJ ?_;intro j x hj hx)|refine gP ?_|refine gV ?_|refine gC (jH p s hp) ?_|refine gC (Hl p hok) ?_|intro _))<;>try (conv=>whnf)
  refine aC [2,3,14,15] [2,3] [12] ?_
  (conv=>whnf)
  refine aB.go ((Nat)×(List Rul)) (fun⟨k,o⟩=>(k≤(aZ p).length)∧(o.length≤k)∧(o++((aZ p).drop k).filter (breaks p s)=(aZ p).filter (breaks p s))) (fun⟨k,o⟩=>[(16,.data (i64 k)),(5,.own 12 0)]) (fun _=>[]) (fun⟨k,o⟩=>[(12,35,o.map Rul.av,0)]) (fun⟨k,o⟩=>(aZ p).length - k) ⟨0,[]⟩ ?_ ?_
  ·exact⟨by omega,by simp,rfl⟩
  rintro⟨k,o⟩ ⟨hk,ho,hi⟩
  by_cases hlt:k < (aZ p).length
  ·obtain⟨x,hx⟩:∃x,(aZ p)[k]? =some x:=⟨(aZ p)[k]'hlt,by simp⟩
   (repeat' ((conv=>whnf);first|with_reducible refine Idx.got hx rfl ?_|(exfalso;omega)|refine gA ?_|(refine gB ?_ ?_<;>intro h)|(refine gI ?_;intro x hx)|(refine gJ ?_;intro j x hj hx)|refine gP ?_|refine gV ?_|refine gC (Il p s x hp hf (OV (List.mem_of_getElem? hx))) ?_|intro _))<;>try (conv=>whnf)
   ·refine nw ⟨k+1,o++[x]⟩ ?_ ?_
    ·(repeat' ((conv=>whnf)<;>(first|exact trivial|exact rfl|with_reducible refine And.intro ?_ ?_)))<;>((conv=>whnf)<;>(simp))
    exact⟨by omega,by simp;omega,(Bu hi hx).1 h⟩
   ·refine nx ⟨k+1,o⟩ ?_
    exact⟨by omega,by omega,(Bu hi hx).2 h⟩
  ·(repeat' ((conv=>whnf);first|(exfalso;omega)|refine gA ?_|(refine gB ?_ ?_<;>intro h)|(refine gI ?_;intro x hx)|(refine gJ ?_;intro j x hj hx)|refine gP ?_|refine gV ?_|intro _))<;>try (conv=>whnf)
   refine⟨?_,rfl,trivial⟩
   rw [← hi,vC hlt];simp
theorem EH (p:Proj) (s:aL) (hp:p.fine):Con 56 [.d p.av,.d s.av] (.d (.bool (dM p s))):=by
 refine con Tryz.func56 rfl rfl Tryz.call56 rfl fun hwf=>?_
 (repeat' ((conv=>whnf);first|refine gA ?_|(refine gB ?_ ?_<;>intro h)|refine gC (jH p s hp) ?_|refine gC (ze p s hp) ?_|intro _))<;>try (conv=>whnf)
 all_goals (refine⟨?_,rfl,trivial⟩;simp [dM, *])
end Go.Proofs.YtjfnojijdggfhaaGreat.Abs
