/- Contracts: schedules that keep all rules. -/
import Derived.Test.YtmenphiahgkjkaaGreatDoorSch
import Derived.Test.YtmenphiahgkjkaaGreatDoorC12
set_option linter.all false
set_option maxRecDepth 20000
set_option maxHeartbeats 0
namespace Go.Proofs.YtmenphiahgkjkaaGreatDoor.Abs
open Go.Proofs
inductive RIn (p:Proj) (r:Rul):Prop
 |link (k:Nat) (l:Link) (h:r=kX k) (hl:p.links[k]? =some l)
 |fin (k:Nat) (h:r=endRule k) (hk:k < p.acts.length)
 |time (ρ t:Nat) (h:r=mX ρ t) (hρ:ρ < p.bB.length) (ht:t < 61)
 |pair (ρ b c:Nat) (h:r=mY ρ b c) (hm:iE p ρ=true) (hb:b < c) (hc:c < p.acts.length)
 |Ie (k:Nat) (h:r=jU k) (hk:k < p.aW.length)
theorem Ud {p:Proj} {r:Rul} (h:r∈bI p):RIn p r:=by
 simp only [bI,List.mem_append,List.mem_map,List.mem_range,List.mem_flatMap,oI,fU] at h
 rcases h with (((h|h)|h)|h)|h
 ·obtain⟨k,hk,rfl⟩:=h
  exact .link k _ rfl (List.getElem?_eq_getElem hk)
 ·obtain⟨k,hk,rfl⟩:=h
  exact .fin k rfl hk
 ·obtain⟨ρ,hρ,t,ht,rfl⟩:=h
  exact .time ρ t rfl hρ ht
 ·obtain⟨ρ,hρ,b,hb,h⟩:=h
  split at h
  ·rename_i hm
   simp only [List.mem_map,List.mem_range] at h
   obtain⟨j,hj,rfl⟩:=h
   exact .pair ρ b (b+1+j) rfl hm (by omega) (by omega)
  ·simp at h
 ·obtain⟨k,hk,rfl⟩:=h
  exact .Ie k rfl hk
theorem Ue {p:Proj} {s:aJ} {k:Nat} {a:aC} {t m:Int} {q:Nat} {mo:Mode} (g:Jj p s k a t m q mo) {r:Int} (hr:jS p r=true):
  ∃(ρ:Nat) (u:Int),r=ρ∧mo.con[ρ]? =some u∧(0≤u∧u≤20)∧KF p s r k=u:=by
 have hm:=kE g.aok (List.mem_of_getElem? g.moE)
 have hw:=within_iff.1 hr
 have e2:mo.con[r.toNat]? =some (mo.con[r.toNat]'(by omega)):=by simp
 refine⟨r.toNat,_,by omega,e2,hm.2.2.2.1 _ (List.mem_of_getElem? e2),?_⟩
 rw [KF,pX g,List.getD_eq_getElem?_getD,e2];rfl
theorem Uf {p:Proj} {s:aJ} (hf:bG p s=true) {r:Int} (hr:jS p r=true) {k:Nat} (hk:k < p.acts.length):0≤KF p s r k∧KF p s r k≤20:=by
 obtain⟨a,t,m,q,mo,g⟩:=Cj hf hk
 obtain⟨ρ,u,_,_,hb,e⟩:=Ue g hr
 rw [e];exact hb
theorem Dq (p:Proj) (s:aJ) (r:Int) (hp:p.fine) (hf:bG p s=true) (hr:jS p r=true):Con 118 [.d p.av,.d s.av,.d (i64 r)] (.d (i64 (KG p s r))):=by
 refine con Tryz.func118 rfl rfl Tryz.call118 rfl fun hwf=>?_
 simp only [ARs.wf,AR.wf,AV.wf,AV.wfs,lm,lim] at hwf
 (repeat' ((conv=>whnf);first|refine gA ?_|(refine gB ?_ ?_<;>intro h)|(refine gI ?_;intro x hx)|(refine gJ ?_;intro j x hj hx)|refine gV ?_|refine gC (kT p s hp) ?_|refine gC (BM p _) ?_|intro _))<;>try (conv=>whnf)
 refine aB [2,3,4,21] [3,4] [] ?_
 (conv=>whnf)
 refine aA.go ((Nat)×(Int)) (fun⟨k,n⟩=>(k≤p.acts.length)∧(n=sumTo (KF p s r) k)) (fun⟨k,n⟩=>[(22,.data (i64 k)),(7,.data (i64 n))]) (fun _=>[]) (fun _=>[]) (fun⟨k,n⟩=>p.acts.length - k) ⟨0,0⟩ ?_ ?_
 ·exact⟨by omega,rfl⟩
 rintro⟨k,n⟩ ⟨hk,hn⟩
 by_cases hlt:k < p.acts.length
 ·obtain⟨a,u,m,q,mo,g⟩:=Cj hf hlt
  obtain⟨ρ,v,e1,e2,e3,e4⟩:=Ue g hr
  have hb:=qG (f:=KF p s r) (c:=20) (n:=k) fun i hi=>Uf hf hr (by omega)
  (repeat' ((conv=>whnf);first|(exfalso;omega)|with_reducible refine Idx.got e2 e1 ?_|refine gA ?_|(refine gB ?_ ?_<;>intro h)|(refine gI ?_;intro x hx)|(refine gJ ?_;intro j x hj hx)|refine gV ?_|refine gC (wJ p s _ g rfl) ?_|intro _))<;>try (conv=>whnf)
  refine nx ⟨k+1,n+v⟩ ?_
  exact⟨by omega,by rw [sumTo,hn,e4]⟩
 ·(repeat' ((conv=>whnf);first|(exfalso;omega)|refine gA ?_|(refine gB ?_ ?_<;>intro h)|(refine gI ?_;intro x hx)|(refine gJ ?_;intro j x hj hx)|refine gV ?_|intro _))<;>try (conv=>whnf)
  refine⟨?_,rfl,trivial⟩
  rw [hn,show k=p.acts.length by omega];rfl
theorem Mc (p:Proj) (s:aJ) (l:Link) (hf:bG p s=true) (hl:qX p l=true):Con 111 [.d p.av,.d s.av,.d l.av] (.d (.bool (!tC p s l))):=by
 refine con Tryz.func111 rfl rfl Tryz.call111 rfl fun hwf=>?_
 simp only [qX,Bool.and_eq_true] at hl
 obtain⟨k,_,e1,e2⟩:=nJ hl.1.1.1
 obtain⟨k',_,e1',e2'⟩:=nJ hl.1.1.2
 have aef:=within_iff.1 hl.2
 obtain⟨a,t,m,q,mo,g⟩:=Cj hf (List.getElem?_eq_some_iff.1 e2).1
 obtain⟨a',t',m',q',mo',g'⟩:=Cj hf (List.getElem?_eq_some_iff.1 e2').1
 have hd:=WV g
 have h1:=g.tb
 have he:=Fw g
 (repeat' ((conv=>whnf);first|with_reducible refine Idx.got g.start e1 ?_|with_reducible refine Idx.got g'.start e1' ?_|refine gA ?_|(refine gB ?_ ?_<;>intro h)|(refine gI ?_;intro x hx)|(refine gJ ?_;intro j x hj hx)|refine gV ?_|refine gC (Af p s _ g e1) ?_|intro _))<;>try (conv=>whnf)
 all_goals
  refine⟨?_,rfl,trivial⟩
  simp only [AV.bool.injEq]
  rw [Bool.eq_iff_iff]
  simp [tC,e1,e1',List.getD_eq_getElem?_getD,g.start,g'.start, *]
theorem Md (p:Proj) (s:aJ) (r b c:Int) {k k':Nat} {ka ko:aC} {t m t' m':Int} {q q':Nat} {mo mo':Mode} (g:Jj p s k ka t m q mo) (e:b=k) (g':Jj p s k' ko t' m' q' mo') (e':c=k') (hp:p.fine)
  (hf:bG p s=true) (hm:iE p r=true) (hb:bJ p b=true) (hc:bJ p c=true):Con 117 [.d p.av,.d s.av,.d (i64 r),.d (i64 b),.d (i64 c)] (.d (.bool (!wu p s r b c))):=by
 refine con Tryz.func117 rfl rfl Tryz.call117 rfl fun hwf=>?_
 have hok:=(jk hf).1
 obtain⟨re,ρ,i,j,row,v,hM⟩:=KV hok hm g.act g'.act e e'
 obtain⟨re',ρ',i',j',row',v',hM'⟩:=KV hok hm g'.act g.act e' e
 obtain⟨ρ1,u,f1,f2,f3,_⟩:=Fx g (xL hm) 0
 obtain⟨ρ2,u',f1',f2',f3',_⟩:=Fx g' (xL hm) 0
 have hd:=WV g;have hd':=WV g'
 have h1:=g.tb;have h1':=g'.tb
 have he:=Fw g;have he':=Fw g'
 have hv:=hM.vb;have hv':=hM'.vb
 have ep:wu p s r b c=(!decide (u=0)&& !decide (u'=0)&& !decide (oH p s k+v≤t')&& !decide (oH p s k'+v'≤t)):=by
  rw [wu,Et,Et,hM.eq,hM'.eq]
  subst e e' f1
  obtain rfl:ρ2=ρ1:=by omega
  simp [pX g,pX g',List.getD_eq_getElem?_getD,f2,f2',g.start,g'.start]
 rw [ep]
 (repeat' ((conv=>whnf);first|with_reducible refine Idx.got f2 f1 ?_|with_reducible refine Idx.got f2' f1' ?_|with_reducible refine Idx.got g.start e ?_|with_reducible refine Idx.got g'.start e' ?_|refine gA ?_|(refine gB ?_ ?_<;>intro h)|(refine gI ?_;intro x hx)|(refine gJ ?_;intro j x hj hx)|refine gV ?_|refine gC (wJ p s _ g e) ?_|refine gC (wJ p s _ g' e') ?_|refine gC (Af p s _ g e) ?_|refine gC (Af p s _ g' e') ?_|refine gC (tJ p r b c g.act e g'.act e' hp hok hm hb hc hM) ?_|refine gC (tJ p r c b g'.act e' g.act e hp hok hm hc hb hM') ?_|intro _))<;>try (conv=>whnf)
 all_goals
  refine⟨?_,rfl,trivial⟩
  clear he he' ep
  simp only [AV.bool.injEq]
  rw [Bool.eq_iff_iff]
  simp [*]
theorem Me {p:Proj} {k:Nat} (h:k < p.acts.length):bJ p k=true:=within_iff.2 (by omega)
theorem VL {p:Proj} {k:Nat} (h:k < p.bB.length):fT p k=true:=within_iff.2 (by omega)
theorem Rc {p:Proj} {k:Nat} (h:k < p.aW.length):jS p k=true:=within_iff.2 (by omega)
theorem Mf (p:Proj) (s:aJ) (r:Rul) (hp:p.fine) (hf:bG p s=true) (hr:RIn p r):Con 84 [.d p.av,.d s.av,.d r.av] (.d (.bool (!breaks p s r))):=by
 refine con Tryz.func84 rfl rfl Tryz.call84 rfl fun hwf=>?_
 have hok:=(jk hf).1
 cases hr with
 |link k l h hl=>
  subst h
  have hkd:(kX k).kind=1:=rfl
  have hlo:=(fG hok).link k l hl
  (repeat' ((conv=>whnf);first|with_reducible refine Br.no (decide_eq_false (by omega)) ?_|with_reducible refine Br.yes (decide_eq_true (by omega)) ?_|with_reducible refine Idx.got hl rfl ?_|refine gA ?_|(refine gB ?_ ?_<;>intro h)|(refine gI ?_;intro x hx)|(refine gJ ?_;intro j x hj hx)|refine gC (Mc p s l hf hlo) ?_|intro _))<;>try (conv=>whnf)
  refine⟨?_,rfl,trivial⟩
  simp [breaks,kX,iF,List.getD_eq_getElem?_getD,hl]
 |fin k h hk=>
  subst h
  have hkd:(endRule k).kind=2:=rfl
  obtain⟨a,t,m,q,mo,g⟩:=Cj hf hk
  (repeat' ((conv=>whnf);first|with_reducible refine Br.no (decide_eq_false (by omega)) ?_|with_reducible refine Br.yes (decide_eq_true (by omega)) ?_|refine gA ?_|(refine gB ?_ ?_<;>intro h)|(refine gI ?_;intro x hx)|(refine gJ ?_;intro j x hj hx)|refine gC (Af p s _ g rfl) ?_|intro _))<;>try (conv=>whnf)
  refine⟨?_,rfl,trivial⟩
  simp only [AV.bool.injEq]
  rw [Bool.eq_iff_iff]
  simp [breaks,endRule]
 |time ρ t h hρ ht=>
  subst h
  have hkd:(mX ρ t).kind=3:=rfl
  have hr:=VL hρ
  obtain⟨x,hx⟩:∃x,p.bB[ρ]? =some x:=⟨p.bB[ρ]'hρ,by simp⟩
  (repeat' ((conv=>whnf);first|with_reducible refine Br.no (decide_eq_false (by omega)) ?_|with_reducible refine Br.yes (decide_eq_true (by omega)) ?_|with_reducible refine Idx.got hx rfl ?_|refine gA ?_|(refine gB ?_ ?_<;>intro h)|(refine gI ?_;intro x hx)|(refine gJ ?_;intro j x hj hx)|refine gC (VK p s (ρ:Int) (t:Int) hf hr) ?_|refine gC (ru x.steps (t:Int)) ?_|intro _))<;>try (conv=>whnf)
  refine⟨?_,rfl,trivial⟩
  simp only [AV.bool.injEq]
  rw [Bool.eq_iff_iff]
  simp [breaks,mX,yE,List.getD_eq_getElem?_getD,hx]
 |pair ρ b c h hm hb hc=>
  subst h
  have hkd:(mY ρ b c).kind=5:=rfl
  obtain⟨a,t,m,q,mo,g⟩:=Cj hf (show b < p.acts.length by omega)
  obtain⟨a',t',m',q',mo',g'⟩:=Cj hf hc
  (repeat' ((conv=>whnf);first|with_reducible refine Br.no (decide_eq_false (by omega)) ?_|with_reducible refine Br.yes (decide_eq_true (by omega)) ?_|refine gA ?_|(refine gB ?_ ?_<;>intro h)|(refine gI ?_;intro x hx)|(refine gJ ?_;intro j x hj hx)|refine gC (Md p s (ρ:Int) (b:Int) (c:Int) g rfl g' rfl hp hf hm (Me (by omega)) (Me hc)) ?_|intro _))<;>try (conv=>whnf)
  refine⟨?_,rfl,trivial⟩
  simp [breaks,mY]
 |Ie k h hkn=>
  subst h
  have hkd:(jU k).kind=6:=rfl
  obtain⟨x,hx⟩:∃x,p.aW[k]? =some x:=⟨p.aW[k]'hkn,by simp⟩
  (repeat' ((conv=>whnf);first|with_reducible refine Br.no (decide_eq_false (by omega)) ?_|with_reducible refine Br.yes (decide_eq_true (by omega)) ?_|with_reducible refine Idx.got hx rfl ?_|refine gA ?_|(refine gB ?_ ?_<;>intro h)|(refine gI ?_;intro x hx)|(refine gJ ?_;intro j x hj hx)|refine gC (Dq p s (k:Int) hp hf (Rc hkn)) ?_|intro _))<;>try (conv=>whnf)
  refine⟨?_,rfl,trivial⟩
  simp only [AV.bool.injEq]
  rw [Bool.eq_iff_iff]
  simp [breaks,jU,List.getD_eq_getElem?_getD,hx]
open Go.Proofs
theorem Ug {p:Proj} (h:aL p=true):(bI p).length≤1000:=by
 obtain⟨ha,hr,hs,hl⟩:=nM h
 have key:∀{α:Type} (n c:Nat) (f:Nat→List α),(∀k,(f k).length≤c)→((List.range n).flatMap f).length≤n*c:=by
  intro α n c f hf
  induction n with
  |zero=>simp
  |succ n ih=>
   rw [List.range_succ,List.flatMap_append,List.length_append,Nat.succ_mul]
   have:=hf n
   simp only [List.flatMap_cons,List.flatMap_nil,List.append_nil]
   omega
 have h1:=key p.bB.length 61 oI fun k=>by simp [oI]
 have h2:=key p.bB.length 36 (fun r=>(List.range p.acts.length).flatMap (fU p r)) fun r=>by
  have:=key p.acts.length 6 (fU p r) fun b=>by unfold fU;split<;>simp;omega
  have h6:p.acts.length*6≤36:=by omega
  omega
 simp only [bI,List.length_append,List.length_map,List.length_range]
 omega
theorem FC {P:Rul→Bool} {l o:List Rul} {k:Nat} {x:Rul} (hi:o++(l.drop k).filter P=l.filter P) (hx:l[k]? =some x):
  (P x=true→(o++[x])++(l.drop (k+1)).filter P=l.filter P)∧(P x=false→o++(l.drop (k+1)).filter P=l.filter P):=by
 rw [aF hx,List.filter_cons] at hi
 exact⟨fun h=>by rw [← hi,if_pos h];simp,fun h=>by rw [← hi,if_neg (by simp [h])]⟩
theorem Dr (p:Proj) (s:aJ) (hp:p.fine):Con 37 [.d p.av,.d s.av] (.d (.sl ((qE p s).map Rul.av))):=by
 refine con Tryz.func37 rfl rfl Tryz.call37 rfl fun hwf=>?_
 simp only [ARs.wf,AR.wf,AV.wf,AV.wfs,lm,lim] at hwf
 cases hf:bG p s with
 |false=>
  (repeat' ((conv=>whnf);first|refine gA ?_|(refine gB ?_ ?_<;>intro h)|(refine gI ?_;intro x hx)|(refine gJ ?_;intro j x hj hx)|refine gP ?_|refine gV ?_|refine gC (kT p s hp) ?_|intro _))<;>try (conv=>whnf)
  refine⟨?_,rfl,trivial⟩
  rw [qE,if_neg (by simp [hf])];rfl
 |true=>
  have hok:=(jk hf).1
  have hlen:=Ug hok
  rw [qE,if_pos hf]
  (repeat' ((conv=>whnf);first|refine gA ?_|(refine gB ?_ ?_<;>intro h)|(refine gI ?_;intro x hx)|(refine gJ ?_;intro j x hj hx)|refine gP ?_|refine gV ?_|refine gC (kT p s hp) ?_|refine gC (LC p hok) ?_|intro _))<;>try (conv=>whnf)
  refine aB [2,3,14,15] [2,3] [12] ?_
  (conv=>whnf)
  refine aA.go ((Nat)×(List Rul)) (fun⟨k,o⟩=>(k≤(bI p).length)∧(o.length≤k)∧(o++((bI p).drop k).filter (breaks p s)=(bI p).filter (breaks p s))) (fun⟨k,o⟩=>[(16,.data (i64 k)),(5,.own 12 0)]) (fun _=>[]) (fun⟨k,o⟩=>[(12,73,o.map Rul.av,0)]) (fun⟨k,o⟩=>(bI p).length - k) ⟨0,[]⟩ ?_ ?_
  ·exact⟨by omega,by simp,rfl⟩
  rintro⟨k,o⟩ ⟨hk,ho,hi⟩
  by_cases hlt:k < (bI p).length
  ·obtain⟨x,hx⟩:∃x,(bI p)[k]? =some x:=⟨(bI p)[k]'hlt,by simp⟩
   (repeat' ((conv=>whnf);first|with_reducible refine Idx.got hx rfl ?_|(exfalso;omega)|refine gA ?_|(refine gB ?_ ?_<;>intro h)|(refine gI ?_;intro x hx)|(refine gJ ?_;intro j x hj hx)|refine gP ?_|refine gV ?_|refine gC (Mf p s x hp hf (Ud (List.mem_of_getElem? hx))) ?_|intro _))<;>try (conv=>whnf)
   ·refine nw ⟨k+1,o++[x]⟩ ?_ ?_
    ·(repeat' ((conv=>whnf)<;>(first|exact trivial|exact rfl|with_reducible refine And.intro ?_ ?_)))<;>((conv=>whnf)<;>(simp))
    exact⟨by omega,by simp;omega,(FC hi hx).1 h⟩
   ·refine nx ⟨k+1,o⟩ ?_
    exact⟨by omega,by omega,(FC hi hx).2 h⟩
  ·(repeat' ((conv=>whnf);first|(exfalso;omega)|refine gA ?_|(refine gB ?_ ?_<;>intro h)|(refine gI ?_;intro x hx)|(refine gJ ?_;intro j x hj hx)|refine gP ?_|refine gV ?_|intro _))<;>try (conv=>whnf)
   refine⟨?_,rfl,trivial⟩
   rw [← hi,sW hlt];simp
theorem jm (p:Proj) (s:aJ) (hp:p.fine):Con 11 [.d p.av,.d s.av] (.d (.bool (bg p s))):=by
 refine con Tryz.func11 rfl rfl Tryz.call11 rfl fun hwf=>?_
 (repeat' ((conv=>whnf);first|refine gA ?_|(refine gB ?_ ?_<;>intro h)|refine gC (kT p s hp) ?_|refine gC (Dr p s hp) ?_|intro _))<;>try (conv=>whnf)
 all_goals (refine⟨?_,rfl,trivial⟩;simp [bg, *])
end Go.Proofs.YtmenphiahgkjkaaGreatDoor.Abs
