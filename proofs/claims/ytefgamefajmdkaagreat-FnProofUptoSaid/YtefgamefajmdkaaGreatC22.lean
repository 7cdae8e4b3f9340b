/- Contracts: schedules that keep all rules. -/
import Derived.Test.YtefgamefajmdkaaGreatSch
import Derived.Test.YtefgamefajmdkaaGreatC12
set_option linter.all false
set_option maxRecDepth 20000
set_option maxHeartbeats 0
namespace Go.Proofs.YtefgamefajmdkaaGreat.Abs
open Go.Proofs
inductive RIn (p:Proj) (r:Rul):Prop
 |link (k:Nat) (l:Link) (h:r=iZ k) (hl:p.links[k]? =some l)
 |fin (k:Nat) (h:r=endRule k) (hk:k < p.acts.length)
 |time (ρ t:Nat) (h:r=lZ ρ t) (hρ:ρ < p.bg.length) (ht:t < 61)
 |pair (ρ b c:Nat) (h:r=jG ρ b c) (hm:eT p ρ=true) (hb:b < c) (hc:c < p.acts.length)
 |Dx (k:Nat) (h:r=gF k) (hk:k < p.aX.length)
theorem Rf {p:Proj} {r:Rul} (h:r∈dY p):RIn p r:=by
 simp only [dY,List.mem_append,List.mem_map,List.mem_range,List.mem_flatMap,yZ,fE] at h
 rcases h with (((h|h)|h)|h)|h
 ·obtain⟨k,hk,rfl⟩:=h
  exact .link k _ rfl (List.getElem?_eq_getElem hk)
 ·obtain⟨k,hk,rfl⟩:=h
  exact .fin k rfl hk
 ·obtain⟨ρ,hρ,t,ht,rfl⟩:=h
  exact .time ρ t rfl hρ ht
 ·obtain⟨ρ,hρ,b,hb,h⟩:=h
  split at h
  ·rename_i hm
   simp only [List.mem_map,List.mem_range] at h
   obtain⟨j,hj,rfl⟩:=h
   exact .pair ρ b (b+1+j) rfl hm (by omega) (by omega)
  ·simp at h
 ·obtain⟨k,hk,rfl⟩:=h
  exact .Dx k rfl hk
theorem Rh {p:Proj} {s:aM} {k:Nat} {a:aG} {t m:Int} {q:Nat} {mo:Mode} (g:He p s k a t m q mo) {r:Int} (hr:iG p r=true):
  ∃(ρ:Nat) (u:Int),r=ρ∧mo.con[ρ]? =some u∧(0≤u∧u≤20)∧Jk p s r k=u:=by
 have hm:=jM g.aok (List.mem_of_getElem? g.moE)
 have hw:=within_iff.1 hr
 have e2:mo.con[r.toNat]? =some (mo.con[r.toNat]'(by omega)):=by simp
 refine⟨r.toNat,_,by omega,e2,hm.2.2.2.1 _ (List.mem_of_getElem? e2),?_⟩
 rw [Jk,oh g,List.getD_eq_getElem?_getD,e2];rfl
theorem Ri {p:Proj} {s:aM} (hf:bB p s=true) {r:Int} (hr:iG p r=true) {k:Nat} (hk:k < p.acts.length):0≤Jk p s r k∧Jk p s r k≤20:=by
 obtain⟨a,t,m,q,mo,g⟩:=Aj hf hk
 obtain⟨ρ,u,_,_,hb,e⟩:=Rh g hr
 rw [e];exact hb
theorem Bw (p:Proj) (s:aM) (r:Int) (hp:p.fine) (hf:bB p s=true) (hr:iG p r=true):Con 235 [.d p.av,.d s.av,.d (i64 r)] (.d (i64 (Jl p s r))):=by
 refine con Tryz.func235 rfl rfl Tryz.call235 rfl fun hwf=>?_
 simp only [ARs.wf,AR.wf,AV.wf,AV.wfs,lm,lim] at hwf
 (repeat' ((conv=>whnf);first|refine gA ?_|(refine gB ?_ ?_<;>intro h)|(refine gI ?_;intro x hx)|(refine gJ ?_;intro j x hj hx)|refine gV ?_|refine gC (kJ p s hp) ?_|refine gC (zR p _) ?_|intro _))<;>try (conv=>whnf)
 refine aB [2,3,4,21] [3,4] [] ?_
 (conv=>whnf)
 refine aA.go ((Nat)×(Int)) (fun⟨k,n⟩=>(k≤p.acts.length)∧(n=sumTo (Jk p s r) k)) (fun⟨k,n⟩=>[(22,.data (i64 k)),(7,.data (i64 n))]) (fun _=>[]) (fun _=>[]) (fun⟨k,n⟩=>p.acts.length - k) ⟨0,0⟩ ?_ ?_
 ·exact⟨by omega,rfl⟩
 rintro⟨k,n⟩ ⟨hk,hn⟩
 by_cases hlt:k < p.acts.length
 ·obtain⟨a,u,m,q,mo,g⟩:=Aj hf hlt
  obtain⟨ρ,v,e1,e2,e3,e4⟩:=Rh g hr
  have hb:=kR (f:=Jk p s r) (c:=20) (n:=k) fun i hi=>Ri hf hr (by omega)
  (repeat' ((conv=>whnf);first|(exfalso;omega)|with_reducible refine Idx.got e2 e1 ?_|refine gA ?_|(refine gB ?_ ?_<;>intro h)|(refine gI ?_;intro x hx)|(refine gJ ?_;intro j x hj hx)|refine gV ?_|refine gC (uM p s _ g rfl) ?_|intro _))<;>try (conv=>whnf)
  refine nx ⟨k+1,n+v⟩ ?_
  exact⟨by omega,by rw [sumTo,hn,e4]⟩
 ·(repeat' ((conv=>whnf);first|(exfalso;omega)|refine gA ?_|(refine gB ?_ ?_<;>intro h)|(refine gI ?_;intro x hx)|(refine gJ ?_;intro j x hj hx)|refine gV ?_|intro _))<;>try (conv=>whnf)
  refine⟨?_,rfl,trivial⟩
  rw [hn,show k=p.acts.length by omega];rfl
theorem Kg (p:Proj) (s:aM) (l:Link) (hf:bB p s=true) (hl:jK p l=true):Con 229 [.d p.av,.d s.av,.d l.av] (.d (.bool (!qU p s l))):=by
 refine con Tryz.func229 rfl rfl Tryz.call229 rfl fun hwf=>?_
 simp only [jK,Bool.and_eq_true] at hl
 obtain⟨k,_,e1,e2⟩:=jk hl.1.1.1
 obtain⟨k',_,e1',e2'⟩:=jk hl.1.1.2
 have aal:=within_iff.1 hl.2
 obtain⟨a,t,m,q,mo,g⟩:=Aj hf (List.getElem?_eq_some_iff.1 e2).1
 obtain⟨a',t',m',q',mo',g'⟩:=Aj hf (List.getElem?_eq_some_iff.1 e2').1
 have hd:=TW g
 have h1:=g.tb
 have he:=Eh g
 (repeat' ((conv=>whnf);first|with_reducible refine Idx.got g.start e1 ?_|with_reducible refine Idx.got g'.start e1' ?_|refine gA ?_|(refine gB ?_ ?_<;>intro h)|(refine gI ?_;intro x hx)|(refine gJ ?_;intro j x hj hx)|refine gV ?_|refine gC (yH p s _ g e1) ?_|intro _))<;>try (conv=>whnf)
 all_goals
  refine⟨?_,rfl,trivial⟩
  simp only [AV.bool.injEq]
  rw [Bool.eq_iff_iff]
  simp [qU,e1,e1',List.getD_eq_getElem?_getD,g.start,g'.start, *]
theorem Kh (p:Proj) (s:aM) (r b c:Int) {k k':Nat} {ka ko:aG} {t m t' m':Int} {q q':Nat} {mo mo':Mode} (g:He p s k ka t m q mo) (e:b=k) (g':He p s k' ko t' m' q' mo') (e':c=k') (hp:p.fine)
  (hf:bB p s=true) (hm:eT p r=true) (hb:aZ p b=true) (hc:aZ p c=true):Con 234 [.d p.av,.d s.av,.d (i64 r),.d (i64 b),.d (i64 c)] (.d (.bool (!uy p s r b c))):=by
 refine con Tryz.func234 rfl rfl Tryz.call234 rfl fun hwf=>?_
 have hok:=(iU hf).1
 obtain⟨re,ρ,i,j,row,v,hM⟩:=xU hok hm g.act g'.act e e'
 obtain⟨re',ρ',i',j',row',v',hM'⟩:=xU hok hm g'.act g.act e' e
 obtain⟨ρ1,u,f1,f2,f3,_⟩:=Ei g (vM hm) 0
 obtain⟨ρ2,u',f1',f2',f3',_⟩:=Ei g' (vM hm) 0
 have hd:=TW g;have hd':=TW g'
 have h1:=g.tb;have h1':=g'.tb
 have he:=Eh g;have he':=Eh g'
 have hv:=hM.vb;have hv':=hM'.vb
 have ep:uy p s r b c=(!decide (u=0)&& !decide (u'=0)&& !decide (nH p s k+v≤t')&& !decide (nH p s k'+v'≤t)):=by
  rw [uy,Df,Df,hM.eq,hM'.eq]
  subst e e' f1
  obtain rfl:ρ2=ρ1:=by omega
  simp [oh g,oh g',List.getD_eq_getElem?_getD,f2,f2',g.start,g'.start]
 rw [ep]
 (repeat' ((conv=>whnf);first|with_reducible refine Idx.got f2 f1 ?_|with_reducible refine Idx.got f2' f1' ?_|with_reducible refine Idx.got g.start e ?_|with_reducible refine Idx.got g'.start e' ?_|refine gA ?_|(refine gB ?_ ?_<;>intro h)|(refine gI ?_;intro x hx)|(refine gJ ?_;intro j x hj hx)|refine gV ?_|refine gC (uM p s _ g e) ?_|refine gC (uM p s _ g' e') ?_|refine gC (yH p s _ g e) ?_|refine gC (yH p s _ g' e') ?_|refine gC (rA p r b c g.act e g'.act e' hp hok hm hb hc hM) ?_|refine gC (rA p r c b g'.act e' g.act e hp hok hm hc hb hM') ?_|intro _))<;>try (conv=>whnf)
 all_goals
  refine⟨?_,rfl,trivial⟩
  clear he he' ep
  simp only [AV.bool.injEq]
  rw [Bool.eq_iff_iff]
  simp [*]
theorem Ki {p:Proj} {k:Nat} (h:k < p.acts.length):aZ p k=true:=within_iff.2 (by omega)
theorem SQ {p:Proj} {k:Nat} (h:k < p.bg.length):dP p k=true:=within_iff.2 (by omega)
theorem OG {p:Proj} {k:Nat} (h:k < p.aX.length):iG p k=true:=within_iff.2 (by omega)
theorem Kj (p:Proj) (s:aM) (r:Rul) (hp:p.fine) (hf:bB p s=true) (hr:RIn p r):Con 188 [.d p.av,.d s.av,.d r.av] (.d (.bool (!breaks p s r))):=by
 refine con Tryz.func188 rfl rfl Tryz.call188 rfl fun hwf=>?_
 have hok:=(iU hf).1
 cases hr with
 |link k l h hl=>
  subst h
  have hkd:(iZ k).kind=1:=rfl
  have hlo:=(dX hok).link k l hl
  (repeat' ((conv=>whnf);first|with_reducible refine Br.no (decide_eq_false (by omega)) ?_|with_reducible refine Br.yes (decide_eq_true (by omega)) ?_|with_reducible refine Idx.got hl rfl ?_|refine gA ?_|(refine gB ?_ ?_<;>intro h)|(refine gI ?_;intro x hx)|(refine gJ ?_;intro j x hj hx)|refine gC (Kg p s l hf hlo) ?_|intro _))<;>try (conv=>whnf)
  refine⟨?_,rfl,trivial⟩
  simp [breaks,iZ,gH,List.getD_eq_getElem?_getD,hl]
 |fin k h hk=>
  subst h
  have hkd:(endRule k).kind=2:=rfl
  obtain⟨a,t,m,q,mo,g⟩:=Aj hf hk
  (repeat' ((conv=>whnf);first|with_reducible refine Br.no (decide_eq_false (by omega)) ?_|with_reducible refine Br.yes (decide_eq_true (by omega)) ?_|refine gA ?_|(refine gB ?_ ?_<;>intro h)|(refine gI ?_;intro x hx)|(refine gJ ?_;intro j x hj hx)|refine gC (yH p s _ g rfl) ?_|intro _))<;>try (conv=>whnf)
  refine⟨?_,rfl,trivial⟩
  simp only [AV.bool.injEq]
  rw [Bool.eq_iff_iff]
  simp [breaks,endRule]
 |time ρ t h hρ ht=>
  subst h
  have hkd:(lZ ρ t).kind=3:=rfl
  have hr:=SQ hρ
  obtain⟨x,hx⟩:∃x,p.bg[ρ]? =some x:=⟨p.bg[ρ]'hρ,by simp⟩
  (repeat' ((conv=>whnf);first|with_reducible refine Br.no (decide_eq_false (by omega)) ?_|with_reducible refine Br.yes (decide_eq_true (by omega)) ?_|with_reducible refine Idx.got hx rfl ?_|refine gA ?_|(refine gB ?_ ?_<;>intro h)|(refine gI ?_;intro x hx)|(refine gJ ?_;intro j x hj hx)|refine gC (SN p s (ρ:Int) (t:Int) hf hr) ?_|refine gC (pQ x.steps (t:Int)) ?_|intro _))<;>try (conv=>whnf)
  refine⟨?_,rfl,trivial⟩
  simp only [AV.bool.injEq]
  rw [Bool.eq_iff_iff]
  simp [breaks,lZ,uw,List.getD_eq_getElem?_getD,hx]
 |pair ρ b c h hm hb hc=>
  subst h
  have hkd:(jG ρ b c).kind=5:=rfl
  obtain⟨a,t,m,q,mo,g⟩:=Aj hf (show b < p.acts.length by omega)
  obtain⟨a',t',m',q',mo',g'⟩:=Aj hf hc
  (repeat' ((conv=>whnf);first|with_reducible refine Br.no (decide_eq_false (by omega)) ?_|with_reducible refine Br.yes (decide_eq_true (by omega)) ?_|refine gA ?_|(refine gB ?_ ?_<;>intro h)|(refine gI ?_;intro x hx)|(refine gJ ?_;intro j x hj hx)|refine gC (Kh p s (ρ:Int) (b:Int) (c:Int) g rfl g' rfl hp hf hm (Ki (by omega)) (Ki hc)) ?_|intro _))<;>try (conv=>whnf)
  refine⟨?_,rfl,trivial⟩
  simp [breaks,jG]
 |Dx k h hkn=>
  subst h
  have hkd:(gF k).kind=6:=rfl
  obtain⟨x,hx⟩:∃x,p.aX[k]? =some x:=⟨p.aX[k]'hkn,by simp⟩
  (repeat' ((conv=>whnf);first|with_reducible refine Br.no (decide_eq_false (by omega)) ?_|with_reducible refine Br.yes (decide_eq_true (by omega)) ?_|with_reducible refine Idx.got hx rfl ?_|refine gA ?_|(refine gB ?_ ?_<;>intro h)|(refine gI ?_;intro x hx)|(refine gJ ?_;intro j x hj hx)|refine gC (Bw p s (k:Int) hp hf (OG hkn)) ?_|intro _))<;>try (conv=>whnf)
  refine⟨?_,rfl,trivial⟩
  simp only [AV.bool.injEq]
  rw [Bool.eq_iff_iff]
  simp [breaks,gF,List.getD_eq_getElem?_getD,hx]
open Go.Proofs
theorem Rj {p:Proj} (h:aF p=true):(dY p).length≤1000:=by
 obtain⟨ha,hr,hs,hl⟩:=nW h
 have key:∀{α:Type} (n c:Nat) (f:Nat→List α),(∀k,(f k).length≤c)→((List.range n).flatMap f).length≤n*c:=by
  intro α n c f hf
  induction n with
  |zero=>simp
  |succ n ih=>
   rw [List.range_succ,List.flatMap_append,List.length_append,Nat.succ_mul]
   have:=hf n
   simp only [List.flatMap_cons,List.flatMap_nil,List.append_nil]
   omega
 have h1:=key p.bg.length 61 yZ fun k=>by simp [yZ]
 have h2:=key p.bg.length 36 (fun r=>(List.range p.acts.length).flatMap (fE p r)) fun r=>by
  have:=key p.acts.length 6 (fE p r) fun b=>by unfold fE;split<;>simp;omega
  have h6:p.acts.length*6≤36:=by omega
  omega
 simp only [dY,List.length_append,List.length_map,List.length_range]
 omega
theorem Em {P:Rul→Bool} {l o:List Rul} {k:Nat} {x:Rul} (hi:o++(l.drop k).filter P=l.filter P) (hx:l[k]? =some x):
  (P x=true→(o++[x])++(l.drop (k+1)).filter P=l.filter P)∧(P x=false→o++(l.drop (k+1)).filter P=l.filter P):=by
 rw [au hx,List.filter_cons] at hi
 exact⟨fun h=>by rw [← hi,if_pos h];simp,fun h=>by rw [← hi,if_neg (by simp [h])]⟩
theorem Bz (p:Proj) (s:aM) (hp:p.fine):Con 127 [.d p.av,.d s.av] (.d (.sl ((oN p s).map Rul.av))):=by
 refine con Tryz.func127 rfl rfl Tryz.call127 rfl fun hwf=>?_
 simp only [ARs.wf,AR.wf,AV.wf,AV.wfs,lm,lim] at hwf
 cases hf:bB p s with
 |false=>
  (repeat' ((conv=>whnf);first|refine gA ?_|(refine gB ?_ ?_<;>intro h)|(refine gI ?_;intro x hx)|(refine gJ ?_;intro j x hj hx)|refine gP ?_|refine gV ?_|refine gC (kJ p s hp) ?_|intro _))<;>try (conv=>whnf)
  refine⟨?_,rfl,trivial⟩
  rw [oN,if_neg (by simp [hf])];rfl
 |true=>
  have hok:=(iU hf).1
  have hlen:=Rj hok
  rw [oN,if_pos hf]
  (repeat' ((conv=>whnf);first|refine gA ?_|(refine gB ?_ ?_<;>intro h)|(refine gI ?_;intro x hx)|(refine gJ ?_;intro j x hj hx)|refine gP ?_|refine gV ?_|refine gC (kJ p s hp) ?_|refine gC (SB p hok) ?_|intro _))<;>try (conv=>whnf)
  refine aB [2,3,14,15] [2,3] [12] ?_
  (conv=>whnf)
  refine aA.go ((Nat)×(List Rul)) (fun⟨k,o⟩=>(k≤(dY p).length)∧(o.length≤k)∧(o++((dY p).drop k).filter (breaks p s)=(dY p).filter (breaks p s))) (fun⟨k,o⟩=>[(16,.data (i64 k)),(5,.own 12 0)]) (fun _=>[]) (fun⟨k,o⟩=>[(12,51,o.map Rul.av,0)]) (fun⟨k,o⟩=>(dY p).length - k) ⟨0,[]⟩ ?_ ?_
  ·exact⟨by omega,by simp,rfl⟩
  rintro⟨k,o⟩ ⟨hk,ho,hi⟩
  by_cases hlt:k < (dY p).length
  ·obtain⟨x,hx⟩:∃x,(dY p)[k]? =some x:=⟨(dY p)[k]'hlt,by simp⟩
   (repeat' ((conv=>whnf);first|with_reducible refine Idx.got hx rfl ?_|(exfalso;omega)|refine gA ?_|(refine gB ?_ ?_<;>intro h)|(refine gI ?_;intro x hx)|(refine gJ ?_;intro j x hj hx)|refine gP ?_|refine gV ?_|refine gC (Kj p s x hp hf (Rf (List.mem_of_getElem? hx))) ?_|intro _))<;>try (conv=>whnf)
   ·refine nw ⟨k+1,o++[x]⟩ ?_ ?_
    ·(repeat' ((conv=>whnf)<;>(first|exact trivial|exact rfl|with_reducible refine And.intro ?_ ?_)))<;>((conv=>whnf)<;>(simp))
    exact⟨by omega,by simp;omega,(Em hi hx).1 h⟩
   ·refine nx ⟨k+1,o⟩ ?_
    exact⟨by omega,by omega,(Em hi hx).2 h⟩
  ·(repeat' ((conv=>whnf);first|(exfalso;omega)|refine gA ?_|(refine gB ?_ ?_<;>intro h)|(refine gI ?_;intro x hx)|(refine gJ ?_;intro j x hj hx)|refine gP ?_|refine gV ?_|intro _))<;>try (conv=>whnf)
   refine⟨?_,rfl,trivial⟩
   rw [← hi,nu hlt];simp
theorem Hf (p:Proj) (s:aM) (hp:p.fine):Con 56 [.d p.av,.d s.av] (.d (.bool (dZ p s))):=by
 refine con Tryz.func56 rfl rfl Tryz.call56 rfl fun hwf=>?_
 (repeat' ((conv=>whnf);first|refine gA ?_|(refine gB ?_ ?_<;>intro h)|refine gC (kJ p s hp) ?_|refine gC (Bz p s hp) ?_|intro _))<;>try (conv=>whnf)
 all_goals (refine⟨?_,rfl,trivial⟩;simp [dZ, *])
end Go.Proofs.YtefgamefajmdkaaGreat.Abs
