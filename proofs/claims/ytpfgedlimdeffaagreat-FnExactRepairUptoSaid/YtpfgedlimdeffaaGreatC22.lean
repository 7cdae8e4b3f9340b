/- Contracts: schedules that keep all rules. -/
import Derived.Test.YtpfgedlimdeffaaGreatSch
import Derived.Test.YtpfgedlimdeffaaGreatC12
set_option linter.all false
set_option maxRecDepth 20000
set_option maxHeartbeats 0
namespace Go.Proofs.YtpfgedlimdeffaaGreat.Abs
open Go.Proofs
inductive RIn (p:Proj) (r:Rul):Prop
 |link (k:Nat) (l:Link) (h:r=fV k) (hl:p.links[k]? =some l)
 |fin (k:Nat) (h:r=endRule k) (hk:k < p.acts.length)
 |time (ρ t:Nat) (h:r=ji ρ t) (hρ:ρ < p.aU.length) (ht:t < 61)
 |pair (ρ b c:Nat) (h:r=iR ρ b c) (hm:fC p ρ=true) (hb:b < c) (hc:c < p.acts.length)
 |MZ (k:Nat) (h:r=gT k) (hk:k < p.aL.length)
theorem CK {p:Proj} {r:Rul} (h:r∈fu p):RIn p r:=by
 simp only [fu,List.mem_append,List.mem_map,List.mem_range,List.mem_flatMap,qV,jY] at h
 rcases h with (((h|h)|h)|h)|h
 ·obtain⟨k,hk,rfl⟩:=h
  exact .link k _ rfl (List.getElem?_eq_getElem hk)
 ·obtain⟨k,hk,rfl⟩:=h
  exact .fin k rfl hk
 ·obtain⟨ρ,hρ,t,ht,rfl⟩:=h
  exact .time ρ t rfl hρ ht
 ·obtain⟨ρ,hρ,b,hb,h⟩:=h
  split at h
  ·rename_i hm
   simp only [List.mem_map,List.mem_range] at h
   obtain⟨j,hj,rfl⟩:=h
   exact .pair ρ b (b+1+j) rfl hm (by omega) (by omega)
  ·simp at h
 ·obtain⟨k,hk,rfl⟩:=h
  exact .MZ k rfl hk
theorem vS {p:Proj} {s:aA} {k:Nat} {a:au} {t m:Int} {q:Nat} {mo:Mode} (g:vR p s k a t m q mo) {r:Int} (hr:lT p r=true):
  ∃(ρ:Nat) (u:Int),r=ρ∧mo.con[ρ]? =some u∧(0≤u∧u≤20)∧zO p s r k=u:=by
 have hm:=qp g.aok (List.mem_of_getElem? g.moE)
 have hw:=within_iff.1 hr
 have e2:mo.con[r.toNat]? =some (mo.con[r.toNat]'(by omega)):=by simp
 refine⟨r.toNat,_,by omega,e2,hm.2.2.2.1 _ (List.mem_of_getElem? e2),?_⟩
 rw [zO,dQ g,List.getD_eq_getElem?_getD,e2];rfl
theorem CO {p:Proj} {s:aA} (hf:aK p s=true) {r:Int} (hr:lT p r=true) {k:Nat} (hk:k < p.acts.length):0≤zO p s r k∧zO p s r k≤20:=by
 obtain⟨a,t,m,q,mo,g⟩:=iB hf hk
 obtain⟨ρ,u,_,_,hb,e⟩:=vS g hr
 rw [e];exact hb
theorem yB (p:Proj) (s:aA) (r:Int) (hp:p.fine) (hf:aK p s=true) (hr:lT p r=true):Con 164 [.d p.av,.d s.av,.d (i64 r)] (.d (i64 (EU p s r))):=by
 refine con Tryz.func164 rfl rfl Tryz.call164 rfl fun hwf=>?_
 simp only [ARs.wf,AR.wf,AV.wf,AV.wfs,lm,lim] at hwf
 (repeat' ((conv=>whnf);first|refine gA ?_|(refine gB ?_ ?_<;>intro h)|(refine gI ?_;intro x hx)|(refine gJ ?_;intro j x hj hx)|refine gV ?_|refine gC (iC p s hp) ?_|refine gC (GK p _) ?_|intro _))<;>try (conv=>whnf)
 refine aG [2,3,4,21] [3,4] [] ?_
 (conv=>whnf)
 refine aC.go ((Nat)×(Int)) (fun⟨k,n⟩=>(k≤p.acts.length)∧(n=sumTo (zO p s r) k)) (fun⟨k,n⟩=>[(22,.data (i64 k)),(7,.data (i64 n))]) (fun _=>[]) (fun _=>[]) (fun⟨k,n⟩=>p.acts.length - k) ⟨0,0⟩ ?_ ?_
 ·exact⟨by omega,rfl⟩
 rintro⟨k,n⟩ ⟨hk,hn⟩
 by_cases hlt:k < p.acts.length
 ·obtain⟨a,u,m,q,mo,g⟩:=iB hf hlt
  obtain⟨ρ,v,e1,e2,e3,e4⟩:=vS g hr
  have hb:=qX (f:=zO p s r) (c:=20) (n:=k) fun i hi=>CO hf hr (by omega)
  (repeat' ((conv=>whnf);first|(exfalso;omega)|with_reducible refine Idx.got e2 e1 ?_|refine gA ?_|(refine gB ?_ ?_<;>intro h)|(refine gI ?_;intro x hx)|(refine gJ ?_;intro j x hj hx)|refine gV ?_|refine gC (lu p s _ g rfl) ?_|intro _))<;>try (conv=>whnf)
  refine nx ⟨k+1,n+v⟩ ?_
  exact⟨by omega,by rw [sumTo,hn,e4]⟩
 ·(repeat' ((conv=>whnf);first|(exfalso;omega)|refine gA ?_|(refine gB ?_ ?_<;>intro h)|(refine gI ?_;intro x hx)|(refine gJ ?_;intro j x hj hx)|refine gV ?_|intro _))<;>try (conv=>whnf)
  refine⟨?_,rfl,trivial⟩
  rw [hn,show k=p.acts.length by omega];rfl
theorem yC (p:Proj) (s:aA) (r:Int) (hp:p.fine) (hf:aK p s=true) (hr:lT p r=true):Con 143 [.d p.av,.d s.av,.d (i64 r)] (.d (i64 (EU p s r))):=by
 refine con Tryz.func143 rfl rfl Tryz.call143 rfl fun hwf=>?_
 simp only [ARs.wf,AR.wf,AV.wf,AV.wfs,lm,lim] at hwf
 have hr':within r 0 (((p.aL.map i64).length:Int) - 1)=true:=by rw [List.length_map];exact hr
 (repeat' ((conv=>whnf);first|refine gA ?_|(refine gN ?_ ?_<;>intro h hw)|(refine gB ?_ ?_<;>intro h)|(refine gI ?_;intro x hx)|(refine gJ ?_;intro j x hj hx)|refine gV ?_|refine gC (iD p s hp) ?_|refine gC (dI _ _ _) ?_|intro _))<;>try (conv=>whnf)
 refine aG [2,3,4,24] [3,4] [] ?_
 (conv=>whnf)
 refine aC.go ((Nat)×(Int)) (fun⟨k,n⟩=>(k≤p.acts.length)∧(n=sumTo (zO p s r) k)) (fun⟨k,n⟩=>[(25,.data (i64 k)),(7,.data (i64 n))]) (fun _=>[]) (fun _=>[]) (fun⟨k,n⟩=>p.acts.length - k) ⟨0,0⟩ ?_ ?_
 ·exact⟨by omega,rfl⟩
 rintro⟨k,n⟩ ⟨hk,hn⟩
 by_cases hlt:k < p.acts.length
 ·obtain⟨a,u,m,q,mo,g⟩:=iB hf hlt
  obtain⟨ρ,v,e1,e2,e3,e4⟩:=vS g hr
  have hb:=qX (f:=zO p s r) (c:=20) (n:=k) fun i hi=>CO hf hr (by omega)
  (repeat' ((conv=>whnf);first|(exfalso;omega)|with_reducible refine Idx.got e2 e1 ?_|refine gA ?_|(refine gN ?_ ?_<;>intro h hw)|(refine gB ?_ ?_<;>intro h)|(refine gI ?_;intro x hx)|(refine gJ ?_;intro j x hj hx)|refine gV ?_|refine gC (fB p s _ g rfl) ?_|intro _))<;>try (conv=>whnf)
  refine nx ⟨k+1,n+v⟩ ?_
  exact⟨by omega,by rw [sumTo,hn,e4]⟩
 ·(repeat' ((conv=>whnf);first|(exfalso;omega)|refine gA ?_|(refine gN ?_ ?_<;>intro h hw)|(refine gB ?_ ?_<;>intro h)|(refine gI ?_;intro x hx)|(refine gJ ?_;intro j x hj hx)|refine gV ?_|intro _))<;>try (conv=>whnf)
  refine⟨?_,rfl,trivial⟩
  rw [hn,show k=p.acts.length by omega];rfl
theorem qB (p:Proj) (s:aA) (l:Link) (hf:aK p s=true) (hl:lU p l=true):Con 158 [.d p.av,.d s.av,.d l.av] (.d (.bool (!mR p s l))):=by
 refine con Tryz.func158 rfl rfl Tryz.call158 rfl fun hwf=>?_
 simp only [lU,Bool.and_eq_true] at hl
 obtain⟨k,_,e1,e2⟩:=iI hl.1.1.1
 obtain⟨k',_,e1',e2'⟩:=iI hl.1.1.2
 have ZV:=within_iff.1 hl.2
 obtain⟨a,t,m,q,mo,g⟩:=iB hf (List.getElem?_eq_some_iff.1 e2).1
 obtain⟨a',t',m',q',mo',g'⟩:=iB hf (List.getElem?_eq_some_iff.1 e2').1
 have hd:=zW g
 have h1:=g.tb
 have he:=kP g
 (repeat' ((conv=>whnf);first|with_reducible refine Idx.got g.start e1 ?_|with_reducible refine Idx.got g'.start e1' ?_|refine gA ?_|(refine gB ?_ ?_<;>intro h)|(refine gI ?_;intro x hx)|(refine gJ ?_;intro j x hj hx)|refine gV ?_|refine gC (mE p s _ g e1) ?_|intro _))<;>try (conv=>whnf)
 all_goals
  refine⟨?_,rfl,trivial⟩
  simp only [AV.bool.injEq]
  rw [Bool.eq_iff_iff]
  simp [mR,e1,e1',List.getD_eq_getElem?_getD,g.start,g'.start, *]
theorem vT (p:Proj) (s:aA) (r b c:Int) {k k':Nat} {ka ko:au} {t m t' m':Int} {q q':Nat} {mo mo':Mode} (g:vR p s k ka t m q mo) (e:b=k) (g':vR p s k' ko t' m' q' mo') (e':c=k') (hp:p.fine)
  (hf:aK p s=true) (hm:fC p r=true) (hb:bH p b=true) (hc:bH p c=true):Con 163 [.d p.av,.d s.av,.d (i64 r),.d (i64 b),.d (i64 c)] (.d (.bool (!dP p s r b c))):=by
 refine con Tryz.func163 rfl rfl Tryz.call163 rfl fun hwf=>?_
 have hok:=(aJ hf).1
 obtain⟨re,ρ,i,j,row,v,hM⟩:=Fh hok hm g.act g'.act e e'
 obtain⟨re',ρ',i',j',row',v',hM'⟩:=Fh hok hm g'.act g.act e' e
 obtain⟨ρ1,u,f1,f2,f3,_⟩:=jr g (mV hm) 0
 obtain⟨ρ2,u',f1',f2',f3',_⟩:=jr g' (mV hm) 0
 have hd:=zW g;have hd':=zW g'
 have h1:=g.tb;have h1':=g'.tb
 have he:=kP g;have he':=kP g'
 have hv:=hM.vb;have hv':=hM'.vb
 have ep:dP p s r b c=(!decide (u=0)&& !decide (u'=0)&& !decide (sJ p s k+v≤t')&& !decide (sJ p s k'+v'≤t)):=by
  rw [dP,jZ,jZ,hM.eq,hM'.eq]
  subst e e' f1
  obtain rfl:ρ2=ρ1:=by omega
  simp [dQ g,dQ g',List.getD_eq_getElem?_getD,f2,f2',g.start,g'.start]
 rw [ep]
 (repeat' ((conv=>whnf);first|with_reducible refine Idx.got f2 f1 ?_|with_reducible refine Idx.got f2' f1' ?_|with_reducible refine Idx.got g.start e ?_|with_reducible refine Idx.got g'.start e' ?_|refine gA ?_|(refine gB ?_ ?_<;>intro h)|(refine gI ?_;intro x hx)|(refine gJ ?_;intro j x hj hx)|refine gV ?_|refine gC (lu p s _ g e) ?_|refine gC (lu p s _ g' e') ?_|refine gC (mE p s _ g e) ?_|refine gC (mE p s _ g' e') ?_|refine gC (vP p r b c g.act e g'.act e' hp hok hm hb hc hM) ?_|refine gC (vP p r c b g'.act e' g.act e hp hok hm hc hb hM') ?_|intro _))<;>try (conv=>whnf)
 all_goals
  refine⟨?_,rfl,trivial⟩
  clear he he' ep
  simp only [AV.bool.injEq]
  rw [Bool.eq_iff_iff]
  simp [*]
theorem qC {p:Proj} {k:Nat} (h:k < p.acts.length):bH p k=true:=within_iff.2 (by omega)
theorem uh {p:Proj} {k:Nat} (h:k < p.aU.length):gD p k=true:=within_iff.2 (by omega)
theorem oU {p:Proj} {k:Nat} (h:k < p.aL.length):lT p k=true:=within_iff.2 (by omega)
theorem Fy (p:Proj) (s:aA) (r:Rul) (hp:p.fine) (hf:aK p s=true) (hr:RIn p r):Con 125 [.d p.av,.d s.av,.d r.av] (.d (.bool (!breaks p s r))):=by
 refine con Tryz.func125 rfl rfl Tryz.call125 rfl fun hwf=>?_
 have hok:=(aJ hf).1
 cases hr with
 |link k l h hl=>
  subst h
  have hkd:(fV k).kind=1:=rfl
  have hlo:=(fE hok).link k l hl
  (repeat' ((conv=>whnf);first|with_reducible refine Br.no (decide_eq_false (by omega)) ?_|with_reducible refine Br.yes (decide_eq_true (by omega)) ?_|with_reducible refine Idx.got hl rfl ?_|refine gA ?_|(refine gB ?_ ?_<;>intro h)|(refine gI ?_;intro x hx)|(refine gJ ?_;intro j x hj hx)|refine gC (qB p s l hf hlo) ?_|intro _))<;>try (conv=>whnf)
  refine⟨?_,rfl,trivial⟩
  simp [breaks,fV,ET,List.getD_eq_getElem?_getD,hl]
 |fin k h hk=>
  subst h
  have hkd:(endRule k).kind=2:=rfl
  obtain⟨a,t,m,q,mo,g⟩:=iB hf hk
  (repeat' ((conv=>whnf);first|with_reducible refine Br.no (decide_eq_false (by omega)) ?_|with_reducible refine Br.yes (decide_eq_true (by omega)) ?_|refine gA ?_|(refine gB ?_ ?_<;>intro h)|(refine gI ?_;intro x hx)|(refine gJ ?_;intro j x hj hx)|refine gC (mE p s _ g rfl) ?_|intro _))<;>try (conv=>whnf)
  refine⟨?_,rfl,trivial⟩
  simp only [AV.bool.injEq]
  rw [Bool.eq_iff_iff]
  simp [breaks,endRule]
 |time ρ t h hρ ht=>
  subst h
  have hkd:(ji ρ t).kind=3:=rfl
  have hr:=uh hρ
  obtain⟨x,hx⟩:∃x,p.aU[ρ]? =some x:=⟨p.aU[ρ]'hρ,by simp⟩
  (repeat' ((conv=>whnf);first|with_reducible refine Br.no (decide_eq_false (by omega)) ?_|with_reducible refine Br.yes (decide_eq_true (by omega)) ?_|with_reducible refine Idx.got hx rfl ?_|refine gA ?_|(refine gB ?_ ?_<;>intro h)|(refine gI ?_;intro x hx)|(refine gJ ?_;intro j x hj hx)|refine gC (Pg p s (ρ:Int) (t:Int) hf hr) ?_|refine gC (ow x.steps (t:Int)) ?_|intro _))<;>try (conv=>whnf)
  refine⟨?_,rfl,trivial⟩
  simp only [AV.bool.injEq]
  rw [Bool.eq_iff_iff]
  simp [breaks,ji,uL,List.getD_eq_getElem?_getD,hx]
 |pair ρ b c h hm hb hc=>
  subst h
  have hkd:(iR ρ b c).kind=5:=rfl
  obtain⟨a,t,m,q,mo,g⟩:=iB hf (show b < p.acts.length by omega)
  obtain⟨a',t',m',q',mo',g'⟩:=iB hf hc
  (repeat' ((conv=>whnf);first|with_reducible refine Br.no (decide_eq_false (by omega)) ?_|with_reducible refine Br.yes (decide_eq_true (by omega)) ?_|refine gA ?_|(refine gB ?_ ?_<;>intro h)|(refine gI ?_;intro x hx)|(refine gJ ?_;intro j x hj hx)|refine gC (vT p s (ρ:Int) (b:Int) (c:Int) g rfl g' rfl hp hf hm (qC (by omega)) (qC hc)) ?_|intro _))<;>try (conv=>whnf)
  refine⟨?_,rfl,trivial⟩
  simp [breaks,iR]
 |MZ k h hkn=>
  subst h
  have hkd:(gT k).kind=6:=rfl
  obtain⟨x,hx⟩:∃x,p.aL[k]? =some x:=⟨p.aL[k]'hkn,by simp⟩
  (repeat' ((conv=>whnf);first|with_reducible refine Br.no (decide_eq_false (by omega)) ?_|with_reducible refine Br.yes (decide_eq_true (by omega)) ?_|with_reducible refine Idx.got hx rfl ?_|refine gA ?_|(refine gB ?_ ?_<;>intro h)|(refine gI ?_;intro x hx)|(refine gJ ?_;intro j x hj hx)|refine gC (yB p s (k:Int) hp hf (oU hkn)) ?_|intro _))<;>try (conv=>whnf)
  refine⟨?_,rfl,trivial⟩
  simp only [AV.bool.injEq]
  rw [Bool.eq_iff_iff]
  simp [breaks,gT,List.getD_eq_getElem?_getD,hx]
theorem nK (p:Proj) (s:aA) (r b c:Int) {k k':Nat} {ka ko:au} {t m t' m':Int} {q q':Nat} {mo mo':Mode} (g:vR p s k ka t m q mo) (e:b=k) (g':vR p s k' ko t' m' q' mo') (e':c=k')
  (hf:aK p s=true) (hm:fC p r=true):Con 178 [.d p.av,.d s.av,.d (i64 r),.d (i64 b),.d (i64 c)] (.d (.bool (jZ p s r b c))):=by
 refine con Tryz.func178 rfl rfl Tryz.call178 rfl fun hwf=>?_
 have hok:=(aJ hf).1
 obtain⟨re,ρ,i,j,row,v,hM⟩:=Fh hok hm g.act g'.act e e'
 have hd:=zW g
 have h1:=g.tb
 have he:=kP g
 have hv:=hM.vb
 have ea:jZ p s r b c=decide (sJ p s k+v≤t'):=by
  rw [jZ,hM.eq];subst e e';simp [List.getD_eq_getElem?_getD,g'.start]
 rw [ea]
 (repeat' ((conv=>whnf);first|with_reducible refine Idx.got hM.res hM.rρ ?_|with_reducible refine Idx.got g.act e ?_|with_reducible refine Idx.got g'.act e' ?_|with_reducible refine Idx.got hM.Yj hM.fi ?_|with_reducible refine Idx.got hM.Yk hM.fj ?_|with_reducible refine Idx.got g'.start e' ?_|refine gA ?_|(refine gB ?_ ?_<;>intro h)|(refine gI ?_;intro x hx)|(refine gJ ?_;intro j x hj hx)|refine gV ?_|refine gC (iE p s _ g e) ?_|intro _))<;>try (conv=>whnf)
 exact⟨rfl,rfl,trivial⟩
theorem KD (p:Proj) (s:aA) (ρ b c:Nat) (hf:aK p s=true) (hm:fC p ρ=true) (hb:b < c) (hc:c < p.acts.length):Con 142 [.d p.av,.d s.av,.d (iR ρ b c).av] (.d (.bool (dP p s ρ b c))):=by
 refine con Tryz.func142 rfl rfl Tryz.call142 rfl fun hwf=>?_
 obtain⟨a,t,m,q,mo,g⟩:=iB hf (show b < p.acts.length by omega)
 obtain⟨a',t',m',q',mo',g'⟩:=iB hf hc
 obtain⟨ρ1,u,f1,f2,f3,_⟩:=jr g (mV hm) 0
 obtain⟨ρ2,u',f1',f2',f3',_⟩:=jr g' (mV hm) 0
 have ep:dP p s ρ b c=(!decide (u=0)&& !decide (u'=0)&& !jZ p s ρ b c&& !jZ p s ρ c b):=by
  obtain rfl:ρ1=ρ:=by omega
  obtain rfl:ρ2=ρ1:=by omega
  rw [dP]
  simp [dQ g,dQ g',List.getD_eq_getElem?_getD,f2,f2']
 rw [ep]
 (repeat' ((conv=>whnf);first|refine Idx.got f2 f1 ?_|refine Idx.got f2' f1' ?_|refine gA ?_|(refine gB ?_ ?_<;>intro h)|(refine gI ?_;intro x hx)|(refine gJ ?_;intro j x hj hx)|refine gC (fB p s _ g rfl) ?_|refine gC (fB p s _ g' rfl) ?_|refine gC (nK p s (ρ:Int) (b:Int) (c:Int) g rfl g' rfl hf hm) ?_|refine gC (nK p s (ρ:Int) (c:Int) (b:Int) g' rfl g rfl hf hm) ?_|intro _))<;>try (conv=>whnf)
 all_goals (clear f1 f1' ep;refine⟨?_,rfl,trivial⟩;simp [*])
theorem xC (p:Proj) (s:aA) (r:Rul) (hp:p.fine) (hf:aK p s=true) (hr:RIn p r):Con 100 [.d p.av,.d s.av,.d r.av] (.d (.bool (breaks p s r))):=by
 refine con Tryz.func100 rfl rfl Tryz.call100 rfl fun hwf=>?_
 have hok:=(aJ hf).1
 cases hr with
 |link k l h hl=>
  subst h
  have hkd:(fV k).kind=1:=rfl
  have hlo:=(fE hok).link k l hl
  simp only [lU,Bool.and_eq_true] at hlo
  obtain⟨k1,_,e1,e2⟩:=iI hlo.1.1.1
  obtain⟨k',_,e1',e2'⟩:=iI hlo.1.1.2
  have ZV:=within_iff.1 hlo.2
  obtain⟨a,t,m,q,mo,g⟩:=iB hf (List.getElem?_eq_some_iff.1 e2).1
  obtain⟨a',t',m',q',mo',g'⟩:=iB hf (List.getElem?_eq_some_iff.1 e2').1
  have hd:=zW g
  have h1:=g.tb
  have he:=kP g
  (repeat' ((conv=>whnf);first|with_reducible refine Br.no (decide_eq_false (by omega)) ?_|with_reducible refine Br.yes (decide_eq_true (by omega)) ?_|with_reducible refine Idx.got hl rfl ?_|with_reducible refine Idx.got g.start e1 ?_|with_reducible refine Idx.got g'.start e1' ?_|refine gA ?_|(refine gB ?_ ?_<;>intro h)|(refine gI ?_;intro x hx)|(refine gJ ?_;intro j x hj hx)|refine gV ?_|refine gC (iE p s _ g e1) ?_|intro _))<;>try (conv=>whnf)
  all_goals
   clear he
   refine⟨?_,rfl,trivial⟩
   simp only [AV.bool.injEq]
   rw [Bool.eq_iff_iff]
   simp [breaks,mR,fV,ET,hl,e1,e1',List.getD_eq_getElem?_getD,g.start,g'.start, *]
 |fin k h hk=>
  subst h
  have hkd:(endRule k).kind=2:=rfl
  obtain⟨a,t,m,q,mo,g⟩:=iB hf hk
  (repeat' ((conv=>whnf);first|with_reducible refine Br.no (decide_eq_false (by omega)) ?_|with_reducible refine Br.yes (decide_eq_true (by omega)) ?_|refine gA ?_|(refine gB ?_ ?_<;>intro h)|(refine gI ?_;intro x hx)|(refine gJ ?_;intro j x hj hx)|refine gV ?_|refine gC (iE p s _ g rfl) ?_|intro _))<;>try (conv=>whnf)
  refine⟨?_,rfl,trivial⟩
  simp [breaks,endRule]
 |time ρ t h hρ ht=>
  subst h
  have hkd:(ji ρ t).kind=3:=rfl
  have hr:=uh hρ
  obtain⟨x,hx⟩:∃x,p.aU[ρ]? =some x:=⟨p.aU[ρ]'hρ,by simp⟩
  (repeat' ((conv=>whnf);first|with_reducible refine Br.no (decide_eq_false (by omega)) ?_|with_reducible refine Br.yes (decide_eq_true (by omega)) ?_|with_reducible refine Idx.got hx rfl ?_|refine gA ?_|(refine gB ?_ ?_<;>intro h)|(refine gI ?_;intro x hx)|(refine gJ ?_;intro j x hj hx)|refine gV ?_|refine gC (Np p s (ρ:Int) (t:Int) hf hr) ?_|refine gC (yw x.steps (t:Int)) ?_|intro _))<;>try (conv=>whnf)
  refine⟨?_,rfl,trivial⟩
  simp [breaks,ji,uL,List.getD_eq_getElem?_getD,hx]
 |pair ρ b c h hm hb hc=>
  subst h
  have hkd:(iR ρ b c).kind=5:=rfl
  (repeat' ((conv=>whnf);first|with_reducible refine Br.no (decide_eq_false (by omega)) ?_|with_reducible refine Br.yes (decide_eq_true (by omega)) ?_|refine gA ?_|(refine gB ?_ ?_<;>intro h)|(refine gI ?_;intro x hx)|(refine gJ ?_;intro j x hj hx)|refine gV ?_|refine gC (KD p s ρ b c hf hm hb hc) ?_|intro _))<;>try (conv=>whnf)
  refine⟨?_,rfl,trivial⟩
  simp [breaks,iR]
 |MZ k h hkn=>
  subst h
  have hkd:(gT k).kind=6:=rfl
  obtain⟨x,hx⟩:∃x,p.aL[k]? =some x:=⟨p.aL[k]'hkn,by simp⟩
  (repeat' ((conv=>whnf);first|with_reducible refine Br.no (decide_eq_false (by omega)) ?_|with_reducible refine Br.yes (decide_eq_true (by omega)) ?_|with_reducible refine Idx.got hx rfl ?_|refine gA ?_|(refine gB ?_ ?_<;>intro h)|(refine gI ?_;intro x hx)|(refine gJ ?_;intro j x hj hx)|refine gV ?_|refine gC (yC p s (k:Int) hp hf (oU hkn)) ?_|intro _))<;>try (conv=>whnf)
  refine⟨?_,rfl,trivial⟩
  simp [breaks,gT,List.getD_eq_getElem?_getD,hx]
open Go.Proofs
theorem CP {p:Proj} (h:aY p=true):(fu p).length≤1000:=by
 obtain⟨ha,hr,hs,hl⟩:=jf h
 have key:∀{α:Type} (n c:Nat) (f:Nat→List α),(∀k,(f k).length≤c)→((List.range n).flatMap f).length≤n*c:=by
  intro α n c f hf
  induction n with
  |zero=>simp
  |succ n ih=>
   rw [List.range_succ,List.flatMap_append,List.length_append,Nat.succ_mul]
   have:=hf n
   simp only [List.flatMap_cons,List.flatMap_nil,List.append_nil]
   omega
 have h1:=key p.aU.length 61 qV fun k=>by simp [qV]
 have h2:=key p.aU.length 36 (fun r=>(List.range p.acts.length).flatMap (jY p r)) fun r=>by
  have:=key p.acts.length 6 (jY p r) fun b=>by unfold jY;split<;>simp;omega
  have h6:p.acts.length*6≤36:=by omega
  omega
 simp only [fu,List.length_append,List.length_map,List.length_range]
 omega
theorem oV {P:Rul→Bool} {l o:List Rul} {k:Nat} {x:Rul} (hi:o++(l.drop k).filter P=l.filter P) (hx:l[k]? =some x):
  (P x=true→(o++[x])++(l.drop (k+1)).filter P=l.filter P)∧(P x=false→o++(l.drop (k+1)).filter P=l.filter P):=by
 rw [ay hx,List.filter_cons] at hi
 exact⟨fun h=>by rw [← hi,if_pos h];simp,fun h=>by rw [← hi,if_neg (by simp [h])]⟩
theorem yD (p:Proj) (s:aA) (hp:p.fine):Con 73 [.d p.av,.d s.av] (.d (.sl ((jH p s).map Rul.av))):=by
 refine con Tryz.func73 rfl rfl Tryz.call73 rfl fun hwf=>?_
 simp only [ARs.wf,AR.wf,AV.wf,AV.wfs,lm,lim] at hwf
 cases hf:aK p s with
 |false=>
  (repeat' ((conv=>whnf);first|refine gA ?_|(refine gB ?_ ?_<;>intro h)|(refine gI ?_;intro x hx)|(refine gJ ?_;intro j x hj hx)|refine gP ?_|refine gV ?_|refine gC (iC p s hp) ?_|intro _))<;>try (conv=>whnf)
  refine⟨?_,rfl,trivial⟩
  rw [jH,if_neg (by simp [hf])];rfl
 |true=>
  have hok:=(aJ hf).1
  have hlen:=CP hok
  rw [jH,if_pos hf]
  (repeat' ((conv=>whnf);first|refine gA ?_|(refine gB ?_ ?_<;>intro h)|(refine gI ?_;intro x hx)|(refine gJ ?_;intro j x hj hx)|refine gP ?_|refine gV ?_|refine gC (iC p s hp) ?_|refine gC (Pj p hok) ?_|intro _))<;>try (conv=>whnf)
  refine aG [2,3,14,15] [2,3] [12] ?_
  (conv=>whnf)
  refine aC.go ((Nat)×(List Rul)) (fun⟨k,o⟩=>(k≤(fu p).length)∧(o.length≤k)∧(o++((fu p).drop k).filter (breaks p s)=(fu p).filter (breaks p s))) (fun⟨k,o⟩=>[(16,.data (i64 k)),(5,.own 12 0)]) (fun _=>[]) (fun⟨k,o⟩=>[(12,138,o.map Rul.av,0)]) (fun⟨k,o⟩=>(fu p).length - k) ⟨0,[]⟩ ?_ ?_
  ·exact⟨by omega,by simp,rfl⟩
  rintro⟨k,o⟩ ⟨hk,ho,hi⟩
  by_cases hlt:k < (fu p).length
  ·obtain⟨x,hx⟩:∃x,(fu p)[k]? =some x:=⟨(fu p)[k]'hlt,by simp⟩
   (repeat' ((conv=>whnf);first|with_reducible refine Idx.got hx rfl ?_|(exfalso;omega)|refine gA ?_|(refine gB ?_ ?_<;>intro h)|(refine gI ?_;intro x hx)|(refine gJ ?_;intro j x hj hx)|refine gP ?_|refine gV ?_|refine gC (Fy p s x hp hf (CK (List.mem_of_getElem? hx))) ?_|intro _))<;>try (conv=>whnf)
   ·refine nw ⟨k+1,o++[x]⟩ ?_ ?_
    ·(repeat' ((conv=>whnf)<;>(first|exact trivial|exact rfl|with_reducible refine And.intro ?_ ?_)))<;>((conv=>whnf)<;>(simp))
    exact⟨by omega,by simp;omega,(oV hi hx).1 h⟩
   ·refine nx ⟨k+1,o⟩ ?_
    exact⟨by omega,by omega,(oV hi hx).2 h⟩
  ·(repeat' ((conv=>whnf);first|(exfalso;omega)|refine gA ?_|(refine gB ?_ ?_<;>intro h)|(refine gI ?_;intro x hx)|(refine gJ ?_;intro j x hj hx)|refine gP ?_|refine gV ?_|intro _))<;>try (conv=>whnf)
   refine⟨?_,rfl,trivial⟩
   rw [← hi,zJ hlt];simp
theorem oC (p:Proj) (s:aA) (hp:p.fine):Con 35 [.d p.av,.d s.av] (.d (.bool (fA p s))):=by
 refine con Tryz.func35 rfl rfl Tryz.call35 rfl fun hwf=>?_
 (repeat' ((conv=>whnf);first|refine gA ?_|(refine gB ?_ ?_<;>intro h)|refine gC (iC p s hp) ?_|refine gC (yD p s hp) ?_|intro _))<;>try (conv=>whnf)
 all_goals (refine⟨?_,rfl,trivial⟩;simp [fA, *])
theorem yE (p:Proj) (s:aA) (hp:p.fine):Con 59 [.d p.av,.d s.av] (.d (.sl ((jH p s).map Rul.av))):=by
 refine con Tryz.func59 rfl rfl Tryz.call59 rfl fun hwf=>?_
 simp only [ARs.wf,AR.wf,AV.wf,AV.wfs,lm,lim] at hwf
 cases hf:aK p s with
 |false=>
  (repeat' ((conv=>whnf);first|refine gA ?_|(refine gB ?_ ?_<;>intro h)|(refine gI ?_;intro x hx)|(refine gJ ?_;intro j x hj hx)|refine gP ?_|refine gV ?_|refine gC (iD p s hp) ?_|intro _))<;>try (conv=>whnf)
  refine⟨?_,rfl,trivial⟩
  rw [jH,if_neg (by simp [hf])];rfl
 |true=>
  have hok:=(aJ hf).1
  have hlen:=CP hok
  rw [jH,if_pos hf]
  (repeat' ((conv=>whnf);first|refine gA ?_|(refine gB ?_ ?_<;>intro h)|(refine gI ?_;intro x hx)|(refine gJ ?_;intro j x hj hx)|refine gP ?_|refine gV ?_|refine gC (iD p s hp) ?_|refine gC (Ph p hok) ?_|intro _))<;>try (conv=>whnf)
  refine aG [2,3,14,15] [2,3] [8] ?_
  (conv=>whnf)
  refine aC.go ((Nat)×(List Rul)) (fun⟨k,o⟩=>(k≤(fu p).length)∧(o.length≤k)∧(o++((fu p).drop k).filter (breaks p s)=(fu p).filter (breaks p s))) (fun⟨k,o⟩=>[(16,.data (i64 k)),(5,.own 8 0)]) (fun _=>[]) (fun⟨k,o⟩=>[(8,138,o.map Rul.av,0)]) (fun⟨k,o⟩=>(fu p).length - k) ⟨0,[]⟩ ?_ ?_
  ·exact⟨by omega,by simp,rfl⟩
  rintro⟨k,o⟩ ⟨hk,ho,hi⟩
  by_cases hlt:k < (fu p).length
  ·obtain⟨x,hx⟩:∃x,(fu p)[k]? =some x:=⟨(fu p)[k]'hlt,by simp⟩
   (repeat' ((conv=>whnf);first|with_reducible refine Idx.got hx rfl ?_|(exfalso;omega)|refine gA ?_|(refine gB ?_ ?_<;>intro h)|(refine gI ?_;intro x hx)|(refine gJ ?_;intro j x hj hx)|refine gP ?_|refine gV ?_|refine gC (xC p s x hp hf (CK (List.mem_of_getElem? hx))) ?_|intro _))<;>try (conv=>whnf)
   ·refine nw ⟨k+1,o++[x]⟩ ?_ ?_
    ·(repeat' ((conv=>whnf)<;>(first|exact trivial|exact rfl|with_reducible refine And.intro ?_ ?_)))<;>((conv=>whnf)<;>(simp))
    exact⟨by omega,by simp;omega,(oV hi hx).1 h⟩
   ·refine nx ⟨k+1,o⟩ ?_
    exact⟨by omega,by omega,(oV hi hx).2 h⟩
  ·(repeat' ((conv=>whnf);first|(exfalso;omega)|refine gA ?_|(refine gB ?_ ?_<;>intro h)|(refine gI ?_;intro x hx)|(refine gJ ?_;intro j x hj hx)|refine gP ?_|refine gV ?_|intro _))<;>try (conv=>whnf)
   refine⟨?_,rfl,trivial⟩
   rw [← hi,zJ hlt];simp
theorem uN (p:Proj) (s:aA) (hp:p.fine):Con 21 [.d p.av,.d s.av] (.d (.bool (fA p s))):=by
 refine con Tryz.func21 rfl rfl Tryz.call21 rfl fun hwf=>?_
 (repeat' ((conv=>whnf);first|refine gA ?_|(refine gB ?_ ?_<;>intro h)|refine gC (iD p s hp) ?_|refine gC (yE p s hp) ?_|intro _))<;>try (conv=>whnf)
 all_goals (refine⟨?_,rfl,trivial⟩;simp [fA, *])
end Go.Proofs.YtpfgedlimdeffaaGreat.Abs
