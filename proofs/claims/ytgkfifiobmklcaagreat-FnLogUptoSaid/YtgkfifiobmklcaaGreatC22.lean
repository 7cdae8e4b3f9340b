/- Contracts: schedules that keep all rules. -/
import Derived.Test.YtgkfifiobmklcaaGreatSch
import Derived.Test.YtgkfifiobmklcaaGreatC12
set_option linter.all false
set_option maxRecDepth 20000
set_option maxHeartbeats 0
namespace Go.Proofs.YtgkfifiobmklcaaGreat.Abs
open Go.Proofs
inductive RIn (p:Proj) (r:Rul):Prop
 |link (k:Nat) (l:Link) (h:r=lI k) (hl:p.links[k]? =some l)
 |fin (k:Nat) (h:r=endRule k) (hk:k < p.acts.length)
 |time (ρ t:Nat) (h:r=nk ρ t) (hρ:ρ < p.bC.length) (ht:t < 61)
 |pair (ρ b c:Nat) (h:r=nu ρ b c) (hm:iD p ρ=true) (hb:b < c) (hc:c < p.acts.length)
 |Jf (k:Nat) (h:r=jT k) (hk:k < p.aX.length)
theorem UQ {p:Proj} {r:Rul} (h:r∈bQ p):RIn p r:=by
 simp only [bQ,List.mem_append,List.mem_map,List.mem_range,List.mem_flatMap,oI,fT] at h
 rcases h with (((h|h)|h)|h)|h
 ·obtain⟨k,hk,rfl⟩:=h
  exact .link k _ rfl (List.getElem?_eq_getElem hk)
 ·obtain⟨k,hk,rfl⟩:=h
  exact .fin k rfl hk
 ·obtain⟨ρ,hρ,t,ht,rfl⟩:=h
  exact .time ρ t rfl hρ ht
 ·obtain⟨ρ,hρ,b,hb,h⟩:=h
  split at h
  ·rename_i hm
   simp only [List.mem_map,List.mem_range] at h
   obtain⟨j,hj,rfl⟩:=h
   exact .pair ρ b (b+1+j) rfl hm (by omega) (by omega)
  ·simp at h
 ·obtain⟨k,hk,rfl⟩:=h
  exact .Jf k rfl hk
theorem UR {p:Proj} {s:aK} {k:Nat} {a:aF} {t m:Int} {q:Nat} {mo:Mode} (g:Ke p s k a t m q mo) {r:Int} (hr:jR p r=true):
  ∃(ρ:Nat) (u:Int),r=ρ∧mo.con[ρ]? =some u∧(0≤u∧u≤20)∧LD p s r k=u:=by
 have hm:=kE g.aok (List.mem_of_getElem? g.moE)
 have hw:=within_iff.1 hr
 have e2:mo.con[r.toNat]? =some (mo.con[r.toNat]'(by omega)):=by simp
 refine⟨r.toNat,_,by omega,e2,hm.2.2.2.1 _ (List.mem_of_getElem? e2),?_⟩
 rw [LD,qh g,List.getD_eq_getElem?_getD,e2];rfl
theorem UU {p:Proj} {s:aK} (hf:bP p s=true) {r:Int} (hr:jR p r=true) {k:Nat} (hk:k < p.acts.length):0≤LD p s r k∧LD p s r k≤20:=by
 obtain⟨a,t,m,q,mo,g⟩:=CK hf hk
 obtain⟨ρ,u,_,_,hb,e⟩:=UR g hr
 rw [e];exact hb
theorem DK (p:Proj) (s:aK) (r:Int) (hp:p.fine) (hf:bP p s=true) (hr:jR p r=true):Con 238 [.d p.av,.d s.av,.d (i64 r)] (.d (i64 (LG p s r))):=by
 refine con Tryz.func238 rfl rfl Tryz.call238 rfl fun hwf=>?_
 simp only [ARs.wf,AR.wf,AV.wf,AV.wfs,lm,lim] at hwf
 (repeat' ((conv=>whnf);first|refine gA ?_|(refine gB ?_ ?_<;>intro h)|(refine gI ?_;intro x hx)|(refine gJ ?_;intro j x hj hx)|refine gV ?_|refine gC (lD p s hp) ?_|refine gC (Cq p _) ?_|intro _))<;>try (conv=>whnf)
 refine aB [2,3,4,21] [3,4] [] ?_
 (conv=>whnf)
 refine aA.go ((Nat)×(Int)) (fun⟨k,n⟩=>(k≤p.acts.length)∧(n=sumTo (LD p s r) k)) (fun⟨k,n⟩=>[(22,.data (i64 k)),(7,.data (i64 n))]) (fun _=>[]) (fun _=>[]) (fun⟨k,n⟩=>p.acts.length - k) ⟨0,0⟩ ?_ ?_
 ·exact⟨by omega,rfl⟩
 rintro⟨k,n⟩ ⟨hk,hn⟩
 by_cases hlt:k < p.acts.length
 ·obtain⟨a,u,m,q,mo,g⟩:=CK hf hlt
  obtain⟨ρ,v,e1,e2,e3,e4⟩:=UR g hr
  have hb:=qK (f:=LD p s r) (c:=20) (n:=k) fun i hi=>UU hf hr (by omega)
  (repeat' ((conv=>whnf);first|(exfalso;omega)|with_reducible refine Idx.got e2 e1 ?_|refine gA ?_|(refine gB ?_ ?_<;>intro h)|(refine gI ?_;intro x hx)|(refine gJ ?_;intro j x hj hx)|refine gV ?_|refine gC (wN p s _ g rfl) ?_|intro _))<;>try (conv=>whnf)
  refine nx ⟨k+1,n+v⟩ ?_
  exact⟨by omega,by rw [sumTo,hn,e4]⟩
 ·(repeat' ((conv=>whnf);first|(exfalso;omega)|refine gA ?_|(refine gB ?_ ?_<;>intro h)|(refine gI ?_;intro x hx)|(refine gJ ?_;intro j x hj hx)|refine gV ?_|intro _))<;>try (conv=>whnf)
  refine⟨?_,rfl,trivial⟩
  rw [hn,show k=p.acts.length by omega];rfl
theorem Nj (p:Proj) (s:aK) (l:Link) (hf:bP p s=true) (hl:kV p l=true):Con 233 [.d p.av,.d s.av,.d l.av] (.d (.bool (!tq p s l))):=by
 refine con Tryz.func233 rfl rfl Tryz.call233 rfl fun hwf=>?_
 simp only [kV,Bool.and_eq_true] at hl
 obtain⟨k,_,e1,e2⟩:=lN hl.1.1.1
 obtain⟨k',_,e1',e2'⟩:=lN hl.1.1.2
 have afa:=within_iff.1 hl.2
 obtain⟨a,t,m,q,mo,g⟩:=CK hf (List.getElem?_eq_some_iff.1 e2).1
 obtain⟨a',t',m',q',mo',g'⟩:=CK hf (List.getElem?_eq_some_iff.1 e2').1
 have hd:=XE g
 have h1:=g.tb
 have he:=Ga g
 (repeat' ((conv=>whnf);first|with_reducible refine Idx.got g.start e1 ?_|with_reducible refine Idx.got g'.start e1' ?_|refine gA ?_|(refine gB ?_ ?_<;>intro h)|(refine gI ?_;intro x hx)|(refine gJ ?_;intro j x hj hx)|refine gV ?_|refine gC (Ao p s _ g e1) ?_|intro _))<;>try (conv=>whnf)
 all_goals
  refine⟨?_,rfl,trivial⟩
  simp only [AV.bool.injEq]
  rw [Bool.eq_iff_iff]
  simp [tq,e1,e1',List.getD_eq_getElem?_getD,g.start,g'.start, *]
theorem Nk (p:Proj) (s:aK) (r b c:Int) {k k':Nat} {ka ko:aF} {t m t' m':Int} {q q':Nat} {mo mo':Mode} (g:Ke p s k ka t m q mo) (e:b=k) (g':Ke p s k' ko t' m' q' mo') (e':c=k') (hp:p.fine)
  (hf:bP p s=true) (hm:iD p r=true) (hb:bG p b=true) (hc:bG p c=true):Con 237 [.d p.av,.d s.av,.d (i64 r),.d (i64 b),.d (i64 c)] (.d (.bool (!wC p s r b c))):=by
 refine con Tryz.func237 rfl rfl Tryz.call237 rfl fun hwf=>?_
 have hok:=(je hf).1
 obtain⟨re,ρ,i,j,row,v,hM⟩:=Me hok hm g.act g'.act e e'
 obtain⟨re',ρ',i',j',row',v',hM'⟩:=Me hok hm g'.act g.act e' e
 obtain⟨ρ1,u,f1,f2,f3,_⟩:=Gb g (xS hm) 0
 obtain⟨ρ2,u',f1',f2',f3',_⟩:=Gb g' (xS hm) 0
 have hd:=XE g;have hd':=XE g'
 have h1:=g.tb;have h1':=g'.tb
 have he:=Ga g;have he':=Ga g'
 have hv:=hM.vb;have hv':=hM'.vb
 have ep:wC p s r b c=(!decide (u=0)&& !decide (u'=0)&& !decide (oH p s k+v≤t')&& !decide (oH p s k'+v'≤t)):=by
  rw [wC,ES,ES,hM.eq,hM'.eq]
  subst e e' f1
  obtain rfl:ρ2=ρ1:=by omega
  simp [qh g,qh g',List.getD_eq_getElem?_getD,f2,f2',g.start,g'.start]
 rw [ep]
 (repeat' ((conv=>whnf);first|with_reducible refine Idx.got f2 f1 ?_|with_reducible refine Idx.got f2' f1' ?_|with_reducible refine Idx.got g.start e ?_|with_reducible refine Idx.got g'.start e' ?_|refine gA ?_|(refine gB ?_ ?_<;>intro h)|(refine gI ?_;intro x hx)|(refine gJ ?_;intro j x hj hx)|refine gV ?_|refine gC (wN p s _ g e) ?_|refine gC (wN p s _ g' e') ?_|refine gC (Ao p s _ g e) ?_|refine gC (Ao p s _ g' e') ?_|refine gC (tH p r b c g.act e g'.act e' hp hok hm hb hc hM) ?_|refine gC (tH p r c b g'.act e' g.act e hp hok hm hc hb hM') ?_|intro _))<;>try (conv=>whnf)
 all_goals
  refine⟨?_,rfl,trivial⟩
  clear he he' ep
  simp only [AV.bool.injEq]
  rw [Bool.eq_iff_iff]
  simp [*]
theorem Nl {p:Proj} {k:Nat} (h:k < p.acts.length):bG p k=true:=within_iff.2 (by omega)
theorem WH {p:Proj} {k:Nat} (h:k < p.bC.length):fQ p k=true:=within_iff.2 (by omega)
theorem RY {p:Proj} {k:Nat} (h:k < p.aX.length):jR p k=true:=within_iff.2 (by omega)
theorem Nn (p:Proj) (s:aK) (r:Rul) (hp:p.fine) (hf:bP p s=true) (hr:RIn p r):Con 198 [.d p.av,.d s.av,.d r.av] (.d (.bool (!breaks p s r))):=by
 refine con Tryz.func198 rfl rfl Tryz.call198 rfl fun hwf=>?_
 have hok:=(je hf).1
 cases hr with
 |link k l h hl=>
  subst h
  have hkd:(lI k).kind=1:=rfl
  have hlo:=(fU hok).link k l hl
  (repeat' ((conv=>whnf);first|with_reducible refine Br.no (decide_eq_false (by omega)) ?_|with_reducible refine Br.yes (decide_eq_true (by omega)) ?_|with_reducible refine Idx.got hl rfl ?_|refine gA ?_|(refine gB ?_ ?_<;>intro h)|(refine gI ?_;intro x hx)|(refine gJ ?_;intro j x hj hx)|refine gC (Nj p s l hf hlo) ?_|intro _))<;>try (conv=>whnf)
  refine⟨?_,rfl,trivial⟩
  simp [breaks,lI,iE,List.getD_eq_getElem?_getD,hl]
 |fin k h hk=>
  subst h
  have hkd:(endRule k).kind=2:=rfl
  obtain⟨a,t,m,q,mo,g⟩:=CK hf hk
  (repeat' ((conv=>whnf);first|with_reducible refine Br.no (decide_eq_false (by omega)) ?_|with_reducible refine Br.yes (decide_eq_true (by omega)) ?_|refine gA ?_|(refine gB ?_ ?_<;>intro h)|(refine gI ?_;intro x hx)|(refine gJ ?_;intro j x hj hx)|refine gC (Ao p s _ g rfl) ?_|intro _))<;>try (conv=>whnf)
  refine⟨?_,rfl,trivial⟩
  simp only [AV.bool.injEq]
  rw [Bool.eq_iff_iff]
  simp [breaks,endRule]
 |time ρ t h hρ ht=>
  subst h
  have hkd:(nk ρ t).kind=3:=rfl
  have hr:=WH hρ
  obtain⟨x,hx⟩:∃x,p.bC[ρ]? =some x:=⟨p.bC[ρ]'hρ,by simp⟩
  (repeat' ((conv=>whnf);first|with_reducible refine Br.no (decide_eq_false (by omega)) ?_|with_reducible refine Br.yes (decide_eq_true (by omega)) ?_|with_reducible refine Idx.got hx rfl ?_|refine gA ?_|(refine gB ?_ ?_<;>intro h)|(refine gI ?_;intro x hx)|(refine gJ ?_;intro j x hj hx)|refine gC (WG p s (ρ:Int) (t:Int) hf hr) ?_|refine gC (ru x.steps (t:Int)) ?_|intro _))<;>try (conv=>whnf)
  refine⟨?_,rfl,trivial⟩
  simp only [AV.bool.injEq]
  rw [Bool.eq_iff_iff]
  simp [breaks,nk,yK,List.getD_eq_getElem?_getD,hx]
 |pair ρ b c h hm hb hc=>
  subst h
  have hkd:(nu ρ b c).kind=5:=rfl
  obtain⟨a,t,m,q,mo,g⟩:=CK hf (show b < p.acts.length by omega)
  obtain⟨a',t',m',q',mo',g'⟩:=CK hf hc
  (repeat' ((conv=>whnf);first|with_reducible refine Br.no (decide_eq_false (by omega)) ?_|with_reducible refine Br.yes (decide_eq_true (by omega)) ?_|refine gA ?_|(refine gB ?_ ?_<;>intro h)|(refine gI ?_;intro x hx)|(refine gJ ?_;intro j x hj hx)|refine gC (Nk p s (ρ:Int) (b:Int) (c:Int) g rfl g' rfl hp hf hm (Nl (by omega)) (Nl hc)) ?_|intro _))<;>try (conv=>whnf)
  refine⟨?_,rfl,trivial⟩
  simp [breaks,nu]
 |Jf k h hkn=>
  subst h
  have hkd:(jT k).kind=6:=rfl
  obtain⟨x,hx⟩:∃x,p.aX[k]? =some x:=⟨p.aX[k]'hkn,by simp⟩
  (repeat' ((conv=>whnf);first|with_reducible refine Br.no (decide_eq_false (by omega)) ?_|with_reducible refine Br.yes (decide_eq_true (by omega)) ?_|with_reducible refine Idx.got hx rfl ?_|refine gA ?_|(refine gB ?_ ?_<;>intro h)|(refine gI ?_;intro x hx)|(refine gJ ?_;intro j x hj hx)|refine gC (DK p s (k:Int) hp hf (RY hkn)) ?_|intro _))<;>try (conv=>whnf)
  refine⟨?_,rfl,trivial⟩
  simp only [AV.bool.injEq]
  rw [Bool.eq_iff_iff]
  simp [breaks,jT,List.getD_eq_getElem?_getD,hx]
open Go.Proofs
theorem UW {p:Proj} (h:aG p=true):(bQ p).length≤1000:=by
 obtain⟨ha,hr,hs,hl⟩:=nO h
 have key:∀{α:Type} (n c:Nat) (f:Nat→List α),(∀k,(f k).length≤c)→((List.range n).flatMap f).length≤n*c:=by
  intro α n c f hf
  induction n with
  |zero=>simp
  |succ n ih=>
   rw [List.range_succ,List.flatMap_append,List.length_append,Nat.succ_mul]
   have:=hf n
   simp only [List.flatMap_cons,List.flatMap_nil,List.append_nil]
   omega
 have h1:=key p.bC.length 61 oI fun k=>by simp [oI]
 have h2:=key p.bC.length 36 (fun r=>(List.range p.acts.length).flatMap (fT p r)) fun r=>by
  have:=key p.acts.length 6 (fT p r) fun b=>by unfold fT;split<;>simp;omega
  have h6:p.acts.length*6≤36:=by omega
  omega
 simp only [bQ,List.length_append,List.length_map,List.length_range]
 omega
theorem Gf {P:Rul→Bool} {l o:List Rul} {k:Nat} {x:Rul} (hi:o++(l.drop k).filter P=l.filter P) (hx:l[k]? =some x):
  (P x=true→(o++[x])++(l.drop (k+1)).filter P=l.filter P)∧(P x=false→o++(l.drop (k+1)).filter P=l.filter P):=by
 rw [ay hx,List.filter_cons] at hi
 exact⟨fun h=>by rw [← hi,if_pos h];simp,fun h=>by rw [← hi,if_neg (by simp [h])]⟩
theorem DL (p:Proj) (s:aK) (hp:p.fine):Con 147 [.d p.av,.d s.av] (.d (.sl ((qF p s).map Rul.av))):=by
 refine con Tryz.func147 rfl rfl Tryz.call147 rfl fun hwf=>?_
 simp only [ARs.wf,AR.wf,AV.wf,AV.wfs,lm,lim] at hwf
 cases hf:bP p s with
 |false=>
  (repeat' ((conv=>whnf);first|refine gA ?_|(refine gB ?_ ?_<;>intro h)|(refine gI ?_;intro x hx)|(refine gJ ?_;intro j x hj hx)|refine gP ?_|refine gV ?_|refine gC (lD p s hp) ?_|intro _))<;>try (conv=>whnf)
  refine⟨?_,rfl,trivial⟩
  rw [qF,if_neg (by simp [hf])];rfl
 |true=>
  have hok:=(je hf).1
  have hlen:=UW hok
  rw [qF,if_pos hf]
  (repeat' ((conv=>whnf);first|refine gA ?_|(refine gB ?_ ?_<;>intro h)|(refine gI ?_;intro x hx)|(refine gJ ?_;intro j x hj hx)|refine gP ?_|refine gV ?_|refine gC (lD p s hp) ?_|refine gC (ML p hok) ?_|intro _))<;>try (conv=>whnf)
  refine aB [2,3,14,15] [2,3] [12] ?_
  (conv=>whnf)
  refine aA.go ((Nat)×(List Rul)) (fun⟨k,o⟩=>(k≤(bQ p).length)∧(o.length≤k)∧(o++((bQ p).drop k).filter (breaks p s)=(bQ p).filter (breaks p s))) (fun⟨k,o⟩=>[(16,.data (i64 k)),(5,.own 12 0)]) (fun _=>[]) (fun⟨k,o⟩=>[(12,41,o.map Rul.av,0)]) (fun⟨k,o⟩=>(bQ p).length - k) ⟨0,[]⟩ ?_ ?_
  ·exact⟨by omega,by simp,rfl⟩
  rintro⟨k,o⟩ ⟨hk,ho,hi⟩
  by_cases hlt:k < (bQ p).length
  ·obtain⟨x,hx⟩:∃x,(bQ p)[k]? =some x:=⟨(bQ p)[k]'hlt,by simp⟩
   (repeat' ((conv=>whnf);first|with_reducible refine Idx.got hx rfl ?_|(exfalso;omega)|refine gA ?_|(refine gB ?_ ?_<;>intro h)|(refine gI ?_;intro x hx)|(refine gJ ?_;intro j x hj hx)|refine gP ?_|refine gV ?_|refine gC (Nn p s x hp hf (UQ (List.mem_of_getElem? hx))) ?_|intro _))<;>try (conv=>whnf)
   ·refine nw ⟨k+1,o++[x]⟩ ?_ ?_
    ·(repeat' ((conv=>whnf)<;>(first|exact trivial|exact rfl|with_reducible refine And.intro ?_ ?_)))<;>((conv=>whnf)<;>(simp))
    exact⟨by omega,by simp;omega,(Gf hi hx).1 h⟩
   ·refine nx ⟨k+1,o⟩ ?_
    exact⟨by omega,by omega,(Gf hi hx).2 h⟩
  ·(repeat' ((conv=>whnf);first|(exfalso;omega)|refine gA ?_|(refine gB ?_ ?_<;>intro h)|(refine gI ?_;intro x hx)|(refine gJ ?_;intro j x hj hx)|refine gP ?_|refine gV ?_|intro _))<;>try (conv=>whnf)
   refine⟨?_,rfl,trivial⟩
   rw [← hi,sU hlt];simp
theorem Kg (p:Proj) (s:aK) (hp:p.fine):Con 70 [.d p.av,.d s.av] (.d (.bool (dF p s))):=by
 refine con Tryz.func70 rfl rfl Tryz.call70 rfl fun hwf=>?_
 (repeat' ((conv=>whnf);first|refine gA ?_|(refine gB ?_ ?_<;>intro h)|refine gC (lD p s hp) ?_|refine gC (DL p s hp) ?_|intro _))<;>try (conv=>whnf)
 all_goals (refine⟨?_,rfl,trivial⟩;simp [dF, *])
end Go.Proofs.YtgkfifiobmklcaaGreat.Abs
