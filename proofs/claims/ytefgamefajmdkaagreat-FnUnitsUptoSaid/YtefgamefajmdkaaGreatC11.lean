/- Contracts: what a rule refutes, what follows from it. -/
import Derived.Test.YtefgamefajmdkaaGreatC10
set_option linter.all false
set_option maxRecDepth 20000
set_option maxHeartbeats 0
namespace Go.Proofs.YtefgamefajmdkaaGreat.Abs
open Go.Proofs
inductive Xj (p:Proj) (r:Rul):Prop
 |link (h:r.kind=1) (k:Nat) (l:Link) (e:r.a=k) (hl:p.links[k]? =some l)
 |fin (h:r.kind=2) (ha:bn p r.a=true)
 |time (h:r.kind=3) (ha:dV p r.a=true) (hb:bC r.b=true)
 |work (h:r.kind=4) (ha:dV p r.a=true) (hb:bC r.b=true) (hc:bC r.c=true) (hlt:r.b < r.c)
 |pair (h:r.kind=5) (ha:fA p r.a=true) (hb:bn p r.b=true) (hc:bn p r.c=true) (hlt:r.b < r.c)
 |EA (h:r.kind=6) (ha:iO p r.a=true)
theorem EI {p:Proj} {r:Rul} (h:fG p r=true):Xj p r:=by
 simp only [fG,Bool.and_eq_true] at h
 replace h:=h.2
 split at h
 ·rename_i hk
  simp only [Bool.and_eq_true] at h
  have hn:=within_iff.1 h.1.1
  exact .link hk r.a.toNat (p.links[r.a.toNat]'(by omega)) (by omega) (by simp)
 split at h
 ·rename_i hk
  simp only [Bool.and_eq_true] at h
  exact .fin hk h.1.1
 split at h
 ·rename_i hk
  simp only [Bool.and_eq_true] at h
  exact .time hk h.1.1 h.1.2
 split at h
 ·rename_i hk
  simp only [Bool.and_eq_true,decide_eq_true_eq] at h
  exact .work hk h.1.1.1 h.1.1.2 h.1.2 h.2
 split at h
 ·rename_i hk
  simp only [Bool.and_eq_true,decide_eq_true_eq] at h
  exact .pair hk h.1.1.1 h.1.1.2 h.1.2 h.2
 split at h
 ·rename_i hk
  simp only [Bool.and_eq_true] at h
  exact .EA hk h.1.1
 ·simp at h
theorem zX {p:Proj} {b:Dom} (hf:aC p b=true) {n:Int} (h:bn p n=true):∃(k:Nat) (a:aH) (x y:Int) (m:List Int),n=k∧dW p b k a x y m:=by
 obtain⟨k,_,e1,e2⟩:=jD h
 obtain⟨a,x,y,m,hg⟩:=dR hf (List.getElem?_eq_some_iff.1 e2).1
 exact⟨k,a,x,y,m,e1,hg⟩
theorem Pe (p:Proj) (b:Dom) (r:Rul) (hp:p.fine):Con 129 [.d p.av,.d b.av,.d r.av] (.d (.bool (refutes p b r))):=by
 refine con Tryz.func129 rfl rfl Tryz.call129 rfl fun hwf=>?_
 cases hf:aC p b with
 |false=>
  (repeat' ((conv=>whnf);first|refine gA ?_|(refine gB ?_ ?_<;>intro h)|(refine gI ?_;intro x hx)|(refine gJ ?_;intro j x hj hx)|refine gV ?_|refine gC (bN p b hp) ?_|intro _))<;>try (conv=>whnf)
  refine⟨?_,rfl,trivial⟩;simp [refutes,hf]
 |true=>
 cases he:aZ b with
 |true=>
  (repeat' ((conv=>whnf);first|refine gA ?_|(refine gB ?_ ?_<;>intro h)|(refine gI ?_;intro x hx)|(refine gJ ?_;intro j x hj hx)|refine gV ?_|refine gC (bN p b hp) ?_|refine gC (bO b) ?_|intro _))<;>try (conv=>whnf)
  refine⟨?_,rfl,trivial⟩;simp [refutes,hf,he]
 |false=>
 cases ho:fG p r with
 |false=>
  (repeat' ((conv=>whnf);first|refine gA ?_|(refine gB ?_ ?_<;>intro h)|(refine gI ?_;intro x hx)|(refine gJ ?_;intro j x hj hx)|refine gV ?_|refine gC (bN p b hp) ?_|refine gC (bO b) ?_|refine gC (kX p r hp) ?_|intro _))<;>try (conv=>whnf)
  refine⟨?_,rfl,trivial⟩;simp [refutes,hf,he,ho]
 |true=>
 have hu:usable p b=true:=by simp [usable,hf,he]
 have hok:=(bD hf).1
 have e:refutes p b r=fails p b r:=by simp [refutes,hf,he,ho]
 rw [e]
 cases EI ho with
 |link hk k l e1 hl=>
  have hlo:=(eD hok).link k l hl
  (repeat' ((conv=>whnf);first|with_reducible refine Br.yes (decide_eq_true (by omega)) ?_|with_reducible refine Br.no (decide_eq_false (by omega)) ?_|with_reducible refine Idx.got hl e1 ?_|refine gA ?_|(refine gB ?_ ?_<;>intro h)|(refine gI ?_;intro x hx)|(refine gJ ?_;intro j x hj hx)|refine gV ?_|refine gC (bN p b hp) ?_|refine gC (bO b) ?_|refine gC (kX p r hp) ?_|refine gC (Gl p b l hf hlo) ?_|intro _))<;>try (conv=>whnf)
  refine⟨?_,rfl,trivial⟩
  simp [fails,hk,iy,e1,List.getD_eq_getElem?_getD,hl]
 |fin hk ha=>
  obtain⟨k,a,x,y,m,e1,hg⟩:=zX hf ha
  have hd:=jr hg.aok m
  rw [← mM hg] at hd
  have h1:=hg.lob
  (repeat' ((conv=>whnf);first|with_reducible refine Br.yes (decide_eq_true (by omega)) ?_|with_reducible refine Br.no (decide_eq_false (by omega)) ?_|with_reducible refine Idx.got hg.lo e1 ?_|refine gA ?_|(refine gB ?_ ?_<;>intro h)|(refine gI ?_;intro x hx)|(refine gJ ?_;intro j x hj hx)|refine gV ?_|refine gC (bN p b hp) ?_|refine gC (bO b) ?_|refine gC (kX p r hp) ?_|refine gC (oM p b r.a hg e1) ?_|intro _))<;>try (conv=>whnf)
  refine⟨?_,rfl,trivial⟩
  simp [fails,hk,e1,List.getD_eq_getElem?_getD,hg.lo]
 |time hk ha hb=>
  obtain⟨ρ,x,e1,e2,e3⟩:=uX ha
  (repeat' ((conv=>whnf);first|with_reducible refine Br.yes (decide_eq_true (by omega)) ?_|with_reducible refine Br.no (decide_eq_false (by omega)) ?_|with_reducible refine Idx.got e2 e1 ?_|refine gA ?_|(refine gB ?_ ?_<;>intro h)|(refine gI ?_;intro x hx)|(refine gJ ?_;intro j x hj hx)|refine gV ?_|refine gC (bN p b hp) ?_|refine gC (bO b) ?_|refine gC (kX p r hp) ?_|refine gC (yN p b r.a r.b hf) ?_|refine gC (qh x.steps r.b) ?_|intro _))<;>try (conv=>whnf)
  refine⟨?_,rfl,trivial⟩
  simp [fails,hk,e3]
 |work hk ha hb hc hlt=>
  (repeat' ((conv=>whnf);first|with_reducible refine Br.yes (decide_eq_true (by omega)) ?_|with_reducible refine Br.no (decide_eq_false (by omega)) ?_|refine gA ?_|(refine gB ?_ ?_<;>intro h)|(refine gI ?_;intro x hx)|(refine gJ ?_;intro j x hj hx)|refine gV ?_|refine gC (bN p b hp) ?_|refine gC (bO b) ?_|refine gC (kX p r hp) ?_|refine gC (ED p b r.a r.b r.c hp hu ha hb hc hlt) ?_|intro _))<;>try (conv=>whnf)
  refine⟨?_,rfl,trivial⟩
  simp [fails,hk]
 |pair hk ha hb hc hlt=>
  obtain⟨k,a,x,y,m,e1,hg⟩:=zX hf hb
  obtain⟨k',a',x',y',m',e1',hg'⟩:=zX hf hc
  (repeat' ((conv=>whnf);first|with_reducible refine Br.yes (decide_eq_true (by omega)) ?_|with_reducible refine Br.no (decide_eq_false (by omega)) ?_|refine gA ?_|(refine gB ?_ ?_<;>intro h)|(refine gI ?_;intro x hx)|(refine gJ ?_;intro j x hj hx)|refine gV ?_|refine gC (bN p b hp) ?_|refine gC (bO b) ?_|refine gC (kX p r hp) ?_|refine gC (EG p b r.a r.b r.c hg e1 hg' e1' hp hu ha hb hc (by omega)) ?_|intro _))<;>try (conv=>whnf)
  refine⟨?_,rfl,trivial⟩
  simp [fails,hk]
 |EA hk ha=>
  (repeat' ((conv=>whnf);first|with_reducible refine Br.yes (decide_eq_true (by omega)) ?_|with_reducible refine Br.no (decide_eq_false (by omega)) ?_|refine gA ?_|(refine gB ?_ ?_<;>intro h)|(refine gI ?_;intro x hx)|(refine gJ ?_;intro j x hj hx)|refine gV ?_|refine gC (bN p b hp) ?_|refine gC (bO b) ?_|refine gC (kX p r hp) ?_|refine gC (EH p b r.a hf ha) ?_|intro _))<;>try (conv=>whnf)
  refine⟨?_,rfl,trivial⟩
  simp [fails,hk]
theorem ql (p:Proj) (b:Dom) (r:Rul) (hf:aC p b=true) (ho:fG p r=true):Con 163 [.d p.av,.d b.av,.d r.av] (.d (.bool (fails p b r))):=by
 refine con Tryz.func163 rfl rfl Tryz.call163 rfl fun hwf=>?_
 have hok:=(bD hf).1
 cases EI ho with
 |link hk k l e1 hl=>
  have hlo:=(eD hok).link k l hl
  simp only [jR,Bool.and_eq_true] at hlo
  obtain⟨k1,_,f1,g1⟩:=jD hlo.1.1.1
  obtain⟨k2,_,f2,g2⟩:=jD hlo.1.1.2
  have aaS:=within_iff.1 hlo.2
  obtain⟨a,x,y,m,hg⟩:=dR hf (List.getElem?_eq_some_iff.1 g1).1
  obtain⟨a',x',y',m',hg'⟩:=dR hf (List.getElem?_eq_some_iff.1 g2).1
  have hd:=jr hg.aok m
  rw [← mM hg] at hd
  have h1:=hg.lob
  (repeat' ((conv=>whnf);first|with_reducible refine Br.yes (decide_eq_true (by omega)) ?_|with_reducible refine Br.no (decide_eq_false (by omega)) ?_|with_reducible refine Idx.got hl e1 ?_|with_reducible refine Idx.got hg.lo f1 ?_|with_reducible refine Idx.got hg'.hi f2 ?_|refine gA ?_|(refine gB ?_ ?_<;>intro h)|(refine gI ?_;intro x hx)|(refine gJ ?_;intro j x hj hx)|refine gV ?_|refine gC (oN p b _ hg f1) ?_|intro _))<;>try (conv=>whnf)
  all_goals refine⟨?_,rfl,trivial⟩
  all_goals
   have e:fails p b r=oq p b l:=by simp [fails,hk,iy,e1,List.getD_eq_getElem?_getD,hl]
   rw [e]
   simp only [AV.bool.injEq]
   rw [Bool.eq_iff_iff]
   simp [oq,f1,f2,List.getD_eq_getElem?_getD,hg.lo,hg'.hi, *]
  all_goals omega
 |fin hk ha=>
  obtain⟨k,a,x,y,m,e1,hg⟩:=zX hf ha
  have hd:=jr hg.aok m
  rw [← mM hg] at hd
  have h1:=hg.lob
  (repeat' ((conv=>whnf);first|with_reducible refine Br.yes (decide_eq_true (by omega)) ?_|with_reducible refine Br.no (decide_eq_false (by omega)) ?_|with_reducible refine Idx.got hg.lo e1 ?_|refine gA ?_|(refine gB ?_ ?_<;>intro h)|(refine gI ?_;intro x hx)|(refine gJ ?_;intro j x hj hx)|refine gV ?_|refine gC (oN p b r.a hg e1) ?_|intro _))<;>try (conv=>whnf)
  refine⟨?_,rfl,trivial⟩
  simp [fails,hk,e1,List.getD_eq_getElem?_getD,hg.lo]
 |time hk ha hb=>
  obtain⟨ρ,x,e1,e2,e3⟩:=uX ha
  (repeat' ((conv=>whnf);first|with_reducible refine Br.yes (decide_eq_true (by omega)) ?_|with_reducible refine Br.no (decide_eq_false (by omega)) ?_|with_reducible refine Idx.got e2 e1 ?_|refine gA ?_|(refine gB ?_ ?_<;>intro h)|(refine gI ?_;intro x hx)|(refine gJ ?_;intro j x hj hx)|refine gV ?_|refine gC (Rx p b r.a r.b hf) ?_|refine gC (Kl x.steps r.b) ?_|intro _))<;>try (conv=>whnf)
  refine⟨?_,rfl,trivial⟩
  simp [fails,hk,e3]
 |work hk ha hb hc hlt=>
  (repeat' ((conv=>whnf);first|with_reducible refine Br.yes (decide_eq_true (by omega)) ?_|with_reducible refine Br.no (decide_eq_false (by omega)) ?_|refine gA ?_|(refine gB ?_ ?_<;>intro h)|(refine gI ?_;intro x hx)|(refine gJ ?_;intro j x hj hx)|refine gV ?_|refine gC (Pb p b r.a r.b r.c hf ha) ?_|intro _))<;>try (conv=>whnf)
  refine⟨?_,rfl,trivial⟩
  simp [fails,hk]
 |pair hk ha hb hc hlt=>
  obtain⟨k,a,x,y,m,e1,hg⟩:=zX hf hb
  obtain⟨k',a',x',y',m',e1',hg'⟩:=zX hf hc
  (repeat' ((conv=>whnf);first|with_reducible refine Br.yes (decide_eq_true (by omega)) ?_|with_reducible refine Br.no (decide_eq_false (by omega)) ?_|refine gA ?_|(refine gB ?_ ?_<;>intro h)|(refine gI ?_;intro x hx)|(refine gJ ?_;intro j x hj hx)|refine gV ?_|refine gC (Ry p b r.a r.b r.c hg e1 hg' e1' hok ha) ?_|intro _))<;>try (conv=>whnf)
  refine⟨?_,rfl,trivial⟩
  simp [fails,hk]
 |EA hk ha=>
  (repeat' ((conv=>whnf);first|with_reducible refine Br.yes (decide_eq_true (by omega)) ?_|with_reducible refine Br.no (decide_eq_false (by omega)) ?_|refine gA ?_|(refine gB ?_ ?_<;>intro h)|(refine gI ?_;intro x hx)|(refine gJ ?_;intro j x hj hx)|refine gV ?_|refine gC (LH p b r.a hf ha) ?_|intro _))<;>try (conv=>whnf)
  refine⟨?_,rfl,trivial⟩
  simp [fails,hk]
theorem nT (p:Proj) (b:Dom) (r:Rul) (hp:p.fine):Con 173 [.d p.av,.d b.av,.d r.av] (.d (.bool (refutes p b r))):=by
 refine con Tryz.func173 rfl rfl Tryz.call173 rfl fun hwf=>?_
 cases hf:aC p b with
 |false=>
  (repeat' ((conv=>whnf);first|refine gA ?_|(refine gB ?_ ?_<;>intro h)|refine gC (dw p b hp) ?_|intro _))<;>try (conv=>whnf)
  refine⟨?_,rfl,trivial⟩;simp [refutes,hf]
 |true=>
 cases ho:fG p r with
 |false=>
  (repeat' ((conv=>whnf);first|refine gA ?_|(refine gB ?_ ?_<;>intro h)|refine gC (dw p b hp) ?_|refine gC (bZ b) ?_|refine gC (jq p r hp) ?_|intro _))<;>try (conv=>whnf)
  all_goals (refine⟨?_,rfl,trivial⟩;simp [refutes,hf,ho, *])
 |true=>
  (repeat' ((conv=>whnf);first|refine gA ?_|(refine gB ?_ ?_<;>intro h)|refine gC (dw p b hp) ?_|refine gC (bZ b) ?_|refine gC (jq p r hp) ?_|refine gC (ql p b r hf ho) ?_|intro _))<;>try (conv=>whnf)
  all_goals (refine⟨?_,rfl,trivial⟩;simp [refutes,hf,ho, *])
theorem TB (l:List Lit):against MS l=MS:=by
 induction l with
 |nil=>rfl
 |cons x r ih=>rw [against,List.foldl_cons,show restrict MS (negate x)=MS by simp [restrict,gH,MS]];exact ih
theorem rU (p:Proj) (l:List Lit) (hp:p.fine):Con 115 [.d p.av,.d (lits l)] (.d (fT p l).av):=by
 refine con Tryz.func115 rfl rfl Tryz.call115 rfl fun hwf=>?_
 cases ho:aF p with
 |false=>
  (repeat' ((conv=>whnf);first|refine gA ?_|(refine gB ?_ ?_<;>intro h)|refine gC (dI p hp) ?_|intro _))<;>try (conv=>whnf)
  refine⟨?_,rfl,trivial⟩
  rw [fT,aT,if_neg (by simp [ho]),TB];rfl
 |true=>
  (repeat' ((conv=>whnf);first|refine gA ?_|(refine gB ?_ ?_<;>intro h)|refine gC (dI p hp) ?_|refine gC (wo p (yJ ho)) ?_|refine gC (qj (fP p) l (yI p)) ?_|intro _))<;>try (conv=>whnf)
  refine⟨?_,rfl,trivial⟩
  rw [fT,aT,if_pos ho]
theorem Cz (p:Proj) (r:Rul) (l:List Lit) (hp:p.fine):Con 63 [.d p.av,.d r.av,.d (lits l)] (.d (.bool (follows p r l))):=by
 refine con Tryz.func63 rfl rfl Tryz.call63 rfl fun hwf=>?_
 (repeat' ((conv=>whnf);first|refine gA ?_|(refine gB ?_ ?_<;>intro h)|refine gC (AL p l hp) ?_|refine gC (rJ p l hp) ?_|refine gC (Pe p (fT p l) r hp) ?_|intro _))<;>try (conv=>whnf)
 all_goals (refine⟨?_,rfl,trivial⟩;simp [follows, *])
theorem CB (p:Proj) (r:Rul) (l:List Lit) (hp:p.fine):Con 112 [.d p.av,.d r.av,.d (lits l)] (.d (.bool (follows p r l))):=by
 refine con Tryz.func112 rfl rfl Tryz.call112 rfl fun hwf=>?_
 (repeat' ((conv=>whnf);first|refine gA ?_|(refine gB ?_ ?_<;>intro h)|refine gC (AO p l hp) ?_|refine gC (rU p l hp) ?_|refine gC (nT p (fT p l) r hp) ?_|intro _))<;>try (conv=>whnf)
 all_goals (refine⟨?_,rfl,trivial⟩;simp [follows, *])
end Go.Proofs.YtefgamefajmdkaaGreat.Abs
