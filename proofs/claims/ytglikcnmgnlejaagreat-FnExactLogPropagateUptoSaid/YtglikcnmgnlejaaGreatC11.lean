/- Contracts: what a rule refutes, what follows from it. -/
import Derived.Test.YtglikcnmgnlejaaGreatC10
set_option linter.all false
set_option maxRecDepth 20000
set_option maxHeartbeats 0
namespace Go.Proofs.YtglikcnmgnlejaaGreat.Abs
open Go.Proofs
inductive ZH (p:Proj) (r:Rul):Prop
 |link (h:r.kind=1) (k:Nat) (l:Link) (e:r.a=k) (hl:p.links[k]? =some l)
 |fin (h:r.kind=2) (ha:dz p r.a=true)
 |time (h:r.kind=3) (ha:iB p r.a=true) (hb:dw r.b=true)
 |work (h:r.kind=4) (ha:iB p r.a=true) (hb:dw r.b=true) (hc:dw r.c=true) (hlt:r.b < r.c)
 |pair (h:r.kind=5) (ha:iL p r.a=true) (hb:dz p r.b=true) (hc:dz p r.c=true) (hlt:r.b < r.c)
 |KT (h:r.kind=6) (ha:oZ p r.a=true)
theorem zU {p:Proj} {r:Rul} (h:iC p r=true):ZH p r:=by
 simp only [iC,Bool.and_eq_true] at h
 replace h:=h.2
 split at h
 ·rename_i hk
  simp only [Bool.and_eq_true] at h
  have hn:=within_iff.1 h.1.1
  exact .link hk r.a.toNat (p.links[r.a.toNat]'(by omega)) (by omega) (by simp)
 split at h
 ·rename_i hk
  simp only [Bool.and_eq_true] at h
  exact .fin hk h.1.1
 split at h
 ·rename_i hk
  simp only [Bool.and_eq_true] at h
  exact .time hk h.1.1 h.1.2
 split at h
 ·rename_i hk
  simp only [Bool.and_eq_true,decide_eq_true_eq] at h
  exact .work hk h.1.1.1 h.1.1.2 h.1.2 h.2
 split at h
 ·rename_i hk
  simp only [Bool.and_eq_true,decide_eq_true_eq] at h
  exact .pair hk h.1.1.1 h.1.1.2 h.1.2 h.2
 split at h
 ·rename_i hk
  simp only [Bool.and_eq_true] at h
  exact .KT hk h.1.1
 ·simp at h
theorem AQ {p:Proj} {b:Dom} (hf:aQ p b=true) {n:Int} (h:dz p n=true):∃(k:Nat) (a:aC) (x y:Int) (m:List Int),n=k∧eD p b k a x y m:=by
 obtain⟨k,_,e1,e2⟩:=lY h
 obtain⟨a,x,y,m,hg⟩:=fF hf (List.getElem?_eq_some_iff.1 e2).1
 exact⟨k,a,x,y,m,e1,hg⟩
theorem jM (p:Proj) (b:Dom) (r:Rul) (hp:p.fine):Con 361 [.d p.av,.d b.av,.d r.av] (.d (.bool (refutes p b r))):=by
 refine con Tryz.func361 rfl rfl Tryz.call361 rfl fun hwf=>?_
 cases hf:aQ p b with
 |false=>
  (repeat' ((conv=>whnf);first|refine gA ?_|(refine gB ?_ ?_<;>intro h)|(refine gI ?_;intro x hx)|(refine gJ ?_;intro j x hj hx)|refine gV ?_|refine gC (bn p b hp) ?_|intro _))<;>try (conv=>whnf)
  refine⟨?_,rfl,trivial⟩;simp [refutes,hf]
 |true=>
 cases he:jf b with
 |true=>
  (repeat' ((conv=>whnf);first|refine gA ?_|(refine gB ?_ ?_<;>intro h)|(refine gI ?_;intro x hx)|(refine gJ ?_;intro j x hj hx)|refine gV ?_|refine gC (bn p b hp) ?_|refine gC (bD b) ?_|intro _))<;>try (conv=>whnf)
  refine⟨?_,rfl,trivial⟩;simp [refutes,hf,he]
 |false=>
 cases ho:iC p r with
 |false=>
  (repeat' ((conv=>whnf);first|refine gA ?_|(refine gB ?_ ?_<;>intro h)|(refine gI ?_;intro x hx)|(refine gJ ?_;intro j x hj hx)|refine gV ?_|refine gC (bn p b hp) ?_|refine gC (bD b) ?_|refine gC (eH p r hp) ?_|intro _))<;>try (conv=>whnf)
  refine⟨?_,rfl,trivial⟩;simp [refutes,hf,he,ho]
 |true=>
 have hu:usable p b=true:=by simp [usable,hf,he]
 have hok:=(bB hf).1
 have e:refutes p b r=fails p b r:=by simp [refutes,hf,he,ho]
 rw [e]
 cases zU ho with
 |link hk k l e1 hl=>
  have hlo:=(eu hok).link k l hl
  (repeat' ((conv=>whnf);first|with_reducible refine Br.yes (decide_eq_true (by omega)) ?_|with_reducible refine Br.no (decide_eq_false (by omega)) ?_|with_reducible refine Idx.got hl e1 ?_|refine gA ?_|(refine gB ?_ ?_<;>intro h)|(refine gI ?_;intro x hx)|(refine gJ ?_;intro j x hj hx)|refine gV ?_|refine gC (bn p b hp) ?_|refine gC (bD b) ?_|refine gC (eH p r hp) ?_|refine gC (Gw p b l hf hlo) ?_|intro _))<;>try (conv=>whnf)
  refine⟨?_,rfl,trivial⟩
  simp [fails,hk,qm,e1,List.getD_eq_getElem?_getD,hl]
 |fin hk ha=>
  obtain⟨k,a,x,y,m,e1,hg⟩:=AQ hf ha
  have hd:=jL hg.aok m
  rw [← nK hg] at hd
  have h1:=hg.lob
  (repeat' ((conv=>whnf);first|with_reducible refine Br.yes (decide_eq_true (by omega)) ?_|with_reducible refine Br.no (decide_eq_false (by omega)) ?_|with_reducible refine Idx.got hg.lo e1 ?_|refine gA ?_|(refine gB ?_ ?_<;>intro h)|(refine gI ?_;intro x hx)|(refine gJ ?_;intro j x hj hx)|refine gV ?_|refine gC (bn p b hp) ?_|refine gC (bD b) ?_|refine gC (eH p r hp) ?_|refine gC (qO p b r.a hg e1) ?_|intro _))<;>try (conv=>whnf)
  refine⟨?_,rfl,trivial⟩
  simp [fails,hk,e1,List.getD_eq_getElem?_getD,hg.lo]
 |time hk ha hb=>
  obtain⟨ρ,x,e1,e2,e3⟩:=sN ha
  (repeat' ((conv=>whnf);first|with_reducible refine Br.yes (decide_eq_true (by omega)) ?_|with_reducible refine Br.no (decide_eq_false (by omega)) ?_|with_reducible refine Idx.got e2 e1 ?_|refine gA ?_|(refine gB ?_ ?_<;>intro h)|(refine gI ?_;intro x hx)|(refine gJ ?_;intro j x hj hx)|refine gV ?_|refine gC (bn p b hp) ?_|refine gC (bD b) ?_|refine gC (eH p r hp) ?_|refine gC (zQ p b r.a r.b hf) ?_|refine gC (yN x.steps r.b) ?_|intro _))<;>try (conv=>whnf)
  refine⟨?_,rfl,trivial⟩
  simp [fails,hk,e3]
 |work hk ha hb hc hlt=>
  (repeat' ((conv=>whnf);first|with_reducible refine Br.yes (decide_eq_true (by omega)) ?_|with_reducible refine Br.no (decide_eq_false (by omega)) ?_|refine gA ?_|(refine gB ?_ ?_<;>intro h)|(refine gI ?_;intro x hx)|(refine gJ ?_;intro j x hj hx)|refine gV ?_|refine gC (bn p b hp) ?_|refine gC (bD b) ?_|refine gC (eH p r hp) ?_|refine gC (EG p b r.a r.b r.c hp hu ha hb hc hlt) ?_|intro _))<;>try (conv=>whnf)
  refine⟨?_,rfl,trivial⟩
  simp [fails,hk]
 |pair hk ha hb hc hlt=>
  obtain⟨k,a,x,y,m,e1,hg⟩:=AQ hf hb
  obtain⟨k',a',x',y',m',e1',hg'⟩:=AQ hf hc
  (repeat' ((conv=>whnf);first|with_reducible refine Br.yes (decide_eq_true (by omega)) ?_|with_reducible refine Br.no (decide_eq_false (by omega)) ?_|refine gA ?_|(refine gB ?_ ?_<;>intro h)|(refine gI ?_;intro x hx)|(refine gJ ?_;intro j x hj hx)|refine gV ?_|refine gC (bn p b hp) ?_|refine gC (bD b) ?_|refine gC (eH p r hp) ?_|refine gC (EI p b r.a r.b r.c hg e1 hg' e1' hp hu ha hb hc (by omega)) ?_|intro _))<;>try (conv=>whnf)
  refine⟨?_,rfl,trivial⟩
  simp [fails,hk]
 |KT hk ha=>
  (repeat' ((conv=>whnf);first|with_reducible refine Br.yes (decide_eq_true (by omega)) ?_|with_reducible refine Br.no (decide_eq_false (by omega)) ?_|refine gA ?_|(refine gB ?_ ?_<;>intro h)|(refine gI ?_;intro x hx)|(refine gJ ?_;intro j x hj hx)|refine gV ?_|refine gC (bn p b hp) ?_|refine gC (bD b) ?_|refine gC (eH p r hp) ?_|refine gC (EJ p b r.a hf ha) ?_|intro _))<;>try (conv=>whnf)
  refine⟨?_,rfl,trivial⟩
  simp [fails,hk]
theorem rP (p:Proj) (b:Dom) (r:Rul) (hf:aQ p b=true) (ho:iC p r=true):Con 347 [.d p.av,.d b.av,.d r.av] (.d (.bool (fails p b r))):=by
 refine con Tryz.func347 rfl rfl Tryz.call347 rfl fun hwf=>?_
 have hok:=(bB hf).1
 cases zU ho with
 |link hk k l e1 hl=>
  have hlo:=(eu hok).link k l hl
  simp only [nW,Bool.and_eq_true] at hlo
  obtain⟨k1,_,f1,g1⟩:=lY hlo.1.1.1
  obtain⟨k2,_,f2,g2⟩:=lY hlo.1.1.2
  have afN:=within_iff.1 hlo.2
  obtain⟨a,x,y,m,hg⟩:=fF hf (List.getElem?_eq_some_iff.1 g1).1
  obtain⟨a',x',y',m',hg'⟩:=fF hf (List.getElem?_eq_some_iff.1 g2).1
  have hd:=jL hg.aok m
  rw [← nK hg] at hd
  have h1:=hg.lob
  (repeat' ((conv=>whnf);first|with_reducible refine Br.yes (decide_eq_true (by omega)) ?_|with_reducible refine Br.no (decide_eq_false (by omega)) ?_|with_reducible refine Idx.got hl e1 ?_|with_reducible refine Idx.got hg.lo f1 ?_|with_reducible refine Idx.got hg'.hi f2 ?_|refine gA ?_|(refine gB ?_ ?_<;>intro h)|(refine gI ?_;intro x hx)|(refine gJ ?_;intro j x hj hx)|refine gV ?_|refine gC (qP p b _ hg f1) ?_|intro _))<;>try (conv=>whnf)
  all_goals refine⟨?_,rfl,trivial⟩
  all_goals
   have e:fails p b r=wF p b l:=by simp [fails,hk,qm,e1,List.getD_eq_getElem?_getD,hl]
   rw [e]
   simp only [AV.bool.injEq]
   rw [Bool.eq_iff_iff]
   simp [wF,f1,f2,List.getD_eq_getElem?_getD,hg.lo,hg'.hi, *]
  all_goals omega
 |fin hk ha=>
  obtain⟨k,a,x,y,m,e1,hg⟩:=AQ hf ha
  have hd:=jL hg.aok m
  rw [← nK hg] at hd
  have h1:=hg.lob
  (repeat' ((conv=>whnf);first|with_reducible refine Br.yes (decide_eq_true (by omega)) ?_|with_reducible refine Br.no (decide_eq_false (by omega)) ?_|with_reducible refine Idx.got hg.lo e1 ?_|refine gA ?_|(refine gB ?_ ?_<;>intro h)|(refine gI ?_;intro x hx)|(refine gJ ?_;intro j x hj hx)|refine gV ?_|refine gC (qP p b r.a hg e1) ?_|intro _))<;>try (conv=>whnf)
  refine⟨?_,rfl,trivial⟩
  simp [fails,hk,e1,List.getD_eq_getElem?_getD,hg.lo]
 |time hk ha hb=>
  obtain⟨ρ,x,e1,e2,e3⟩:=sN ha
  (repeat' ((conv=>whnf);first|with_reducible refine Br.yes (decide_eq_true (by omega)) ?_|with_reducible refine Br.no (decide_eq_false (by omega)) ?_|with_reducible refine Idx.got e2 e1 ?_|refine gA ?_|(refine gB ?_ ?_<;>intro h)|(refine gI ?_;intro x hx)|(refine gJ ?_;intro j x hj hx)|refine gV ?_|refine gC (TG p b r.a r.b hf) ?_|refine gC (KJ x.steps r.b) ?_|intro _))<;>try (conv=>whnf)
  refine⟨?_,rfl,trivial⟩
  simp [fails,hk,e3]
 |work hk ha hb hc hlt=>
  (repeat' ((conv=>whnf);first|with_reducible refine Br.yes (decide_eq_true (by omega)) ?_|with_reducible refine Br.no (decide_eq_false (by omega)) ?_|refine gA ?_|(refine gB ?_ ?_<;>intro h)|(refine gI ?_;intro x hx)|(refine gJ ?_;intro j x hj hx)|refine gV ?_|refine gC (QO p b r.a r.b r.c hf ha) ?_|intro _))<;>try (conv=>whnf)
  refine⟨?_,rfl,trivial⟩
  simp [fails,hk]
 |pair hk ha hb hc hlt=>
  obtain⟨k,a,x,y,m,e1,hg⟩:=AQ hf hb
  obtain⟨k',a',x',y',m',e1',hg'⟩:=AQ hf hc
  (repeat' ((conv=>whnf);first|with_reducible refine Br.yes (decide_eq_true (by omega)) ?_|with_reducible refine Br.no (decide_eq_false (by omega)) ?_|refine gA ?_|(refine gB ?_ ?_<;>intro h)|(refine gI ?_;intro x hx)|(refine gJ ?_;intro j x hj hx)|refine gV ?_|refine gC (TH p b r.a r.b r.c hg e1 hg' e1' hok ha) ?_|intro _))<;>try (conv=>whnf)
  refine⟨?_,rfl,trivial⟩
  simp [fails,hk]
 |KT hk ha=>
  (repeat' ((conv=>whnf);first|with_reducible refine Br.yes (decide_eq_true (by omega)) ?_|with_reducible refine Br.no (decide_eq_false (by omega)) ?_|refine gA ?_|(refine gB ?_ ?_<;>intro h)|(refine gI ?_;intro x hx)|(refine gJ ?_;intro j x hj hx)|refine gV ?_|refine gC (Nq p b r.a hf ha) ?_|intro _))<;>try (conv=>whnf)
  refine⟨?_,rfl,trivial⟩
  simp [fails,hk]
theorem pO (p:Proj) (b:Dom) (r:Rul) (hp:p.fine):Con 352 [.d p.av,.d b.av,.d r.av] (.d (.bool (refutes p b r))):=by
 refine con Tryz.func352 rfl rfl Tryz.call352 rfl fun hwf=>?_
 cases hf:aQ p b with
 |false=>
  (repeat' ((conv=>whnf);first|refine gA ?_|(refine gB ?_ ?_<;>intro h)|refine gC (bX p b hp) ?_|intro _))<;>try (conv=>whnf)
  refine⟨?_,rfl,trivial⟩;simp [refutes,hf]
 |true=>
 cases ho:iC p r with
 |false=>
  (repeat' ((conv=>whnf);first|refine gA ?_|(refine gB ?_ ?_<;>intro h)|refine gC (bX p b hp) ?_|refine gC (dY b) ?_|refine gC (jK p r hp) ?_|intro _))<;>try (conv=>whnf)
  all_goals (refine⟨?_,rfl,trivial⟩;simp [refutes,hf,ho, *])
 |true=>
  (repeat' ((conv=>whnf);first|refine gA ?_|(refine gB ?_ ?_<;>intro h)|refine gC (bX p b hp) ?_|refine gC (dY b) ?_|refine gC (jK p r hp) ?_|refine gC (rP p b r hf ho) ?_|intro _))<;>try (conv=>whnf)
  all_goals (refine⟨?_,rfl,trivial⟩;simp [refutes,hf,ho, *])
theorem VH (l:List Lit):against OO l=OO:=by
 induction l with
 |nil=>rfl
 |cons x r ih=>rw [against,List.foldl_cons,show restrict OO (negate x)=OO by simp [restrict,lF,OO]];exact ih
theorem uh (p:Proj) (l:List Lit) (hp:p.fine):Con 342 [.d p.av,.d (lits l)] (.d (nX p l).av):=by
 refine con Tryz.func342 rfl rfl Tryz.call342 rfl fun hwf=>?_
 cases ho:bE p with
 |false=>
  (repeat' ((conv=>whnf);first|refine gA ?_|(refine gB ?_ ?_<;>intro h)|refine gC (dO p hp) ?_|intro _))<;>try (conv=>whnf)
  refine⟨?_,rfl,trivial⟩
  rw [nX,pF,if_neg (by simp [ho]),VH];rfl
 |true=>
  (repeat' ((conv=>whnf);first|refine gA ?_|(refine gB ?_ ?_<;>intro h)|refine gC (dO p hp) ?_|refine gC (xM p (uT ho)) ?_|refine gC (rO (je p) l (uS p)) ?_|intro _))<;>try (conv=>whnf)
  refine⟨?_,rfl,trivial⟩
  rw [nX,pF,if_pos ho]
theorem Da (p:Proj) (r:Rul) (l:List Lit) (hp:p.fine):Con 372 [.d p.av,.d r.av,.d (lits l)] (.d (.bool (follows p r l))):=by
 refine con Tryz.func372 rfl rfl Tryz.call372 rfl fun hwf=>?_
 (repeat' ((conv=>whnf);first|refine gA ?_|(refine gB ?_ ?_<;>intro h)|refine gC (BU p l hp) ?_|refine gC (nY p l hp) ?_|refine gC (jM p (nX p l) r hp) ?_|intro _))<;>try (conv=>whnf)
 all_goals (refine⟨?_,rfl,trivial⟩;simp [follows, *])
theorem Db (p:Proj) (r:Rul) (l:List Lit) (hp:p.fine):Con 341 [.d p.av,.d r.av,.d (lits l)] (.d (.bool (follows p r l))):=by
 refine con Tryz.func341 rfl rfl Tryz.call341 rfl fun hwf=>?_
 (repeat' ((conv=>whnf);first|refine gA ?_|(refine gB ?_ ?_<;>intro h)|refine gC (BX p l hp) ?_|refine gC (uh p l hp) ?_|refine gC (pO p (nX p l) r hp) ?_|intro _))<;>try (conv=>whnf)
 all_goals (refine⟨?_,rfl,trivial⟩;simp [follows, *])
end Go.Proofs.YtglikcnmgnlejaaGreat.Abs
