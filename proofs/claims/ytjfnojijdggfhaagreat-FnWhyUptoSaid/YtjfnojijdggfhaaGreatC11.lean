/- Contracts: what a rule refutes, what follows from it. -/
import Derived.Test.YtjfnojijdggfhaaGreatC10
set_option linter.all false
set_option maxRecDepth 20000
set_option maxHeartbeats 0
namespace Go.Proofs.YtjfnojijdggfhaaGreat.Abs
open Go.Proofs
inductive VJ (p:Proj) (r:Rul):Prop
 |link (h:r.kind=1) (k:Nat) (l:Link) (e:r.a=k) (hl:p.links[k]? =some l)
 |fin (h:r.kind=2) (ha:bg p r.a=true)
 |time (h:r.kind=3) (ha:eZ p r.a=true) (hb:dD r.b=true)
 |work (h:r.kind=4) (ha:eZ p r.a=true) (hb:dD r.b=true) (hc:dD r.c=true) (hlt:r.b < r.c)
 |pair (h:r.kind=5) (ha:gq p r.a=true) (hb:bg p r.b=true) (hc:bg p r.c=true) (hlt:r.b < r.c)
 |Ct (h:r.kind=6) (ha:jk p r.a=true)
theorem CK {p:Proj} {r:Rul} (h:fT p r=true):VJ p r:=by
 simp only [fT,Bool.and_eq_true] at h
 replace h:=h.2
 split at h
 ·rename_i hk
  simp only [Bool.and_eq_true] at h
  have hn:=within_iff.1 h.1.1
  exact .link hk r.a.toNat (p.links[r.a.toNat]'(by omega)) (by omega) (by simp)
 split at h
 ·rename_i hk
  simp only [Bool.and_eq_true] at h
  exact .fin hk h.1.1
 split at h
 ·rename_i hk
  simp only [Bool.and_eq_true] at h
  exact .time hk h.1.1 h.1.2
 split at h
 ·rename_i hk
  simp only [Bool.and_eq_true,decide_eq_true_eq] at h
  exact .work hk h.1.1.1 h.1.1.2 h.1.2 h.2
 split at h
 ·rename_i hk
  simp only [Bool.and_eq_true,decide_eq_true_eq] at h
  exact .pair hk h.1.1.1 h.1.1.2 h.1.2 h.2
 split at h
 ·rename_i hk
  simp only [Bool.and_eq_true] at h
  exact .Ct hk h.1.1
 ·simp at h
theorem NG {p:Proj} {b:Dom} (hf:ay p b=true) {n:Int} (h:bg p n=true):∃(k:Nat) (a:aK) (x y:Int) (m:List Int),n=k∧fM p b k a x y m:=by
 obtain⟨k,_,e1,e2⟩:=lT h
 obtain⟨a,x,y,m,hg⟩:=eP hf (List.getElem?_eq_some_iff.1 e2).1
 exact⟨k,a,x,y,m,e1,hg⟩
theorem fJ (p:Proj) (b:Dom) (r:Rul) (hp:p.fine):Con 40 [.d p.av,.d b.av,.d r.av] (.d (.bool (refutes p b r))):=by
 refine con Tryz.func40 rfl rfl Tryz.call40 rfl fun hwf=>?_
 cases hf:ay p b with
 |false=>
  (repeat' ((conv=>whnf);first|refine gA ?_|(refine gB ?_ ?_<;>intro h)|(refine gI ?_;intro x hx)|(refine gJ ?_;intro j x hj hx)|refine gV ?_|refine gC (aQ p b hp) ?_|intro _))<;>try (conv=>whnf)
  refine⟨?_,rfl,trivial⟩;simp [refutes,hf]
 |true=>
 cases he:aR b with
 |true=>
  (repeat' ((conv=>whnf);first|refine gA ?_|(refine gB ?_ ?_<;>intro h)|(refine gI ?_;intro x hx)|(refine gJ ?_;intro j x hj hx)|refine gV ?_|refine gC (aQ p b hp) ?_|refine gC (bG b) ?_|intro _))<;>try (conv=>whnf)
  refine⟨?_,rfl,trivial⟩;simp [refutes,hf,he]
 |false=>
 cases ho:fT p r with
 |false=>
  (repeat' ((conv=>whnf);first|refine gA ?_|(refine gB ?_ ?_<;>intro h)|(refine gI ?_;intro x hx)|(refine gJ ?_;intro j x hj hx)|refine gV ?_|refine gC (aQ p b hp) ?_|refine gC (bG b) ?_|refine gC (dU p r hp) ?_|intro _))<;>try (conv=>whnf)
  refine⟨?_,rfl,trivial⟩;simp [refutes,hf,he,ho]
 |true=>
 have hu:usable p b=true:=by simp [usable,hf,he]
 have hok:=(cZ hf).1
 have e:refutes p b r=fails p b r:=by simp [refutes,hf,he,ho]
 rw [e]
 cases CK ho with
 |link hk k l e1 hl=>
  have hlo:=(fB hok).link k l hl
  (repeat' ((conv=>whnf);first|with_reducible refine Br.yes (decide_eq_true (by omega)) ?_|with_reducible refine Br.no (decide_eq_false (by omega)) ?_|with_reducible refine Idx.got hl e1 ?_|refine gA ?_|(refine gB ?_ ?_<;>intro h)|(refine gI ?_;intro x hx)|(refine gJ ?_;intro j x hj hx)|refine gV ?_|refine gC (aQ p b hp) ?_|refine gC (bG b) ?_|refine gC (dU p r hp) ?_|refine gC (Eo p b l hf hlo) ?_|intro _))<;>try (conv=>whnf)
  refine⟨?_,rfl,trivial⟩
  simp [fails,hk,gu,e1,List.getD_eq_getElem?_getD,hl]
 |fin hk ha=>
  obtain⟨k,a,x,y,m,e1,hg⟩:=NG hf ha
  have hd:=pF hg.aok m
  rw [← xB hg] at hd
  have h1:=hg.lob
  (repeat' ((conv=>whnf);first|with_reducible refine Br.yes (decide_eq_true (by omega)) ?_|with_reducible refine Br.no (decide_eq_false (by omega)) ?_|with_reducible refine Idx.got hg.lo e1 ?_|refine gA ?_|(refine gB ?_ ?_<;>intro h)|(refine gI ?_;intro x hx)|(refine gJ ?_;intro j x hj hx)|refine gV ?_|refine gC (aQ p b hp) ?_|refine gC (bG b) ?_|refine gC (dU p r hp) ?_|refine gC (nM p b r.a hg e1) ?_|intro _))<;>try (conv=>whnf)
  refine⟨?_,rfl,trivial⟩
  simp [fails,hk,e1,List.getD_eq_getElem?_getD,hg.lo]
 |time hk ha hb=>
  obtain⟨ρ,x,e1,e2,e3⟩:=En ha
  (repeat' ((conv=>whnf);first|with_reducible refine Br.yes (decide_eq_true (by omega)) ?_|with_reducible refine Br.no (decide_eq_false (by omega)) ?_|with_reducible refine Idx.got e2 e1 ?_|refine gA ?_|(refine gB ?_ ?_<;>intro h)|(refine gI ?_;intro x hx)|(refine gJ ?_;intro j x hj hx)|refine gV ?_|refine gC (aQ p b hp) ?_|refine gC (bG b) ?_|refine gC (dU p r hp) ?_|refine gC (xC p b r.a r.b hf) ?_|refine gC (oO x.steps r.b) ?_|intro _))<;>try (conv=>whnf)
  refine⟨?_,rfl,trivial⟩
  simp [fails,hk,e3]
 |work hk ha hb hc hlt=>
  (repeat' ((conv=>whnf);first|with_reducible refine Br.yes (decide_eq_true (by omega)) ?_|with_reducible refine Br.no (decide_eq_false (by omega)) ?_|refine gA ?_|(refine gB ?_ ?_<;>intro h)|(refine gI ?_;intro x hx)|(refine gJ ?_;intro j x hj hx)|refine gV ?_|refine gC (aQ p b hp) ?_|refine gC (bG b) ?_|refine gC (dU p r hp) ?_|refine gC (CB p b r.a r.b r.c hp hu ha hb hc hlt) ?_|intro _))<;>try (conv=>whnf)
  refine⟨?_,rfl,trivial⟩
  simp [fails,hk]
 |pair hk ha hb hc hlt=>
  obtain⟨k,a,x,y,m,e1,hg⟩:=NG hf hb
  obtain⟨k',a',x',y',m',e1',hg'⟩:=NG hf hc
  (repeat' ((conv=>whnf);first|with_reducible refine Br.yes (decide_eq_true (by omega)) ?_|with_reducible refine Br.no (decide_eq_false (by omega)) ?_|refine gA ?_|(refine gB ?_ ?_<;>intro h)|(refine gI ?_;intro x hx)|(refine gJ ?_;intro j x hj hx)|refine gV ?_|refine gC (aQ p b hp) ?_|refine gC (bG b) ?_|refine gC (dU p r hp) ?_|refine gC (CG p b r.a r.b r.c hg e1 hg' e1' hp hu ha hb hc (by omega)) ?_|intro _))<;>try (conv=>whnf)
  refine⟨?_,rfl,trivial⟩
  simp [fails,hk]
 |Ct hk ha=>
  (repeat' ((conv=>whnf);first|with_reducible refine Br.yes (decide_eq_true (by omega)) ?_|with_reducible refine Br.no (decide_eq_false (by omega)) ?_|refine gA ?_|(refine gB ?_ ?_<;>intro h)|(refine gI ?_;intro x hx)|(refine gJ ?_;intro j x hj hx)|refine gV ?_|refine gC (aQ p b hp) ?_|refine gC (bG b) ?_|refine gC (dU p r hp) ?_|refine gC (CJ p b r.a hf ha) ?_|intro _))<;>try (conv=>whnf)
  refine⟨?_,rfl,trivial⟩
  simp [fails,hk]
theorem lU (p:Proj) (r:Rul) (l:List Lit) (hp:p.fine):Con 12 [.d p.av,.d r.av,.d (lits l)] (.d (.bool (follows p r l))):=by
 refine con Tryz.func12 rfl rfl Tryz.call12 rfl fun hwf=>?_
 (repeat' ((conv=>whnf);first|refine gA ?_|(refine gB ?_ ?_<;>intro h)|refine gC (Km p l hp) ?_|refine gC (qB p l hp) ?_|refine gC (fJ p (fu p l) r hp) ?_|intro _))<;>try (conv=>whnf)
 all_goals (refine⟨?_,rfl,trivial⟩;simp [follows, *])
end Go.Proofs.YtjfnojijdggfhaaGreat.Abs
