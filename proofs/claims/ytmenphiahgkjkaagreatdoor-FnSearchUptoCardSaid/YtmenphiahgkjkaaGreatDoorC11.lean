/- Contracts: what a rule refutes, what follows from it. -/
import Derived.Test.YtmenphiahgkjkaaGreatDoorC10
set_option linter.all false
set_option maxRecDepth 20000
set_option maxHeartbeats 0
namespace Go.Proofs.YtmenphiahgkjkaaGreatDoor.Abs
open Go.Proofs
inductive YZ (p:Proj) (r:Rul):Prop
 |link (h:r.kind=1) (k:Nat) (l:Link) (e:r.a=k) (hl:p.links[k]? =some l)
 |fin (h:r.kind=2) (ha:bJ p r.a=true)
 |time (h:r.kind=3) (ha:fT p r.a=true) (hb:eY r.b=true)
 |work (h:r.kind=4) (ha:fT p r.a=true) (hb:eY r.b=true) (hc:eY r.c=true) (hlt:r.b < r.c)
 |pair (h:r.kind=5) (ha:iE p r.a=true) (hb:bJ p r.b=true) (hc:bJ p r.c=true) (hlt:r.b < r.c)
 |Ie (h:r.kind=6) (ha:jS p r.a=true)
theorem KY {p:Proj} {r:Rul} (h:jd p r=true):YZ p r:=by
 simp only [jd,Bool.and_eq_true] at h
 replace h:=h.2
 split at h
 ·rename_i hk
  simp only [Bool.and_eq_true] at h
  have hn:=within_iff.1 h.1.1
  exact .link hk r.a.toNat (p.links[r.a.toNat]'(by omega)) (by omega) (by simp)
 split at h
 ·rename_i hk
  simp only [Bool.and_eq_true] at h
  exact .fin hk h.1.1
 split at h
 ·rename_i hk
  simp only [Bool.and_eq_true] at h
  exact .time hk h.1.1 h.1.2
 split at h
 ·rename_i hk
  simp only [Bool.and_eq_true,decide_eq_true_eq] at h
  exact .work hk h.1.1.1 h.1.1.2 h.1.2 h.2
 split at h
 ·rename_i hk
  simp only [Bool.and_eq_true,decide_eq_true_eq] at h
  exact .pair hk h.1.1.1 h.1.1.2 h.1.2 h.2
 split at h
 ·rename_i hk
  simp only [Bool.and_eq_true] at h
  exact .Ie hk h.1.1
 ·simp at h
theorem QD {p:Proj} {b:Dom} (hf:ak p b=true) {n:Int} (h:bJ p n=true):∃(k:Nat) (a:aC) (x y:Int) (m:List Int),n=k∧fV p b k a x y m:=by
 obtain⟨k,_,e1,e2⟩:=nJ h
 obtain⟨a,x,y,m,hg⟩:=dL hf (List.getElem?_eq_some_iff.1 e2).1
 exact⟨k,a,x,y,m,e1,hg⟩
theorem iG (p:Proj) (b:Dom) (r:Rul) (hp:p.fine):Con 104 [.d p.av,.d b.av,.d r.av] (.d (.bool (refutes p b r))):=by
 refine con Tryz.func104 rfl rfl Tryz.call104 rfl fun hwf=>?_
 cases hf:ak p b with
 |false=>
  (repeat' ((conv=>whnf);first|refine gA ?_|(refine gB ?_ ?_<;>intro h)|(refine gI ?_;intro x hx)|(refine gJ ?_;intro j x hj hx)|refine gV ?_|refine gC (aT p b hp) ?_|intro _))<;>try (conv=>whnf)
  refine⟨?_,rfl,trivial⟩;simp [refutes,hf]
 |true=>
 cases he:aP b with
 |true=>
  (repeat' ((conv=>whnf);first|refine gA ?_|(refine gB ?_ ?_<;>intro h)|(refine gI ?_;intro x hx)|(refine gJ ?_;intro j x hj hx)|refine gV ?_|refine gC (aT p b hp) ?_|refine gC (aY b) ?_|intro _))<;>try (conv=>whnf)
  refine⟨?_,rfl,trivial⟩;simp [refutes,hf,he]
 |false=>
 cases ho:jd p r with
 |false=>
  (repeat' ((conv=>whnf);first|refine gA ?_|(refine gB ?_ ?_<;>intro h)|(refine gI ?_;intro x hx)|(refine gJ ?_;intro j x hj hx)|refine gV ?_|refine gC (aT p b hp) ?_|refine gC (aY b) ?_|refine gC (eH p r hp) ?_|intro _))<;>try (conv=>whnf)
  refine⟨?_,rfl,trivial⟩;simp [refutes,hf,he,ho]
 |true=>
 have hu:usable p b=true:=by simp [usable,hf,he]
 have hok:=(bZ hf).1
 have e:refutes p b r=fails p b r:=by simp [refutes,hf,he,ho]
 rw [e]
 cases KY ho with
 |link hk k l e1 hl=>
  have hlo:=(fG hok).link k l hl
  (repeat' ((conv=>whnf);first|with_reducible refine Br.yes (decide_eq_true (by omega)) ?_|with_reducible refine Br.no (decide_eq_false (by omega)) ?_|with_reducible refine Idx.got hl e1 ?_|refine gA ?_|(refine gB ?_ ?_<;>intro h)|(refine gI ?_;intro x hx)|(refine gJ ?_;intro j x hj hx)|refine gV ?_|refine gC (aT p b hp) ?_|refine gC (aY b) ?_|refine gC (eH p r hp) ?_|refine gC (GD p b l hf hlo) ?_|intro _))<;>try (conv=>whnf)
  refine⟨?_,rfl,trivial⟩
  simp [fails,hk,iF,e1,List.getD_eq_getElem?_getD,hl]
 |fin hk ha=>
  obtain⟨k,a,x,y,m,e1,hg⟩:=QD hf ha
  have hd:=rQ hg.aok m
  rw [← zI hg] at hd
  have h1:=hg.lob
  (repeat' ((conv=>whnf);first|with_reducible refine Br.yes (decide_eq_true (by omega)) ?_|with_reducible refine Br.no (decide_eq_false (by omega)) ?_|with_reducible refine Idx.got hg.lo e1 ?_|refine gA ?_|(refine gB ?_ ?_<;>intro h)|(refine gI ?_;intro x hx)|(refine gJ ?_;intro j x hj hx)|refine gV ?_|refine gC (aT p b hp) ?_|refine gC (aY b) ?_|refine gC (eH p r hp) ?_|refine gC (qd p b r.a hg e1) ?_|intro _))<;>try (conv=>whnf)
  refine⟨?_,rfl,trivial⟩
  simp [fails,hk,e1,List.getD_eq_getElem?_getD,hg.lo]
 |time hk ha hb=>
  obtain⟨ρ,x,e1,e2,e3⟩:=GA ha
  (repeat' ((conv=>whnf);first|with_reducible refine Br.yes (decide_eq_true (by omega)) ?_|with_reducible refine Br.no (decide_eq_false (by omega)) ?_|with_reducible refine Idx.got e2 e1 ?_|refine gA ?_|(refine gB ?_ ?_<;>intro h)|(refine gI ?_;intro x hx)|(refine gJ ?_;intro j x hj hx)|refine gV ?_|refine gC (aT p b hp) ?_|refine gC (aY b) ?_|refine gC (eH p r hp) ?_|refine gC (zJ p b r.a r.b hf) ?_|refine gC (ru x.steps r.b) ?_|intro _))<;>try (conv=>whnf)
  refine⟨?_,rfl,trivial⟩
  simp [fails,hk,e3]
 |work hk ha hb hc hlt=>
  (repeat' ((conv=>whnf);first|with_reducible refine Br.yes (decide_eq_true (by omega)) ?_|with_reducible refine Br.no (decide_eq_false (by omega)) ?_|refine gA ?_|(refine gB ?_ ?_<;>intro h)|(refine gI ?_;intro x hx)|(refine gJ ?_;intro j x hj hx)|refine gV ?_|refine gC (aT p b hp) ?_|refine gC (aY b) ?_|refine gC (eH p r hp) ?_|refine gC (EN p b r.a r.b r.c hp hu ha hb hc hlt) ?_|intro _))<;>try (conv=>whnf)
  refine⟨?_,rfl,trivial⟩
  simp [fails,hk]
 |pair hk ha hb hc hlt=>
  obtain⟨k,a,x,y,m,e1,hg⟩:=QD hf hb
  obtain⟨k',a',x',y',m',e1',hg'⟩:=QD hf hc
  (repeat' ((conv=>whnf);first|with_reducible refine Br.yes (decide_eq_true (by omega)) ?_|with_reducible refine Br.no (decide_eq_false (by omega)) ?_|refine gA ?_|(refine gB ?_ ?_<;>intro h)|(refine gI ?_;intro x hx)|(refine gJ ?_;intro j x hj hx)|refine gV ?_|refine gC (aT p b hp) ?_|refine gC (aY b) ?_|refine gC (eH p r hp) ?_|refine gC (EP p b r.a r.b r.c hg e1 hg' e1' hp hu ha hb hc (by omega)) ?_|intro _))<;>try (conv=>whnf)
  refine⟨?_,rfl,trivial⟩
  simp [fails,hk]
 |Ie hk ha=>
  (repeat' ((conv=>whnf);first|with_reducible refine Br.yes (decide_eq_true (by omega)) ?_|with_reducible refine Br.no (decide_eq_false (by omega)) ?_|refine gA ?_|(refine gB ?_ ?_<;>intro h)|(refine gI ?_;intro x hx)|(refine gJ ?_;intro j x hj hx)|refine gV ?_|refine gC (aT p b hp) ?_|refine gC (aY b) ?_|refine gC (eH p r hp) ?_|refine gC (ER p b r.a hf ha) ?_|intro _))<;>try (conv=>whnf)
  refine⟨?_,rfl,trivial⟩
  simp [fails,hk]
theorem Db (p:Proj) (r:Rul) (l:List Lit) (hp:p.fine):Con 67 [.d p.av,.d r.av,.d (lits l)] (.d (.bool (follows p r l))):=by
 refine con Tryz.func67 rfl rfl Tryz.call67 rfl fun hwf=>?_
 (repeat' ((conv=>whnf);first|refine gA ?_|(refine gB ?_ ?_<;>intro h)|refine gC (BK p l hp) ?_|refine gC (nL p l hp) ?_|refine gC (iG p (fP p l) r hp) ?_|intro _))<;>try (conv=>whnf)
 all_goals (refine⟨?_,rfl,trivial⟩;simp [follows, *])
end Go.Proofs.YtmenphiahgkjkaaGreatDoor.Abs
