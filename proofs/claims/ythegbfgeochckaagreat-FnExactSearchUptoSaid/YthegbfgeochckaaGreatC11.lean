/- Part of a proof. -/
import Derived.Test.YthegbfgeochckaaGreatC10
set_option linter.all false
set_option maxRecDepth 20000
set_option maxHeartbeats 0
namespace Go.Proofs.YthegbfgeochckaaGreat.Abs
open Go.Proofs
inductive adA (p:Proj) (r:Rul):Prop
 |link (h:r.kind=1) (k:Nat) (l:Link) (e:r.a=k) (hl:p.links[k]? =some l)
 |fin (h:r.kind=2) (ha:dI p r.a=true)
 |time (h:r.kind=3) (ha:fM p r.a=true) (hb:cu r.b=true)
 |work (h:r.kind=4) (ha:fM p r.a=true) (hb:cu r.b=true) (hc:cu r.c=true) (hlt:r.b < r.c)
 |pair (h:r.kind=5) (ha:gu p r.a=true) (hb:dI p r.b=true) (hc:dI p r.c=true) (hlt:r.b < r.c)
 |Cz (h:r.kind=6) (ha:kV p r.a=true)
theorem CK {p:Proj} {r:Rul} (h:iZ p r=true):adA p r:=by
 simp only [iZ,Bool.and_eq_true] at h
 replace h:=h.2
 split at h
 ·rename_i hk
  simp only [Bool.and_eq_true] at h
  have hn:=within_iff.1 h.1.1
  exact .link hk r.a.toNat (p.links[r.a.toNat]'(by omega)) (by omega) (by simp)
 split at h
 ·rename_i hk
  simp only [Bool.and_eq_true] at h
  exact .fin hk h.1.1
 split at h
 ·rename_i hk
  simp only [Bool.and_eq_true] at h
  exact .time hk h.1.1 h.1.2
 split at h
 ·rename_i hk
  simp only [Bool.and_eq_true,decide_eq_true_eq] at h
  exact .work hk h.1.1.1 h.1.1.2 h.1.2 h.2
 split at h
 ·rename_i hk
  simp only [Bool.and_eq_true,decide_eq_true_eq] at h
  exact .pair hk h.1.1.1 h.1.1.2 h.1.2 h.2
 split at h
 ·rename_i hk
  simp only [Bool.and_eq_true] at h
  exact .Cz hk h.1.1
 ·simp at h
theorem Eb {p:Proj} {b:Dom} (hf:aW p b=true) {n:Int} (h:dI p n=true):∃(k:Nat) (a:aB) (x y:Int) (m:List Int),n=k/\eG p b k a x y m:=by
 obtain⟨k,_,e1,e2⟩:=jr h
 obtain⟨a,x,y,m,hg⟩:=dN hf (List.getElem?_eq_some_iff.1 e2).1
 exact⟨k,a,x,y,m,e1,hg⟩
theorem jE (p:Proj) (b:Dom) (r:Rul) (hp:p.fine):Con 238 [.d p.av,.d b.av,.d r.av] (.d (.bool (refutes p b r))):=by
 refine con Tryz.func238 rfl rfl Tryz.call238 rfl fun hwf=>?_
 cases hf:aW p b with
 |false=>
  (repeat' ((conv=>whnf);first|refine gA ?_|refine gC (bD p b hp) ?_|intro _))
  refine⟨?_,rfl,trivial⟩;simp [refutes,hf]
 |true=>
 cases he:jB b with
 |true=>
  (repeat' ((conv=>whnf);first|refine gA ?_|refine gC (bD p b hp) ?_|refine gC (bP b) ?_|intro _))
  refine⟨?_,rfl,trivial⟩;simp [refutes,hf,he]
 |false=>
 cases ho:iZ p r with
 |false=>
  (repeat' ((conv=>whnf);first|refine gA ?_|refine gC (bD p b hp) ?_|refine gC (bP b) ?_|refine gC (fF p r hp) ?_|intro _))
  refine⟨?_,rfl,trivial⟩;simp [refutes,hf,he,ho]
 |true=>
 have hu:usable p b=true:=by simp [usable,hf,he]
 have hok:=(bA hf).1
 have e:refutes p b r=fails p b r:=by simp [refutes,hf,he,ho]
 rw [e]
 cases CK ho with
 |link hk k l e1 hl=>
  have hlo:=(bX hok).link k l hl
  (repeat' ((conv=>whnf);first|(with_reducible first|refine Br.yes (decide_eq_true (by omega)) ?_|refine Idx.got hl e1 ?_)|refine gA ?_|refine gC (bD p b hp) ?_|refine gC (bP b) ?_|refine gC (fF p r hp) ?_|refine gC (Kz p b l hf hlo) ?_|intro _))
  refine⟨?_,rfl,trivial⟩
  simp [fails,hk,pV,e1,List.getD_eq_getElem?_getD,hl]
 |fin hk ha=>
  obtain⟨k,a,x,y,m,e1,hg⟩:=Eb hf ha
  have hd:=kX hg.aok m
  rw [<- qg hg] at hd
  have h1:=hg.lob
  (repeat' ((conv=>whnf);first|(with_reducible first|refine Br.yes (decide_eq_true (by omega)) ?_|refine Br.no (decide_eq_false (by omega)) ?_|refine Idx.got hg.lo e1 ?_)|refine gA ?_|refine gC (bD p b hp) ?_|refine gC (bP b) ?_|refine gC (fF p r hp) ?_|refine gC (tX p b r.a hg e1) ?_|intro _))
  refine⟨?_,rfl,trivial⟩
  simp [fails,hk,e1,List.getD_eq_getElem?_getD,hg.lo]
 |time hk ha hb=>
  obtain⟨ρ,x,e1,e2,e3⟩:=vT ha
  (repeat' ((conv=>whnf);first|(with_reducible first|refine Br.yes (decide_eq_true (by omega)) ?_|refine Br.no (decide_eq_false (by omega)) ?_|refine Idx.got e2 e1 ?_)|refine gA ?_|refine gC (bD p b hp) ?_|refine gC (bP b) ?_|refine gC (fF p r hp) ?_|refine gC (CB p b r.a r.b hf) ?_|refine gC (uT x.steps r.b) ?_|intro _))
  refine⟨?_,rfl,trivial⟩
  simp [fails,hk,e3]
 |work hk ha hb hc hlt=>
  (repeat' ((conv=>whnf);first|(with_reducible first|refine Br.yes (decide_eq_true (by omega)) ?_|refine Br.no (decide_eq_false (by omega)) ?_)|refine gA ?_|refine gC (bD p b hp) ?_|refine gC (bP b) ?_|refine gC (fF p r hp) ?_|refine gC (IV p b r.a r.b r.c hp hu ha hb hc hlt) ?_|intro _))
  refine⟨?_,rfl,trivial⟩
  simp [fails,hk]
 |pair hk ha hb hc hlt=>
  obtain⟨k,a,x,y,m,e1,hg⟩:=Eb hf hb
  obtain⟨k',a',x',y',m',e1',hg'⟩:=Eb hf hc
  (repeat' ((conv=>whnf);first|(with_reducible first|refine Br.yes (decide_eq_true (by omega)) ?_|refine Br.no (decide_eq_false (by omega)) ?_)|refine gA ?_|refine gC (bD p b hp) ?_|refine gC (bP b) ?_|refine gC (fF p r hp) ?_|refine gC (IX p b r.a r.b r.c hg e1 hg' e1' hp hu ha hb hc (by omega)) ?_|intro _))
  refine⟨?_,rfl,trivial⟩
  simp [fails,hk]
 |Cz hk ha=>
  (repeat' ((conv=>whnf);first|with_reducible refine Br.no (decide_eq_false (by omega)) ?_|refine gA ?_|refine gC (bD p b hp) ?_|refine gC (bP b) ?_|refine gC (fF p r hp) ?_|refine gC (IY p b r.a hf ha) ?_|intro _))
  refine⟨?_,rfl,trivial⟩
  simp [fails,hk]
theorem uV (p:Proj) (b:Dom) (r:Rul) (hf:aW p b=true) (ho:iZ p r=true):Con 212 [.d p.av,.d b.av,.d r.av] (.d (.bool (fails p b r))):=by
 refine con Tryz.func212 rfl rfl Tryz.call212 rfl fun hwf=>?_
 have hok:=(bA hf).1
 cases CK ho with
 |link hk k l e1 hl=>
  have hlo:=(bX hok).link k l hl
  simp only [nM,Bool.and_eq_true] at hlo
  obtain⟨k1,_,f1,g1⟩:=jr hlo.1.1.1
  obtain⟨k2,_,f2,g2⟩:=jr hlo.1.1.2
  have agx:=within_iff.1 hlo.2
  obtain⟨a,x,y,m,hg⟩:=dN hf (List.getElem?_eq_some_iff.1 g1).1
  obtain⟨a',x',y',m',hg'⟩:=dN hf (List.getElem?_eq_some_iff.1 g2).1
  have hd:=kX hg.aok m
  rw [<- qg hg] at hd
  have h1:=hg.lob
  (repeat' ((conv=>whnf);first|(with_reducible first|refine Br.yes (decide_eq_true (by omega)) ?_|refine Idx.got hl e1 ?_|refine Idx.got hg.lo f1 ?_|refine Idx.got hg'.hi f2 ?_)|refine gA ?_|(refine gB ?_ ?_<;>intro h)|refine gC (tY p b _ hg f1) ?_|intro _))
  all_goals refine⟨?_,rfl,trivial⟩
  all_goals
   have e:fails p b r=zn p b l:=by simp [fails,hk,pV,e1,List.getD_eq_getElem?_getD,hl]
   rw [e]
   simp only [AV.bool.injEq]
   rw [Bool.eq_iff_iff]
   simp [zn,f1,f2,List.getD_eq_getElem?_getD,hg.lo,hg'.hi, *]
  all_goals omega
 |fin hk ha=>
  obtain⟨k,a,x,y,m,e1,hg⟩:=Eb hf ha
  have hd:=kX hg.aok m
  rw [<- qg hg] at hd
  have h1:=hg.lob
  (repeat' ((conv=>whnf);first|(with_reducible first|refine Br.yes (decide_eq_true (by omega)) ?_|refine Br.no (decide_eq_false (by omega)) ?_|refine Idx.got hg.lo e1 ?_)|refine gA ?_|refine gC (tY p b r.a hg e1) ?_|intro _))
  refine⟨?_,rfl,trivial⟩
  simp [fails,hk,e1,List.getD_eq_getElem?_getD,hg.lo]
 |time hk ha hb=>
  obtain⟨ρ,x,e1,e2,e3⟩:=vT ha
  (repeat' ((conv=>whnf);first|(with_reducible first|refine Br.yes (decide_eq_true (by omega)) ?_|refine Br.no (decide_eq_false (by omega)) ?_|refine Idx.got e2 e1 ?_)|refine gA ?_|refine gC (Xr p b r.a r.b hf) ?_|refine gC (Gi x.steps r.b) ?_|intro _))
  refine⟨?_,rfl,trivial⟩
  simp [fails,hk,e3]
 |work hk ha hb hc hlt=>
  (repeat' ((conv=>whnf);first|(with_reducible first|refine Br.yes (decide_eq_true (by omega)) ?_|refine Br.no (decide_eq_false (by omega)) ?_)|refine gA ?_|refine gC (UW p b r.a r.b r.c hf ha) ?_|intro _))
  refine⟨?_,rfl,trivial⟩
  simp [fails,hk]
 |pair hk ha hb hc hlt=>
  obtain⟨k,a,x,y,m,e1,hg⟩:=Eb hf hb
  obtain⟨k',a',x',y',m',e1',hg'⟩:=Eb hf hc
  (repeat' ((conv=>whnf);first|(with_reducible first|refine Br.yes (decide_eq_true (by omega)) ?_|refine Br.no (decide_eq_false (by omega)) ?_)|refine gA ?_|refine gC (Xt p b r.a r.b r.c hg e1 hg' e1' hok ha) ?_|intro _))
  refine⟨?_,rfl,trivial⟩
  simp [fails,hk]
 |Cz hk ha=>
  (repeat' ((conv=>whnf);first|with_reducible refine Br.no (decide_eq_false (by omega)) ?_|refine gA ?_|refine gC (QT p b r.a hf ha) ?_|intro _))
  refine⟨?_,rfl,trivial⟩
  simp [fails,hk]
theorem mR (p:Proj) (b:Dom) (r:Rul) (hp:p.fine):Con 213 [.d p.av,.d b.av,.d r.av] (.d (.bool (refutes p b r))):=by
 refine con Tryz.func213 rfl rfl Tryz.call213 rfl fun hwf=>?_
 cases hf:aW p b with
 |false=>
  (repeat' ((conv=>whnf);first|refine gA ?_|refine gC (dH p b hp) ?_|intro _))
  refine⟨?_,rfl,trivial⟩;simp [refutes,hf]
 |true=>
 cases ho:iZ p r with
 |false=>
  (repeat' ((conv=>whnf);first|refine gA ?_|(refine gB ?_ ?_<;>intro h)|refine gC (dH p b hp) ?_|refine gC (fq b) ?_|refine gC (kW p r hp) ?_|intro _))
  all_goals (refine⟨?_,rfl,trivial⟩;simp [refutes,hf,ho, *])
 |true=>
  (repeat' ((conv=>whnf);first|refine gA ?_|(refine gB ?_ ?_<;>intro h)|refine gC (dH p b hp) ?_|refine gC (fq b) ?_|refine gC (kW p r hp) ?_|refine gC (uV p b r hf ho) ?_|intro _))
  all_goals (refine⟨?_,rfl,trivial⟩;simp [refutes,hf,ho, *])
theorem Zx (l:List Lit):against SI l=SI:=by
 induction l with
 |nil=>rfl
 |cons x r ih=>rw [against,List.foldl_cons,show restrict SI (negate x)=SI by simp [restrict,nY,SI]];exact ih
theorem wQ (p:Proj) (l:List Lit) (hp:p.fine):Con 198 [.d p.av,.d (lits l)] (.d (qE p l).av):=by
 refine con Tryz.func198 rfl rfl Tryz.call198 rfl fun hwf=>?_
 cases ho:bI p with
 |false=>
  (repeat' ((conv=>whnf);first|refine gA ?_|refine gC (dP p hp) ?_|intro _))
  refine⟨?_,rfl,trivial⟩
  rw [qE,rA,if_neg (by simp [ho]),Zx];rfl
 |true=>
  (repeat' ((conv=>whnf);first|refine gA ?_|refine gC (dP p hp) ?_|refine gC (Ag p (xP ho)) ?_|refine gC (uU (jV p) l (xO p)) ?_|intro _))
  refine⟨?_,rfl,trivial⟩
  rw [qE,rA,if_pos ho]
theorem Gp (p:Proj) (r:Rul) (l:List Lit) (hp:p.fine):Con 173 [.d p.av,.d r.av,.d (lits l)] (.d (.bool (follows p r l))):=by
 refine con Tryz.func173 rfl rfl Tryz.call173 rfl fun hwf=>?_
 (repeat' ((conv=>whnf);first|refine gA ?_|(refine gB ?_ ?_<;>intro h)|refine gC (Fb p l hp) ?_|refine gC (qF p l hp) ?_|refine gC (jE p (qE p l) r hp) ?_|intro _))
 all_goals (refine⟨?_,rfl,trivial⟩;simp [follows, *])
theorem Gq (p:Proj) (r:Rul) (l:List Lit) (hp:p.fine):Con 197 [.d p.av,.d r.av,.d (lits l)] (.d (.bool (follows p r l))):=by
 refine con Tryz.func197 rfl rfl Tryz.call197 rfl fun hwf=>?_
 (repeat' ((conv=>whnf);first|refine gA ?_|(refine gB ?_ ?_<;>intro h)|refine gC (Fe p l hp) ?_|refine gC (wQ p l hp) ?_|refine gC (mR p (qE p l) r hp) ?_|intro _))
 all_goals (refine⟨?_,rfl,trivial⟩;simp [follows, *])
end Go.Proofs.YthegbfgeochckaaGreat.Abs
