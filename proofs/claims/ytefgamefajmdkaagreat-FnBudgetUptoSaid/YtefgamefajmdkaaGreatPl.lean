/- Lists without neighbours that are the same; lists of literals in order. -/
import Derived.Test.YtefgamefajmdkaaGreatPlain
set_option linter.all false
namespace Go.Proofs.YtefgamefajmdkaaGreat.Abs
section
variable {α:Type} [DecidableEq α]
def iG (acc:List α) (x:α):List α:=if acc.getLast? =some x then acc else acc++[x]
def bQ (l:List α):List α:=l.foldl iG []
theorem kE {l:List α} {m:Nat} {x:α} (h:l[m]? =some x):bQ (l.take (m+1))=iG (bQ (l.take m)) x:=by
 obtain⟨hm,rfl⟩:=List.getElem?_eq_some_iff.1 h
 rw [bQ,List.take_succ_eq_append_getElem hm,List.foldl_append];rfl
theorem LK (acc:List α) (x:α):(iG acc x).getLast? =some x:=by
 unfold iG
 split
 ·assumption
 ·simp
theorem yc {l:List α} {m:Nat} {x:α} (h:l[m]? =some x):(bQ (l.take (m+1))).getLast? =some x:=by
 rw [kE h];exact LK _ _
theorem yg {l:List α} {m:Nat} {x:α} (h1:l[m]? =some x) (h2:l[m+1]? =some x):bQ (l.take (m+2))=bQ (l.take (m+1)):=by
 rw [kE h2,iG,if_pos (yc h1)]
theorem tV {l:List α} {m:Nat} {x y:α} (h1:l[m]? =some x) (h2:l[m+1]? =some y) (hn:y≠x):bQ (l.take (m+2))=bQ (l.take (m+1))++[y]:=by
 rw [kE h2,iG,if_neg]
 rw [yc h1]
 intro e;cases e;exact hn rfl
theorem vS {l:List α} (h:l.length < 2):bQ l=l:=by
 match l,h with
 |[],_=>rfl
 |[x],_=>rfl
structure qJ (l:List α) (K m:Nat) (dk:List α):Prop where
 km:K+1≤m
 ml:m≤l.length
 len:dk.length=l.length
 kept:dk.take K=bQ (l.take m)
 rest:dk.drop (m - 1)=l.drop (m - 1)
theorem qJ.at {l dk:List α} {K m j:Nat} (h:qJ l K m dk) (hj:m - 1≤j) {x:α} (hx:l[j]? =some x):dk[j]? =some x:=by
 have:(dk.drop (m - 1))[j - (m - 1)]? =(l.drop (m - 1))[j - (m - 1)]? :=by rw [h.rest]
 rw [List.getElem?_drop,List.getElem?_drop,show m - 1+(j - (m - 1))=j by omega,hx] at this
 exact this
theorem qJ.start {l:List α} {k:Nat} {x:α} (hk:bQ (l.take (k+1))=l.take (k+1)) (h1:l[k]? =some x) (h2:l[k+1]? =some x):qJ l (k+1) (k+2) l:=
 ⟨by omega,by have:=(List.getElem?_eq_some_iff.1 h2).1;omega,rfl,by rw [yg h1 h2,hk],rfl⟩
theorem qJ.same {l dk:List α} {K m:Nat} (h:qJ l K m dk) {x:α} (h1:l[m - 1]? =some x) (h2:l[m]? =some x):qJ l K (m+1) dk:=by
 have km:=h.km
 obtain⟨i,rfl⟩:∃i,m=i+1:=⟨m - 1,by omega⟩
 refine⟨by omega,by have:=(List.getElem?_eq_some_iff.1 h2).1;omega,h.len,by rw [h.kept];exact (yg (m:=i) h1 h2).symm,?_⟩
 have:=h.rest
 simp only [Nat.add_sub_cancel] at this ⊢
 rw [← List.drop_drop, ← List.drop_drop,this]
theorem qJ.new {l dk:List α} {K m:Nat} (h:qJ l K m dk) {x y:α} (h1:l[m - 1]? =some x) (h2:l[m]? =some y) (hn:y≠x):qJ l (K+1) (m+1) (dk.set K y):=by
 have km:=h.km
 have hlen:=h.len
 have hml:=(List.getElem?_eq_some_iff.1 h2).1
 obtain⟨i,rfl⟩:∃i,m=i+1:=⟨m - 1,by omega⟩
 refine⟨by omega,by omega,by simpa using h.len,?_,?_⟩
 ·rw [List.take_succ_eq_append_getElem (by simp;omega),List.take_set_of_le (Nat.le_refl _),h.kept,tV (m:=i) h1 h2 hn]
  simp
 ·have:=h.rest
  simp only [Nat.add_sub_cancel] at this ⊢
  rw [List.drop_set_of_lt (by omega), ← List.drop_drop, ← List.drop_drop,this]
end
instance:DecidableEq Lit:=fun x y=>match h:bD x y with
 |true=>.isTrue (jA.1 h)
 |false=>.isFalse fun e=>by rw [e,jA.2 rfl] at h;cases h
abbrev fD (x y:Lit):Prop:=x.act < y.act∨(x.act=y.act∧(x.kind < y.kind∨(x.kind=y.kind∧x.val < y.val)))
theorem rU {a b:Lit}:jh a b < 0↔fD a b:=by
 simp only [jh,orI,Il,fD]
 repeat' split
 all_goals omega
theorem JM (a b:Lit):fD a b∨a=b∨fD b a:=by
 by_cases h1:fD a b
 ·exact .inl h1
 by_cases h2:fD b a
 ·exact .inr (.inr h2)
 ·refine .inr (.inl ?_)
  cases a;cases b
  simp only [fD] at h1 h2
  simp only [Lit.mk.injEq];omega
theorem fD.trans {a b c:Lit} (h:fD a b) (k:fD b c):fD a c:=by unfold fD at*;omega
theorem fD.irr {a:Lit}:¬ fD a a:=by unfold fD;omega
theorem AP:∀{l m:List Lit},l.Pairwise fD→m.Pairwise fD→(∀x,x∈l↔x∈m)→l=m
 |[],[],_,_,_=>rfl
 |[],y::m,_,_,h=>by have:=(h y).2 (by simp);simp at this
 |x::l,[],_,_,h=>by have:=(h x).1 (by simp);simp at this
 |x::l,y::m,hl,hm,h=>by
  rw [List.pairwise_cons] at hl hm
  have hxy:x=y:=by
   rcases List.mem_cons.1 ((h x).1 (by simp)) with e|e
   ·exact e
   ·rcases List.mem_cons.1 ((h y).2 (by simp)) with e'|e'
    ·exact e'.symm
    ·exact absurd ((hm.1 x e).trans (hl.1 y e')) fD.irr
  subst hxy
  rw [AP hl.2 hm.2 fun z=>⟨fun hz=>?_,fun hz=>?_⟩]
  ·rcases List.mem_cons.1 ((h z).1 (by simp [hz])) with e|e
   ·exact absurd (e ▸ hl.1 z hz) fD.irr
   ·exact e
  ·rcases List.mem_cons.1 ((h z).2 (by simp [hz])) with e|e
   ·exact absurd (e ▸ hm.1 z hz) fD.irr
   ·exact e
def mE:List Lit→Lit→List Lit
 |[],x=>[x]
 |y::r,x=>if jh y x < 0 then y::mE r x else if y=x then y::r else x::y::r
def eP (l:List Lit):List Lit:=l.foldl mE []
theorem yh:∀{l:List Lit} {n:Lit},l.Pairwise fD→(mE l n).Pairwise fD∧∀x,x∈mE l n↔x∈l∨x=n
 |[],n,_=>by simp [mE]
 |y::r,n,h=>by
  rw [List.pairwise_cons] at h
  rw [mE]
  split
  ·rename_i hy
   rw [rU] at hy
   obtain⟨h1,h2⟩:=yh (n:=n) h.2
   refine⟨List.pairwise_cons.2 ⟨fun z hz=>?_,h1⟩,fun x=>?_⟩
   ·rcases (h2 z).1 hz with e'|rfl
    ·exact h.1 z e'
    ·exact hy
   ·rw [List.mem_cons,h2 x,List.mem_cons,or_assoc]
  split
  ·rename_i _ hy
   subst hy
   refine⟨List.pairwise_cons.2 h,fun x=>⟨.inl,?_⟩⟩
   rintro (hx|rfl)
   ·exact hx
   ·simp
  ·rename_i h1 h2
   rw [rU] at h1
   have hn:fD n y:=by
    rcases JM n y with k|k|k
    ·exact k
    ·exact absurd k.symm h2
    ·exact absurd k h1
   refine⟨List.pairwise_cons.2 ⟨fun z hz=>?_,List.pairwise_cons.2 h⟩,fun x=>by rw [List.mem_cons];exact or_comm⟩
   rcases List.mem_cons.1 hz with rfl|hz
   ·exact hn
   ·exact hn.trans (h.1 z hz)
theorem vT:∀{l o:List Lit},o.Pairwise fD→(l.foldl mE o).Pairwise fD∧∀x,x∈l.foldl mE o↔x∈o∨x∈l
 |[],o,h=>⟨h,by simp⟩
 |y::l,o,h=>by
  rw [List.foldl_cons]
  obtain⟨h1,h2⟩:=yh (n:=y) h
  obtain⟨h3,h4⟩:=vT (l:=l) h1
  refine⟨h3,fun x=>?_⟩
  rw [h4,h2,List.mem_cons,or_assoc]
theorem CG (l:List Lit):(eP l).Pairwise fD∧∀x,x∈eP l↔x∈l:=by
 obtain⟨h1,h2⟩:=vT (l:=l) (o:=[]) List.Pairwise.nil
 exact⟨h1,fun x=>(h2 x).trans (by simp)⟩
theorem Qe (l:List Lit) (n:Lit):(mE l n).length≤l.length+1:=by
 induction l with
 |nil=>simp [mE]
 |cons y r ih=>
  rw [mE]
  split
  ·simp;omega
  split
  ·simp
  ·simp
theorem IB (l:List Lit):(eP l).length≤l.length:=by
 have:∀(l o:List Lit),(l.foldl mE o).length≤o.length+l.length:=by
  intro l
  induction l with
  |nil=>simp
  |cons x l ih=>
   intro o
   rw [List.foldl_cons]
   have h1:=ih (mE o x)
   have h2:=Qe o x
   simp only [List.length_cons];omega
 have:=this l []
 simpa [eP] using this
abbrev Ri (x y:Lit):Prop:=¬ fD y x
theorem Ej {acc:List Lit} {x:Lit} (h:acc.Pairwise fD) (ha:∀a∈acc,Ri a x):(iG acc x).Pairwise fD∧∀y,y∈iG acc x↔y∈acc∨y=x:=by
 unfold iG
 split
 ·rename_i hl
  have hm:x∈acc:=List.mem_of_getLast? hl
  exact⟨h,fun y=>⟨.inl,by rintro (hy|rfl)<;>assumption⟩⟩
 ·rename_i hl
  refine⟨List.pairwise_append.2 ⟨h,by simp,fun a hax b hb=>?_⟩,by simp⟩
  obtain rfl:=List.mem_singleton.1 hb
  have h1:=ha a hax
  rcases List.eq_nil_or_concat acc with rfl|⟨i,m,rfl⟩
  ·simp at hax
  ·rw [List.concat_eq_append] at*
   simp only [List.getLast?_append,List.getLast?_singleton,Option.some_or,Option.some.injEq] at hl
   have hm:=ha m (by simp)
   have hmb:fD m b:=by
    rcases JM m b with k|k|k
    ·exact k
    ·exact absurd k hl
    ·exact absurd k hm
   rcases List.mem_append.1 hax with hi|hi
   ·exact ((List.pairwise_append.1 h).2.2 a hi m (by simp)).trans hmb
   ·obtain rfl:=List.mem_singleton.1 hi;exact hmb
theorem rV:∀{l acc:List Lit},acc.Pairwise fD→l.Pairwise Ri→(∀a∈acc,∀x∈l,Ri a x)→(l.foldl iG acc).Pairwise fD∧∀x,x∈l.foldl iG acc↔x∈acc∨x∈l
 |[],acc,h,_,_=>⟨h,by simp⟩
 |y::l,acc,h,hl,ha=>by
  rw [List.pairwise_cons] at hl
  rw [List.foldl_cons]
  obtain⟨h1,h2⟩:=Ej (x:=y) h fun a hx=>ha a hx y (by simp)
  obtain⟨h3,h4⟩:=rV (l:=l) h1 hl.2 fun a hx z hz=>by
   rcases (h2 a).1 hx with hx|rfl
   ·exact ha a hx z (by simp [hz])
   ·exact hl.1 z hz
  refine⟨h3,fun x=>?_⟩
  rw [h4,h2,List.mem_cons,or_assoc]
theorem Gn (l:List Lit):bQ (l.mergeSort fun x y=> !decide (jh y x < 0))=eP l:=by
 have hs:(l.mergeSort fun x y=> !decide (jh y x < 0)).Pairwise Ri:=by
  have:=List.pairwise_mergeSort (le:=fun x y:Lit=> !decide (jh y x < 0)) (fun a b c=>by simp only [Bool.not_eq_true',decide_eq_false_iff_not,rU,fD];omega) (fun a b=>by simp only [Bool.or_eq_true,Bool.not_eq_true',decide_eq_false_iff_not,rU,fD];omega) l
  exact this.imp (by simp only [Bool.not_eq_true',decide_eq_false_iff_not,rU];exact id)
 obtain⟨h1,h2⟩:=rV (acc:=[]) List.Pairwise.nil hs (by simp)
 obtain⟨h3,h4⟩:=CG l
 refine AP h1 h3 fun x=>?_
 have e2:=h2 x
 rw [List.mem_mergeSort] at e2
 rw [h4]
 exact e2.trans (by simp)
end Go.Proofs.YtefgamefajmdkaaGreat.Abs
