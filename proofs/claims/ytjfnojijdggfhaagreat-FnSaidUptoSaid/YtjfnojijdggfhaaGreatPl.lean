/- Lists without neighbours that are the same; lists of literals in order. -/
import Derived.Test.YtjfnojijdggfhaaGreatPlain
set_option linter.all false
namespace Go.Proofs.YtjfnojijdggfhaaGreat.Abs
section
variable {α:Type} [DecidableEq α]
def iI (acc:List α) (x:α):List α:=if acc.getLast? =some x then acc else acc++[x]
def cO (l:List α):List α:=l.foldl iI []
theorem kR {l:List α} {m:Nat} {x:α} (h:l[m]? =some x):cO (l.take (m+1))=iI (cO (l.take m)) x:=by
 obtain⟨hm,rfl⟩:=List.getElem?_eq_some_iff.1 h
 rw [cO,List.take_succ_eq_append_getElem hm,List.foldl_append];rfl
theorem LW (acc:List α) (x:α):(iI acc x).getLast? =some x:=by
 unfold iI
 split
 ·assumption
 ·simp
theorem xU {l:List α} {m:Nat} {x:α} (h:l[m]? =some x):(cO (l.take (m+1))).getLast? =some x:=by
 rw [kR h];exact LW _ _
theorem xV {l:List α} {m:Nat} {x:α} (h1:l[m]? =some x) (h2:l[m+1]? =some x):cO (l.take (m+2))=cO (l.take (m+1)):=by
 rw [kR h2,iI,if_pos (xU h1)]
theorem tT {l:List α} {m:Nat} {x y:α} (h1:l[m]? =some x) (h2:l[m+1]? =some y) (hn:y≠x):cO (l.take (m+2))=cO (l.take (m+1))++[y]:=by
 rw [kR h2,iI,if_neg]
 rw [xU h1]
 intro e;cases e;exact hn rfl
theorem vP {l:List α} (h:l.length < 2):cO l=l:=by
 match l,h with
 |[],_=>rfl
 |[x],_=>rfl
structure qL (l:List α) (K m:Nat) (dk:List α):Prop where
 km:K+1≤m
 ml:m≤l.length
 len:dk.length=l.length
 kept:dk.take K=cO (l.take m)
 rest:dk.drop (m - 1)=l.drop (m - 1)
theorem qL.at {l dk:List α} {K m j:Nat} (h:qL l K m dk) (hj:m - 1≤j) {x:α} (hx:l[j]? =some x):dk[j]? =some x:=by
 have:(dk.drop (m - 1))[j - (m - 1)]? =(l.drop (m - 1))[j - (m - 1)]? :=by rw [h.rest]
 rw [List.getElem?_drop,List.getElem?_drop,show m - 1+(j - (m - 1))=j by omega,hx] at this
 exact this
theorem qL.start {l:List α} {k:Nat} {x:α} (hk:cO (l.take (k+1))=l.take (k+1)) (h1:l[k]? =some x) (h2:l[k+1]? =some x):qL l (k+1) (k+2) l:=
 ⟨by omega,by have:=(List.getElem?_eq_some_iff.1 h2).1;omega,rfl,by rw [xV h1 h2,hk],rfl⟩
theorem qL.same {l dk:List α} {K m:Nat} (h:qL l K m dk) {x:α} (h1:l[m - 1]? =some x) (h2:l[m]? =some x):qL l K (m+1) dk:=by
 have km:=h.km
 obtain⟨i,rfl⟩:∃i,m=i+1:=⟨m - 1,by omega⟩
 refine⟨by omega,by have:=(List.getElem?_eq_some_iff.1 h2).1;omega,h.len,by rw [h.kept];exact (xV (m:=i) h1 h2).symm,?_⟩
 have:=h.rest
 simp only [Nat.add_sub_cancel] at this ⊢
 rw [← List.drop_drop, ← List.drop_drop,this]
theorem qL.new {l dk:List α} {K m:Nat} (h:qL l K m dk) {x y:α} (h1:l[m - 1]? =some x) (h2:l[m]? =some y) (hn:y≠x):qL l (K+1) (m+1) (dk.set K y):=by
 have km:=h.km
 have hlen:=h.len
 have hml:=(List.getElem?_eq_some_iff.1 h2).1
 obtain⟨i,rfl⟩:∃i,m=i+1:=⟨m - 1,by omega⟩
 refine⟨by omega,by omega,by simpa using h.len,?_,?_⟩
 ·rw [List.take_succ_eq_append_getElem (by simp;omega),List.take_set_of_le (Nat.le_refl _),h.kept,tT (m:=i) h1 h2 hn]
  simp
 ·have:=h.rest
  simp only [Nat.add_sub_cancel] at this ⊢
  rw [List.drop_set_of_lt (by omega), ← List.drop_drop, ← List.drop_drop,this]
end
instance:DecidableEq Lit:=fun x y=>match h:dD x y with
 |true=>.isTrue (jK.1 h)
 |false=>.isFalse fun e=>by rw [e,jK.2 rfl] at h;cases h
abbrev dN (x y:Lit):Prop:=x.act < y.act∨(x.act=y.act∧(x.kind < y.kind∨(x.kind=y.kind∧x.val < y.val)))
theorem mJ {a b:Lit}:iY a b < 0↔dN a b:=by
 simp only [iY,orI,Ga,dN]
 repeat' split
 all_goals omega
theorem JX (a b:Lit):dN a b∨a=b∨dN b a:=by
 by_cases h1:dN a b
 ·exact .inl h1
 by_cases h2:dN b a
 ·exact .inr (.inr h2)
 ·refine .inr (.inl ?_)
  cases a;cases b
  simp only [dN] at h1 h2
  simp only [Lit.mk.injEq];omega
theorem dN.ne {a b:Lit} (h:dN a b):a≠b:=by rintro rfl;unfold dN at h;omega
theorem dN.trans {a b c:Lit} (h:dN a b) (k:dN b c):dN a c:=by unfold dN at*;omega
theorem dN.irr {a:Lit}:¬ dN a a:=by unfold dN;omega
theorem AP:∀{l m:List Lit},l.Pairwise dN→m.Pairwise dN→(∀x,x∈l↔x∈m)→l=m
 |[],[],_,_,_=>rfl
 |[],y::m,_,_,h=>by have:=(h y).2 (by simp);simp at this
 |x::l,[],_,_,h=>by have:=(h x).1 (by simp);simp at this
 |x::l,y::m,hl,hm,h=>by
  rw [List.pairwise_cons] at hl hm
  have hxy:x=y:=by
   rcases List.mem_cons.1 ((h x).1 (by simp)) with e|e
   ·exact e
   ·rcases List.mem_cons.1 ((h y).2 (by simp)) with e'|e'
    ·exact e'.symm
    ·exact absurd ((hm.1 x e).trans (hl.1 y e')) dN.irr
  subst hxy
  rw [AP hl.2 hm.2 fun z=>⟨fun hz=>?_,fun hz=>?_⟩]
  ·rcases List.mem_cons.1 ((h z).1 (by simp [hz])) with e|e
   ·exact absurd (e ▸ hl.1 z hz) dN.irr
   ·exact e
  ·rcases List.mem_cons.1 ((h z).2 (by simp [hz])) with e|e
   ·exact absurd (e ▸ hm.1 z hz) dN.irr
   ·exact e
def mK:List Lit→Lit→List Lit
 |[],x=>[x]
 |y::r,x=>if iY y x < 0 then y::mK r x else if y=x then y::r else x::y::r
def dW (l:List Lit):List Lit:=l.foldl mK []
theorem xW:∀{l:List Lit} {n:Lit},l.Pairwise dN→(mK l n).Pairwise dN∧∀x,x∈mK l n↔x∈l∨x=n
 |[],n,_=>by simp [mK]
 |y::r,n,h=>by
  rw [List.pairwise_cons] at h
  rw [mK]
  split
  ·rename_i hy
   rw [mJ] at hy
   obtain⟨h1,h2⟩:=xW (n:=n) h.2
   refine⟨List.pairwise_cons.2 ⟨fun z hz=>?_,h1⟩,fun x=>?_⟩
   ·rcases (h2 z).1 hz with e'|rfl
    ·exact h.1 z e'
    ·exact hy
   ·rw [List.mem_cons,h2 x,List.mem_cons,or_assoc]
  split
  ·rename_i _ hy
   subst hy
   refine⟨List.pairwise_cons.2 h,fun x=>⟨.inl,?_⟩⟩
   rintro (hx|rfl)
   ·exact hx
   ·simp
  ·rename_i h1 h2
   rw [mJ] at h1
   have hn:dN n y:=by
    rcases JX n y with k|k|k
    ·exact k
    ·exact absurd k.symm h2
    ·exact absurd k h1
   refine⟨List.pairwise_cons.2 ⟨fun z hz=>?_,List.pairwise_cons.2 h⟩,fun x=>by rw [List.mem_cons];exact or_comm⟩
   rcases List.mem_cons.1 hz with rfl|hz
   ·exact hn
   ·exact hn.trans (h.1 z hz)
theorem vQ:∀{l o:List Lit},o.Pairwise dN→(l.foldl mK o).Pairwise dN∧∀x,x∈l.foldl mK o↔x∈o∨x∈l
 |[],o,h=>⟨h,by simp⟩
 |y::l,o,h=>by
  rw [List.foldl_cons]
  obtain⟨h1,h2⟩:=xW (n:=y) h
  obtain⟨h3,h4⟩:=vQ (l:=l) h1
  refine⟨h3,fun x=>?_⟩
  rw [h4,h2,List.mem_cons,or_assoc]
theorem kg (l:List Lit):(dW l).Pairwise dN∧∀x,x∈dW l↔x∈l:=by
 obtain⟨h1,h2⟩:=vQ (l:=l) (o:=[]) List.Pairwise.nil
 exact⟨h1,fun x=>(h2 x).trans (by simp)⟩
theorem Qf (l:List Lit) (n:Lit):(mK l n).length≤l.length+1:=by
 induction l with
 |nil=>simp [mK]
 |cons y r ih=>
  rw [mK]
  split
  ·simp;omega
  split
  ·simp
  ·simp
theorem xX (l:List Lit):(dW l).length≤l.length:=by
 have:∀(l o:List Lit),(l.foldl mK o).length≤o.length+l.length:=by
  intro l
  induction l with
  |nil=>simp
  |cons x l ih=>
   intro o
   rw [List.foldl_cons]
   have h1:=ih (mK o x)
   have h2:=Qf o x
   simp only [List.length_cons];omega
 have:=this l []
 simpa [dW] using this
abbrev Rh (x y:Lit):Prop:=¬ dN y x
theorem EF {acc:List Lit} {x:Lit} (h:acc.Pairwise dN) (ha:∀a∈acc,Rh a x):(iI acc x).Pairwise dN∧∀y,y∈iI acc x↔y∈acc∨y=x:=by
 unfold iI
 split
 ·rename_i hl
  have hm:x∈acc:=List.mem_of_getLast? hl
  exact⟨h,fun y=>⟨.inl,by rintro (hy|rfl)<;>assumption⟩⟩
 ·rename_i hl
  refine⟨List.pairwise_append.2 ⟨h,by simp,fun a hax b hb=>?_⟩,by simp⟩
  obtain rfl:=List.mem_singleton.1 hb
  have h1:=ha a hax
  rcases List.eq_nil_or_concat acc with rfl|⟨i,m,rfl⟩
  ·simp at hax
  ·rw [List.concat_eq_append] at*
   simp only [List.getLast?_append,List.getLast?_singleton,Option.some_or,Option.some.injEq] at hl
   have hm:=ha m (by simp)
   have hmb:dN m b:=by
    rcases JX m b with k|k|k
    ·exact k
    ·exact absurd k hl
    ·exact absurd k hm
   rcases List.mem_append.1 hax with hi|hi
   ·exact ((List.pairwise_append.1 h).2.2 a hi m (by simp)).trans hmb
   ·obtain rfl:=List.mem_singleton.1 hi;exact hmb
theorem sw:∀{l acc:List Lit},acc.Pairwise dN→l.Pairwise Rh→(∀a∈acc,∀x∈l,Rh a x)→(l.foldl iI acc).Pairwise dN∧∀x,x∈l.foldl iI acc↔x∈acc∨x∈l
 |[],acc,h,_,_=>⟨h,by simp⟩
 |y::l,acc,h,hl,ha=>by
  rw [List.pairwise_cons] at hl
  rw [List.foldl_cons]
  obtain⟨h1,h2⟩:=EF (x:=y) h fun a hx=>ha a hx y (by simp)
  obtain⟨h3,h4⟩:=sw (l:=l) h1 hl.2 fun a hx z hz=>by
   rcases (h2 a).1 hx with hx|rfl
   ·exact ha a hx z (by simp [hz])
   ·exact hl.1 z hz
  refine⟨h3,fun x=>?_⟩
  rw [h4,h2,List.mem_cons,or_assoc]
theorem GR (l:List Lit):cO (l.mergeSort fun x y=> !decide (iY y x < 0))=dW l:=by
 have hs:(l.mergeSort fun x y=> !decide (iY y x < 0)).Pairwise Rh:=by
  have:=List.pairwise_mergeSort (le:=fun x y:Lit=> !decide (iY y x < 0)) (fun a b c=>by simp only [Bool.not_eq_true',decide_eq_false_iff_not,mJ,dN];omega) (fun a b=>by simp only [Bool.or_eq_true,Bool.not_eq_true',decide_eq_false_iff_not,mJ,dN];omega) l
  exact this.imp (by simp only [Bool.not_eq_true',decide_eq_false_iff_not,mJ];exact id)
 obtain⟨h1,h2⟩:=sw (acc:=[]) List.Pairwise.nil hs (by simp)
 obtain⟨h3,h4⟩:=kg l
 refine AP h1 h3 fun x=>?_
 have e2:=h2 x
 rw [List.mem_mergeSort] at e2
 rw [h4]
 exact e2.trans (by simp)
end Go.Proofs.YtjfnojijdggfhaaGreat.Abs
