/- Lists without neighbours that are the same; lists of literals in order. -/
import Derived.Test.YtefgamefajmdkaaGreatPlain
set_option linter.all false
namespace Go.Proofs.YtefgamefajmdkaaGreat.Abs
section
variable {α:Type} [DecidableEq α]
def zf (acc:List α) (x:α):List α:=if acc.getLast? =some x then acc else acc++[x]
def mD (l:List α):List α:=l.foldl zf []
theorem tN {l:List α} {m:Nat} {x:α} (h:l[m]? =some x):mD (l.take (m+1))=zf (mD (l.take m)) x:=by
 obtain⟨hm,rfl⟩:=List.getElem?_eq_some_iff.1 h
 rw [mD,List.take_succ_eq_append_getElem hm,List.foldl_append];rfl
theorem Om (acc:List α) (x:α):(zf acc x).getLast? =some x:=by
 unfold zf
 split
 ·assumption
 ·simp
theorem zZ {l:List α} {m:Nat} {x:α} (h:l[m]? =some x):(mD (l.take (m+1))).getLast? =some x:=by
 rw [tN h];exact Om _ _
theorem Aa {l:List α} {m:Nat} {x:α} (h1:l[m]? =some x) (h2:l[m+1]? =some x):mD (l.take (m+2))=mD (l.take (m+1)):=by
 rw [tN h2,zf,if_pos (zZ h1)]
theorem Oo {l:List α} {m:Nat} {x y:α} (h1:l[m]? =some x) (h2:l[m+1]? =some y) (hn:y≠x):mD (l.take (m+2))=mD (l.take (m+1))++[y]:=by
 rw [tN h2,zf,if_neg]
 rw [zZ h1]
 intro e;cases e;exact hn rfl
structure Ab (l:List α) (K m:Nat) (dk:List α):Prop where
 km:K+1≤m
 ml:m≤l.length
 len:dk.length=l.length
 kept:dk.take K=mD (l.take m)
 rest:dk.drop (m - 1)=l.drop (m - 1)
theorem Ab.at {l dk:List α} {K m j:Nat} (h:Ab l K m dk) (hj:m - 1≤j) {x:α} (hx:l[j]? =some x):dk[j]? =some x:=by
 have:(dk.drop (m - 1))[j - (m - 1)]? =(l.drop (m - 1))[j - (m - 1)]? :=by rw [h.rest]
 rw [List.getElem?_drop,List.getElem?_drop,show m - 1+(j - (m - 1))=j by omega,hx] at this
 exact this
theorem Ab.start {l:List α} {k:Nat} {x:α} (hk:mD (l.take (k+1))=l.take (k+1)) (h1:l[k]? =some x) (h2:l[k+1]? =some x):Ab l (k+1) (k+2) l:=
 ⟨by omega,by have:=(List.getElem?_eq_some_iff.1 h2).1;omega,rfl,by rw [Aa h1 h2,hk],rfl⟩
theorem Ab.same {l dk:List α} {K m:Nat} (h:Ab l K m dk) {x:α} (h1:l[m - 1]? =some x) (h2:l[m]? =some x):Ab l K (m+1) dk:=by
 have km:=h.km
 obtain⟨i,rfl⟩:∃i,m=i+1:=⟨m - 1,by omega⟩
 refine⟨by omega,by have:=(List.getElem?_eq_some_iff.1 h2).1;omega,h.len,by rw [h.kept];exact (Aa (m:=i) h1 h2).symm,?_⟩
 have:=h.rest
 simp only [Nat.add_sub_cancel] at this ⊢
 rw [← List.drop_drop, ← List.drop_drop,this]
theorem Ab.new {l dk:List α} {K m:Nat} (h:Ab l K m dk) {x y:α} (h1:l[m - 1]? =some x) (h2:l[m]? =some y) (hn:y≠x):Ab l (K+1) (m+1) (dk.set K y):=by
 have km:=h.km
 have hlen:=h.len
 have hml:=(List.getElem?_eq_some_iff.1 h2).1
 obtain⟨i,rfl⟩:∃i,m=i+1:=⟨m - 1,by omega⟩
 refine⟨by omega,by omega,by simpa using h.len,?_,?_⟩
 ·rw [List.take_succ_eq_append_getElem (by simp;omega),List.take_set_of_le (Nat.le_refl _),h.kept,Oo (m:=i) h1 h2 hn]
  simp
 ·have:=h.rest
  simp only [Nat.add_sub_cancel] at this ⊢
  rw [List.drop_set_of_lt (by omega), ← List.drop_drop, ← List.drop_drop,this]
end
instance:DecidableEq Lit:=fun x y=>match h:dA x y with
 |true=>.isTrue (iY.1 h)
 |false=>.isFalse fun e=>by rw [e,iY.2 rfl] at h;cases h
abbrev kI (x y:Lit):Prop:=x.act < y.act∨(x.act=y.act∧(x.kind < y.kind∨(x.kind=y.kind∧x.val < y.val)))
theorem Fe {a b:Lit}:pJ a b < 0↔kI a b:=by
 simp only [pJ,orI,zl,kI]
 repeat' split
 all_goals omega
theorem UL (a b:Lit):kI a b∨a=b∨kI b a:=by
 by_cases h1:kI a b
 ·exact .inl h1
 by_cases h2:kI b a
 ·exact .inr (.inr h2)
 ·refine .inr (.inl ?_)
  cases a;cases b
  simp only [kI] at h1 h2
  simp only [Lit.mk.injEq];omega
theorem kI.ne {a b:Lit} (h:kI a b):a≠b:=by rintro rfl;unfold kI at h;omega
theorem kI.trans {a b c:Lit} (h:kI a b) (k:kI b c):kI a c:=by unfold kI at*;omega
def fu:List Lit→Lit→List Lit
 |[],x=>[x]
 |y::r,x=>if pJ y x < 0 then y::fu r x else if y=x then y::r else x::y::r
def bW (l:List Lit):List Lit:=l.foldl fu []
theorem Ac:∀{l:List Lit} {n:Lit},l.Pairwise kI→(fu l n).Pairwise kI∧∀x,x∈fu l n↔x∈l∨x=n
 |[],n,_=>by simp [fu]
 |y::r,n,h=>by
  rw [List.pairwise_cons] at h
  rw [fu]
  split
  ·rename_i hy
   rw [Fe] at hy
   obtain⟨h1,h2⟩:=Ac (n:=n) h.2
   refine⟨List.pairwise_cons.2 ⟨fun z hz=>?_,h1⟩,fun x=>?_⟩
   ·rcases (h2 z).1 hz with e'|rfl
    ·exact h.1 z e'
    ·exact hy
   ·rw [List.mem_cons,h2 x,List.mem_cons,or_assoc]
  split
  ·rename_i _ hy
   subst hy
   refine⟨List.pairwise_cons.2 h,fun x=>⟨.inl,?_⟩⟩
   rintro (hx|rfl)
   ·exact hx
   ·simp
  ·rename_i h1 h2
   rw [Fe] at h1
   have hn:kI n y:=by
    rcases UL n y with k|k|k
    ·exact k
    ·exact absurd k.symm h2
    ·exact absurd k h1
   refine⟨List.pairwise_cons.2 ⟨fun z hz=>?_,List.pairwise_cons.2 h⟩,fun x=>by rw [List.mem_cons];exact or_comm⟩
   rcases List.mem_cons.1 hz with rfl|hz
   ·exact hn
   ·exact hn.trans (h.1 z hz)
theorem xZ:∀{l o:List Lit},o.Pairwise kI→(l.foldl fu o).Pairwise kI∧∀x,x∈l.foldl fu o↔x∈o∨x∈l
 |[],o,h=>⟨h,by simp⟩
 |y::l,o,h=>by
  rw [List.foldl_cons]
  obtain⟨h1,h2⟩:=Ac (n:=y) h
  obtain⟨h3,h4⟩:=xZ (l:=l) h1
  refine⟨h3,fun x=>?_⟩
  rw [h4,h2,List.mem_cons,or_assoc]
theorem uG (l:List Lit):(bW l).Pairwise kI∧∀x,x∈bW l↔x∈l:=by
 obtain⟨h1,h2⟩:=xZ (l:=l) (o:=[]) List.Pairwise.nil
 exact⟨h1,fun x=>(h2 x).trans (by simp)⟩
theorem Bg (l:List Lit) (n:Lit):(fu l n).length≤l.length+1:=by
 induction l with
 |nil=>simp [fu]
 |cons y r ih=>
  rw [fu]
  split
  ·simp;omega
  split
  ·simp
  ·simp
theorem Ad (l:List Lit):(bW l).length≤l.length:=by
 have:∀(l o:List Lit),(l.foldl fu o).length≤o.length+l.length:=by
  intro l
  induction l with
  |nil=>simp
  |cons x l ih=>
   intro o
   rw [List.foldl_cons]
   have h1:=ih (fu o x)
   have h2:=Bg o x
   simp only [List.length_cons];omega
 have:=this l []
 simpa [bW] using this
theorem yc {o:List Lit} {x y:Lit} {k:Nat} (hi:o.take k++fu (o.drop k) x=fu o x) (hy:o[k]? =some y):
  (pJ y x < 0→o.take (k+1)++fu (o.drop (k+1)) x=fu o x)∧(¬ pJ y x < 0→y=x→fu o x=o)∧(¬ pJ y x < 0→y≠x→fu o x=o.take k++[x]++o.drop k):=by
 obtain⟨hk,rfl⟩:=List.getElem?_eq_some_iff.1 hy
 rw [List.drop_eq_getElem_cons hk,fu] at hi
 refine⟨fun h=>?_,fun h e=>?_,fun h e=>?_⟩
 ·rw [if_pos h] at hi
  rw [← hi,List.take_succ_eq_append_getElem hk,List.append_assoc];rfl
 ·rw [if_neg h,if_pos e] at hi
  rw [← hi, ← List.drop_eq_getElem_cons hk,List.take_append_drop]
 ·rw [if_neg h,if_neg e] at hi
  rw [← hi, ← List.drop_eq_getElem_cons hk];simp
theorem Sz {o:List Lit} {x:Lit} {k:Nat} (hi:o.take k++fu (o.drop k) x=fu o x) (hk:o.length≤k):fu o x=o.take k++[x]++o.drop k:=by
 rw [← hi,List.drop_eq_nil_of_le hk];simp [fu]
end Go.Proofs.YtefgamefajmdkaaGreat.Abs
