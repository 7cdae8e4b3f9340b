/- Lists without neighbours that are the same; lists of literals in order. -/
import Derived.Test.YtefgamefajmdkaaGreatPlain
set_option linter.all false
namespace Go.Proofs.YtefgamefajmdkaaGreat.Abs
section
variable {α:Type} [DecidableEq α]
def zY (acc:List α) (x:α):List α:=if acc.getLast? =some x then acc else acc++[x]
def mO (l:List α):List α:=l.foldl zY []
theorem uD {l:List α} {m:Nat} {x:α} (h:l[m]? =some x):mO (l.take (m+1))=zY (mO (l.take m)) x:=by
 obtain⟨hm,rfl⟩:=List.getElem?_eq_some_iff.1 h
 rw [mO,List.take_succ_eq_append_getElem hm,List.foldl_append];rfl
theorem Ph (acc:List α) (x:α):(zY acc x).getLast? =some x:=by
 unfold zY
 split
 ·assumption
 ·simp
theorem Bg {l:List α} {m:Nat} {x:α} (h:l[m]? =some x):(mO (l.take (m+1))).getLast? =some x:=by
 rw [uD h];exact Ph _ _
theorem Bh {l:List α} {m:Nat} {x:α} (h1:l[m]? =some x) (h2:l[m+1]? =some x):mO (l.take (m+2))=mO (l.take (m+1)):=by
 rw [uD h2,zY,if_pos (Bg h1)]
theorem Pj {l:List α} {m:Nat} {x y:α} (h1:l[m]? =some x) (h2:l[m+1]? =some y) (hn:y≠x):mO (l.take (m+2))=mO (l.take (m+1))++[y]:=by
 rw [uD h2,zY,if_neg]
 rw [Bg h1]
 intro e;cases e;exact hn rfl
structure Bj (l:List α) (K m:Nat) (dk:List α):Prop where
 km:K+1≤m
 ml:m≤l.length
 len:dk.length=l.length
 kept:dk.take K=mO (l.take m)
 rest:dk.drop (m - 1)=l.drop (m - 1)
theorem Bj.at {l dk:List α} {K m j:Nat} (h:Bj l K m dk) (hj:m - 1≤j) {x:α} (hx:l[j]? =some x):dk[j]? =some x:=by
 have:(dk.drop (m - 1))[j - (m - 1)]? =(l.drop (m - 1))[j - (m - 1)]? :=by rw [h.rest]
 rw [List.getElem?_drop,List.getElem?_drop,show m - 1+(j - (m - 1))=j by omega,hx] at this
 exact this
theorem Bj.start {l:List α} {k:Nat} {x:α} (hk:mO (l.take (k+1))=l.take (k+1)) (h1:l[k]? =some x) (h2:l[k+1]? =some x):Bj l (k+1) (k+2) l:=
 ⟨by omega,by have:=(List.getElem?_eq_some_iff.1 h2).1;omega,rfl,by rw [Bh h1 h2,hk],rfl⟩
theorem Bj.same {l dk:List α} {K m:Nat} (h:Bj l K m dk) {x:α} (h1:l[m - 1]? =some x) (h2:l[m]? =some x):Bj l K (m+1) dk:=by
 have km:=h.km
 obtain⟨i,rfl⟩:∃i,m=i+1:=⟨m - 1,by omega⟩
 refine⟨by omega,by have:=(List.getElem?_eq_some_iff.1 h2).1;omega,h.len,by rw [h.kept];exact (Bh (m:=i) h1 h2).symm,?_⟩
 have:=h.rest
 simp only [Nat.add_sub_cancel] at this ⊢
 rw [← List.drop_drop, ← List.drop_drop,this]
theorem Bj.new {l dk:List α} {K m:Nat} (h:Bj l K m dk) {x y:α} (h1:l[m - 1]? =some x) (h2:l[m]? =some y) (hn:y≠x):Bj l (K+1) (m+1) (dk.set K y):=by
 have km:=h.km
 have hlen:=h.len
 have hml:=(List.getElem?_eq_some_iff.1 h2).1
 obtain⟨i,rfl⟩:∃i,m=i+1:=⟨m - 1,by omega⟩
 refine⟨by omega,by omega,by simpa using h.len,?_,?_⟩
 ·rw [List.take_succ_eq_append_getElem (by simp;omega),List.take_set_of_le (Nat.le_refl _),h.kept,Pj (m:=i) h1 h2 hn]
  simp
 ·have:=h.rest
  simp only [Nat.add_sub_cancel] at this ⊢
  rw [List.drop_set_of_lt (by omega), ← List.drop_drop, ← List.drop_drop,this]
end
instance:DecidableEq Lit:=fun x y=>match h:dD x y with
 |true=>.isTrue (jm.1 h)
 |false=>.isFalse fun e=>by rw [e,jm.2 rfl] at h;cases h
abbrev kQ (x y:Lit):Prop:=x.act < y.act∨(x.act=y.act∧(x.kind < y.kind∨(x.kind=y.kind∧x.val < y.val)))
theorem Gn {a b:Lit}:qc a b < 0↔kQ a b:=by
 simp only [qc,orI,Ad,kQ]
 repeat' split
 all_goals omega
theorem Vx (a b:Lit):kQ a b∨a=b∨kQ b a:=by
 by_cases h1:kQ a b
 ·exact .inl h1
 by_cases h2:kQ b a
 ·exact .inr (.inr h2)
 ·refine .inr (.inl ?_)
  cases a;cases b
  simp only [kQ] at h1 h2
  simp only [Lit.mk.injEq];omega
theorem kQ.ne {a b:Lit} (h:kQ a b):a≠b:=by rintro rfl;unfold kQ at h;omega
theorem kQ.trans {a b c:Lit} (h:kQ a b) (k:kQ b c):kQ a c:=by unfold kQ at*;omega
def fH:List Lit→Lit→List Lit
 |[],x=>[x]
 |y::r,x=>if qc y x < 0 then y::fH r x else if y=x then y::r else x::y::r
def cB (l:List Lit):List Lit:=l.foldl fH []
theorem Bl:∀{l:List Lit} {n:Lit},l.Pairwise kQ→(fH l n).Pairwise kQ∧∀x,x∈fH l n↔x∈l∨x=n
 |[],n,_=>by simp [fH]
 |y::r,n,h=>by
  rw [List.pairwise_cons] at h
  rw [fH]
  split
  ·rename_i hy
   rw [Gn] at hy
   obtain⟨h1,h2⟩:=Bl (n:=n) h.2
   refine⟨List.pairwise_cons.2 ⟨fun z hz=>?_,h1⟩,fun x=>?_⟩
   ·rcases (h2 z).1 hz with e'|rfl
    ·exact h.1 z e'
    ·exact hy
   ·rw [List.mem_cons,h2 x,List.mem_cons,or_assoc]
  split
  ·rename_i _ hy
   subst hy
   refine⟨List.pairwise_cons.2 h,fun x=>⟨.inl,?_⟩⟩
   rintro (hx|rfl)
   ·exact hx
   ·simp
  ·rename_i h1 h2
   rw [Gn] at h1
   have hn:kQ n y:=by
    rcases Vx n y with k|k|k
    ·exact k
    ·exact absurd k.symm h2
    ·exact absurd k h1
   refine⟨List.pairwise_cons.2 ⟨fun z hz=>?_,List.pairwise_cons.2 h⟩,fun x=>by rw [List.mem_cons];exact or_comm⟩
   rcases List.mem_cons.1 hz with rfl|hz
   ·exact hn
   ·exact hn.trans (h.1 z hz)
theorem yX:∀{l o:List Lit},o.Pairwise kQ→(l.foldl fH o).Pairwise kQ∧∀x,x∈l.foldl fH o↔x∈o∨x∈l
 |[],o,h=>⟨h,by simp⟩
 |y::l,o,h=>by
  rw [List.foldl_cons]
  obtain⟨h1,h2⟩:=Bl (n:=y) h
  obtain⟨h3,h4⟩:=yX (l:=l) h1
  refine⟨h3,fun x=>?_⟩
  rw [h4,h2,List.mem_cons,or_assoc]
theorem uZ (l:List Lit):(cB l).Pairwise kQ∧∀x,x∈cB l↔x∈l:=by
 obtain⟨h1,h2⟩:=yX (l:=l) (o:=[]) List.Pairwise.nil
 exact⟨h1,fun x=>(h2 x).trans (by simp)⟩
theorem CJ (l:List Lit) (n:Lit):(fH l n).length≤l.length+1:=by
 induction l with
 |nil=>simp [fH]
 |cons y r ih=>
  rw [fH]
  split
  ·simp;omega
  split
  ·simp
  ·simp
theorem Bn (l:List Lit):(cB l).length≤l.length:=by
 have:∀(l o:List Lit),(l.foldl fH o).length≤o.length+l.length:=by
  intro l
  induction l with
  |nil=>simp
  |cons x l ih=>
   intro o
   rw [List.foldl_cons]
   have h1:=ih (fH o x)
   have h2:=CJ o x
   simp only [List.length_cons];omega
 have:=this l []
 simpa [cB] using this
theorem yY {o:List Lit} {x y:Lit} {k:Nat} (hi:o.take k++fH (o.drop k) x=fH o x) (hy:o[k]? =some y):
  (qc y x < 0→o.take (k+1)++fH (o.drop (k+1)) x=fH o x)∧(¬ qc y x < 0→y=x→fH o x=o)∧(¬ qc y x < 0→y≠x→fH o x=o.take k++[x]++o.drop k):=by
 obtain⟨hk,rfl⟩:=List.getElem?_eq_some_iff.1 hy
 rw [List.drop_eq_getElem_cons hk,fH] at hi
 refine⟨fun h=>?_,fun h e=>?_,fun h e=>?_⟩
 ·rw [if_pos h] at hi
  rw [← hi,List.take_succ_eq_append_getElem hk,List.append_assoc];rfl
 ·rw [if_neg h,if_pos e] at hi
  rw [← hi, ← List.drop_eq_getElem_cons hk,List.take_append_drop]
 ·rw [if_neg h,if_neg e] at hi
  rw [← hi, ← List.drop_eq_getElem_cons hk];simp
theorem TD {o:List Lit} {x:Lit} {k:Nat} (hi:o.take k++fH (o.drop k) x=fH o x) (hk:o.length≤k):fH o x=o.take k++[x]++o.drop k:=by
 rw [← hi,List.drop_eq_nil_of_le hk];simp [fH]
end Go.Proofs.YtefgamefajmdkaaGreat.Abs
