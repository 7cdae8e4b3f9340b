/- Lists without neighbours that are the same; lists of literals in order. No statement of a claim. -/
import Derived.Test.YtfhojdalheinaaaGreatPlain
set_option linter.all false
namespace Go.Proofs.YtfhojdalheinaaaGreat.Abs
section
variable {α:Type} [DecidableEq α]
def compOne (acc:List α) (x:α):List α:=if acc.getLast? =some x then acc else acc++[x]
def compactL (l:List α):List α:=l.foldl compOne []
theorem compactL_succ {l:List α} {m:Nat} {x:α} (h:l[m]? =some x):compactL (l.take (m+1))=compOne (compactL (l.take m)) x:=by
 obtain⟨hm,rfl⟩:=List.getElem?_eq_some_iff.1 h
 rw [compactL,List.take_succ_eq_append_getElem hm,List.foldl_append];rfl
theorem compOne_last (acc:List α) (x:α):(compOne acc x).getLast? =some x:=by
 unfold compOne
 split
 ·assumption
 ·simp
theorem compactL_last {l:List α} {m:Nat} {x:α} (h:l[m]? =some x):(compactL (l.take (m+1))).getLast? =some x:=by
 rw [compactL_succ h];exact compOne_last _ _
theorem compactL_same {l:List α} {m:Nat} {x:α} (h1:l[m]? =some x) (h2:l[m+1]? =some x):compactL (l.take (m+2))=compactL (l.take (m+1)):=by
 rw [compactL_succ h2,compOne,if_pos (compactL_last h1)]
theorem compactL_new {l:List α} {m:Nat} {x y:α} (h1:l[m]? =some x) (h2:l[m+1]? =some y) (hn:y≠x):compactL (l.take (m+2))=compactL (l.take (m+1))++[y]:=by
 rw [compactL_succ h2,compOne,if_neg]
 rw [compactL_last h1]
 intro e;cases e;exact hn rfl
theorem compactL_short {l:List α} (h:l.length < 2):compactL l=l:=by
 match l,h with
 | [],_=>rfl
 | [x],_=>rfl
structure Compd (l:List α) (K m:Nat) (dk:List α):Prop where
 km:K+1≤m
 ml:m≤l.length
 len:dk.length=l.length
 kept:dk.take K=compactL (l.take m)
 rest:dk.drop (m - 1)=l.drop (m - 1)
theorem Compd.at {l dk:List α} {K m j:Nat} (h:Compd l K m dk) (hj:m - 1≤j) {x:α} (hx:l[j]? =some x):dk[j]? =some x:=by
 have:(dk.drop (m - 1))[j - (m - 1)]? =(l.drop (m - 1))[j - (m - 1)]? :=by rw [h.rest]
 rw [List.getElem?_drop,List.getElem?_drop,show m - 1+(j - (m - 1))=j by omega,hx] at this
 exact this
theorem Compd.start {l:List α} {k:Nat} {x:α} (hk:compactL (l.take (k+1))=l.take (k+1)) (h1:l[k]? =some x) (h2:l[k+1]? =some x):Compd l (k+1) (k+2) l:=
 ⟨by omega,by have:=(List.getElem?_eq_some_iff.1 h2).1;omega,rfl,by rw [compactL_same h1 h2,hk],rfl⟩
theorem Compd.same {l dk:List α} {K m:Nat} (h:Compd l K m dk) {x:α} (h1:l[m - 1]? =some x) (h2:l[m]? =some x):Compd l K (m+1) dk:=by
 have km:=h.km
 obtain⟨i,rfl⟩:∃i,m=i+1:=⟨m - 1,by omega⟩
 refine⟨by omega,by have:=(List.getElem?_eq_some_iff.1 h2).1;omega,h.len,by rw [h.kept];exact (compactL_same (m:=i) h1 h2).symm,?_⟩
 have:=h.rest
 simp only [Nat.add_sub_cancel] at this ⊢
 rw [← List.drop_drop, ← List.drop_drop,this]
theorem Compd.new {l dk:List α} {K m:Nat} (h:Compd l K m dk) {x y:α} (h1:l[m - 1]? =some x) (h2:l[m]? =some y) (hn:y≠x):Compd l (K+1) (m+1) (dk.set K y):=by
 have km:=h.km
 have hlen:=h.len
 have hml:=(List.getElem?_eq_some_iff.1 h2).1
 obtain⟨i,rfl⟩:∃i,m=i+1:=⟨m - 1,by omega⟩
 refine⟨by omega,by omega,by simpa using h.len,?_,?_⟩
 ·rw [List.take_succ_eq_append_getElem (by simp;omega),List.take_set_of_le (Nat.le_refl _),h.kept,compactL_new (m:=i) h1 h2 hn]
  simp
 ·have:=h.rest
  simp only [Nat.add_sub_cancel] at this ⊢
  rw [List.drop_set_of_lt (by omega), ← List.drop_drop, ← List.drop_drop,this]
end
instance:DecidableEq Lit:=fun x y=>match h:sameLit x y with
 | true=>.isTrue (sameLit_iff.1 h)
 | false=>.isFalse fun e=>by rw [e,sameLit_iff.2 rfl] at h;cases h
abbrev LitLt (x y:Lit):Prop:=x.act < y.act∨(x.act=y.act∧(x.kind < y.kind∨(x.kind=y.kind∧x.val < y.val)))
theorem litLt_iff {a b:Lit}:cmpLit a b < 0↔LitLt a b:=by
 simp only [cmpLit,orI,cmpI,LitLt]
 repeat' split
 all_goals omega
theorem litLt_tri (a b:Lit):LitLt a b∨a=b∨LitLt b a:=by
 by_cases h1:LitLt a b
 ·exact .inl h1
 by_cases h2:LitLt b a
 ·exact .inr (.inr h2)
 ·refine .inr (.inl ?_)
  cases a;cases b
  simp only [LitLt] at h1 h2
  simp only [Lit.mk.injEq];omega
theorem LitLt.trans {a b c:Lit} (h:LitLt a b) (k:LitLt b c):LitLt a c:=by unfold LitLt at*;omega
theorem LitLt.irr {a:Lit}:¬ LitLt a a:=by unfold LitLt;omega
theorem sorted_sameL:∀{l m:List Lit},l.Pairwise LitLt→m.Pairwise LitLt→(∀x,x∈l↔x∈m)→l=m
 | [],[],_,_,_=>rfl
 | [],y::m,_,_,h=>by have:=(h y).2 (by simp);simp at this
 | x::l,[],_,_,h=>by have:=(h x).1 (by simp);simp at this
 | x::l,y::m,hl,hm,h=>by
  rw [List.pairwise_cons] at hl hm
  have hxy:x=y:=by
   rcases List.mem_cons.1 ((h x).1 (by simp)) with e | e
   ·exact e
   ·rcases List.mem_cons.1 ((h y).2 (by simp)) with e' | e'
    ·exact e'.symm
    ·exact absurd ((hm.1 x e).trans (hl.1 y e')) LitLt.irr
  subst hxy
  rw [sorted_sameL hl.2 hm.2 fun z=>⟨fun hz=>?_,fun hz=>?_⟩]
  ·rcases List.mem_cons.1 ((h z).1 (by simp [hz])) with e | e
   ·exact absurd (e ▸ hl.1 z hz) LitLt.irr
   ·exact e
  ·rcases List.mem_cons.1 ((h z).2 (by simp [hz])) with e | e
   ·exact absurd (e ▸ hm.1 z hz) LitLt.irr
   ·exact e
def putLit:List Lit→Lit→List Lit
 | [],x=>[x]
 | y::r,x=>if cmpLit y x < 0 then y::putLit r x else if y=x then y::r else x::y::r
def newClause (l:List Lit):List Lit:=l.foldl putLit []
theorem putLit_sorted:∀{l:List Lit} {n:Lit},l.Pairwise LitLt→(putLit l n).Pairwise LitLt∧∀x,x∈putLit l n↔x∈l∨x=n
 | [],n,_=>by simp [putLit]
 | y::r,n,h=>by
  rw [List.pairwise_cons] at h
  rw [putLit]
  split
  ·rename_i hy
   rw [litLt_iff] at hy
   obtain⟨h1,h2⟩:=putLit_sorted (n:=n) h.2
   refine⟨List.pairwise_cons.2 ⟨fun z hz=>?_,h1⟩,fun x=>?_⟩
   ·rcases (h2 z).1 hz with e' | rfl
    ·exact h.1 z e'
    ·exact hy
   ·rw [List.mem_cons,h2 x,List.mem_cons,or_assoc]
  split
  ·rename_i _ hy
   subst hy
   refine⟨List.pairwise_cons.2 h,fun x=>⟨.inl,?_⟩⟩
   rintro (hx | rfl)
   ·exact hx
   ·simp
  ·rename_i h1 h2
   rw [litLt_iff] at h1
   have hn:LitLt n y:=by
    rcases litLt_tri n y with k | k | k
    ·exact k
    ·exact absurd k.symm h2
    ·exact absurd k h1
   refine⟨List.pairwise_cons.2 ⟨fun z hz=>?_,List.pairwise_cons.2 h⟩,fun x=>by rw [List.mem_cons];exact or_comm⟩
   rcases List.mem_cons.1 hz with rfl | hz
   ·exact hn
   ·exact hn.trans (h.1 z hz)
theorem newClause_from:∀{l o:List Lit},o.Pairwise LitLt→(l.foldl putLit o).Pairwise LitLt∧∀x,x∈l.foldl putLit o↔x∈o∨x∈l
 | [],o,h=>⟨h,by simp⟩
 | y::l,o,h=>by
  rw [List.foldl_cons]
  obtain⟨h1,h2⟩:=putLit_sorted (n:=y) h
  obtain⟨h3,h4⟩:=newClause_from (l:=l) h1
  refine⟨h3,fun x=>?_⟩
  rw [h4,h2,List.mem_cons,or_assoc]
theorem newClause_sorted (l:List Lit):(newClause l).Pairwise LitLt∧∀x,x∈newClause l↔x∈l:=by
 obtain⟨h1,h2⟩:=newClause_from (l:=l) (o:=[]) List.Pairwise.nil
 exact⟨h1,fun x=>(h2 x).trans (by simp)⟩
theorem putLit_len (l:List Lit) (n:Lit):(putLit l n).length≤l.length+1:=by
 induction l with
 | nil=>simp [putLit]
 | cons y r ih=>
  rw [putLit]
  split
  ·simp;omega
  split
  ·simp
  ·simp
theorem newClause_len (l:List Lit):(newClause l).length≤l.length:=by
 have:∀(l o:List Lit),(l.foldl putLit o).length≤o.length+l.length:=by
  intro l
  induction l with
  | nil=>simp
  | cons x l ih=>
   intro o
   rw [List.foldl_cons]
   have h1:=ih (putLit o x)
   have h2:=putLit_len o x
   simp only [List.length_cons];omega
 have:=this l []
 simpa [newClause] using this
abbrev LitLe (x y:Lit):Prop:=¬ LitLt y x
theorem compOne_sortedL {acc:List Lit} {x:Lit} (h:acc.Pairwise LitLt) (ha:∀a∈acc,LitLe a x):(compOne acc x).Pairwise LitLt∧∀y,y∈compOne acc x↔y∈acc∨y=x:=by
 unfold compOne
 split
 ·rename_i hl
  have hm:x∈acc:=List.mem_of_getLast? hl
  exact⟨h,fun y=>⟨.inl,by rintro (hy | rfl) <;> assumption⟩⟩
 ·rename_i hl
  refine⟨List.pairwise_append.2 ⟨h,by simp,fun a hax b hb=>?_⟩,by simp⟩
  obtain rfl:=List.mem_singleton.1 hb
  have h1:=ha a hax
  rcases List.eq_nil_or_concat acc with rfl | ⟨i,m,rfl⟩
  ·simp at hax
  ·rw [List.concat_eq_append] at*
   simp only [List.getLast?_append,List.getLast?_singleton,Option.some_or,Option.some.injEq] at hl
   have hm:=ha m (by simp)
   have hmb:LitLt m b:=by
    rcases litLt_tri m b with k | k | k
    ·exact k
    ·exact absurd k hl
    ·exact absurd k hm
   rcases List.mem_append.1 hax with hi | hi
   ·exact ((List.pairwise_append.1 h).2.2 a hi m (by simp)).trans hmb
   ·obtain rfl:=List.mem_singleton.1 hi;exact hmb
theorem compactL_sortedL:∀{l acc:List Lit},acc.Pairwise LitLt→l.Pairwise LitLe→(∀a∈acc,∀x∈l,LitLe a x)→(l.foldl compOne acc).Pairwise LitLt∧∀x,x∈l.foldl compOne acc↔x∈acc∨x∈l
 | [],acc,h,_,_=>⟨h,by simp⟩
 | y::l,acc,h,hl,ha=>by
  rw [List.pairwise_cons] at hl
  rw [List.foldl_cons]
  obtain⟨h1,h2⟩:=compOne_sortedL (x:=y) h fun a hx=>ha a hx y (by simp)
  obtain⟨h3,h4⟩:=compactL_sortedL (l:=l) h1 hl.2 fun a hx z hz=>by
   rcases (h2 a).1 hx with hx | rfl
   ·exact ha a hx z (by simp [hz])
   ·exact hl.1 z hz
  refine⟨h3,fun x=>?_⟩
  rw [h4,h2,List.mem_cons,or_assoc]
theorem sortCompact_eq (l:List Lit):compactL (l.mergeSort fun x y=> !decide (cmpLit y x < 0))=newClause l:=by
 have hs:(l.mergeSort fun x y=> !decide (cmpLit y x < 0)).Pairwise LitLe:=by
  have:=List.pairwise_mergeSort (le:=fun x y:Lit=> !decide (cmpLit y x < 0)) (fun a b c=>by simp only [Bool.not_eq_true',decide_eq_false_iff_not,litLt_iff,LitLt];omega) (fun a b=>by simp only [Bool.or_eq_true,Bool.not_eq_true',decide_eq_false_iff_not,litLt_iff,LitLt];omega) l
  exact this.imp (by simp only [Bool.not_eq_true',decide_eq_false_iff_not,litLt_iff];exact id)
 obtain⟨h1,h2⟩:=compactL_sortedL (acc:=[]) List.Pairwise.nil hs (by simp)
 obtain⟨h3,h4⟩:=newClause_sorted l
 refine sorted_sameL h1 h3 fun x=>?_
 have e2:=h2 x
 rw [List.mem_mergeSort] at e2
 rw [h4]
 exact e2.trans (by simp)
theorem putLit_step {o:List Lit} {x y:Lit} {k:Nat} (hi:o.take k++putLit (o.drop k) x=putLit o x) (hy:o[k]? =some y):
  (cmpLit y x < 0→o.take (k+1)++putLit (o.drop (k+1)) x=putLit o x)∧(¬ cmpLit y x < 0→y=x→putLit o x=o)∧(¬ cmpLit y x < 0→y≠x→putLit o x=o.take k++[x]++o.drop k):=by
 obtain⟨hk,rfl⟩:=List.getElem?_eq_some_iff.1 hy
 rw [List.drop_eq_getElem_cons hk,putLit] at hi
 refine⟨fun h=>?_,fun h e=>?_,fun h e=>?_⟩
 ·rw [if_pos h] at hi
  rw [← hi,List.take_succ_eq_append_getElem hk,List.append_assoc];rfl
 ·rw [if_neg h,if_pos e] at hi
  rw [← hi, ← List.drop_eq_getElem_cons hk,List.take_append_drop]
 ·rw [if_neg h,if_neg e] at hi
  rw [← hi, ← List.drop_eq_getElem_cons hk];simp
theorem putLit_end {o:List Lit} {x:Lit} {k:Nat} (hi:o.take k++putLit (o.drop k) x=putLit o x) (hk:o.length≤k):putLit o x=o.take k++[x]++o.drop k:=by
 rw [← hi,List.drop_eq_nil_of_le hk];simp [putLit]
end Go.Proofs.YtfhojdalheinaaaGreat.Abs
