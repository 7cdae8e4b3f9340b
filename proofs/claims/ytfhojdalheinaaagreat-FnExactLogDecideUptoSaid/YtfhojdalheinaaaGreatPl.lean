/- Lists without neighbours that are the same; lists of literals in order. No statement of a claim. -/
import Derived.Test.YtfhojdalheinaaaGreatPlain
set_option linter.all false
namespace Go.Proofs.YtfhojdalheinaaaGreat.Abs
section
variable {α:Type} [DecidableEq α]
def compOne (acc:List α) (x:α):List α:=if acc.getLast? =some x then acc else acc++[x]
def compactL (l:List α):List α:=l.foldl compOne []
theorem compactL_succ {l:List α} {m:Nat} {x:α} (h:l[m]? =some x):compactL (l.take (m+1))=compOne (compactL (l.take m)) x:=by
 obtain⟨hm,rfl⟩:=List.getElem?_eq_some_iff.1 h
 rw [compactL,List.take_succ_eq_append_getElem hm,List.foldl_append];rfl
theorem compOne_last (acc:List α) (x:α):(compOne acc x).getLast? =some x:=by
 unfold compOne
 split
 ·assumption
 ·simp
theorem compactL_last {l:List α} {m:Nat} {x:α} (h:l[m]? =some x):(compactL (l.take (m+1))).getLast? =some x:=by
 rw [compactL_succ h];exact compOne_last _ _
theorem compactL_same {l:List α} {m:Nat} {x:α} (h1:l[m]? =some x) (h2:l[m+1]? =some x):compactL (l.take (m+2))=compactL (l.take (m+1)):=by
 rw [compactL_succ h2,compOne,if_pos (compactL_last h1)]
theorem compactL_new {l:List α} {m:Nat} {x y:α} (h1:l[m]? =some x) (h2:l[m+1]? =some y) (hn:y≠x):compactL (l.take (m+2))=compactL (l.take (m+1))++[y]:=by
 rw [compactL_succ h2,compOne,if_neg]
 rw [compactL_last h1]
 intro e;cases e;exact hn rfl
structure Compd (l:List α) (K m:Nat) (dk:List α):Prop where
 km:K+1≤m
 ml:m≤l.length
 len:dk.length=l.length
 kept:dk.take K=compactL (l.take m)
 rest:dk.drop (m - 1)=l.drop (m - 1)
theorem Compd.at {l dk:List α} {K m j:Nat} (h:Compd l K m dk) (hj:m - 1≤j) {x:α} (hx:l[j]? =some x):dk[j]? =some x:=by
 have:(dk.drop (m - 1))[j - (m - 1)]? =(l.drop (m - 1))[j - (m - 1)]? :=by rw [h.rest]
 rw [List.getElem?_drop,List.getElem?_drop,show m - 1+(j - (m - 1))=j by omega,hx] at this
 exact this
theorem Compd.start {l:List α} {k:Nat} {x:α} (hk:compactL (l.take (k+1))=l.take (k+1)) (h1:l[k]? =some x) (h2:l[k+1]? =some x):Compd l (k+1) (k+2) l:=
 ⟨by omega,by have:=(List.getElem?_eq_some_iff.1 h2).1;omega,rfl,by rw [compactL_same h1 h2,hk],rfl⟩
theorem Compd.same {l dk:List α} {K m:Nat} (h:Compd l K m dk) {x:α} (h1:l[m - 1]? =some x) (h2:l[m]? =some x):Compd l K (m+1) dk:=by
 have km:=h.km
 obtain⟨i,rfl⟩:∃i,m=i+1:=⟨m - 1,by omega⟩
 refine⟨by omega,by have:=(List.getElem?_eq_some_iff.1 h2).1;omega,h.len,by rw [h.kept];exact (compactL_same (m:=i) h1 h2).symm,?_⟩
 have:=h.rest
 simp only [Nat.add_sub_cancel] at this ⊢
 rw [← List.drop_drop, ← List.drop_drop,this]
theorem Compd.new {l dk:List α} {K m:Nat} (h:Compd l K m dk) {x y:α} (h1:l[m - 1]? =some x) (h2:l[m]? =some y) (hn:y≠x):Compd l (K+1) (m+1) (dk.set K y):=by
 have km:=h.km
 have hlen:=h.len
 have hml:=(List.getElem?_eq_some_iff.1 h2).1
 obtain⟨i,rfl⟩:∃i,m=i+1:=⟨m - 1,by omega⟩
 refine⟨by omega,by omega,by simpa using h.len,?_,?_⟩
 ·rw [List.take_succ_eq_append_getElem (by simp;omega),List.take_set_of_le (Nat.le_refl _),h.kept,compactL_new (m:=i) h1 h2 hn]
  simp
 ·have:=h.rest
  simp only [Nat.add_sub_cancel] at this ⊢
  rw [List.drop_set_of_lt (by omega), ← List.drop_drop, ← List.drop_drop,this]
end
instance:DecidableEq Lit:=fun x y=>match h:sameLit x y with
 | true=>.isTrue (sameLit_iff.1 h)
 | false=>.isFalse fun e=>by rw [e,sameLit_iff.2 rfl] at h;cases h
abbrev LitLt (x y:Lit):Prop:=x.act < y.act∨(x.act=y.act∧(x.kind < y.kind∨(x.kind=y.kind∧x.val < y.val)))
theorem LitLt.trans {a b c:Lit} (h:LitLt a b) (k:LitLt b c):LitLt a c:=by unfold LitLt at*;omega
def putLit:List Lit→Lit→List Lit
 | [],x=>[x]
 | y::r,x=>if cmpLit y x < 0 then y::putLit r x else if y=x then y::r else x::y::r
def newClause (l:List Lit):List Lit:=l.foldl putLit []
abbrev LitLe (x y:Lit):Prop:=¬ LitLt y x
end Go.Proofs.YtfhojdalheinaaaGreat.Abs
