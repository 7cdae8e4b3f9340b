/- Lists without neighbours that are the same; lists of literals in order. -/
import Derived.Test.YtglikcnmgnlejaaGreatPlain
set_option linter.all false
namespace Go.Proofs.YtglikcnmgnlejaaGreat.Abs
section
variable {α:Type} [DecidableEq α]
def kI (acc:List α) (x:α):List α:=if acc.getLast? =some x then acc else acc++[x]
def dQ (l:List α):List α:=l.foldl kI []
theorem nN {l:List α} {m:Nat} {x:α} (h:l[m]? =some x):dQ (l.take (m+1))=kI (dQ (l.take m)) x:=by
 obtain⟨hm,rfl⟩:=List.getElem?_eq_some_iff.1 h
 rw [dQ,List.take_succ_eq_append_getElem hm,List.foldl_append];rfl
theorem Rb (acc:List α) (x:α):(kI acc x).getLast? =some x:=by
 unfold kI
 split
 ·assumption
 ·simp
theorem Cj {l:List α} {m:Nat} {x:α} (h:l[m]? =some x):(dQ (l.take (m+1))).getLast? =some x:=by
 rw [nN h];exact Rb _ _
theorem Cn {l:List α} {m:Nat} {x:α} (h1:l[m]? =some x) (h2:l[m+1]? =some x):dQ (l.take (m+2))=dQ (l.take (m+1)):=by
 rw [nN h2,kI,if_pos (Cj h1)]
theorem yc {l:List α} {m:Nat} {x y:α} (h1:l[m]? =some x) (h2:l[m+1]? =some y) (hn:y≠x):dQ (l.take (m+2))=dQ (l.take (m+1))++[y]:=by
 rw [nN h2,kI,if_neg]
 rw [Cj h1]
 intro e;cases e;exact hn rfl
theorem zY {l:List α} (h:l.length < 2):dQ l=l:=by
 match l,h with
 |[],_=>rfl
 |[x],_=>rfl
structure vv (l:List α) (K m:Nat) (dk:List α):Prop where
 km:K+1≤m
 ml:m≤l.length
 len:dk.length=l.length
 kept:dk.take K=dQ (l.take m)
 rest:dk.drop (m - 1)=l.drop (m - 1)
theorem vv.at {l dk:List α} {K m j:Nat} (h:vv l K m dk) (hj:m - 1≤j) {x:α} (hx:l[j]? =some x):dk[j]? =some x:=by
 have:(dk.drop (m - 1))[j - (m - 1)]? =(l.drop (m - 1))[j - (m - 1)]? :=by rw [h.rest]
 rw [List.getElem?_drop,List.getElem?_drop,show m - 1+(j - (m - 1))=j by omega,hx] at this
 exact this
theorem vv.start {l:List α} {k:Nat} {x:α} (hk:dQ (l.take (k+1))=l.take (k+1)) (h1:l[k]? =some x) (h2:l[k+1]? =some x):vv l (k+1) (k+2) l:=
 ⟨by omega,by have:=(List.getElem?_eq_some_iff.1 h2).1;omega,rfl,by rw [Cn h1 h2,hk],rfl⟩
theorem vv.same {l dk:List α} {K m:Nat} (h:vv l K m dk) {x:α} (h1:l[m - 1]? =some x) (h2:l[m]? =some x):vv l K (m+1) dk:=by
 have km:=h.km
 obtain⟨i,rfl⟩:∃i,m=i+1:=⟨m - 1,by omega⟩
 refine⟨by omega,by have:=(List.getElem?_eq_some_iff.1 h2).1;omega,h.len,by rw [h.kept];exact (Cn (m:=i) h1 h2).symm,?_⟩
 have:=h.rest
 simp only [Nat.add_sub_cancel] at this ⊢
 rw [← List.drop_drop, ← List.drop_drop,this]
theorem vv.new {l dk:List α} {K m:Nat} (h:vv l K m dk) {x y:α} (h1:l[m - 1]? =some x) (h2:l[m]? =some y) (hn:y≠x):vv l (K+1) (m+1) (dk.set K y):=by
 have km:=h.km
 have hlen:=h.len
 have hml:=(List.getElem?_eq_some_iff.1 h2).1
 obtain⟨i,rfl⟩:∃i,m=i+1:=⟨m - 1,by omega⟩
 refine⟨by omega,by omega,by simpa using h.len,?_,?_⟩
 ·rw [List.take_succ_eq_append_getElem (by simp;omega),List.take_set_of_le (Nat.le_refl _),h.kept,yc (m:=i) h1 h2 hn]
  simp
 ·have:=h.rest
  simp only [Nat.add_sub_cancel] at this ⊢
  rw [List.drop_set_of_lt (by omega), ← List.drop_drop, ← List.drop_drop,this]
end
instance:DecidableEq Lit:=fun x y=>match h:aV x y with
 |true=>.isTrue (gq.1 h)
 |false=>.isFalse fun e=>by rw [e,gq.2 rfl] at h;cases h
abbrev iH (x y:Lit):Prop:=x.act < y.act∨(x.act=y.act∧(x.kind < y.kind∨(x.kind=y.kind∧x.val < y.val)))
theorem wP {a b:Lit}:iK a b < 0↔iH a b:=by
 simp only [iK,orI,zG,iH]
 repeat' split
 all_goals omega
theorem Pb (a b:Lit):iH a b∨a=b∨iH b a:=by
 by_cases h1:iH a b
 ·exact .inl h1
 by_cases h2:iH b a
 ·exact .inr (.inr h2)
 ·refine .inr (.inl ?_)
  cases a;cases b
  simp only [iH] at h1 h2
  simp only [Lit.mk.injEq];omega
theorem iH.trans {a b c:Lit} (h:iH a b) (k:iH b c):iH a c:=by unfold iH at*;omega
theorem iH.irr {a:Lit}:¬ iH a a:=by unfold iH;omega
theorem EO:∀{l m:List Lit},l.Pairwise iH→m.Pairwise iH→(∀x,x∈l↔x∈m)→l=m
 |[],[],_,_,_=>rfl
 |[],y::m,_,_,h=>by have:=(h y).2 (by simp);simp at this
 |x::l,[],_,_,h=>by have:=(h x).1 (by simp);simp at this
 |x::l,y::m,hl,hm,h=>by
  rw [List.pairwise_cons] at hl hm
  have hxy:x=y:=by
   rcases List.mem_cons.1 ((h x).1 (by simp)) with e|e
   ·exact e
   ·rcases List.mem_cons.1 ((h y).2 (by simp)) with e'|e'
    ·exact e'.symm
    ·exact absurd ((hm.1 x e).trans (hl.1 y e')) iH.irr
  subst hxy
  rw [EO hl.2 hm.2 fun z=>⟨fun hz=>?_,fun hz=>?_⟩]
  ·rcases List.mem_cons.1 ((h z).1 (by simp [hz])) with e|e
   ·exact absurd (e ▸ hl.1 z hz) iH.irr
   ·exact e
  ·rcases List.mem_cons.1 ((h z).2 (by simp [hz])) with e|e
   ·exact absurd (e ▸ hm.1 z hz) iH.irr
   ·exact e
def fT:List Lit→Lit→List Lit
 |[],x=>[x]
 |y::r,x=>if iK y x < 0 then y::fT r x else if y=x then y::r else x::y::r
def bZ (l:List Lit):List Lit:=l.foldl fT []
theorem Co:∀{l:List Lit} {n:Lit},l.Pairwise iH→(fT l n).Pairwise iH∧∀x,x∈fT l n↔x∈l∨x=n
 |[],n,_=>by simp [fT]
 |y::r,n,h=>by
  rw [List.pairwise_cons] at h
  rw [fT]
  split
  ·rename_i hy
   rw [wP] at hy
   obtain⟨h1,h2⟩:=Co (n:=n) h.2
   refine⟨List.pairwise_cons.2 ⟨fun z hz=>?_,h1⟩,fun x=>?_⟩
   ·rcases (h2 z).1 hz with e'|rfl
    ·exact h.1 z e'
    ·exact hy
   ·rw [List.mem_cons,h2 x,List.mem_cons,or_assoc]
  split
  ·rename_i _ hy
   subst hy
   refine⟨List.pairwise_cons.2 h,fun x=>⟨.inl,?_⟩⟩
   rintro (hx|rfl)
   ·exact hx
   ·simp
  ·rename_i h1 h2
   rw [wP] at h1
   have hn:iH n y:=by
    rcases Pb n y with k|k|k
    ·exact k
    ·exact absurd k.symm h2
    ·exact absurd k h1
   refine⟨List.pairwise_cons.2 ⟨fun z hz=>?_,List.pairwise_cons.2 h⟩,fun x=>by rw [List.mem_cons];exact or_comm⟩
   rcases List.mem_cons.1 hz with rfl|hz
   ·exact hn
   ·exact hn.trans (h.1 z hz)
theorem zZ:∀{l o:List Lit},o.Pairwise iH→(l.foldl fT o).Pairwise iH∧∀x,x∈l.foldl fT o↔x∈o∨x∈l
 |[],o,h=>⟨h,by simp⟩
 |y::l,o,h=>by
  rw [List.foldl_cons]
  obtain⟨h1,h2⟩:=Co (n:=y) h
  obtain⟨h3,h4⟩:=zZ (l:=l) h1
  refine⟨h3,fun x=>?_⟩
  rw [h4,h2,List.mem_cons,or_assoc]
theorem wQ (l:List Lit):(bZ l).Pairwise iH∧∀x,x∈bZ l↔x∈l:=by
 obtain⟨h1,h2⟩:=zZ (l:=l) (o:=[]) List.Pairwise.nil
 exact⟨h1,fun x=>(h2 x).trans (by simp)⟩
theorem Dk (l:List Lit) (n:Lit):(fT l n).length≤l.length+1:=by
 induction l with
 |nil=>simp [fT]
 |cons y r ih=>
  rw [fT]
  split
  ·simp;omega
  split
  ·simp
  ·simp
theorem Cq (l:List Lit):(bZ l).length≤l.length:=by
 have:∀(l o:List Lit),(l.foldl fT o).length≤o.length+l.length:=by
  intro l
  induction l with
  |nil=>simp
  |cons x l ih=>
   intro o
   rw [List.foldl_cons]
   have h1:=ih (fT o x)
   have h2:=Dk o x
   simp only [List.length_cons];omega
 have:=this l []
 simpa [bZ] using this
abbrev Xq (x y:Lit):Prop:=¬ iH y x
theorem Jo {acc:List Lit} {x:Lit} (h:acc.Pairwise iH) (ha:∀a∈acc,Xq a x):(kI acc x).Pairwise iH∧∀y,y∈kI acc x↔y∈acc∨y=x:=by
 unfold kI
 split
 ·rename_i hl
  have hm:x∈acc:=List.mem_of_getLast? hl
  exact⟨h,fun y=>⟨.inl,by rintro (hy|rfl)<;>assumption⟩⟩
 ·rename_i hl
  refine⟨List.pairwise_append.2 ⟨h,by simp,fun a hax b hb=>?_⟩,by simp⟩
  obtain rfl:=List.mem_singleton.1 hb
  have h1:=ha a hax
  rcases List.eq_nil_or_concat acc with rfl|⟨i,m,rfl⟩
  ·simp at hax
  ·rw [List.concat_eq_append] at*
   simp only [List.getLast?_append,List.getLast?_singleton,Option.some_or,Option.some.injEq] at hl
   have hm:=ha m (by simp)
   have hmb:iH m b:=by
    rcases Pb m b with k|k|k
    ·exact k
    ·exact absurd k hl
    ·exact absurd k hm
   rcases List.mem_append.1 hax with hi|hi
   ·exact ((List.pairwise_append.1 h).2.2 a hi m (by simp)).trans hmb
   ·obtain rfl:=List.mem_singleton.1 hi;exact hmb
theorem wR:∀{l acc:List Lit},acc.Pairwise iH→l.Pairwise Xq→(∀a∈acc,∀x∈l,Xq a x)→(l.foldl kI acc).Pairwise iH∧∀x,x∈l.foldl kI acc↔x∈acc∨x∈l
 |[],acc,h,_,_=>⟨h,by simp⟩
 |y::l,acc,h,hl,ha=>by
  rw [List.pairwise_cons] at hl
  rw [List.foldl_cons]
  obtain⟨h1,h2⟩:=Jo (x:=y) h fun a hx=>ha a hx y (by simp)
  obtain⟨h3,h4⟩:=wR (l:=l) h1 hl.2 fun a hx z hz=>by
   rcases (h2 a).1 hx with hx|rfl
   ·exact ha a hx z (by simp [hz])
   ·exact hl.1 z hz
  refine⟨h3,fun x=>?_⟩
  rw [h4,h2,List.mem_cons,or_assoc]
theorem LB (l:List Lit):dQ (l.mergeSort fun x y=> !decide (iK y x < 0))=bZ l:=by
 have hs:(l.mergeSort fun x y=> !decide (iK y x < 0)).Pairwise Xq:=by
  have:=List.pairwise_mergeSort (le:=fun x y:Lit=> !decide (iK y x < 0)) (fun a b c=>by simp only [Bool.not_eq_true',decide_eq_false_iff_not,wP,iH];omega) (fun a b=>by simp only [Bool.or_eq_true,Bool.not_eq_true',decide_eq_false_iff_not,wP,iH];omega) l
  exact this.imp (by simp only [Bool.not_eq_true',decide_eq_false_iff_not,wP];exact id)
 obtain⟨h1,h2⟩:=wR (acc:=[]) List.Pairwise.nil hs (by simp)
 obtain⟨h3,h4⟩:=wQ l
 refine EO h1 h3 fun x=>?_
 have e2:=h2 x
 rw [List.mem_mergeSort] at e2
 rw [h4]
 exact e2.trans (by simp)
theorem Aa {o:List Lit} {x y:Lit} {k:Nat} (hi:o.take k++fT (o.drop k) x=fT o x) (hy:o[k]? =some y):
  (iK y x < 0→o.take (k+1)++fT (o.drop (k+1)) x=fT o x)∧(¬ iK y x < 0→y=x→fT o x=o)∧(¬ iK y x < 0→y≠x→fT o x=o.take k++[x]++o.drop k):=by
 obtain⟨hk,rfl⟩:=List.getElem?_eq_some_iff.1 hy
 rw [List.drop_eq_getElem_cons hk,fT] at hi
 refine⟨fun h=>?_,fun h e=>?_,fun h e=>?_⟩
 ·rw [if_pos h] at hi
  rw [← hi,List.take_succ_eq_append_getElem hk,List.append_assoc];rfl
 ·rw [if_neg h,if_pos e] at hi
  rw [← hi, ← List.drop_eq_getElem_cons hk,List.take_append_drop]
 ·rw [if_neg h,if_neg e] at hi
  rw [← hi, ← List.drop_eq_getElem_cons hk];simp
theorem VW {o:List Lit} {x:Lit} {k:Nat} (hi:o.take k++fT (o.drop k) x=fT o x) (hk:o.length≤k):fT o x=o.take k++[x]++o.drop k:=by
 rw [← hi,List.drop_eq_nil_of_le hk];simp [fT]
end Go.Proofs.YtglikcnmgnlejaaGreat.Abs
