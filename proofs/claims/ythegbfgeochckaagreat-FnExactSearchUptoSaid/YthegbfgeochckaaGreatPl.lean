/- Part of a proof. -/
import Derived.Test.YthegbfgeochckaaGreatPlain
set_option linter.all false
namespace Go.Proofs.YthegbfgeochckaaGreat.Abs
section
variable {α:Type} [DecidableEq α]
def lT (acc:List α) (x:α):List α:=if acc.getLast? =some x then acc else acc++[x]
def eO (l:List α):List α:=l.foldl lT []
theorem qm {l:List α} {m:Nat} {x:α} (h:l[m]? =some x):eO (l.take (m+1))=lT (eO (l.take m)) x:=by
 obtain⟨hm,rfl⟩:=List.getElem?_eq_some_iff.1 h
 rw [eO,List.take_succ_eq_append_getElem hm,List.foldl_append];rfl
theorem Vg (acc:List α) (x:α):(lT acc x).getLast? =some x:=by
 unfold lT
 split
 ·assumption
 ·simp
theorem Fy {l:List α} {m:Nat} {x:α} (h:l[m]? =some x):(eO (l.take (m+1))).getLast? =some x:=by
 rw [qm h];exact Vg _ _
theorem FB {l:List α} {m:Nat} {x:α} (h1:l[m]? =some x) (h2:l[m+1]? =some x):eO (l.take (m+2))=eO (l.take (m+1)):=by
 rw [qm h2,lT,if_pos (Fy h1)]
theorem Ay {l:List α} {m:Nat} {x y:α} (h1:l[m]? =some x) (h2:l[m+1]? =some y) (hn:y≠x):eO (l.take (m+2))=eO (l.take (m+1))++[y]:=by
 rw [qm h2,lT,if_neg]
 rw [Fy h1]
 intro e;cases e;exact hn rfl
theorem CV {l:List α} (h:l.length < 2):eO l=l:=by
 match l,h with
 |[],_=>rfl
 |[x],_=>rfl
structure xZ (l:List α) (K m:Nat) (dk:List α):Prop where
 km:K+1<=m
 ml:m<=l.length
 len:dk.length=l.length
 kept:dk.take K=eO (l.take m)
 rest:dk.drop (m - 1)=l.drop (m - 1)
theorem xZ.at {l dk:List α} {K m j:Nat} (h:xZ l K m dk) (hj:m - 1<=j) {x:α} (hx:l[j]? =some x):dk[j]? =some x:=by
 have:(dk.drop (m - 1))[j - (m - 1)]? =(l.drop (m - 1))[j - (m - 1)]? :=by rw [h.rest]
 rw [List.getElem?_drop,List.getElem?_drop,show m - 1+(j - (m - 1))=j by omega,hx] at this
 exact this
theorem xZ.start {l:List α} {k:Nat} {x:α} (hk:eO (l.take (k+1))=l.take (k+1)) (h1:l[k]? =some x) (h2:l[k+1]? =some x):xZ l (k+1) (k+2) l:=
 ⟨by omega,by have:=(List.getElem?_eq_some_iff.1 h2).1;omega,rfl,by rw [FB h1 h2,hk],rfl⟩
theorem xZ.same {l dk:List α} {K m:Nat} (h:xZ l K m dk) {x:α} (h1:l[m - 1]? =some x) (h2:l[m]? =some x):xZ l K (m+1) dk:=by
 have km:=h.km
 obtain⟨i,rfl⟩:∃i,m=i+1:=⟨m - 1,by omega⟩
 refine⟨by omega,by have:=(List.getElem?_eq_some_iff.1 h2).1;omega,h.len,by rw [h.kept];exact (FB (m:=i) h1 h2).symm,?_⟩
 have:=h.rest
 simp only [Nat.add_sub_cancel] at this ⊢
 rw [<- List.drop_drop, <- List.drop_drop,this]
theorem xZ.new {l dk:List α} {K m:Nat} (h:xZ l K m dk) {x y:α} (h1:l[m - 1]? =some x) (h2:l[m]? =some y) (hn:y≠x):xZ l (K+1) (m+1) (dk.set K y):=by
 have km:=h.km
 have hlen:=h.len
 have hml:=(List.getElem?_eq_some_iff.1 h2).1
 obtain⟨i,rfl⟩:∃i,m=i+1:=⟨m - 1,by omega⟩
 refine⟨by omega,by omega,by simpa using h.len,?_,?_⟩
 ·rw [List.take_succ_eq_append_getElem (by simp;omega),List.take_set_of_le (Nat.le_refl _),h.kept,Ay (m:=i) h1 h2 hn]
  simp
 ·have:=h.rest
  simp only [Nat.add_sub_cancel] at this ⊢
  rw [List.drop_set_of_lt (by omega), <- List.drop_drop, <- List.drop_drop,this]
end
instance:DecidableEq Lit:=fun x y=>match h:aY x y with
 |true=>.isTrue (gH.1 h)
 |false=>.isFalse fun e=>by rw [e,gH.2 rfl] at h;cases h
abbrev jk (x y:Lit):Prop:=x.act < y.act\/(x.act=y.act/\(x.kind < y.kind\/(x.kind=y.kind/\x.val < y.val)))
theorem zD {a b:Lit}:jo a b < 0↔jk a b:=by
 simp only [jo,orI,Ci,jk]
 repeat' split
 all_goals omega
theorem Te (a b:Lit):jk a b\/a=b\/jk b a:=by
 by_cases h1:jk a b
 ·exact .inl h1
 by_cases h2:jk b a
 ·exact .inr (.inr h2)
 ·refine .inr (.inl ?_)
  cases a;cases b
  simp only [jk] at h1 h2
  simp only [Lit.mk.injEq];omega
theorem jk.trans {a b c:Lit} (h:jk a b) (k:jk b c):jk a c:=by unfold jk at*;omega
theorem jk.irr {a:Lit}:¬ jk a a:=by unfold jk;omega
theorem Jf:∀{l m:List Lit},l.Pairwise jk->m.Pairwise jk->(∀x,x∈l↔x∈m)->l=m
 |[],[],_,_,_=>rfl
 |[],y::m,_,_,h=>by have:=(h y).2 (by simp);simp at this
 |x::l,[],_,_,h=>by have:=(h x).1 (by simp);simp at this
 |x::l,y::m,hl,hm,h=>by
  rw [List.pairwise_cons] at hl hm
  have hxy:x=y:=by
   rcases List.mem_cons.1 ((h x).1 (by simp)) with e|e
   ·exact e
   ·rcases List.mem_cons.1 ((h y).2 (by simp)) with e'|e'
    ·exact e'.symm
    ·exact absurd ((hm.1 x e).trans (hl.1 y e')) jk.irr
  subst hxy
  rw [Jf hl.2 hm.2 fun z=>⟨fun hz=>?_,fun hz=>?_⟩]
  ·rcases List.mem_cons.1 ((h z).1 (by simp [hz])) with e|e
   ·exact absurd (e ▸ hl.1 z hz) jk.irr
   ·exact e
  ·rcases List.mem_cons.1 ((h z).2 (by simp [hz])) with e|e
   ·exact absurd (e ▸ hm.1 z hz) jk.irr
   ·exact e
def iD:List Lit->Lit->List Lit
 |[],x=>[x]
 |y::r,x=>if jo y x < 0 then y::iD r x else if y=x then y::r else x::y::r
def bJ (l:List Lit):List Lit:=l.foldl iD []
theorem FC:∀{l:List Lit} {n:Lit},l.Pairwise jk->(iD l n).Pairwise jk/\∀x,x∈iD l n↔x∈l\/x=n
 |[],n,_=>by simp [iD]
 |y::r,n,h=>by
  rw [List.pairwise_cons] at h
  rw [iD]
  split
  ·rename_i hy
   rw [zD] at hy
   obtain⟨h1,h2⟩:=FC (n:=n) h.2
   refine⟨List.pairwise_cons.2 ⟨fun z hz=>?_,h1⟩,fun x=>?_⟩
   ·rcases (h2 z).1 hz with e'|rfl
    ·exact h.1 z e'
    ·exact hy
   ·rw [List.mem_cons,h2 x,List.mem_cons,or_assoc]
  split
  ·rename_i _ hy
   subst hy
   refine⟨List.pairwise_cons.2 h,fun x=>⟨.inl,?_⟩⟩
   rintro (hx|rfl)
   ·exact hx
   ·simp
  ·rename_i h1 h2
   rw [zD] at h1
   have hn:jk n y:=by
    rcases Te n y with k|k|k
    ·exact k
    ·exact absurd k.symm h2
    ·exact absurd k h1
   refine⟨List.pairwise_cons.2 ⟨fun z hz=>?_,List.pairwise_cons.2 h⟩,fun x=>by rw [List.mem_cons];exact or_comm⟩
   rcases List.mem_cons.1 hz with rfl|hz
   ·exact hn
   ·exact hn.trans (h.1 z hz)
theorem CW:∀{l o:List Lit},o.Pairwise jk->(l.foldl iD o).Pairwise jk/\∀x,x∈l.foldl iD o↔x∈o\/x∈l
 |[],o,h=>⟨h,by simp⟩
 |y::l,o,h=>by
  rw [List.foldl_cons]
  obtain⟨h1,h2⟩:=FC (n:=y) h
  obtain⟨h3,h4⟩:=CW (l:=l) h1
  refine⟨h3,fun x=>?_⟩
  rw [h4,h2,List.mem_cons,or_assoc]
theorem sZ (l:List Lit):(bJ l).Pairwise jk/\∀x,x∈bJ l↔x∈l:=by
 obtain⟨h1,h2⟩:=CW (l:=l) (o:=[]) List.Pairwise.nil
 exact⟨h1,fun x=>(h2 x).trans (by simp)⟩
theorem Gz (l:List Lit) (n:Lit):(iD l n).length<=l.length+1:=by
 induction l with
 |nil=>simp [iD]
 |cons y r ih=>
  rw [iD]
  split
  ·simp;omega
  split
  ·simp
  ·simp
theorem FD (l:List Lit):(bJ l).length<=l.length:=by
 have:∀(l o:List Lit),(l.foldl iD o).length<=o.length+l.length:=by
  intro l
  induction l with
  |nil=>simp
  |cons x l ih=>
   intro o
   rw [List.foldl_cons]
   have h1:=ih (iD o x)
   have h2:=Gz o x
   simp only [List.length_cons];omega
 have:=this l []
 simpa [bJ] using this
abbrev aaX (x y:Lit):Prop:=¬ jk y x
theorem MG {acc:List Lit} {x:Lit} (h:acc.Pairwise jk) (ha:∀a∈acc,aaX a x):(lT acc x).Pairwise jk/\∀y,y∈lT acc x↔y∈acc\/y=x:=by
 unfold lT
 split
 ·rename_i hl
  have hm:x∈acc:=List.mem_of_getLast? hl
  exact⟨h,fun y=>⟨.inl,by rintro (hy|rfl)<;>assumption⟩⟩
 ·rename_i hl
  refine⟨List.pairwise_append.2 ⟨h,by simp,fun a hax b hb=>?_⟩,by simp⟩
  obtain rfl:=List.mem_singleton.1 hb
  have h1:=ha a hax
  rcases List.eq_nil_or_concat acc with rfl|⟨i,m,rfl⟩
  ·simp at hax
  ·rw [List.concat_eq_append] at*
   simp only [List.getLast?_append,List.getLast?_singleton,Option.some_or,Option.some.injEq] at hl
   have hm:=ha m (by simp)
   have hmb:jk m b:=by
    rcases Te m b with k|k|k
    ·exact k
    ·exact absurd k hl
    ·exact absurd k hm
   rcases List.mem_append.1 hax with hi|hi
   ·exact ((List.pairwise_append.1 h).2.2 a hi m (by simp)).trans hmb
   ·obtain rfl:=List.mem_singleton.1 hi;exact hmb
theorem zF:∀{l acc:List Lit},acc.Pairwise jk->l.Pairwise aaX->(∀a∈acc,∀x∈l,aaX a x)->(l.foldl lT acc).Pairwise jk/\∀x,x∈l.foldl lT acc↔x∈acc\/x∈l
 |[],acc,h,_,_=>⟨h,by simp⟩
 |y::l,acc,h,hl,ha=>by
  rw [List.pairwise_cons] at hl
  rw [List.foldl_cons]
  obtain⟨h1,h2⟩:=MG (x:=y) h fun a hx=>ha a hx y (by simp)
  obtain⟨h3,h4⟩:=zF (l:=l) h1 hl.2 fun a hx z hz=>by
   rcases (h2 a).1 hx with hx|rfl
   ·exact ha a hx z (by simp [hz])
   ·exact hl.1 z hz
  refine⟨h3,fun x=>?_⟩
  rw [h4,h2,List.mem_cons,or_assoc]
theorem OY (l:List Lit):eO (l.mergeSort fun x y=> !decide (jo y x < 0))=bJ l:=by
 have hs:(l.mergeSort fun x y=> !decide (jo y x < 0)).Pairwise aaX:=by
  have:=List.pairwise_mergeSort (le:=fun x y:Lit=> !decide (jo y x < 0)) (fun a b c=>by simp only [Bool.not_eq_true',decide_eq_false_iff_not,zD,jk];omega) (fun a b=>by simp only [Bool.or_eq_true,Bool.not_eq_true',decide_eq_false_iff_not,zD,jk];omega) l
  exact this.imp (by simp only [Bool.not_eq_true',decide_eq_false_iff_not,zD];exact id)
 obtain⟨h1,h2⟩:=zF (acc:=[]) List.Pairwise.nil hs (by simp)
 obtain⟨h3,h4⟩:=sZ l
 refine Jf h1 h3 fun x=>?_
 have e2:=h2 x
 rw [List.mem_mergeSort] at e2
 rw [h4]
 exact e2.trans (by simp)
theorem CX {o:List Lit} {x y:Lit} {k:Nat} (hi:o.take k++iD (o.drop k) x=iD o x) (hy:o[k]? =some y):
  (jo y x < 0->o.take (k+1)++iD (o.drop (k+1)) x=iD o x)/\(¬ jo y x < 0->y=x->iD o x=o)/\(¬ jo y x < 0->y≠x->iD o x=o.take k++[x]++o.drop k):=by
 obtain⟨hk,rfl⟩:=List.getElem?_eq_some_iff.1 hy
 rw [List.drop_eq_getElem_cons hk,iD] at hi
 refine⟨fun h=>?_,fun h e=>?_,fun h e=>?_⟩
 ·rw [if_pos h] at hi
  rw [<- hi,List.take_succ_eq_append_getElem hk,List.append_assoc];rfl
 ·rw [if_neg h,if_pos e] at hi
  rw [<- hi, <- List.drop_eq_getElem_cons hk,List.take_append_drop]
 ·rw [if_neg h,if_neg e] at hi
  rw [<- hi, <- List.drop_eq_getElem_cons hk];simp
theorem ZL {o:List Lit} {x:Lit} {k:Nat} (hi:o.take k++iD (o.drop k) x=iD o x) (hk:o.length<=k):iD o x=o.take k++[x]++o.drop k:=by
 rw [<- hi,List.drop_eq_nil_of_le hk];simp [iD]
end Go.Proofs.YthegbfgeochckaaGreat.Abs
