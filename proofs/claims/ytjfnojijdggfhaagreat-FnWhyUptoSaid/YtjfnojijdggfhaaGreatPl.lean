/- Lists without neighbours that are the same; lists of literals in order. -/
import Derived.Test.YtjfnojijdggfhaaGreatPlain
set_option linter.all false
namespace Go.Proofs.YtjfnojijdggfhaaGreat.Abs
section
variable {α:Type} [DecidableEq α]
def iZ (acc:List α) (x:α):List α:=if acc.getLast? =some x then acc else acc++[x]
def dG (l:List α):List α:=l.foldl iZ []
theorem lI {l:List α} {m:Nat} {x:α} (h:l[m]? =some x):dG (l.take (m+1))=iZ (dG (l.take m)) x:=by
 obtain⟨hm,rfl⟩:=List.getElem?_eq_some_iff.1 h
 rw [dG,List.take_succ_eq_append_getElem hm,List.foldl_append];rfl
theorem NJ (acc:List α) (x:α):(iZ acc x).getLast? =some x:=by
 unfold iZ
 split
 ·assumption
 ·simp
theorem zw {l:List α} {m:Nat} {x:α} (h:l[m]? =some x):(dG (l.take (m+1))).getLast? =some x:=by
 rw [lI h];exact NJ _ _
theorem zx {l:List α} {m:Nat} {x:α} (h1:l[m]? =some x) (h2:l[m+1]? =some x):dG (l.take (m+2))=dG (l.take (m+1)):=by
 rw [lI h2,iZ,if_pos (zw h1)]
theorem vk {l:List α} {m:Nat} {x y:α} (h1:l[m]? =some x) (h2:l[m+1]? =some y) (hn:y≠x):dG (l.take (m+2))=dG (l.take (m+1))++[y]:=by
 rw [lI h2,iZ,if_neg]
 rw [zw h1]
 intro e;cases e;exact hn rfl
theorem xH {l:List α} (h:l.length < 2):dG l=l:=by
 match l,h with
 |[],_=>rfl
 |[x],_=>rfl
structure rG (l:List α) (K m:Nat) (dk:List α):Prop where
 km:K+1≤m
 ml:m≤l.length
 len:dk.length=l.length
 kept:dk.take K=dG (l.take m)
 rest:dk.drop (m - 1)=l.drop (m - 1)
theorem rG.at {l dk:List α} {K m j:Nat} (h:rG l K m dk) (hj:m - 1≤j) {x:α} (hx:l[j]? =some x):dk[j]? =some x:=by
 have:(dk.drop (m - 1))[j - (m - 1)]? =(l.drop (m - 1))[j - (m - 1)]? :=by rw [h.rest]
 rw [List.getElem?_drop,List.getElem?_drop,show m - 1+(j - (m - 1))=j by omega,hx] at this
 exact this
theorem rG.start {l:List α} {k:Nat} {x:α} (hk:dG (l.take (k+1))=l.take (k+1)) (h1:l[k]? =some x) (h2:l[k+1]? =some x):rG l (k+1) (k+2) l:=
 ⟨by omega,by have:=(List.getElem?_eq_some_iff.1 h2).1;omega,rfl,by rw [zx h1 h2,hk],rfl⟩
theorem rG.same {l dk:List α} {K m:Nat} (h:rG l K m dk) {x:α} (h1:l[m - 1]? =some x) (h2:l[m]? =some x):rG l K (m+1) dk:=by
 have km:=h.km
 obtain⟨i,rfl⟩:∃i,m=i+1:=⟨m - 1,by omega⟩
 refine⟨by omega,by have:=(List.getElem?_eq_some_iff.1 h2).1;omega,h.len,by rw [h.kept];exact (zx (m:=i) h1 h2).symm,?_⟩
 have:=h.rest
 simp only [Nat.add_sub_cancel] at this ⊢
 rw [← List.drop_drop, ← List.drop_drop,this]
theorem rG.new {l dk:List α} {K m:Nat} (h:rG l K m dk) {x y:α} (h1:l[m - 1]? =some x) (h2:l[m]? =some y) (hn:y≠x):rG l (K+1) (m+1) (dk.set K y):=by
 have km:=h.km
 have hlen:=h.len
 have hml:=(List.getElem?_eq_some_iff.1 h2).1
 obtain⟨i,rfl⟩:∃i,m=i+1:=⟨m - 1,by omega⟩
 refine⟨by omega,by omega,by simpa using h.len,?_,?_⟩
 ·rw [List.take_succ_eq_append_getElem (by simp;omega),List.take_set_of_le (Nat.le_refl _),h.kept,vk (m:=i) h1 h2 hn]
  simp
 ·have:=h.rest
  simp only [Nat.add_sub_cancel] at this ⊢
  rw [List.drop_set_of_lt (by omega), ← List.drop_drop, ← List.drop_drop,this]
end
instance:DecidableEq Lit:=fun x y=>match h:bT x y with
 |true=>.isTrue (gG.1 h)
 |false=>.isFalse fun e=>by rw [e,gG.2 rfl] at h;cases h
abbrev dV (x y:Lit):Prop:=x.act < y.act∨(x.act=y.act∧(x.kind < y.kind∨(x.kind=y.kind∧x.val < y.val)))
theorem ny {a b:Lit}:jD a b < 0↔dV a b:=by
 simp only [jD,orI,Ip,dV]
 repeat' split
 all_goals omega
theorem LD (a b:Lit):dV a b∨a=b∨dV b a:=by
 by_cases h1:dV a b
 ·exact .inl h1
 by_cases h2:dV b a
 ·exact .inr (.inr h2)
 ·refine .inr (.inl ?_)
  cases a;cases b
  simp only [dV] at h1 h2
  simp only [Lit.mk.injEq];omega
theorem dV.ne {a b:Lit} (h:dV a b):a≠b:=by rintro rfl;unfold dV at h;omega
theorem dV.trans {a b c:Lit} (h:dV a b) (k:dV b c):dV a c:=by unfold dV at*;omega
theorem dV.irr {a:Lit}:¬ dV a a:=by unfold dV;omega
theorem CU:∀{l m:List Lit},l.Pairwise dV→m.Pairwise dV→(∀x,x∈l↔x∈m)→l=m
 |[],[],_,_,_=>rfl
 |[],y::m,_,_,h=>by have:=(h y).2 (by simp);simp at this
 |x::l,[],_,_,h=>by have:=(h x).1 (by simp);simp at this
 |x::l,y::m,hl,hm,h=>by
  rw [List.pairwise_cons] at hl hm
  have hxy:x=y:=by
   rcases List.mem_cons.1 ((h x).1 (by simp)) with e|e
   ·exact e
   ·rcases List.mem_cons.1 ((h y).2 (by simp)) with e'|e'
    ·exact e'.symm
    ·exact absurd ((hm.1 x e).trans (hl.1 y e')) dV.irr
  subst hxy
  rw [CU hl.2 hm.2 fun z=>⟨fun hz=>?_,fun hz=>?_⟩]
  ·rcases List.mem_cons.1 ((h z).1 (by simp [hz])) with e|e
   ·exact absurd (e ▸ hl.1 z hz) dV.irr
   ·exact e
  ·rcases List.mem_cons.1 ((h z).2 (by simp [hz])) with e|e
   ·exact absurd (e ▸ hm.1 z hz) dV.irr
   ·exact e
def nE:List Lit→Lit→List Lit
 |[],x=>[x]
 |y::r,x=>if jD y x < 0 then y::nE r x else if y=x then y::r else x::y::r
def dB (l:List Lit):List Lit:=l.foldl nE []
theorem zy:∀{l:List Lit} {n:Lit},l.Pairwise dV→(nE l n).Pairwise dV∧∀x,x∈nE l n↔x∈l∨x=n
 |[],n,_=>by simp [nE]
 |y::r,n,h=>by
  rw [List.pairwise_cons] at h
  rw [nE]
  split
  ·rename_i hy
   rw [ny] at hy
   obtain⟨h1,h2⟩:=zy (n:=n) h.2
   refine⟨List.pairwise_cons.2 ⟨fun z hz=>?_,h1⟩,fun x=>?_⟩
   ·rcases (h2 z).1 hz with e'|rfl
    ·exact h.1 z e'
    ·exact hy
   ·rw [List.mem_cons,h2 x,List.mem_cons,or_assoc]
  split
  ·rename_i _ hy
   subst hy
   refine⟨List.pairwise_cons.2 h,fun x=>⟨.inl,?_⟩⟩
   rintro (hx|rfl)
   ·exact hx
   ·simp
  ·rename_i h1 h2
   rw [ny] at h1
   have hn:dV n y:=by
    rcases LD n y with k|k|k
    ·exact k
    ·exact absurd k.symm h2
    ·exact absurd k h1
   refine⟨List.pairwise_cons.2 ⟨fun z hz=>?_,List.pairwise_cons.2 h⟩,fun x=>by rw [List.mem_cons];exact or_comm⟩
   rcases List.mem_cons.1 hz with rfl|hz
   ·exact hn
   ·exact hn.trans (h.1 z hz)
theorem xI:∀{l o:List Lit},o.Pairwise dV→(l.foldl nE o).Pairwise dV∧∀x,x∈l.foldl nE o↔x∈o∨x∈l
 |[],o,h=>⟨h,by simp⟩
 |y::l,o,h=>by
  rw [List.foldl_cons]
  obtain⟨h1,h2⟩:=zy (n:=y) h
  obtain⟨h3,h4⟩:=xI (l:=l) h1
  refine⟨h3,fun x=>?_⟩
  rw [h4,h2,List.mem_cons,or_assoc]
theorem kT (l:List Lit):(dB l).Pairwise dV∧∀x,x∈dB l↔x∈l:=by
 obtain⟨h1,h2⟩:=xI (l:=l) (o:=[]) List.Pairwise.nil
 exact⟨h1,fun x=>(h2 x).trans (by simp)⟩
theorem RO (l:List Lit) (n:Lit):(nE l n).length≤l.length+1:=by
 induction l with
 |nil=>simp [nE]
 |cons y r ih=>
  rw [nE]
  split
  ·simp;omega
  split
  ·simp
  ·simp
theorem zA (l:List Lit):(dB l).length≤l.length:=by
 have:∀(l o:List Lit),(l.foldl nE o).length≤o.length+l.length:=by
  intro l
  induction l with
  |nil=>simp
  |cons x l ih=>
   intro o
   rw [List.foldl_cons]
   have h1:=ih (nE o x)
   have h2:=RO o x
   simp only [List.length_cons];omega
 have:=this l []
 simpa [dB] using this
abbrev TB (x y:Lit):Prop:=¬ dV y x
theorem Gl {acc:List Lit} {x:Lit} (h:acc.Pairwise dV) (ha:∀a∈acc,TB a x):(iZ acc x).Pairwise dV∧∀y,y∈iZ acc x↔y∈acc∨y=x:=by
 unfold iZ
 split
 ·rename_i hl
  have hm:x∈acc:=List.mem_of_getLast? hl
  exact⟨h,fun y=>⟨.inl,by rintro (hy|rfl)<;>assumption⟩⟩
 ·rename_i hl
  refine⟨List.pairwise_append.2 ⟨h,by simp,fun a hax b hb=>?_⟩,by simp⟩
  obtain rfl:=List.mem_singleton.1 hb
  have h1:=ha a hax
  rcases List.eq_nil_or_concat acc with rfl|⟨i,m,rfl⟩
  ·simp at hax
  ·rw [List.concat_eq_append] at*
   simp only [List.getLast?_append,List.getLast?_singleton,Option.some_or,Option.some.injEq] at hl
   have hm:=ha m (by simp)
   have hmb:dV m b:=by
    rcases LD m b with k|k|k
    ·exact k
    ·exact absurd k hl
    ·exact absurd k hm
   rcases List.mem_append.1 hax with hi|hi
   ·exact ((List.pairwise_append.1 h).2.2 a hi m (by simp)).trans hmb
   ·obtain rfl:=List.mem_singleton.1 hi;exact hmb
theorem tT:∀{l acc:List Lit},acc.Pairwise dV→l.Pairwise TB→(∀a∈acc,∀x∈l,TB a x)→(l.foldl iZ acc).Pairwise dV∧∀x,x∈l.foldl iZ acc↔x∈acc∨x∈l
 |[],acc,h,_,_=>⟨h,by simp⟩
 |y::l,acc,h,hl,ha=>by
  rw [List.pairwise_cons] at hl
  rw [List.foldl_cons]
  obtain⟨h1,h2⟩:=Gl (x:=y) h fun a hx=>ha a hx y (by simp)
  obtain⟨h3,h4⟩:=tT (l:=l) h1 hl.2 fun a hx z hz=>by
   rcases (h2 a).1 hx with hx|rfl
   ·exact ha a hx z (by simp [hz])
   ·exact hl.1 z hz
  refine⟨h3,fun x=>?_⟩
  rw [h4,h2,List.mem_cons,or_assoc]
theorem Je (l:List Lit):dG (l.mergeSort fun x y=> !decide (jD y x < 0))=dB l:=by
 have hs:(l.mergeSort fun x y=> !decide (jD y x < 0)).Pairwise TB:=by
  have:=List.pairwise_mergeSort (le:=fun x y:Lit=> !decide (jD y x < 0)) (fun a b c=>by simp only [Bool.not_eq_true',decide_eq_false_iff_not,ny,dV];omega) (fun a b=>by simp only [Bool.or_eq_true,Bool.not_eq_true',decide_eq_false_iff_not,ny,dV];omega) l
  exact this.imp (by simp only [Bool.not_eq_true',decide_eq_false_iff_not,ny];exact id)
 obtain⟨h1,h2⟩:=tT (acc:=[]) List.Pairwise.nil hs (by simp)
 obtain⟨h3,h4⟩:=kT l
 refine CU h1 h3 fun x=>?_
 have e2:=h2 x
 rw [List.mem_mergeSort] at e2
 rw [h4]
 exact e2.trans (by simp)
end Go.Proofs.YtjfnojijdggfhaaGreat.Abs
