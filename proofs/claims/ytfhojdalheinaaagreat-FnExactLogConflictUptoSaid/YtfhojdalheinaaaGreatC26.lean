/- Contracts: a domain's literals; refutations are explained. No statement of a claim. -/
import Derived.Test.YtfhojdalheinaaaGreatNd
set_option linter.all false
set_option linter.unusedVariables false
set_option linter.unusedSimpArgs false
set_option maxRecDepth 20000
set_option maxHeartbeats 4000000
namespace Go.Proofs.YtfhojdalheinaaaGreat.Abs
open Go.Proofs
def setDiff (a b:List Int):List Int:=setOf (a.filter fun n=> !b.contains n)
theorem impl_SetDifference1 (k:Int) (b:List Int):Con 419 [.d (i64 k),.ref (ints b)] (.d (.bool (!b.contains k))):=by
 refine con Tryz.func419 rfl rfl Tryz.call419 rfl fun hwf=>?_
 (repeat' ((conv=>whnf);first | refine gA ?_ | (refine gB ?_ ?_ <;> intro h) | refine gC (impl_SetHas b k) ?_ | intro _)) <;> try (conv=>whnf)
 all_goals exact⟨rfl,rfl,trivial⟩
theorem impl_SetDifference (a b:List Int):Con 381 [.d (ints a),.d (ints b)] (.d (ints (setDiff a b))):=by
 refine con Tryz.func381 rfl rfl Tryz.call381 rfl fun hwf=>?_
 (repeat' ((conv=>whnf);first | refine gA ?_ | (refine gB ?_ ?_ <;> intro h) | refine gC (impl_kept a 419 [ints b] _ fun x=>impl_SetDifference1 x b) ?_ | refine gC (impl_SetOf (a.filter fun n=> !b.contains n)) ?_ | intro _)) <;> try (conv=>whnf)
 all_goals exact⟨rfl,rfl,trivial⟩
theorem spec_SetDifference (a b:List Int):Con 370 [.d (ints a),.d (ints b)] (.d (ints (setDiff a b))):=by
 refine con Tryz.func370 rfl rfl Tryz.call370 rfl fun hwf=>?_
 simp only [ARs.wf,AR.wf,AV.wf,AV.wfs,List.length_map,lim] at hwf
 (repeat' ((conv=>whnf);first | refine gA ?_ | (refine gB ?_ ?_ <;> intro h) | (refine gI ?_;intro x hx) | (refine gJ ?_;intro j x hj hx) | refine gP ?_ | refine gV ?_ | intro _)) <;> try (conv=>whnf)
 refine loopF [1,9,10] [] [8] ?_
 (conv=>whnf)
 refine LoopC.go ((Nat)×(List Int)) (fun⟨k,o⟩=>(k≤a.length)∧(o.length≤k)∧(o++(a.drop k).filter (fun n=> !b.contains n)=a.filter (fun n=> !b.contains n))) (fun⟨k,o⟩=>[(11,.data (i64 k)),(5,.own 8 0)]) (fun _=>[]) (fun⟨k,o⟩=>[(8,3,o.map i64,0)]) (fun⟨k,o⟩=>a.length - k) ⟨0,[]⟩ ?_ ?_
 ·exact⟨by omega,by simp,rfl⟩
 rintro⟨k,o⟩ ⟨hk,ho,hi⟩
 (repeat' ((conv=>whnf);first | refine gA ?_ | (refine gB ?_ ?_ <;> intro h) | (refine gI ?_;intro x hx) | (refine gJ ?_;intro j x hj hx) | refine gP ?_ | refine gV ?_ | refine gC (spec_SetHas _ _) ?_ | refine gC (spec_SetOf o) ?_ | intro _)) <;> try (conv=>whnf)
 ·refine nx ⟨k+1,o⟩ ?_
  exact⟨by omega,by omega,(filter_step hi hx).2 (by simp only [h];rfl)⟩
 ·refine nw ⟨k+1,o++[x]⟩ ?_ ?_
  ·(repeat' ((conv=>whnf) <;> (first | exact trivial | exact rfl | with_reducible refine And.intro ?_ ?_))) <;> ((conv=>whnf) <;> (simp))
  exact⟨by omega,by simp;omega,(filter_step hi hx).1 (by simp only [h];rfl)⟩
 ·refine⟨?_,rfl,trivial⟩
  rw [setDiff, ← hi,drop_end' (by assumption)];simp
def loLit (k:Nat) (x:Int):List Lit:=if x > 0 then [⟨1,k,x⟩] else []
def hiLit (d:Int) (k:Nat) (y:Int):List Lit:=if y < d - 1 then [⟨2,k,y⟩] else []
def noLits (k:Nat) (l:List Int):List Lit:=l.map fun n=>⟨4,k,n⟩
def domLitsAt (p:Proj) (b:Dom) (k:Nat):List Lit:=
 match p.acts[k]?,b.lo[k]?,b.hi[k]?,b.modes[k]? with
 | some a,some x,some y,some m=>loLit k x++hiLit p.dead k y++noLits k (setDiff (intRange a.modes.length) m)
 | _,_,_,_=>[]
def domLitsN (p:Proj) (b:Dom):Nat→List Lit
 | 0=>[]
 | k+1=>domLitsN p b k++domLitsAt p b k
def domLits (p:Proj) (b:Dom):List Lit:=if domForm p b=true then domLitsN p b p.acts.length else []
theorem domLitsAt_eq {p:Proj} {b:Dom} {k:Nat} {a:Activ} {x y:Int} {m:List Int} (g:DomGet p b k a x y m):domLitsAt p b k=loLit k x++hiLit p.dead k y++noLits k (setDiff (intRange a.modes.length) m):=by
 simp only [domLitsAt,g.act,g.lo,g.hi,g.modes]
theorem intRange_len (n:Int):(intRange n).length≤200:=by
 unfold intRange
 split
 ·rename_i h
  have:=within_iff.1 h
  simp;omega
 ·simp
theorem setDiff_len (n:Int) (m:List Int):(setDiff (intRange n) m).length≤200:=by
 have h1:=setOf_len ((intRange n).filter fun n=> !m.contains n)
 have h2:=List.length_filter_le (fun n=> !m.contains n) (intRange n)
 have h3:=intRange_len n
 simp only [setDiff];omega
theorem domLitsAt_len (p:Proj) (b:Dom) (k:Nat):(domLitsAt p b k).length≤202:=by
 unfold domLitsAt
 split
 ·rename_i a x y m _ _ _ _
  have:=setDiff_len a.modes.length m
  have h1:(loLit k x).length≤1:=by unfold loLit;split <;> simp
  have h2:(hiLit p.dead k y).length≤1:=by unfold hiLit;split <;> simp
  simp only [List.length_append,noLits,List.length_map];omega
 ·simp
theorem domLitsN_len (p:Proj) (b:Dom) (k:Nat):(domLitsN p b k).length≤202*k:=by
 induction k with
 | zero=>simp [domLitsN]
 | succ k ih=>
  have:=domLitsAt_len p b k
  simp only [domLitsN,List.length_append];omega
theorem domLits_len (p:Proj) (b:Dom):(domLits p b).length≤1212:=by
 unfold domLits
 split
 ·rename_i h
  have h1:=(projForm (domForm_parts h).1).nact
  have h2:=domLitsN_len p b p.acts.length
  omega
 ·simp
theorem noLits_step {k j:Nat} {l:List Int} {n:Int} {o q:List Lit} (ho:o=q++noLits k (l.take j)) (hn:l[j]? =some n):o++[⟨4,(k:Int),n⟩]=q++noLits k (l.take (j+1)):=by
 obtain⟨hj,rfl⟩:=List.getElem?_eq_some_iff.1 hn
 rw [ho,List.take_succ_eq_append_getElem hj,noLits,noLits,List.map_append,List.append_assoc];rfl
theorem noLits_end {k j:Nat} {l:List Int} {o q:List Lit} (ho:o=q++noLits k (l.take j)) (hn:l.length≤j):o=q++noLits k l:=by
 rw [ho,List.take_of_length_le hn]
theorem noLits_len {k j:Nat} {l:List Int} {o q:List Lit} (ho:o=q++noLits k (l.take j)):o.length≤q.length+l.length:=by
 rw [ho];simp only [List.length_append,noLits,List.length_map,List.length_take];omega
theorem domLits_next {p:Proj} {b:Dom} {k:Nat} {a:Activ} {x y:Int} {m:List Int} (g:DomGet p b k a x y m) {u v:List Lit} (hu:loLit k x=u) (hv:hiLit p.dead k y=v):domLitsN p b k++u++v++noLits k (setDiff (intRange a.modes.length) m)=domLitsN p b (k+1):=by
 rw [domLitsN,domLitsAt_eq g,hu,hv];simp [List.append_assoc]
theorem impl_DomainLiterals (p:Proj) (b:Dom) (hp:p.fine):Con 339 [.d p.av,.d b.av] (.d (lits (domLits p b))):=by
 refine con Tryz.func339 rfl rfl Tryz.call339 rfl fun hwf=>?_
 simp only [ARs.wf,AR.wf,AV.wf,AV.wfs,List.length_map,lim] at hwf
 cases hf:domForm p b with
 | false=>
  (repeat' ((conv=>whnf);first | with_reducible refine Br.no hf ?_ | with_reducible refine Br.yes hf ?_ | refine gA ?_ | (refine gB ?_ ?_ <;> intro h) | (refine gI ?_;intro x hx) | (refine gJ ?_;intro j x hj hx) | refine gP ?_ | refine gV ?_ | refine gC (impl_DomainForm p b hp) ?_ | intro _)) <;> try (conv=>whnf)
  refine⟨?_,rfl,trivial⟩
  rw [domLits,if_neg (by rw [hf];exact Bool.false_ne_true)];rfl
 | true=>
  rw [domLits,if_pos hf]
  obtain⟨hpo,l1,l2,l3,_⟩:=domForm_parts hf
  have hna:=(projForm hpo).nact
  have hde:=(projForm hpo).dead
  (repeat' ((conv=>whnf);first | with_reducible refine Br.no hf ?_ | with_reducible refine Br.yes hf ?_ | refine gA ?_ | (refine gB ?_ ?_ <;> intro h) | (refine gI ?_;intro x hx) | (refine gJ ?_;intro j x hj hx) | refine gP ?_ | refine gV ?_ | refine gC (impl_DomainForm p b hp) ?_ | intro _)) <;> try (conv=>whnf)
  refine loopF [2,3,16,17] [2,3] [14] ?_
  (conv=>whnf)
  refine LoopC.go ((Nat)) (fun k=>(k≤p.acts.length)) (fun k=>[(18,.data (i64 k)),(5,.own 14 0)]) (fun _=>[]) (fun k=>[(14,69,(domLitsN p b k).map Lit.av,0)]) (fun k=>p.acts.length - k) (0) ?_ ?_
  ·exact Nat.zero_le _
  rintro k hk
  by_cases hlt:k < p.acts.length
  rotate_left
  ·(repeat' ((conv=>whnf);first | (exfalso;omega) | refine gA ?_ | (refine gB ?_ ?_ <;> intro h) | (refine gI ?_;intro x hx) | (refine gJ ?_;intro j x hj hx) | refine gP ?_ | refine gV ?_ | intro _)) <;> try (conv=>whnf)
   refine⟨?_,rfl,trivial⟩
   rw [show p.acts.length=k by omega]
  obtain⟨a,lo,up,m,g⟩:=dom_get hf hlt
  have hxb:=g.lob
  have hyb:=g.hib
  have hq0:=domLitsN_len p b k
  (repeat' ((conv=>whnf);first | with_reducible refine Idx.got g.act rfl ?_ | with_reducible refine Idx.got g.lo rfl ?_ | with_reducible refine Idx.got g.hi rfl ?_ | with_reducible refine Idx.got g.modes rfl ?_ | refine gA ?_ | (refine gB ?_ ?_ <;> intro h) | (refine gI ?_;intro x hx) | (refine gJ ?_;intro j x hj hx) | refine gP ?_ | refine gV ?_ | refine gC (impl_ModeIndexes a) ?_ | refine gC (impl_SetDifference (intRange a.modes.length) m) ?_ | intro _)) <;> try (conv=>whnf)
  ·have hu:loLit k lo= [⟨1,k,lo⟩]:=if_pos (by omega)
   have hv:hiLit p.dead k up= [⟨2,k,up⟩]:=if_pos (by omega)
   have hd:=setDiff_len a.modes.length m
   have hq:=domLitsN_len p b k
   have hnx:=domLits_next g hu hv
   refine loopF [2,3,6,16,17,18,65,66] [2,3] [14] ?_
   (conv=>whnf)
   refine LoopC.mk ((Nat)×(List Lit)) (fun⟨j,o⟩=>(j≤(setDiff (intRange a.modes.length) m).length)∧(o=domLitsN p b k++[⟨1,k,lo⟩]++[⟨2,k,up⟩]++noLits k ((setDiff (intRange a.modes.length) m).take j))) (fun⟨j,o⟩=>[(67,.data (i64 j)),(5,.own 14 0)]) (fun _=>[]) (fun⟨j,o⟩=>[(14,69,o.map Lit.av,0)]) (fun⟨j,o⟩=>(setDiff (intRange a.modes.length) m).length - j) ⟨0,domLitsN p b k++[⟨1,k,lo⟩]++[⟨2,k,up⟩]⟩ ?_ ?_ ?_
   rotate_left
   ·(repeat' ((conv=>whnf) <;> (first | exact trivial | exact rfl | with_reducible refine And.intro ?_ ?_))) <;> ((conv=>whnf) <;> (simp [Lit.av]))
   rotate_left
   ·exact⟨Nat.zero_le _,by simp [noLits]⟩
   rintro⟨j,o⟩ ⟨hj,ho⟩
   have hol:=noLits_len ho
   (try simp only [List.length_append,List.length_cons,List.length_nil] at hol)
   (repeat' ((conv=>whnf);first | refine gA ?_ | (refine gB ?_ ?_ <;> intro h) | (refine gI ?_;intro x hx) | (refine gJ ?_;intro j x hj hx) | refine gP ?_ | refine gV ?_ | intro _)) <;> try (conv=>whnf)
   ·refine nw ⟨j+1,o++[⟨4,k,x⟩]⟩ ?_ ?_
    ·(repeat' ((conv=>whnf) <;> (first | exact trivial | exact rfl | with_reducible refine And.intro ?_ ?_))) <;> ((conv=>whnf) <;> (simp [Lit.av]))
    exact⟨by omega,noLits_step ho hx⟩
   ·refine nw (k+1) ?_ ?_
    ·(repeat' ((conv=>whnf) <;> (first | exact trivial | exact rfl | with_reducible refine And.intro ?_ ?_))) <;> ((conv=>whnf) <;> ((rw [← hnx];simp [noLits_end ho (by omega)])))
    exact (by omega:k+1≤p.acts.length)
  ·have hu:loLit k lo= [⟨1,k,lo⟩]:=if_pos (by omega)
   have hv:hiLit p.dead k up= []:=if_neg (by omega)
   have hd:=setDiff_len a.modes.length m
   have hq:=domLitsN_len p b k
   have hnx:=domLits_next g hu hv
   refine loopF [2,3,6,16,17,18,65,66] [2,3] [14] ?_
   (conv=>whnf)
   refine LoopC.mk ((Nat)×(List Lit)) (fun⟨j,o⟩=>(j≤(setDiff (intRange a.modes.length) m).length)∧(o=domLitsN p b k++[⟨1,k,lo⟩]++noLits k ((setDiff (intRange a.modes.length) m).take j))) (fun⟨j,o⟩=>[(67,.data (i64 j)),(5,.own 14 0)]) (fun _=>[]) (fun⟨j,o⟩=>[(14,69,o.map Lit.av,0)]) (fun⟨j,o⟩=>(setDiff (intRange a.modes.length) m).length - j) ⟨0,domLitsN p b k++[⟨1,k,lo⟩]⟩ ?_ ?_ ?_
   rotate_left
   ·(repeat' ((conv=>whnf) <;> (first | exact trivial | exact rfl | with_reducible refine And.intro ?_ ?_))) <;> ((conv=>whnf) <;> (simp [Lit.av]))
   rotate_left
   ·exact⟨Nat.zero_le _,by simp [noLits]⟩
   rintro⟨j,o⟩ ⟨hj,ho⟩
   have hol:=noLits_len ho
   (try simp only [List.length_append,List.length_cons,List.length_nil] at hol)
   (repeat' ((conv=>whnf);first | refine gA ?_ | (refine gB ?_ ?_ <;> intro h) | (refine gI ?_;intro x hx) | (refine gJ ?_;intro j x hj hx) | refine gP ?_ | refine gV ?_ | intro _)) <;> try (conv=>whnf)
   ·refine nw ⟨j+1,o++[⟨4,k,x⟩]⟩ ?_ ?_
    ·(repeat' ((conv=>whnf) <;> (first | exact trivial | exact rfl | with_reducible refine And.intro ?_ ?_))) <;> ((conv=>whnf) <;> (simp [Lit.av]))
    exact⟨by omega,noLits_step ho hx⟩
   ·refine nw (k+1) ?_ ?_
    ·(repeat' ((conv=>whnf) <;> (first | exact trivial | exact rfl | with_reducible refine And.intro ?_ ?_))) <;> ((conv=>whnf) <;> ((rw [← hnx];simp [noLits_end ho (by omega)])))
    exact (by omega:k+1≤p.acts.length)
  ·have hu:loLit k lo= []:=if_neg (by omega)
   have hv:hiLit p.dead k up= [⟨2,k,up⟩]:=if_pos (by omega)
   have hd:=setDiff_len a.modes.length m
   have hq:=domLitsN_len p b k
   have hnx:=domLits_next g hu hv
   refine loopF [2,3,6,16,17,18,65,66] [2,3] [14] ?_
   (conv=>whnf)
   refine LoopC.mk ((Nat)×(List Lit)) (fun⟨j,o⟩=>(j≤(setDiff (intRange a.modes.length) m).length)∧(o=domLitsN p b k++[⟨2,k,up⟩]++noLits k ((setDiff (intRange a.modes.length) m).take j))) (fun⟨j,o⟩=>[(67,.data (i64 j)),(5,.own 14 0)]) (fun _=>[]) (fun⟨j,o⟩=>[(14,69,o.map Lit.av,0)]) (fun⟨j,o⟩=>(setDiff (intRange a.modes.length) m).length - j) ⟨0,domLitsN p b k++[⟨2,k,up⟩]⟩ ?_ ?_ ?_
   rotate_left
   ·(repeat' ((conv=>whnf) <;> (first | exact trivial | exact rfl | with_reducible refine And.intro ?_ ?_))) <;> ((conv=>whnf) <;> (simp [Lit.av]))
   rotate_left
   ·exact⟨Nat.zero_le _,by simp [noLits]⟩
   rintro⟨j,o⟩ ⟨hj,ho⟩
   have hol:=noLits_len ho
   (try simp only [List.length_append,List.length_cons,List.length_nil] at hol)
   (repeat' ((conv=>whnf);first | refine gA ?_ | (refine gB ?_ ?_ <;> intro h) | (refine gI ?_;intro x hx) | (refine gJ ?_;intro j x hj hx) | refine gP ?_ | refine gV ?_ | intro _)) <;> try (conv=>whnf)
   ·refine nw ⟨j+1,o++[⟨4,k,x⟩]⟩ ?_ ?_
    ·(repeat' ((conv=>whnf) <;> (first | exact trivial | exact rfl | with_reducible refine And.intro ?_ ?_))) <;> ((conv=>whnf) <;> (simp [Lit.av]))
    exact⟨by omega,noLits_step ho hx⟩
   ·refine nw (k+1) ?_ ?_
    ·(repeat' ((conv=>whnf) <;> (first | exact trivial | exact rfl | with_reducible refine And.intro ?_ ?_))) <;> ((conv=>whnf) <;> ((rw [← hnx];simp [noLits_end ho (by omega)])))
    exact (by omega:k+1≤p.acts.length)
  ·have hu:loLit k lo= []:=if_neg (by omega)
   have hv:hiLit p.dead k up= []:=if_neg (by omega)
   have hd:=setDiff_len a.modes.length m
   have hq:=domLitsN_len p b k
   have hnx:=domLits_next g hu hv
   refine loopF [2,3,6,16,17,18,65,66] [2,3] [14] ?_
   (conv=>whnf)
   refine LoopC.mk ((Nat)×(List Lit)) (fun⟨j,o⟩=>(j≤(setDiff (intRange a.modes.length) m).length)∧(o=domLitsN p b k++noLits k ((setDiff (intRange a.modes.length) m).take j))) (fun⟨j,o⟩=>[(67,.data (i64 j)),(5,.own 14 0)]) (fun _=>[]) (fun⟨j,o⟩=>[(14,69,o.map Lit.av,0)]) (fun⟨j,o⟩=>(setDiff (intRange a.modes.length) m).length - j) ⟨0,domLitsN p b k⟩ ?_ ?_ ?_
   rotate_left
   ·(repeat' ((conv=>whnf) <;> (first | exact trivial | exact rfl | with_reducible refine And.intro ?_ ?_))) <;> ((conv=>whnf) <;> (simp [Lit.av]))
   rotate_left
   ·exact⟨Nat.zero_le _,by simp [noLits]⟩
   rintro⟨j,o⟩ ⟨hj,ho⟩
   have hol:=noLits_len ho
   (try simp only [List.length_append,List.length_cons,List.length_nil] at hol)
   (repeat' ((conv=>whnf);first | refine gA ?_ | (refine gB ?_ ?_ <;> intro h) | (refine gI ?_;intro x hx) | (refine gJ ?_;intro j x hj hx) | refine gP ?_ | refine gV ?_ | intro _)) <;> try (conv=>whnf)
   ·refine nw ⟨j+1,o++[⟨4,k,x⟩]⟩ ?_ ?_
    ·(repeat' ((conv=>whnf) <;> (first | exact trivial | exact rfl | with_reducible refine And.intro ?_ ?_))) <;> ((conv=>whnf) <;> (simp [Lit.av]))
    exact⟨by omega,noLits_step ho hx⟩
   ·refine nw (k+1) ?_ ?_
    ·(repeat' ((conv=>whnf) <;> (first | exact trivial | exact rfl | with_reducible refine And.intro ?_ ?_))) <;> ((conv=>whnf) <;> ((rw [← hnx];simp [noLits_end ho (by omega)])))
    exact (by omega:k+1≤p.acts.length)
  ·exact trivial
theorem spec_DomainLiterals (p:Proj) (b:Dom) (hp:p.fine):Con 328 [.d p.av,.d b.av] (.d (lits (domLits p b))):=by
 refine con Tryz.func328 rfl rfl Tryz.call328 rfl fun hwf=>?_
 simp only [ARs.wf,AR.wf,AV.wf,AV.wfs,List.length_map,lim] at hwf
 cases hf:domForm p b with
 | false=>
  (repeat' ((conv=>whnf);first | with_reducible refine Br.no hf ?_ | with_reducible refine Br.yes hf ?_ | refine gA ?_ | (refine gB ?_ ?_ <;> intro h) | (refine gI ?_;intro x hx) | (refine gJ ?_;intro j x hj hx) | refine gP ?_ | refine gV ?_ | refine gC (spec_DomainForm p b hp) ?_ | intro _)) <;> try (conv=>whnf)
  refine⟨?_,rfl,trivial⟩
  rw [domLits,if_neg (by rw [hf];exact Bool.false_ne_true)];rfl
 | true=>
  rw [domLits,if_pos hf]
  obtain⟨hpo,l1,l2,l3,_⟩:=domForm_parts hf
  have hna:=(projForm hpo).nact
  have hde:=(projForm hpo).dead
  (repeat' ((conv=>whnf);first | with_reducible refine Br.no hf ?_ | with_reducible refine Br.yes hf ?_ | refine gA ?_ | (refine gB ?_ ?_ <;> intro h) | (refine gI ?_;intro x hx) | (refine gJ ?_;intro j x hj hx) | refine gP ?_ | refine gV ?_ | refine gC (spec_DomainForm p b hp) ?_ | intro _)) <;> try (conv=>whnf)
  refine loopF [2,3,16,17] [2,3] [10] ?_
  (conv=>whnf)
  refine LoopC.go ((Nat)) (fun k=>(k≤p.acts.length)) (fun k=>[(18,.data (i64 k)),(5,.own 10 0)]) (fun _=>[]) (fun k=>[(10,69,(domLitsN p b k).map Lit.av,0)]) (fun k=>p.acts.length - k) (0) ?_ ?_
  ·exact Nat.zero_le _
  rintro k hk
  by_cases hlt:k < p.acts.length
  rotate_left
  ·(repeat' ((conv=>whnf);first | (exfalso;omega) | refine gA ?_ | (refine gB ?_ ?_ <;> intro h) | (refine gI ?_;intro x hx) | (refine gJ ?_;intro j x hj hx) | refine gP ?_ | refine gV ?_ | intro _)) <;> try (conv=>whnf)
   refine⟨?_,rfl,trivial⟩
   rw [show p.acts.length=k by omega]
  obtain⟨a,lo,up,m,g⟩:=dom_get hf hlt
  have hxb:=g.lob
  have hyb:=g.hib
  have hq0:=domLitsN_len p b k
  (repeat' ((conv=>whnf);first | with_reducible refine Idx.got g.act rfl ?_ | with_reducible refine Idx.got g.lo rfl ?_ | with_reducible refine Idx.got g.hi rfl ?_ | with_reducible refine Idx.got g.modes rfl ?_ | refine gA ?_ | (refine gB ?_ ?_ <;> intro h) | (refine gI ?_;intro x hx) | (refine gJ ?_;intro j x hj hx) | refine gP ?_ | refine gV ?_ | refine gC (spec_ModeIndexes a) ?_ | refine gC (spec_SetDifference (intRange a.modes.length) m) ?_ | intro _)) <;> try (conv=>whnf)
  ·have hu:loLit k lo= [⟨1,k,lo⟩]:=if_pos (by omega)
   have hv:hiLit p.dead k up= [⟨2,k,up⟩]:=if_pos (by omega)
   have hd:=setDiff_len a.modes.length m
   have hq:=domLitsN_len p b k
   have hnx:=domLits_next g hu hv
   refine loopF [2,3,6,16,17,18,65,66] [2,3] [10] ?_
   (conv=>whnf)
   refine LoopC.mk ((Nat)×(List Lit)) (fun⟨j,o⟩=>(j≤(setDiff (intRange a.modes.length) m).length)∧(o=domLitsN p b k++[⟨1,k,lo⟩]++[⟨2,k,up⟩]++noLits k ((setDiff (intRange a.modes.length) m).take j))) (fun⟨j,o⟩=>[(67,.data (i64 j)),(5,.own 10 0)]) (fun _=>[]) (fun⟨j,o⟩=>[(10,69,o.map Lit.av,0)]) (fun⟨j,o⟩=>(setDiff (intRange a.modes.length) m).length - j) ⟨0,domLitsN p b k++[⟨1,k,lo⟩]++[⟨2,k,up⟩]⟩ ?_ ?_ ?_
   rotate_left
   ·(repeat' ((conv=>whnf) <;> (first | exact trivial | exact rfl | with_reducible refine And.intro ?_ ?_))) <;> ((conv=>whnf) <;> (simp [Lit.av]))
   rotate_left
   ·exact⟨Nat.zero_le _,by simp [noLits]⟩
   rintro⟨j,o⟩ ⟨hj,ho⟩
   have hol:=noLits_len ho
   (try simp only [List.length_append,List.length_cons,List.length_nil] at hol)
   (repeat' ((conv=>whnf);first | refine gA ?_ | (refine gB ?_ ?_ <;> intro h) | (refine gI ?_;intro x hx) | (refine gJ ?_;intro j x hj hx) | refine gP ?_ | refine gV ?_ | intro _)) <;> try (conv=>whnf)
   ·refine nw ⟨j+1,o++[⟨4,k,x⟩]⟩ ?_ ?_
    ·(repeat' ((conv=>whnf) <;> (first | exact trivial | exact rfl | with_reducible refine And.intro ?_ ?_))) <;> ((conv=>whnf) <;> (simp [Lit.av]))
    exact⟨by omega,noLits_step ho hx⟩
   ·refine nw (k+1) ?_ ?_
    ·(repeat' ((conv=>whnf) <;> (first | exact trivial | exact rfl | with_reducible refine And.intro ?_ ?_))) <;> ((conv=>whnf) <;> ((rw [← hnx];simp [noLits_end ho (by omega)])))
    exact (by omega:k+1≤p.acts.length)
  ·have hu:loLit k lo= [⟨1,k,lo⟩]:=if_pos (by omega)
   have hv:hiLit p.dead k up= []:=if_neg (by omega)
   have hd:=setDiff_len a.modes.length m
   have hq:=domLitsN_len p b k
   have hnx:=domLits_next g hu hv
   refine loopF [2,3,6,16,17,18,65,66] [2,3] [10] ?_
   (conv=>whnf)
   refine LoopC.mk ((Nat)×(List Lit)) (fun⟨j,o⟩=>(j≤(setDiff (intRange a.modes.length) m).length)∧(o=domLitsN p b k++[⟨1,k,lo⟩]++noLits k ((setDiff (intRange a.modes.length) m).take j))) (fun⟨j,o⟩=>[(67,.data (i64 j)),(5,.own 10 0)]) (fun _=>[]) (fun⟨j,o⟩=>[(10,69,o.map Lit.av,0)]) (fun⟨j,o⟩=>(setDiff (intRange a.modes.length) m).length - j) ⟨0,domLitsN p b k++[⟨1,k,lo⟩]⟩ ?_ ?_ ?_
   rotate_left
   ·(repeat' ((conv=>whnf) <;> (first | exact trivial | exact rfl | with_reducible refine And.intro ?_ ?_))) <;> ((conv=>whnf) <;> (simp [Lit.av]))
   rotate_left
   ·exact⟨Nat.zero_le _,by simp [noLits]⟩
   rintro⟨j,o⟩ ⟨hj,ho⟩
   have hol:=noLits_len ho
   (try simp only [List.length_append,List.length_cons,List.length_nil] at hol)
   (repeat' ((conv=>whnf);first | refine gA ?_ | (refine gB ?_ ?_ <;> intro h) | (refine gI ?_;intro x hx) | (refine gJ ?_;intro j x hj hx) | refine gP ?_ | refine gV ?_ | intro _)) <;> try (conv=>whnf)
   ·refine nw ⟨j+1,o++[⟨4,k,x⟩]⟩ ?_ ?_
    ·(repeat' ((conv=>whnf) <;> (first | exact trivial | exact rfl | with_reducible refine And.intro ?_ ?_))) <;> ((conv=>whnf) <;> (simp [Lit.av]))
    exact⟨by omega,noLits_step ho hx⟩
   ·refine nw (k+1) ?_ ?_
    ·(repeat' ((conv=>whnf) <;> (first | exact trivial | exact rfl | with_reducible refine And.intro ?_ ?_))) <;> ((conv=>whnf) <;> ((rw [← hnx];simp [noLits_end ho (by omega)])))
    exact (by omega:k+1≤p.acts.length)
  ·have hu:loLit k lo= []:=if_neg (by omega)
   have hv:hiLit p.dead k up= [⟨2,k,up⟩]:=if_pos (by omega)
   have hd:=setDiff_len a.modes.length m
   have hq:=domLitsN_len p b k
   have hnx:=domLits_next g hu hv
   refine loopF [2,3,6,16,17,18,65,66] [2,3] [10] ?_
   (conv=>whnf)
   refine LoopC.mk ((Nat)×(List Lit)) (fun⟨j,o⟩=>(j≤(setDiff (intRange a.modes.length) m).length)∧(o=domLitsN p b k++[⟨2,k,up⟩]++noLits k ((setDiff (intRange a.modes.length) m).take j))) (fun⟨j,o⟩=>[(67,.data (i64 j)),(5,.own 10 0)]) (fun _=>[]) (fun⟨j,o⟩=>[(10,69,o.map Lit.av,0)]) (fun⟨j,o⟩=>(setDiff (intRange a.modes.length) m).length - j) ⟨0,domLitsN p b k++[⟨2,k,up⟩]⟩ ?_ ?_ ?_
   rotate_left
   ·(repeat' ((conv=>whnf) <;> (first | exact trivial | exact rfl | with_reducible refine And.intro ?_ ?_))) <;> ((conv=>whnf) <;> (simp [Lit.av]))
   rotate_left
   ·exact⟨Nat.zero_le _,by simp [noLits]⟩
   rintro⟨j,o⟩ ⟨hj,ho⟩
   have hol:=noLits_len ho
   (try simp only [List.length_append,List.length_cons,List.length_nil] at hol)
   (repeat' ((conv=>whnf);first | refine gA ?_ | (refine gB ?_ ?_ <;> intro h) | (refine gI ?_;intro x hx) | (refine gJ ?_;intro j x hj hx) | refine gP ?_ | refine gV ?_ | intro _)) <;> try (conv=>whnf)
   ·refine nw ⟨j+1,o++[⟨4,k,x⟩]⟩ ?_ ?_
    ·(repeat' ((conv=>whnf) <;> (first | exact trivial | exact rfl | with_reducible refine And.intro ?_ ?_))) <;> ((conv=>whnf) <;> (simp [Lit.av]))
    exact⟨by omega,noLits_step ho hx⟩
   ·refine nw (k+1) ?_ ?_
    ·(repeat' ((conv=>whnf) <;> (first | exact trivial | exact rfl | with_reducible refine And.intro ?_ ?_))) <;> ((conv=>whnf) <;> ((rw [← hnx];simp [noLits_end ho (by omega)])))
    exact (by omega:k+1≤p.acts.length)
  ·have hu:loLit k lo= []:=if_neg (by omega)
   have hv:hiLit p.dead k up= []:=if_neg (by omega)
   have hd:=setDiff_len a.modes.length m
   have hq:=domLitsN_len p b k
   have hnx:=domLits_next g hu hv
   refine loopF [2,3,6,16,17,18,65,66] [2,3] [10] ?_
   (conv=>whnf)
   refine LoopC.mk ((Nat)×(List Lit)) (fun⟨j,o⟩=>(j≤(setDiff (intRange a.modes.length) m).length)∧(o=domLitsN p b k++noLits k ((setDiff (intRange a.modes.length) m).take j))) (fun⟨j,o⟩=>[(67,.data (i64 j)),(5,.own 10 0)]) (fun _=>[]) (fun⟨j,o⟩=>[(10,69,o.map Lit.av,0)]) (fun⟨j,o⟩=>(setDiff (intRange a.modes.length) m).length - j) ⟨0,domLitsN p b k⟩ ?_ ?_ ?_
   rotate_left
   ·(repeat' ((conv=>whnf) <;> (first | exact trivial | exact rfl | with_reducible refine And.intro ?_ ?_))) <;> ((conv=>whnf) <;> (simp [Lit.av]))
   rotate_left
   ·exact⟨Nat.zero_le _,by simp [noLits]⟩
   rintro⟨j,o⟩ ⟨hj,ho⟩
   have hol:=noLits_len ho
   (try simp only [List.length_append,List.length_cons,List.length_nil] at hol)
   (repeat' ((conv=>whnf);first | refine gA ?_ | (refine gB ?_ ?_ <;> intro h) | (refine gI ?_;intro x hx) | (refine gJ ?_;intro j x hj hx) | refine gP ?_ | refine gV ?_ | intro _)) <;> try (conv=>whnf)
   ·refine nw ⟨j+1,o++[⟨4,k,x⟩]⟩ ?_ ?_
    ·(repeat' ((conv=>whnf) <;> (first | exact trivial | exact rfl | with_reducible refine And.intro ?_ ?_))) <;> ((conv=>whnf) <;> (simp [Lit.av]))
    exact⟨by omega,noLits_step ho hx⟩
   ·refine nw (k+1) ?_ ?_
    ·(repeat' ((conv=>whnf) <;> (first | exact trivial | exact rfl | with_reducible refine And.intro ?_ ?_))) <;> ((conv=>whnf) <;> ((rw [← hnx];simp [noLits_end ho (by omega)])))
    exact (by omega:k+1≤p.acts.length)
  ·exact trivial
def negs (p:Proj) (b:Dom):List Lit:=(domLits p b).map negate
theorem negs_av (p:Proj) (b:Dom):(domLits p b).map (fun x=>(negate x).av)=(negs p b).map Lit.av:=by rw [negs,List.map_map];rfl
theorem impl_negations (p:Proj) (b:Dom) (hp:p.fine):Con 259 [.d p.av,.d b.av] (.own 69 ((negs p b).map Lit.av)):=by
 refine con Tryz.func259 rfl rfl Tryz.call259 rfl fun hwf=>?_
 have hd:=domLits_len p b
 (repeat' ((conv=>whnf);first | refine gA ?_ | (refine gB ?_ ?_ <;> intro h) | (refine gI ?_;intro x hx) | (refine gJ ?_;intro j x hj hx) | refine gP ?_ | refine gV ?_ | refine gC (impl_DomainLiterals p b hp) ?_ | intro _)) <;> try (conv=>whnf)
 refine loopF [11,12] [] [8] ?_
 (conv=>whnf)
 refine LoopC.go ((Nat)) (fun k=>(k≤(domLits p b).length)) (fun k=>[(13,.data (i64 k)),(5,.own 8 0)]) (fun _=>[]) (fun k=>[(8,69,((domLits p b).take k).map (fun x=>(negate x).av),0)]) (fun k=>(domLits p b).length - k) (0) ?_ ?_
 ·exact Nat.zero_le _
 rintro k hk
 (repeat' ((conv=>whnf);first | refine gA ?_ | (refine gB ?_ ?_ <;> intro h) | (refine gI ?_;intro x hx) | (refine gJ ?_;intro j x hj hx) | refine gP ?_ | refine gV ?_ | refine gC (impl_Negate x) ?_ | intro _)) <;> try (conv=>whnf)
 ·refine nw (k+1) ?_ ?_
  ·(repeat' ((conv=>whnf) <;> (first | exact trivial | exact rfl | with_reducible refine And.intro ?_ ?_))) <;> ((conv=>whnf) <;> (exact map_take_succ _ hx))
  exact (by omega:k+1≤(domLits p b).length)
 ·(repeat' ((conv=>whnf) <;> (first | exact trivial | exact VC.nod (by kernel_rfl) | refine VC.mk rfl ?_ | refine VC.mk (by dsimp only;rw [List.take_of_length_le (by omega),negs_av]) ?_)))
theorem spec_l18Turned (p:Proj) (b:Dom) (hp:p.fine):Con 254 [.d p.av,.d b.av] (.own 69 ((negs p b).map Lit.av)):=by
 refine con Tryz.func254 rfl rfl Tryz.call254 rfl fun hwf=>?_
 have hd:=domLits_len p b
 (repeat' ((conv=>whnf);first | refine gA ?_ | (refine gB ?_ ?_ <;> intro h) | (refine gI ?_;intro x hx) | (refine gJ ?_;intro j x hj hx) | refine gP ?_ | refine gV ?_ | refine gC (spec_DomainLiterals p b hp) ?_ | intro _)) <;> try (conv=>whnf)
 refine loopF [11,12] [] [8] ?_
 (conv=>whnf)
 refine LoopC.go ((Nat)) (fun k=>(k≤(domLits p b).length)) (fun k=>[(13,.data (i64 k)),(5,.own 8 0)]) (fun _=>[]) (fun k=>[(8,69,((domLits p b).take k).map (fun x=>(negate x).av),0)]) (fun k=>(domLits p b).length - k) (0) ?_ ?_
 ·exact Nat.zero_le _
 rintro k hk
 (repeat' ((conv=>whnf);first | refine gA ?_ | (refine gB ?_ ?_ <;> intro h) | (refine gI ?_;intro x hx) | (refine gJ ?_;intro j x hj hx) | refine gP ?_ | refine gV ?_ | refine gC (spec_Negate x) ?_ | intro _)) <;> try (conv=>whnf)
 ·refine nw (k+1) ?_ ?_
  ·(repeat' ((conv=>whnf) <;> (first | exact trivial | exact rfl | with_reducible refine And.intro ?_ ?_))) <;> ((conv=>whnf) <;> (exact map_take_succ _ hx))
  exact (by omega:k+1≤(domLits p b).length)
 ·(repeat' ((conv=>whnf) <;> (first | exact trivial | exact VC.nod (by kernel_rfl) | refine VC.mk rfl ?_ | refine VC.mk (by dsimp only;rw [List.take_of_length_le (by omega),negs_av]) ?_)))
def explain (p:Proj) (b:Dom) (r:Rul):List Lit:=if refutes p b r=true then shortened p r (fun _=>false) (newClause (negs p b)) else []
theorem impl_ExplainRefutation1 (x:Lit):Con 260 [.d x.av] (.d (.bool false)):=by
 refine con Tryz.func260 rfl rfl Tryz.call260 rfl fun hwf=>?_
 (repeat' ((conv=>whnf);first | refine gA ?_ | (refine gB ?_ ?_ <;> intro h) | intro _)) <;> try (conv=>whnf)
 all_goals exact⟨rfl,rfl,trivial⟩
theorem refutes_form {p:Proj} {b:Dom} {r:Rul} (h:refutes p b r=true):domForm p b=true:=by
 simp only [refutes,Bool.and_eq_true] at h
 exact h.1
theorem putSet_mem {l:List Int} {n x:Int} (h:x∈setOf l):x∈l:=by
 obtain⟨_,h4⟩:=setOf_sorted (l:=l) (o:=[]) List.Pairwise.nil
 simpa using (h4 x).1 h
theorem domLitsN_mem {p:Proj} {b:Dom} (hf:domForm p b=true):∀{k:Nat},k≤p.acts.length→∀x∈domLitsN p b k,(x.kind=1∨x.kind=2∨x.kind=4)∧ -2≤x.val∧x.val≤200
 | 0,_,x,h=>by simp [domLitsN] at h
 | k+1,hk,x,h=>by
  rw [domLitsN,List.mem_append] at h
  rcases h with h | h
  ·exact domLitsN_mem hf (by omega) x h
  ·obtain⟨a,lo,hi,m,g⟩:=dom_get hf (show k < p.acts.length by omega)
   rw [domLitsAt_eq g,List.mem_append,List.mem_append] at h
   have h1:=g.lob
   have h2:=g.hib
   rcases h with (h | h) | h
   ·unfold loLit at h
    split at h
    ·obtain rfl:=List.mem_singleton.1 h
     exact⟨.inl rfl,h1.1,by show lo≤200;omega⟩
    ·simp at h
   ·unfold hiLit at h
    split at h
    ·obtain rfl:=List.mem_singleton.1 h
     exact⟨.inr (.inl rfl),h2.1,by show hi≤200;omega⟩
    ·simp at h
   ·simp only [noLits,List.mem_map] at h
    obtain⟨n,hn,rfl⟩:=h
    have hn:=putSet_mem (n:=0) hn
    obtain⟨j,rfl,hj⟩:=intRange_mem (List.mem_filter.1 hn).1
    have hl:=(List.mem_filter.1 hn).1
    unfold intRange at hl
    split at hl
    ·rename_i hw
     have:=within_iff.1 hw
     exact⟨.inr (.inr rfl),by show (-2:Int)≤(j:Int);omega,by show (j:Int)≤200;omega⟩
    ·simp at hl
theorem negs_kind {p:Proj} {b:Dom} (hf:domForm p b=true) {x:Lit} (hx:x∈newClause (negs p b)):sameLit x zeroLit=false:=by
 rw [(newClause_sorted _).2,negs,List.mem_map] at hx
 obtain⟨y,hy,rfl⟩:=hx
 rw [domLits,if_pos hf] at hy
 obtain⟨h1,h2,h3⟩:=domLitsN_mem hf (Nat.le_refl _) y hy
 have hw:within y.val (-100000) 100000=true:=within_iff.2 ⟨by omega,by omega⟩
 cases hs:sameLit (negate y) zeroLit with
 | false=>rfl
 | true=>
  have e:=congrArg Lit.kind (sameLit_iff.1 hs)
  simp only [negate,hw,if_true,zeroLit] at e
  rcases h1 with h1 | h1 | h1 <;> simp [h1] at e
theorem explain_eq {p:Proj} {b:Dom} {r:Rul} (h:refutes p b r=true):explain p b r=shortened p r (fun x=>sameLit x (keptOf (newClause (negs p b)) (-1))) (newClause (negs p b)):=by
 rw [explain,if_pos h,keptOf_out (by cases hw:within (-1) 0 (((newClause (negs p b)).length:Int) - 1) with | false=>rfl | true=>have:=within_iff.1 hw;omega)]
 exact foldl_same fun o x hx=>by simp only [shortStep,negs_kind (refutes_form h) hx]
theorem spec_ExplainRefutation (p:Proj) (b:Dom) (r:Rul) (hp:p.fine):Con 170 [.d p.av,.d b.av,.d r.av] (.d (lits (explain p b r))):=by
 refine con Tryz.func170 rfl rfl Tryz.call170 rfl fun hwf=>?_
 cases hf:refutes p b r with
 | false=>
  have e:explain p b r= []:=by rw [explain,if_neg (by rw [hf];exact Bool.false_ne_true)]
  rw [e]
  (repeat' ((conv=>whnf);first | with_reducible refine Br.no hf ?_ | with_reducible refine Br.yes hf ?_ | refine gA ?_ | (refine gB ?_ ?_ <;> intro h) | refine gC (spec_Refutes p b r hp) ?_ | intro _)) <;> try (conv=>whnf)
  exact⟨rfl,rfl,trivial⟩
 | true=>
  rw [explain_eq hf]
  (repeat' ((conv=>whnf);first | with_reducible refine Br.no hf ?_ | with_reducible refine Br.yes hf ?_ | refine gA ?_ | (refine gB ?_ ?_ <;> intro h) | refine gC (spec_Refutes p b r hp) ?_ | refine gC (spec_l18Turned p b hp) ?_ | refine gC (spec_NewClause (negs p b)) ?_ | refine gC (spec_l18Short p r (newClause (negs p b)) (-1) hp (domForm_parts (refutes_form hf)).1) ?_ | intro _)) <;> try (conv=>whnf)
  exact⟨rfl,rfl,trivial⟩
end Go.Proofs.YtfhojdalheinaaaGreat.Abs
