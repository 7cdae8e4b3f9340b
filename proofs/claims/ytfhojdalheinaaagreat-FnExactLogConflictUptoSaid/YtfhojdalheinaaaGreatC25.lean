/- Contracts: a clause is shortened. No statement of a claim. -/
import Derived.Test.YtfhojdalheinaaaGreatC11
import Derived.Test.YtfhojdalheinaaaGreatWo
set_option linter.all false
set_option linter.unusedVariables false
set_option linter.unusedSimpArgs false
set_option maxRecDepth 20000
set_option maxHeartbeats 4000000
namespace Go.Proofs.YtfhojdalheinaaaGreat.Abs
open Go.Proofs
def shortStep (p:Proj) (r:Rul) (keeps:Lit→Bool) (out:List Lit) (x:Lit):List Lit:=
 if keeps x=true then out else if refutes p (negDom p (noLit out x)) r=true then noLit out x else out
def shortened (p:Proj) (r:Rul) (keeps:Lit→Bool) (l:List Lit):List Lit:=l.foldl (shortStep p r keeps) l
theorem fold_step {α β:Type} {f:β→α→β} {l:List α} {k:Nat} {x:α} {o:β} (h:l[k]? =some x):(l.drop k).foldl f o=(l.drop (k+1)).foldl f (f o x):=by
 obtain⟨hk,rfl⟩:=List.getElem?_eq_some_iff.1 h
 rw [List.drop_eq_getElem_cons hk,List.foldl_cons]
def indexL (x:Lit) (l:List Lit):Int:=findI (fun y=>sameLit x y) l 0
theorem impl_shortened_lin (p:Proj) (r:Rul) (l:List Lit) (fc:Nat) (caps:List AV) (keeps:Lit→Bool) (hp:p.fine) (hc:∀x:Lit,Con fc ([.d x.av]++caps.map .ref) (.d (.bool (keeps x)))):
  Con 258 [.d p.av,.d r.av,.d (lits l),.fn fc caps] (.lin 69 ((shortened p r keeps l).map Lit.av)):=by
 refine con Tryz.func258 rfl rfl Tryz.call258 rfl fun hwf=>?_
 simp only [ARs.wf,AR.wf,AV.wf,AV.wfs,List.length_map,lim] at hwf
 (repeat' ((conv=>whnf);first | refine gA ?_ | (refine gB ?_ ?_ <;> intro h) | (refine gI ?_;intro x hx) | (refine gJ ?_;intro j x hj hx) | refine gV ?_ | refine gC (clone_lit_lin l) ?_ | intro _)) <;> try (conv=>whnf)
 refine loopF [3,4,5,15,16] [4,5] [15000] ?_
 (conv=>whnf)
 refine LoopC.go ((Nat)×(List Lit)) (fun⟨k,o⟩=>(k≤l.length)∧(o.length≤l.length)∧((l.drop k).foldl (shortStep p r keeps) o=shortened p r keeps l)) (fun⟨k,o⟩=>[(17,.data (i64 k)),(9,.own 15000 0)]) (fun _=>[]) (fun⟨k,o⟩=>[(15000,69,o.map Lit.av,2)]) (fun⟨k,o⟩=>l.length - k) ⟨0,l⟩ ?_ ?_
 ·exact⟨Nat.zero_le _,Nat.le_refl _,rfl⟩
 rintro⟨k,o⟩ ⟨hk,ho,he⟩
 (repeat' ((conv=>whnf);first | refine gA ?_ | (refine gB ?_ ?_ <;> intro h) | (refine gI ?_;intro x hx) | (refine gJ ?_;intro j x hj hx) | refine gV ?_ | refine gC (hc x) ?_ | refine gC (impl_withoutOf_lin o x) ?_ | refine gC (impl_NegatedDomain p (noLit o x) hp) ?_ | refine gC (impl_Refutes p (negDom p (noLit o x)) r hp) ?_ | intro _)) <;> try (conv=>whnf)
 ·refine nx ⟨k+1,o⟩ ?_
  rw [fold_step hx,shortStep,if_pos h] at he
  exact⟨by omega,ho,he⟩
 ·refine nx ⟨k+1,noLit o x⟩ ?_
  rw [fold_step hx,shortStep,if_neg (by simp [*]),if_pos h] at he
  exact⟨by omega,Nat.le_trans (List.length_filter_le _ _) ho,he⟩
 ·refine nx ⟨k+1,o⟩ ?_
  rw [fold_step hx,shortStep,if_neg (by simp [*]),if_neg (by simp [*])] at he
  exact⟨by omega,ho,he⟩
 ·refine⟨?_,rfl,trivial⟩
  rw [drop_end' (by assumption)] at he
  rw [← he];rfl
def shorten (p:Proj) (r:Rul) (l:List Lit) (keep:Int):List Lit:=if follows p r l=true then shortened p r (fun x=>decide (indexL x l=keep)) l else l
def keptOf (l:List Lit) (keep:Int):Lit:=if within keep 0 ((l.length:Int) - 1)=true then l.getD keep.toNat zeroLit else zeroLit
theorem noLit_step {o:List Lit} {x y:Lit} {k:Nat} {d:List Lit} (hd:d++noLit (o.drop k) x=noLit o x) (hy:o[k]? =some y):(sameLit y x=false→(d++[y])++noLit (o.drop (k+1)) x=noLit o x)∧(sameLit y x=true→d++noLit (o.drop (k+1)) x=noLit o x):=by
 obtain⟨hk,rfl⟩:=List.getElem?_eq_some_iff.1 hy
 rw [List.drop_eq_getElem_cons hk] at hd
 constructor
 ·intro h
  rw [← hd]
  simp only [noLit,List.filter_cons,h,Bool.not_false,if_true,List.append_assoc,List.singleton_append]
 ·intro h
  rw [← hd]
  simp only [noLit,List.filter_cons,h,Bool.not_true,Bool.false_eq_true,if_false]
theorem keptOf_in {l:List Lit} {keep:Int} {x:Lit} (hw:within keep 0 ((l.length:Int) - 1)=true) (hx:l[keep.toNat]? =some x):keptOf l keep=x:=by
 rw [keptOf,if_pos hw,List.getD_eq_getElem?_getD,hx];rfl
theorem keptOf_out {l:List Lit} {keep:Int} (hw:within keep 0 ((l.length:Int) - 1)=false):keptOf l keep=zeroLit:=by
 rw [keptOf,if_neg (by rw [hw];exact Bool.false_ne_true)]
theorem sameLit_of {a b:Lit} {c:Bool} (h:(decide (a.kind=b.kind)&&(decide (a.act=b.act)&&(decide (a.val=b.val)&&true)))=c):sameLit a b=c:=by
 rw [← h,Bool.and_true];rfl
theorem len_le_of {d:List Lit} {o:List Lit} {z:Lit} (h:d=noLit o z):d.length≤o.length:=by rw [h];exact List.length_filter_le _ _
theorem spec_l18Short1 (p:Proj) (r:Rul) (l:List Lit) (keep:Int) (hp:p.fine) (ho:projOk p=true) (x0:Lit) (hw:within keep 0 ((l.length:Int) - 1)=true) (hx0:l[keep.toNat]? =some x0):Con 252 [.d p.av,.d r.av,.d (lits l),.d (i64 keep)] (.d (lits (shortened p r (fun x=>sameLit x x0) l))):=by
 refine con Tryz.func252 rfl rfl Tryz.call252 rfl fun hwf=>?_
 simp only [ARs.wf,AR.wf,AV.wf,AV.wfs,List.length_map,lim] at hwf
 have hw':within keep 0 (((l.map Lit.av).length:Int) - 1)=true:=by rw [List.length_map];exact hw
 have hb:=within_iff.1 hw
 (repeat' ((conv=>whnf);first | with_reducible refine Br.yes hw' ?_ | with_reducible refine Idx.got hx0 (by omega) ?_ | refine gA ?_ | (refine gN ?_ ?_ <;> intro h hw) | (refine gB ?_ ?_ <;> intro h) | (refine gI ?_;intro x hx) | (refine gJ ?_;intro j x hj hx) | refine gP ?_ | refine gV ?_ | refine gC (spec_in keep 0 (((l.map Lit.av).length:Int) - 1)) ?_ | intro _)) <;> try (conv=>whnf)
 refine loopF [4,5,9,29,30] [4,5,9] [] ?_
 (conv=>whnf)
 refine LoopC.go ((Nat)×(List Lit)) (fun⟨k,o⟩=>(k≤l.length)∧(o.length≤l.length)∧((l.drop k).foldl (shortStep p r fun x=>sameLit x x0) o=shortened p r (fun x=>sameLit x x0) l)) (fun⟨k,o⟩=>[(31,.data (i64 k)),(10,.data (lits o))]) (fun _=>[]) (fun _=>[]) (fun⟨k,o⟩=>l.length - k) ⟨0,l⟩ ?_ ?_
 ·exact⟨Nat.zero_le _,Nat.le_refl _,rfl⟩
 rintro⟨k,o⟩ ⟨hk,hol,he⟩
 (repeat' ((conv=>whnf);first | refine gA ?_ | (refine gN ?_ ?_ <;> intro h hw) | (refine gB ?_ ?_ <;> intro h) | (refine gI ?_;intro x hx) | (refine gJ ?_;intro j x hj hx) | refine gP ?_ | refine gV ?_ | intro _)) <;> try (conv=>whnf)
 ·refine nx ⟨k+1,o⟩ ?_
  rw [fold_step hx,shortStep,if_pos (sameLit_of h)] at he
  exact⟨by omega,hol,he⟩
 ·obtain⟨z,rfl⟩:∃z,z=x:=⟨x,rfl⟩
  have hz:=hx
  rw [fold_step hz,shortStep,if_neg (by rw [sameLit_of (b:=x0) h];exact Bool.false_ne_true),negDom,initDom,if_pos ho] at he
  clear hx
  refine loopF [4,5,9,10,12,29,30,31,39,40] [4,5,9,12] [38] ?_
  (conv=>whnf)
  refine LoopC.go ((Nat)×(List Lit)) (fun⟨j,d⟩=>(j≤o.length)∧(d.length≤j)∧(d++noLit (o.drop j) z=noLit o z)) (fun⟨j,d⟩=>[(41,.data (i64 j)),(13,.own 38 0)]) (fun _=>[]) (fun⟨j,d⟩=>[(38,69,d.map Lit.av,0)]) (fun⟨j,d⟩=>o.length - j) ⟨0,[]⟩ ?_ ?_
  ·exact⟨Nat.zero_le _,Nat.le_refl _,rfl⟩
  rintro⟨j,d⟩ ⟨hj,hdl,hd⟩
  (repeat' ((conv=>whnf);first | refine gA ?_ | (refine gN ?_ ?_ <;> intro h hw) | (refine gB ?_ ?_ <;> intro h) | (refine gI ?_;intro x hx) | (refine gJ ?_;intro j x hj hx) | refine gP ?_ | refine gV ?_ | refine gC (spec_l12Of p (projOk_dead ho)) ?_ | refine gC (spec_l13Against (initDom' p) d (initDom'_ok p)) ?_ | refine gC (spec_Refutes p (against (initDom' p) d) r hp) ?_ | intro _)) <;> try (conv=>whnf)
  ·refine nx ⟨j+1,d⟩ ?_
   exact⟨by omega,by omega,(noLit_step hd hx).2 (sameLit_of h)⟩
  ·refine nw ⟨j+1,d++[x]⟩ ?_ ?_
   ·(repeat' ((conv=>whnf) <;> (first | exact trivial | exact rfl | with_reducible refine And.intro ?_ ?_))) <;> ((conv=>whnf) <;> (simp))
   exact⟨by omega,by simp;omega,(noLit_step hd hx).1 (sameLit_of h)⟩
  ·rw [drop_end' (by assumption),show noLit [] z= [] from rfl,List.append_nil] at hd
   refine nx ⟨k+1,d⟩ ?_
   rw [← hd,if_pos (by assumption)] at he
   exact⟨by omega,Nat.le_trans (len_le_of hd) hol,he⟩
  ·rw [drop_end' (by assumption),show noLit [] z= [] from rfl,List.append_nil] at hd
   refine nx ⟨k+1,o⟩ ?_
   rw [← hd,h,if_neg Bool.false_ne_true] at he
   exact⟨by omega,hol,he⟩
 ·refine⟨?_,rfl,trivial⟩
  rw [drop_end' (by assumption)] at he
  rw [← he];rfl
theorem spec_l18Short0 (p:Proj) (r:Rul) (l:List Lit) (keep:Int) (hp:p.fine) (ho:projOk p=true) (hw:within keep 0 ((l.length:Int) - 1)=false):Con 252 [.d p.av,.d r.av,.d (lits l),.d (i64 keep)] (.d (lits (shortened p r (fun x=>sameLit x zeroLit) l))):=by
 refine con Tryz.func252 rfl rfl Tryz.call252 rfl fun hwf=>?_
 simp only [ARs.wf,AR.wf,AV.wf,AV.wfs,List.length_map,lim] at hwf
 have hw':within keep 0 (((l.map Lit.av).length:Int) - 1)=false:=by rw [List.length_map];exact hw
 (repeat' ((conv=>whnf);first | with_reducible refine Br.no hw' ?_ | refine gA ?_ | (refine gN ?_ ?_ <;> intro h hw) | (refine gB ?_ ?_ <;> intro h) | (refine gI ?_;intro x hx) | (refine gJ ?_;intro j x hj hx) | refine gP ?_ | refine gV ?_ | refine gC (spec_in keep 0 (((l.map Lit.av).length:Int) - 1)) ?_ | intro _)) <;> try (conv=>whnf)
 refine loopF [4,5,9,29,30] [4,5,9] [] ?_
 (conv=>whnf)
 refine LoopC.go ((Nat)×(List Lit)) (fun⟨k,o⟩=>(k≤l.length)∧(o.length≤l.length)∧((l.drop k).foldl (shortStep p r fun x=>sameLit x zeroLit) o=shortened p r (fun x=>sameLit x zeroLit) l)) (fun⟨k,o⟩=>[(31,.data (i64 k)),(10,.data (lits o))]) (fun _=>[]) (fun _=>[]) (fun⟨k,o⟩=>l.length - k) ⟨0,l⟩ ?_ ?_
 ·exact⟨Nat.zero_le _,Nat.le_refl _,rfl⟩
 rintro⟨k,o⟩ ⟨hk,hol,he⟩
 (repeat' ((conv=>whnf);first | refine gA ?_ | (refine gN ?_ ?_ <;> intro h hw) | (refine gB ?_ ?_ <;> intro h) | (refine gI ?_;intro x hx) | (refine gJ ?_;intro j x hj hx) | refine gP ?_ | refine gV ?_ | intro _)) <;> try (conv=>whnf)
 ·refine nx ⟨k+1,o⟩ ?_
  rw [fold_step hx,shortStep,if_pos (sameLit_of h)] at he
  exact⟨by omega,hol,he⟩
 ·obtain⟨z,rfl⟩:∃z,z=x:=⟨x,rfl⟩
  have hz:=hx
  rw [fold_step hz,shortStep,if_neg (by rw [sameLit_of (b:=zeroLit) h];exact Bool.false_ne_true),negDom,initDom,if_pos ho] at he
  clear hx
  refine loopF [4,5,9,10,12,29,30,31,39,40] [4,5,9,12] [38] ?_
  (conv=>whnf)
  refine LoopC.go ((Nat)×(List Lit)) (fun⟨j,d⟩=>(j≤o.length)∧(d.length≤j)∧(d++noLit (o.drop j) z=noLit o z)) (fun⟨j,d⟩=>[(41,.data (i64 j)),(13,.own 38 0)]) (fun _=>[]) (fun⟨j,d⟩=>[(38,69,d.map Lit.av,0)]) (fun⟨j,d⟩=>o.length - j) ⟨0,[]⟩ ?_ ?_
  ·exact⟨Nat.zero_le _,Nat.le_refl _,rfl⟩
  rintro⟨j,d⟩ ⟨hj,hdl,hd⟩
  (repeat' ((conv=>whnf);first | refine gA ?_ | (refine gN ?_ ?_ <;> intro h hw) | (refine gB ?_ ?_ <;> intro h) | (refine gI ?_;intro x hx) | (refine gJ ?_;intro j x hj hx) | refine gP ?_ | refine gV ?_ | refine gC (spec_l12Of p (projOk_dead ho)) ?_ | refine gC (spec_l13Against (initDom' p) d (initDom'_ok p)) ?_ | refine gC (spec_Refutes p (against (initDom' p) d) r hp) ?_ | intro _)) <;> try (conv=>whnf)
  ·refine nx ⟨j+1,d⟩ ?_
   exact⟨by omega,by omega,(noLit_step hd hx).2 (sameLit_of h)⟩
  ·refine nw ⟨j+1,d++[x]⟩ ?_ ?_
   ·(repeat' ((conv=>whnf) <;> (first | exact trivial | exact rfl | with_reducible refine And.intro ?_ ?_))) <;> ((conv=>whnf) <;> (simp))
   exact⟨by omega,by simp;omega,(noLit_step hd hx).1 (sameLit_of h)⟩
  ·rw [drop_end' (by assumption),show noLit [] z= [] from rfl,List.append_nil] at hd
   refine nx ⟨k+1,d⟩ ?_
   rw [← hd,if_pos (by assumption)] at he
   exact⟨by omega,Nat.le_trans (len_le_of hd) hol,he⟩
  ·rw [drop_end' (by assumption),show noLit [] z= [] from rfl,List.append_nil] at hd
   refine nx ⟨k+1,o⟩ ?_
   rw [← hd,h,if_neg Bool.false_ne_true] at he
   exact⟨by omega,hol,he⟩
 ·refine⟨?_,rfl,trivial⟩
  rw [drop_end' (by assumption)] at he
  rw [← he];rfl
theorem spec_l18Short (p:Proj) (r:Rul) (l:List Lit) (keep:Int) (hp:p.fine) (ho:projOk p=true):Con 252 [.d p.av,.d r.av,.d (lits l),.d (i64 keep)] (.d (lits (shortened p r (fun x=>sameLit x (keptOf l keep)) l))):=by
 cases hw:within keep 0 ((l.length:Int) - 1) with
 | false=>rw [keptOf_out hw];exact spec_l18Short0 p r l keep hp ho hw
 | true=>
  have hb:=within_iff.1 hw
  obtain⟨x0,hx0⟩:∃x0,l[keep.toNat]? =some x0:=⟨l[keep.toNat]'(by omega),by simp⟩
  rw [keptOf_in hw hx0]
  exact spec_l18Short1 p r l keep hp ho x0 hw hx0
theorem cmpLit_lt {a b:Lit}:cmpLit a b < 0↔a.act < b.act∨(a.act=b.act∧(a.kind < b.kind∨(a.kind=b.kind∧a.val < b.val))):=by
 simp only [cmpLit,orI,cmpI]
 repeat' split
 all_goals omega
theorem foldl_same {α β:Type} {f g:β→α→β}:∀{l:List α} {b:β},(∀b,∀x∈l,f b x=g b x)→l.foldl f b=l.foldl g b
 | [],_,_=>rfl
 | x::l,b,h=>by
  rw [List.foldl_cons,List.foldl_cons,h b x (List.mem_cons_self ..)]
  exact foldl_same fun b y hy=>h b y (List.mem_cons_of_mem _ hy)
end Go.Proofs.YtfhojdalheinaaaGreat.Abs
