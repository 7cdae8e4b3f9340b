/- Contracts: intervals; the rules that may refute. No statement of a claim. -/
import Derived.Test.YtfhojdalheinaaaGreatC27
import Derived.Test.YtfhojdalheinaaaGreatC20a
set_option linter.all false
set_option linter.unusedVariables false
set_option linter.unusedSimpArgs false
set_option maxRecDepth 20000
set_option maxHeartbeats 4000000
namespace Go.Proofs.YtfhojdalheinaaaGreat.Abs
open Go.Proofs
def mrun:Bool→Int→List Int→Int
 | _,n,[]=>n
 | b,n,x::r=>mrun false (if b=true∨x > n then x else n) r
def maxDur (a:Activ) (ms:List Int):Int:=mrun true 0 ((chosen a ms).map Mode.dur)
theorem mrun_bound {c:Int}:∀(l:List Int) (b:Bool) (n:Int),(0≤n∧n≤c)→(∀x∈l,0≤x∧x≤c)→0≤mrun b n l∧mrun b n l≤c
 | [],_,n,h,_=>h
 | x::r,b,n,h,h'=>by
  rw [mrun]
  refine mrun_bound r false _ ?_ fun y hy=>h' y (by simp [hy])
  split
  ·exact h' x (by simp)
  ·exact h
theorem maxDur_bound {a:Activ} {r s:Int} (h:activOk a r s=true) (ms:List Int):0≤maxDur a ms∧maxDur a ms≤12:=by
 refine mrun_bound _ _ _ (by omega) fun x hx=>?_
 obtain⟨m,hm,rfl⟩:=List.mem_map.1 hx
 have:=(activ_mode h (chosen_sub hm)).1
 omega
theorem impl_MaxDuration (a:Activ) (ms:List Int):Con 371 [.d a.av,.d (ints ms)] (.d (i64 (maxDur a ms))):=by
 refine con Tryz.func371 rfl rfl Tryz.call371 rfl fun hwf=>?_
 simp only [ARs.wf,AR.wf,AV.wf,AV.wfs,List.length_map,lim] at hwf
 have hl:=chosen_len a ms
 (repeat' ((conv=>whnf);first | refine gA ?_ | (refine gB ?_ ?_ <;> intro h) | (refine gI ?_;intro x hx) | (refine gJ ?_;intro j x hj hx) | refine gV ?_ | refine gC (impl_chosen a ms) ?_ | intro _)) <;> try (conv=>whnf)
 refine loopF [10,11] [] [] ?_
 (conv=>whnf)
 refine LoopC.go ((Nat)×(Int)) (fun⟨k,n⟩=>(k≤(chosen a ms).length)∧(mrun (decide ((k:Int)=0)) n (((chosen a ms).drop k).map Mode.dur)=maxDur a ms)) (fun⟨k,n⟩=>[(12,.data (i64 k)),(5,.data (i64 n))]) (fun _=>[]) (fun _=>[]) (fun⟨k,n⟩=>(chosen a ms).length - k) ⟨0,0⟩ ?_ ?_
 ·exact⟨by omega,rfl⟩
 rintro⟨k,n⟩ ⟨hk,hi⟩
 (repeat' ((conv=>whnf);first | refine gA ?_ | (refine gB ?_ ?_ <;> intro h) | (refine gI ?_;intro x hx) | (refine gJ ?_;intro j x hj hx) | refine gV ?_ | intro _)) <;> try (conv=>whnf)
 ·refine nx ⟨k+1,x.dur⟩ ?_
  rw [drop_get hx,List.map_cons,mrun,if_pos (.inl (by simp [h]))] at hi
  exact⟨by omega,by rw [decide_eq_false (show ¬((k+1:Nat):Int)=0 by omega)];exact hi⟩
 ·refine nx ⟨k+1,x.dur⟩ ?_
  rw [drop_get hx,List.map_cons,mrun,if_pos (.inr h)] at hi
  exact⟨by omega,by rw [decide_eq_false (show ¬((k+1:Nat):Int)=0 by omega)];exact hi⟩
 ·refine nx ⟨k+1,n⟩ ?_
  rw [drop_get hx,List.map_cons,mrun,if_neg (by rw [decide_eq_true_eq];omega)] at hi
  exact⟨by omega,by rw [decide_eq_false (show ¬((k+1:Nat):Int)=0 by omega)];exact hi⟩
 ·refine⟨?_,rfl,trivial⟩
  rw [← hi,drop_end' (by assumption)];rfl
theorem spec_MaxDuration (a:Activ) (ms:List Int):Con 363 [.d a.av,.d (ints ms)] (.d (i64 (maxDur a ms))):=by
 refine con Tryz.func363 rfl rfl Tryz.call363 rfl fun hwf=>?_
 simp only [ARs.wf,AR.wf,AV.wf,AV.wfs,List.length_map,lim] at hwf
 (repeat' ((conv=>whnf);first | refine gA ?_ | (refine gB ?_ ?_ <;> intro h) | (refine gI ?_;intro x hx) | (refine gJ ?_;intro j x hj hx) | refine gV ?_ | intro _)) <;> try (conv=>whnf)
 refine loopF [1,10,11] [] [] ?_
 (conv=>whnf)
 refine LoopC.go ((Nat)×(Int)×(Bool)) (fun⟨k,n,b⟩=>(k≤a.modes.length)∧(mrun (!b) n ((chosenFrom ms (a.modes.drop k) k).map Mode.dur)=maxDur a ms)) (fun⟨k,n,b⟩=>[(12,.data (i64 k)),(5,.data (i64 n)),(6,.data (.bool b))]) (fun _=>[]) (fun _=>[]) (fun⟨k,n,b⟩=>a.modes.length - k) ⟨0,0,false⟩ ?_ ?_
 ·exact⟨by omega,rfl⟩
 rintro⟨k,n,b⟩ ⟨hk,hi⟩
 (repeat' ((conv=>whnf);first | refine gA ?_ | (refine gB ?_ ?_ <;> intro h) | (refine gI ?_;intro x hx) | (refine gJ ?_;intro j x hj hx) | refine gV ?_ | refine gC (spec_SetHas ms _) ?_ | intro _)) <;> try (conv=>whnf)
 all_goals first
  | (refine⟨?_,rfl,trivial⟩;rw [← hi,drop_end' (by assumption)];rfl)
  | (refine nx ⟨k+1,x.dur,true⟩ ?_
     refine⟨by omega,?_⟩
     rw [drop_get hx,chosenFrom,if_pos (by assumption),List.map_cons,mrun,if_pos (by simp [*])] at hi
     exact hi)
  | (refine nx ⟨k+1,n,b⟩ ?_
     refine⟨by omega,?_⟩
     rw [drop_get hx,chosenFrom,if_neg (Bool.eq_false_iff.1 (by assumption))] at hi
     exact hi)
  | (refine nx ⟨k+1,n,b⟩ ?_
     refine⟨by omega,?_⟩
     rw [drop_get hx,chosenFrom,if_pos (by assumption),List.map_cons,mrun,if_neg (by simp [*])] at hi
     rw [← hi];simp [*])
def endOfA (p:Proj) (b:Dom) (i:Nat):Int:=b.hi.getD i 0+maxDur (actOf p i) (b.modes.getD i [])
def endsN (p:Proj) (b:Dom) (k:Nat):List Int:=(List.range k).map (endOfA p b)
abbrev ivEnds (p:Proj) (b:Dom):List Int:=setOf (endsN p b p.acts.length)
def okIv (x y:Int):Bool:=isTime x&&isTime y&&decide (x < y)
def ivRow (p:Proj) (b:Dom) (x:Int):List (List Int):=((ivEnds p b).filter (okIv x)).map fun y=>[x,y]
def intervals (p:Proj) (b:Dom):List (List Int):=if usable p b=true then (setOf b.lo).flatMap (ivRow p b) else []
theorem endOfA_eq {p:Proj} {b:Dom} {k:Nat} {a:Activ} {x y:Int} {m:List Int} (g:DomGet p b k a x y m):endOfA p b k=y+maxDur a m:=by
 simp [endOfA,actOf,List.getD_eq_getElem?_getD,g.act,g.hi,g.modes]
theorem endsN_succ (p:Proj) (b:Dom) (k:Nat):endsN p b (k+1)=endsN p b k++[endOfA p b k]:=by simp [endsN,List.range_succ]
theorem endsN_len (p:Proj) (b:Dom) (k:Nat):(endsN p b k).length=k:=by simp [endsN]
theorem flat_step {α β:Type} {f:α→List β} {l:List α} {k:Nat} {x:α} {o:List β} (ho:o=(l.take k).flatMap f) (h:l[k]? =some x):o++f x=(l.take (k+1)).flatMap f:=by
 obtain⟨hk,rfl⟩:=List.getElem?_eq_some_iff.1 h
 rw [ho,List.take_succ_eq_append_getElem hk,List.flatMap_append];simp
theorem filt_step {α β:Type} {f:α→Bool} {g:α→β} {l:List α} {k:Nat} {x:α} {q o:List β} (ho:o=q++((l.take k).filter f).map g) (h:l[k]? =some x):
  (f x=true→o++[g x]=q++((l.take (k+1)).filter f).map g)∧(f x=false→o=q++((l.take (k+1)).filter f).map g):=by
 obtain⟨hk,rfl⟩:=List.getElem?_eq_some_iff.1 h
 rw [List.take_succ_eq_append_getElem hk,List.filter_append]
 exact⟨fun hf=>by rw [ho];simp [hf],fun hf=>by rw [ho];simp [hf]⟩
theorem usable_parts {p:Proj} {b:Dom} (h:usable p b=true):domForm p b=true∧domEmpty b=false:=by simpa [usable] using h
theorem spec_l14Ok (p:Proj) (b:Dom) (hp:p.fine):Con 267 [.d p.av,.d b.av] (.d (.bool (usable p b))):=by
 refine con Tryz.func267 rfl rfl Tryz.call267 rfl fun hwf=>?_
 (repeat' ((conv=>whnf);first | refine gA ?_ | (refine gB ?_ ?_ <;> intro h) | refine gC (spec_DomainForm p b hp) ?_ | refine gC (spec_DomainEmpty b) ?_ | intro _)) <;> try (conv=>whnf)
 all_goals refine⟨?_,rfl,trivial⟩
 all_goals simp [usable, *]
theorem impl_Intervals (p:Proj) (b:Dom) (hp:p.fine):Con 330 [.d p.av,.d b.av] (.d (.sl ((intervals p b).map ints))):=by
 refine con Tryz.func330 rfl rfl Tryz.call330 rfl fun hwf=>?_
 simp only [ARs.wf,AR.wf,AV.wf,AV.wfs,List.length_map,lim] at hwf
 cases hu:usable p b with
 | false=>
  (repeat' ((conv=>whnf);first | refine gA ?_ | (refine gN ?_ ?_ <;> intro h hw) | (refine gB ?_ ?_ <;> intro h) | (refine gI ?_;intro x hx) | (refine gJ ?_;intro j x hj hx) | refine gP ?_ | refine gV ?_ | refine gC (impl_isUsable p b hp) ?_ | intro _)) <;> try (conv=>whnf)
  refine⟨?_,rfl,trivial⟩;rw [intervals,if_neg (by rw [hu];exact Bool.false_ne_true)];rfl
 | true=>
  rw [intervals,if_pos hu]
  have hf:=(usable_parts hu).1
  obtain⟨hpo,l1,l2,l3,_⟩:=domForm_parts hf
  have hna:=(projForm hpo).nact
  have hel:=endsN_len p b
  have hsl:=setOf_len b.lo
  have hse:(setOf (endsN p b p.acts.length)).length≤p.acts.length:=by have:=setOf_len (endsN p b p.acts.length);rw [hel] at this;exact this
  (repeat' ((conv=>whnf);first | refine gA ?_ | (refine gN ?_ ?_ <;> intro h hw) | (refine gB ?_ ?_ <;> intro h) | (refine gI ?_;intro x hx) | (refine gJ ?_;intro j x hj hx) | refine gP ?_ | refine gV ?_ | refine gC (impl_isUsable p b hp) ?_ | intro _)) <;> try (conv=>whnf)
  refine loopF [3,6,20,21] [3] [17] ?_
  (conv=>whnf)
  refine LoopC.go ((Nat)) (fun k=>(k≤p.acts.length)) (fun k=>[(22,.data (i64 k)),(5,.own 17 0)]) (fun _=>[]) (fun k=>[(17,3,(endsN p b k).map i64,0)]) (fun k=>p.acts.length - k) (0) ?_ ?_
  ·exact Nat.zero_le _
  rintro k hk
  have hek:=hel k
  by_cases hlt:k < p.acts.length
  ·obtain⟨a,lo,up,m,g⟩:=dom_get hf hlt
   have h1:=g.hib
   have h2:=maxDur_bound g.aok m
   (repeat' ((conv=>whnf);first | with_reducible refine Idx.got g.act rfl ?_ | with_reducible refine Idx.got g.hi rfl ?_ | with_reducible refine Idx.got g.modes rfl ?_ | refine gA ?_ | (refine gN ?_ ?_ <;> intro h hw) | (refine gB ?_ ?_ <;> intro h) | (refine gI ?_;intro x hx) | (refine gJ ?_;intro j x hj hx) | refine gP ?_ | refine gV ?_ | refine gC (impl_MaxDuration a m) ?_ | intro _)) <;> try (conv=>whnf)
   ·refine nw (k+1) ?_ ?_
    ·(repeat' ((conv=>whnf) <;> (first | exact trivial | exact rfl | with_reducible refine And.intro ?_ ?_))) <;> ((conv=>whnf) <;> ((rw [endsN_succ,endOfA_eq g];simp)))
    exact (by omega:k+1≤p.acts.length)
   ·exfalso;omega
  (repeat' ((conv=>whnf);first | (exfalso;omega) | refine gA ?_ | (refine gN ?_ ?_ <;> intro h hw) | (refine gB ?_ ?_ <;> intro h) | (refine gI ?_;intro x hx) | (refine gJ ?_;intro j x hj hx) | refine gP ?_ | refine gV ?_ | refine gC (impl_SetOf b.lo) ?_ | intro _)) <;> try (conv=>whnf)
  rw [show k=p.acts.length by omega]
  refine loopF [46,47] [] [18] ?_
  (conv=>whnf)
  refine LoopC.go ((Nat)×(List (List Int))) (fun⟨i,o⟩=>(i≤(setOf b.lo).length)∧(o.length≤6*i)∧(o=((setOf b.lo).take i).flatMap (ivRow p b))) (fun⟨i,o⟩=>[(48,.data (i64 i)),(5,.data (ints (endsN p b p.acts.length))),(6,.own 18 0)]) (fun _=>[]) (fun⟨i,o⟩=>[(18,25,o.map ints,0)]) (fun⟨i,o⟩=>(setOf b.lo).length - i) ⟨0,[]⟩ ?_ ?_
  ·exact⟨Nat.zero_le _,by simp,by simp⟩
  rintro⟨i,o⟩ ⟨hi,ol,ho⟩
  by_cases hil:i < (setOf b.lo).length
  rotate_left
  ·(repeat' ((conv=>whnf);first | (exfalso;omega) | refine gA ?_ | (refine gN ?_ ?_ <;> intro h hw) | (refine gB ?_ ?_ <;> intro h) | (refine gI ?_;intro x hx) | (refine gJ ?_;intro j x hj hx) | refine gP ?_ | refine gV ?_ | intro _)) <;> try (conv=>whnf)
   refine⟨?_,rfl,trivial⟩
   rw [ho,List.take_of_length_le (by omega)]
  obtain⟨x0,hx0⟩:∃x0,(setOf b.lo)[i]? =some x0:=⟨(setOf b.lo)[i]'hil,by simp⟩
  (repeat' ((conv=>whnf);first | with_reducible refine Idx.got hx0 rfl ?_ | refine gA ?_ | (refine gN ?_ ?_ <;> intro h hw) | (refine gB ?_ ?_ <;> intro h) | (refine gI ?_;intro x hx) | (refine gJ ?_;intro j x hj hx) | refine gP ?_ | refine gV ?_ | refine gC (impl_SetOf (endsN p b p.acts.length)) ?_ | intro _)) <;> try (conv=>whnf)
  rotate_left
  ·exact trivial
  refine loopF [5,10,46,47,48,53,54] [] [18] ?_
  (conv=>whnf)
  refine LoopC.go ((Nat)×(List (List Int))) (fun⟨j,o2⟩=>(j≤(setOf (endsN p b p.acts.length)).length)∧(o2.length≤6*i+j)∧(o2=o++(((setOf (endsN p b p.acts.length)).take j).filter (okIv x0)).map (fun y=>[x0,y]))) (fun⟨j,o2⟩=>[(55,.data (i64 j)),(6,.own 18 0)]) (fun _=>[]) (fun⟨j,o2⟩=>[(18,25,o2.map ints,0)]) (fun⟨j,o2⟩=>(setOf (endsN p b p.acts.length)).length - j) ⟨0,o⟩ ?_ ?_
  ·exact⟨Nat.zero_le _,by omega,by simp⟩
  rintro⟨j,o2⟩ ⟨hj,ol2,ho2⟩
  by_cases hjl:j < (setOf (endsN p b p.acts.length)).length
  ·obtain⟨y0,hy0⟩:∃y0,(setOf (endsN p b p.acts.length))[j]? =some y0:=⟨(setOf (endsN p b p.acts.length))[j]'hjl,by simp⟩
   (repeat' ((conv=>whnf);first | with_reducible refine Idx.got hy0 rfl ?_ | refine gA ?_ | (refine gN ?_ ?_ <;> intro h hw) | (refine gB ?_ ?_ <;> intro h) | (refine gI ?_;intro x hx) | (refine gJ ?_;intro j x hj hx) | refine gP ?_ | refine gV ?_ | refine gC (impl_isTime _) ?_ | intro _)) <;> try (conv=>whnf)
   ·refine nw ⟨j+1,o2++[[x0,y0]]⟩ ?_ ?_
    ·(repeat' ((conv=>whnf) <;> (first | exact trivial | exact rfl | with_reducible refine And.intro ?_ ?_))) <;> ((conv=>whnf) <;> (simp))
    exact⟨by omega,by simp;omega,(filt_step ho2 hy0).1 (by simp [okIv, *])⟩
   ·refine nx ⟨j+1,o2⟩ ?_
    exact⟨by omega,by omega,(filt_step ho2 hy0).2 (by simp [okIv, *])⟩
   ·refine nx ⟨j+1,o2⟩ ?_
    exact⟨by omega,by omega,(filt_step ho2 hy0).2 (by simp [okIv, *])⟩
   ·refine nx ⟨j+1,o2⟩ ?_
    exact⟨by omega,by omega,(filt_step ho2 hy0).2 (by simp [okIv, *])⟩
   ·exfalso;omega
  ·(repeat' ((conv=>whnf);first | (exfalso;omega) | refine gA ?_ | (refine gN ?_ ?_ <;> intro h hw) | (refine gB ?_ ?_ <;> intro h) | (refine gI ?_;intro x hx) | (refine gJ ?_;intro j x hj hx) | refine gP ?_ | refine gV ?_ | intro _)) <;> try (conv=>whnf)
   refine nx ⟨i+1,o2⟩ ?_
   refine⟨by omega,by omega,?_⟩
   rw [ho2,List.take_of_length_le (by omega)]
   exact flat_step ho hx0
theorem spec_Intervals (p:Proj) (b:Dom) (hp:p.fine):Con 319 [.d p.av,.d b.av] (.d (.sl ((intervals p b).map ints))):=by
 refine con Tryz.func319 rfl rfl Tryz.call319 rfl fun hwf=>?_
 simp only [ARs.wf,AR.wf,AV.wf,AV.wfs,List.length_map,lim] at hwf
 cases hu:usable p b with
 | false=>
  (repeat' ((conv=>whnf);first | refine gA ?_ | (refine gN ?_ ?_ <;> intro h hw) | (refine gB ?_ ?_ <;> intro h) | (refine gI ?_;intro x hx) | (refine gJ ?_;intro j x hj hx) | refine gP ?_ | refine gV ?_ | refine gC (spec_l14Ok p b hp) ?_ | intro _)) <;> try (conv=>whnf)
  refine⟨?_,rfl,trivial⟩;rw [intervals,if_neg (by rw [hu];exact Bool.false_ne_true)];rfl
 | true=>
  rw [intervals,if_pos hu]
  have hf:=(usable_parts hu).1
  obtain⟨hpo,l1,l2,l3,_⟩:=domForm_parts hf
  have hna:=(projForm hpo).nact
  have hel:=endsN_len p b
  have hsl:=setOf_len b.lo
  have hse:(setOf (endsN p b p.acts.length)).length≤p.acts.length:=by have:=setOf_len (endsN p b p.acts.length);rw [hel] at this;exact this
  (repeat' ((conv=>whnf);first | refine gA ?_ | (refine gN ?_ ?_ <;> intro h hw) | (refine gB ?_ ?_ <;> intro h) | (refine gI ?_;intro x hx) | (refine gJ ?_;intro j x hj hx) | refine gP ?_ | refine gV ?_ | refine gC (spec_l14Ok p b hp) ?_ | intro _)) <;> try (conv=>whnf)
  refine loopF [2,3,5,20] [2,3] [] ?_
  (conv=>whnf)
  refine LoopC.go ((Nat)) (fun k=>(k≤p.acts.length)) (fun k=>[(21,.data (i64 k)),(6,.data (ints (setOf (endsN p b k))))]) (fun _=>[]) (fun _=>[]) (fun k=>p.acts.length - k) (0) ?_ ?_
  ·exact Nat.zero_le _
  rintro k hk
  have hek:=hel k
  have hsk:=setOf_len (endsN p b k)
  by_cases hlt:k < p.acts.length
  ·obtain⟨a,lo,up,m,g⟩:=dom_get hf hlt
   have h1:=g.hib
   have h2:=maxDur_bound g.aok m
   have hs1:(setOf (endsN p b k)).length < lim:=by unfold lim;omega
   (repeat' ((conv=>whnf);first | with_reducible refine Idx.got g.act rfl ?_ | with_reducible refine Idx.got g.hi rfl ?_ | with_reducible refine Idx.got g.modes rfl ?_ | refine gA ?_ | (refine gN ?_ ?_ <;> intro h hw) | (refine gB ?_ ?_ <;> intro h) | (refine gI ?_;intro x hx) | (refine gJ ?_;intro j x hj hx) | refine gP ?_ | refine gV ?_ | refine gC (spec_MaxDuration a m) ?_ | refine gC (spec_SetAdd (setOf (endsN p b k)) (up+maxDur a m) hs1) ?_ | intro _)) <;> try (conv=>whnf)
   ·refine nw (k+1) ?_ ?_
    ·(repeat' ((conv=>whnf) <;> (first | exact trivial | exact rfl | with_reducible refine And.intro ?_ ?_))) <;> ((conv=>whnf) <;> ((rw [endsN_succ,endOfA_eq g,setOf_more])))
    exact (by omega:k+1≤p.acts.length)
   ·exfalso;omega
  (repeat' ((conv=>whnf);first | (exfalso;omega) | refine gA ?_ | (refine gN ?_ ?_ <;> intro h hw) | (refine gB ?_ ?_ <;> intro h) | (refine gI ?_;intro x hx) | (refine gJ ?_;intro j x hj hx) | refine gP ?_ | refine gV ?_ | refine gC (spec_SetOf b.lo) ?_ | intro _)) <;> try (conv=>whnf)
  rw [show k=p.acts.length by omega]
  refine loopF [6,46,47] [] [12] ?_
  (conv=>whnf)
  refine LoopC.go ((Nat)×(List (List Int))) (fun⟨i,o⟩=>(i≤(setOf b.lo).length)∧(o.length≤6*i)∧(o=((setOf b.lo).take i).flatMap (ivRow p b))) (fun⟨i,o⟩=>[(48,.data (i64 i)),(5,.own 12 0)]) (fun _=>[]) (fun⟨i,o⟩=>[(12,25,o.map ints,0)]) (fun⟨i,o⟩=>(setOf b.lo).length - i) ⟨0,[]⟩ ?_ ?_
  ·exact⟨Nat.zero_le _,by simp,by simp⟩
  rintro⟨i,o⟩ ⟨hi,ol,ho⟩
  by_cases hil:i < (setOf b.lo).length
  rotate_left
  ·(repeat' ((conv=>whnf);first | (exfalso;omega) | refine gA ?_ | (refine gN ?_ ?_ <;> intro h hw) | (refine gB ?_ ?_ <;> intro h) | (refine gI ?_;intro x hx) | (refine gJ ?_;intro j x hj hx) | refine gP ?_ | refine gV ?_ | intro _)) <;> try (conv=>whnf)
   refine⟨?_,rfl,trivial⟩
   rw [ho,List.take_of_length_le (by omega)]
  obtain⟨x0,hx0⟩:∃x0,(setOf b.lo)[i]? =some x0:=⟨(setOf b.lo)[i]'hil,by simp⟩
  (repeat' ((conv=>whnf);first | with_reducible refine Idx.got hx0 rfl ?_ | refine gA ?_ | (refine gN ?_ ?_ <;> intro h hw) | (refine gB ?_ ?_ <;> intro h) | (refine gI ?_;intro x hx) | (refine gJ ?_;intro j x hj hx) | refine gP ?_ | refine gV ?_ | intro _)) <;> try (conv=>whnf)
  rotate_left
  ·exact trivial
  refine loopF [6,9,46,47,48,52,53] [] [12] ?_
  (conv=>whnf)
  refine LoopC.go ((Nat)×(List (List Int))) (fun⟨j,o2⟩=>(j≤(setOf (endsN p b p.acts.length)).length)∧(o2.length≤6*i+j)∧(o2=o++(((setOf (endsN p b p.acts.length)).take j).filter (okIv x0)).map (fun y=>[x0,y]))) (fun⟨j,o2⟩=>[(54,.data (i64 j)),(5,.own 12 0)]) (fun _=>[]) (fun⟨j,o2⟩=>[(12,25,o2.map ints,0)]) (fun⟨j,o2⟩=>(setOf (endsN p b p.acts.length)).length - j) ⟨0,o⟩ ?_ ?_
  ·exact⟨Nat.zero_le _,by omega,by simp⟩
  rintro⟨j,o2⟩ ⟨hj,ol2,ho2⟩
  by_cases hjl:j < (setOf (endsN p b p.acts.length)).length
  ·obtain⟨y0,hy0⟩:∃y0,(setOf (endsN p b p.acts.length))[j]? =some y0:=⟨(setOf (endsN p b p.acts.length))[j]'hjl,by simp⟩
   (repeat' ((conv=>whnf);first | with_reducible refine Idx.got hy0 rfl ?_ | refine gA ?_ | (refine gN ?_ ?_ <;> intro h hw) | (refine gB ?_ ?_ <;> intro h) | (refine gI ?_;intro x hx) | (refine gJ ?_;intro j x hj hx) | refine gP ?_ | refine gV ?_ | refine gC (spec_in _ _ _) ?_ | intro _)) <;> try (conv=>whnf)
   ·refine nw ⟨j+1,o2++[[x0,y0]]⟩ ?_ ?_
    ·(repeat' ((conv=>whnf) <;> (first | exact trivial | exact rfl | with_reducible refine And.intro ?_ ?_))) <;> ((conv=>whnf) <;> (simp))
    exact⟨by omega,by simp;omega,(filt_step ho2 hy0).1 (by simp [okIv,isTime, *])⟩
   ·refine nx ⟨j+1,o2⟩ ?_
    exact⟨by omega,by omega,(filt_step ho2 hy0).2 (by simp [okIv,isTime, *])⟩
   ·refine nx ⟨j+1,o2⟩ ?_
    exact⟨by omega,by omega,(filt_step ho2 hy0).2 (by simp [okIv,isTime, *])⟩
   ·refine nx ⟨j+1,o2⟩ ?_
    exact⟨by omega,by omega,(filt_step ho2 hy0).2 (by simp [okIv,isTime, *])⟩
   ·exfalso;omega
  ·(repeat' ((conv=>whnf);first | (exfalso;omega) | refine gA ?_ | (refine gN ?_ ?_ <;> intro h hw) | (refine gB ?_ ?_ <;> intro h) | (refine gI ?_;intro x hx) | (refine gJ ?_;intro j x hj hx) | refine gP ?_ | refine gV ?_ | intro _)) <;> try (conv=>whnf)
   refine nx ⟨i+1,o2⟩ ?_
   refine⟨by omega,by omega,?_⟩
   rw [ho2,List.take_of_length_le (by omega)]
   exact flat_step ho hx0
end Go.Proofs.YtfhojdalheinaaaGreat.Abs
set_option linter.unusedVariables false
set_option linter.unusedSimpArgs false
set_option maxRecDepth 20000
set_option maxHeartbeats 4000000
namespace Go.Proofs.YtfhojdalheinaaaGreat.Abs
open Go.Proofs
def plainRules (p:Proj):List Rul:=(List.range p.links.length).map linkRule++(List.range p.acts.length).map endRule++(List.range p.stocks.length).map stockRule
def pairRules (p:Proj):List Rul:=(List.range p.ress.length).flatMap fun r=>(List.range p.acts.length).flatMap (pairsOf p r)
def timesAt (b:Dom) (x:Resrc):List Int:=(setOf (b.hi++x.steps.map Step.at')).filter isTime
def tRule (i:Nat) (t:Int):Rul:=⟨3,i,t,0⟩
def wRule (i:Nat) (q:List Int):Rul:=⟨4,i,q.getD 0 0,q.getD 1 0⟩
def resRules (p:Proj) (b:Dom) (i:Nat):List Rul:=
 match p.ress[i]? with
 | some x=>(timesAt b x).map (tRule i)++(intervals p b).map (wRule i)
 | none=>[]
def candAll (p:Proj) (b:Dom):List Rul:=plainRules p++(List.range p.ress.length).flatMap (resRules p b)++pairRules p
def candRules (p:Proj) (b:Dom):List Rul:=if usable p b=true then candAll p b else []
def isPlain (r:Rul):Bool:=decide (r.kind=1)||decide (r.kind=2)||decide (r.kind=6)
def isPair (r:Rul):Bool:=decide (r.kind=5)
theorem filt_all {α β:Type} {f:β→Bool} {g:α→β} {l:List α} (h:∀x,f (g x)=true):(l.map g).filter f=l.map g:=List.filter_eq_self.2 fun y hy=>by
 obtain⟨x,_,rfl⟩:=List.mem_map.1 hy;exact h x
theorem filt_none {α β:Type} {f:β→Bool} {g:α→β} {l:List α} (h:∀x,f (g x)=false):(l.map g).filter f= []:=List.filter_eq_nil_iff.2 fun y hy=>by
 obtain⟨x,_,rfl⟩:=List.mem_map.1 hy;rw [h x];exact Bool.false_ne_true
theorem pairsOf_kind {p:Proj} {r b:Nat} {y:Rul} (h:y∈pairsOf p r b):y.kind=5:=by
 unfold pairsOf at h
 split at h
 ·obtain⟨j,_,rfl⟩:=List.mem_map.1 h;rfl
 ·simp at h
theorem times_kind {n:Nat} {y:Rul} (h:y∈(List.range n).flatMap timesOf):y.kind=3:=by
 obtain⟨r,_,h⟩:=List.mem_flatMap.1 h
 obtain⟨j,_,rfl⟩:=List.mem_map.1 h;rfl
theorem pairs_kind {p:Proj} {y:Rul} (h:y∈pairRules p):y.kind=5:=by
 obtain⟨r,_,h⟩:=List.mem_flatMap.1 h
 obtain⟨b,_,h⟩:=List.mem_flatMap.1 h
 exact pairsOf_kind h
theorem rules_plain (p:Proj):(rulesOf p).filter isPlain=plainRules p:=by
 have h1:((List.range p.ress.length).flatMap timesOf).filter isPlain= []:=List.filter_eq_nil_iff.2 fun y hy=>by rw [isPlain,times_kind hy];decide
 have h2:((List.range p.ress.length).flatMap fun r=>(List.range p.acts.length).flatMap (pairsOf p r)).filter isPlain= []:=List.filter_eq_nil_iff.2 fun y hy=>by rw [isPlain,pairs_kind hy];decide
 simp only [rulesOf,List.filter_append,h1,h2,plainRules]
 rw [filt_all (fun _=>rfl),filt_all (fun _=>rfl),filt_all (fun _=>rfl)]
 simp
theorem rules_pair (p:Proj):(rulesOf p).filter isPair=pairRules p:=by
 have h1:((List.range p.ress.length).flatMap timesOf).filter isPair= []:=List.filter_eq_nil_iff.2 fun y hy=>by rw [isPair,times_kind hy];decide
 have h2:((List.range p.ress.length).flatMap fun r=>(List.range p.acts.length).flatMap (pairsOf p r)).filter isPair=pairRules p:=List.filter_eq_self.2 fun y hy=>by rw [isPair,pairs_kind hy];rfl
 simp only [rulesOf,List.filter_append,h1,h2]
 rw [filt_none (fun _=>rfl),filt_none (fun _=>rfl),filt_none (fun _=>rfl)]
 simp
theorem flatMap_len {α β:Type} {f:α→List β} {c:Nat}:∀{l:List α},(∀x∈l,(f x).length≤c)→(l.flatMap f).length≤c*l.length
 | [],_=>by simp
 | x::l,h=>by
  have h1:=h x (by simp)
  have h2:=flatMap_len (l:=l) fun y hy=>h y (by simp [hy])
  simp only [List.flatMap_cons,List.length_append,List.length_cons,Nat.mul_add];omega
theorem plain_len {p:Proj} (ho:projOk p=true):(plainRules p).length≤20:=by
 have:=proj_small ho
 simp only [plainRules,List.length_append,List.length_map,List.length_range];omega
theorem pairsOf_len (p:Proj) (r b:Nat):(pairsOf p r b).length≤p.acts.length:=by
 unfold pairsOf;split
 ·simp
 ·simp
theorem pair_len {p:Proj} (ho:projOk p=true):(pairRules p).length≤108:=by
 have hs:=proj_small ho
 have h2:∀r,((List.range p.acts.length).flatMap (pairsOf p r)).length≤36:=fun r=>by
  have:=flatMap_len (f:=pairsOf p r) (c:=6) (l:=List.range p.acts.length) fun b _=>Nat.le_trans (pairsOf_len p r b) hs.1.2
  simp only [List.length_range] at this;omega
 have:=flatMap_len (f:=fun r=>(List.range p.acts.length).flatMap (pairsOf p r)) (c:=36) (l:=List.range p.ress.length) fun r _=>h2 r
 simp only [List.length_range] at this
 show ((List.range p.ress.length).flatMap fun r=>(List.range p.acts.length).flatMap (pairsOf p r)).length≤108
 omega
theorem intervals_len {p:Proj} {b:Dom} (hf:domForm p b=true):(intervals p b).length≤36:=by
 unfold intervals
 split
 ·obtain⟨hpo,l1,l2,l3,_⟩:=domForm_parts hf
  have hna:=(projForm hpo).nact
  have h1:=setOf_len b.lo
  have h2:=setOf_len (endsN p b p.acts.length)
  rw [endsN_len] at h2
  have h3:=flatMap_len (f:=ivRow p b) (c:=6) (l:=setOf b.lo) fun x _=>by
   have:=List.length_filter_le (okIv x) (setOf (endsN p b p.acts.length))
   simp only [ivRow,ivEnds,List.length_map];omega
  omega
 ·simp
theorem intervals_two {p:Proj} {b:Dom} {q:List Int} (h:q∈intervals p b):∃x y,q= [x,y]∧isTime x=true∧isTime y=true∧x < y:=by
 unfold intervals at h
 split at h
 ·obtain⟨x,_,h⟩:=List.mem_flatMap.1 h
  obtain⟨y,hy,rfl⟩:=List.mem_map.1 h
  have:=(List.mem_filter.1 hy).2
  simp only [okIv,Bool.and_eq_true,decide_eq_true_eq] at this
  exact⟨x,y,rfl,this.1.1,this.1.2,this.2⟩
 ·simp at h
theorem steps_few {p:Proj} (ho:projOk p=true) {k:Nat} {x:Resrc} (h:p.ress[k]? =some x):x.steps.length≤8:=by
 have:=(projForm ho).res k x h
 simp only [resOk,Bool.and_eq_true,stepsOk,within_iff] at this
 omega
theorem rules_len {p:Proj} (ho:projOk p=true):(rulesOf p).length≤400:=by
 have hs:=proj_small ho
 have h1:=flatMap_len (f:=timesOf) (c:=61) (l:=List.range p.ress.length) fun r _=>by simp [timesOf]
 have h2:((List.range p.ress.length).flatMap fun r=>(List.range p.acts.length).flatMap (pairsOf p r)).length≤108:=pair_len ho
 simp only [List.length_range] at h1
 simp only [rulesOf,List.length_append,List.length_map,List.length_range];omega
theorem filter_take {α:Type} (f:α→Bool) {l:List α} {k:Nat} {x:α} (h:l[k]? =some x):(l.take (k+1)).filter f=(l.take k).filter f++if f x=true then [x] else []:=by
 obtain⟨hk,rfl⟩:=List.getElem?_eq_some_iff.1 h
 rw [List.take_succ_eq_append_getElem hk,List.filter_append]
 congr 1
 simp [List.filter_cons]
theorem setOf_app {t u:List Int} (x:Int) (h:setOf t=setOf u):setOf (t++[x])=setOf (u++[x]):=by rw [← setOf_more,h,setOf_more]
theorem map_snoc {α β:Type} (f:α→β) {l:List α} {k:Nat} {x:α} (h:l[k]? =some x):(l.take (k+1)).map f=(l.take k).map f++[f x]:=(map_take_succ f h).symm
theorem resRules_eq {p:Proj} {b:Dom} {i:Nat} {x:Resrc} (h:p.ress[i]? =some x):resRules p b i=(timesAt b x).map (tRule i)++(intervals p b).map (wRule i):=by simp only [resRules,h]
theorem range_flat {α:Type} (f:Nat→List α) (n:Nat):(List.range (n+1)).flatMap f=(List.range n).flatMap f++f n:=by rw [List.range_succ,List.flatMap_append];simp
theorem impl_CandidateRules (p:Proj) (b:Dom) (hp:p.fine):Con 256 [.d p.av,.d b.av] (.d (.sl ((candRules p b).map Rul.av))):=by
 refine con Tryz.func256 rfl rfl Tryz.call256 rfl fun hwf=>?_
 simp only [ARs.wf,AR.wf,AV.wf,AV.wfs,List.length_map,lim] at hwf
 cases hu:usable p b with
 | false=>
  (repeat' ((conv=>whnf);first | refine gA ?_ | (refine gN ?_ ?_ <;> intro h hw) | (refine gB ?_ ?_ <;> intro h) | (refine gI ?_;intro x hx) | (refine gJ ?_;intro j x hj hx) | refine gP ?_ | refine gV ?_ | refine gC (impl_isUsable p b hp) ?_ | intro _)) <;> try (conv=>whnf)
  refine⟨?_,rfl,trivial⟩;rw [candRules,if_neg (by rw [hu];exact Bool.false_ne_true)];rfl
 | true=>
  rw [candRules,if_pos hu]
  have hf:=(usable_parts hu).1
  obtain⟨hpo,l1,l2,l3,_⟩:=domForm_parts hf
  have hna:=(projForm hpo).nact
  obtain⟨_,hr3,_,_⟩:=proj_small hpo
  have hpl:=plain_len hpo
  have hpp:=pair_len hpo
  have hiv:=intervals_len hf
  (repeat' ((conv=>whnf);first | refine gA ?_ | (refine gN ?_ ?_ <;> intro h hw) | (refine gB ?_ ?_ <;> intro h) | (refine gI ?_;intro x hx) | (refine gJ ?_;intro j x hj hx) | refine gP ?_ | refine gV ?_ | refine gC (impl_isUsable p b hp) ?_ | refine gC (impl_rules p hpo) ?_ | intro _)) <;> try (conv=>whnf)
  refine loopF [2,3,25,26] [2,3] [22,23] ?_
  (conv=>whnf)
  refine LoopC.go ((Nat)×(List Rul)×(List Rul)) (fun⟨k,o,q⟩=>(k≤(rulesOf p).length)∧(o.length≤k)∧(q.length≤k)∧(o=((rulesOf p).take k).filter isPlain)∧(q=((rulesOf p).take k).filter isPair)) (fun⟨k,o,q⟩=>[(27,.data (i64 k)),(5,.own 22 0),(6,.own 23 0)]) (fun _=>[]) (fun⟨k,o,q⟩=>[(22,187,o.map Rul.av,0),(23,187,q.map Rul.av,0)]) (fun⟨k,o,q⟩=>(rulesOf p).length - k) ⟨0,[],[]⟩ ?_ ?_
  ·exact⟨Nat.zero_le _,Nat.le_refl _,Nat.le_refl _,rfl,rfl⟩
  rintro⟨k,o,q⟩ ⟨hk,ol,ql,ho,hq⟩
  by_cases hlt:k < (rulesOf p).length
  ·obtain⟨r,hr⟩:∃r,(rulesOf p)[k]? =some r:=⟨(rulesOf p)[k]'hlt,by simp⟩
   have hrl:=rules_len hpo
   have hsp:=filter_take isPlain hr
   have hsq:=filter_take isPair hr
   (repeat' ((conv=>whnf);first | with_reducible refine Idx.got hr rfl ?_ | refine gA ?_ | (refine gN ?_ ?_ <;> intro h hw) | (refine gB ?_ ?_ <;> intro h) | (refine gI ?_;intro x hx) | (refine gJ ?_;intro j x hj hx) | refine gP ?_ | refine gV ?_ | intro _)) <;> try (conv=>whnf)
   ·refine nw ⟨k+1,o++[r],q⟩ ?_ ?_
    ·(repeat' ((conv=>whnf) <;> (first | exact trivial | exact rfl | with_reducible refine And.intro ?_ ?_))) <;> ((conv=>whnf) <;> (simp))
    have e1:isPlain r=true:=by simp [isPlain, *]
    have e2:isPair r=false:=by simp [isPair, *]
    exact⟨by omega,by simp;omega,by omega,by rw [hsp,e1,ho];rfl,by rw [hsq,e2,hq];simp⟩
   ·refine nw ⟨k+1,o++[r],q⟩ ?_ ?_
    ·(repeat' ((conv=>whnf) <;> (first | exact trivial | exact rfl | with_reducible refine And.intro ?_ ?_))) <;> ((conv=>whnf) <;> (simp))
    have e1:isPlain r=true:=by simp [isPlain, *]
    have e2:isPair r=false:=by simp [isPair, *]
    exact⟨by omega,by simp;omega,by omega,by rw [hsp,e1,ho];rfl,by rw [hsq,e2,hq];simp⟩
   ·refine nw ⟨k+1,o++[r],q⟩ ?_ ?_
    ·(repeat' ((conv=>whnf) <;> (first | exact trivial | exact rfl | with_reducible refine And.intro ?_ ?_))) <;> ((conv=>whnf) <;> (simp))
    have e1:isPlain r=true:=by simp [isPlain, *]
    have e2:isPair r=false:=by simp [isPair, *]
    exact⟨by omega,by simp;omega,by omega,by rw [hsp,e1,ho];rfl,by rw [hsq,e2,hq];simp⟩
   ·refine nw ⟨k+1,o,q++[r]⟩ ?_ ?_
    ·(repeat' ((conv=>whnf) <;> (first | exact trivial | exact rfl | with_reducible refine And.intro ?_ ?_))) <;> ((conv=>whnf) <;> (simp))
    have e1:isPlain r=false:=by simp [isPlain, *]
    have e2:isPair r=true:=by simp [isPair, *]
    exact⟨by omega,by omega,by simp;omega,by rw [hsp,e1,ho];simp,by rw [hsq,e2,hq];rfl⟩
   ·refine nx ⟨k+1,o,q⟩ ?_
    have e1:isPlain r=false:=by simp [isPlain, *]
    have e2:isPair r=false:=by simp [isPair, *]
    exact⟨by omega,by omega,by omega,by rw [hsp,e1,ho];simp,by rw [hsq,e2,hq];simp⟩
   ·exfalso;omega
  (repeat' ((conv=>whnf);first | (exfalso;omega) | refine gA ?_ | (refine gN ?_ ?_ <;> intro h hw) | (refine gB ?_ ?_ <;> intro h) | (refine gI ?_;intro x hx) | (refine gJ ?_;intro j x hj hx) | refine gP ?_ | refine gV ?_ | intro _)) <;> try (conv=>whnf)
  have ho':o=plainRules p:=by rw [ho,List.take_of_length_le (by omega),rules_plain]
  have hq':q=pairRules p:=by rw [hq,List.take_of_length_le (by omega),rules_pair]
  clear ho hq ol ql hlt hk
  subst ho' hq'
  refine loopF [2,3,6,49,50] [2,3] [22] ?_
  (conv=>whnf)
  refine LoopC.go ((Nat)×(List Rul)) (fun⟨i,o⟩=>(i≤p.ress.length)∧(o.length≤20+50*i)∧(o=plainRules p++(List.range i).flatMap (resRules p b))) (fun⟨i,o⟩=>[(51,.data (i64 i)),(5,.own 22 0)]) (fun _=>[]) (fun⟨i,o⟩=>[(22,187,o.map Rul.av,0)]) (fun⟨i,o⟩=>p.ress.length - i) ⟨0,plainRules p⟩ ?_ ?_
  ·exact⟨Nat.zero_le _,by omega,by simp⟩
  rintro⟨i,o⟩ ⟨hi,ol,ho⟩
  by_cases hil:i < p.ress.length
  rotate_left
  ·(repeat' ((conv=>whnf);first | (exfalso;omega) | refine gA ?_ | (refine gN ?_ ?_ <;> intro h hw) | (refine gB ?_ ?_ <;> intro h) | (refine gI ?_;intro x hx) | (refine gJ ?_;intro j x hj hx) | refine gP ?_ | refine gV ?_ | intro _)) <;> try (conv=>whnf)
   refine⟨?_,rfl,trivial⟩
   rw [candAll,ho,show i=p.ress.length by omega];simp
  obtain⟨x,hx⟩:∃x,p.ress[i]? =some x:=⟨p.ress[i]'hil,by simp⟩
  have hst:=steps_few hpo hx
  (repeat' ((conv=>whnf);first | with_reducible refine Idx.got hx rfl ?_ | refine gA ?_ | (refine gN ?_ ?_ <;> intro h hw) | (refine gB ?_ ?_ <;> intro h) | (refine gI ?_;intro x hx) | (refine gJ ?_;intro j x hj hx) | refine gP ?_ | refine gV ?_ | intro _)) <;> try (conv=>whnf)
  rotate_left
  ·exact trivial
  refine loopF [2,3,5,6,9,49,50,51,59,60] [2,3] [] ?_
  (conv=>whnf)
  refine LoopC.go ((Nat)×(List Int)) (fun⟨j,t⟩=>(j≤x.steps.length)∧(t.length≤6+j)∧(setOf t=setOf (b.hi++(x.steps.take j).map Step.at'))) (fun⟨j,t⟩=>[(61,.data (i64 j)),(11,.data (ints t))]) (fun _=>[]) (fun _=>[]) (fun⟨j,t⟩=>x.steps.length - j) ⟨0,b.hi⟩ ?_ ?_
  ·exact⟨Nat.zero_le _,by omega,by simp⟩
  rintro⟨j,t⟩ ⟨hj,tl,ht⟩
  by_cases hjl:j < x.steps.length
  ·obtain⟨s,hs⟩:∃s,x.steps[j]? =some s:=⟨x.steps[j]'hjl,by simp⟩
   have hs1:t.length < lim:=by unfold lim;omega
   have hs2:=setOf_len (t++[s.at'])
   simp only [List.length_append,List.length_cons,List.length_nil] at hs2
   (repeat' ((conv=>whnf);first | with_reducible refine Idx.got hs rfl ?_ | refine gA ?_ | (refine gN ?_ ?_ <;> intro h hw) | (refine gB ?_ ?_ <;> intro h) | (refine gI ?_;intro x hx) | (refine gJ ?_;intro j x hj hx) | refine gP ?_ | refine gV ?_ | refine gC (impl_SetAdd t s.at' hs1) ?_ | intro _)) <;> try (conv=>whnf)
   ·refine nx ⟨j+1,setOf (t++[s.at'])⟩ ?_
    refine⟨by omega,by omega,?_⟩
    rw [setOf_twice,setOf_app _ ht,map_snoc Step.at' hs,List.append_assoc]
   ·exfalso;omega
  (repeat' ((conv=>whnf);first | (exfalso;omega) | refine gA ?_ | (refine gN ?_ ?_ <;> intro h hw) | (refine gB ?_ ?_ <;> intro h) | (refine gI ?_;intro x hx) | (refine gJ ?_;intro j x hj hx) | refine gP ?_ | refine gV ?_ | refine gC (impl_SetOf t) ?_ | intro _)) <;> try (conv=>whnf)
  rw [List.take_of_length_le (by omega)] at ht
  have htl:=setOf_len t
  refine loopF [2,3,6,9,49,50,51,71,72] [2,3] [22] ?_
  (conv=>whnf)
  refine LoopC.go ((Nat)×(List Rul)) (fun⟨m,o3⟩=>(m≤(setOf t).length)∧(o3.length≤20+50*i+m)∧(o3=o++(((setOf t).take m).filter isTime).map (tRule i))) (fun⟨m,o3⟩=>[(73,.data (i64 m)),(5,.own 22 0)]) (fun _=>[]) (fun⟨m,o3⟩=>[(22,187,o3.map Rul.av,0)]) (fun⟨m,o3⟩=>(setOf t).length - m) ⟨0,o⟩ ?_ ?_
  ·exact⟨Nat.zero_le _,by omega,by simp⟩
  rintro⟨m,o3⟩ ⟨hm,ol3,ho3⟩
  by_cases hml:m < (setOf t).length
  ·obtain⟨v,hv⟩:∃v,(setOf t)[m]? =some v:=⟨(setOf t)[m]'hml,by simp⟩
   (repeat' ((conv=>whnf);first | with_reducible refine Idx.got hv rfl ?_ | refine gA ?_ | (refine gN ?_ ?_ <;> intro h hw) | (refine gB ?_ ?_ <;> intro h) | (refine gI ?_;intro x hx) | (refine gJ ?_;intro j x hj hx) | refine gP ?_ | refine gV ?_ | refine gC (impl_isTime v) ?_ | intro _)) <;> try (conv=>whnf)
   ·refine nw ⟨m+1,o3++[tRule i v]⟩ ?_ ?_
    ·(repeat' ((conv=>whnf) <;> (first | exact trivial | exact rfl | with_reducible refine And.intro ?_ ?_))) <;> ((conv=>whnf) <;> ((simp [tRule];try rfl)))
    exact⟨by omega,by simp;omega,(filt_step ho3 hv).1 (by assumption)⟩
   ·refine nx ⟨m+1,o3⟩ ?_
    exact⟨by omega,by omega,(filt_step ho3 hv).2 (by assumption)⟩
   ·exfalso;omega
  (repeat' ((conv=>whnf);first | (exfalso;omega) | refine gA ?_ | (refine gN ?_ ?_ <;> intro h hw) | (refine gB ?_ ?_ <;> intro h) | (refine gI ?_;intro x hx) | (refine gJ ?_;intro j x hj hx) | refine gP ?_ | refine gV ?_ | refine gC (impl_Intervals p b hp) ?_ | intro _)) <;> try (conv=>whnf)
  have ho3':o3=o++(timesAt b x).map (tRule i):=by rw [ho3,List.take_of_length_le (by omega),timesAt,ht]
  have ol3':o3.length≤20+50*i+14:=by omega
  clear ho3 ol3 hml hm
  refine loopF [2,3,6,9,49,50,51,88,89] [2,3] [22] ?_
  (conv=>whnf)
  refine LoopC.go ((Nat)×(List Rul)) (fun⟨n,o4⟩=>(n≤(intervals p b).length)∧(o4.length≤34+50*i+n)∧(o4=o3++((intervals p b).take n).map (wRule i))) (fun⟨n,o4⟩=>[(90,.data (i64 n)),(5,.own 22 0)]) (fun _=>[]) (fun⟨n,o4⟩=>[(22,187,o4.map Rul.av,0)]) (fun⟨n,o4⟩=>(intervals p b).length - n) ⟨0,o3⟩ ?_ ?_
  ·exact⟨Nat.zero_le _,by omega,by simp⟩
  rintro⟨n,o4⟩ ⟨hn,ol4,ho4⟩
  by_cases hnl:n < (intervals p b).length
  ·obtain⟨q2,hq2⟩:∃q2,(intervals p b)[n]? =some q2:=⟨(intervals p b)[n]'hnl,by simp⟩
   obtain⟨u,v,rfl,_⟩:=intervals_two (List.mem_of_getElem? hq2)
   (repeat' ((conv=>whnf);first | with_reducible refine Idx.got hq2 rfl ?_ | with_reducible refine Idx.got (l:=[u,v]) (k:=0) rfl rfl ?_ | with_reducible refine Idx.got (l:=[u,v]) (k:=1) rfl rfl ?_ | refine gA ?_ | (refine gN ?_ ?_ <;> intro h hw) | (refine gB ?_ ?_ <;> intro h) | (refine gI ?_;intro x hx) | (refine gJ ?_;intro j x hj hx) | refine gP ?_ | refine gV ?_ | intro _)) <;> try (conv=>whnf)
   ·refine nw ⟨n+1,o4++[wRule i [u,v]]⟩ ?_ ?_
    ·(repeat' ((conv=>whnf) <;> (first | exact trivial | exact rfl | with_reducible refine And.intro ?_ ?_))) <;> ((conv=>whnf) <;> ((simp [wRule];try rfl)))
    exact⟨by omega,by simp;omega,by rw [ho4,map_snoc _ hq2,List.append_assoc]⟩
   all_goals (first | (exfalso;omega) | exact trivial)
  ·(repeat' ((conv=>whnf);first | (exfalso;omega) | refine gA ?_ | (refine gN ?_ ?_ <;> intro h hw) | (refine gB ?_ ?_ <;> intro h) | (refine gI ?_;intro x hx) | (refine gJ ?_;intro j x hj hx) | refine gP ?_ | refine gV ?_ | intro _)) <;> try (conv=>whnf)
   refine nx ⟨i+1,o4⟩ ?_
   refine⟨by omega,by omega,?_⟩
   rw [ho4,ho3',ho,List.take_of_length_le (by omega),range_flat,resRules_eq hx];simp
theorem spec_l17For (p:Proj) (b:Dom) (hp:p.fine) (hu:usable p b=true):Con 248 [.d p.av,.d b.av] (.d (.sl ((candAll p b).map Rul.av))):=by
 refine con Tryz.func248 rfl rfl Tryz.call248 rfl fun hwf=>?_
 simp only [ARs.wf,AR.wf,AV.wf,AV.wfs,List.length_map,lim] at hwf
 have hf:=(usable_parts hu).1
 obtain⟨hpo,l1,l2,l3,_⟩:=domForm_parts hf
 have hna:=(projForm hpo).nact
 obtain⟨_,hr3,hs2,hl12⟩:=proj_small hpo
 have hpl:=plain_len hpo
 have hiv:=intervals_len hf
 (repeat' ((conv=>whnf);first | refine gA ?_ | (refine gN ?_ ?_ <;> intro h hw) | (refine gB ?_ ?_ <;> intro h) | (refine gI ?_;intro x hx) | (refine gJ ?_;intro j x hj hx) | refine gP ?_ | refine gV ?_ | intro _)) <;> try (conv=>whnf)
 refine loopF [2,3,25] [2,3] [22] ?_
 (conv=>whnf)
 refine LoopC.go ((Nat)×(List Rul)) (fun⟨k,o⟩=>(k≤p.links.length)∧(o.length≤k)∧(o=(List.range k).map linkRule)) (fun⟨k,o⟩=>[(26,.data (i64 k)),(5,.own 22 0)]) (fun _=>[]) (fun⟨k,o⟩=>[(22,187,o.map Rul.av,0)]) (fun⟨k,o⟩=>p.links.length - k) ⟨0,[]⟩ ?_ ?_
 ·exact⟨Nat.zero_le _,by simp,rfl⟩
 rintro⟨k,o⟩ ⟨hk,ol,ho⟩
 by_cases hlt:k < p.links.length
 ·(repeat' ((conv=>whnf);first | refine gA ?_ | (refine gN ?_ ?_ <;> intro h hw) | (refine gB ?_ ?_ <;> intro h) | (refine gI ?_;intro x hx) | (refine gJ ?_;intro j x hj hx) | refine gP ?_ | refine gV ?_ | intro _)) <;> try (conv=>whnf)
  ·refine nw ⟨k+1,o++[linkRule k]⟩ ?_ ?_
   ·(repeat' ((conv=>whnf) <;> (first | exact trivial | exact rfl | with_reducible refine And.intro ?_ ?_))) <;> ((conv=>whnf) <;> ((simp [linkRule] <;> rfl)))
   exact⟨by omega,by simp;omega,by rw [ho,List.range_succ,List.map_append];rfl⟩
  ·exfalso;omega
 (repeat' ((conv=>whnf);first | (exfalso;omega) | refine gA ?_ | (refine gN ?_ ?_ <;> intro h hw) | (refine gB ?_ ?_ <;> intro h) | (refine gI ?_;intro x hx) | (refine gJ ?_;intro j x hj hx) | refine gP ?_ | refine gV ?_ | intro _)) <;> try (conv=>whnf)
 rw [show k=p.links.length by omega] at ho ol
 clear hlt hk
 refine loopF [2,3,37] [2,3] [22] ?_
 (conv=>whnf)
 refine LoopC.go ((Nat)×(List Rul)) (fun⟨k2,o2⟩=>(k2≤p.acts.length)∧(o2.length≤12+k2)∧(o2=o++(List.range k2).map endRule)) (fun⟨k2,o2⟩=>[(38,.data (i64 k2)),(5,.own 22 0)]) (fun _=>[]) (fun⟨k2,o2⟩=>[(22,187,o2.map Rul.av,0)]) (fun⟨k2,o2⟩=>p.acts.length - k2) ⟨0,o⟩ ?_ ?_
 ·exact⟨Nat.zero_le _,by omega,by simp⟩
 rintro⟨k2,o2⟩ ⟨hk2,ol2,ho2⟩
 by_cases hlt:k2 < p.acts.length
 ·(repeat' ((conv=>whnf);first | refine gA ?_ | (refine gN ?_ ?_ <;> intro h hw) | (refine gB ?_ ?_ <;> intro h) | (refine gI ?_;intro x hx) | (refine gJ ?_;intro j x hj hx) | refine gP ?_ | refine gV ?_ | intro _)) <;> try (conv=>whnf)
  ·refine nw ⟨k2+1,o2++[endRule k2]⟩ ?_ ?_
   ·(repeat' ((conv=>whnf) <;> (first | exact trivial | exact rfl | with_reducible refine And.intro ?_ ?_))) <;> ((conv=>whnf) <;> ((simp [endRule] <;> rfl)))
   exact⟨by omega,by simp;omega,by rw [ho2,List.range_succ,List.map_append,List.append_assoc];rfl⟩
  ·exfalso;omega
 (repeat' ((conv=>whnf);first | (exfalso;omega) | refine gA ?_ | (refine gN ?_ ?_ <;> intro h hw) | (refine gB ?_ ?_ <;> intro h) | (refine gI ?_;intro x hx) | (refine gJ ?_;intro j x hj hx) | refine gP ?_ | refine gV ?_ | intro _)) <;> try (conv=>whnf)
 rw [show k2=p.acts.length by omega] at ho2 ol2
 clear hlt hk2
 refine loopF [2,3,49] [2,3] [22] ?_
 (conv=>whnf)
 refine LoopC.go ((Nat)×(List Rul)) (fun⟨k3,o3⟩=>(k3≤p.stocks.length)∧(o3.length≤18+k3)∧(o3=o2++(List.range k3).map stockRule)) (fun⟨k3,o3⟩=>[(50,.data (i64 k3)),(5,.own 22 0)]) (fun _=>[]) (fun⟨k3,o3⟩=>[(22,187,o3.map Rul.av,0)]) (fun⟨k3,o3⟩=>p.stocks.length - k3) ⟨0,o2⟩ ?_ ?_
 ·exact⟨Nat.zero_le _,by omega,by simp⟩
 rintro⟨k3,o3⟩ ⟨hk3,ol3,ho3⟩
 by_cases hlt:k3 < p.stocks.length
 ·(repeat' ((conv=>whnf);first | refine gA ?_ | (refine gN ?_ ?_ <;> intro h hw) | (refine gB ?_ ?_ <;> intro h) | (refine gI ?_;intro x hx) | (refine gJ ?_;intro j x hj hx) | refine gP ?_ | refine gV ?_ | intro _)) <;> try (conv=>whnf)
  ·refine nw ⟨k3+1,o3++[stockRule k3]⟩ ?_ ?_
   ·(repeat' ((conv=>whnf) <;> (first | exact trivial | exact rfl | with_reducible refine And.intro ?_ ?_))) <;> ((conv=>whnf) <;> ((simp [stockRule] <;> rfl)))
   exact⟨by omega,by simp;omega,by rw [ho3,List.range_succ,List.map_append,List.append_assoc];rfl⟩
  ·exfalso;omega
 (repeat' ((conv=>whnf);first | (exfalso;omega) | refine gA ?_ | (refine gN ?_ ?_ <;> intro h hw) | (refine gB ?_ ?_ <;> intro h) | (refine gI ?_;intro x hx) | (refine gJ ?_;intro j x hj hx) | refine gP ?_ | refine gV ?_ | refine gC (spec_SetOf b.hi) ?_ | refine gC (spec_Intervals p b hp) ?_ | intro _)) <;> try (conv=>whnf)
 have h0:o3=plainRules p:=by rw [ho3,ho2,ho,show k3=p.stocks.length by omega];rfl
 clear ho ho2 ho3 ol ol2 ol3 hlt hk3
 subst h0
 have hsh:=setOf_len b.hi
 refine loopF [2,9,10,67] [2] [22] ?_
 (conv=>whnf)
 refine LoopC.go ((Nat)×(List Rul)) (fun⟨i,o⟩=>(i≤p.ress.length)∧(o.length≤20+50*i)∧(o=plainRules p++(List.range i).flatMap (resRules p b))) (fun⟨i,o⟩=>[(68,.data (i64 i)),(5,.own 22 0)]) (fun _=>[]) (fun⟨i,o⟩=>[(22,187,o.map Rul.av,0)]) (fun⟨i,o⟩=>p.ress.length - i) ⟨0,plainRules p⟩ ?_ ?_
 ·exact⟨Nat.zero_le _,by omega,by simp⟩
 rintro⟨i,o⟩ ⟨hi,ol,ho⟩
 by_cases hil:i < p.ress.length
 ·obtain⟨x,hx⟩:∃x,p.ress[i]? =some x:=⟨p.ress[i]'hil,by simp⟩
  have hst:=steps_few hpo hx
  (repeat' ((conv=>whnf);first | with_reducible refine Idx.got hx rfl ?_ | refine gA ?_ | (refine gN ?_ ?_ <;> intro h hw) | (refine gB ?_ ?_ <;> intro h) | (refine gI ?_;intro x hx) | (refine gJ ?_;intro j x hj hx) | refine gP ?_ | refine gV ?_ | intro _)) <;> try (conv=>whnf)
  rotate_left
  ·exfalso;omega
  refine loopF [2,5,9,10,11,67,68,77,78] [2] [] ?_
  (conv=>whnf)
  refine LoopC.mk ((Nat)) (fun j=>(j≤x.steps.length)) (fun j=>[(79,.data (i64 j)),(12,.data (ints (setOf (b.hi++(x.steps.take j).map Step.at'))))]) (fun _=>[]) (fun _=>[]) (fun j=>x.steps.length - j) (0) ?_ ?_ ?_
  rotate_left
  ·(repeat' ((conv=>whnf) <;> (first | exact trivial | exact rfl | with_reducible refine And.intro ?_ ?_))) <;> ((conv=>whnf) <;> (simp))
  rotate_left
  ·exact Nat.zero_le _
  rintro j hj
  have hsj:=setOf_len (b.hi++(x.steps.take j).map Step.at')
  simp only [List.length_append,List.length_map,List.length_take] at hsj
  by_cases hjl:j < x.steps.length
  ·obtain⟨s,hs⟩:∃s,x.steps[j]? =some s:=⟨x.steps[j]'hjl,by simp⟩
   have hs1:(setOf (b.hi++(x.steps.take j).map Step.at')).length < lim:=by unfold lim;omega
   (repeat' ((conv=>whnf);first | with_reducible refine Idx.got hs rfl ?_ | with_reducible refine Idx.got hx rfl ?_ | refine gA ?_ | (refine gN ?_ ?_ <;> intro h hw) | (refine gB ?_ ?_ <;> intro h) | (refine gI ?_;intro x hx) | (refine gJ ?_;intro j x hj hx) | refine gP ?_ | refine gV ?_ | refine gC (spec_SetAdd _ s.at' hs1) ?_ | intro _)) <;> try (conv=>whnf)
   ·refine nw (j+1) ?_ ?_
    ·(repeat' ((conv=>whnf) <;> (first | exact trivial | exact rfl | with_reducible refine And.intro ?_ ?_))) <;> ((conv=>whnf) <;> ((rw [setOf_more,map_snoc Step.at' hs,List.append_assoc])))
    exact (by omega:j+1≤x.steps.length)
   ·exfalso;omega
  (repeat' ((conv=>whnf);first | (exfalso;omega) | refine gA ?_ | (refine gN ?_ ?_ <;> intro h hw) | (refine gB ?_ ?_ <;> intro h) | (refine gI ?_;intro x hx) | (refine gJ ?_;intro j x hj hx) | refine gP ?_ | refine gV ?_ | intro _)) <;> try (conv=>whnf)
  rw [List.take_of_length_le (by omega)] at hsj
  rw [List.take_of_length_le (by omega)]
  obtain⟨t,ht⟩:∃t,t=setOf (b.hi++x.steps.map Step.at'):=⟨_,rfl⟩
  rw [← ht] at hsj
  rw [← ht]
  refine loopF [2,9,10,11,67,68,88,89] [2] [22] ?_
  (conv=>whnf)
  refine LoopC.go ((Nat)×(List Rul)) (fun⟨m,o3⟩=>(m≤t.length)∧(o3.length≤20+50*i+m)∧(o3=o++((t.take m).filter isTime).map (tRule i))) (fun⟨m,o3⟩=>[(90,.data (i64 m)),(5,.own 22 0)]) (fun _=>[]) (fun⟨m,o3⟩=>[(22,187,o3.map Rul.av,0)]) (fun⟨m,o3⟩=>t.length - m) ⟨0,o⟩ ?_ ?_
  ·exact⟨Nat.zero_le _,by omega,by simp⟩
  rintro⟨m,o3⟩ ⟨hm,ol3,ho3⟩
  by_cases hml:m < t.length
  ·obtain⟨v,hv⟩:∃v,t[m]? =some v:=⟨t[m]'hml,by simp⟩
   (repeat' ((conv=>whnf);first | with_reducible refine Idx.got hv rfl ?_ | refine gA ?_ | (refine gN ?_ ?_ <;> intro h hw) | (refine gB ?_ ?_ <;> intro h) | (refine gI ?_;intro x hx) | (refine gJ ?_;intro j x hj hx) | refine gP ?_ | refine gV ?_ | refine gC (spec_in v _ _) ?_ | intro _)) <;> try (conv=>whnf)
   ·refine nw ⟨m+1,o3++[tRule i v]⟩ ?_ ?_
    ·(repeat' ((conv=>whnf) <;> (first | exact trivial | exact rfl | with_reducible refine And.intro ?_ ?_))) <;> ((conv=>whnf) <;> ((simp [tRule];try rfl)))
    exact⟨by omega,by simp;omega,(filt_step ho3 hv).1 (by assumption)⟩
   ·refine nx ⟨m+1,o3⟩ ?_
    exact⟨by omega,by omega,(filt_step ho3 hv).2 (by assumption)⟩
   ·exfalso;omega
  (repeat' ((conv=>whnf);first | (exfalso;omega) | refine gA ?_ | (refine gN ?_ ?_ <;> intro h hw) | (refine gB ?_ ?_ <;> intro h) | (refine gI ?_;intro x hx) | (refine gJ ?_;intro j x hj hx) | refine gP ?_ | refine gV ?_ | intro _)) <;> try (conv=>whnf)
  have ho3':o3=o++(timesAt b x).map (tRule i):=by rw [ho3,List.take_of_length_le (by omega),timesAt,ht]
  have ol3':o3.length≤20+50*i+14:=by omega
  clear ho3 ol3 hml hm
  refine loopF [2,9,10,11,67,68,103,104] [2] [22] ?_
  (conv=>whnf)
  refine LoopC.go ((Nat)×(List Rul)) (fun⟨n,o4⟩=>(n≤(intervals p b).length)∧(o4.length≤34+50*i+n)∧(o4=o3++((intervals p b).take n).map (wRule i))) (fun⟨n,o4⟩=>[(105,.data (i64 n)),(5,.own 22 0)]) (fun _=>[]) (fun⟨n,o4⟩=>[(22,187,o4.map Rul.av,0)]) (fun⟨n,o4⟩=>(intervals p b).length - n) ⟨0,o3⟩ ?_ ?_
  ·exact⟨Nat.zero_le _,by omega,by simp⟩
  rintro⟨n,o4⟩ ⟨hn,ol4,ho4⟩
  by_cases hnl:n < (intervals p b).length
  ·obtain⟨q2,hq2⟩:∃q2,(intervals p b)[n]? =some q2:=⟨(intervals p b)[n]'hnl,by simp⟩
   obtain⟨u,v,rfl,_⟩:=intervals_two (List.mem_of_getElem? hq2)
   (repeat' ((conv=>whnf);first | with_reducible refine Idx.got hq2 rfl ?_ | with_reducible refine Idx.got (l:=[u,v]) (k:=0) rfl rfl ?_ | with_reducible refine Idx.got (l:=[u,v]) (k:=1) rfl rfl ?_ | refine gA ?_ | (refine gN ?_ ?_ <;> intro h hw) | (refine gB ?_ ?_ <;> intro h) | (refine gI ?_;intro x hx) | (refine gJ ?_;intro j x hj hx) | refine gP ?_ | refine gV ?_ | intro _)) <;> try (conv=>whnf)
   ·refine nw ⟨n+1,o4++[wRule i [u,v]]⟩ ?_ ?_
    ·(repeat' ((conv=>whnf) <;> (first | exact trivial | exact rfl | with_reducible refine And.intro ?_ ?_))) <;> ((conv=>whnf) <;> ((simp [wRule];try rfl)))
    exact⟨by omega,by simp;omega,by rw [ho4,map_snoc _ hq2,List.append_assoc]⟩
   all_goals (first | (exfalso;omega) | exact trivial)
  ·(repeat' ((conv=>whnf);first | (exfalso;omega) | refine gA ?_ | (refine gN ?_ ?_ <;> intro h hw) | (refine gB ?_ ?_ <;> intro h) | (refine gI ?_;intro x hx) | (refine gJ ?_;intro j x hj hx) | refine gP ?_ | refine gV ?_ | intro _)) <;> try (conv=>whnf)
   refine nx ⟨i+1,o4⟩ ?_
   refine⟨by omega,by omega,?_⟩
   rw [ho4,ho3',ho,List.take_of_length_le (by omega),range_flat,resRules_eq hx];simp
 (repeat' ((conv=>whnf);first | (exfalso;omega) | refine gA ?_ | (refine gN ?_ ?_ <;> intro h hw) | (refine gB ?_ ?_ <;> intro h) | (refine gI ?_;intro x hx) | (refine gJ ?_;intro j x hj hx) | refine gP ?_ | refine gV ?_ | intro _)) <;> try (conv=>whnf)
 rw [show i=p.ress.length by omega] at ho ol
 clear hil hi
 refine loopF [2,124] [2] [22] ?_
 (conv=>whnf)
 refine LoopC.go ((Nat)×(List Rul)) (fun⟨r5,o5⟩=>(r5≤p.ress.length)∧(o5.length≤201+36*r5)∧(o5=o++(List.range r5).flatMap (fun r=>(List.range p.acts.length).flatMap (pairsOf p r)))) (fun⟨r5,o5⟩=>[(125,.data (i64 r5)),(5,.own 22 0)]) (fun _=>[]) (fun⟨r5,o5⟩=>[(22,187,o5.map Rul.av,0)]) (fun⟨r5,o5⟩=>p.ress.length - r5) ⟨0,o⟩ ?_ ?_
 ·exact⟨by omega,by omega,by simp⟩
 rintro⟨r5,o5⟩ ⟨hk5,ol5,ho5⟩
 by_cases hlt:r5 < p.ress.length
 ·(repeat' ((conv=>whnf);first | (exfalso;omega) | refine gA ?_ | (refine gN ?_ ?_ <;> intro h hw) | (refine gB ?_ ?_ <;> intro h) | (refine gI ?_;intro x hx) | (refine gJ ?_;intro j x hj hx) | refine gP ?_ | refine gV ?_ | intro _)) <;> try (conv=>whnf)
  refine loopF [2,19,124,125,130] [2] [22] ?_
  (conv=>whnf)
  refine LoopC.go ((Nat)×(List Rul)) (fun⟨a,o6⟩=>(a≤p.acts.length)∧(o6.length≤201+36*r5+6*a)∧(o6=o5++(List.range a).flatMap (pairsOf p r5))) (fun⟨a,o6⟩=>[(131,.data (i64 a)),(5,.own 22 0)]) (fun _=>[]) (fun⟨a,o6⟩=>[(22,187,o6.map Rul.av,0)]) (fun⟨a,o6⟩=>p.acts.length - a) ⟨0,o5⟩ ?_ ?_
  ·exact⟨by omega,by omega,by simp⟩
  rintro⟨a,o6⟩ ⟨hk6,ol6,ho6⟩
  by_cases hltb:a < p.acts.length
  ·(repeat' ((conv=>whnf);first | (exfalso;omega) | refine gA ?_ | (refine gN ?_ ?_ <;> intro h hw) | (refine gB ?_ ?_ <;> intro h) | (refine gI ?_;intro x hx) | (refine gJ ?_;intro j x hj hx) | refine gP ?_ | refine gV ?_ | intro _)) <;> try (conv=>whnf)
   refine loopF [2,19,20,124,125,130,131] [2] [22] ?_
   (conv=>whnf)
   refine LoopC.go ((Nat)×(Int)×(List Rul)) (fun⟨j,c,o7⟩=>(c=a+1+j)∧(a+1+j≤p.acts.length)∧(isMach p r5=false→j=0)∧(o7.length≤o6.length+j)∧(o7=o6++(List.range j).map (fun i=>pairRule r5 a (a+1+i)))) (fun⟨j,c,o7⟩=>[(21,.data (i64 c)),(5,.own 22 0)]) (fun _=>[]) (fun⟨j,c,o7⟩=>[(22,187,o7.map Rul.av,0)]) (fun⟨j,c,o7⟩=>p.acts.length - j) ⟨0,(a:Int)+1,o6⟩ ?_ ?_
   ·exact⟨by omega,by omega,fun _=>rfl,by omega,by simp⟩
   rintro⟨j,c,o7⟩ ⟨hc,hj,hz,ol7,ho7⟩
   cases hm:isMach p r5 with
   | true=>
    (repeat' ((conv=>whnf);first | refine gA ?_ | (refine gN ?_ ?_ <;> intro h hw) | (refine gB ?_ ?_ <;> intro h) | (refine gI ?_;intro x hx) | (refine gJ ?_;intro j x hj hx) | refine gP ?_ | refine gV ?_ | refine gC (spec_IsMachine p _) ?_ | intro _)) <;> try (conv=>whnf)
    ·refine nw ⟨j+1,c+1,o7++[pairRule r5 a (a+1+j)]⟩ ?_ ?_
     ·(repeat' ((conv=>whnf) <;> (first | exact trivial | exact rfl | with_reducible refine And.intro ?_ ?_))) <;> ((conv=>whnf) <;> ((subst hc;simp [pairRule,Int.natCast_add];try rfl)))
     exact⟨by omega,by omega,(fun e=>by cases e),(by simp;omega),by rw [ho7,List.range_succ,List.map_append,List.append_assoc];rfl⟩
    ·refine nx ⟨a+1,o7⟩ ?_
     refine⟨by omega,by omega,?_⟩
     rw [ho7,ho6,List.range_succ,List.flatMap_append,List.append_assoc,show j=p.acts.length - (a+1) by omega]
     simp [pairsOf,hm]
   | false=>
    have hj0:=hz hm
    subst hj0
    (repeat' ((conv=>whnf);first | refine gA ?_ | (refine gN ?_ ?_ <;> intro h hw) | (refine gB ?_ ?_ <;> intro h) | (refine gI ?_;intro x hx) | (refine gJ ?_;intro j x hj hx) | refine gP ?_ | refine gV ?_ | refine gC (spec_IsMachine p _) ?_ | intro _)) <;> try (conv=>whnf)
    all_goals
     refine nx ⟨a+1,o7⟩ ?_
     refine⟨by omega,by omega,?_⟩
     rw [ho7,ho6,List.range_succ,List.flatMap_append,List.append_assoc]
     simp [pairsOf,hm]
  ·(repeat' ((conv=>whnf);first | (exfalso;omega) | refine gA ?_ | (refine gN ?_ ?_ <;> intro h hw) | (refine gB ?_ ?_ <;> intro h) | (refine gI ?_;intro x hx) | (refine gJ ?_;intro j x hj hx) | refine gP ?_ | refine gV ?_ | intro _)) <;> try (conv=>whnf)
   refine nx ⟨r5+1,o6⟩ ?_
   refine⟨by omega,by omega,?_⟩
   rw [ho6,ho5,List.range_succ,List.flatMap_append,List.append_assoc,show a=p.acts.length by omega]
   simp
 (repeat' ((conv=>whnf);first | (exfalso;omega) | refine gA ?_ | (refine gN ?_ ?_ <;> intro h hw) | (refine gB ?_ ?_ <;> intro h) | (refine gI ?_;intro x hx) | (refine gJ ?_;intro j x hj hx) | refine gP ?_ | refine gV ?_ | intro _)) <;> try (conv=>whnf)
 refine⟨?_,rfl,trivial⟩
 rw [candAll,ho5,ho,show r5=p.ress.length by omega];rfl
end Go.Proofs.YtfhojdalheinaaaGreat.Abs
