/- Contracts: intervals; the rules that may refute. No statement of a claim. -/
import Derived.Test.YtepogmnolnlpmaaGreatC27
import Derived.Test.YtepogmnolnlpmaaGreatC20a
set_option linter.all false
set_option linter.unusedVariables false
set_option linter.unusedSimpArgs false
set_option maxRecDepth 20000
set_option maxHeartbeats 4000000
namespace Go.Proofs.YtepogmnolnlpmaaGreat.Abs
open Go.Proofs
def mrun:Bool→Int→List Int→Int
 | _,n,[]=>n
 | b,n,x::r=>mrun false (if b=true∨x > n then x else n) r
def maxDur (a:Activ) (ms:List Int):Int:=mrun true 0 ((chosen a ms).map Mode.dur)
theorem mrun_bound {c:Int}:∀(l:List Int) (b:Bool) (n:Int),(0≤n∧n≤c)→(∀x∈l,0≤x∧x≤c)→0≤mrun b n l∧mrun b n l≤c
 | [],_,n,h,_=>h
 | x::r,b,n,h,h'=>by
  rw [mrun]
  refine mrun_bound r false _ ?_ fun y hy=>h' y (by simp [hy])
  split
  ·exact h' x (by simp)
  ·exact h
theorem maxDur_bound {a:Activ} {r s:Int} (h:activOk a r s=true) (ms:List Int):0≤maxDur a ms∧maxDur a ms≤12:=by
 refine mrun_bound _ _ _ (by omega) fun x hx=>?_
 obtain⟨m,hm,rfl⟩:=List.mem_map.1 hx
 have:=(activ_mode h (chosen_sub hm)).1
 omega
theorem impl_MaxDuration (a:Activ) (ms:List Int):Con 336 [.d a.av,.d (ints ms)] (.d (i64 (maxDur a ms))):=by
 refine con Tryz.func336 rfl rfl Tryz.call336 rfl fun hwf=>?_
 simp only [ARs.wf,AR.wf,AV.wf,AV.wfs,List.length_map,lim] at hwf
 have hl:=chosen_len a ms
 (repeat' ((conv=>whnf);first | refine gA ?_ | ((with_reducible first | refine gD (fun h=>?_) (fun h=>?_) | refine gE (fun h=>?_) (fun h=>?_)) <;> (try simp only [lm] at h) <;> try have hw:=wn h) | with_reducible refine gI (fun x hx=>?_) | with_reducible refine gJ (fun j x hj hx=>?_) | refine gV ?_ | refine gC (impl_chosen a ms) ?_ | intro _)) <;> (try (conv=>whnf))
 refine loopF [10,11] [] [] ?_
 (conv=>whnf)
 refine LoopC.go ((Nat)×(Int)) (fun⟨k,n⟩=>(k≤(chosen a ms).length)∧(mrun (decide ((k:Int)=0)) n (((chosen a ms).drop k).map Mode.dur)=maxDur a ms)) (fun⟨k,n⟩=>[(12,.data (i64 k)),(5,.data (i64 n))]) (fun _=>[]) (fun _=>[]) (fun⟨k,n⟩=>(chosen a ms).length - k) ⟨0,0⟩ ?_ ?_
 ·exact⟨by omega,rfl⟩
 rintro⟨k,n⟩ ⟨hk,hi⟩
 (repeat' ((conv=>whnf);first | refine gA ?_ | ((with_reducible first | refine gD (fun h=>?_) (fun h=>?_) | refine gE (fun h=>?_) (fun h=>?_)) <;> (try simp only [lm] at h) <;> try have hw:=wn h) | with_reducible refine gI (fun x hx=>?_) | with_reducible refine gJ (fun j x hj hx=>?_) | refine gV ?_ | intro _)) <;> (try (conv=>whnf))
 ·refine nx ⟨k+1,x.dur⟩ ?_
  rw [drop_get hx,List.map_cons,mrun,if_pos (.inl (by simp [h]))] at hi
  exact⟨by omega,by rw [decide_eq_false (show ¬((k+1:Nat):Int)=0 by omega)];exact hi⟩
 ·refine nx ⟨k+1,x.dur⟩ ?_
  rw [drop_get hx,List.map_cons,mrun,if_pos (.inr h)] at hi
  exact⟨by omega,by rw [decide_eq_false (show ¬((k+1:Nat):Int)=0 by omega)];exact hi⟩
 ·refine nx ⟨k+1,n⟩ ?_
  rw [drop_get hx,List.map_cons,mrun,if_neg (by rw [decide_eq_true_eq];omega)] at hi
  exact⟨by omega,by rw [decide_eq_false (show ¬((k+1:Nat):Int)=0 by omega)];exact hi⟩
 ·refine⟨?_,rfl,trivial⟩
  rw [← hi,drop_end' (by assumption)];rfl
theorem spec_MaxDuration (a:Activ) (ms:List Int):Con 334 [.d a.av,.d (ints ms)] (.d (i64 (maxDur a ms))):=by
 refine con Tryz.func334 rfl rfl Tryz.call334 rfl fun hwf=>?_
 simp only [ARs.wf,AR.wf,AV.wf,AV.wfs,List.length_map,lim] at hwf
 (repeat' ((conv=>whnf);first | refine gA ?_ | ((with_reducible first | refine gD (fun h=>?_) (fun h=>?_) | refine gE (fun h=>?_) (fun h=>?_)) <;> (try simp only [lm] at h) <;> try have hw:=wn h) | with_reducible refine gI (fun x hx=>?_) | with_reducible refine gJ (fun j x hj hx=>?_) | refine gV ?_ | intro _)) <;> (try (conv=>whnf))
 refine loopF [1,10,11] [] [] ?_
 (conv=>whnf)
 refine LoopC.go ((Nat)×(Int)×(Bool)) (fun⟨k,n,b⟩=>(k≤a.modes.length)∧(mrun (!b) n ((chosenFrom ms (a.modes.drop k) k).map Mode.dur)=maxDur a ms)) (fun⟨k,n,b⟩=>[(12,.data (i64 k)),(5,.data (i64 n)),(6,.data (.bool b))]) (fun _=>[]) (fun _=>[]) (fun⟨k,n,b⟩=>a.modes.length - k) ⟨0,0,false⟩ ?_ ?_
 ·exact⟨by omega,rfl⟩
 rintro⟨k,n,b⟩ ⟨hk,hi⟩
 (repeat' ((conv=>whnf);first | refine gA ?_ | ((with_reducible first | refine gD (fun h=>?_) (fun h=>?_) | refine gE (fun h=>?_) (fun h=>?_)) <;> (try simp only [lm] at h) <;> try have hw:=wn h) | with_reducible refine gI (fun x hx=>?_) | with_reducible refine gJ (fun j x hj hx=>?_) | refine gV ?_ | refine gC (spec_SetHas ms _) ?_ | intro _)) <;> (try (conv=>whnf))
 all_goals first
  | (refine⟨?_,rfl,trivial⟩;rw [← hi,drop_end' (by assumption)];rfl)
  | (refine nx ⟨k+1,x.dur,true⟩ ?_
     refine⟨by omega,?_⟩
     rw [drop_get hx,chosenFrom,if_pos (by assumption),List.map_cons,mrun,if_pos (by simp [*])] at hi
     exact hi)
  | (refine nx ⟨k+1,n,b⟩ ?_
     refine⟨by omega,?_⟩
     rw [drop_get hx,chosenFrom,if_neg (Bool.eq_false_iff.1 (by assumption))] at hi
     exact hi)
  | (refine nx ⟨k+1,n,b⟩ ?_
     refine⟨by omega,?_⟩
     rw [drop_get hx,chosenFrom,if_pos (by assumption),List.map_cons,mrun,if_neg (by simp [*])] at hi
     rw [← hi];simp [*])
def endOfA (p:Proj) (b:Dom) (i:Nat):Int:=b.hi.getD i 0+maxDur (actOf p i) (b.modes.getD i [])
def endsN (p:Proj) (b:Dom) (k:Nat):List Int:=(List.range k).map (endOfA p b)
abbrev ivEnds (p:Proj) (b:Dom):List Int:=setOf (endsN p b p.acts.length)
def okIv (x y:Int):Bool:=isTime x&&isTime y&&decide (x < y)
def ivRow (p:Proj) (b:Dom) (x:Int):List (List Int):=((ivEnds p b).filter (okIv x)).map fun y=>[x,y]
def intervals (p:Proj) (b:Dom):List (List Int):=if usable p b=true then (setOf b.lo).flatMap (ivRow p b) else []
theorem endOfA_eq {p:Proj} {b:Dom} {k:Nat} {a:Activ} {x y:Int} {m:List Int} (g:DomGet p b k a x y m):endOfA p b k=y+maxDur a m:=by
 simp [endOfA,actOf,List.getD_eq_getElem?_getD,g.act,g.hi,g.modes]
theorem endsN_succ (p:Proj) (b:Dom) (k:Nat):endsN p b (k+1)=endsN p b k++[endOfA p b k]:=by simp [endsN,List.range_succ]
theorem endsN_len (p:Proj) (b:Dom) (k:Nat):(endsN p b k).length=k:=by simp [endsN]
theorem flat_step {α β:Type} {f:α→List β} {l:List α} {k:Nat} {x:α} {o:List β} (ho:o=(l.take k).flatMap f) (h:l[k]? =some x):o++f x=(l.take (k+1)).flatMap f:=by
 obtain⟨hk,rfl⟩:=List.getElem?_eq_some_iff.1 h
 rw [ho,List.take_succ_eq_append_getElem hk,List.flatMap_append];simp
theorem filt_step {α β:Type} {f:α→Bool} {g:α→β} {l:List α} {k:Nat} {x:α} {q o:List β} (ho:o=q++((l.take k).filter f).map g) (h:l[k]? =some x):
  (f x=true→o++[g x]=q++((l.take (k+1)).filter f).map g)∧(f x=false→o=q++((l.take (k+1)).filter f).map g):=by
 obtain⟨hk,rfl⟩:=List.getElem?_eq_some_iff.1 h
 rw [List.take_succ_eq_append_getElem hk,List.filter_append]
 exact⟨fun hf=>by rw [ho];simp [hf],fun hf=>by rw [ho];simp [hf]⟩
theorem usable_parts {p:Proj} {b:Dom} (h:usable p b=true):domForm p b=true∧domEmpty b=false:=by simpa [usable] using h
theorem spec_l14Ok (p:Proj) (b:Dom) (hp:p.fine):Con 77 [.d p.av,.d b.av] (.d (.bool (usable p b))):=by
 refine con Tryz.func77 rfl rfl Tryz.call77 rfl fun hwf=>?_
 (repeat' ((conv=>whnf);first | refine gA ?_ | ((with_reducible first | refine gD (fun h=>?_) (fun h=>?_) | refine gE (fun h=>?_) (fun h=>?_)) <;> (try simp only [lm] at h) <;> try have hw:=wn h) | refine gC (spec_DomainForm p b hp) ?_ | refine gC (spec_DomainEmpty b) ?_ | intro _)) <;> (try (conv=>whnf))
 all_goals refine⟨?_,rfl,trivial⟩
 all_goals simp [usable, *]
theorem impl_Intervals (p:Proj) (b:Dom) (hp:p.fine):Con 269 [.d p.av,.d b.av] (.d (.sl ((intervals p b).map ints))):=by
 refine con Tryz.func269 rfl rfl Tryz.call269 rfl fun hwf=>?_
 simp only [ARs.wf,AR.wf,AV.wf,AV.wfs,List.length_map,lim] at hwf
 cases hu:usable p b with
 | false=>
  (repeat' ((conv=>whnf);first | refine gA ?_ | ((with_reducible first | refine gD (fun h=>?_) (fun h=>?_) | refine gE (fun h=>?_) (fun h=>?_)) <;> (try simp only [lm] at h) <;> try have hw:=wn h) | with_reducible refine gI (fun x hx=>?_) | with_reducible refine gJ (fun j x hj hx=>?_) | refine gP ?_ | refine gV ?_ | refine gC (impl_isUsable p b hp) ?_ | intro _)) <;> (try (conv=>whnf))
  refine⟨?_,rfl,trivial⟩;rw [intervals,if_neg (by rw [hu];exact Bool.false_ne_true)];rfl
 | true=>
  rw [intervals,if_pos hu]
  have hf:=(usable_parts hu).1
  obtain⟨hpo,l1,l2,l3,_⟩:=domForm_parts hf
  have hna:=(projForm hpo).nact
  have hel:=endsN_len p b
  have hsl:=setOf_len b.lo
  have hse:(setOf (endsN p b p.acts.length)).length≤p.acts.length:=by have:=setOf_len (endsN p b p.acts.length);rw [hel] at this;exact this
  (repeat' ((conv=>whnf);first | refine gA ?_ | ((with_reducible first | refine gD (fun h=>?_) (fun h=>?_) | refine gE (fun h=>?_) (fun h=>?_)) <;> (try simp only [lm] at h) <;> try have hw:=wn h) | with_reducible refine gI (fun x hx=>?_) | with_reducible refine gJ (fun j x hj hx=>?_) | refine gP ?_ | refine gV ?_ | refine gC (impl_isUsable p b hp) ?_ | intro _)) <;> (try (conv=>whnf))
  refine loopF [3,6,20,21] [3] [17] ?_
  (conv=>whnf)
  refine LoopC.go ((Nat)) (fun k=>(k≤p.acts.length)) (fun k=>[(22,.data (i64 k)),(5,.own 17 0)]) (fun _=>[]) (fun k=>[(17,3,(endsN p b k).map i64,0)]) (fun k=>p.acts.length - k) (0) ?_ ?_
  ·exact Nat.zero_le _
  rintro k hk
  have hek:=hel k
  by_cases hlt:k < p.acts.length
  ·obtain⟨a,lo,up,m,g⟩:=dom_get hf hlt
   have h1:=g.hib
   have h2:=maxDur_bound g.aok m
   (repeat' ((conv=>whnf);first | with_reducible refine Idx.got g.act rfl ?_ | with_reducible refine Idx.got g.hi rfl ?_ | with_reducible refine Idx.got g.modes rfl ?_ | refine gA ?_ | ((with_reducible first | refine gD (fun h=>?_) (fun h=>?_) | refine gE (fun h=>?_) (fun h=>?_)) <;> (try simp only [lm] at h) <;> try have hw:=wn h) | with_reducible refine gI (fun x hx=>?_) | with_reducible refine gJ (fun j x hj hx=>?_) | refine gP ?_ | refine gV ?_ | refine gC (impl_MaxDuration a m) ?_ | intro _)) <;> (try (conv=>whnf))
   ·refine nw (k+1) ?_ ?_
    ·(repeat' ((conv=>whnf) <;> (first | exact trivial | exact rfl | with_reducible refine And.intro ?_ ?_))) <;> ((conv=>whnf) <;> ((rw [endsN_succ,endOfA_eq g];simp)))
    exact (by omega:k+1≤p.acts.length)
   ·exfalso;omega
  (repeat' ((conv=>whnf);first | (exfalso;omega) | refine gA ?_ | ((with_reducible first | refine gD (fun h=>?_) (fun h=>?_) | refine gE (fun h=>?_) (fun h=>?_)) <;> (try simp only [lm] at h) <;> try have hw:=wn h) | with_reducible refine gI (fun x hx=>?_) | with_reducible refine gJ (fun j x hj hx=>?_) | refine gP ?_ | refine gV ?_ | refine gC (impl_SetOf b.lo) ?_ | intro _)) <;> (try (conv=>whnf))
  rw [show k=p.acts.length by omega]
  refine loopF [46,47] [] [18] ?_
  (conv=>whnf)
  refine LoopC.go ((Nat)×(List (List Int))) (fun⟨i,o⟩=>(i≤(setOf b.lo).length)∧(o.length≤6*i)∧(o=((setOf b.lo).take i).flatMap (ivRow p b))) (fun⟨i,o⟩=>[(48,.data (i64 i)),(5,.data (ints (endsN p b p.acts.length))),(6,.own 18 0)]) (fun _=>[]) (fun⟨i,o⟩=>[(18,25,o.map ints,0)]) (fun⟨i,o⟩=>(setOf b.lo).length - i) ⟨0,[]⟩ ?_ ?_
  ·exact⟨Nat.zero_le _,by simp,by simp⟩
  rintro⟨i,o⟩ ⟨hi,ol,ho⟩
  by_cases hil:i < (setOf b.lo).length
  rotate_left
  ·(repeat' ((conv=>whnf);first | (exfalso;omega) | refine gA ?_ | ((with_reducible first | refine gD (fun h=>?_) (fun h=>?_) | refine gE (fun h=>?_) (fun h=>?_)) <;> (try simp only [lm] at h) <;> try have hw:=wn h) | with_reducible refine gI (fun x hx=>?_) | with_reducible refine gJ (fun j x hj hx=>?_) | refine gP ?_ | refine gV ?_ | intro _)) <;> (try (conv=>whnf))
   refine⟨?_,rfl,trivial⟩
   rw [ho,List.take_of_length_le (by omega)]
  obtain⟨x0,hx0⟩:∃x0,(setOf b.lo)[i]? =some x0:=⟨(setOf b.lo)[i]'hil,by simp⟩
  (repeat' ((conv=>whnf);first | with_reducible refine Idx.got hx0 rfl ?_ | refine gA ?_ | ((with_reducible first | refine gD (fun h=>?_) (fun h=>?_) | refine gE (fun h=>?_) (fun h=>?_)) <;> (try simp only [lm] at h) <;> try have hw:=wn h) | with_reducible refine gI (fun x hx=>?_) | with_reducible refine gJ (fun j x hj hx=>?_) | refine gP ?_ | refine gV ?_ | refine gC (impl_SetOf (endsN p b p.acts.length)) ?_ | intro _)) <;> (try (conv=>whnf))
  rotate_left
  ·exact trivial
  refine loopF [5,10,46,47,48,53,54] [] [18] ?_
  (conv=>whnf)
  refine LoopC.go ((Nat)×(List (List Int))) (fun⟨j,o2⟩=>(j≤(setOf (endsN p b p.acts.length)).length)∧(o2.length≤6*i+j)∧(o2=o++(((setOf (endsN p b p.acts.length)).take j).filter (okIv x0)).map (fun y=>[x0,y]))) (fun⟨j,o2⟩=>[(55,.data (i64 j)),(6,.own 18 0)]) (fun _=>[]) (fun⟨j,o2⟩=>[(18,25,o2.map ints,0)]) (fun⟨j,o2⟩=>(setOf (endsN p b p.acts.length)).length - j) ⟨0,o⟩ ?_ ?_
  ·exact⟨Nat.zero_le _,by omega,by simp⟩
  rintro⟨j,o2⟩ ⟨hj,ol2,ho2⟩
  by_cases hjl:j < (setOf (endsN p b p.acts.length)).length
  ·obtain⟨y0,hy0⟩:∃y0,(setOf (endsN p b p.acts.length))[j]? =some y0:=⟨(setOf (endsN p b p.acts.length))[j]'hjl,by simp⟩
   (repeat' ((conv=>whnf);first | with_reducible refine Idx.got hy0 rfl ?_ | refine gA ?_ | ((with_reducible first | refine gD (fun h=>?_) (fun h=>?_) | refine gE (fun h=>?_) (fun h=>?_)) <;> (try simp only [lm] at h) <;> try have hw:=wn h) | with_reducible refine gI (fun x hx=>?_) | with_reducible refine gJ (fun j x hj hx=>?_) | refine gP ?_ | refine gV ?_ | refine gC (impl_isTime _) ?_ | intro _)) <;> (try (conv=>whnf))
   ·refine nw ⟨j+1,o2++[[x0,y0]]⟩ ?_ ?_
    ·(repeat' ((conv=>whnf) <;> (first | exact trivial | exact rfl | with_reducible refine And.intro ?_ ?_))) <;> ((conv=>whnf) <;> (simp))
    exact⟨by omega,by simp;omega,(filt_step ho2 hy0).1 (by simp [okIv, *])⟩
   ·refine nx ⟨j+1,o2⟩ ?_
    exact⟨by omega,by omega,(filt_step ho2 hy0).2 (by simp [okIv, *])⟩
   ·refine nx ⟨j+1,o2⟩ ?_
    exact⟨by omega,by omega,(filt_step ho2 hy0).2 (by simp [okIv, *])⟩
   ·refine nx ⟨j+1,o2⟩ ?_
    exact⟨by omega,by omega,(filt_step ho2 hy0).2 (by simp [okIv, *])⟩
   ·exfalso;omega
  ·(repeat' ((conv=>whnf);first | (exfalso;omega) | refine gA ?_ | ((with_reducible first | refine gD (fun h=>?_) (fun h=>?_) | refine gE (fun h=>?_) (fun h=>?_)) <;> (try simp only [lm] at h) <;> try have hw:=wn h) | with_reducible refine gI (fun x hx=>?_) | with_reducible refine gJ (fun j x hj hx=>?_) | refine gP ?_ | refine gV ?_ | intro _)) <;> (try (conv=>whnf))
   refine nx ⟨i+1,o2⟩ ?_
   refine⟨by omega,by omega,?_⟩
   rw [ho2,List.take_of_length_le (by omega)]
   exact flat_step ho hx0
theorem spec_Intervals (p:Proj) (b:Dom) (hp:p.fine):Con 264 [.d p.av,.d b.av] (.d (.sl ((intervals p b).map ints))):=by
 refine con Tryz.func264 rfl rfl Tryz.call264 rfl fun hwf=>?_
 simp only [ARs.wf,AR.wf,AV.wf,AV.wfs,List.length_map,lim] at hwf
 cases hu:usable p b with
 | false=>
  (repeat' ((conv=>whnf);first | refine gA ?_ | ((with_reducible first | refine gD (fun h=>?_) (fun h=>?_) | refine gE (fun h=>?_) (fun h=>?_)) <;> (try simp only [lm] at h) <;> try have hw:=wn h) | with_reducible refine gI (fun x hx=>?_) | with_reducible refine gJ (fun j x hj hx=>?_) | refine gP ?_ | refine gV ?_ | refine gC (spec_l14Ok p b hp) ?_ | intro _)) <;> (try (conv=>whnf))
  refine⟨?_,rfl,trivial⟩;rw [intervals,if_neg (by rw [hu];exact Bool.false_ne_true)];rfl
 | true=>
  rw [intervals,if_pos hu]
  have hf:=(usable_parts hu).1
  obtain⟨hpo,l1,l2,l3,_⟩:=domForm_parts hf
  have hna:=(projForm hpo).nact
  have hel:=endsN_len p b
  have hsl:=setOf_len b.lo
  have hse:(setOf (endsN p b p.acts.length)).length≤p.acts.length:=by have:=setOf_len (endsN p b p.acts.length);rw [hel] at this;exact this
  (repeat' ((conv=>whnf);first | refine gA ?_ | ((with_reducible first | refine gD (fun h=>?_) (fun h=>?_) | refine gE (fun h=>?_) (fun h=>?_)) <;> (try simp only [lm] at h) <;> try have hw:=wn h) | with_reducible refine gI (fun x hx=>?_) | with_reducible refine gJ (fun j x hj hx=>?_) | refine gP ?_ | refine gV ?_ | refine gC (spec_l14Ok p b hp) ?_ | intro _)) <;> (try (conv=>whnf))
  refine loopF [2,3,5,20] [2,3] [] ?_
  (conv=>whnf)
  refine LoopC.go ((Nat)) (fun k=>(k≤p.acts.length)) (fun k=>[(21,.data (i64 k)),(6,.data (ints (setOf (endsN p b k))))]) (fun _=>[]) (fun _=>[]) (fun k=>p.acts.length - k) (0) ?_ ?_
  ·exact Nat.zero_le _
  rintro k hk
  have hek:=hel k
  have hsk:=setOf_len (endsN p b k)
  by_cases hlt:k < p.acts.length
  ·obtain⟨a,lo,up,m,g⟩:=dom_get hf hlt
   have h1:=g.hib
   have h2:=maxDur_bound g.aok m
   have hs1:(setOf (endsN p b k)).length < lim:=by unfold lim;omega
   (repeat' ((conv=>whnf);first | with_reducible refine Idx.got g.act rfl ?_ | with_reducible refine Idx.got g.hi rfl ?_ | with_reducible refine Idx.got g.modes rfl ?_ | refine gA ?_ | ((with_reducible first | refine gD (fun h=>?_) (fun h=>?_) | refine gE (fun h=>?_) (fun h=>?_)) <;> (try simp only [lm] at h) <;> try have hw:=wn h) | with_reducible refine gI (fun x hx=>?_) | with_reducible refine gJ (fun j x hj hx=>?_) | refine gP ?_ | refine gV ?_ | refine gC (spec_MaxDuration a m) ?_ | refine gC (spec_SetAdd (setOf (endsN p b k)) (up+maxDur a m) hs1) ?_ | intro _)) <;> (try (conv=>whnf))
   ·refine nw (k+1) ?_ ?_
    ·(repeat' ((conv=>whnf) <;> (first | exact trivial | exact rfl | with_reducible refine And.intro ?_ ?_))) <;> ((conv=>whnf) <;> ((rw [endsN_succ,endOfA_eq g,setOf_more])))
    exact (by omega:k+1≤p.acts.length)
   ·exfalso;omega
  (repeat' ((conv=>whnf);first | (exfalso;omega) | refine gA ?_ | ((with_reducible first | refine gD (fun h=>?_) (fun h=>?_) | refine gE (fun h=>?_) (fun h=>?_)) <;> (try simp only [lm] at h) <;> try have hw:=wn h) | with_reducible refine gI (fun x hx=>?_) | with_reducible refine gJ (fun j x hj hx=>?_) | refine gP ?_ | refine gV ?_ | refine gC (spec_SetOf b.lo) ?_ | intro _)) <;> (try (conv=>whnf))
  rw [show k=p.acts.length by omega]
  refine loopF [6,46,47] [] [12] ?_
  (conv=>whnf)
  refine LoopC.go ((Nat)×(List (List Int))) (fun⟨i,o⟩=>(i≤(setOf b.lo).length)∧(o.length≤6*i)∧(o=((setOf b.lo).take i).flatMap (ivRow p b))) (fun⟨i,o⟩=>[(48,.data (i64 i)),(5,.own 12 0)]) (fun _=>[]) (fun⟨i,o⟩=>[(12,25,o.map ints,0)]) (fun⟨i,o⟩=>(setOf b.lo).length - i) ⟨0,[]⟩ ?_ ?_
  ·exact⟨Nat.zero_le _,by simp,by simp⟩
  rintro⟨i,o⟩ ⟨hi,ol,ho⟩
  by_cases hil:i < (setOf b.lo).length
  rotate_left
  ·(repeat' ((conv=>whnf);first | (exfalso;omega) | refine gA ?_ | ((with_reducible first | refine gD (fun h=>?_) (fun h=>?_) | refine gE (fun h=>?_) (fun h=>?_)) <;> (try simp only [lm] at h) <;> try have hw:=wn h) | with_reducible refine gI (fun x hx=>?_) | with_reducible refine gJ (fun j x hj hx=>?_) | refine gP ?_ | refine gV ?_ | intro _)) <;> (try (conv=>whnf))
   refine⟨?_,rfl,trivial⟩
   rw [ho,List.take_of_length_le (by omega)]
  obtain⟨x0,hx0⟩:∃x0,(setOf b.lo)[i]? =some x0:=⟨(setOf b.lo)[i]'hil,by simp⟩
  (repeat' ((conv=>whnf);first | with_reducible refine Idx.got hx0 rfl ?_ | refine gA ?_ | ((with_reducible first | refine gD (fun h=>?_) (fun h=>?_) | refine gE (fun h=>?_) (fun h=>?_)) <;> (try simp only [lm] at h) <;> try have hw:=wn h) | with_reducible refine gI (fun x hx=>?_) | with_reducible refine gJ (fun j x hj hx=>?_) | refine gP ?_ | refine gV ?_ | intro _)) <;> (try (conv=>whnf))
  rotate_left
  ·exact trivial
  refine loopF [6,9,46,47,48,52,53] [] [12] ?_
  (conv=>whnf)
  refine LoopC.go ((Nat)×(List (List Int))) (fun⟨j,o2⟩=>(j≤(setOf (endsN p b p.acts.length)).length)∧(o2.length≤6*i+j)∧(o2=o++(((setOf (endsN p b p.acts.length)).take j).filter (okIv x0)).map (fun y=>[x0,y]))) (fun⟨j,o2⟩=>[(54,.data (i64 j)),(5,.own 12 0)]) (fun _=>[]) (fun⟨j,o2⟩=>[(12,25,o2.map ints,0)]) (fun⟨j,o2⟩=>(setOf (endsN p b p.acts.length)).length - j) ⟨0,o⟩ ?_ ?_
  ·exact⟨Nat.zero_le _,by omega,by simp⟩
  rintro⟨j,o2⟩ ⟨hj,ol2,ho2⟩
  by_cases hjl:j < (setOf (endsN p b p.acts.length)).length
  ·obtain⟨y0,hy0⟩:∃y0,(setOf (endsN p b p.acts.length))[j]? =some y0:=⟨(setOf (endsN p b p.acts.length))[j]'hjl,by simp⟩
   (repeat' ((conv=>whnf);first | with_reducible refine Idx.got hy0 rfl ?_ | refine gA ?_ | ((with_reducible first | refine gD (fun h=>?_) (fun h=>?_) | refine gE (fun h=>?_) (fun h=>?_)) <;> (try simp only [lm] at h) <;> try have hw:=wn h) | with_reducible refine gI (fun x hx=>?_) | with_reducible refine gJ (fun j x hj hx=>?_) | refine gP ?_ | refine gV ?_ | refine gC (spec_in _ _ _) ?_ | intro _)) <;> (try (conv=>whnf))
   ·refine nw ⟨j+1,o2++[[x0,y0]]⟩ ?_ ?_
    ·(repeat' ((conv=>whnf) <;> (first | exact trivial | exact rfl | with_reducible refine And.intro ?_ ?_))) <;> ((conv=>whnf) <;> (simp))
    exact⟨by omega,by simp;omega,(filt_step ho2 hy0).1 (by simp [okIv,isTime, *])⟩
   ·refine nx ⟨j+1,o2⟩ ?_
    exact⟨by omega,by omega,(filt_step ho2 hy0).2 (by simp [okIv,isTime, *])⟩
   ·refine nx ⟨j+1,o2⟩ ?_
    exact⟨by omega,by omega,(filt_step ho2 hy0).2 (by simp [okIv,isTime, *])⟩
   ·refine nx ⟨j+1,o2⟩ ?_
    exact⟨by omega,by omega,(filt_step ho2 hy0).2 (by simp [okIv,isTime, *])⟩
   ·exfalso;omega
  ·(repeat' ((conv=>whnf);first | (exfalso;omega) | refine gA ?_ | ((with_reducible first | refine gD (fun h=>?_) (fun h=>?_) | refine gE (fun h=>?_) (fun h=>?_)) <;> (try simp only [lm] at h) <;> try have hw:=wn h) | with_reducible refine gI (fun x hx=>?_) | with_reducible refine gJ (fun j x hj hx=>?_) | refine gP ?_ | refine gV ?_ | intro _)) <;> (try (conv=>whnf))
   refine nx ⟨i+1,o2⟩ ?_
   refine⟨by omega,by omega,?_⟩
   rw [ho2,List.take_of_length_le (by omega)]
   exact flat_step ho hx0
end Go.Proofs.YtepogmnolnlpmaaGreat.Abs
