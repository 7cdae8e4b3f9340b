/- Contracts: work, capacity, refutations. No statement of a claim. -/
import Derived.Test.YtfhojdalheinaaaGreatC8
set_option linter.all false
set_option linter.unusedVariables false
set_option linter.unusedSimpArgs false
set_option maxRecDepth 20000
set_option maxHeartbeats 4000000
namespace Go.Proofs.YtfhojdalheinaaaGreat.Abs
open Go.Proofs
theorem spec_l14Need (p:Proj) (b:Dom) (r n:Int) {k:Nat} {a:Activ} {x y:Int} {m:List Int} (h:DomGet p b k a x y m) (hn:n=k):Con 365 [.d p.av,.d b.av,.d (i64 r),.d (i64 n)] (.d (i64 (minUse a m r))):=by
 refine con Tryz.func365 rfl rfl Tryz.call365 rfl fun hwf=>?_
 (repeat' ((conv=>whnf);first | with_reducible refine Idx.got h.act hn ?_ | with_reducible refine Idx.got h.modes hn ?_ | refine gA ?_ | (refine gB ?_ ?_ <;> intro h) | (refine gI ?_;intro x hx) | (refine gJ ?_;intro j x hj hx) | refine gC (spec_MinUsage a m r) ?_ | intro _)) <;> try (conv=>whnf)
 exact⟨rfl,rfl,trivial⟩
theorem spec_l14Use (p:Proj) (b:Dom) (r t:Int) (hf:domForm p b=true):Con 321 [.d p.av,.d b.av,.d (i64 r),.d (i64 t)] (.d (i64 (compUse p b r t))):=by
 refine con Tryz.func321 rfl rfl Tryz.call321 rfl fun hwf=>?_
 simp only [ARs.wf,AR.wf,AV.wf,AV.wfs,List.length_map,lim] at hwf
 (repeat' ((conv=>whnf);first | refine gA ?_ | (refine gB ?_ ?_ <;> intro h) | (refine gI ?_;intro x hx) | (refine gJ ?_;intro j x hj hx) | refine gV ?_ | intro _)) <;> try (conv=>whnf)
 refine loopF [2,3,4,5,13] [4,5] [] ?_
 (conv=>whnf)
 refine LoopC.go ((Nat)×(Int)) (fun⟨k,s⟩=>(k≤p.acts.length)∧(s=sumTo (useAt p b r t) k)) (fun⟨k,s⟩=>[(14,.data (i64 k)),(9,.data (i64 s))]) (fun _=>[]) (fun _=>[]) (fun⟨k,s⟩=>p.acts.length - k) ⟨0,0⟩ ?_ ?_
 ·exact⟨by omega,rfl⟩
 rintro⟨k,s⟩ ⟨hk,hs⟩
 by_cases hlt:k < p.acts.length
 ·obtain⟨a,x,y,m,hg⟩:=dom_get hf hlt
  have hu:=minUse_bound hg.aok m r
  have hb:=compUse_bound hf r t hk
  have hd:=minDur_bound hg.aok m
  rw [← durOf_eq hg] at hd
  have ha:=hg.lob
  have e:useAt p b r t k=if y≤t∧t < x+durOf p b k then minUse a m r else 0:=by
   simp [useAt,actOf,List.getD_eq_getElem?_getD,hg.act,hg.lo,hg.hi,hg.modes]
  (repeat' ((conv=>whnf);first | with_reducible refine Idx.got hg.lo rfl ?_ | with_reducible refine Idx.got hg.hi rfl ?_ | refine gA ?_ | (refine gB ?_ ?_ <;> intro h) | (refine gI ?_;intro x hx) | (refine gJ ?_;intro j x hj hx) | refine gV ?_ | refine gC (spec_l14Short p b _ hg rfl) ?_ | refine gC (spec_l14Need p b r _ hg rfl) ?_ | intro _)) <;> try (conv=>whnf)
  all_goals first
   | (exfalso;omega)
   | (refine nx ⟨k+1,s+minUse a m r⟩ ?_
      refine⟨by omega,?_⟩
      rw [sumTo,e,if_pos (by omega),hs];done)
   | (refine nx ⟨k+1,s⟩ ?_
      refine⟨by omega,?_⟩
      rw [sumTo,e,if_neg (by omega),hs];simp;done)
 ·(repeat' ((conv=>whnf);first | (exfalso;omega) | refine gA ?_ | (refine gB ?_ ?_ <;> intro h) | (refine gI ?_;intro x hx) | (refine gJ ?_;intro j x hj hx) | refine gV ?_ | intro _)) <;> try (conv=>whnf)
  refine⟨?_,rfl,trivial⟩
  rw [hs,show k=p.acts.length by omega];rfl
def four (s d x y:Int):List Int:=[s,d,x,y]
theorem overlap_no {s d x y:Int} {k:Nat} {n:Int} (hk:(four s d x y)[k]? =some n) (h:fits n=false):overlap s d x y=0:=by
 rw [overlap,if_neg]
 rintro⟨h1,h2,h3,h4⟩
 have hm:=List.mem_of_getElem? hk
 simp only [four,List.mem_cons,List.not_mem_nil,or_false] at hm
 rcases hm with rfl | rfl | rfl | rfl <;> simp_all
theorem overlap_yes {s d x y:Int} (h:∀i n,i < 4→(four s d x y)[i]? =some n→fits n=true):(fits s=true∧fits d=true∧fits x=true∧fits y=true):=
 ⟨h 0 s (by omega) rfl,h 1 d (by omega) rfl,h 2 x (by omega) rfl,h 3 y (by omega) rfl⟩
theorem fits_iff {n:Int}:fits n=true↔ -100000≤n∧n≤100000:=within_iff
theorem impl_Overlap (s d x y:Int):Con 429 [.d (i64 s),.d (i64 d),.d (i64 x),.d (i64 y)] (.d (i64 (overlap s d x y))):=by
 refine con Tryz.func429 rfl rfl Tryz.call429 rfl fun hwf=>?_
 (repeat' ((conv=>whnf);first | refine gA ?_ | (refine gN ?_ ?_ <;> intro h hw) | (refine gB ?_ ?_ <;> intro h) | (refine gI ?_;intro x hx) | (refine gJ ?_;intro j x hj hx) | refine gV ?_ | intro _)) <;> try (conv=>whnf)
 refine loopF [0,1,2,3,15,16] [] [] ?_
 (conv=>whnf)
 refine LoopC.go ((Nat)) (fun k=>(k≤4)∧(∀i n,i < k→(four s d x y)[i]? =some n→fits n=true)) (fun k=>[(17,.data (i64 k))]) (fun _=>[]) (fun _=>[]) (fun k=>4 - k) (0) ?_ ?_
 ·exact⟨by omega,by omega⟩
 rintro k ⟨hk,hi⟩
 (repeat' ((conv=>whnf);first | refine Idx.at (l:=four s d x y) (f:=i64) (by simp [four] at*;omega) (fun z hz=>?_) | refine gA ?_ | (refine gN ?_ ?_ <;> intro h hw) | (refine gB ?_ ?_ <;> intro h) | (refine gI ?_;intro x hx) | (refine gJ ?_;intro j x hj hx) | refine gV ?_ | refine gC (impl_within _ _ _) ?_ | intro _)) <;> try (conv=>whnf)
 all_goals simp only [List.length_cons,List.length_nil] at*
 ·refine nx (k+1) ?_
  refine⟨by omega,fun i n hi' hn=>?_⟩
  by_cases e:i=k
  ·subst e;rw [hz] at hn;cases hn;assumption
  ·exact hi i n (by omega) hn
 ·refine⟨?_,rfl,trivial⟩
  rw [overlap_no hz h]
 all_goals
  have hf:=overlap_yes fun i n hi' hn=>hi i n (by omega) hn
  simp only [fits_iff] at hf
 ·refine⟨?_,rfl,trivial⟩
  rw [overlap,if_pos (by simp only [fits_iff];exact hf),if_pos (by assumption)]
 ·(repeat' ((conv=>whnf);first | refine gA ?_ | (refine gN ?_ ?_ <;> intro h hw) | (refine gB ?_ ?_ <;> intro h) | (refine gI ?_;intro x hx) | (refine gJ ?_;intro j x hj hx) | refine gV ?_ | intro _)) <;> try (conv=>whnf)
  refine⟨?_,rfl,trivial⟩
  rw [overlap,if_pos (by simp only [fits_iff];exact hf),if_neg (by assumption)]
theorem spec_Overlap (s d x y:Int):Con 407 [.d (i64 s),.d (i64 d),.d (i64 x),.d (i64 y)] (.d (i64 (overlap s d x y))):=by
 refine con Tryz.func407 rfl rfl Tryz.call407 rfl fun hwf=>?_
 (repeat' ((conv=>whnf);first | refine gA ?_ | (refine gN ?_ ?_ <;> intro h hw) | (refine gB ?_ ?_ <;> intro h) | (refine gI ?_;intro x hx) | (refine gJ ?_;intro j x hj hx) | refine gV ?_ | intro _)) <;> try (conv=>whnf)
 refine loopF [0,1,2,3,15,16] [] [] ?_
 (conv=>whnf)
 refine LoopC.go ((Nat)) (fun k=>(k≤4)∧(∀i n,i < k→(four s d x y)[i]? =some n→fits n=true)) (fun k=>[(17,.data (i64 k))]) (fun _=>[]) (fun _=>[]) (fun k=>4 - k) (0) ?_ ?_
 ·exact⟨by omega,by omega⟩
 rintro k ⟨hk,hi⟩
 (repeat' ((conv=>whnf);first | refine Idx.at (l:=four s d x y) (f:=i64) (by simp [four] at*;omega) (fun z hz=>?_) | refine gA ?_ | (refine gN ?_ ?_ <;> intro h hw) | (refine gB ?_ ?_ <;> intro h) | (refine gI ?_;intro x hx) | (refine gJ ?_;intro j x hj hx) | refine gV ?_ | refine gC (spec_in _ _ _) ?_ | intro _)) <;> try (conv=>whnf)
 all_goals simp only [List.length_cons,List.length_nil] at*
 ·refine nx (k+1) ?_
  refine⟨by omega,fun i n hi' hn=>?_⟩
  by_cases e:i=k
  ·subst e;rw [hz] at hn;cases hn;assumption
  ·exact hi i n (by omega) hn
 ·refine⟨?_,rfl,trivial⟩
  rw [overlap_no hz h]
 all_goals
  have hf:=overlap_yes fun i n hi' hn=>hi i n (by omega) hn
  simp only [fits_iff] at hf
 ·refine⟨?_,rfl,trivial⟩
  rw [overlap,if_pos (by simp only [fits_iff];exact hf),if_pos (by assumption)]
 ·(repeat' ((conv=>whnf);first | refine gA ?_ | (refine gN ?_ ?_ <;> intro h hw) | (refine gB ?_ ?_ <;> intro h) | (refine gI ?_;intro x hx) | (refine gJ ?_;intro j x hj hx) | refine gV ?_ | refine gC (spec_l02Min _ _) ?_ | refine gC (spec_l02Max _ _) ?_ | intro _)) <;> try (conv=>whnf)
  refine⟨?_,rfl,trivial⟩
  rw [overlap,if_pos (by simp only [fits_iff];exact hf),if_neg (by assumption),Int.max_comm]
theorem overlap_bound (s d x y:Int):0≤overlap s d x y∧overlap s d x y≤200000:=by
 unfold overlap
 split
 ·rename_i h
  simp only [fits_iff] at h
  split <;> omega
 ·omega
theorem mul_bound {u v:Int} (h:0≤u∧u≤200000) (h':0≤v∧v≤20):0≤u*v∧u*v≤4000000:=
 ⟨Int.mul_nonneg h.1 h'.1,Int.le_trans (Int.mul_le_mul h.2 h'.2 h'.1 (by omega)) (by omega)⟩
structure ModeGet (p:Proj) (b:Dom) (k:Nat) (a:Activ) (x y:Int) (r i:Int) (mo:Mode) (q ρ:Nat) (u:Int):Prop where
 iq:i=q
 rρ:r=ρ
 mode:a.modes[q]? =some mo
 use:mo.use[ρ]? =some u
 ub:0≤u∧u≤20
theorem mode_get {p:Proj} {b:Dom} {k:Nat} {a:Activ} {x y:Int} {m:List Int} (h:DomGet p b k a x y m) {r i:Int} (hr:hasRes p r=true) (hi:i∈m):∃mo q ρ u,ModeGet p b k a x y r i mo q ρ u:=by
 obtain⟨q,hq,hlt⟩:=h.msub i hi
 have e1:a.modes[q]? =some (a.modes[q]'hlt):=by simp
 have hm:=activ_mode h.aok (List.mem_of_getElem? e1)
 have hw:=within_iff.1 hr
 have e2:(a.modes[q]'hlt).use[r.toNat]? =some ((a.modes[q]'hlt).use[r.toNat]'(by omega)):=by simp
 exact⟨_,q,r.toNat,_,hq,by omega,e1,e2,hm.2.1 _ (List.mem_of_getElem? e2)⟩
theorem workMode_eq {p:Proj} {b:Dom} {k:Nat} {a:Activ} {lo hi:Int} {m:List Int} (h:DomGet p b k a lo hi m) {r i:Int} {mo:Mode} {q ρ:Nat} {u:Int} (g:ModeGet p b k a lo hi r i mo q ρ u) (x y:Int):
  workMode p b k r x y i=min (overlap lo mo.dur x y) (overlap hi mo.dur x y)*u:=by
 have h1:=g.iq;have h2:=g.rρ
 subst h1 h2
 simp [workMode,actOf,List.getD_eq_getElem?_getD,h.act,h.lo,h.hi,g.mode,g.use]
theorem workMode_bound {p:Proj} {b:Dom} {k:Nat} {a:Activ} {lo hi:Int} {m:List Int} (h:DomGet p b k a lo hi m) {r i:Int} (hr:hasRes p r=true) (hi':i∈m) (x y:Int):
  0≤workMode p b k r x y i∧workMode p b k r x y i≤4000000:=by
 obtain⟨mo,q,ρ,u,g⟩:=mode_get h hr hi'
 rw [workMode_eq h g]
 exact mul_bound (by have:=overlap_bound lo mo.dur x y;have:=overlap_bound hi mo.dur x y;omega) g.ub
theorem workOf_eq {p:Proj} {b:Dom} {k:Nat} {a:Activ} {lo hi:Int} {m:List Int} (h:DomGet p b k a lo hi m) (r x y:Int):workOf p b r x y k=least (m.map (workMode p b k r x y)):=by
 simp [workOf,List.getD_eq_getElem?_getD,h.modes]
theorem impl_minWork (p:Proj) (b:Dom) (n r x y:Int) {k:Nat} {a:Activ} {lo hi:Int} {m:List Int} (hg:DomGet p b k a lo hi m) (hn:n=k) (hr:hasRes p r=true):
  Con 413 [.d p.av,.d b.av,.d (i64 n),.d (i64 r),.d (i64 x),.d (i64 y)] (.d (i64 (workOf p b r x y k))):=by
 refine con Tryz.func413 rfl rfl Tryz.call413 rfl fun hwf=>?_
 simp only [ARs.wf,AR.wf,AV.wf,AV.wfs,List.length_map,lim] at hwf
 have hml:=wfs_get hwf.2.1.2.2.1.2 hg.modes
 simp only [AV.wf,AV.wfs,List.length_map] at hml
 rw [workOf_eq hg, ← lrun_true]
 (repeat' ((conv=>whnf);first | with_reducible refine Idx.got hg.modes hn ?_ | refine gA ?_ | (refine gB ?_ ?_ <;> intro h) | (refine gI ?_;intro x hx) | (refine gJ ?_;intro j x hj hx) | refine gV ?_ | intro _)) <;> try (conv=>whnf)
 refine loopF [2,3,4,5,6,7,23,24] [6,7] [] ?_
 (conv=>whnf)
 refine LoopC.go ((Nat)×(Int)×(Bool)) (fun⟨j,s,f⟩=>(j≤m.length)∧(lrun (!f) s ((m.drop j).map (workMode p b k r x y))=lrun true 0 (m.map (workMode p b k r x y)))) (fun⟨j,s,f⟩=>[(25,.data (i64 j)),(13,.data (i64 s)),(14,.data (.bool f))]) (fun _=>[]) (fun _=>[]) (fun⟨j,s,f⟩=>m.length - j) ⟨0,0,false⟩ ?_ ?_
 ·exact⟨by omega,rfl⟩
 rintro⟨j,s,f⟩ ⟨hj,hi'⟩
 by_cases hlt:j < m.length
 ·obtain⟨i,hx⟩:∃x,m[j]? =some x:=⟨m[j]'hlt,by simp⟩
  obtain⟨mo,q,ρ,u,g⟩:=mode_get hg hr (List.mem_of_getElem? hx)
  rw [drop_get hx,List.map_cons,lrun,workMode_eq hg g] at hi'
  have hb:=mul_bound (u:=min (overlap lo mo.dur x y) (overlap hi mo.dur x y)) (by have:=overlap_bound lo mo.dur x y;have:=overlap_bound hi mo.dur x y;omega) g.ub
  (repeat' ((conv=>whnf);first | with_reducible refine Idx.got hx rfl ?_ | with_reducible refine Idx.got hg.act hn ?_ | with_reducible refine Idx.got hg.lo hn ?_ | with_reducible refine Idx.got hg.hi hn ?_ | with_reducible refine Idx.got g.mode g.iq ?_ | with_reducible refine Idx.got g.use g.rρ ?_ | refine gA ?_ | (refine gB ?_ ?_ <;> intro h) | (refine gI ?_;intro x hx) | (refine gJ ?_;intro j x hj hx) | refine gV ?_ | refine gC (impl_Overlap _ _ _ _) ?_ | intro _)) <;> try (conv=>whnf)
  ·apply Exists.intro (⟨j+1,_,true⟩)
   refine⟨?_,rfl,?_,?_⟩
   rotate_left
   ·(repeat' ((conv=>whnf) <;> (first | exact trivial | exact rfl | with_reducible refine And.intro ?_ ?_)))
   ·(try dsimp only);(try simp only [List.length_map]);omega
   rw [if_pos (.inr (by assumption))] at hi'
   exact⟨by omega,hi'⟩
  ·refine nx ⟨j+1,s,f⟩ ?_
   rw [if_neg (by simp [*])] at hi'
   refine⟨by omega,?_⟩
   rw [← hi'];simp [*]
  ·apply Exists.intro (⟨j+1,_,true⟩)
   refine⟨?_,rfl,?_,?_⟩
   rotate_left
   ·(repeat' ((conv=>whnf) <;> (first | exact trivial | exact rfl | with_reducible refine And.intro ?_ ?_)))
   ·(try dsimp only);(try simp only [List.length_map]);omega
   rw [if_pos (.inl (by simp [*]))] at hi'
   exact⟨by omega,hi'⟩
  ·exfalso;omega
 ·(repeat' ((conv=>whnf);first | (exfalso;omega) | refine gA ?_ | (refine gB ?_ ?_ <;> intro h) | (refine gI ?_;intro x hx) | (refine gJ ?_;intro j x hj hx) | refine gV ?_ | intro _)) <;> try (conv=>whnf)
  refine⟨?_,rfl,trivial⟩
  rw [← hi',drop_end hlt];rfl
theorem spec_l15Work (p:Proj) (b:Dom) (n r x y:Int) {k:Nat} {a:Activ} {lo hi:Int} {m:List Int} (hg:DomGet p b k a lo hi m) (hn:n=k) (hr:hasRes p r=true):
  Con 366 [.d p.av,.d b.av,.d (i64 n),.d (i64 r),.d (i64 x),.d (i64 y)] (.d (i64 (workOf p b r x y k))):=by
 refine con Tryz.func366 rfl rfl Tryz.call366 rfl fun hwf=>?_
 simp only [ARs.wf,AR.wf,AV.wf,AV.wfs,List.length_map,lim] at hwf
 have hml:=wfs_get hwf.2.1.2.2.1.2 hg.modes
 simp only [AV.wf,AV.wfs,List.length_map] at hml
 rw [workOf_eq hg, ← lrun_true]
 (repeat' ((conv=>whnf);first | with_reducible refine Idx.got hg.modes hn ?_ | refine gA ?_ | (refine gB ?_ ?_ <;> intro h) | (refine gI ?_;intro x hx) | (refine gJ ?_;intro j x hj hx) | refine gV ?_ | intro _)) <;> try (conv=>whnf)
 refine loopF [2,3,4,5,6,7,22,23] [6,7] [] ?_
 (conv=>whnf)
 refine LoopC.go ((Nat)×(Int)) (fun⟨j,s⟩=>(j≤m.length)∧(-1≤s)∧(max (lrun (decide (s < 0)) s ((m.drop j).map (workMode p b k r x y))) 0=lrun true 0 (m.map (workMode p b k r x y)))) (fun⟨j,s⟩=>[(24,.data (i64 j)),(13,.data (i64 s))]) (fun _=>[]) (fun _=>[]) (fun⟨j,s⟩=>m.length - j) ⟨0, -1⟩ ?_ ?_
 ·refine⟨by omega,by omega,?_⟩
  have hb:∀i∈m,0≤workMode p b k r x y i:=fun i hi=>(workMode_bound hg hr hi x y).1
  have e:0≤lrun true 0 (m.map (workMode p b k r x y)):=by
   rw [lrun_true]
   exact (least_bound (c:=4000000) (by omega) fun z hz=>by
    obtain⟨i,hi,rfl⟩:=List.mem_map.1 hz
    exact workMode_bound hg hr hi x y).1
  simp only [List.drop_zero]
  cases m with
  | nil=>rfl
  | cons i t=>simp only [List.map_cons,lrun] at e ⊢;simp at e ⊢;omega
 rintro⟨j,s⟩ ⟨hj,hs,hi'⟩
 by_cases hlt:j < m.length
 ·obtain⟨i,hx⟩:∃x,m[j]? =some x:=⟨m[j]'hlt,by simp⟩
  obtain⟨mo,q,ρ,u,g⟩:=mode_get hg hr (List.mem_of_getElem? hx)
  rw [drop_get hx,List.map_cons,lrun,workMode_eq hg g] at hi'
  have hb:=mul_bound (u:=min (overlap lo mo.dur x y) (overlap hi mo.dur x y)) (by have:=overlap_bound lo mo.dur x y;have:=overlap_bound hi mo.dur x y;omega) g.ub
  rw [Int.mul_comm (min _ _) u] at hb
  rw [Int.mul_comm (min _ _) u] at hi'
  (repeat' ((conv=>whnf);first | with_reducible refine Idx.got hx rfl ?_ | with_reducible refine Idx.got hg.act hn ?_ | with_reducible refine Idx.got hg.lo hn ?_ | with_reducible refine Idx.got hg.hi hn ?_ | with_reducible refine Idx.got g.mode g.iq ?_ | with_reducible refine Idx.got g.use g.rρ ?_ | refine gA ?_ | (refine gB ?_ ?_ <;> intro h) | (refine gI ?_;intro x hx) | (refine gJ ?_;intro j x hj hx) | refine gV ?_ | refine gC (spec_Overlap _ _ _ _) ?_ | refine gC (spec_l02Min _ _) ?_ | refine gC (spec_l02Max _ _) ?_ | intro _)) <;> try (conv=>whnf)
  ·refine nx ⟨j+1,u*min (overlap lo mo.dur x y) (overlap hi mo.dur x y)⟩ ?_
   rw [if_pos (.inl (by simp [*]))] at hi'
   exact⟨by omega,by omega,by rw [decide_eq_false (by omega)];exact hi'⟩
  ·refine nx ⟨j+1,u*min (overlap lo mo.dur x y) (overlap hi mo.dur x y)⟩ ?_
   rw [if_pos (.inr (by assumption))] at hi'
   exact⟨by omega,by omega,by rw [decide_eq_false (by omega)];exact hi'⟩
  ·refine nx ⟨j+1,s⟩ ?_
   rw [if_neg (by rw [decide_eq_true_eq];omega)] at hi'
   exact⟨by omega,by omega,by rw [decide_eq_false (by omega)];exact hi'⟩
  ·exfalso;omega
 ·(repeat' ((conv=>whnf);first | (exfalso;omega) | refine gA ?_ | (refine gB ?_ ?_ <;> intro h) | (refine gI ?_;intro x hx) | (refine gJ ?_;intro j x hj hx) | refine gV ?_ | refine gC (spec_l02Max _ _) ?_ | intro _)) <;> try (conv=>whnf)
  refine⟨?_,rfl,trivial⟩
  rw [← hi',drop_end hlt];rfl
theorem workOf_bound {p:Proj} {b:Dom} (hf:domForm p b=true) {r:Int} (hr:hasRes p r=true) (x y:Int) {k:Nat} (hk:k < p.acts.length):0≤workOf p b r x y k∧workOf p b r x y k≤4000000:=by
 obtain⟨a,lo,hi,m,h⟩:=dom_get hf hk
 rw [workOf_eq h]
 exact least_bound (by omega) fun z hz=>by
  obtain⟨i,hi,rfl⟩:=List.mem_map.1 hz
  exact workMode_bound h hr hi x y
theorem impl_totalWork (p:Proj) (b:Dom) (r x y:Int) (hf:domForm p b=true) (hr:hasRes p r=true):Con 375 [.d p.av,.d b.av,.d (i64 r),.d (i64 x),.d (i64 y)] (.d (i64 (totalWork p b r x y))):=by
 refine con Tryz.func375 rfl rfl Tryz.call375 rfl fun hwf=>?_
 simp only [ARs.wf,AR.wf,AV.wf,AV.wfs,List.length_map,lim] at hwf
 (repeat' ((conv=>whnf);first | refine gA ?_ | (refine gB ?_ ?_ <;> intro h) | refine gV ?_ | intro _)) <;> try (conv=>whnf)
 refine loopF [2,3,4,5,6,15] [5,6] [] ?_
 (conv=>whnf)
 refine LoopC.go ((Nat)×(Int)) (fun⟨k,s⟩=>(k≤p.acts.length)∧(s=sumTo (workOf p b r x y) k)) (fun⟨k,s⟩=>[(16,.data (i64 k)),(11,.data (i64 s))]) (fun _=>[]) (fun _=>[]) (fun⟨k,s⟩=>p.acts.length - k) ⟨0,0⟩ ?_ ?_
 ·exact⟨by omega,rfl⟩
 rintro⟨k,s⟩ ⟨hk,hs⟩
 by_cases hlt:k < p.acts.length
 ·obtain⟨a,lo,hi,m,hg⟩:=dom_get hf hlt
  have hb:=sumTo_bound (f:=workOf p b r x y) (c:=4000000) (n:=k) fun i hi=>workOf_bound hf hr x y (by omega)
  have hw:=workOf_bound hf hr x y hlt
  (repeat' ((conv=>whnf);first | refine gA ?_ | (refine gB ?_ ?_ <;> intro h) | refine gV ?_ | refine gC (impl_minWork p b _ r x y hg rfl hr) ?_ | intro _)) <;> try (conv=>whnf)
  ·refine nx ⟨k+1,s+workOf p b r x y k⟩ ?_
   exact⟨by omega,by rw [sumTo,hs]⟩
  ·exfalso;omega
 ·(repeat' ((conv=>whnf);first | (exfalso;omega) | refine gA ?_ | (refine gB ?_ ?_ <;> intro h) | refine gV ?_ | intro _)) <;> try (conv=>whnf)
  refine⟨?_,rfl,trivial⟩
  rw [hs,show k=p.acts.length by omega];rfl
theorem capAt_bound {t:Int}:∀{l:List Step} {n:Int},(∀s∈l,0≤s.cap∧s.cap≤20)→(0≤n∧n≤20)→0≤capAt t l n∧capAt t l n≤20
 | [],_,_,h=>h
 | s::l,n,h,h'=>by
  rw [capAt]
  refine capAt_bound (fun q hq=>h q (by simp [hq])) ?_
  have:=h s (by simp)
  split <;> omega
theorem stepsOk_cap {l:List Step} (h:stepsOk l=true):∀s∈l,0≤s.cap∧s.cap≤20:=by
 intro s hs
 obtain⟨i,hi,rfl⟩:=List.getElem_of_mem hs
 simp only [stepsOk,Bool.and_eq_true,allN_iff] at h
 have:=h.1 i hi
 simp only [stepAt,List.getElem?_eq_getElem hi,Bool.and_eq_true,isAmount,within_iff] at this
 exact this.1.1.2
theorem capSum_bound {l:List Step} (h:stepsOk l=true) (x:Int):∀n:Nat,0≤capSum l x n∧capSum l x n≤20*n
 | 0=>by simp [capSum]
 | n+1=>by
  have h1:=capSum_bound h x n
  have h2:=capAt_bound (t:=x+n) (stepsOk_cap h) (show (0:Int)≤0∧(0:Int)≤20 by omega)
  rw [capSum];omega
theorem impl_TotalCapacity (l:List Step) (x y:Int):Con 302 [.d (.sl (l.map Step.av)),.d (i64 x),.d (i64 y)] (.d (i64 (totalCap l x y))):=by
 refine con Tryz.func302 rfl rfl Tryz.call302 rfl fun hwf=>?_
 by_cases hok:stepsOk l=true∧isTime x=true∧isTime y=true
 ·rw [totalCap,if_pos hok]
  have hx:=within_iff.1 hok.2.1
  have hy:=within_iff.1 hok.2.2
  (repeat' ((conv=>whnf);first | refine gA ?_ | (refine gN ?_ ?_ <;> intro h hw) | (refine gB ?_ ?_ <;> intro h) | refine gV ?_ | refine gC (impl_StepsOk l) ?_ | refine gC (impl_isTime _) ?_ | intro _)) <;> try (conv=>whnf)
  all_goals try (exfalso;simp_all;done)
  refine loopF [0,2] [] [] ?_
  (conv=>whnf)
  refine LoopC.go ((Nat)×(Int)×(Int)) (fun⟨k,t,s⟩=>(t=x+k)∧((k:Int)≤max (y - x) 0)∧(s=capSum l x k)) (fun⟨k,t,s⟩=>[(8,.data (i64 t)),(7,.data (i64 s))]) (fun _=>[]) (fun _=>[]) (fun⟨k,t,s⟩=>(max (y - x) 0).toNat - k) ⟨0,x,0⟩ ?_ ?_
  ·exact⟨by omega,by omega,rfl⟩
  rintro⟨k,t,s⟩ ⟨ht,hk,hs⟩
  have hc:=capSum_bound hok.1 x k
  have hc':=capAt_bound (t:=t) (stepsOk_cap hok.1) (show (0:Int)≤0∧(0:Int)≤20 by omega)
  (repeat' ((conv=>whnf);first | refine gA ?_ | (refine gN ?_ ?_ <;> intro h hw) | (refine gB ?_ ?_ <;> intro h) | refine gV ?_ | refine gC (impl_capacityAt l _) ?_ | intro _)) <;> try (conv=>whnf)
  ·refine nx ⟨k+1,t+1,s+capAt t l 0⟩ ?_
   exact⟨by omega,by omega,by rw [capSum,hs,ht]⟩
  ·refine⟨?_,rfl,trivial⟩
   rw [hs,show (y - x).toNat=k by omega]
 ·(repeat' ((conv=>whnf);first | refine gA ?_ | (refine gN ?_ ?_ <;> intro h hw) | (refine gB ?_ ?_ <;> intro h) | refine gV ?_ | refine gC (impl_StepsOk l) ?_ | refine gC (impl_isTime _) ?_ | intro _)) <;> try (conv=>whnf)
  all_goals first
   | (exfalso;exact hok ⟨by assumption,by assumption,by assumption⟩)
   | (refine⟨?_,rfl,trivial⟩;rw [totalCap,if_neg hok])
theorem spec_l03Span (l:List Step) (x y:Int):Con 352 [.d (.sl (l.map Step.av)),.d (i64 x),.d (i64 y)] (.d (.bool (stepsOk l&&(isTime x&&isTime y)))):=by
 refine con Tryz.func352 rfl rfl Tryz.call352 rfl fun hwf=>?_
 (repeat' ((conv=>whnf);first | refine gA ?_ | (refine gN ?_ ?_ <;> intro h hw) | (refine gB ?_ ?_ <;> intro h) | refine gC (spec_StepsOk l) ?_ | refine gC (spec_in _ _ _) ?_ | intro _)) <;> try (conv=>whnf)
 all_goals refine⟨?_,rfl,trivial⟩
 all_goals simp [isTime, *]
theorem spec_TotalCapacity (l:List Step) (x y:Int):Con 283 [.d (.sl (l.map Step.av)),.d (i64 x),.d (i64 y)] (.d (i64 (totalCap l x y))):=by
 refine con Tryz.func283 rfl rfl Tryz.call283 rfl fun hwf=>?_
 by_cases hok:stepsOk l=true∧isTime x=true∧isTime y=true
 ·rw [totalCap,if_pos hok]
  have hx:=within_iff.1 hok.2.1
  have hy:=within_iff.1 hok.2.2
  have e:(stepsOk l&&(isTime x&&isTime y))=true:=by simp [hok]
  (repeat' ((conv=>whnf);first | refine gA ?_ | (refine gB ?_ ?_ <;> intro h) | refine gV ?_ | refine gC (spec_l03Span l x y) ?_ | intro _)) <;> try (conv=>whnf)
  refine loopF [0,2] [] [] ?_
  (conv=>whnf)
  refine LoopC.go ((Nat)×(Int)×(Int)) (fun⟨k,t,s⟩=>(t=x+k)∧((k:Int)≤max (y - x) 0)∧(s=capSum l x k)) (fun⟨k,t,s⟩=>[(8,.data (i64 t)),(7,.data (i64 s))]) (fun _=>[]) (fun _=>[]) (fun⟨k,t,s⟩=>(max (y - x) 0).toNat - k) ⟨0,x,0⟩ ?_ ?_
  ·exact⟨by omega,by omega,rfl⟩
  rintro⟨k,t,s⟩ ⟨ht,hk,hs⟩
  have hc:=capSum_bound hok.1 x k
  have hc':=capAt_bound (t:=t) (stepsOk_cap hok.1) (show (0:Int)≤0∧(0:Int)≤20 by omega)
  (repeat' ((conv=>whnf);first | refine gA ?_ | (refine gB ?_ ?_ <;> intro h) | refine gV ?_ | refine gC (spec_l03At l _) ?_ | intro _)) <;> try (conv=>whnf)
  ·refine nx ⟨k+1,t+1,s+capAt t l 0⟩ ?_
   exact⟨by omega,by omega,by rw [capSum,hs,ht]⟩
  ·refine⟨?_,rfl,trivial⟩
   rw [hs,show (y - x).toNat=k by omega]
 ·have e:(stepsOk l&&(isTime x&&isTime y))=false:=by rw [← Bool.not_eq_true];simpa using hok
  (repeat' ((conv=>whnf);first | refine gA ?_ | (refine gB ?_ ?_ <;> intro h) | refine gV ?_ | refine gC (spec_l03Span l x y) ?_ | intro _)) <;> try (conv=>whnf)
  refine⟨?_,rfl,trivial⟩;rw [totalCap,if_neg hok]
end Go.Proofs.YtfhojdalheinaaaGreat.Abs
