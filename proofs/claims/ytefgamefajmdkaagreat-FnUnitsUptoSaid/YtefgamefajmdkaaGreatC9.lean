/- Contracts: work, capacity, refutations. -/
import Derived.Test.YtefgamefajmdkaaGreatC8
set_option linter.all false
set_option maxRecDepth 20000
set_option maxHeartbeats 0
namespace Go.Proofs.YtefgamefajmdkaaGreat.Abs
open Go.Proofs
theorem wD (p:Proj) (b:Dom) (r n:Int) {k:Nat} {a:aH} {x y:Int} {m:List Int} (h:dW p b k a x y m) (hn:n=k):Con 257 [.d p.av,.d b.av,.d (i64 r),.d (i64 n)] (.d (i64 (gL a m r))):=by
 refine con Tryz.func257 rfl rfl Tryz.call257 rfl fun hwf=>?_
 (repeat' ((conv=>whnf);first|with_reducible refine Idx.got h.act hn ?_|with_reducible refine Idx.got h.modes hn ?_|refine gA ?_|(refine gB ?_ ?_<;>intro h)|(refine gI ?_;intro x hx)|(refine gJ ?_;intro j x hj hx)|refine gC (LD a m r) ?_|intro _))<;>try (conv=>whnf)
 exact⟨rfl,rfl,trivial⟩
theorem Rx (p:Proj) (b:Dom) (r t:Int) (hf:aC p b=true):Con 218 [.d p.av,.d b.av,.d (i64 r),.d (i64 t)] (.d (i64 (Ed p b r t))):=by
 refine con Tryz.func218 rfl rfl Tryz.call218 rfl fun hwf=>?_
 simp only [ARs.wf,AR.wf,AV.wf,AV.wfs,lm,lim] at hwf
 (repeat' ((conv=>whnf);first|refine gA ?_|(refine gB ?_ ?_<;>intro h)|(refine gI ?_;intro x hx)|(refine gJ ?_;intro j x hj hx)|refine gV ?_|intro _))<;>try (conv=>whnf)
 refine aB [2,3,4,5,13] [4,5] [] ?_
 (conv=>whnf)
 refine aA.go ((Nat)×(Int)) (fun⟨k,s⟩=>(k≤p.acts.length)∧(s=sumTo (sU p b r t) k)) (fun⟨k,s⟩=>[(14,.data (i64 k)),(9,.data (i64 s))]) (fun _=>[]) (fun _=>[]) (fun⟨k,s⟩=>p.acts.length - k) ⟨0,0⟩ ?_ ?_
 ·exact⟨by omega,rfl⟩
 rintro⟨k,s⟩ ⟨hk,hs⟩
 by_cases hlt:k < p.acts.length
 ·obtain⟨a,x,y,m,hg⟩:=dR hf hlt
  have hu:=wC hg.aok m r
  have hb:=Ba hf r t hk
  have hd:=jr hg.aok m
  rw [← mM hg] at hd
  have ha:=hg.lob
  have e:sU p b r t k=if y≤t∧t < x+kP p b k then gL a m r else 0:=by
   simp [sU,bf,List.getD_eq_getElem?_getD,hg.act,hg.lo,hg.hi,hg.modes]
  (repeat' ((conv=>whnf);first|with_reducible refine Idx.got hg.lo rfl ?_|with_reducible refine Idx.got hg.hi rfl ?_|refine gA ?_|(refine gB ?_ ?_<;>intro h)|(refine gI ?_;intro x hx)|(refine gJ ?_;intro j x hj hx)|refine gV ?_|refine gC (oN p b _ hg rfl) ?_|refine gC (wD p b r _ hg rfl) ?_|intro _))<;>try (conv=>whnf)
  all_goals first
   |(exfalso;omega)
   |(refine nx ⟨k+1,s+gL a m r⟩ ?_
     refine⟨by omega,?_⟩
     rw [sumTo,e,if_pos (by omega),hs];done)
   |(refine nx ⟨k+1,s⟩ ?_
     refine⟨by omega,?_⟩
     rw [sumTo,e,if_neg (by omega),hs];simp;done)
 ·(repeat' ((conv=>whnf);first|(exfalso;omega)|refine gA ?_|(refine gB ?_ ?_<;>intro h)|(refine gI ?_;intro x hx)|(refine gJ ?_;intro j x hj hx)|refine gV ?_|intro _))<;>try (conv=>whnf)
  refine⟨?_,rfl,trivial⟩
  rw [hs,show k=p.acts.length by omega];rfl
def four (s d x y:Int):List Int:=[s,d,x,y]
theorem Kv {s d x y:Int} {k:Nat} {n:Int} (hk:(four s d x y)[k]? =some n) (h:fits n=false):overlap s d x y=0:=by
 rw [overlap,if_neg]
 rintro⟨h1,h2,h3,h4⟩
 have hm:=List.mem_of_getElem? hk
 simp only [four,List.mem_cons,List.not_mem_nil,or_false] at hm
 rcases hm with rfl|rfl|rfl|rfl<;>simp_all
theorem Hq {s d x y:Int} (h:∀i n,i < 4→(four s d x y)[i]? =some n→fits n=true):(fits s=true∧fits d=true∧fits x=true∧fits y=true):=
 ⟨h 0 s (by omega) rfl,h 1 d (by omega) rfl,h 2 x (by omega) rfl,h 3 y (by omega) rfl⟩
theorem rP {n:Int}:fits n=true↔ -100000≤n∧n≤100000:=within_iff
theorem OW (s d x y:Int):Con 299 [.d (i64 s),.d (i64 d),.d (i64 x),.d (i64 y)] (.d (i64 (overlap s d x y))):=by
 refine con Tryz.func299 rfl rfl Tryz.call299 rfl fun hwf=>?_
 (repeat' ((conv=>whnf);first|refine gA ?_|(refine gN ?_ ?_<;>intro h hw)|(refine gB ?_ ?_<;>intro h)|(refine gI ?_;intro x hx)|(refine gJ ?_;intro j x hj hx)|refine gV ?_|intro _))<;>try (conv=>whnf)
 refine aB [0,1,2,3,15,16] [] [] ?_
 (conv=>whnf)
 refine aA.go ((Nat)) (fun k=>(k≤4)∧(∀i n,i < k→(four s d x y)[i]? =some n→fits n=true)) (fun k=>[(17,.data (i64 k))]) (fun _=>[]) (fun _=>[]) (fun k=>4 - k) (0) ?_ ?_
 ·exact⟨by omega,by omega⟩
 rintro k ⟨hk,hi⟩
 (repeat' ((conv=>whnf);first|refine Idx.at (l:=four s d x y) (f:=i64) (by simp [four] at*;omega) (fun z hz=>?_)|refine gA ?_|(refine gN ?_ ?_<;>intro h hw)|(refine gB ?_ ?_<;>intro h)|(refine gI ?_;intro x hx)|(refine gJ ?_;intro j x hj hx)|refine gV ?_|refine gC (aV _ _ _) ?_|intro _))<;>try (conv=>whnf)
 all_goals simp only [List.length_cons,List.length_nil] at*
 ·refine nx (k+1) ?_
  refine⟨by omega,fun i n hi' hn=>?_⟩
  by_cases e:i=k
  ·subst e;rw [hz] at hn;cases hn;assumption
  ·exact hi i n (by omega) hn
 ·refine⟨?_,rfl,trivial⟩
  rw [Kv hz h]
 all_goals
  have hf:=Hq fun i n hi' hn=>hi i n (by omega) hn
  simp only [rP] at hf
 ·refine⟨?_,rfl,trivial⟩
  rw [overlap,if_pos (by simp only [rP];exact hf),if_pos (by assumption)]
 ·(repeat' ((conv=>whnf);first|refine gA ?_|(refine gN ?_ ?_<;>intro h hw)|(refine gB ?_ ?_<;>intro h)|(refine gI ?_;intro x hx)|(refine gJ ?_;intro j x hj hx)|refine gV ?_|intro _))<;>try (conv=>whnf)
  refine⟨?_,rfl,trivial⟩
  rw [overlap,if_pos (by simp only [rP];exact hf),if_neg (by assumption)]
theorem OX (s d x y:Int):Con 294 [.d (i64 s),.d (i64 d),.d (i64 x),.d (i64 y)] (.d (i64 (overlap s d x y))):=by
 refine con Tryz.func294 rfl rfl Tryz.call294 rfl fun hwf=>?_
 (repeat' ((conv=>whnf);first|refine gA ?_|(refine gN ?_ ?_<;>intro h hw)|(refine gB ?_ ?_<;>intro h)|(refine gI ?_;intro x hx)|(refine gJ ?_;intro j x hj hx)|refine gV ?_|intro _))<;>try (conv=>whnf)
 refine aB [0,1,2,3,15,16] [] [] ?_
 (conv=>whnf)
 refine aA.go ((Nat)) (fun k=>(k≤4)∧(∀i n,i < k→(four s d x y)[i]? =some n→fits n=true)) (fun k=>[(17,.data (i64 k))]) (fun _=>[]) (fun _=>[]) (fun k=>4 - k) (0) ?_ ?_
 ·exact⟨by omega,by omega⟩
 rintro k ⟨hk,hi⟩
 (repeat' ((conv=>whnf);first|refine Idx.at (l:=four s d x y) (f:=i64) (by simp [four] at*;omega) (fun z hz=>?_)|refine gA ?_|(refine gN ?_ ?_<;>intro h hw)|(refine gB ?_ ?_<;>intro h)|(refine gI ?_;intro x hx)|(refine gJ ?_;intro j x hj hx)|refine gV ?_|refine gC (dh _ _ _) ?_|intro _))<;>try (conv=>whnf)
 all_goals simp only [List.length_cons,List.length_nil] at*
 ·refine nx (k+1) ?_
  refine⟨by omega,fun i n hi' hn=>?_⟩
  by_cases e:i=k
  ·subst e;rw [hz] at hn;cases hn;assumption
  ·exact hi i n (by omega) hn
 ·refine⟨?_,rfl,trivial⟩
  rw [Kv hz h]
 all_goals
  have hf:=Hq fun i n hi' hn=>hi i n (by omega) hn
  simp only [rP] at hf
 ·refine⟨?_,rfl,trivial⟩
  rw [overlap,if_pos (by simp only [rP];exact hf),if_pos (by assumption)]
 ·(repeat' ((conv=>whnf);first|refine gA ?_|(refine gN ?_ ?_<;>intro h hw)|(refine gB ?_ ?_<;>intro h)|(refine gI ?_;intro x hx)|(refine gJ ?_;intro j x hj hx)|refine gV ?_|refine gC (tu _ _) ?_|refine gC (mZ _ _) ?_|intro _))<;>try (conv=>whnf)
  refine⟨?_,rfl,trivial⟩
  rw [overlap,if_pos (by simp only [rP];exact hf),if_neg (by assumption),Int.max_comm]
theorem kI (s d x y:Int):0≤overlap s d x y∧overlap s d x y≤200000:=by
 unfold overlap
 split
 ·rename_i h
  simp only [rP] at h
  split<;>omega
 ·omega
theorem Gi {u v:Int} (h:0≤u∧u≤200000) (h':0≤v∧v≤20):0≤u*v∧u*v≤4000000:=
 ⟨Int.mul_nonneg h.1 h'.1,Int.le_trans (Int.mul_le_mul h.2 h'.2 h'.1 (by omega)) (by omega)⟩
structure Ux (p:Proj) (b:Dom) (k:Nat) (a:aH) (x y:Int) (r i:Int) (mo:Mode) (q ρ:Nat) (u:Int):Prop where
 iq:i=q
 rρ:r=ρ
 mode:a.modes[q]? =some mo
 use:mo.use[ρ]? =some u
 ub:0≤u∧u≤20
theorem Kw {p:Proj} {b:Dom} {k:Nat} {a:aH} {x y:Int} {m:List Int} (h:dW p b k a x y m) {r i:Int} (hr:dV p r=true) (hi:i∈m):∃mo q ρ u,Ux p b k a x y r i mo q ρ u:=by
 obtain⟨q,hq,hlt⟩:=h.ZE i hi
 have e1:a.modes[q]? =some (a.modes[q]'hlt):=by simp
 have hm:=jV h.aok (List.mem_of_getElem? e1)
 have hw:=within_iff.1 hr
 have e2:(a.modes[q]'hlt).use[r.toNat]? =some ((a.modes[q]'hlt).use[r.toNat]'(by omega)):=by simp
 exact⟨_,q,r.toNat,_,hq,by omega,e1,e2,hm.2.1 _ (List.mem_of_getElem? e2)⟩
theorem yO {p:Proj} {b:Dom} {k:Nat} {a:aH} {lo hi:Int} {m:List Int} (h:dW p b k a lo hi m) {r i:Int} {mo:Mode} {q ρ:Nat} {u:Int} (g:Ux p b k a lo hi r i mo q ρ u) (x y:Int):
  iB p b k r x y i=min (overlap lo mo.dur x y) (overlap hi mo.dur x y)*u:=by
 have h1:=g.iq;have h2:=g.rρ
 subst h1 h2
 simp [iB,bf,List.getD_eq_getElem?_getD,h.act,h.lo,h.hi,g.mode,g.use]
theorem rQ {p:Proj} {b:Dom} {k:Nat} {a:aH} {lo hi:Int} {m:List Int} (h:dW p b k a lo hi m) {r i:Int} (hr:dV p r=true) (hi':i∈m) (x y:Int):
  0≤iB p b k r x y i∧iB p b k r x y i≤4000000:=by
 obtain⟨mo,q,ρ,u,g⟩:=Kw h hr hi'
 rw [yO h g]
 exact Gi (by have:=kI lo mo.dur x y;have:=kI hi mo.dur x y;omega) g.ub
theorem Gj {p:Proj} {b:Dom} {k:Nat} {a:aH} {lo hi:Int} {m:List Int} (h:dW p b k a lo hi m) (r x y:Int):mg p b r x y k=least (m.map (iB p b k r x y)):=by
 simp [mg,List.getD_eq_getElem?_getD,h.modes]
theorem OY (p:Proj) (b:Dom) (n r x y:Int) {k:Nat} {a:aH} {lo hi:Int} {m:List Int} (hg:dW p b k a lo hi m) (hn:n=k) (hr:dV p r=true):
  Con 271 [.d p.av,.d b.av,.d (i64 n),.d (i64 r),.d (i64 x),.d (i64 y)] (.d (i64 (mg p b r x y k))):=by
 refine con Tryz.func271 rfl rfl Tryz.call271 rfl fun hwf=>?_
 simp only [ARs.wf,AR.wf,AV.wf,AV.wfs,lm,lim] at hwf
 have hml:=qE hwf.2.1.2.2.1.2 hg.modes
 simp only [AV.wf,AV.wfs,List.length_map] at hml
 rw [Gj hg, ← qN]
 (repeat' ((conv=>whnf);first|with_reducible refine Idx.got hg.modes hn ?_|refine gA ?_|(refine gB ?_ ?_<;>intro h)|(refine gI ?_;intro x hx)|(refine gJ ?_;intro j x hj hx)|refine gV ?_|intro _))<;>try (conv=>whnf)
 refine aB [2,3,4,5,6,7,23,24] [6,7] [] ?_
 (conv=>whnf)
 refine aA.go ((Nat)×(Int)×(Bool)) (fun⟨j,s,f⟩=>(j≤m.length)∧(sJ (!f) s ((m.drop j).map (iB p b k r x y))=sJ true 0 (m.map (iB p b k r x y)))) (fun⟨j,s,f⟩=>[(25,.data (i64 j)),(13,.data (i64 s)),(14,.data (.bool f))]) (fun _=>[]) (fun _=>[]) (fun⟨j,s,f⟩=>m.length - j) ⟨0,0,false⟩ ?_ ?_
 ·exact⟨by omega,rfl⟩
 rintro⟨j,s,f⟩ ⟨hj,hi'⟩
 by_cases hlt:j < m.length
 ·obtain⟨i,hx⟩:∃x,m[j]? =some x:=⟨m[j]'hlt,by simp⟩
  obtain⟨mo,q,ρ,u,g⟩:=Kw hg hr (List.mem_of_getElem? hx)
  rw [au hx,List.map_cons,sJ,yO hg g] at hi'
  have hb:=Gi (u:=min (overlap lo mo.dur x y) (overlap hi mo.dur x y)) (by have:=kI lo mo.dur x y;have:=kI hi mo.dur x y;omega) g.ub
  (repeat' ((conv=>whnf);first|with_reducible refine Idx.got hx rfl ?_|with_reducible refine Idx.got hg.act hn ?_|with_reducible refine Idx.got hg.lo hn ?_|with_reducible refine Idx.got hg.hi hn ?_|with_reducible refine Idx.got g.mode g.iq ?_|with_reducible refine Idx.got g.use g.rρ ?_|refine gA ?_|(refine gB ?_ ?_<;>intro h)|(refine gI ?_;intro x hx)|(refine gJ ?_;intro j x hj hx)|refine gV ?_|refine gC (OW _ _ _ _) ?_|intro _))<;>try (conv=>whnf)
  ·apply Exists.intro (⟨j+1,_,true⟩)
   refine⟨?_,rfl,?_,?_⟩
   rotate_left
   ·(repeat' ((conv=>whnf)<;>(first|exact trivial|exact rfl|with_reducible refine And.intro ?_ ?_)))
   ·(try dsimp only);(try simp only [List.length_map]);omega
   rw [if_pos (.inr (by assumption))] at hi'
   exact⟨by omega,hi'⟩
  ·refine nx ⟨j+1,s,f⟩ ?_
   rw [if_neg (by simp [*])] at hi'
   refine⟨by omega,?_⟩
   rw [← hi'];simp [*]
  ·apply Exists.intro (⟨j+1,_,true⟩)
   refine⟨?_,rfl,?_,?_⟩
   rotate_left
   ·(repeat' ((conv=>whnf)<;>(first|exact trivial|exact rfl|with_reducible refine And.intro ?_ ?_)))
   ·(try dsimp only);(try simp only [List.length_map]);omega
   rw [if_pos (.inl (by simp [*]))] at hi'
   exact⟨by omega,hi'⟩
  ·exfalso;omega
 ·(repeat' ((conv=>whnf);first|(exfalso;omega)|refine gA ?_|(refine gB ?_ ?_<;>intro h)|(refine gI ?_;intro x hx)|(refine gJ ?_;intro j x hj hx)|refine gV ?_|intro _))<;>try (conv=>whnf)
  refine⟨?_,rfl,trivial⟩
  rw [← hi',nL hlt];rfl
theorem OZ (p:Proj) (b:Dom) (n r x y:Int) {k:Nat} {a:aH} {lo hi:Int} {m:List Int} (hg:dW p b k a lo hi m) (hn:n=k) (hr:dV p r=true):
  Con 258 [.d p.av,.d b.av,.d (i64 n),.d (i64 r),.d (i64 x),.d (i64 y)] (.d (i64 (mg p b r x y k))):=by
 refine con Tryz.func258 rfl rfl Tryz.call258 rfl fun hwf=>?_
 simp only [ARs.wf,AR.wf,AV.wf,AV.wfs,lm,lim] at hwf
 have hml:=qE hwf.2.1.2.2.1.2 hg.modes
 simp only [AV.wf,AV.wfs,List.length_map] at hml
 rw [Gj hg, ← qN]
 (repeat' ((conv=>whnf);first|with_reducible refine Idx.got hg.modes hn ?_|refine gA ?_|(refine gB ?_ ?_<;>intro h)|(refine gI ?_;intro x hx)|(refine gJ ?_;intro j x hj hx)|refine gV ?_|intro _))<;>try (conv=>whnf)
 refine aB [2,3,4,5,6,7,22,23] [6,7] [] ?_
 (conv=>whnf)
 refine aA.go ((Nat)×(Int)) (fun⟨j,s⟩=>(j≤m.length)∧(-1≤s)∧(max (sJ (decide (s < 0)) s ((m.drop j).map (iB p b k r x y))) 0=sJ true 0 (m.map (iB p b k r x y)))) (fun⟨j,s⟩=>[(24,.data (i64 j)),(13,.data (i64 s))]) (fun _=>[]) (fun _=>[]) (fun⟨j,s⟩=>m.length - j) ⟨0, -1⟩ ?_ ?_
 ·refine⟨by omega,by omega,?_⟩
  have hb:∀i∈m,0≤iB p b k r x y i:=fun i hi=>(rQ hg hr hi x y).1
  have e:0≤sJ true 0 (m.map (iB p b k r x y)):=by
   rw [qN]
   exact (tC (c:=4000000) (by omega) fun z hz=>by
    obtain⟨i,hi,rfl⟩:=List.mem_map.1 hz
    exact rQ hg hr hi x y).1
  simp only [List.drop_zero]
  cases m with
  |nil=>rfl
  |cons i t=>simp only [List.map_cons,sJ] at e ⊢;simp at e ⊢;omega
 rintro⟨j,s⟩ ⟨hj,hs,hi'⟩
 by_cases hlt:j < m.length
 ·obtain⟨i,hx⟩:∃x,m[j]? =some x:=⟨m[j]'hlt,by simp⟩
  obtain⟨mo,q,ρ,u,g⟩:=Kw hg hr (List.mem_of_getElem? hx)
  rw [au hx,List.map_cons,sJ,yO hg g] at hi'
  have hb:=Gi (u:=min (overlap lo mo.dur x y) (overlap hi mo.dur x y)) (by have:=kI lo mo.dur x y;have:=kI hi mo.dur x y;omega) g.ub
  rw [Int.mul_comm (min _ _) u] at hb
  rw [Int.mul_comm (min _ _) u] at hi'
  (repeat' ((conv=>whnf);first|with_reducible refine Idx.got hx rfl ?_|with_reducible refine Idx.got hg.act hn ?_|with_reducible refine Idx.got hg.lo hn ?_|with_reducible refine Idx.got hg.hi hn ?_|with_reducible refine Idx.got g.mode g.iq ?_|with_reducible refine Idx.got g.use g.rρ ?_|refine gA ?_|(refine gB ?_ ?_<;>intro h)|(refine gI ?_;intro x hx)|(refine gJ ?_;intro j x hj hx)|refine gV ?_|refine gC (OX _ _ _ _) ?_|refine gC (tu _ _) ?_|refine gC (mZ _ _) ?_|intro _))<;>try (conv=>whnf)
  ·refine nx ⟨j+1,u*min (overlap lo mo.dur x y) (overlap hi mo.dur x y)⟩ ?_
   rw [if_pos (.inl (by simp [*]))] at hi'
   exact⟨by omega,by omega,by rw [decide_eq_false (by omega)];exact hi'⟩
  ·refine nx ⟨j+1,u*min (overlap lo mo.dur x y) (overlap hi mo.dur x y)⟩ ?_
   rw [if_pos (.inr (by assumption))] at hi'
   exact⟨by omega,by omega,by rw [decide_eq_false (by omega)];exact hi'⟩
  ·refine nx ⟨j+1,s⟩ ?_
   rw [if_neg (by rw [decide_eq_true_eq];omega)] at hi'
   exact⟨by omega,by omega,by rw [decide_eq_false (by omega)];exact hi'⟩
  ·exfalso;omega
 ·(repeat' ((conv=>whnf);first|(exfalso;omega)|refine gA ?_|(refine gB ?_ ?_<;>intro h)|(refine gI ?_;intro x hx)|(refine gJ ?_;intro j x hj hx)|refine gV ?_|refine gC (mZ _ _) ?_|intro _))<;>try (conv=>whnf)
  refine⟨?_,rfl,trivial⟩
  rw [← hi',nL hlt];rfl
theorem qF {p:Proj} {b:Dom} (hf:aC p b=true) {r:Int} (hr:dV p r=true) (x y:Int) {k:Nat} (hk:k < p.acts.length):0≤mg p b r x y k∧mg p b r x y k≤4000000:=by
 obtain⟨a,lo,hi,m,h⟩:=dR hf hk
 rw [Gj h]
 exact tC (by omega) fun z hz=>by
  obtain⟨i,hi,rfl⟩:=List.mem_map.1 hz
  exact rQ h hr hi x y
theorem Ky (p:Proj) (b:Dom) (r x y:Int) (hf:aC p b=true) (hr:dV p r=true):Con 241 [.d p.av,.d b.av,.d (i64 r),.d (i64 x),.d (i64 y)] (.d (i64 (oo p b r x y))):=by
 refine con Tryz.func241 rfl rfl Tryz.call241 rfl fun hwf=>?_
 simp only [ARs.wf,AR.wf,AV.wf,AV.wfs,lm,lim] at hwf
 (repeat' ((conv=>whnf);first|refine gA ?_|(refine gB ?_ ?_<;>intro h)|refine gV ?_|intro _))<;>try (conv=>whnf)
 refine aB [2,3,4,5,6,15] [5,6] [] ?_
 (conv=>whnf)
 refine aA.go ((Nat)×(Int)) (fun⟨k,s⟩=>(k≤p.acts.length)∧(s=sumTo (mg p b r x y) k)) (fun⟨k,s⟩=>[(16,.data (i64 k)),(11,.data (i64 s))]) (fun _=>[]) (fun _=>[]) (fun⟨k,s⟩=>p.acts.length - k) ⟨0,0⟩ ?_ ?_
 ·exact⟨by omega,rfl⟩
 rintro⟨k,s⟩ ⟨hk,hs⟩
 by_cases hlt:k < p.acts.length
 ·obtain⟨a,lo,hi,m,hg⟩:=dR hf hlt
  have hb:=kY (f:=mg p b r x y) (c:=4000000) (n:=k) fun i hi=>qF hf hr x y (by omega)
  have hw:=qF hf hr x y hlt
  (repeat' ((conv=>whnf);first|refine gA ?_|(refine gB ?_ ?_<;>intro h)|refine gV ?_|refine gC (OY p b _ r x y hg rfl hr) ?_|intro _))<;>try (conv=>whnf)
  ·refine nx ⟨k+1,s+mg p b r x y k⟩ ?_
   exact⟨by omega,by rw [sumTo,hs]⟩
  ·exfalso;omega
 ·(repeat' ((conv=>whnf);first|(exfalso;omega)|refine gA ?_|(refine gB ?_ ?_<;>intro h)|refine gV ?_|intro _))<;>try (conv=>whnf)
  refine⟨?_,rfl,trivial⟩
  rw [hs,show k=p.acts.length by omega];rfl
theorem tF {t:Int}:∀{l:List Step} {n:Int},(∀s∈l,0≤s.cap∧s.cap≤20)→(0≤n∧n≤20)→0≤iZ t l n∧iZ t l n≤20
 |[],_,_,h=>h
 |s::l,n,h,h'=>by
  rw [iZ]
  refine tF (fun q hq=>h q (by simp [hq])) ?_
  have:=h s (by simp)
  split<;>omega
theorem yP {l:List Step} (h:gY l=true):∀s∈l,0≤s.cap∧s.cap≤20:=by
 intro s hs
 obtain⟨i,hi,rfl⟩:=List.getElem_of_mem hs
 simp only [gY,Bool.and_eq_true,bg] at h
 have:=h.1 i hi
 simp only [yB,List.getElem?_eq_getElem hi,Bool.and_eq_true,dU,within_iff] at this
 exact this.1.1.2
theorem wE {l:List Step} (h:gY l=true) (x:Int):∀n:Nat,0≤qd l x n∧qd l x n≤20*n
 |0=>by simp [qd]
 |n+1=>by
  have h1:=wE h x n
  have h2:=tF (t:=x+n) (yP h) (show (0:Int)≤0∧(0:Int)≤20 by omega)
  rw [qd];omega
theorem Cw (l:List Step) (x y:Int):Con 233 [.d (.sl (l.map Step.av)),.d (i64 x),.d (i64 y)] (.d (i64 (mG l x y))):=by
 refine con Tryz.func233 rfl rfl Tryz.call233 rfl fun hwf=>?_
 by_cases hok:gY l=true∧bC x=true∧bC y=true
 ·rw [mG,if_pos hok]
  have hx:=within_iff.1 hok.2.1
  have hy:=within_iff.1 hok.2.2
  (repeat' ((conv=>whnf);first|refine gA ?_|(refine gN ?_ ?_<;>intro h hw)|(refine gB ?_ ?_<;>intro h)|refine gV ?_|refine gC (vY l) ?_|refine gC (mY _) ?_|intro _))<;>try (conv=>whnf)
  all_goals try (exfalso;simp_all;done)
  refine aB [0,2] [] [] ?_
  (conv=>whnf)
  refine aA.go ((Nat)×(Int)×(Int)) (fun⟨k,t,s⟩=>(t=x+k)∧((k:Int)≤max (y - x) 0)∧(s=qd l x k)) (fun⟨k,t,s⟩=>[(8,.data (i64 t)),(7,.data (i64 s))]) (fun _=>[]) (fun _=>[]) (fun⟨k,t,s⟩=>(max (y - x) 0).toNat - k) ⟨0,x,0⟩ ?_ ?_
  ·exact⟨by omega,by omega,rfl⟩
  rintro⟨k,t,s⟩ ⟨ht,hk,hs⟩
  have hc:=wE hok.1 x k
  have hc':=tF (t:=t) (yP hok.1) (show (0:Int)≤0∧(0:Int)≤20 by omega)
  (repeat' ((conv=>whnf);first|refine gA ?_|(refine gN ?_ ?_<;>intro h hw)|(refine gB ?_ ?_<;>intro h)|refine gV ?_|refine gC (qh l _) ?_|intro _))<;>try (conv=>whnf)
  ·refine nx ⟨k+1,t+1,s+iZ t l 0⟩ ?_
   exact⟨by omega,by omega,by rw [qd,hs,ht]⟩
  ·refine⟨?_,rfl,trivial⟩
   rw [hs,show (y - x).toNat=k by omega]
 ·(repeat' ((conv=>whnf);first|refine gA ?_|(refine gN ?_ ?_<;>intro h hw)|(refine gB ?_ ?_<;>intro h)|refine gV ?_|refine gC (vY l) ?_|refine gC (mY _) ?_|intro _))<;>try (conv=>whnf)
  all_goals first
   |(exfalso;exact hok ⟨by assumption,by assumption,by assumption⟩)
   |(refine⟨?_,rfl,trivial⟩;rw [mG,if_neg hok])
theorem EC (l:List Step) (x y:Int):Con 295 [.d (.sl (l.map Step.av)),.d (i64 x),.d (i64 y)] (.d (.bool (gY l&&(bC x&&bC y)))):=by
 refine con Tryz.func295 rfl rfl Tryz.call295 rfl fun hwf=>?_
 (repeat' ((conv=>whnf);first|refine gA ?_|(refine gN ?_ ?_<;>intro h hw)|(refine gB ?_ ?_<;>intro h)|refine gC (Ep l) ?_|refine gC (dh _ _ _) ?_|intro _))<;>try (conv=>whnf)
 all_goals refine⟨?_,rfl,trivial⟩
 all_goals simp [bC, *]
theorem Cy (l:List Step) (x y:Int):Con 259 [.d (.sl (l.map Step.av)),.d (i64 x),.d (i64 y)] (.d (i64 (mG l x y))):=by
 refine con Tryz.func259 rfl rfl Tryz.call259 rfl fun hwf=>?_
 by_cases hok:gY l=true∧bC x=true∧bC y=true
 ·rw [mG,if_pos hok]
  have hx:=within_iff.1 hok.2.1
  have hy:=within_iff.1 hok.2.2
  have e:(gY l&&(bC x&&bC y))=true:=by simp [hok]
  (repeat' ((conv=>whnf);first|refine gA ?_|(refine gB ?_ ?_<;>intro h)|refine gV ?_|refine gC (EC l x y) ?_|intro _))<;>try (conv=>whnf)
  refine aB [0,2] [] [] ?_
  (conv=>whnf)
  refine aA.go ((Nat)×(Int)×(Int)) (fun⟨k,t,s⟩=>(t=x+k)∧((k:Int)≤max (y - x) 0)∧(s=qd l x k)) (fun⟨k,t,s⟩=>[(8,.data (i64 t)),(7,.data (i64 s))]) (fun _=>[]) (fun _=>[]) (fun⟨k,t,s⟩=>(max (y - x) 0).toNat - k) ⟨0,x,0⟩ ?_ ?_
  ·exact⟨by omega,by omega,rfl⟩
  rintro⟨k,t,s⟩ ⟨ht,hk,hs⟩
  have hc:=wE hok.1 x k
  have hc':=tF (t:=t) (yP hok.1) (show (0:Int)≤0∧(0:Int)≤20 by omega)
  (repeat' ((conv=>whnf);first|refine gA ?_|(refine gB ?_ ?_<;>intro h)|refine gV ?_|refine gC (Kl l _) ?_|intro _))<;>try (conv=>whnf)
  ·refine nx ⟨k+1,t+1,s+iZ t l 0⟩ ?_
   exact⟨by omega,by omega,by rw [qd,hs,ht]⟩
  ·refine⟨?_,rfl,trivial⟩
   rw [hs,show (y - x).toNat=k by omega]
 ·have e:(gY l&&(bC x&&bC y))=false:=by rw [← Bool.not_eq_true];simpa using hok
  (repeat' ((conv=>whnf);first|refine gA ?_|(refine gB ?_ ?_<;>intro h)|refine gV ?_|refine gC (EC l x y) ?_|intro _))<;>try (conv=>whnf)
  refine⟨?_,rfl,trivial⟩;rw [mG,if_neg hok]
end Go.Proofs.YtefgamefajmdkaaGreat.Abs
