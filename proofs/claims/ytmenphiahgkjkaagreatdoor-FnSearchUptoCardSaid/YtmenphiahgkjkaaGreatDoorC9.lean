/- Contracts: work, capacity, refutations. -/
import Derived.Test.YtmenphiahgkjkaaGreatDoorC8
set_option linter.all false
set_option maxRecDepth 20000
set_option maxHeartbeats 0
namespace Go.Proofs.YtmenphiahgkjkaaGreatDoor.Abs
open Go.Proofs
def four (s d x y:Int):List Int:=[s,d,x,y]
theorem Vr {s d x y:Int} {k:Nat} {n:Int} (hk:(four s d x y)[k]? =some n) (h:fits n=false):overlap s d x y=0:=by
 rw [overlap,if_neg]
 rintro⟨h1,h2,h3,h4⟩
 have hm:=List.mem_of_getElem? hk
 simp only [four,List.mem_cons,List.not_mem_nil,or_false] at hm
 rcases hm with rfl|rfl|rfl|rfl<;>simp_all
theorem Tn {s d x y:Int} (h:∀i n,i < 4→(four s d x y)[i]? =some n→fits n=true):(fits s=true∧fits d=true∧fits x=true∧fits y=true):=
 ⟨h 0 s (by omega) rfl,h 1 d (by omega) rfl,h 2 x (by omega) rfl,h 3 y (by omega) rfl⟩
theorem EK {n:Int}:fits n=true↔ -100000≤n∧n≤100000:=within_iff
theorem Qz (s d x y:Int):Con 214 [.d (i64 s),.d (i64 d),.d (i64 x),.d (i64 y)] (.d (i64 (overlap s d x y))):=by
 refine con Tryz.func214 rfl rfl Tryz.call214 rfl fun hwf=>?_
 (repeat' ((conv=>whnf);first|refine gA ?_|(refine gN ?_ ?_<;>intro h hw)|(refine gB ?_ ?_<;>intro h)|(refine gI ?_;intro x hx)|(refine gJ ?_;intro j x hj hx)|refine gV ?_|intro _))<;>try (conv=>whnf)
 refine aB [0,1,2,3,15,16] [] [] ?_
 (conv=>whnf)
 refine aA.go ((Nat)) (fun k=>(k≤4)∧(∀i n,i < k→(four s d x y)[i]? =some n→fits n=true)) (fun k=>[(17,.data (i64 k))]) (fun _=>[]) (fun _=>[]) (fun k=>4 - k) (0) ?_ ?_
 ·exact⟨by omega,by omega⟩
 rintro k ⟨hk,hi⟩
 (repeat' ((conv=>whnf);first|refine Idx.at (l:=four s d x y) (f:=i64) (by simp [four] at*;omega) (fun z hz=>?_)|refine gA ?_|(refine gN ?_ ?_<;>intro h hw)|(refine gB ?_ ?_<;>intro h)|(refine gI ?_;intro x hx)|(refine gJ ?_;intro j x hj hx)|refine gV ?_|refine gC (aS _ _ _) ?_|intro _))<;>try (conv=>whnf)
 all_goals simp only [List.length_cons,List.length_nil] at*
 ·refine nx (k+1) ?_
  refine⟨by omega,fun i n hi' hn=>?_⟩
  by_cases e:i=k
  ·subst e;rw [hz] at hn;cases hn;assumption
  ·exact hi i n (by omega) hn
 ·refine⟨?_,rfl,trivial⟩
  rw [Vr hz h]
 all_goals
  have hf:=Tn fun i n hi' hn=>hi i n (by omega) hn
  simp only [EK] at hf
 ·refine⟨?_,rfl,trivial⟩
  rw [overlap,if_pos (by simp only [EK];exact hf),if_pos (by assumption)]
 ·(repeat' ((conv=>whnf);first|refine gA ?_|(refine gN ?_ ?_<;>intro h hw)|(refine gB ?_ ?_<;>intro h)|(refine gI ?_;intro x hx)|(refine gJ ?_;intro j x hj hx)|refine gV ?_|intro _))<;>try (conv=>whnf)
  refine⟨?_,rfl,trivial⟩
  rw [overlap,if_pos (by simp only [EK];exact hf),if_neg (by assumption)]
theorem qg (s d x y:Int):0≤overlap s d x y∧overlap s d x y≤200000:=by
 unfold overlap
 split
 ·rename_i h
  simp only [EK] at h
  split<;>omega
 ·omega
theorem Oq {u v:Int} (h:0≤u∧u≤200000) (h':0≤v∧v≤20):0≤u*v∧u*v≤4000000:=
 ⟨Int.mul_nonneg h.1 h'.1,Int.le_trans (Int.mul_le_mul h.2 h'.2 h'.1 (by omega)) (by omega)⟩
structure WJ (p:Proj) (b:Dom) (k:Nat) (a:aC) (x y:Int) (r i:Int) (mo:Mode) (q ρ:Nat) (u:Int):Prop where
 iq:i=q
 rρ:r=ρ
 mode:a.modes[q]? =some mo
 use:mo.use[ρ]? =some u
 ub:0≤u∧u≤20
theorem Tp {p:Proj} {b:Dom} {k:Nat} {a:aC} {x y:Int} {m:List Int} (h:fV p b k a x y m) {r i:Int} (hr:fT p r=true) (hi:i∈m):∃mo q ρ u,WJ p b k a x y r i mo q ρ u:=by
 obtain⟨q,hq,hlt⟩:=h.aah i hi
 have e1:a.modes[q]? =some (a.modes[q]'hlt):=by simp
 have hm:=kE h.aok (List.mem_of_getElem? e1)
 have hw:=within_iff.1 hr
 have e2:(a.modes[q]'hlt).use[r.toNat]? =some ((a.modes[q]'hlt).use[r.toNat]'(by omega)):=by simp
 exact⟨_,q,r.toNat,_,hq,by omega,e1,e2,hm.2.1 _ (List.mem_of_getElem? e2)⟩
theorem Ig {p:Proj} {b:Dom} {k:Nat} {a:aC} {lo hi:Int} {m:List Int} (h:fV p b k a lo hi m) {r i:Int} {mo:Mode} {q ρ:Nat} {u:Int} (g:WJ p b k a lo hi r i mo q ρ u) (x y:Int):
  kI p b k r x y i=min (overlap lo mo.dur x y) (overlap hi mo.dur x y)*u:=by
 have h1:=g.iq;have h2:=g.rρ
 subst h1 h2
 simp [kI,aZ,List.getD_eq_getElem?_getD,h.act,h.lo,h.hi,g.mode,g.use]
theorem KT {p:Proj} {b:Dom} {k:Nat} {a:aC} {lo hi:Int} {m:List Int} (h:fV p b k a lo hi m) {r i:Int} (hr:fT p r=true) (hi':i∈m) (x y:Int):
  0≤kI p b k r x y i∧kI p b k r x y i≤4000000:=by
 obtain⟨mo,q,ρ,u,g⟩:=Tp h hr hi'
 rw [Ig h g]
 exact Oq (by have:=qg lo mo.dur x y;have:=qg hi mo.dur x y;omega) g.ub
theorem Ot {p:Proj} {b:Dom} {k:Nat} {a:aC} {lo hi:Int} {m:List Int} (h:fV p b k a lo hi m) (r x y:Int):qY p b r x y k=least (m.map (kI p b k r x y)):=by
 simp [qY,List.getD_eq_getElem?_getD,h.modes]
theorem QA (p:Proj) (b:Dom) (n r x y:Int) {k:Nat} {a:aC} {lo hi:Int} {m:List Int} (hg:fV p b k a lo hi m) (hn:n=k) (hr:fT p r=true):
  Con 202 [.d p.av,.d b.av,.d (i64 n),.d (i64 r),.d (i64 x),.d (i64 y)] (.d (i64 (qY p b r x y k))):=by
 refine con Tryz.func202 rfl rfl Tryz.call202 rfl fun hwf=>?_
 simp only [ARs.wf,AR.wf,AV.wf,AV.wfs,lm,lim] at hwf
 have hml:=rP hwf.2.1.2.2.1.2 hg.modes
 simp only [AV.wf,AV.wfs,List.length_map] at hml
 rw [Ot hg, ← Gy]
 (repeat' ((conv=>whnf);first|with_reducible refine Idx.got hg.modes hn ?_|refine gA ?_|(refine gB ?_ ?_<;>intro h)|(refine gI ?_;intro x hx)|(refine gJ ?_;intro j x hj hx)|refine gV ?_|intro _))<;>try (conv=>whnf)
 refine aB [2,3,4,5,6,7,23,24] [6,7] [] ?_
 (conv=>whnf)
 refine aA.go ((Nat)×(Int)×(Bool)) (fun⟨j,s,f⟩=>(j≤m.length)∧(EG (!f) s ((m.drop j).map (kI p b k r x y))=EG true 0 (m.map (kI p b k r x y)))) (fun⟨j,s,f⟩=>[(25,.data (i64 j)),(13,.data (i64 s)),(14,.data (.bool f))]) (fun _=>[]) (fun _=>[]) (fun⟨j,s,f⟩=>m.length - j) ⟨0,0,false⟩ ?_ ?_
 ·exact⟨by omega,rfl⟩
 rintro⟨j,s,f⟩ ⟨hj,hi'⟩
 by_cases hlt:j < m.length
 ·obtain⟨i,hx⟩:∃x,m[j]? =some x:=⟨m[j]'hlt,by simp⟩
  obtain⟨mo,q,ρ,u,g⟩:=Tp hg hr (List.mem_of_getElem? hx)
  rw [aF hx,List.map_cons,EG,Ig hg g] at hi'
  have hb:=Oq (u:=min (overlap lo mo.dur x y) (overlap hi mo.dur x y)) (by have:=qg lo mo.dur x y;have:=qg hi mo.dur x y;omega) g.ub
  (repeat' ((conv=>whnf);first|with_reducible refine Idx.got hx rfl ?_|with_reducible refine Idx.got hg.act hn ?_|with_reducible refine Idx.got hg.lo hn ?_|with_reducible refine Idx.got hg.hi hn ?_|with_reducible refine Idx.got g.mode g.iq ?_|with_reducible refine Idx.got g.use g.rρ ?_|refine gA ?_|(refine gB ?_ ?_<;>intro h)|(refine gI ?_;intro x hx)|(refine gJ ?_;intro j x hj hx)|refine gV ?_|refine gC (Qz _ _ _ _) ?_|intro _))<;>try (conv=>whnf)
  ·apply Exists.intro (⟨j+1,_,true⟩)
   refine⟨?_,rfl,?_,?_⟩
   rotate_left
   ·(repeat' ((conv=>whnf)<;>(first|exact trivial|exact rfl|with_reducible refine And.intro ?_ ?_)))
   ·(try dsimp only);(try simp only [List.length_map]);omega
   rw [if_pos (.inr (by assumption))] at hi'
   exact⟨by omega,hi'⟩
  ·refine nx ⟨j+1,s,f⟩ ?_
   rw [if_neg (by simp [*])] at hi'
   refine⟨by omega,?_⟩
   rw [← hi'];simp [*]
  ·apply Exists.intro (⟨j+1,_,true⟩)
   refine⟨?_,rfl,?_,?_⟩
   rotate_left
   ·(repeat' ((conv=>whnf)<;>(first|exact trivial|exact rfl|with_reducible refine And.intro ?_ ?_)))
   ·(try dsimp only);(try simp only [List.length_map]);omega
   rw [if_pos (.inl (by simp [*]))] at hi'
   exact⟨by omega,hi'⟩
  ·exfalso;omega
 ·(repeat' ((conv=>whnf);first|(exfalso;omega)|refine gA ?_|(refine gB ?_ ?_<;>intro h)|(refine gI ?_;intro x hx)|(refine gJ ?_;intro j x hj hx)|refine gV ?_|intro _))<;>try (conv=>whnf)
  refine⟨?_,rfl,trivial⟩
  rw [← hi',sW hlt];rfl
theorem EL {p:Proj} {b:Dom} (hf:ak p b=true) {r:Int} (hr:fT p r=true) (x y:Int) {k:Nat} (hk:k < p.acts.length):0≤qY p b r x y k∧qY p b r x y k≤4000000:=by
 obtain⟨a,lo,hi,m,h⟩:=dL hf hk
 rw [Ot h]
 exact zH (by omega) fun z hz=>by
  obtain⟨i,hi,rfl⟩:=List.mem_map.1 hz
  exact KT h hr hi x y
theorem KU (p:Proj) (b:Dom) (r x y:Int) (hf:ak p b=true) (hr:fT p r=true):Con 174 [.d p.av,.d b.av,.d (i64 r),.d (i64 x),.d (i64 y)] (.d (i64 (rY p b r x y))):=by
 refine con Tryz.func174 rfl rfl Tryz.call174 rfl fun hwf=>?_
 simp only [ARs.wf,AR.wf,AV.wf,AV.wfs,lm,lim] at hwf
 (repeat' ((conv=>whnf);first|refine gA ?_|(refine gB ?_ ?_<;>intro h)|refine gV ?_|intro _))<;>try (conv=>whnf)
 refine aB [2,3,4,5,6,15] [5,6] [] ?_
 (conv=>whnf)
 refine aA.go ((Nat)×(Int)) (fun⟨k,s⟩=>(k≤p.acts.length)∧(s=sumTo (qY p b r x y) k)) (fun⟨k,s⟩=>[(16,.data (i64 k)),(11,.data (i64 s))]) (fun _=>[]) (fun _=>[]) (fun⟨k,s⟩=>p.acts.length - k) ⟨0,0⟩ ?_ ?_
 ·exact⟨by omega,rfl⟩
 rintro⟨k,s⟩ ⟨hk,hs⟩
 by_cases hlt:k < p.acts.length
 ·obtain⟨a,lo,hi,m,hg⟩:=dL hf hlt
  have hb:=qG (f:=qY p b r x y) (c:=4000000) (n:=k) fun i hi=>EL hf hr x y (by omega)
  have hw:=EL hf hr x y hlt
  (repeat' ((conv=>whnf);first|refine gA ?_|(refine gB ?_ ?_<;>intro h)|refine gV ?_|refine gC (QA p b _ r x y hg rfl hr) ?_|intro _))<;>try (conv=>whnf)
  ·refine nx ⟨k+1,s+qY p b r x y k⟩ ?_
   exact⟨by omega,by rw [sumTo,hs]⟩
  ·exfalso;omega
 ·(repeat' ((conv=>whnf);first|(exfalso;omega)|refine gA ?_|(refine gB ?_ ?_<;>intro h)|refine gV ?_|intro _))<;>try (conv=>whnf)
  refine⟨?_,rfl,trivial⟩
  rw [hs,show k=p.acts.length by omega];rfl
theorem zK {t:Int}:∀{l:List Step} {n:Int},(∀s∈l,0≤s.cap∧s.cap≤20)→(0≤n∧n≤20)→0≤oF t l n∧oF t l n≤20
 |[],_,_,h=>h
 |s::l,n,h,h'=>by
  rw [oF]
  refine zK (fun q hq=>h q (by simp [hq])) ?_
  have:=h s (by simp)
  split<;>omega
theorem Ih {l:List Step} (h:lV l=true):∀s∈l,0≤s.cap∧s.cap≤20:=by
 intro s hs
 obtain⟨i,hi,rfl⟩:=List.getElem_of_mem hs
 simp only [lV,Bool.and_eq_true,bX] at h
 have:=h.1 i hi
 simp only [Gu,List.getElem?_eq_getElem hi,Bool.and_eq_true,mU,within_iff] at this
 exact this.1.1.2
theorem EM {l:List Step} (h:lV l=true) (x:Int):∀n:Nat,0≤vG l x n∧vG l x n≤20*n
 |0=>by simp [vG]
 |n+1=>by
  have h1:=EM h x n
  have h2:=zK (t:=x+n) (Ih h) (show (0:Int)≤0∧(0:Int)≤20 by omega)
  rw [vG];omega
theorem Da (l:List Step) (x y:Int):Con 116 [.d (.sl (l.map Step.av)),.d (i64 x),.d (i64 y)] (.d (i64 (vZ l x y))):=by
 refine con Tryz.func116 rfl rfl Tryz.call116 rfl fun hwf=>?_
 by_cases hok:lV l=true∧eY x=true∧eY y=true
 ·rw [vZ,if_pos hok]
  have hx:=within_iff.1 hok.2.1
  have hy:=within_iff.1 hok.2.2
  (repeat' ((conv=>whnf);first|refine gA ?_|(refine gN ?_ ?_<;>intro h hw)|(refine gB ?_ ?_<;>intro h)|refine gV ?_|refine gC (xH l) ?_|refine gC (jZ _) ?_|intro _))<;>try (conv=>whnf)
  all_goals try (exfalso;simp_all;done)
  refine aB [0,2] [] [] ?_
  (conv=>whnf)
  refine aA.go ((Nat)×(Int)×(Int)) (fun⟨k,t,s⟩=>(t=x+k)∧((k:Int)≤max (y - x) 0)∧(s=vG l x k)) (fun⟨k,t,s⟩=>[(8,.data (i64 t)),(7,.data (i64 s))]) (fun _=>[]) (fun _=>[]) (fun⟨k,t,s⟩=>(max (y - x) 0).toNat - k) ⟨0,x,0⟩ ?_ ?_
  ·exact⟨by omega,by omega,rfl⟩
  rintro⟨k,t,s⟩ ⟨ht,hk,hs⟩
  have hc:=EM hok.1 x k
  have hc':=zK (t:=t) (Ih hok.1) (show (0:Int)≤0∧(0:Int)≤20 by omega)
  (repeat' ((conv=>whnf);first|refine gA ?_|(refine gN ?_ ?_<;>intro h hw)|(refine gB ?_ ?_<;>intro h)|refine gV ?_|refine gC (ru l _) ?_|intro _))<;>try (conv=>whnf)
  ·refine nx ⟨k+1,t+1,s+oF t l 0⟩ ?_
   exact⟨by omega,by omega,by rw [vG,hs,ht]⟩
  ·refine⟨?_,rfl,trivial⟩
   rw [hs,show (y - x).toNat=k by omega]
 ·(repeat' ((conv=>whnf);first|refine gA ?_|(refine gN ?_ ?_<;>intro h hw)|(refine gB ?_ ?_<;>intro h)|refine gV ?_|refine gC (xH l) ?_|refine gC (jZ _) ?_|intro _))<;>try (conv=>whnf)
  all_goals first
   |(exfalso;exact hok ⟨by assumption,by assumption,by assumption⟩)
   |(refine⟨?_,rfl,trivial⟩;rw [vZ,if_neg hok])
end Go.Proofs.YtmenphiahgkjkaaGreatDoor.Abs
