/- Part of a proof. -/
import Derived.Test.YthegbfgeochckaaGreatC8
set_option linter.all false
set_option maxRecDepth 20000
set_option maxHeartbeats 0
namespace Go.Proofs.YthegbfgeochckaaGreat.Abs
open Go.Proofs
theorem Am (p:Proj) (b:Dom) (r n:Int) {k:Nat} {a:aB} {x y:Int} {m:List Int} (h:eG p b k a x y m) (hn:n=k):Con 326 [.d p.av,.d b.av,.d (i64 r),.d (i64 n)] (.d (i64 (lK a m r))):=by
 refine con Tryz.func326 rfl rfl Tryz.call326 rfl fun hwf=>?_
 (repeat' ((conv=>whnf);first|(with_reducible first|refine Idx.got h.act hn ?_|refine Idx.got h.modes hn ?_)|refine gA ?_|refine gC (QS a m r) ?_|intro _))
 exact⟨rfl,rfl,trivial⟩
theorem Xr (p:Proj) (b:Dom) (r t:Int) (hf:aW p b=true):Con 267 [.d p.av,.d b.av,.d (i64 r),.d (i64 t)] (.d (i64 (UF p b r t))):=by
 refine con Tryz.func267 rfl rfl Tryz.call267 rfl fun hwf=>?_
 simp only [ARs.wf,AR.wf,AV.wf,AV.wfs,lm,lim] at hwf
 try (conv=>whnf)
 refine ay [2,3,4,5,13] [4,5] [] ?_
 (conv=>whnf)
 refine au.go ((Nat)×(Int)) (fun⟨k,s⟩=>(k<=p.acts.length)/\(s=sumTo (Bq p b r t) k)) (fun⟨k,s⟩=>[(14,.data (i64 k)),(9,.data (i64 s))]) lE lE (fun⟨k,s⟩=>p.acts.length - k) ⟨0,0⟩ ?_ ?_
 ·exact⟨by omega,rfl⟩
 rintro⟨k,s⟩ ⟨hk,hs⟩
 by_cases hlt:k < p.acts.length
 ·obtain⟨a,x,y,m,hg⟩:=dN hf hlt
  have hu:=Al hg.aok m r
  have hb:=Fu hf r t hk
  have hd:=kX hg.aok m
  rw [<- qg hg] at hd
  have ha:=hg.lob
  have e:Bq p b r t k=if y<=t/\t < x+zm p b k then lK a m r else 0:=by
   simp [Bq,nQ,List.getD_eq_getElem?_getD,hg.act,hg.lo,hg.hi,hg.modes]
  (repeat' ((conv=>whnf);first|(with_reducible first|refine Idx.got hg.lo rfl ?_|refine Idx.got hg.hi rfl ?_)|refine gAV ?_|(refine gB ?_ ?_<;>intro h)|refine gC (tY p b _ hg rfl) ?_|refine gC (Am p b r _ hg rfl) ?_|intro _))<;>try (conv=>whnf)
  all_goals first
   |(exfalso;omega)
   |(refine nx ⟨k+1,s+lK a m r⟩ ?_
     refine⟨by omega,?_⟩
     rw [sumTo,e,if_pos (by omega),hs];done)
   |(refine nx ⟨k+1,s⟩ ?_
     refine⟨by omega,?_⟩
     rw [sumTo,e,if_neg (by omega),hs];simp;done)
 ·(repeat' ((conv=>whnf);first|(exfalso;omega)|(refine gB ?_ ?_<;>intro h)))<;>try (conv=>whnf)
  refine⟨?_,rfl,trivial⟩
  rw [hs,show k=p.acts.length by omega];rfl
def four (s d x y:Int):List Int:=[s,d,x,y]
theorem Oz {s d x y:Int} {k:Nat} {n:Int} (hk:(four s d x y)[k]? =some n) (h:fits n=false):overlap s d x y=0:=by
 rw [overlap,if_neg]
 rintro⟨h1,h2,h3,h4⟩
 have hm:=List.mem_of_getElem? hk
 simp only [four,List.mem_cons,List.not_mem_nil,or_false] at hm
 rcases hm with rfl|rfl|rfl|rfl<;>simp_all
theorem LJ {s d x y:Int} (h:∀i n,i < 4->(four s d x y)[i]? =some n->fits n=true):(fits s=true/\fits d=true/\fits x=true/\fits y=true):=
 ⟨h 0 s (by omega) rfl,h 1 d (by omega) rfl,h 2 x (by omega) rfl,h 3 y (by omega) rfl⟩
theorem wM {n:Int}:fits n=true↔ -100000<=n/\n<=100000:=within_iff
theorem UO (s d x y:Int):Con 389 [.d (i64 s),.d (i64 d),.d (i64 x),.d (i64 y)] (.d (i64 (overlap s d x y))):=by
 refine con Tryz.func389 rfl rfl Tryz.call389 rfl fun hwf=>?_
 try (conv=>whnf)
 refine ay [0,1,2,3,15,16] [] [] ?_
 (conv=>whnf)
 refine au.go ((Nat)) (fun k=>(k<=4)/\(∀i n,i < k->(four s d x y)[i]? =some n->fits n=true)) (fun k=>[(17,.data (i64 k))]) lE lE (fun k=>4 - k) (0) ?_ ?_
 ·exact⟨by omega,by omega⟩
 rintro k ⟨hk,hi⟩
 (repeat' ((conv=>whnf);first|refine Idx.at (l:=four s d x y) (f:=i64) (by simp [four] at*;omega) (fun z hz=>?_)|refine gA ?_|(refine gN ?_ ?_<;>intro h hw)|(refine gB ?_ ?_<;>intro h)|refine gC (bO _ _ _) ?_|intro _))
 all_goals simp only [List.length_cons,List.length_nil] at*
 ·refine nx (k+1) ?_
  refine⟨by omega,fun i n hi' hn=>?_⟩
  by_cases e:i=k
  ·subst e;rw [hz] at hn;cases hn;assumption
  ·exact hi i n (by omega) hn
 ·refine⟨?_,rfl,trivial⟩
  rw [Oz hz h]
 all_goals
  have hf:=LJ fun i n hi' hn=>hi i n (by omega) hn
  simp only [wM] at hf
 ·refine⟨?_,rfl,trivial⟩
  rw [overlap,if_pos (by simp only [wM];exact hf),if_pos (by assumption)]
 ·(repeat' ((conv=>whnf);first|refine gA ?_))
  refine⟨?_,rfl,trivial⟩
  rw [overlap,if_pos (by simp only [wM];exact hf),if_neg (by assumption)]
theorem UQ (s d x y:Int):Con 363 [.d (i64 s),.d (i64 d),.d (i64 x),.d (i64 y)] (.d (i64 (overlap s d x y))):=by
 refine con Tryz.func363 rfl rfl Tryz.call363 rfl fun hwf=>?_
 try (conv=>whnf)
 refine ay [0,1,2,3,15,16] [] [] ?_
 (conv=>whnf)
 refine au.go ((Nat)) (fun k=>(k<=4)/\(∀i n,i < k->(four s d x y)[i]? =some n->fits n=true)) (fun k=>[(17,.data (i64 k))]) lE lE (fun k=>4 - k) (0) ?_ ?_
 ·exact⟨by omega,by omega⟩
 rintro k ⟨hk,hi⟩
 (repeat' ((conv=>whnf);first|refine Idx.at (l:=four s d x y) (f:=i64) (by simp [four] at*;omega) (fun z hz=>?_)|refine gA ?_|(refine gN ?_ ?_<;>intro h hw)|(refine gB ?_ ?_<;>intro h)|refine gC (dG _ _ _) ?_|intro _))
 all_goals simp only [List.length_cons,List.length_nil] at*
 ·refine nx (k+1) ?_
  refine⟨by omega,fun i n hi' hn=>?_⟩
  by_cases e:i=k
  ·subst e;rw [hz] at hn;cases hn;assumption
  ·exact hi i n (by omega) hn
 ·refine⟨?_,rfl,trivial⟩
  rw [Oz hz h]
 all_goals
  have hf:=LJ fun i n hi' hn=>hi i n (by omega) hn
  simp only [wM] at hf
 ·refine⟨?_,rfl,trivial⟩
  rw [overlap,if_pos (by simp only [wM];exact hf),if_pos (by assumption)]
 ·(repeat' ((conv=>whnf);first|refine gA ?_|refine gC (xM _ _) ?_|refine gC (uE _ _) ?_|intro _))
  refine⟨?_,rfl,trivial⟩
  rw [overlap,if_pos (by simp only [wM];exact hf),if_neg (by assumption),Int.max_comm]
theorem nJ (s d x y:Int):0<=overlap s d x y/\overlap s d x y<=200000:=by
 unfold overlap
 split
 ·rename_i h
  simp only [wM] at h
  split<;>omega
 ·omega
theorem Kw {u v:Int} (h:0<=u/\u<=200000) (h':0<=v/\v<=20):0<=u*v/\u*v<=4000000:=
 ⟨Int.mul_nonneg h.1 h'.1,Int.le_trans (Int.mul_le_mul h.2 h'.2 h'.1 (by omega)) (by omega)⟩
structure aaO (p:Proj) (b:Dom) (k:Nat) (a:aB) (x y:Int) (r i:Int) (mo:Mode) (q ρ:Nat) (u:Int):Prop where
 iq:i=q
 rρ:r=ρ
 mode:a.modes[q]? =some mo
 use:mo.use[ρ]? =some u
 ub:0<=u/\u<=20
theorem OA {p:Proj} {b:Dom} {k:Nat} {a:aB} {x y:Int} {m:List Int} (h:eG p b k a x y m) {r i:Int} (hr:fM p r=true) (hi:i∈m):∃mo q ρ u,aaO p b k a x y r i mo q ρ u:=by
 obtain⟨q,hq,hlt⟩:=h.aeP i hi
 have e1:a.modes[q]? =some (a.modes[q]'hlt):=by simp
 have hm:=mQ h.aok (List.mem_of_getElem? e1)
 have hw:=within_iff.1 hr
 have e2:(a.modes[q]'hlt).use[r.toNat]? =some ((a.modes[q]'hlt).use[r.toNat]'(by omega)):=by simp
 exact⟨_,q,r.toNat,_,hq,by omega,e1,e2,hm.2.1 _ (List.mem_of_getElem? e2)⟩
theorem CF {p:Proj} {b:Dom} {k:Nat} {a:aB} {lo hi:Int} {m:List Int} (h:eG p b k a lo hi m) {r i:Int} {mo:Mode} {q ρ:Nat} {u:Int} (g:aaO p b k a lo hi r i mo q ρ u) (x y:Int):
  nu p b k r x y i=min (overlap lo mo.dur x y) (overlap hi mo.dur x y)*u:=by
 have h1:=g.iq;have h2:=g.rρ
 subst h1 h2
 simp [nu,nQ,List.getD_eq_getElem?_getD,h.act,h.lo,h.hi,g.mode,g.use]
theorem wN {p:Proj} {b:Dom} {k:Nat} {a:aB} {lo hi:Int} {m:List Int} (h:eG p b k a lo hi m) {r i:Int} (hr:fM p r=true) (hi':i∈m) (x y:Int):
  0<=nu p b k r x y i/\nu p b k r x y i<=4000000:=by
 obtain⟨mo,q,ρ,u,g⟩:=OA h hr hi'
 rw [CF h g]
 exact Kw (by have:=nJ lo mo.dur x y;have:=nJ hi mo.dur x y;omega) g.ub
theorem Ky {p:Proj} {b:Dom} {k:Nat} {a:aB} {lo hi:Int} {m:List Int} (h:eG p b k a lo hi m) (r x y:Int):sO p b r x y k=least (m.map (nu p b k r x y)):=by
 simp [sO,List.getD_eq_getElem?_getD,h.modes]
theorem UR (p:Proj) (b:Dom) (n r x y:Int) {k:Nat} {a:aB} {lo hi:Int} {m:List Int} (hg:eG p b k a lo hi m) (hn:n=k) (hr:fM p r=true):
  Con 371 [.d p.av,.d b.av,.d (i64 n),.d (i64 r),.d (i64 x),.d (i64 y)] (.d (i64 (sO p b r x y k))):=by
 refine con Tryz.func371 rfl rfl Tryz.call371 rfl fun hwf=>?_
 simp only [ARs.wf,AR.wf,AV.wf,AV.wfs,lm,lim] at hwf
 have hml:=jD hwf.2.1.2.2.1.2 hg.modes
 simp only [AV.wf,AV.wfs,List.length_map] at hml
 rw [Ky hg, <- vS]
 (repeat' ((conv=>whnf);first|with_reducible refine Idx.got hg.modes hn ?_))<;>try (conv=>whnf)
 refine ay [2,3,4,5,6,7,23,24] [6,7] [] ?_
 (conv=>whnf)
 refine au.go ((Nat)×(Int)×(Bool)) (fun⟨j,s,f⟩=>(j<=m.length)/\(xE (!f) s ((m.drop j).map (nu p b k r x y))=xE true 0 (m.map (nu p b k r x y)))) (fun⟨j,s,f⟩=>[(25,.data (i64 j)),(13,.data (i64 s)),(14,.data (.bool f))]) lE lE (fun⟨j,s,f⟩=>m.length - j) ⟨0,0,false⟩ ?_ ?_
 ·exact⟨by omega,rfl⟩
 rintro⟨j,s,f⟩ ⟨hj,hi'⟩
 by_cases hlt:j < m.length
 ·obtain⟨i,hx⟩:∃x,m[j]? =some x:=⟨m[j]'hlt,by simp⟩
  obtain⟨mo,q,ρ,u,g⟩:=OA hg hr (List.mem_of_getElem? hx)
  rw [aA hx,List.map_cons,xE,CF hg g] at hi'
  have hb:=Kw (u:=min (overlap lo mo.dur x y) (overlap hi mo.dur x y)) (by have:=nJ lo mo.dur x y;have:=nJ hi mo.dur x y;omega) g.ub
  (repeat' ((conv=>whnf);first|(with_reducible first|refine Idx.got hx rfl ?_|refine Idx.got hg.act hn ?_|refine Idx.got hg.lo hn ?_|refine Idx.got hg.hi hn ?_|refine Idx.got g.mode g.iq ?_|refine Idx.got g.use g.rρ ?_)|refine gAV ?_|(refine gB ?_ ?_<;>intro h)|refine gC (UO _ _ _ _) ?_|intro _))<;>try (conv=>whnf)
  ·apply Exists.intro (⟨j+1,_,true⟩)
   refine⟨?_,rfl,?_,?_⟩
   rotate_left
   ·(repeat' ((conv=>whnf)<;>(first|exact trivial|exact rfl|with_reducible refine And.intro ?_ ?_)))
   ·(try dsimp only);(try simp only [List.length_map]);omega
   rw [if_pos (.inr (by assumption))] at hi'
   exact⟨by omega,hi'⟩
  ·refine nx ⟨j+1,s,f⟩ ?_
   rw [if_neg (by simp [*])] at hi'
   refine⟨by omega,?_⟩
   rw [<- hi'];simp [*]
  ·apply Exists.intro (⟨j+1,_,true⟩)
   refine⟨?_,rfl,?_,?_⟩
   rotate_left
   ·(repeat' ((conv=>whnf)<;>(first|exact trivial|exact rfl|with_reducible refine And.intro ?_ ?_)))
   ·(try dsimp only);(try simp only [List.length_map]);omega
   rw [if_pos (.inl (by simp [*]))] at hi'
   exact⟨by omega,hi'⟩
  ·exfalso;omega
 ·(repeat' ((conv=>whnf);first|(exfalso;omega)|(refine gB ?_ ?_<;>intro h)))<;>try (conv=>whnf)
  refine⟨?_,rfl,trivial⟩
  rw [<- hi',mg hlt];rfl
theorem UU (p:Proj) (b:Dom) (n r x y:Int) {k:Nat} {a:aB} {lo hi:Int} {m:List Int} (hg:eG p b k a lo hi m) (hn:n=k) (hr:fM p r=true):
  Con 327 [.d p.av,.d b.av,.d (i64 n),.d (i64 r),.d (i64 x),.d (i64 y)] (.d (i64 (sO p b r x y k))):=by
 refine con Tryz.func327 rfl rfl Tryz.call327 rfl fun hwf=>?_
 simp only [ARs.wf,AR.wf,AV.wf,AV.wfs,lm,lim] at hwf
 have hml:=jD hwf.2.1.2.2.1.2 hg.modes
 simp only [AV.wf,AV.wfs,List.length_map] at hml
 rw [Ky hg, <- vS]
 (repeat' ((conv=>whnf);first|with_reducible refine Idx.got hg.modes hn ?_))<;>try (conv=>whnf)
 refine ay [2,3,4,5,6,7,22,23] [6,7] [] ?_
 (conv=>whnf)
 refine au.go ((Nat)×(Int)) (fun⟨j,s⟩=>(j<=m.length)/\(-1<=s)/\(max (xE (decide (s < 0)) s ((m.drop j).map (nu p b k r x y))) 0=xE true 0 (m.map (nu p b k r x y)))) (fun⟨j,s⟩=>[(24,.data (i64 j)),(13,.data (i64 s))]) lE lE (fun⟨j,s⟩=>m.length - j) ⟨0, -1⟩ ?_ ?_
 ·refine⟨by omega,by omega,?_⟩
  have hb:∀i∈m,0<=nu p b k r x y i:=fun i hi=>(wN hg hr hi x y).1
  have e:0<=xE true 0 (m.map (nu p b k r x y)):=by
   rw [vS]
   exact (xS (c:=4000000) (by omega) fun z hz=>by
    obtain⟨i,hi,rfl⟩:=List.mem_map.1 hz
    exact wN hg hr hi x y).1
  simp only [List.drop_zero]
  cases m with
  |nil=>rfl
  |cons i t=>simp only [List.map_cons,xE] at e ⊢;simp at e ⊢;omega
 rintro⟨j,s⟩ ⟨hj,hs,hi'⟩
 by_cases hlt:j < m.length
 ·obtain⟨i,hx⟩:∃x,m[j]? =some x:=⟨m[j]'hlt,by simp⟩
  obtain⟨mo,q,ρ,u,g⟩:=OA hg hr (List.mem_of_getElem? hx)
  rw [aA hx,List.map_cons,xE,CF hg g] at hi'
  have hb:=Kw (u:=min (overlap lo mo.dur x y) (overlap hi mo.dur x y)) (by have:=nJ lo mo.dur x y;have:=nJ hi mo.dur x y;omega) g.ub
  rw [Int.mul_comm (min _ _) u] at hb
  rw [Int.mul_comm (min _ _) u] at hi'
  (repeat' ((conv=>whnf);first|(with_reducible first|refine Idx.got hx rfl ?_|refine Idx.got hg.act hn ?_|refine Idx.got hg.lo hn ?_|refine Idx.got hg.hi hn ?_|refine Idx.got g.mode g.iq ?_|refine Idx.got g.use g.rρ ?_)|refine gAV ?_|(refine gB ?_ ?_<;>intro h)|refine gC (UQ _ _ _ _) ?_|refine gC (xM _ _) ?_|refine gC (uE _ _) ?_|intro _))<;>try (conv=>whnf)
  ·refine nx ⟨j+1,u*min (overlap lo mo.dur x y) (overlap hi mo.dur x y)⟩ ?_
   rw [if_pos (.inl (by simp [*]))] at hi'
   exact⟨by omega,by omega,by rw [decide_eq_false (by omega)];exact hi'⟩
  ·refine nx ⟨j+1,u*min (overlap lo mo.dur x y) (overlap hi mo.dur x y)⟩ ?_
   rw [if_pos (.inr (by assumption))] at hi'
   exact⟨by omega,by omega,by rw [decide_eq_false (by omega)];exact hi'⟩
  ·refine nx ⟨j+1,s⟩ ?_
   rw [if_neg (by rw [decide_eq_true_eq];omega)] at hi'
   exact⟨by omega,by omega,by rw [decide_eq_false (by omega)];exact hi'⟩
  ·exfalso;omega
 ·(repeat' ((conv=>whnf);first|(exfalso;omega)|refine gA ?_|(refine gB ?_ ?_<;>intro h)|refine gC (uE _ _) ?_|intro _))<;>try (conv=>whnf)
  refine⟨?_,rfl,trivial⟩
  rw [<- hi',mg hlt];rfl
theorem vJ {p:Proj} {b:Dom} (hf:aW p b=true) {r:Int} (hr:fM p r=true) (x y:Int) {k:Nat} (hk:k < p.acts.length):0<=sO p b r x y k/\sO p b r x y k<=4000000:=by
 obtain⟨a,lo,hi,m,h⟩:=dN hf hk
 rw [Ky h]
 exact xS (by omega) fun z hz=>by
  obtain⟨i,hi,rfl⟩:=List.mem_map.1 hz
  exact wN h hr hi x y
theorem OB (p:Proj) (b:Dom) (r x y:Int) (hf:aW p b=true) (hr:fM p r=true):Con 347 [.d p.av,.d b.av,.d (i64 r),.d (i64 x),.d (i64 y)] (.d (i64 (DZ p b r x y))):=by
 refine con Tryz.func347 rfl rfl Tryz.call347 rfl fun hwf=>?_
 simp only [ARs.wf,AR.wf,AV.wf,AV.wfs,lm,lim] at hwf
 try (conv=>whnf)
 refine ay [2,3,4,5,6,15] [5,6] [] ?_
 (conv=>whnf)
 refine au.go ((Nat)×(Int)) (fun⟨k,s⟩=>(k<=p.acts.length)/\(s=sumTo (sO p b r x y) k)) (fun⟨k,s⟩=>[(16,.data (i64 k)),(11,.data (i64 s))]) lE lE (fun⟨k,s⟩=>p.acts.length - k) ⟨0,0⟩ ?_ ?_
 ·exact⟨by omega,rfl⟩
 rintro⟨k,s⟩ ⟨hk,hs⟩
 by_cases hlt:k < p.acts.length
 ·obtain⟨a,lo,hi,m,hg⟩:=dN hf hlt
  have hb:=kY (f:=sO p b r x y) (c:=4000000) (n:=k) fun i hi=>vJ hf hr x y (by omega)
  have hw:=vJ hf hr x y hlt
  (repeat' ((conv=>whnf);first|refine gAV ?_|(refine gB ?_ ?_<;>intro h)|refine gC (UR p b _ r x y hg rfl hr) ?_|intro _))<;>try (conv=>whnf)
  ·refine nx ⟨k+1,s+sO p b r x y k⟩ ?_
   exact⟨by omega,by rw [sumTo,hs]⟩
  ·exfalso;omega
 ·(repeat' ((conv=>whnf);first|(exfalso;omega)|(refine gB ?_ ?_<;>intro h)))<;>try (conv=>whnf)
  refine⟨?_,rfl,trivial⟩
  rw [hs,show k=p.acts.length by omega];rfl
theorem xU {t:Int}:∀{l:List Step} {n:Int},(∀s∈l,0<=s.cap/\s.cap<=20)->(0<=n/\n<=20)->0<=kU t l n/\kU t l n<=20
 |[],_,_,h=>h
 |s::l,n,h,h'=>by
  rw [kU]
  refine xU (fun q hq=>h q (by simp [hq])) ?_
  have:=h s (by simp)
  split<;>omega
theorem CG {l:List Step} (h:kT l=true):∀s∈l,0<=s.cap/\s.cap<=20:=by
 intro s hs
 obtain⟨i,hi,rfl⟩:=List.getElem_of_mem hs
 simp only [kT,Bool.and_eq_true,dB] at h
 have:=h.1 i hi
 simp only [Gh,List.getElem?_eq_getElem hi,Bool.and_eq_true,iA,within_iff] at this
 exact this.1.1.2
theorem Ao {l:List Step} (h:kT l=true) (x:Int):∀n:Nat,0<=yH l x n/\yH l x n<=20*n
 |0=>by simp [yH]
 |n+1=>by
  have h1:=Ao h x n
  have h2:=xU (t:=x+n) (CG h) (show (0:Int)<=0/\(0:Int)<=20 by omega)
  rw [yH];omega
theorem Gm (l:List Step) (x y:Int):Con 307 [.d (.sl (l.map Step.av)),.d (i64 x),.d (i64 y)] (.d (i64 (rD l x y))):=by
 refine con Tryz.func307 rfl rfl Tryz.call307 rfl fun hwf=>?_
 by_cases hok:kT l=true/\cu x=true/\cu y=true
 ·rw [rD,if_pos hok]
  have hx:=within_iff.1 hok.2.1
  have hy:=within_iff.1 hok.2.2
  (repeat' ((conv=>whnf);first|refine gAV ?_|(refine gN ?_ ?_<;>intro h hw)|(refine gB ?_ ?_<;>intro h)|refine gC (Ad l) ?_|refine gC (mK _) ?_|intro _))
  all_goals try (exfalso;simp_all;done)
  refine ay [0,2] [] [] ?_
  (conv=>whnf)
  refine au.go ((Nat)×(Int)×(Int)) (fun⟨k,t,s⟩=>(t=x+k)/\((k:Int)<=max (y - x) 0)/\(s=yH l x k)) (fun⟨k,t,s⟩=>[(8,.data (i64 t)),(7,.data (i64 s))]) lE lE (fun⟨k,t,s⟩=>(max (y - x) 0).toNat - k) ⟨0,x,0⟩ ?_ ?_
  ·exact⟨by omega,by omega,rfl⟩
  rintro⟨k,t,s⟩ ⟨ht,hk,hs⟩
  have hc:=Ao hok.1 x k
  have hc':=xU (t:=t) (CG hok.1) (show (0:Int)<=0/\(0:Int)<=20 by omega)
  (repeat' ((conv=>whnf);first|refine gA ?_|(refine gB ?_ ?_<;>intro h)|refine gC (uT l _) ?_|intro _))
  ·refine nx ⟨k+1,t+1,s+kU t l 0⟩ ?_
   exact⟨by omega,by omega,by rw [yH,hs,ht]⟩
  ·refine⟨?_,rfl,trivial⟩
   rw [hs,show (y - x).toNat=k by omega]
 ·(repeat' ((conv=>whnf);first|refine gA ?_|(refine gN ?_ ?_<;>intro h hw)|(refine gB ?_ ?_<;>intro h)|refine gC (Ad l) ?_|refine gC (mK _) ?_|intro _))
  all_goals first
   |(exfalso;exact hok ⟨by assumption,by assumption,by assumption⟩)
   |(refine⟨?_,rfl,trivial⟩;rw [rD,if_neg hok])
theorem IU (l:List Step) (x y:Int):Con 333 [.d (.sl (l.map Step.av)),.d (i64 x),.d (i64 y)] (.d (.bool (kT l&&(cu x&&cu y)))):=by
 refine con Tryz.func333 rfl rfl Tryz.call333 rfl fun hwf=>?_
 (repeat' ((conv=>whnf);first|refine gA ?_|(refine gN ?_ ?_<;>intro h hw)|(refine gB ?_ ?_<;>intro h)|refine gC (IG l) ?_|refine gC (dG _ _ _) ?_|intro _))
 all_goals refine⟨?_,rfl,trivial⟩
 all_goals simp [cu, *]
theorem Gn (l:List Step) (x y:Int):Con 276 [.d (.sl (l.map Step.av)),.d (i64 x),.d (i64 y)] (.d (i64 (rD l x y))):=by
 refine con Tryz.func276 rfl rfl Tryz.call276 rfl fun hwf=>?_
 by_cases hok:kT l=true/\cu x=true/\cu y=true
 ·rw [rD,if_pos hok]
  have hx:=within_iff.1 hok.2.1
  have hy:=within_iff.1 hok.2.2
  have e:(kT l&&(cu x&&cu y))=true:=by simp [hok]
  (repeat' ((conv=>whnf);first|refine gA ?_|refine gC (IU l x y) ?_|intro _))
  refine ay [0,2] [] [] ?_
  (conv=>whnf)
  refine au.go ((Nat)×(Int)×(Int)) (fun⟨k,t,s⟩=>(t=x+k)/\((k:Int)<=max (y - x) 0)/\(s=yH l x k)) (fun⟨k,t,s⟩=>[(8,.data (i64 t)),(7,.data (i64 s))]) lE lE (fun⟨k,t,s⟩=>(max (y - x) 0).toNat - k) ⟨0,x,0⟩ ?_ ?_
  ·exact⟨by omega,by omega,rfl⟩
  rintro⟨k,t,s⟩ ⟨ht,hk,hs⟩
  have hc:=Ao hok.1 x k
  have hc':=xU (t:=t) (CG hok.1) (show (0:Int)<=0/\(0:Int)<=20 by omega)
  (repeat' ((conv=>whnf);first|refine gA ?_|(refine gB ?_ ?_<;>intro h)|refine gC (Gi l _) ?_|intro _))
  ·refine nx ⟨k+1,t+1,s+kU t l 0⟩ ?_
   exact⟨by omega,by omega,by rw [yH,hs,ht]⟩
  ·refine⟨?_,rfl,trivial⟩
   rw [hs,show (y - x).toNat=k by omega]
 ·have e:(kT l&&(cu x&&cu y))=false:=by rw [<- Bool.not_eq_true];simpa using hok
  (repeat' ((conv=>whnf);first|refine gA ?_|refine gC (IU l x y) ?_|intro _))
  refine⟨?_,rfl,trivial⟩;rw [rD,if_neg hok]
end Go.Proofs.YthegbfgeochckaaGreat.Abs
