/- Contracts: all mode lists, all start lists, all schedules; what holds in a schedule. -/
import Derived.Test.YtmenphiahgkjkaaGreatDoorC22
import Derived.Test.YtmenphiahgkjkaaGreatDoorC3
import Derived.Test.YtmenphiahgkjkaaGreatDoorSnd
import Derived.Test.YtmenphiahgkjkaaGreatDoorC12
set_option linter.all false
set_option maxRecDepth 20000
set_option maxHeartbeats 0
namespace Go.Proofs.YtmenphiahgkjkaaGreatDoor.Abs
open Go.Proofs
def pF (x:List Int) (m:Nat):List (List Int):=(List.range m).map fun (t:Nat)=>x++[(t:Int)]
def extend (o:List (List Int)) (m:Nat):List (List Int):=o.flatMap fun x=>pF x m
def iY (m:Nat):Nat→List (List Int)
 |0=>[[]]
 |n+1=>extend (iY m n) m
def lJ (l:List aC):List (List Int):=l.foldl (fun o a=>extend o a.modes.length) [[]]
def jo (p:Proj) (m:Nat):List aJ:=(lJ p.acts).flatMap fun ms=>((iY (m+1) p.acts.length).map fun st=>(⟨st,ms⟩:aJ)).filter (bg p)
theorem Dw (x:List Int) (m:Nat):(pF x m).length=m:=by unfold pF;simp
theorem IU (x:List Int) (j:Nat):pF x (j+1)=pF x j++[x++[(j:Int)]]:=by unfold pF;rw [List.range_succ,List.map_append];rfl
theorem yx (o:List (List Int)) (m:Nat):(extend o m).length=o.length*m:=by
 induction o with
 |nil=>simp [extend]
 |cons x o ih=>rw [extend,List.flatMap_cons,List.length_append,Dw];rw [extend] at ih;rw [ih,List.length_cons,Nat.succ_mul];omega
theorem IV {o:List (List Int)} {i:Nat} {x:List Int} (m:Nat) (h:o[i]? =some x):extend (o.take (i+1)) m=extend (o.take i) m++pF x m:=by
 rw [List.take_add_one,h,extend,List.flatMap_append]
 simp [extend]
theorem Ai {l:List aC} {k:Nat} {a:aC} (h:l[k]? =some a):lJ (l.take (k+1))=extend (lJ (l.take k)) a.modes.length:=by
 rw [List.take_add_one,h,lJ,List.foldl_append];rfl
theorem vv (m:Nat):∀n,(iY m n).length=m ^ n
 |0=>rfl
 |n+1=>by rw [iY,yx,vv m n,Nat.pow_succ]
theorem Dx {l:List aC} (h:∀a∈l,a.modes.length≤3):(lJ l).length≤3 ^ l.length:=by
 have:∀(l:List aC) (o:List (List Int)),(∀a∈l,a.modes.length≤3)→(l.foldl (fun o a=>extend o a.modes.length) o).length≤o.length*3 ^ l.length:=by
  intro l
  induction l with
  |nil=>intro o _;simp
  |cons a l ih=>
   intro o h
   rw [List.foldl_cons]
   refine Nat.le_trans (ih _ fun b hb=>h b (List.mem_cons_of_mem _ hb)) ?_
   rw [yx,List.length_cons,Nat.pow_succ]
   have h1:o.length*a.modes.length≤o.length*3:=Nat.mul_le_mul_left _ (h a (List.mem_cons_self ..))
   calc o.length*a.modes.length*3 ^ l.length≤o.length*3*3 ^ l.length:=Nat.mul_le_mul_right _ h1
    _=o.length*(3 ^ l.length*3):=by rw [Nat.mul_assoc,Nat.mul_comm 3]
 have:=this l [[]] h
 rwa [show ([[]]:List (List Int)).length=1 from rfl,Nat.one_mul] at this
theorem XY {α β} {f:α→List β} {l:List α} {i:Nat} {x:α} (h:l[i]? =some x):(l.take (i+1)).flatMap f=(l.take i).flatMap f++f x:=by
 rw [List.take_add_one,h,List.flatMap_append];simp
theorem XZ {α β} {f:α→β} {g:β→Bool} {l:List α} {i:Nat} {x:α} (h:l[i]? =some x):((l.take (i+1)).map f).filter g=((l.take i).map f).filter g++(if g (f x)=true then [f x] else []):=by
 rw [List.take_add_one,h,List.map_append,List.filter_append];simp [List.filter_cons]
theorem Mv {o:List (List Int)} {m k:Nat} (h:∀x∈o,x.length=k):∀x∈extend o m,x.length=k+1:=by
 intro x hx
 rw [extend,List.mem_flatMap] at hx
 obtain⟨y,hy,hx⟩:=hx
 rw [pF,List.mem_map] at hx
 obtain⟨t,_,rfl⟩:=hx
 rw [List.length_append,h y hy];rfl
theorem IW (m:Nat):∀n,∀x∈iY m n,x.length=n
 |0=>by intro x hx;rw [iY,List.mem_singleton] at hx;rw [hx];rfl
 |n+1=>Mv (IW m n)
theorem Mw (l:List aC):∀k,k≤l.length→∀x∈lJ (l.take k),x.length=k
 |0,_=>by intro x hx;rw [List.take_zero,lJ,List.foldl_nil,List.mem_singleton] at hx;rw [hx];rfl
 |k+1,hk=>by rw [Ai (List.getElem?_eq_getElem (by omega:k < l.length))];exact Mv (Mw l k (by omega))
attribute [local irreducible] extend pF
theorem Jm (n m:Nat) (hn:n≤3) (hm:m≤12):Con 25 [.d (i64 n),.d (i64 m)] (.d (.sl ((iY (m+1) n).map ints))):=by
 refine con Tryz.func25 rfl rfl Tryz.call25 rfl fun hwf=>?_
 clear hwf
 have hL:∀k,k≤n→(iY (m+1) k).length≤2197:=fun k hk=>by
  rw [vv]
  calc (m+1) ^ k≤13 ^ k:=Nat.pow_le_pow_left (by omega) k
   _≤13 ^ 3:=Nat.pow_le_pow_right (by decide) (by omega)
 (repeat' ((conv=>whnf);first|refine gA ?_|(refine gB ?_ ?_<;>intro h)|(refine gI ?_;intro x hx)|(refine gJ ?_;intro j x hj hx)|refine gP ?_|refine gV ?_|intro _))<;>try (conv=>whnf)
 refine aB [1,12] [] [] ?_
 (conv=>whnf)
 refine aA.go ((Nat)) (fun k=>(k≤n)) (fun k=>[(13,.data (i64 k)),(5,.fr ((iY (m+1) k).map ints))]) (fun _=>[]) (fun _=>[]) (fun k=>n - k) (0) ?_ ?_
 ·exact Nat.zero_le _
 rintro k hk
 have hLk:=hL k hk
 by_cases hlt:k < n
 ·have hs:iY (m+1) (k+1)=extend (iY (m+1) k) (m+1):=rfl
  have hM:=IW (m+1) k
  generalize iY (m+1) k=o at hLk hs hM
  (repeat' ((conv=>whnf);first|(exfalso;omega)|refine gA ?_|(refine gB ?_ ?_<;>intro h)|(refine gI ?_;intro x hx)|(refine gJ ?_;intro j x hj hx)|refine gP ?_|refine gV ?_|intro _))<;>try (conv=>whnf)
  refine aB [1,12,13,16,17] [] [15] ?_
  (conv=>whnf)
  refine aA.go ((Nat)×(List (List Int))) (fun⟨i,q⟩=>(i≤o.length)∧(q=extend (o.take i) (m+1))) (fun⟨i,q⟩=>[(18,.data (i64 i)),(6,.own 15 0)]) (fun _=>[]) (fun⟨i,q⟩=>[(15,26,q.map ints,0)]) (fun⟨i,q⟩=>o.length - i) ⟨0,[]⟩ ?_ ?_
  ·exact⟨Nat.zero_le _,by unfold extend;rfl⟩
  rintro⟨i,q⟩ ⟨hi,hq⟩
  have hql:q.length=i*(m+1):=by rw [hq,yx,List.length_take,Nat.min_eq_left hi]
  by_cases hil:i < o.length
  rotate_left
  ·(repeat' ((conv=>whnf);first|(exfalso;omega)|refine gA ?_|(refine gB ?_ ?_<;>intro h)|(refine gI ?_;intro x hx)|(refine gJ ?_;intro j x hj hx)|refine gP ?_|refine gV ?_|intro _))<;>try (conv=>whnf)
   refine nw (k+1) ?_ ?_
   ·(repeat' ((conv=>whnf)<;>(first|exact trivial|exact rfl|with_reducible refine And.intro ?_ ?_)))<;>((conv=>whnf)<;>((rw [hs,hq,List.take_of_length_le (by omega)])))
   exact (by omega:k+1≤n)
  obtain⟨x,hx⟩:∃x,o[i]? =some x:=⟨o[i]'hil,by simp⟩
  have hxl:=hM x (List.mem_of_getElem? hx)
  have hqb:q.length≤2197*13:=by rw [hql];exact Nat.mul_le_mul (by omega) (by omega)
  (repeat' ((conv=>whnf);first|with_reducible refine Idx.got hx rfl ?_|(exfalso;omega)|refine gA ?_|(refine gB ?_ ?_<;>intro h)|(refine gI ?_;intro x hx)|(refine gJ ?_;intro j x hj hx)|refine gP ?_|refine gV ?_|intro _))<;>try (conv=>whnf)
  refine aB [1,8,12,13,16,17,18,23] [] [15] ?_
  (conv=>whnf)
  refine aA.go ((Nat)×(List (List Int))) (fun⟨j,r⟩=>(j≤m+1)∧(r=q++pF x j)) (fun⟨j,r⟩=>[(24,.data (i64 j)),(6,.own 15 0)]) (fun _=>[]) (fun⟨j,r⟩=>[(15,26,r.map ints,0)]) (fun⟨j,r⟩=>m+1 - j) ⟨0,q⟩ ?_ ?_
  ·exact⟨Nat.zero_le _,by unfold pF;simp⟩
  rintro⟨j,r⟩ ⟨hj,hr⟩
  have hrl:r.length=q.length+j:=by rw [hr,List.length_append,Dw]
  by_cases hjl:j < m+1
  ·(repeat' ((conv=>whnf);first|(exfalso;omega)|refine gA ?_|(refine gB ?_ ?_<;>intro h)|(refine gI ?_;intro x hx)|(refine gJ ?_;intro j x hj hx)|refine gP ?_|refine gV ?_|refine gC (slices_Clone_int x) ?_|intro _))<;>try (conv=>whnf)
   refine nw ⟨j+1,r++[x++[(j:Int)]]⟩ ?_ ?_
   ·(repeat' ((conv=>whnf)<;>(first|exact trivial|exact rfl|with_reducible refine And.intro ?_ ?_)))<;>((conv=>whnf)<;>(simp))
   exact⟨by omega,by rw [hr,IU,List.append_assoc]⟩
  ·(repeat' ((conv=>whnf);first|(exfalso;omega)|refine gA ?_|(refine gB ?_ ?_<;>intro h)|(refine gI ?_;intro x hx)|(refine gJ ?_;intro j x hj hx)|refine gP ?_|refine gV ?_|intro _))<;>try (conv=>whnf)
   refine nx ⟨i+1,r⟩ ?_
   refine⟨by omega,?_⟩
   rw [hr,show j=m+1 by omega,hq, ← IV _ hx]
 ·(repeat' ((conv=>whnf);first|(exfalso;omega)|refine gA ?_|(refine gB ?_ ?_<;>intro h)|(refine gI ?_;intro x hx)|(refine gJ ?_;intro j x hj hx)|refine gP ?_|refine gV ?_|intro _))<;>try (conv=>whnf)
  refine⟨?_,rfl,trivial⟩
  rw [show k=n by omega]
attribute [local irreducible] lJ iY
theorem FT (p:Proj) (hp:p.fine) (ho:aL p=true) (h3:p.acts.length≤3):Con 24 [.d p.av] (.d (.sl ((lJ p.acts).map ints))):=by
 refine con Tryz.func24 rfl rfl Tryz.call24 rfl fun hwf=>?_
 clear hwf
 have hA:∀(k:Nat) (a:aC),p.acts[k]? =some a→a.modes.length≤3:=fun k a ha=>by
  have hk:k < p.acts.length:=(List.getElem?_eq_some_iff.1 ha).1
  have:=jH ho hk
  rw [iB hk] at ha
  cases ha
  exact this.2
 have hL:∀k,k≤p.acts.length→(lJ (p.acts.take k)).length≤27:=fun k hk=>by
  refine Nat.le_trans (Dx fun a ha=>?_) (Nat.le_trans (Nat.pow_le_pow_right (by decide) (by rw [List.length_take];omega:_≤3)) (by decide))
  obtain⟨j,hj,e⟩:=List.mem_iff_getElem.1 (List.mem_of_mem_take ha)
  exact hA j a (by rw [List.getElem?_eq_getElem hj,e])
 have hP:=bn p hp
 rw [ho] at hP
 (repeat' ((conv=>whnf);first|refine gA ?_|(refine gB ?_ ?_<;>intro h)|(refine gI ?_;intro x hx)|(refine gJ ?_;intro j x hj hx)|refine gP ?_|refine gV ?_|refine gC (hP) ?_|intro _))<;>try (conv=>whnf)
 refine aB [16,17] [] [] ?_
 (conv=>whnf)
 refine aA.mk ((Nat)) (fun k=>(k≤p.acts.length)) (fun k=>[(18,.data (i64 k)),(3,.fr ((lJ (p.acts.take k)).map ints))]) (fun _=>[]) (fun _=>[]) (fun k=>p.acts.length - k) (0) ?_ ?_ ?_
 rotate_left
 ·(repeat' ((conv=>whnf)<;>(first|exact trivial|exact rfl|with_reducible refine And.intro ?_ ?_)))<;>((conv=>whnf)<;>((unfold lJ;rfl)))
 rotate_left
 ·exact Nat.zero_le _
 rintro k hk
 have hLk:=hL k hk
 have hM:=Mw p.acts k hk
 by_cases hlt:k < p.acts.length
 ·obtain⟨a,ha⟩:∃a,p.acts[k]? =some a:=⟨p.acts[k]'hlt,by simp⟩
  have hs:=Ai ha
  have ham:=hA k a ha
  generalize lJ (p.acts.take k)=o at hLk hs hM
  (repeat' ((conv=>whnf);first|with_reducible refine Idx.got ha rfl ?_|(exfalso;omega)|refine gA ?_|(refine gB ?_ ?_<;>intro h)|(refine gI ?_;intro x hx)|(refine gJ ?_;intro j x hj hx)|refine gP ?_|refine gV ?_|intro _))<;>try (conv=>whnf)
  refine aB [5,16,17,18,23,24] [5] [22] ?_
  (conv=>whnf)
  refine aA.go ((Nat)×(List (List Int))) (fun⟨i,q⟩=>(i≤o.length)∧(q=extend (o.take i) a.modes.length)) (fun⟨i,q⟩=>[(25,.data (i64 i)),(6,.own 22 0)]) (fun _=>[]) (fun⟨i,q⟩=>[(22,26,q.map ints,0)]) (fun⟨i,q⟩=>o.length - i) ⟨0,[]⟩ ?_ ?_
  ·exact⟨Nat.zero_le _,by unfold extend;rfl⟩
  rintro⟨i,q⟩ ⟨hi,hq⟩
  have hql:q.length=i*a.modes.length:=by rw [hq,yx,List.length_take,Nat.min_eq_left hi]
  by_cases hil:i < o.length
  rotate_left
  ·(repeat' ((conv=>whnf);first|(exfalso;omega)|refine gA ?_|(refine gB ?_ ?_<;>intro h)|(refine gI ?_;intro x hx)|(refine gJ ?_;intro j x hj hx)|refine gP ?_|refine gV ?_|intro _))<;>try (conv=>whnf)
   refine nw (k+1) ?_ ?_
   ·(repeat' ((conv=>whnf)<;>(first|exact trivial|exact rfl|with_reducible refine And.intro ?_ ?_)))<;>((conv=>whnf)<;>((rw [hs,hq,List.take_of_length_le (by omega)])))
   exact (by omega:k+1≤p.acts.length)
  obtain⟨x,hx⟩:∃x,o[i]? =some x:=⟨o[i]'hil,by simp⟩
  have hxl:=hM x (List.mem_of_getElem? hx)
  have hqb:q.length≤27*3:=by rw [hql];exact Nat.mul_le_mul (by omega) (by omega)
  (repeat' ((conv=>whnf);first|with_reducible refine Idx.got hx rfl ?_|(exfalso;omega)|refine gA ?_|(refine gB ?_ ?_<;>intro h)|(refine gI ?_;intro x hx)|(refine gJ ?_;intro j x hj hx)|refine gP ?_|refine gV ?_|intro _))<;>try (conv=>whnf)
  refine aB [5,8,16,17,18,23,24,25,31] [5] [22] ?_
  (conv=>whnf)
  refine aA.go ((Nat)×(List (List Int))) (fun⟨j,r⟩=>(j≤a.modes.length)∧(r=q++pF x j)) (fun⟨j,r⟩=>[(32,.data (i64 j)),(6,.own 22 0)]) (fun _=>[]) (fun⟨j,r⟩=>[(22,26,r.map ints,0)]) (fun⟨j,r⟩=>a.modes.length - j) ⟨0,q⟩ ?_ ?_
  ·exact⟨Nat.zero_le _,by unfold pF;simp⟩
  rintro⟨j,r⟩ ⟨hj,hr⟩
  have hrl:r.length=q.length+j:=by rw [hr,List.length_append,Dw]
  by_cases hjl:j < a.modes.length
  ·(repeat' ((conv=>whnf);first|(exfalso;omega)|refine gA ?_|(refine gB ?_ ?_<;>intro h)|(refine gI ?_;intro x hx)|(refine gJ ?_;intro j x hj hx)|refine gP ?_|refine gV ?_|refine gC (slices_Clone_int x) ?_|intro _))<;>try (conv=>whnf)
   refine nw ⟨j+1,r++[x++[(j:Int)]]⟩ ?_ ?_
   ·(repeat' ((conv=>whnf)<;>(first|exact trivial|exact rfl|with_reducible refine And.intro ?_ ?_)))<;>((conv=>whnf)<;>(simp))
   exact⟨by omega,by rw [hr,IU,List.append_assoc]⟩
  ·(repeat' ((conv=>whnf);first|(exfalso;omega)|refine gA ?_|(refine gB ?_ ?_<;>intro h)|(refine gI ?_;intro x hx)|(refine gJ ?_;intro j x hj hx)|refine gP ?_|refine gV ?_|intro _))<;>try (conv=>whnf)
   refine nx ⟨i+1,r⟩ ?_
   refine⟨by omega,?_⟩
   rw [hr,show j=a.modes.length by omega,hq, ← IV _ hx]
 ·(repeat' ((conv=>whnf);first|(exfalso;omega)|refine gA ?_|(refine gB ?_ ?_<;>intro h)|(refine gI ?_;intro x hx)|(refine gJ ?_;intro j x hj hx)|refine gP ?_|refine gV ?_|intro _))<;>try (conv=>whnf)
  refine⟨?_,rfl,trivial⟩
  rw [List.take_of_length_le (by omega)]
def ade (s:aJ):RV:=.agg [.own 3 (s.starts.map i64),.own 3 (s.modes.map i64)]
theorem Jo (s:aJ):Con 26 [.d s.av] (ade s):=by
 refine con Tryz.func26 rfl rfl Tryz.call26 rfl fun hwf=>?_
 (repeat' ((conv=>whnf);first|refine gA ?_|(refine gB ?_ ?_<;>intro h)|refine gC (slices_Clone_int _) ?_|intro _))<;>try (conv=>whnf)
 exact fv
theorem Rp {p:Proj} {m:Nat}:∀s∈jo p m,bg p s=true:=by
 intro s hs
 obtain⟨ms,_,hs⟩:=List.mem_flatMap.1 hs
 exact (List.mem_filter.1 hs).2
attribute [local irreducible] bg
theorem FU (p:Proj) (hp:p.fine) (ho:aL p=true) (h3:p.acts.length≤3) (m:Nat) (hm:m≤12):Con 7 [.d p.av,.d (i64 m)] (.d (.sl ((jo p m).map aJ.av))):=by
 refine con Tryz.func7 rfl rfl Tryz.call7 rfl fun hwf=>?_
 clear hwf
 have hP:=bn p hp
 rw [ho] at hP
 have hS:Con 25 [.d (i64 ((p.acts.map aC.av).length:Nat)),.d (i64 m)] (.d (.sl ((iY (m+1) p.acts.length).map ints))):=by rw [List.length_map];exact Jm p.acts.length m h3 hm
 have hL:(lJ p.acts).length≤27:=by
  refine Nat.le_trans (Dx fun a ha=>?_) (Nat.le_trans (Nat.pow_le_pow_right (by decide) h3) (by decide))
  obtain⟨j,hj,e⟩:=List.mem_iff_getElem.1 ha
  have:=jH ho hj
  have hg:=iB (p:=p) hj
  rw [List.getElem?_eq_getElem hj,Option.some.injEq,e] at hg
  rw [hg];exact this.2
 have hT:(iY (m+1) p.acts.length).length≤2197:=by
  rw [vv]
  calc (m+1) ^ p.acts.length≤13 ^ p.acts.length:=Nat.pow_le_pow_left (by omega) _
   _≤13 ^ 3:=Nat.pow_le_pow_right (by decide) h3
 obtain⟨R,hR⟩:∃R,jo p m=R:=⟨_,rfl⟩
 rw [hR]
 unfold jo at hR
 have hw:within (m:Int) 0 12=true:=by unfold within;simp;omega
 have hW:=aS (m:Int) 0 12
 rw [hw] at hW
 have hA:=FT p hp ho h3
 generalize lJ p.acts=M at hL hA hR
 generalize iY (m+1) p.acts.length=S at hS hT hR
 (repeat' ((conv=>whnf);first|with_reducible refine Br.no (decide_eq_false (by omega)) ?_|refine gA ?_|(refine gN ?_ ?_<;>intro h hw)|(refine gB ?_ ?_<;>intro h)|(refine gI ?_;intro x hx)|(refine gJ ?_;intro j x hj hx)|refine gP ?_|refine gV ?_|refine gC (hP) ?_|refine gC (hW) ?_|refine gC (hA) ?_|intro _))<;>try (conv=>whnf)
 any_goals exact trivial
 refine aB [1,2,27,28] [2] [25] ?_
 (conv=>whnf)
 refine aA.go ((Nat)×(List aJ)) (fun⟨i,o⟩=>(i≤M.length)∧(o.length≤i*2197)∧(o=(M.take i).flatMap (fun ms=>(S.map fun st=>(⟨st,ms⟩:aJ)).filter (bg p)))) (fun⟨i,o⟩=>[(29,.data (i64 i)),(5,.own 25 0)]) (fun _=>[]) (fun⟨i,o⟩=>[(25,40,o.map aJ.av,0)]) (fun⟨i,o⟩=>M.length - i) ⟨0,[]⟩ ?_ ?_
 ·exact⟨Nat.zero_le _,Nat.zero_le _,rfl⟩
 rintro⟨i,o⟩ ⟨hi,hol,hq⟩
 by_cases hil:i < M.length
 rotate_left
 ·(repeat' ((conv=>whnf);first|(exfalso;omega)|refine gA ?_|(refine gN ?_ ?_<;>intro h hw)|(refine gB ?_ ?_<;>intro h)|(refine gI ?_;intro x hx)|(refine gJ ?_;intro j x hj hx)|refine gP ?_|refine gV ?_|intro _))<;>try (conv=>whnf)
  refine⟨?_,rfl,trivial⟩
  rw [hq,List.take_of_length_le (by omega),hR]
 obtain⟨ms,hx⟩:∃x,M[i]? =some x:=⟨M[i]'hil,by simp⟩
 (repeat' ((conv=>whnf);first|with_reducible refine Idx.got hx rfl ?_|(exfalso;omega)|refine gA ?_|(refine gN ?_ ?_<;>intro h hw)|(refine gB ?_ ?_<;>intro h)|(refine gI ?_;intro x hx)|(refine gJ ?_;intro j x hj hx)|refine gP ?_|refine gV ?_|refine gC (hS) ?_|intro _))<;>try (conv=>whnf)
 refine aB [1,2,7,27,28,29,37,38] [2] [25] ?_
 (conv=>whnf)
 refine aA.go ((Nat)×(List aJ)) (fun⟨j,r⟩=>(j≤S.length)∧(r.length≤i*2197+j)∧(r=o++((S.take j).map fun st=>(⟨st,ms⟩:aJ)).filter (bg p))) (fun⟨j,r⟩=>[(39,.data (i64 j)),(5,.own 25 0)]) (fun _=>[]) (fun⟨j,r⟩=>[(25,40,r.map aJ.av,0)]) (fun⟨j,r⟩=>S.length - j) ⟨0,o⟩ ?_ ?_
 ·exact⟨Nat.zero_le _,hol,by simp⟩
 rintro⟨j,r⟩ ⟨hj,hrl,hr⟩
 by_cases hjl:j < S.length
 rotate_left
 ·(repeat' ((conv=>whnf);first|(exfalso;omega)|refine gA ?_|(refine gN ?_ ?_<;>intro h hw)|(refine gB ?_ ?_<;>intro h)|(refine gI ?_;intro x hx)|(refine gJ ?_;intro j x hj hx)|refine gP ?_|refine gV ?_|intro _))<;>try (conv=>whnf)
  refine nx ⟨i+1,r⟩ ?_
  refine⟨by omega,by omega,?_⟩
  rw [hr,hq,List.take_of_length_le (l:=S) (by omega),XY hx]
 obtain⟨st,hy⟩:∃x,S[j]? =some x:=⟨S[j]'hjl,by simp⟩
 have hK:=jm p (⟨st,ms⟩:aJ) hp
 have hC:=Jo (⟨st,ms⟩:aJ)
 have hf:=XZ (f:=fun st=>(⟨st,ms⟩:aJ)) (g:=bg p) hy
 cases hs:bg p (⟨st,ms⟩:aJ) with
 |true=>
  rw [hs] at hK hf
  (repeat' ((conv=>whnf);first|with_reducible refine Idx.got hy rfl ?_|(exfalso;omega)|refine gA ?_|(refine gN ?_ ?_<;>intro h hw)|(refine gB ?_ ?_<;>intro h)|(refine gI ?_;intro x hx)|(refine gJ ?_;intro j x hj hx)|refine gP ?_|refine gV ?_|refine gC (hK) ?_|refine gC (hC) ?_|intro _))<;>try (conv=>whnf)
  refine nw ⟨j+1,r++[(⟨st,ms⟩:aJ)]⟩ ?_ ?_
  ·(repeat' ((conv=>whnf)<;>(first|exact trivial|exact rfl|with_reducible refine And.intro ?_ ?_)))<;>((conv=>whnf)<;>(simp))
  exact⟨by omega,by simp;omega,by rw [hf,hr,List.append_assoc];rfl⟩
 |false=>
  rw [hs] at hK hf
  (repeat' ((conv=>whnf);first|with_reducible refine Idx.got hy rfl ?_|(exfalso;omega)|refine gA ?_|(refine gN ?_ ?_<;>intro h hw)|(refine gB ?_ ?_<;>intro h)|(refine gI ?_;intro x hx)|(refine gJ ?_;intro j x hj hx)|refine gP ?_|refine gV ?_|refine gC (hK) ?_|intro _))<;>try (conv=>whnf)
  refine nx ⟨j+1,r⟩ ?_
  exact⟨by omega,by omega,by rw [hf,hr];simp⟩
end Go.Proofs.YtmenphiahgkjkaaGreatDoor.Abs
namespace Go.Proofs.YtmenphiahgkjkaaGreatDoor.Abs
open Go.Proofs
def abQ (b:Dom) (s:aJ) (k:Nat):Bool:= !(decide (s.starts.getD k 0 < b.lo.getD k 0)||decide (s.starts.getD k 0 > b.hi.getD k 0)|| !(b.modes.getD k []).contains (s.modes.getD k 0))
def contains (b:Dom) (s:aJ):Bool:=
 !(decide ((s.modes.length:Int)≠s.starts.length)||decide ((b.lo.length:Int)≠s.starts.length)||decide ((b.hi.length:Int)≠s.starts.length)||decide ((b.modes.length:Int)≠s.starts.length))&&CV s.starts.length (abQ b s)
end Go.Proofs.YtmenphiahgkjkaaGreatDoor.Abs
