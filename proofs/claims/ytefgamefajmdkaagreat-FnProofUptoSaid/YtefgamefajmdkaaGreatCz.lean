/- Contracts: all mode lists, all start lists, all schedules; what holds in a schedule. -/
import Derived.Test.YtefgamefajmdkaaGreatC22
import Derived.Test.YtefgamefajmdkaaGreatC3
import Derived.Test.YtefgamefajmdkaaGreatSnd
import Derived.Test.YtefgamefajmdkaaGreatC12
set_option linter.all false
set_option maxRecDepth 20000
set_option maxHeartbeats 0
namespace Go.Proofs.YtefgamefajmdkaaGreat.Abs
open Go.Proofs
def oo (x:List Int) (m:Nat):List (List Int):=(List.range m).map fun (t:Nat)=>x++[(t:Int)]
def extend (o:List (List Int)) (m:Nat):List (List Int):=o.flatMap fun x=>oo x m
def jB (m:Nat):Nat→List (List Int)
 |0=>[[]]
 |n+1=>extend (jB m n) m
def lU (l:List aG):List (List Int):=l.foldl (fun o a=>extend o a.modes.length) [[]]
def lM (p:Proj) (m:Nat):List aM:=(lU p.acts).flatMap fun ms=>((jB (m+1) p.acts.length).map fun st=>(⟨st,ms⟩:aM)).filter (dZ p)
theorem BJ (x:List Int) (m:Nat):(oo x m).length=m:=by unfold oo;simp
theorem Gv (x:List Int) (j:Nat):oo x (j+1)=oo x j++[x++[(j:Int)]]:=by unfold oo;rw [List.range_succ,List.map_append];rfl
theorem wB (o:List (List Int)) (m:Nat):(extend o m).length=o.length*m:=by
 induction o with
 |nil=>simp [extend]
 |cons x o ih=>rw [extend,List.flatMap_cons,List.length_append,BJ];rw [extend] at ih;rw [ih,List.length_cons,Nat.succ_mul];omega
theorem Gw {o:List (List Int)} {i:Nat} {x:List Int} (m:Nat) (h:o[i]? =some x):extend (o.take (i+1)) m=extend (o.take i) m++oo x m:=by
 rw [List.take_add_one,h,extend,List.flatMap_append]
 simp [extend]
theorem Gx {l:List aG} {k:Nat} {a:aG} (h:l[k]? =some a):lU (l.take (k+1))=extend (lU (l.take k)) a.modes.length:=by
 rw [List.take_add_one,h,lU,List.foldl_append];rfl
theorem sP (m:Nat):∀n,(jB m n).length=m ^ n
 |0=>rfl
 |n+1=>by rw [jB,wB,sP m n,Nat.pow_succ]
theorem BQ {l:List aG} (h:∀a∈l,a.modes.length≤3):(lU l).length≤3 ^ l.length:=by
 have:∀(l:List aG) (o:List (List Int)),(∀a∈l,a.modes.length≤3)→(l.foldl (fun o a=>extend o a.modes.length) o).length≤o.length*3 ^ l.length:=by
  intro l
  induction l with
  |nil=>intro o _;simp
  |cons a l ih=>
   intro o h
   rw [List.foldl_cons]
   refine Nat.le_trans (ih _ fun b hb=>h b (List.mem_cons_of_mem _ hb)) ?_
   rw [wB,List.length_cons,Nat.pow_succ]
   have h1:o.length*a.modes.length≤o.length*3:=Nat.mul_le_mul_left _ (h a (List.mem_cons_self ..))
   calc o.length*a.modes.length*3 ^ l.length≤o.length*3*3 ^ l.length:=Nat.mul_le_mul_right _ h1
    _=o.length*(3 ^ l.length*3):=by rw [Nat.mul_assoc,Nat.mul_comm 3]
 have:=this l [[]] h
 rwa [show ([[]]:List (List Int)).length=1 from rfl,Nat.one_mul] at this
theorem Vh {α β} {f:α→List β} {l:List α} {i:Nat} {x:α} (h:l[i]? =some x):(l.take (i+1)).flatMap f=(l.take i).flatMap f++f x:=by
 rw [List.take_add_one,h,List.flatMap_append];simp
theorem Vi {α β} {f:α→β} {g:β→Bool} {l:List α} {i:Nat} {x:α} (h:l[i]? =some x):((l.take (i+1)).map f).filter g=((l.take i).map f).filter g++(if g (f x)=true then [f x] else []):=by
 rw [List.take_add_one,h,List.map_append,List.filter_append];simp [List.filter_cons]
theorem Kk {o:List (List Int)} {m k:Nat} (h:∀x∈o,x.length=k):∀x∈extend o m,x.length=k+1:=by
 intro x hx
 rw [extend,List.mem_flatMap] at hx
 obtain⟨y,hy,hx⟩:=hx
 rw [oo,List.mem_map] at hx
 obtain⟨t,_,rfl⟩:=hx
 rw [List.length_append,h y hy];rfl
theorem Gy (m:Nat):∀n,∀x∈jB m n,x.length=n
 |0=>by intro x hx;rw [jB,List.mem_singleton] at hx;rw [hx];rfl
 |n+1=>Kk (Gy m n)
theorem Kl (l:List aG):∀k,k≤l.length→∀x∈lU (l.take k),x.length=k
 |0,_=>by intro x hx;rw [List.take_zero,lU,List.foldl_nil,List.mem_singleton] at hx;rw [hx];rfl
 |k+1,hk=>by rw [Gx (List.getElem?_eq_getElem (by omega:k < l.length))];exact Kk (Kl l k (by omega))
attribute [local irreducible] extend oo
theorem Ho (n m:Nat) (hn:n≤3) (hm:m≤12):Con 55 [.d (i64 n),.d (i64 m)] (.d (.sl ((jB (m+1) n).map ints))):=by
 refine con Tryz.func55 rfl rfl Tryz.call55 rfl fun hwf=>?_
 clear hwf
 have hL:∀k,k≤n→(jB (m+1) k).length≤2197:=fun k hk=>by
  rw [sP]
  calc (m+1) ^ k≤13 ^ k:=Nat.pow_le_pow_left (by omega) k
   _≤13 ^ 3:=Nat.pow_le_pow_right (by decide) (by omega)
 (repeat' ((conv=>whnf);first|refine gA ?_|(refine gB ?_ ?_<;>intro h)|(refine gI ?_;intro x hx)|(refine gJ ?_;intro j x hj hx)|refine gP ?_|refine gV ?_|intro _))<;>try (conv=>whnf)
 refine aB [1,12] [] [] ?_
 (conv=>whnf)
 refine aA.go ((Nat)) (fun k=>(k≤n)) (fun k=>[(13,.data (i64 k)),(5,.fr ((jB (m+1) k).map ints))]) (fun _=>[]) (fun _=>[]) (fun k=>n - k) (0) ?_ ?_
 ·exact Nat.zero_le _
 rintro k hk
 have hLk:=hL k hk
 by_cases hlt:k < n
 ·have hs:jB (m+1) (k+1)=extend (jB (m+1) k) (m+1):=rfl
  have hM:=Gy (m+1) k
  generalize jB (m+1) k=o at hLk hs hM
  (repeat' ((conv=>whnf);first|(exfalso;omega)|refine gA ?_|(refine gB ?_ ?_<;>intro h)|(refine gI ?_;intro x hx)|(refine gJ ?_;intro j x hj hx)|refine gP ?_|refine gV ?_|intro _))<;>try (conv=>whnf)
  refine aB [1,12,13,16,17] [] [15] ?_
  (conv=>whnf)
  refine aA.go ((Nat)×(List (List Int))) (fun⟨i,q⟩=>(i≤o.length)∧(q=extend (o.take i) (m+1))) (fun⟨i,q⟩=>[(18,.data (i64 i)),(6,.own 15 0)]) (fun _=>[]) (fun⟨i,q⟩=>[(15,26,q.map ints,0)]) (fun⟨i,q⟩=>o.length - i) ⟨0,[]⟩ ?_ ?_
  ·exact⟨Nat.zero_le _,by unfold extend;rfl⟩
  rintro⟨i,q⟩ ⟨hi,hq⟩
  have hql:q.length=i*(m+1):=by rw [hq,wB,List.length_take,Nat.min_eq_left hi]
  by_cases hil:i < o.length
  rotate_left
  ·(repeat' ((conv=>whnf);first|(exfalso;omega)|refine gA ?_|(refine gB ?_ ?_<;>intro h)|(refine gI ?_;intro x hx)|(refine gJ ?_;intro j x hj hx)|refine gP ?_|refine gV ?_|intro _))<;>try (conv=>whnf)
   refine nw (k+1) ?_ ?_
   ·(repeat' ((conv=>whnf)<;>(first|exact trivial|exact rfl|with_reducible refine And.intro ?_ ?_)))<;>((conv=>whnf)<;>((rw [hs,hq,List.take_of_length_le (by omega)])))
   exact (by omega:k+1≤n)
  obtain⟨x,hx⟩:∃x,o[i]? =some x:=⟨o[i]'hil,by simp⟩
  have hxl:=hM x (List.mem_of_getElem? hx)
  have hqb:q.length≤2197*13:=by rw [hql];exact Nat.mul_le_mul (by omega) (by omega)
  (repeat' ((conv=>whnf);first|with_reducible refine Idx.got hx rfl ?_|(exfalso;omega)|refine gA ?_|(refine gB ?_ ?_<;>intro h)|(refine gI ?_;intro x hx)|(refine gJ ?_;intro j x hj hx)|refine gP ?_|refine gV ?_|intro _))<;>try (conv=>whnf)
  refine aB [1,8,12,13,16,17,18,23] [] [15] ?_
  (conv=>whnf)
  refine aA.go ((Nat)×(List (List Int))) (fun⟨j,r⟩=>(j≤m+1)∧(r=q++oo x j)) (fun⟨j,r⟩=>[(24,.data (i64 j)),(6,.own 15 0)]) (fun _=>[]) (fun⟨j,r⟩=>[(15,26,r.map ints,0)]) (fun⟨j,r⟩=>m+1 - j) ⟨0,q⟩ ?_ ?_
  ·exact⟨Nat.zero_le _,by unfold oo;simp⟩
  rintro⟨j,r⟩ ⟨hj,hr⟩
  have hrl:r.length=q.length+j:=by rw [hr,List.length_append,BJ]
  by_cases hjl:j < m+1
  ·(repeat' ((conv=>whnf);first|(exfalso;omega)|refine gA ?_|(refine gB ?_ ?_<;>intro h)|(refine gI ?_;intro x hx)|(refine gJ ?_;intro j x hj hx)|refine gP ?_|refine gV ?_|refine gC (slices_Clone_int x) ?_|intro _))<;>try (conv=>whnf)
   refine nw ⟨j+1,r++[x++[(j:Int)]]⟩ ?_ ?_
   ·(repeat' ((conv=>whnf)<;>(first|exact trivial|exact rfl|with_reducible refine And.intro ?_ ?_)))<;>((conv=>whnf)<;>(simp))
   exact⟨by omega,by rw [hr,Gv,List.append_assoc]⟩
  ·(repeat' ((conv=>whnf);first|(exfalso;omega)|refine gA ?_|(refine gB ?_ ?_<;>intro h)|(refine gI ?_;intro x hx)|(refine gJ ?_;intro j x hj hx)|refine gP ?_|refine gV ?_|intro _))<;>try (conv=>whnf)
   refine nx ⟨i+1,r⟩ ?_
   refine⟨by omega,?_⟩
   rw [hr,show j=m+1 by omega,hq, ← Gw _ hx]
 ·(repeat' ((conv=>whnf);first|(exfalso;omega)|refine gA ?_|(refine gB ?_ ?_<;>intro h)|(refine gI ?_;intro x hx)|(refine gJ ?_;intro j x hj hx)|refine gP ?_|refine gV ?_|intro _))<;>try (conv=>whnf)
  refine⟨?_,rfl,trivial⟩
  rw [show k=n by omega]
attribute [local irreducible] lU jB
theorem Eo (p:Proj) (hp:p.fine) (ho:aF p=true) (h3:p.acts.length≤3):Con 54 [.d p.av] (.d (.sl ((lU p.acts).map ints))):=by
 refine con Tryz.func54 rfl rfl Tryz.call54 rfl fun hwf=>?_
 clear hwf
 have hA:∀(k:Nat) (a:aG),p.acts[k]? =some a→a.modes.length≤3:=fun k a ha=>by
  have hk:k < p.acts.length:=(List.getElem?_eq_some_iff.1 ha).1
  have:=jo ho hk
  rw [fJ hk] at ha
  cases ha
  exact this.2
 have hL:∀k,k≤p.acts.length→(lU (p.acts.take k)).length≤27:=fun k hk=>by
  refine Nat.le_trans (BQ fun a ha=>?_) (Nat.le_trans (Nat.pow_le_pow_right (by decide) (by rw [List.length_take];omega:_≤3)) (by decide))
  obtain⟨j,hj,e⟩:=List.mem_iff_getElem.1 (List.mem_of_mem_take ha)
  exact hA j a (by rw [List.getElem?_eq_getElem hj,e])
 have hP:=cO p hp
 rw [ho] at hP
 (repeat' ((conv=>whnf);first|refine gA ?_|(refine gB ?_ ?_<;>intro h)|(refine gI ?_;intro x hx)|(refine gJ ?_;intro j x hj hx)|refine gP ?_|refine gV ?_|refine gC (hP) ?_|intro _))<;>try (conv=>whnf)
 refine aB [16,17] [] [] ?_
 (conv=>whnf)
 refine aA.mk ((Nat)) (fun k=>(k≤p.acts.length)) (fun k=>[(18,.data (i64 k)),(3,.fr ((lU (p.acts.take k)).map ints))]) (fun _=>[]) (fun _=>[]) (fun k=>p.acts.length - k) (0) ?_ ?_ ?_
 rotate_left
 ·(repeat' ((conv=>whnf)<;>(first|exact trivial|exact rfl|with_reducible refine And.intro ?_ ?_)))<;>((conv=>whnf)<;>((unfold lU;rfl)))
 rotate_left
 ·exact Nat.zero_le _
 rintro k hk
 have hLk:=hL k hk
 have hM:=Kl p.acts k hk
 by_cases hlt:k < p.acts.length
 ·obtain⟨a,ha⟩:∃a,p.acts[k]? =some a:=⟨p.acts[k]'hlt,by simp⟩
  have hs:=Gx ha
  have ham:=hA k a ha
  generalize lU (p.acts.take k)=o at hLk hs hM
  (repeat' ((conv=>whnf);first|with_reducible refine Idx.got ha rfl ?_|(exfalso;omega)|refine gA ?_|(refine gB ?_ ?_<;>intro h)|(refine gI ?_;intro x hx)|(refine gJ ?_;intro j x hj hx)|refine gP ?_|refine gV ?_|intro _))<;>try (conv=>whnf)
  refine aB [5,16,17,18,23,24] [5] [22] ?_
  (conv=>whnf)
  refine aA.go ((Nat)×(List (List Int))) (fun⟨i,q⟩=>(i≤o.length)∧(q=extend (o.take i) a.modes.length)) (fun⟨i,q⟩=>[(25,.data (i64 i)),(6,.own 22 0)]) (fun _=>[]) (fun⟨i,q⟩=>[(22,26,q.map ints,0)]) (fun⟨i,q⟩=>o.length - i) ⟨0,[]⟩ ?_ ?_
  ·exact⟨Nat.zero_le _,by unfold extend;rfl⟩
  rintro⟨i,q⟩ ⟨hi,hq⟩
  have hql:q.length=i*a.modes.length:=by rw [hq,wB,List.length_take,Nat.min_eq_left hi]
  by_cases hil:i < o.length
  rotate_left
  ·(repeat' ((conv=>whnf);first|(exfalso;omega)|refine gA ?_|(refine gB ?_ ?_<;>intro h)|(refine gI ?_;intro x hx)|(refine gJ ?_;intro j x hj hx)|refine gP ?_|refine gV ?_|intro _))<;>try (conv=>whnf)
   refine nw (k+1) ?_ ?_
   ·(repeat' ((conv=>whnf)<;>(first|exact trivial|exact rfl|with_reducible refine And.intro ?_ ?_)))<;>((conv=>whnf)<;>((rw [hs,hq,List.take_of_length_le (by omega)])))
   exact (by omega:k+1≤p.acts.length)
  obtain⟨x,hx⟩:∃x,o[i]? =some x:=⟨o[i]'hil,by simp⟩
  have hxl:=hM x (List.mem_of_getElem? hx)
  have hqb:q.length≤27*3:=by rw [hql];exact Nat.mul_le_mul (by omega) (by omega)
  (repeat' ((conv=>whnf);first|with_reducible refine Idx.got hx rfl ?_|(exfalso;omega)|refine gA ?_|(refine gB ?_ ?_<;>intro h)|(refine gI ?_;intro x hx)|(refine gJ ?_;intro j x hj hx)|refine gP ?_|refine gV ?_|intro _))<;>try (conv=>whnf)
  refine aB [5,8,16,17,18,23,24,25,31] [5] [22] ?_
  (conv=>whnf)
  refine aA.go ((Nat)×(List (List Int))) (fun⟨j,r⟩=>(j≤a.modes.length)∧(r=q++oo x j)) (fun⟨j,r⟩=>[(32,.data (i64 j)),(6,.own 22 0)]) (fun _=>[]) (fun⟨j,r⟩=>[(22,26,r.map ints,0)]) (fun⟨j,r⟩=>a.modes.length - j) ⟨0,q⟩ ?_ ?_
  ·exact⟨Nat.zero_le _,by unfold oo;simp⟩
  rintro⟨j,r⟩ ⟨hj,hr⟩
  have hrl:r.length=q.length+j:=by rw [hr,List.length_append,BJ]
  by_cases hjl:j < a.modes.length
  ·(repeat' ((conv=>whnf);first|(exfalso;omega)|refine gA ?_|(refine gB ?_ ?_<;>intro h)|(refine gI ?_;intro x hx)|(refine gJ ?_;intro j x hj hx)|refine gP ?_|refine gV ?_|refine gC (slices_Clone_int x) ?_|intro _))<;>try (conv=>whnf)
   refine nw ⟨j+1,r++[x++[(j:Int)]]⟩ ?_ ?_
   ·(repeat' ((conv=>whnf)<;>(first|exact trivial|exact rfl|with_reducible refine And.intro ?_ ?_)))<;>((conv=>whnf)<;>(simp))
   exact⟨by omega,by rw [hr,Gv,List.append_assoc]⟩
  ·(repeat' ((conv=>whnf);first|(exfalso;omega)|refine gA ?_|(refine gB ?_ ?_<;>intro h)|(refine gI ?_;intro x hx)|(refine gJ ?_;intro j x hj hx)|refine gP ?_|refine gV ?_|intro _))<;>try (conv=>whnf)
   refine nx ⟨i+1,r⟩ ?_
   refine⟨by omega,?_⟩
   rw [hr,show j=a.modes.length by omega,hq, ← Gw _ hx]
 ·(repeat' ((conv=>whnf);first|(exfalso;omega)|refine gA ?_|(refine gB ?_ ?_<;>intro h)|(refine gI ?_;intro x hx)|(refine gJ ?_;intro j x hj hx)|refine gP ?_|refine gV ?_|intro _))<;>try (conv=>whnf)
  refine⟨?_,rfl,trivial⟩
  rw [List.take_of_length_le (by omega)]
def aar (s:aM):RV:=.agg [.own 3 (s.starts.map i64),.own 3 (s.modes.map i64)]
theorem Hq (s:aM):Con 57 [.d s.av] (aar s):=by
 refine con Tryz.func57 rfl rfl Tryz.call57 rfl fun hwf=>?_
 (repeat' ((conv=>whnf);first|refine gA ?_|(refine gB ?_ ?_<;>intro h)|refine gC (slices_Clone_int _) ?_|intro _))<;>try (conv=>whnf)
 exact fv
theorem OI {p:Proj} {m:Nat}:∀s∈lM p m,dZ p s=true:=by
 intro s hs
 obtain⟨ms,_,hs⟩:=List.mem_flatMap.1 hs
 exact (List.mem_filter.1 hs).2
attribute [local irreducible] dZ
theorem Ep (p:Proj) (hp:p.fine) (ho:aF p=true) (h3:p.acts.length≤3) (m:Nat) (hm:m≤12):Con 14 [.d p.av,.d (i64 m)] (.d (.sl ((lM p m).map aM.av))):=by
 refine con Tryz.func14 rfl rfl Tryz.call14 rfl fun hwf=>?_
 clear hwf
 have hP:=cO p hp
 rw [ho] at hP
 have hS:Con 55 [.d (i64 ((p.acts.map aG.av).length:Nat)),.d (i64 m)] (.d (.sl ((jB (m+1) p.acts.length).map ints))):=by rw [List.length_map];exact Ho p.acts.length m h3 hm
 have hL:(lU p.acts).length≤27:=by
  refine Nat.le_trans (BQ fun a ha=>?_) (Nat.le_trans (Nat.pow_le_pow_right (by decide) h3) (by decide))
  obtain⟨j,hj,e⟩:=List.mem_iff_getElem.1 ha
  have:=jo ho hj
  have hg:=fJ (p:=p) hj
  rw [List.getElem?_eq_getElem hj,Option.some.injEq,e] at hg
  rw [hg];exact this.2
 have hT:(jB (m+1) p.acts.length).length≤2197:=by
  rw [sP]
  calc (m+1) ^ p.acts.length≤13 ^ p.acts.length:=Nat.pow_le_pow_left (by omega) _
   _≤13 ^ 3:=Nat.pow_le_pow_right (by decide) h3
 obtain⟨R,hR⟩:∃R,lM p m=R:=⟨_,rfl⟩
 rw [hR]
 unfold lM at hR
 have hw:within (m:Int) 0 12=true:=by unfold within;simp;omega
 have hW:=aP (m:Int) 0 12
 rw [hw] at hW
 have hA:=Eo p hp ho h3
 generalize lU p.acts=M at hL hA hR
 generalize jB (m+1) p.acts.length=S at hS hT hR
 (repeat' ((conv=>whnf);first|with_reducible refine Br.no (decide_eq_false (by omega)) ?_|refine gA ?_|(refine gN ?_ ?_<;>intro h hw)|(refine gB ?_ ?_<;>intro h)|(refine gI ?_;intro x hx)|(refine gJ ?_;intro j x hj hx)|refine gP ?_|refine gV ?_|refine gC (hP) ?_|refine gC (hW) ?_|refine gC (hA) ?_|intro _))<;>try (conv=>whnf)
 any_goals exact trivial
 refine aB [1,2,27,28] [2] [25] ?_
 (conv=>whnf)
 refine aA.go ((Nat)×(List aM)) (fun⟨i,o⟩=>(i≤M.length)∧(o.length≤i*2197)∧(o=(M.take i).flatMap (fun ms=>(S.map fun st=>(⟨st,ms⟩:aM)).filter (dZ p)))) (fun⟨i,o⟩=>[(29,.data (i64 i)),(5,.own 25 0)]) (fun _=>[]) (fun⟨i,o⟩=>[(25,45,o.map aM.av,0)]) (fun⟨i,o⟩=>M.length - i) ⟨0,[]⟩ ?_ ?_
 ·exact⟨Nat.zero_le _,Nat.zero_le _,rfl⟩
 rintro⟨i,o⟩ ⟨hi,hol,hq⟩
 by_cases hil:i < M.length
 rotate_left
 ·(repeat' ((conv=>whnf);first|(exfalso;omega)|refine gA ?_|(refine gN ?_ ?_<;>intro h hw)|(refine gB ?_ ?_<;>intro h)|(refine gI ?_;intro x hx)|(refine gJ ?_;intro j x hj hx)|refine gP ?_|refine gV ?_|intro _))<;>try (conv=>whnf)
  refine⟨?_,rfl,trivial⟩
  rw [hq,List.take_of_length_le (by omega),hR]
 obtain⟨ms,hx⟩:∃x,M[i]? =some x:=⟨M[i]'hil,by simp⟩
 (repeat' ((conv=>whnf);first|with_reducible refine Idx.got hx rfl ?_|(exfalso;omega)|refine gA ?_|(refine gN ?_ ?_<;>intro h hw)|(refine gB ?_ ?_<;>intro h)|(refine gI ?_;intro x hx)|(refine gJ ?_;intro j x hj hx)|refine gP ?_|refine gV ?_|refine gC (hS) ?_|intro _))<;>try (conv=>whnf)
 refine aB [1,2,7,27,28,29,37,38] [2] [25] ?_
 (conv=>whnf)
 refine aA.go ((Nat)×(List aM)) (fun⟨j,r⟩=>(j≤S.length)∧(r.length≤i*2197+j)∧(r=o++((S.take j).map fun st=>(⟨st,ms⟩:aM)).filter (dZ p))) (fun⟨j,r⟩=>[(39,.data (i64 j)),(5,.own 25 0)]) (fun _=>[]) (fun⟨j,r⟩=>[(25,45,r.map aM.av,0)]) (fun⟨j,r⟩=>S.length - j) ⟨0,o⟩ ?_ ?_
 ·exact⟨Nat.zero_le _,hol,by simp⟩
 rintro⟨j,r⟩ ⟨hj,hrl,hr⟩
 by_cases hjl:j < S.length
 rotate_left
 ·(repeat' ((conv=>whnf);first|(exfalso;omega)|refine gA ?_|(refine gN ?_ ?_<;>intro h hw)|(refine gB ?_ ?_<;>intro h)|(refine gI ?_;intro x hx)|(refine gJ ?_;intro j x hj hx)|refine gP ?_|refine gV ?_|intro _))<;>try (conv=>whnf)
  refine nx ⟨i+1,r⟩ ?_
  refine⟨by omega,by omega,?_⟩
  rw [hr,hq,List.take_of_length_le (l:=S) (by omega),Vh hx]
 obtain⟨st,hy⟩:∃x,S[j]? =some x:=⟨S[j]'hjl,by simp⟩
 have hK:=Hf p (⟨st,ms⟩:aM) hp
 have hC:=Hq (⟨st,ms⟩:aM)
 have hf:=Vi (f:=fun st=>(⟨st,ms⟩:aM)) (g:=dZ p) hy
 cases hs:dZ p (⟨st,ms⟩:aM) with
 |true=>
  rw [hs] at hK hf
  (repeat' ((conv=>whnf);first|with_reducible refine Idx.got hy rfl ?_|(exfalso;omega)|refine gA ?_|(refine gN ?_ ?_<;>intro h hw)|(refine gB ?_ ?_<;>intro h)|(refine gI ?_;intro x hx)|(refine gJ ?_;intro j x hj hx)|refine gP ?_|refine gV ?_|refine gC (hK) ?_|refine gC (hC) ?_|intro _))<;>try (conv=>whnf)
  refine nw ⟨j+1,r++[(⟨st,ms⟩:aM)]⟩ ?_ ?_
  ·(repeat' ((conv=>whnf)<;>(first|exact trivial|exact rfl|with_reducible refine And.intro ?_ ?_)))<;>((conv=>whnf)<;>(simp))
  exact⟨by omega,by simp;omega,by rw [hf,hr,List.append_assoc];rfl⟩
 |false=>
  rw [hs] at hK hf
  (repeat' ((conv=>whnf);first|with_reducible refine Idx.got hy rfl ?_|(exfalso;omega)|refine gA ?_|(refine gN ?_ ?_<;>intro h hw)|(refine gB ?_ ?_<;>intro h)|(refine gI ?_;intro x hx)|(refine gJ ?_;intro j x hj hx)|refine gP ?_|refine gV ?_|refine gC (hK) ?_|intro _))<;>try (conv=>whnf)
  refine nx ⟨j+1,r⟩ ?_
  exact⟨by omega,by omega,by rw [hf,hr];simp⟩
end Go.Proofs.YtefgamefajmdkaaGreat.Abs
namespace Go.Proofs.YtefgamefajmdkaaGreat.Abs
open Go.Proofs
theorem Gz {l:Lit} {s:aM} (h:within l.act 0 ((s.starts.length:Int) - 1)=false∨within l.act 0 ((s.modes.length:Int) - 1)=false):bS l s=false:=by
 unfold bS;rcases h with h|h<;>rw [h]<;>simp
theorem Er (l:Lit) (s:aM):Con 67 [.d l.av,.d s.av] (.d (.bool (bS l s))):=by
 refine con Tryz.func67 rfl rfl Tryz.call67 rfl fun hwf=>?_
 simp only [ARs.wf,AR.wf,AV.wf,AV.wfs,Lit.av,aM.av,List.length_map,lim] at hwf
 obtain⟨R,hR⟩:∃R,bS l s=R:=⟨_,rfl⟩
 rw [hR]
 have hA:=aP l.act 0 (((s.starts.map i64).length:Int) - 1)
 have hB:=aP l.act 0 (((s.modes.map i64).length:Int) - 1)
 rw [List.length_map] at hA hB
 cases h1:within l.act 0 ((s.starts.length:Int) - 1) with
 |false=>
  rw [h1] at hA
  rw [Gz (.inl h1)] at hR
  subst hR
  (repeat' ((conv=>whnf);first|refine gA ?_|(refine gN ?_ ?_<;>intro h hw)|(refine gB ?_ ?_<;>intro h)|(refine gI ?_;intro x hx)|(refine gJ ?_;intro j x hj hx)|refine gV ?_|refine gC ((by rw [List.length_map];exact hA)) ?_|intro _))<;>try (conv=>whnf)
  all_goals exact⟨rfl,rfl,trivial⟩
 |true=>
 cases h2:within l.act 0 ((s.modes.length:Int) - 1) with
 |false=>
  rw [h1] at hA
  rw [h2] at hB
  rw [Gz (.inr h2)] at hR
  subst hR
  (repeat' ((conv=>whnf);first|refine gA ?_|(refine gN ?_ ?_<;>intro h hw)|(refine gB ?_ ?_<;>intro h)|(refine gI ?_;intro x hx)|(refine gJ ?_;intro j x hj hx)|refine gV ?_|refine gC ((by rw [List.length_map];exact hA)) ?_|refine gC ((by rw [List.length_map];exact hB)) ?_|intro _))<;>try (conv=>whnf)
  all_goals exact⟨rfl,rfl,trivial⟩
 |true=>
  have h1':=h1
  have h2':=h2
  unfold within at h1' h2'
  simp only [Bool.and_eq_true,decide_eq_true_eq] at h1' h2'
  obtain⟨x,hx⟩:∃x,s.starts[l.act.toNat]? =some x:=⟨s.starts[l.act.toNat]'(by omega),by simp⟩
  obtain⟨y,hy⟩:∃x,s.modes[l.act.toNat]? =some x:=⟨s.modes[l.act.toNat]'(by omega),by simp⟩
  have gx:s.starts.getD l.act.toNat 0=x:=by rw [List.getD_eq_getElem?_getD,hx];rfl
  have gy:s.modes.getD l.act.toNat 0=y:=by rw [List.getD_eq_getElem?_getD,hy];rfl
  unfold bS at hR
  rw [h1,h2,gx,gy,Bool.true_and,Bool.true_and] at hR
  rw [h1] at hA
  rw [h2] at hB
  have ea:l.act=((l.act.toNat:Nat):Int):=by omega
  (repeat' ((conv=>whnf);first|with_reducible refine Idx.got hx ea ?_|with_reducible refine Idx.got hy ea ?_|refine gA ?_|(refine gN ?_ ?_<;>intro h hw)|(refine gB ?_ ?_<;>intro h)|(refine gI ?_;intro x hx)|(refine gJ ?_;intro j x hj hx)|refine gV ?_|refine gC ((by rw [List.length_map];exact hA)) ?_|refine gC ((by rw [List.length_map];exact hB)) ?_|intro _))<;>try (conv=>whnf)
  all_goals refine⟨?_,rfl,trivial⟩
  all_goals subst hR
  all_goals simp [*]
theorem Es (l:Lit) (s:aM):Con 66 [.d l.av,.ref s.av] (.d (.bool (bS l s))):=by
 refine con Tryz.func66 rfl rfl Tryz.call66 rfl fun hwf=>?_
 (repeat' ((conv=>whnf);first|refine gA ?_|(refine gB ?_ ?_<;>intro h)|refine gC (Er l s) ?_|intro _))<;>try (conv=>whnf)
 exact⟨rfl,rfl,trivial⟩
theorem wN (l:List Lit) (fc:Nat) (caps:List AV) (p:Lit→Bool) (hc:∀x:Lit,Con fc ([.d x.av]++caps.map .ref) (.d (.bool (p x)))):
  Con 131 [.d (lits l),.fn fc caps] (.d (i64 (aW p l 0))):=by
 refine con Tryz.func131 rfl rfl Tryz.call131 rfl fun hwf=>?_
 simp only [ARs.wf,AR.wf,lits,AV.wf,AV.wfs,List.length_map,lim] at hwf
 (conv=>whnf)
 refine aB [0,1,7] [] [] ?_
 (conv=>whnf)
 refine aA.go ((Nat)) (fun k=>(k≤l.length)∧(aW p (l.drop k) k=aW p l 0)) (fun k=>[(8,.data (i64 k))]) (fun _=>[]) (fun _=>[]) (fun k=>l.length - k) (0) ?_ ?_
 ·exact⟨by omega,rfl⟩
 rintro k ⟨hk,hi⟩
 (repeat' ((conv=>whnf);first|refine gA ?_|(refine gB ?_ ?_<;>intro h)|(refine gI ?_;intro x hx)|(refine gJ ?_;intro j x hj hx)|refine gV ?_|refine gC (hc x) ?_|intro _))<;>try (conv=>whnf)
 all_goals first
  |exact trivial
  |(refine⟨?_,rfl,trivial⟩;rw [aH (l:=l) (by assumption)] at hi;first|(simp_all [aW];done)|(simp only [aW, ← hi];clear hi;simp_all [aW];done))
  |(refine⟨?_,rfl,trivial⟩;rw [au (l:=l) (by assumption)] at hi;first|(simp_all [aW];done)|(simp only [aW, ← hi];clear hi;simp_all [aW];done))
  |(refine nx (k+1) ?_
    rw [au (l:=l) (by assumption)] at hi;refine⟨by omega,?_⟩;simp_all [aW];done)
theorem Fw (l:List Lit) (s:aM):Con 20 [.d (lits l),.d s.av] (.d (.bool (bO l s))):=by
 have hF:Con 65 [.d (lits l),.fn 66 [s.av]] (.d (.bool (bO l s))):=by
  refine con Tryz.func65 rfl rfl Tryz.call65 rfl fun hwf=>?_
  (repeat' ((conv=>whnf);first|refine gA ?_|(refine gB ?_ ?_<;>intro h)|refine gC (wN l 66 [s.av] (fun x=>bS x s) fun x=>Es x s) ?_|intro _))<;>try (conv=>whnf)
  refine⟨?_,rfl,trivial⟩
  rw [bO, ← xD l 0]
 refine con Tryz.func20 rfl rfl Tryz.call20 rfl fun hwf=>?_
 (repeat' ((conv=>whnf);first|refine gA ?_|(refine gB ?_ ?_<;>intro h)|refine gC (hF) ?_|intro _))<;>try (conv=>whnf)
 exact⟨rfl,rfl,trivial⟩
def YX (b:Dom) (s:aM) (k:Nat):Bool:= !(decide (s.starts.getD k 0 < b.lo.getD k 0)||decide (s.starts.getD k 0 > b.hi.getD k 0)|| !(b.modes.getD k []).contains (s.modes.getD k 0))
def contains (b:Dom) (s:aM):Bool:=
 !(decide ((s.modes.length:Int)≠s.starts.length)||decide ((b.lo.length:Int)≠s.starts.length)||decide ((b.hi.length:Int)≠s.starts.length)||decide ((b.modes.length:Int)≠s.starts.length))&&xC s.starts.length (YX b s)
end Go.Proofs.YtefgamefajmdkaaGreat.Abs
