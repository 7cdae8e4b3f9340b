/- Contracts: all mode lists, all start lists, all schedules; what holds in a schedule. -/
import Derived.Test.YtgkfifiobmklcaaGreatC22
import Derived.Test.YtgkfifiobmklcaaGreatC3
import Derived.Test.YtgkfifiobmklcaaGreatSnd
import Derived.Test.YtgkfifiobmklcaaGreatC12
set_option linter.all false
set_option maxRecDepth 20000
set_option maxHeartbeats 0
namespace Go.Proofs.YtgkfifiobmklcaaGreat.Abs
open Go.Proofs
def qj (x:List Int) (m:Nat):List (List Int):=(List.range m).map fun (t:Nat)=>x++[(t:Int)]
def extend (o:List (List Int)) (m:Nat):List (List Int):=o.flatMap fun x=>qj x m
def jN (m:Nat):Nat→List (List Int)
 |0=>[[]]
 |n+1=>extend (jN m n) m
def mX (l:List aF):List (List Int):=l.foldl (fun o a=>extend o a.modes.length) [[]]
def jW (p:Proj) (m:Nat):List aK:=(mX p.acts).flatMap fun ms=>((jN (m+1) p.acts.length).map fun st=>(⟨st,ms⟩:aK)).filter (dF p)
theorem DV (x:List Int) (m:Nat):(qj x m).length=m:=by unfold qj;simp
theorem JE (x:List Int) (j:Nat):qj x (j+1)=qj x j++[x++[(j:Int)]]:=by unfold qj;rw [List.range_succ,List.map_append];rfl
theorem yD (o:List (List Int)) (m:Nat):(extend o m).length=o.length*m:=by
 induction o with
 |nil=>simp [extend]
 |cons x o ih=>rw [extend,List.flatMap_cons,List.length_append,DV];rw [extend] at ih;rw [ih,List.length_cons,Nat.succ_mul];omega
theorem JF {o:List (List Int)} {i:Nat} {x:List Int} (m:Nat) (h:o[i]? =some x):extend (o.take (i+1)) m=extend (o.take i) m++qj x m:=by
 rw [List.take_add_one,h,extend,List.flatMap_append]
 simp [extend]
theorem JG {l:List aF} {k:Nat} {a:aF} (h:l[k]? =some a):mX (l.take (k+1))=extend (mX (l.take k)) a.modes.length:=by
 rw [List.take_add_one,h,mX,List.foldl_append];rfl
theorem vo (m:Nat):∀n,(jN m n).length=m ^ n
 |0=>rfl
 |n+1=>by rw [jN,yD,vo m n,Nat.pow_succ]
theorem DX {l:List aF} (h:∀a∈l,a.modes.length≤3):(mX l).length≤3 ^ l.length:=by
 have:∀(l:List aF) (o:List (List Int)),(∀a∈l,a.modes.length≤3)→(l.foldl (fun o a=>extend o a.modes.length) o).length≤o.length*3 ^ l.length:=by
  intro l
  induction l with
  |nil=>intro o _;simp
  |cons a l ih=>
   intro o h
   rw [List.foldl_cons]
   refine Nat.le_trans (ih _ fun b hb=>h b (List.mem_cons_of_mem _ hb)) ?_
   rw [yD,List.length_cons,Nat.pow_succ]
   have h1:o.length*a.modes.length≤o.length*3:=Nat.mul_le_mul_left _ (h a (List.mem_cons_self ..))
   calc o.length*a.modes.length*3 ^ l.length≤o.length*3*3 ^ l.length:=Nat.mul_le_mul_right _ h1
    _=o.length*(3 ^ l.length*3):=by rw [Nat.mul_assoc,Nat.mul_comm 3]
 have:=this l [[]] h
 rwa [show ([[]]:List (List Int)).length=1 from rfl,Nat.one_mul] at this
theorem YM {α β} {f:α→List β} {l:List α} {i:Nat} {x:α} (h:l[i]? =some x):(l.take (i+1)).flatMap f=(l.take i).flatMap f++f x:=by
 rw [List.take_add_one,h,List.flatMap_append];simp
theorem YN {α β} {f:α→β} {g:β→Bool} {l:List α} {i:Nat} {x:α} (h:l[i]? =some x):((l.take (i+1)).map f).filter g=((l.take i).map f).filter g++(if g (f x)=true then [f x] else []):=by
 rw [List.take_add_one,h,List.map_append,List.filter_append];simp [List.filter_cons]
theorem Nw {o:List (List Int)} {m k:Nat} (h:∀x∈o,x.length=k):∀x∈extend o m,x.length=k+1:=by
 intro x hx
 rw [extend,List.mem_flatMap] at hx
 obtain⟨y,hy,hx⟩:=hx
 rw [qj,List.mem_map] at hx
 obtain⟨t,_,rfl⟩:=hx
 rw [List.length_append,h y hy];rfl
theorem JH (m:Nat):∀n,∀x∈jN m n,x.length=n
 |0=>by intro x hx;rw [jN,List.mem_singleton] at hx;rw [hx];rfl
 |n+1=>Nw (JH m n)
theorem Ny (l:List aF):∀k,k≤l.length→∀x∈mX (l.take k),x.length=k
 |0,_=>by intro x hx;rw [List.take_zero,mX,List.foldl_nil,List.mem_singleton] at hx;rw [hx];rfl
 |k+1,hk=>by rw [JG (List.getElem?_eq_getElem (by omega:k < l.length))];exact Nw (Ny l k (by omega))
attribute [local irreducible] extend qj
theorem Kh (n m:Nat) (hn:n≤3) (hm:m≤12):Con 69 [.d (i64 n),.d (i64 m)] (.d (.sl ((jN (m+1) n).map ints))):=by
 refine con Tryz.func69 rfl rfl Tryz.call69 rfl fun hwf=>?_
 clear hwf
 have hL:∀k,k≤n→(jN (m+1) k).length≤2197:=fun k hk=>by
  rw [vo]
  calc (m+1) ^ k≤13 ^ k:=Nat.pow_le_pow_left (by omega) k
   _≤13 ^ 3:=Nat.pow_le_pow_right (by decide) (by omega)
 (repeat' ((conv=>whnf);first|refine gA ?_|(refine gB ?_ ?_<;>intro h)|(refine gI ?_;intro x hx)|(refine gJ ?_;intro j x hj hx)|refine gP ?_|refine gV ?_|intro _))<;>try (conv=>whnf)
 refine aB [1,12] [] [] ?_
 (conv=>whnf)
 refine aA.go ((Nat)) (fun k=>(k≤n)) (fun k=>[(13,.data (i64 k)),(5,.fr ((jN (m+1) k).map ints))]) (fun _=>[]) (fun _=>[]) (fun k=>n - k) (0) ?_ ?_
 ·exact Nat.zero_le _
 rintro k hk
 have hLk:=hL k hk
 by_cases hlt:k < n
 ·have hs:jN (m+1) (k+1)=extend (jN (m+1) k) (m+1):=rfl
  have hM:=JH (m+1) k
  generalize jN (m+1) k=o at hLk hs hM
  (repeat' ((conv=>whnf);first|(exfalso;omega)|refine gA ?_|(refine gB ?_ ?_<;>intro h)|(refine gI ?_;intro x hx)|(refine gJ ?_;intro j x hj hx)|refine gP ?_|refine gV ?_|intro _))<;>try (conv=>whnf)
  refine aB [1,12,13,16,17] [] [15] ?_
  (conv=>whnf)
  refine aA.go ((Nat)×(List (List Int))) (fun⟨i,q⟩=>(i≤o.length)∧(q=extend (o.take i) (m+1))) (fun⟨i,q⟩=>[(18,.data (i64 i)),(6,.own 15 0)]) (fun _=>[]) (fun⟨i,q⟩=>[(15,26,q.map ints,0)]) (fun⟨i,q⟩=>o.length - i) ⟨0,[]⟩ ?_ ?_
  ·exact⟨Nat.zero_le _,by unfold extend;rfl⟩
  rintro⟨i,q⟩ ⟨hi,hq⟩
  have hql:q.length=i*(m+1):=by rw [hq,yD,List.length_take,Nat.min_eq_left hi]
  by_cases hil:i < o.length
  rotate_left
  ·(repeat' ((conv=>whnf);first|(exfalso;omega)|refine gA ?_|(refine gB ?_ ?_<;>intro h)|(refine gI ?_;intro x hx)|(refine gJ ?_;intro j x hj hx)|refine gP ?_|refine gV ?_|intro _))<;>try (conv=>whnf)
   refine nw (k+1) ?_ ?_
   ·(repeat' ((conv=>whnf)<;>(first|exact trivial|exact rfl|with_reducible refine And.intro ?_ ?_)))<;>((conv=>whnf)<;>((rw [hs,hq,List.take_of_length_le (by omega)])))
   exact (by omega:k+1≤n)
  obtain⟨x,hx⟩:∃x,o[i]? =some x:=⟨o[i]'hil,by simp⟩
  have hxl:=hM x (List.mem_of_getElem? hx)
  have hqb:q.length≤2197*13:=by rw [hql];exact Nat.mul_le_mul (by omega) (by omega)
  (repeat' ((conv=>whnf);first|with_reducible refine Idx.got hx rfl ?_|(exfalso;omega)|refine gA ?_|(refine gB ?_ ?_<;>intro h)|(refine gI ?_;intro x hx)|(refine gJ ?_;intro j x hj hx)|refine gP ?_|refine gV ?_|intro _))<;>try (conv=>whnf)
  refine aB [1,8,12,13,16,17,18,23] [] [15] ?_
  (conv=>whnf)
  refine aA.go ((Nat)×(List (List Int))) (fun⟨j,r⟩=>(j≤m+1)∧(r=q++qj x j)) (fun⟨j,r⟩=>[(24,.data (i64 j)),(6,.own 15 0)]) (fun _=>[]) (fun⟨j,r⟩=>[(15,26,r.map ints,0)]) (fun⟨j,r⟩=>m+1 - j) ⟨0,q⟩ ?_ ?_
  ·exact⟨Nat.zero_le _,by unfold qj;simp⟩
  rintro⟨j,r⟩ ⟨hj,hr⟩
  have hrl:r.length=q.length+j:=by rw [hr,List.length_append,DV]
  by_cases hjl:j < m+1
  ·(repeat' ((conv=>whnf);first|(exfalso;omega)|refine gA ?_|(refine gB ?_ ?_<;>intro h)|(refine gI ?_;intro x hx)|(refine gJ ?_;intro j x hj hx)|refine gP ?_|refine gV ?_|refine gC (slices_Clone_int x) ?_|intro _))<;>try (conv=>whnf)
   refine nw ⟨j+1,r++[x++[(j:Int)]]⟩ ?_ ?_
   ·(repeat' ((conv=>whnf)<;>(first|exact trivial|exact rfl|with_reducible refine And.intro ?_ ?_)))<;>((conv=>whnf)<;>(simp))
   exact⟨by omega,by rw [hr,JE,List.append_assoc]⟩
  ·(repeat' ((conv=>whnf);first|(exfalso;omega)|refine gA ?_|(refine gB ?_ ?_<;>intro h)|(refine gI ?_;intro x hx)|(refine gJ ?_;intro j x hj hx)|refine gP ?_|refine gV ?_|intro _))<;>try (conv=>whnf)
   refine nx ⟨i+1,r⟩ ?_
   refine⟨by omega,?_⟩
   rw [hr,show j=m+1 by omega,hq, ← JF _ hx]
 ·(repeat' ((conv=>whnf);first|(exfalso;omega)|refine gA ?_|(refine gB ?_ ?_<;>intro h)|(refine gI ?_;intro x hx)|(refine gJ ?_;intro j x hj hx)|refine gP ?_|refine gV ?_|intro _))<;>try (conv=>whnf)
  refine⟨?_,rfl,trivial⟩
  rw [show k=n by omega]
attribute [local irreducible] mX jN
theorem Gl (p:Proj) (hp:p.fine) (ho:aG p=true) (h3:p.acts.length≤3):Con 68 [.d p.av] (.d (.sl ((mX p.acts).map ints))):=by
 refine con Tryz.func68 rfl rfl Tryz.call68 rfl fun hwf=>?_
 clear hwf
 have hA:∀(k:Nat) (a:aF),p.acts[k]? =some a→a.modes.length≤3:=fun k a ha=>by
  have hk:k < p.acts.length:=(List.getElem?_eq_some_iff.1 ha).1
  have:=iA ho hk
  rw [gM hk] at ha
  cases ha
  exact this.2
 have hL:∀k,k≤p.acts.length→(mX (p.acts.take k)).length≤27:=fun k hk=>by
  refine Nat.le_trans (DX fun a ha=>?_) (Nat.le_trans (Nat.pow_le_pow_right (by decide) (by rw [List.length_take];omega:_≤3)) (by decide))
  obtain⟨j,hj,e⟩:=List.mem_iff_getElem.1 (List.mem_of_mem_take ha)
  exact hA j a (by rw [List.getElem?_eq_getElem hj,e])
 have hP:=bE p hp
 rw [ho] at hP
 (repeat' ((conv=>whnf);first|refine gA ?_|(refine gB ?_ ?_<;>intro h)|(refine gI ?_;intro x hx)|(refine gJ ?_;intro j x hj hx)|refine gP ?_|refine gV ?_|refine gC (hP) ?_|intro _))<;>try (conv=>whnf)
 refine aB [16,17] [] [] ?_
 (conv=>whnf)
 refine aA.mk ((Nat)) (fun k=>(k≤p.acts.length)) (fun k=>[(18,.data (i64 k)),(3,.fr ((mX (p.acts.take k)).map ints))]) (fun _=>[]) (fun _=>[]) (fun k=>p.acts.length - k) (0) ?_ ?_ ?_
 rotate_left
 ·(repeat' ((conv=>whnf)<;>(first|exact trivial|exact rfl|with_reducible refine And.intro ?_ ?_)))<;>((conv=>whnf)<;>((unfold mX;rfl)))
 rotate_left
 ·exact Nat.zero_le _
 rintro k hk
 have hLk:=hL k hk
 have hM:=Ny p.acts k hk
 by_cases hlt:k < p.acts.length
 ·obtain⟨a,ha⟩:∃a,p.acts[k]? =some a:=⟨p.acts[k]'hlt,by simp⟩
  have hs:=JG ha
  have ham:=hA k a ha
  generalize mX (p.acts.take k)=o at hLk hs hM
  (repeat' ((conv=>whnf);first|with_reducible refine Idx.got ha rfl ?_|(exfalso;omega)|refine gA ?_|(refine gB ?_ ?_<;>intro h)|(refine gI ?_;intro x hx)|(refine gJ ?_;intro j x hj hx)|refine gP ?_|refine gV ?_|intro _))<;>try (conv=>whnf)
  refine aB [5,16,17,18,23,24] [5] [22] ?_
  (conv=>whnf)
  refine aA.go ((Nat)×(List (List Int))) (fun⟨i,q⟩=>(i≤o.length)∧(q=extend (o.take i) a.modes.length)) (fun⟨i,q⟩=>[(25,.data (i64 i)),(6,.own 22 0)]) (fun _=>[]) (fun⟨i,q⟩=>[(22,26,q.map ints,0)]) (fun⟨i,q⟩=>o.length - i) ⟨0,[]⟩ ?_ ?_
  ·exact⟨Nat.zero_le _,by unfold extend;rfl⟩
  rintro⟨i,q⟩ ⟨hi,hq⟩
  have hql:q.length=i*a.modes.length:=by rw [hq,yD,List.length_take,Nat.min_eq_left hi]
  by_cases hil:i < o.length
  rotate_left
  ·(repeat' ((conv=>whnf);first|(exfalso;omega)|refine gA ?_|(refine gB ?_ ?_<;>intro h)|(refine gI ?_;intro x hx)|(refine gJ ?_;intro j x hj hx)|refine gP ?_|refine gV ?_|intro _))<;>try (conv=>whnf)
   refine nw (k+1) ?_ ?_
   ·(repeat' ((conv=>whnf)<;>(first|exact trivial|exact rfl|with_reducible refine And.intro ?_ ?_)))<;>((conv=>whnf)<;>((rw [hs,hq,List.take_of_length_le (by omega)])))
   exact (by omega:k+1≤p.acts.length)
  obtain⟨x,hx⟩:∃x,o[i]? =some x:=⟨o[i]'hil,by simp⟩
  have hxl:=hM x (List.mem_of_getElem? hx)
  have hqb:q.length≤27*3:=by rw [hql];exact Nat.mul_le_mul (by omega) (by omega)
  (repeat' ((conv=>whnf);first|with_reducible refine Idx.got hx rfl ?_|(exfalso;omega)|refine gA ?_|(refine gB ?_ ?_<;>intro h)|(refine gI ?_;intro x hx)|(refine gJ ?_;intro j x hj hx)|refine gP ?_|refine gV ?_|intro _))<;>try (conv=>whnf)
  refine aB [5,8,16,17,18,23,24,25,31] [5] [22] ?_
  (conv=>whnf)
  refine aA.go ((Nat)×(List (List Int))) (fun⟨j,r⟩=>(j≤a.modes.length)∧(r=q++qj x j)) (fun⟨j,r⟩=>[(32,.data (i64 j)),(6,.own 22 0)]) (fun _=>[]) (fun⟨j,r⟩=>[(22,26,r.map ints,0)]) (fun⟨j,r⟩=>a.modes.length - j) ⟨0,q⟩ ?_ ?_
  ·exact⟨Nat.zero_le _,by unfold qj;simp⟩
  rintro⟨j,r⟩ ⟨hj,hr⟩
  have hrl:r.length=q.length+j:=by rw [hr,List.length_append,DV]
  by_cases hjl:j < a.modes.length
  ·(repeat' ((conv=>whnf);first|(exfalso;omega)|refine gA ?_|(refine gB ?_ ?_<;>intro h)|(refine gI ?_;intro x hx)|(refine gJ ?_;intro j x hj hx)|refine gP ?_|refine gV ?_|refine gC (slices_Clone_int x) ?_|intro _))<;>try (conv=>whnf)
   refine nw ⟨j+1,r++[x++[(j:Int)]]⟩ ?_ ?_
   ·(repeat' ((conv=>whnf)<;>(first|exact trivial|exact rfl|with_reducible refine And.intro ?_ ?_)))<;>((conv=>whnf)<;>(simp))
   exact⟨by omega,by rw [hr,JE,List.append_assoc]⟩
  ·(repeat' ((conv=>whnf);first|(exfalso;omega)|refine gA ?_|(refine gB ?_ ?_<;>intro h)|(refine gI ?_;intro x hx)|(refine gJ ?_;intro j x hj hx)|refine gP ?_|refine gV ?_|intro _))<;>try (conv=>whnf)
   refine nx ⟨i+1,r⟩ ?_
   refine⟨by omega,?_⟩
   rw [hr,show j=a.modes.length by omega,hq, ← JF _ hx]
 ·(repeat' ((conv=>whnf);first|(exfalso;omega)|refine gA ?_|(refine gB ?_ ?_<;>intro h)|(refine gI ?_;intro x hx)|(refine gJ ?_;intro j x hj hx)|refine gP ?_|refine gV ?_|intro _))<;>try (conv=>whnf)
  refine⟨?_,rfl,trivial⟩
  rw [List.take_of_length_le (by omega)]
def aei (s:aK):RV:=.agg [.own 3 (s.starts.map i64),.own 3 (s.modes.map i64)]
theorem Ki (s:aK):Con 71 [.d s.av] (aei s):=by
 refine con Tryz.func71 rfl rfl Tryz.call71 rfl fun hwf=>?_
 (repeat' ((conv=>whnf);first|refine gA ?_|(refine gB ?_ ?_<;>intro h)|refine gC (slices_Clone_int _) ?_|intro _))<;>try (conv=>whnf)
 exact fv
theorem Gj {p:Proj} {m:Nat}:∀s∈jW p m,dF p s=true:=by
 intro s hs
 obtain⟨ms,_,hs⟩:=List.mem_flatMap.1 hs
 exact (List.mem_filter.1 hs).2
attribute [local irreducible] dF
theorem vv (p:Proj) (hp:p.fine) (ho:aG p=true) (h3:p.acts.length≤3) (m:Nat) (hm:m≤12):Con 18 [.d p.av,.d (i64 m)] (.d (.sl ((jW p m).map aK.av))):=by
 refine con Tryz.func18 rfl rfl Tryz.call18 rfl fun hwf=>?_
 clear hwf
 have hP:=bE p hp
 rw [ho] at hP
 have hS:Con 69 [.d (i64 ((p.acts.map aF.av).length:Nat)),.d (i64 m)] (.d (.sl ((jN (m+1) p.acts.length).map ints))):=by rw [List.length_map];exact Kh p.acts.length m h3 hm
 have hL:(mX p.acts).length≤27:=by
  refine Nat.le_trans (DX fun a ha=>?_) (Nat.le_trans (Nat.pow_le_pow_right (by decide) h3) (by decide))
  obtain⟨j,hj,e⟩:=List.mem_iff_getElem.1 ha
  have:=iA ho hj
  have hg:=gM (p:=p) hj
  rw [List.getElem?_eq_getElem hj,Option.some.injEq,e] at hg
  rw [hg];exact this.2
 have hT:(jN (m+1) p.acts.length).length≤2197:=by
  rw [vo]
  calc (m+1) ^ p.acts.length≤13 ^ p.acts.length:=Nat.pow_le_pow_left (by omega) _
   _≤13 ^ 3:=Nat.pow_le_pow_right (by decide) h3
 obtain⟨R,hR⟩:∃R,jW p m=R:=⟨_,rfl⟩
 rw [hR]
 unfold jW at hR
 have hw:within (m:Int) 0 12=true:=by unfold within;simp;omega
 have hW:=aV (m:Int) 0 12
 rw [hw] at hW
 have hA:=Gl p hp ho h3
 generalize mX p.acts=M at hL hA hR
 generalize jN (m+1) p.acts.length=S at hS hT hR
 (repeat' ((conv=>whnf);first|with_reducible refine Br.no (decide_eq_false (by omega)) ?_|refine gA ?_|(refine gN ?_ ?_<;>intro h hw)|(refine gB ?_ ?_<;>intro h)|(refine gI ?_;intro x hx)|(refine gJ ?_;intro j x hj hx)|refine gP ?_|refine gV ?_|refine gC (hP) ?_|refine gC (hW) ?_|refine gC (hA) ?_|intro _))<;>try (conv=>whnf)
 any_goals exact trivial
 refine aB [1,2,27,28] [2] [25] ?_
 (conv=>whnf)
 refine aA.go ((Nat)×(List aK)) (fun⟨i,o⟩=>(i≤M.length)∧(o.length≤i*2197)∧(o=(M.take i).flatMap (fun ms=>(S.map fun st=>(⟨st,ms⟩:aK)).filter (dF p)))) (fun⟨i,o⟩=>[(29,.data (i64 i)),(5,.own 25 0)]) (fun _=>[]) (fun⟨i,o⟩=>[(25,64,o.map aK.av,0)]) (fun⟨i,o⟩=>M.length - i) ⟨0,[]⟩ ?_ ?_
 ·exact⟨Nat.zero_le _,Nat.zero_le _,rfl⟩
 rintro⟨i,o⟩ ⟨hi,hol,hq⟩
 by_cases hil:i < M.length
 rotate_left
 ·(repeat' ((conv=>whnf);first|(exfalso;omega)|refine gA ?_|(refine gN ?_ ?_<;>intro h hw)|(refine gB ?_ ?_<;>intro h)|(refine gI ?_;intro x hx)|(refine gJ ?_;intro j x hj hx)|refine gP ?_|refine gV ?_|intro _))<;>try (conv=>whnf)
  refine⟨?_,rfl,trivial⟩
  rw [hq,List.take_of_length_le (by omega),hR]
 obtain⟨ms,hx⟩:∃x,M[i]? =some x:=⟨M[i]'hil,by simp⟩
 (repeat' ((conv=>whnf);first|with_reducible refine Idx.got hx rfl ?_|(exfalso;omega)|refine gA ?_|(refine gN ?_ ?_<;>intro h hw)|(refine gB ?_ ?_<;>intro h)|(refine gI ?_;intro x hx)|(refine gJ ?_;intro j x hj hx)|refine gP ?_|refine gV ?_|refine gC (hS) ?_|intro _))<;>try (conv=>whnf)
 refine aB [1,2,7,27,28,29,37,38] [2] [25] ?_
 (conv=>whnf)
 refine aA.go ((Nat)×(List aK)) (fun⟨j,r⟩=>(j≤S.length)∧(r.length≤i*2197+j)∧(r=o++((S.take j).map fun st=>(⟨st,ms⟩:aK)).filter (dF p))) (fun⟨j,r⟩=>[(39,.data (i64 j)),(5,.own 25 0)]) (fun _=>[]) (fun⟨j,r⟩=>[(25,64,r.map aK.av,0)]) (fun⟨j,r⟩=>S.length - j) ⟨0,o⟩ ?_ ?_
 ·exact⟨Nat.zero_le _,hol,by simp⟩
 rintro⟨j,r⟩ ⟨hj,hrl,hr⟩
 by_cases hjl:j < S.length
 rotate_left
 ·(repeat' ((conv=>whnf);first|(exfalso;omega)|refine gA ?_|(refine gN ?_ ?_<;>intro h hw)|(refine gB ?_ ?_<;>intro h)|(refine gI ?_;intro x hx)|(refine gJ ?_;intro j x hj hx)|refine gP ?_|refine gV ?_|intro _))<;>try (conv=>whnf)
  refine nx ⟨i+1,r⟩ ?_
  refine⟨by omega,by omega,?_⟩
  rw [hr,hq,List.take_of_length_le (l:=S) (by omega),YM hx]
 obtain⟨st,hy⟩:∃x,S[j]? =some x:=⟨S[j]'hjl,by simp⟩
 have hK:=Kg p (⟨st,ms⟩:aK) hp
 have hC:=Ki (⟨st,ms⟩:aK)
 have hf:=YN (f:=fun st=>(⟨st,ms⟩:aK)) (g:=dF p) hy
 cases hs:dF p (⟨st,ms⟩:aK) with
 |true=>
  rw [hs] at hK hf
  (repeat' ((conv=>whnf);first|with_reducible refine Idx.got hy rfl ?_|(exfalso;omega)|refine gA ?_|(refine gN ?_ ?_<;>intro h hw)|(refine gB ?_ ?_<;>intro h)|(refine gI ?_;intro x hx)|(refine gJ ?_;intro j x hj hx)|refine gP ?_|refine gV ?_|refine gC (hK) ?_|refine gC (hC) ?_|intro _))<;>try (conv=>whnf)
  refine nw ⟨j+1,r++[(⟨st,ms⟩:aK)]⟩ ?_ ?_
  ·(repeat' ((conv=>whnf)<;>(first|exact trivial|exact rfl|with_reducible refine And.intro ?_ ?_)))<;>((conv=>whnf)<;>(simp))
  exact⟨by omega,by simp;omega,by rw [hf,hr,List.append_assoc];rfl⟩
 |false=>
  rw [hs] at hK hf
  (repeat' ((conv=>whnf);first|with_reducible refine Idx.got hy rfl ?_|(exfalso;omega)|refine gA ?_|(refine gN ?_ ?_<;>intro h hw)|(refine gB ?_ ?_<;>intro h)|(refine gI ?_;intro x hx)|(refine gJ ?_;intro j x hj hx)|refine gP ?_|refine gV ?_|refine gC (hK) ?_|intro _))<;>try (conv=>whnf)
  refine nx ⟨j+1,r⟩ ?_
  exact⟨by omega,by omega,by rw [hf,hr];simp⟩
end Go.Proofs.YtgkfifiobmklcaaGreat.Abs
namespace Go.Proofs.YtgkfifiobmklcaaGreat.Abs
open Go.Proofs
theorem JI {l:Lit} {s:aK} (h:within l.act 0 ((s.starts.length:Int) - 1)=false∨within l.act 0 ((s.modes.length:Int) - 1)=false):bR l s=false:=by
 unfold bR;rcases h with h|h<;>rw [h]<;>simp
theorem Gm (l:Lit) (s:aK):Con 74 [.d l.av,.d s.av] (.d (.bool (bR l s))):=by
 refine con Tryz.func74 rfl rfl Tryz.call74 rfl fun hwf=>?_
 simp only [ARs.wf,AR.wf,AV.wf,AV.wfs,Lit.av,aK.av,List.length_map,lim] at hwf
 obtain⟨R,hR⟩:∃R,bR l s=R:=⟨_,rfl⟩
 rw [hR]
 have hA:=aV l.act 0 (((s.starts.map i64).length:Int) - 1)
 have hB:=aV l.act 0 (((s.modes.map i64).length:Int) - 1)
 rw [List.length_map] at hA hB
 cases h1:within l.act 0 ((s.starts.length:Int) - 1) with
 |false=>
  rw [h1] at hA
  rw [JI (.inl h1)] at hR
  subst hR
  (repeat' ((conv=>whnf);first|refine gA ?_|(refine gN ?_ ?_<;>intro h hw)|(refine gB ?_ ?_<;>intro h)|(refine gI ?_;intro x hx)|(refine gJ ?_;intro j x hj hx)|refine gV ?_|refine gC ((by rw [List.length_map];exact hA)) ?_|intro _))<;>try (conv=>whnf)
  all_goals exact⟨rfl,rfl,trivial⟩
 |true=>
 cases h2:within l.act 0 ((s.modes.length:Int) - 1) with
 |false=>
  rw [h1] at hA
  rw [h2] at hB
  rw [JI (.inr h2)] at hR
  subst hR
  (repeat' ((conv=>whnf);first|refine gA ?_|(refine gN ?_ ?_<;>intro h hw)|(refine gB ?_ ?_<;>intro h)|(refine gI ?_;intro x hx)|(refine gJ ?_;intro j x hj hx)|refine gV ?_|refine gC ((by rw [List.length_map];exact hA)) ?_|refine gC ((by rw [List.length_map];exact hB)) ?_|intro _))<;>try (conv=>whnf)
  all_goals exact⟨rfl,rfl,trivial⟩
 |true=>
  have h1':=h1
  have h2':=h2
  unfold within at h1' h2'
  simp only [Bool.and_eq_true,decide_eq_true_eq] at h1' h2'
  obtain⟨x,hx⟩:∃x,s.starts[l.act.toNat]? =some x:=⟨s.starts[l.act.toNat]'(by omega),by simp⟩
  obtain⟨y,hy⟩:∃x,s.modes[l.act.toNat]? =some x:=⟨s.modes[l.act.toNat]'(by omega),by simp⟩
  have gx:s.starts.getD l.act.toNat 0=x:=by rw [List.getD_eq_getElem?_getD,hx];rfl
  have gy:s.modes.getD l.act.toNat 0=y:=by rw [List.getD_eq_getElem?_getD,hy];rfl
  unfold bR at hR
  rw [h1,h2,gx,gy,Bool.true_and,Bool.true_and] at hR
  rw [h1] at hA
  rw [h2] at hB
  have ea:l.act=((l.act.toNat:Nat):Int):=by omega
  (repeat' ((conv=>whnf);first|with_reducible refine Idx.got hx ea ?_|with_reducible refine Idx.got hy ea ?_|refine gA ?_|(refine gN ?_ ?_<;>intro h hw)|(refine gB ?_ ?_<;>intro h)|(refine gI ?_;intro x hx)|(refine gJ ?_;intro j x hj hx)|refine gV ?_|refine gC ((by rw [List.length_map];exact hA)) ?_|refine gC ((by rw [List.length_map];exact hB)) ?_|intro _))<;>try (conv=>whnf)
  all_goals refine⟨?_,rfl,trivial⟩
  all_goals subst hR
  all_goals simp [*]
theorem Gn (l:Lit) (s:aK):Con 73 [.d l.av,.ref s.av] (.d (.bool (bR l s))):=by
 refine con Tryz.func73 rfl rfl Tryz.call73 rfl fun hwf=>?_
 (repeat' ((conv=>whnf);first|refine gA ?_|(refine gB ?_ ?_<;>intro h)|refine gC (Gm l s) ?_|intro _))<;>try (conv=>whnf)
 exact⟨rfl,rfl,trivial⟩
theorem zf (l:List Lit) (fc:Nat) (caps:List AV) (p:Lit→Bool) (hc:∀x:Lit,Con fc ([.d x.av]++caps.map .ref) (.d (.bool (p x)))):
  Con 148 [.d (lits l),.fn fc caps] (.d (i64 (aQ p l 0))):=by
 refine con Tryz.func148 rfl rfl Tryz.call148 rfl fun hwf=>?_
 simp only [ARs.wf,AR.wf,lits,AV.wf,AV.wfs,List.length_map,lim] at hwf
 (conv=>whnf)
 refine aB [0,1,7] [] [] ?_
 (conv=>whnf)
 refine aA.go ((Nat)) (fun k=>(k≤l.length)∧(aQ p (l.drop k) k=aQ p l 0)) (fun k=>[(8,.data (i64 k))]) (fun _=>[]) (fun _=>[]) (fun k=>l.length - k) (0) ?_ ?_
 ·exact⟨by omega,rfl⟩
 rintro k ⟨hk,hi⟩
 (repeat' ((conv=>whnf);first|refine gA ?_|(refine gB ?_ ?_<;>intro h)|(refine gI ?_;intro x hx)|(refine gJ ?_;intro j x hj hx)|refine gV ?_|refine gC (hc x) ?_|intro _))<;>try (conv=>whnf)
 all_goals first
  |exact trivial
  |(refine⟨?_,rfl,trivial⟩;rw [aP (l:=l) (by assumption)] at hi;first|(simp_all [aQ];done)|(simp only [aQ, ← hi];clear hi;simp_all [aQ];done))
  |(refine⟨?_,rfl,trivial⟩;rw [ay (l:=l) (by assumption)] at hi;first|(simp_all [aQ];done)|(simp only [aQ, ← hi];clear hi;simp_all [aQ];done))
  |(refine nx (k+1) ?_
    rw [ay (l:=l) (by assumption)] at hi;refine⟨by omega,?_⟩;simp_all [aQ];done)
theorem Io (l:List Lit) (s:aK):Con 19 [.d (lits l),.d s.av] (.d (.bool (bN l s))):=by
 have hF:Con 72 [.d (lits l),.fn 73 [s.av]] (.d (.bool (bN l s))):=by
  refine con Tryz.func72 rfl rfl Tryz.call72 rfl fun hwf=>?_
  (repeat' ((conv=>whnf);first|refine gA ?_|(refine gB ?_ ?_<;>intro h)|refine gC (zf l 73 [s.av] (fun x=>bR x s) fun x=>Gn x s) ?_|intro _))<;>try (conv=>whnf)
  refine⟨?_,rfl,trivial⟩
  rw [bN, ← wh l 0]
 refine con Tryz.func19 rfl rfl Tryz.call19 rfl fun hwf=>?_
 (repeat' ((conv=>whnf);first|refine gA ?_|(refine gB ?_ ?_<;>intro h)|refine gC (hF) ?_|intro _))<;>try (conv=>whnf)
 exact⟨rfl,rfl,trivial⟩
def DY (b:Dom) (s:aK) (k:Nat):Bool:= !(decide (s.starts.getD k 0 < b.lo.getD k 0)||decide (s.starts.getD k 0 > b.hi.getD k 0)|| !(b.modes.getD k []).contains (s.modes.getD k 0))
def contains (b:Dom) (s:aK):Bool:=
 !(decide ((s.modes.length:Int)≠s.starts.length)||decide ((b.lo.length:Int)≠s.starts.length)||decide ((b.hi.length:Int)≠s.starts.length)||decide ((b.modes.length:Int)≠s.starts.length))&&yY s.starts.length (DY b s)
theorem JJ {b:Dom} {s:aK} (h:s.modes.length≠s.starts.length∨b.lo.length≠s.starts.length∨b.hi.length≠s.starts.length∨b.modes.length≠s.starts.length):contains b s=false:=by
 unfold contains
 rw [Bool.and_eq_false_iff]
 refine .inl ?_
 simp only [Bool.not_eq_false',Bool.or_eq_true,decide_eq_true_eq]
 omega
theorem yE {b:Dom} {s:aK} (h:s.modes.length=s.starts.length∧b.lo.length=s.starts.length∧b.hi.length=s.starts.length∧b.modes.length=s.starts.length):contains b s=yY s.starts.length (DY b s):=by
 unfold contains
 rw [h.1,h.2.1,h.2.2.1,h.2.2.2]
 simp
theorem Vi {b:Dom} {s:aK}:contains b s=true↔s.modes.length=s.starts.length∧b.lo.length=s.starts.length∧b.hi.length=s.starts.length∧b.modes.length=s.starts.length∧jZ b s s.starts.length:=by
 constructor
 ·intro h
  by_cases hl:s.modes.length=s.starts.length∧b.lo.length=s.starts.length∧b.hi.length=s.starts.length∧b.modes.length=s.starts.length
  ·refine⟨hl.1,hl.2.1,hl.2.2.1,hl.2.2.2,fun k hk=>?_⟩
   rw [yE hl,bL] at h
   have:=h k hk
   unfold DY at this
   simp only [Bool.not_eq_true',Bool.or_eq_false_iff,decide_eq_false_iff_not,Bool.not_eq_false',List.contains_iff_mem] at this
   exact⟨by omega,by omega,this.2⟩
  ·rw [JJ (by omega)] at h;cases h
 ·rintro⟨h1,h2,h3,h4,h5⟩
  rw [yE ⟨h1,h2,h3,h4⟩,bL]
  intro k hk
  have:=h5 k hk
  unfold DY
  simp only [Bool.not_eq_true',Bool.or_eq_false_iff,decide_eq_false_iff_not,Bool.not_eq_false',List.contains_iff_mem]
  exact⟨⟨by omega,by omega⟩,this.2.2⟩
theorem Ow (b:Dom) (s:aK):Con 81 [.d b.av,.d s.av] (.d (.bool (contains b s))):=by
 refine con Tryz.func81 rfl rfl Tryz.call81 rfl fun hwf=>?_
 simp only [ARs.wf,AR.wf,AV.wf,AV.wfs,Dom.av,aK.av,List.length_map,lim] at hwf
 by_cases hl:s.modes.length=s.starts.length∧b.lo.length=s.starts.length∧b.hi.length=s.starts.length∧b.modes.length=s.starts.length
 ·rw [yE hl]
  obtain⟨l1,l2,l3,l4⟩:=hl
  (repeat' ((conv=>whnf);first|refine gA ?_|(refine gB ?_ ?_<;>intro h)|(refine gI ?_;intro x hx)|(refine gJ ?_;intro j x hj hx)|refine gV ?_|intro _))<;>try (conv=>whnf)
  all_goals first
   |(exfalso;omega)
   |skip
  refine aB [2,3,38,39] [2,3] [] ?_
  (conv=>whnf)
  refine aA.go ((Nat)) (fun k=>(k≤s.starts.length)∧(∀j,j < k→DY b s j=true)) (fun k=>[(40,.data (i64 k))]) (fun _=>[]) (fun _=>[]) (fun k=>s.starts.length - k) (0) ?_ ?_
  ·exact⟨Nat.zero_le _,fun j hj=>absurd hj (Nat.not_lt_zero j)⟩
  rintro k ⟨hk,hi⟩
  by_cases hlt:k < s.starts.length
  rotate_left
  ·(repeat' ((conv=>whnf);first|(exfalso;omega)|refine gA ?_|(refine gB ?_ ?_<;>intro h)|(refine gI ?_;intro x hx)|(refine gJ ?_;intro j x hj hx)|refine gV ?_|intro _))<;>try (conv=>whnf)
   refine⟨?_,rfl,trivial⟩
   rw [bL.2 fun j hj=>hi j (by omega)]
  obtain⟨t,ht⟩:∃x,s.starts[k]? =some x:=⟨s.starts[k]'hlt,by simp⟩
  obtain⟨m,hm⟩:∃x,s.modes[k]? =some x:=⟨s.modes[k]'(by omega),by simp⟩
  obtain⟨lo,hlo⟩:∃x,b.lo[k]? =some x:=⟨b.lo[k]'(by omega),by simp⟩
  obtain⟨up,hup⟩:∃x,b.hi[k]? =some x:=⟨b.hi[k]'(by omega),by simp⟩
  obtain⟨ms,hms⟩:∃x,b.modes[k]? =some x:=⟨b.modes[k]'(by omega),by simp⟩
  have hc:DY b s k= !(decide (t < lo)||decide (t > up)|| !ms.contains m):=by
   unfold DY
   simp only [List.getD_eq_getElem?_getD,ht,hm,hlo,hup,hms,Option.getD_some]
  have hS:=qG ms m
  generalize ms.contains m=z at hc hS
  (repeat' ((conv=>whnf);first|with_reducible refine Idx.got ht rfl ?_|with_reducible refine Idx.got hm rfl ?_|with_reducible refine Idx.got hlo rfl ?_|with_reducible refine Idx.got hup rfl ?_|with_reducible refine Idx.got hms rfl ?_|(exfalso;omega)|refine gA ?_|(refine gB ?_ ?_<;>intro h)|(refine gI ?_;intro x hx)|(refine gJ ?_;intro j x hj hx)|refine gV ?_|refine gC (hS) ?_|intro _))<;>try (conv=>whnf)
  all_goals first
   |(refine⟨?_,rfl,trivial⟩;rw [jh k hlt (by rw [hc];simp [*])])
   |(refine nx (k+1) ?_;exact⟨by omega,iY hi (by rw [hc];simp [*];try omega)⟩)
 ·rw [JJ (by omega)]
  (repeat' ((conv=>whnf);first|refine gA ?_|(refine gB ?_ ?_<;>intro h)|(refine gI ?_;intro x hx)|(refine gJ ?_;intro j x hj hx)|refine gV ?_|intro _))<;>try (conv=>whnf)
  all_goals first
   |exact⟨rfl,rfl,trivial⟩
   |(exfalso;omega)
end Go.Proofs.YtgkfifiobmklcaaGreat.Abs
