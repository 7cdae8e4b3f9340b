/- Contracts: activities by their starts: the reference. No statement of a claim. -/
import Derived.Test.YtkiohdpapinecaaGreatC44
import Derived.Test.YtkiohdpapinecaaGreatM9
set_option linter.all false
set_option linter.unusedVariables false
set_option linter.unusedSimpArgs false
set_option maxRecDepth 20000
set_option maxHeartbeats 8000000
namespace Go.Proofs.YtkiohdpapinecaaGreat.Abs
open Go.Proofs Go.RowKit
theorem spec_StartOrder (s:Sched) (hn:s.starts.length≤60):Con 80 [.d s.av] (.d (ints (startOrder s.starts))):=by
 refine con Tryz.func80 rfl rfl Tryz.call80 rfl fun hwf=>?_
 (repeat' ((conv=>whnf);first | refine gA ?_ | ((with_reducible first | refine gD (fun h=>?_) (fun h=>?_) | refine gE (fun h=>?_) (fun h=>?_)) <;> (try simp only [lm] at h) <;> try have hw:=wn h) | with_reducible refine gI (fun x hx=>?_) | with_reducible refine gJ (fun j x hj hx=>?_) | refine gP ?_ | refine gQ ?_ | refine gV ?_ | refine gK ?_ | intro _)) <;> (try (conv=>whnf))
 refine loopF [1,10] [1] [7] ?_
 (conv=>whnf)
 refine LoopC.go ((Nat)) (fun a=>(a≤s.starts.length)) (fun a=>[(11,.data (i64 a)),(3,.own 7 0)]) (fun _=>[]) (fun a=>[(7,3,((orderN s.starts a).map Int.ofNat).map i64,0)]) (fun a=>s.starts.length - a) (0) ?_ ?_
 ·exact Nat.zero_le _
 rintro a ha
 have hlen:=orderN_len s.starts a
 by_cases hlt:a < s.starts.length
 ·obtain⟨v,hv⟩:∃v,s.starts[a]? =some v:=⟨s.starts[a]'hlt,by simp⟩
  have kv:keyAt s.starts a=v:=by rw [keyAt,Nat.min_eq_left (by omega),List.getD_eq_getElem?_getD,hv];rfl
  (repeat' ((conv=>whnf);first | (exfalso;omega) | refine gA ?_ | ((with_reducible first | refine gD (fun h=>?_) (fun h=>?_) | refine gE (fun h=>?_) (fun h=>?_)) <;> (try simp only [lm] at h) <;> try have hw:=wn h) | with_reducible refine gI (fun x hx=>?_) | with_reducible refine gJ (fun j x hj hx=>?_) | refine gP ?_ | refine gQ ?_ | refine gV ?_ | refine gK ?_ | intro _)) <;> (try (conv=>whnf))
  refine loopF [1,3,4,10,11] [1] [] ?_
  (conv=>whnf)
  refine LoopC.mk ((Nat)) (fun k=>(k≤a)∧(insAt (keyAt s.starts) (orderN s.starts a) a k=insAt (keyAt s.starts) (orderN s.starts a) a a)) (fun k=>[(5,.data (i64 k))]) (fun _=>[]) (fun _=>[]) (fun k=>k) (a) ?_ ?_ ?_
  rotate_left
  ·(repeat' ((conv=>whnf) <;> (first | exact trivial | exact rfl | with_reducible refine And.intro ?_ ?_))) <;> ((conv=>whnf) <;> (simp [hlen]))
  rotate_left
  ·exact⟨Nat.le_refl _,rfl⟩
  rintro k ⟨hk,he⟩
  by_cases h0:0 < k
  ·obtain⟨k,rfl⟩:∃j,k=j+1:=⟨k - 1,by omega⟩
   obtain⟨x,hx⟩:∃x,(orderN s.starts a)[k]? =some x:=⟨(orderN s.starts a)[k]'(by omega),by simp⟩
   have hxl:=orderN_lt s.starts a x (List.mem_of_getElem? hx)
   have hx':((orderN s.starts a).map Int.ofNat)[k]? =some (x:Int):=by rw [List.getElem?_map,hx];rfl
   obtain⟨u,hu⟩:∃v,s.starts[x]? =some v:=⟨s.starts[x]'(by omega),by simp⟩
   have ku:keyAt s.starts x=u:=by rw [keyAt,Nat.min_eq_left (by omega),List.getD_eq_getElem?_getD,hu];rfl
   have ek:(((k+1:Nat):Int) - 1)=(k:Nat):=by omega
   have hd:(orderN s.starts a).getD k 0=x:=by rw [List.getD_eq_getElem?_getD,hx];rfl
   rw [insAt,hd,ku,kv] at he
   by_cases hc:u > v
   ·rw [if_pos hc] at he
    (repeat' ((conv=>whnf);first | (exfalso;omega) | with_reducible refine Idx.got hx' ek ?_ | with_reducible refine Idx.got hx' rfl ?_ | with_reducible refine Idx.got hu rfl ?_ | with_reducible refine Idx.got hv rfl ?_ | refine gA ?_ | ((with_reducible first | refine gD (fun h=>?_) (fun h=>?_) | refine gE (fun h=>?_) (fun h=>?_)) <;> (try simp only [lm] at h) <;> try have hw:=wn h) | with_reducible refine gI (fun x hx=>?_) | with_reducible refine gJ (fun j x hj hx=>?_) | refine gP ?_ | refine gQ ?_ | refine gV ?_ | refine gK ?_ | intro _)) <;> (try (conv=>whnf))
    all_goals first
     | (exfalso;omega)
     | (refine nw (k) ?_ ?_
        ·(repeat' ((conv=>whnf) <;> (first | exact trivial | exact rfl | with_reducible refine And.intro ?_ ?_))) <;> ((conv=>whnf) <;> (first | rw [ek] | simp))
        exact⟨by omega,he⟩)
   ·rw [if_neg hc] at he
    (repeat' ((conv=>whnf);first | (exfalso;omega) | with_reducible refine Idx.got hx' ek ?_ | with_reducible refine Idx.got hx' rfl ?_ | with_reducible refine Idx.got hu rfl ?_ | with_reducible refine Idx.got hv rfl ?_ | refine gA ?_ | ((with_reducible first | refine gD (fun h=>?_) (fun h=>?_) | refine gE (fun h=>?_) (fun h=>?_)) <;> (try simp only [lm] at h) <;> try have hw:=wn h) | with_reducible refine gI (fun x hx=>?_) | with_reducible refine gJ (fun j x hj hx=>?_) | refine gP ?_ | refine gQ ?_ | refine gV ?_ | refine gK ?_ | intro _)) <;> (try (conv=>whnf))
    all_goals first
     | (exfalso;omega)
     | (refine nw (a+1) ?_ ?_
        ·(repeat' ((conv=>whnf) <;> (first | exact trivial | exact rfl | with_reducible refine And.intro ?_ ?_))) <;> ((conv=>whnf) <;> ((rw [orderN_succ,insKey,hlen, ← he];simp [subList,List.map_take,List.map_drop,List.take_of_length_le])))
        exact (by omega:a+1≤s.starts.length))
  ·obtain rfl:k=0:=by omega
   rw [insAt] at he
   (repeat' ((conv=>whnf);first | (exfalso;omega) | refine gA ?_ | ((with_reducible first | refine gD (fun h=>?_) (fun h=>?_) | refine gE (fun h=>?_) (fun h=>?_)) <;> (try simp only [lm] at h) <;> try have hw:=wn h) | with_reducible refine gI (fun x hx=>?_) | with_reducible refine gJ (fun j x hj hx=>?_) | refine gP ?_ | refine gQ ?_ | refine gV ?_ | refine gK ?_ | intro _)) <;> (try (conv=>whnf))
   all_goals first
    | (exfalso;omega)
    | (refine nw (a+1) ?_ ?_
       ·(repeat' ((conv=>whnf) <;> (first | exact trivial | exact rfl | with_reducible refine And.intro ?_ ?_))) <;> ((conv=>whnf) <;> ((rw [orderN_succ,insKey,hlen, ← he];simp [subList,List.map_take,List.map_drop,List.take_of_length_le])))
       exact (by omega:a+1≤s.starts.length))
 ·obtain rfl:a=s.starts.length:=by omega
  (repeat' ((conv=>whnf);first | (exfalso;omega) | refine gA ?_ | ((with_reducible first | refine gD (fun h=>?_) (fun h=>?_) | refine gE (fun h=>?_) (fun h=>?_)) <;> (try simp only [lm] at h) <;> try have hw:=wn h) | with_reducible refine gI (fun x hx=>?_) | with_reducible refine gJ (fun j x hj hx=>?_) | refine gP ?_ | refine gQ ?_ | refine gV ?_ | refine gK ?_ | intro _)) <;> (try (conv=>whnf))
  exact⟨rfl,rfl,trivial⟩
end Go.Proofs.YtkiohdpapinecaaGreat.Abs
