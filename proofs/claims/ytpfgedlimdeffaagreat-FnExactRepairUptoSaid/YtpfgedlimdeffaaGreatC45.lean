/- Contracts: activities by their starts: the reference. -/
import Derived.Test.YtpfgedlimdeffaaGreatC44
import Derived.Test.YtpfgedlimdeffaaGreatM9
set_option linter.all false
set_option maxRecDepth 20000
set_option maxHeartbeats 0
namespace Go.Proofs.YtpfgedlimdeffaaGreat.Abs
open Go.Proofs Go.RowKit
theorem Du (s:aA) (hn:s.starts.length≤60):Con 25 [.d s.av] (.d (ints (eG s.starts))):=by
 refine con Tryz.func25 rfl rfl Tryz.call25 rfl fun hwf=>?_
 (repeat' ((conv=>whnf);first|refine gA ?_|(refine gB ?_ ?_<;>intro h)|(refine gI ?_;intro x hx)|(refine gJ ?_;intro j x hj hx)|refine gP ?_|refine gQ ?_|refine gV ?_|refine gK ?_|intro _))<;>try (conv=>whnf)
 refine aG [1,10] [1] [7] ?_
 (conv=>whnf)
 refine aC.go ((Nat)) (fun a=>(a≤s.starts.length)) (fun a=>[(11,.data (i64 a)),(3,.own 7 0)]) (fun _=>[]) (fun a=>[(7,3,((dL s.starts a).map Int.ofNat).map i64,0)]) (fun a=>s.starts.length - a) (0) ?_ ?_
 ·exact Nat.zero_le _
 rintro a ha
 have hlen:=jR s.starts a
 by_cases hlt:a < s.starts.length
 ·obtain⟨v,hv⟩:∃v,s.starts[a]? =some v:=⟨s.starts[a]'hlt,by simp⟩
  have kv:jc s.starts a=v:=by rw [jc,Nat.min_eq_left (by omega),List.getD_eq_getElem?_getD,hv];rfl
  (repeat' ((conv=>whnf);first|(exfalso;omega)|refine gA ?_|(refine gB ?_ ?_<;>intro h)|(refine gI ?_;intro x hx)|(refine gJ ?_;intro j x hj hx)|refine gP ?_|refine gQ ?_|refine gV ?_|refine gK ?_|intro _))<;>try (conv=>whnf)
  refine aG [1,3,4,10,11] [1] [] ?_
  (conv=>whnf)
  refine aC.mk ((Nat)) (fun k=>(k≤a)∧(jP (jc s.starts) (dL s.starts a) a k=jP (jc s.starts) (dL s.starts a) a a)) (fun k=>[(5,.data (i64 k))]) (fun _=>[]) (fun _=>[]) (fun k=>k) (a) ?_ ?_ ?_
  rotate_left
  ·(repeat' ((conv=>whnf)<;>(first|exact trivial|exact rfl|with_reducible refine And.intro ?_ ?_)))<;>((conv=>whnf)<;>(simp [hlen]))
  rotate_left
  ·exact⟨Nat.le_refl _,rfl⟩
  rintro k ⟨hk,he⟩
  by_cases h0:0 < k
  ·obtain⟨k,rfl⟩:∃j,k=j+1:=⟨k - 1,by omega⟩
   obtain⟨x,hx⟩:∃x,(dL s.starts a)[k]? =some x:=⟨(dL s.starts a)[k]'(by omega),by simp⟩
   have hxl:=pJ s.starts a x (List.mem_of_getElem? hx)
   have hx':((dL s.starts a).map Int.ofNat)[k]? =some (x:Int):=by rw [List.getElem?_map,hx];rfl
   obtain⟨u,hu⟩:∃v,s.starts[x]? =some v:=⟨s.starts[x]'(by omega),by simp⟩
   have ku:jc s.starts x=u:=by rw [jc,Nat.min_eq_left (by omega),List.getD_eq_getElem?_getD,hu];rfl
   have ek:(((k+1:Nat):Int) - 1)=(k:Nat):=by omega
   have hd:(dL s.starts a).getD k 0=x:=by rw [List.getD_eq_getElem?_getD,hx];rfl
   rw [jP,hd,ku,kv] at he
   by_cases hc:u > v
   ·rw [if_pos hc] at he
    (repeat' ((conv=>whnf);first|(exfalso;omega)|with_reducible refine Idx.got hx' ek ?_|with_reducible refine Idx.got hx' rfl ?_|with_reducible refine Idx.got hu rfl ?_|with_reducible refine Idx.got hv rfl ?_|refine gA ?_|(refine gB ?_ ?_<;>intro h)|(refine gI ?_;intro x hx)|(refine gJ ?_;intro j x hj hx)|refine gP ?_|refine gQ ?_|refine gV ?_|refine gK ?_|intro _))<;>try (conv=>whnf)
    all_goals first
     |(exfalso;omega)
     |(refine nw (k) ?_ ?_
       ·(repeat' ((conv=>whnf)<;>(first|exact trivial|exact rfl|with_reducible refine And.intro ?_ ?_)))<;>((conv=>whnf)<;>(first|rw [ek]|simp))
       exact⟨by omega,he⟩)
   ·rw [if_neg hc] at he
    (repeat' ((conv=>whnf);first|(exfalso;omega)|with_reducible refine Idx.got hx' ek ?_|with_reducible refine Idx.got hx' rfl ?_|with_reducible refine Idx.got hu rfl ?_|with_reducible refine Idx.got hv rfl ?_|refine gA ?_|(refine gB ?_ ?_<;>intro h)|(refine gI ?_;intro x hx)|(refine gJ ?_;intro j x hj hx)|refine gP ?_|refine gQ ?_|refine gV ?_|refine gK ?_|intro _))<;>try (conv=>whnf)
    all_goals first
     |(exfalso;omega)
     |(refine nw (a+1) ?_ ?_
       ·(repeat' ((conv=>whnf)<;>(first|exact trivial|exact rfl|with_reducible refine And.intro ?_ ?_)))<;>((conv=>whnf)<;>((rw [jQ,oD,hlen, ← he];simp [iM,List.map_take,List.map_drop,List.take_of_length_le])))
       exact (by omega:a+1≤s.starts.length))
  ·obtain rfl:k=0:=by omega
   rw [jP] at he
   (repeat' ((conv=>whnf);first|(exfalso;omega)|refine gA ?_|(refine gB ?_ ?_<;>intro h)|(refine gI ?_;intro x hx)|(refine gJ ?_;intro j x hj hx)|refine gP ?_|refine gQ ?_|refine gV ?_|refine gK ?_|intro _))<;>try (conv=>whnf)
   all_goals first
    |(exfalso;omega)
    |(refine nw (a+1) ?_ ?_
      ·(repeat' ((conv=>whnf)<;>(first|exact trivial|exact rfl|with_reducible refine And.intro ?_ ?_)))<;>((conv=>whnf)<;>((rw [jQ,oD,hlen, ← he];simp [iM,List.map_take,List.map_drop,List.take_of_length_le])))
      exact (by omega:a+1≤s.starts.length))
 ·obtain rfl:a=s.starts.length:=by omega
  (repeat' ((conv=>whnf);first|(exfalso;omega)|refine gA ?_|(refine gB ?_ ?_<;>intro h)|(refine gI ?_;intro x hx)|(refine gJ ?_;intro j x hj hx)|refine gP ?_|refine gQ ?_|refine gV ?_|refine gK ?_|intro _))<;>try (conv=>whnf)
  exact⟨rfl,rfl,trivial⟩
end Go.Proofs.YtpfgedlimdeffaaGreat.Abs
