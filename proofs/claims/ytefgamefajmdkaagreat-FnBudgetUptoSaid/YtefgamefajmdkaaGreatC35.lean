/- Contracts: lines picked as separate data; proofs that are trimmed. -/
import Derived.Test.YtefgamefajmdkaaGreatC12
import Derived.Test.YtefgamefajmdkaaGreatLayC
set_option linter.all false
set_option maxRecDepth 20000
set_option maxHeartbeats 0
namespace Go.Proofs.YtefgamefajmdkaaGreat.Abs
open Go.Proofs Go.RowKit
theorem dY (l:List Lit):Con 42 [.d (lits l)] (.lin 82 (l.map Lit.av)):=(rR l).tT rfl
theorem dQ (ls:List Lin) (idx:List Int) (hv:∀i∈idx,0≤i∧i < ls.length):Con 83 [.d (.sl (ls.map Lin.av)),.d (ints idx)] (.lin 53 ((Rb ls idx).map Lin.av)):=by
 refine con Tryz.func83 rfl rfl Tryz.call83 rfl fun hwf=>?_
 simp only [ARs.wf,AR.wf,AV.wf,AV.wfs,lm,lim] at hwf
 (repeat' ((conv=>whnf);first|refine gA ?_|(refine gB ?_ ?_<;>intro h)|(refine gI ?_;intro x hx)|(refine gJ ?_;intro j x hj hx)|refine gP ?_|refine gV ?_|intro _))<;>try (conv=>whnf)
 refine aA [0,10,11] [] [9] ?_
 (conv=>whnf)
 refine ay.go ((Nat)) (fun k=>(k≤idx.length)) (fun k=>[(12,.data (i64 k)),(5,.own 9 0)]) (fun _=>[]) (fun k=>[(9,53,(idx.take k).map (fun i=>(CB ls i).av),1)]) (fun k=>idx.length - k) (0) ?_ ?_
 ·exact Nat.zero_le _
 rintro k hk
 by_cases hlt:k < idx.length
 ·obtain⟨i,hi⟩:∃i,idx[k]? =some i:=⟨idx[k]'hlt,by simp⟩
  have hv':=hv i (List.mem_of_getElem? hi)
  obtain⟨x,hx⟩:∃x,ls[i.toNat]? =some x:=⟨ls[i.toNat]'(by omega),by simp⟩
  have e:=Qb hx
  (repeat' ((conv=>whnf);first|with_reducible refine Idx.got hi rfl ?_|with_reducible refine Idx.got hx (by omega) ?_|refine gA ?_|(refine gB ?_ ?_<;>intro h)|(refine gI ?_;intro x hx)|(refine gJ ?_;intro j x hj hx)|refine gP ?_|refine gV ?_|refine gC (dY x.clause) ?_|intro _))<;>try (conv=>whnf)
  ·refine nw (k+1) ?_ ?_
   ·(repeat' ((conv=>whnf)<;>(first|exact trivial|exact rfl|with_reducible refine And.intro ?_ ?_)))<;>((conv=>whnf)<;>((rw [← Gf (fun i=>(CB ls i).av) hi,e])))
   exact (by omega:k+1≤idx.length)
  ·exfalso;omega
 ·(repeat' ((conv=>whnf);first|(exfalso;omega)|refine gA ?_|(refine gB ?_ ?_<;>intro h)|(refine gI ?_;intro x hx)|(refine gJ ?_;intro j x hj hx)|refine gP ?_|refine gV ?_|intro _))<;>try (conv=>whnf)
  refine⟨?_,rfl,trivial⟩
  dsimp only
  rw [List.take_of_length_le (by omega)];simp [Rb,Function.comp_def]
open Go.Proofs Go.RowKit
theorem jS (l:List Int):Con 116 [.d (ints l)] (.lin 3 (l.map i64)):=(slices_Clone_int l).tT rfl
theorem Iw (l:List Step):Con 143 [.d (.sl (l.map Step.av))] (.lin 187 (l.map Step.av)):=(qG l).tT rfl
theorem Iy (l:List Link):Con 142 [.d (.sl (l.map Link.av))] (.lin 130 (l.map Link.av)):=(qH l).tT rfl
def Wx (p:Proj):RV:=.agg [.d (i64 p.dead),.lin 103 (p.acts.map aB.av),.lin 130 (p.links.map Link.av),.lin 126 (p.aW.map bI.av),.lin 3 (p.aR.map i64)]
def XM (b:Dom):RV:=.agg [.lin 3 (b.lo.map i64),.lin 3 (b.hi.map i64),.lin 26 (b.modes.map ints)]
theorem nU (p:Proj):Con 78 [.d p.av] (Wx p):=by
 refine con Tryz.func78 rfl rfl Tryz.call78 rfl fun hwf=>?_
 simp only [ARs.wf,AR.wf,AV.wf,AV.wfs,lm,lim] at hwf
 (repeat' ((conv=>whnf);first|refine gA ?_|(refine gB ?_ ?_<;>intro h)|(refine gI ?_;intro x hx)|(refine gJ ?_;intro j x hj hx)|refine gP ?_|refine gV ?_|refine gC (Iy p.links) ?_|refine gC (jS p.aR) ?_|intro _))<;>try (conv=>whnf)
 refine aA [1,2,3,24,25] [1,2] [61,19000,22000] ?_
 (conv=>whnf)
 refine ay.go ((Nat)×(List aB)) (fun⟨k,o⟩=>(k≤p.acts.length)∧(o=p.acts.take k)) (fun⟨k,o⟩=>[(26,.data (i64 k))]) (fun⟨k,o⟩=>[(3,[.data (i64 p.dead),.own 61 0,.own 19000 0,.ah,.own 22000 0])]) (fun⟨k,o⟩=>[(61,103,o.map aB.av,1),(19000,130,p.links.map Link.av,1),(22000,3,p.aR.map i64,1)]) (fun⟨k,o⟩=>p.acts.length - k) ⟨0,[]⟩ ?_ ?_
 ·exact⟨Nat.zero_le _,rfl⟩
 rintro⟨k,o⟩ ⟨hk,ho⟩
 by_cases hlt:k < p.acts.length
 ·obtain⟨a,ha⟩:∃a,p.acts[k]? =some a:=⟨p.acts[k]'hlt,by simp⟩
  have hol:=take_len ho
  have hwa:=ou hwf.1.2.1.2 ha
  simp only [AV.wf,AV.wfs,List.length_map] at hwa
  (repeat' ((conv=>whnf);first|with_reducible refine Idx.got ha rfl ?_|(exfalso;omega)|refine gA ?_|(refine gB ?_ ?_<;>intro h)|(refine gI ?_;intro x hx)|(refine gJ ?_;intro j x hj hx)|refine gP ?_|refine gV ?_|intro _))<;>try (conv=>whnf)
  refine aA [1,2,3,6,24,25,26,36,37] [1,2,3] [54] ?_
  (conv=>whnf)
  refine ay.go ((Nat)×(List Mode)) (fun⟨j,q⟩=>(j≤a.modes.length)∧(q=a.modes.take j)) (fun⟨j,q⟩=>[(38,.data (i64 j))]) (fun⟨j,q⟩=>[(6,[.data (.str a.name),.data (i64 a.fam),.own 54 0])]) (fun⟨j,q⟩=>[(54,177,q.map Mode.av,1)]) (fun⟨j,q⟩=>a.modes.length - j) ⟨0,[]⟩ ?_ ?_
  ·exact⟨Nat.zero_le _,rfl⟩
  rintro⟨j,q⟩ ⟨hj,hq⟩
  have hql:=take_len hq
  by_cases hjt:j < a.modes.length
  ·obtain⟨m,hm⟩:∃m,a.modes[j]? =some m:=⟨a.modes[j]'hjt,by simp⟩
   (repeat' ((conv=>whnf);first|with_reducible refine Idx.got hm rfl ?_|(exfalso;omega)|refine gA ?_|(refine gB ?_ ?_<;>intro h)|(refine gI ?_;intro x hx)|(refine gJ ?_;intro j x hj hx)|refine gP ?_|refine gV ?_|refine gC (jS m.use) ?_|refine gC (jS m.con) ?_|intro _))<;>try (conv=>whnf)
   refine nw ⟨j+1,q++[m]⟩ ?_ ?_
   ·(repeat' ((conv=>whnf)<;>(first|exact trivial|exact rfl|with_reducible refine And.intro ?_ ?_)))<;>((conv=>whnf)<;>(simp))
   exact⟨by omega,kX hm hq⟩
  ·obtain rfl:=nk hjt hq
   (repeat' ((conv=>whnf);first|(exfalso;omega)|refine gA ?_|(refine gB ?_ ?_<;>intro h)|(refine gI ?_;intro x hx)|(refine gJ ?_;intro j x hj hx)|refine gP ?_|refine gV ?_|intro _))<;>try (conv=>whnf)
   refine nw ⟨k+1,o++[a]⟩ ?_ ?_
   ·(repeat' ((conv=>whnf)<;>(first|exact trivial|exact rfl|with_reducible refine And.intro ?_ ?_)))<;>((conv=>whnf)<;>(simp))
   exact⟨by omega,kX ha ho⟩
 obtain rfl:=nk hlt ho
 (repeat' ((conv=>whnf);first|(exfalso;omega)|refine gA ?_|(refine gB ?_ ?_<;>intro h)|(refine gI ?_;intro x hx)|(refine gJ ?_;intro j x hj hx)|refine gP ?_|refine gV ?_|intro _))<;>try (conv=>whnf)
 refine aA [2,3,65,66] [2] [61,19000,94,22000] ?_
 (conv=>whnf)
 refine ay.go ((Nat)×(List bI)) (fun⟨r,o⟩=>(r≤p.aW.length)∧(o=p.aW.take r)) (fun⟨r,o⟩=>[(67,.data (i64 r))]) (fun⟨r,o⟩=>[(3,[.data (i64 p.dead),.own 61 0,.own 19000 0,.own 94 0,.own 22000 0])]) (fun⟨r,o⟩=>[(61,103,p.acts.map aB.av,1),(19000,130,p.links.map Link.av,1),(94,126,o.map bI.av,1),(22000,3,p.aR.map i64,1)]) (fun⟨r,o⟩=>p.aW.length - r) ⟨0,[]⟩ ?_ ?_
 ·exact⟨Nat.zero_le _,rfl⟩
 rintro⟨r,o⟩ ⟨hk,ho⟩
 by_cases hlt:r < p.aW.length
 ·obtain⟨a,ha⟩:∃a,p.aW[r]? =some a:=⟨p.aW[r]'hlt,by simp⟩
  have hol:=take_len ho
  have hwa:=ou hwf.1.2.2.2.1.2 ha
  simp only [AV.wf,AV.wfs,List.length_map] at hwa
  (repeat' ((conv=>whnf);first|with_reducible refine Idx.got ha rfl ?_|(exfalso;omega)|refine gA ?_|(refine gB ?_ ?_<;>intro h)|(refine gI ?_;intro x hx)|(refine gJ ?_;intro j x hj hx)|refine gP ?_|refine gV ?_|refine gC (Iw a.steps) ?_|intro _))<;>try (conv=>whnf)
  refine aA [2,3,11,65,66,67,76,77] [2,3] [74000,87] ?_
  (conv=>whnf)
  refine ay.go ((Nat)×(List (List Int))) (fun⟨j,q⟩=>(j≤a.setup.length)∧(q=a.setup.take j)) (fun⟨j,q⟩=>[(78,.data (i64 j))]) (fun⟨j,q⟩=>[(11,[.own 74000 0,.own 87 0])]) (fun⟨j,q⟩=>[(74000,187,a.steps.map Step.av,1),(87,26,q.map ints,1)]) (fun⟨j,q⟩=>a.setup.length - j) ⟨0,[]⟩ ?_ ?_
  ·exact⟨Nat.zero_le _,rfl⟩
  rintro⟨j,q⟩ ⟨hj,hq⟩
  have hql:=take_len hq
  by_cases hjt:j < a.setup.length
  ·obtain⟨m,hm⟩:∃m,a.setup[j]? =some m:=⟨a.setup[j]'hjt,by simp⟩
   (repeat' ((conv=>whnf);first|with_reducible refine Idx.got hm rfl ?_|(exfalso;omega)|refine gA ?_|(refine gB ?_ ?_<;>intro h)|(refine gI ?_;intro x hx)|(refine gJ ?_;intro j x hj hx)|refine gP ?_|refine gV ?_|refine gC (jS m) ?_|intro _))<;>try (conv=>whnf)
   refine nw ⟨j+1,q++[m]⟩ ?_ ?_
   ·(repeat' ((conv=>whnf)<;>(first|exact trivial|exact rfl|with_reducible refine And.intro ?_ ?_)))<;>((conv=>whnf)<;>(simp))
   exact⟨by omega,kX hm hq⟩
  ·obtain rfl:=nk hjt hq
   (repeat' ((conv=>whnf);first|(exfalso;omega)|refine gA ?_|(refine gB ?_ ?_<;>intro h)|(refine gI ?_;intro x hx)|(refine gJ ?_;intro j x hj hx)|refine gP ?_|refine gV ?_|intro _))<;>try (conv=>whnf)
   refine nw ⟨r+1,o++[a]⟩ ?_ ?_
   ·(repeat' ((conv=>whnf)<;>(first|exact trivial|exact rfl|with_reducible refine And.intro ?_ ?_)))<;>((conv=>whnf)<;>(simp))
   exact⟨by omega,kX ha ho⟩
 obtain rfl:=nk hlt ho
 (repeat' ((conv=>whnf);first|(exfalso;omega)|refine gA ?_|(refine gB ?_ ?_<;>intro h)|(refine gI ?_;intro x hx)|(refine gJ ?_;intro j x hj hx)|refine gP ?_|refine gV ?_|intro _))<;>try (conv=>whnf)
 exact fv
theorem yZ (b:Dom):Con 43 [.d b.av] (XM b):=by
 refine con Tryz.func43 rfl rfl Tryz.call43 rfl fun hwf=>?_
 simp only [ARs.wf,AR.wf,AV.wf,AV.wfs,lm,lim] at hwf
 (repeat' ((conv=>whnf);first|refine gA ?_|(refine gB ?_ ?_<;>intro h)|(refine gI ?_;intro x hx)|(refine gJ ?_;intro j x hj hx)|refine gP ?_|refine gV ?_|refine gC (jS _) ?_|intro _))<;>try (conv=>whnf)
 refine aA [2,3,14,15] [2] [9000,12000,25] ?_
 (conv=>whnf)
 refine ay.go ((Nat)) (fun k=>(k≤b.modes.length)) (fun k=>[(16,.data (i64 k))]) (fun k=>[(3,[.own 9000 0,.own 12000 0,.own 25 0])]) (fun k=>[(9000,3,b.lo.map i64,1),(12000,3,b.hi.map i64,1),(25,26,(b.modes.take k).map ints,1)]) (fun k=>b.modes.length - k) (0) ?_ ?_
 ·exact Nat.zero_le _
 rintro k hk
 (repeat' ((conv=>whnf);first|refine gA ?_|(refine gB ?_ ?_<;>intro h)|(refine gI ?_;intro x hx)|(refine gJ ?_;intro j x hj hx)|refine gP ?_|refine gV ?_|refine gC (jS x) ?_|intro _))<;>try (conv=>whnf)
 ·refine nw (k+1) ?_ ?_
  ·(repeat' ((conv=>whnf)<;>(first|exact trivial|exact rfl|with_reducible refine And.intro ?_ ?_)))<;>((conv=>whnf)<;>(exact jf ints hx))
  exact (by omega:k+1≤b.modes.length)
 ·(repeat' ((conv=>whnf)<;>(first|exact trivial|exact VC.nod (by kernel_rfl)|refine VC.mk rfl ?_|refine VC.mk (by dsimp only;rw [List.take_of_length_le (by omega)]) ?_)))
end Go.Proofs.YtefgamefajmdkaaGreat.Abs
