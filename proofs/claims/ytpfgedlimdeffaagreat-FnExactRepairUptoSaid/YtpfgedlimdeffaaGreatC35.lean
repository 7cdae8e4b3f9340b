/- Contracts: lines picked as separate data; proofs that are trimmed. -/
import Derived.Test.YtpfgedlimdeffaaGreatC12
import Derived.Test.YtpfgedlimdeffaaGreatLayC
set_option linter.all false
set_option maxRecDepth 20000
set_option maxHeartbeats 0
namespace Go.Proofs.YtpfgedlimdeffaaGreat.Abs
open Go.Proofs Go.RowKit
open Go.Proofs Go.RowKit
theorem oQ (l:List Int):Con 75 [.d (ints l)] (.lin 3 (l.map i64)):=(slices_Clone_int l).wL rfl
theorem GN (l:List Step):Con 116 [.d (.sl (l.map Step.av))] (.lin 131 (l.map Step.av)):=(zT l).wL rfl
theorem GQ (l:List Link):Con 115 [.d (.sl (l.map Link.av))] (.lin 112 (l.map Link.av)):=(zU l).wL rfl
def KA (p:Proj):RV:=.agg [.d (i64 p.dead),.lin 96 (p.acts.map au.av),.lin 112 (p.links.map Link.av),.lin 102 (p.aU.map aP.av),.lin 3 (p.aL.map i64)]
theorem kM (p:Proj):Con 69 [.d p.av] (KA p):=by
 refine con Tryz.func69 rfl rfl Tryz.call69 rfl fun hwf=>?_
 simp only [ARs.wf,AR.wf,AV.wf,AV.wfs,lm,lim] at hwf
 (repeat' ((conv=>whnf);first|refine gA ?_|(refine gB ?_ ?_<;>intro h)|(refine gI ?_;intro x hx)|(refine gJ ?_;intro j x hj hx)|refine gP ?_|refine gV ?_|refine gC (GQ p.links) ?_|refine gC (oQ p.aL) ?_|intro _))<;>try (conv=>whnf)
 refine aG [1,2,3,24,25] [1,2] [61,19000,22000] ?_
 (conv=>whnf)
 refine aC.go ((Nat)×(List au)) (fun⟨k,o⟩=>(k≤p.acts.length)∧(o=p.acts.take k)) (fun⟨k,o⟩=>[(26,.data (i64 k))]) (fun⟨k,o⟩=>[(3,[.data (i64 p.dead),.own 61 0,.own 19000 0,.aj,.own 22000 0])]) (fun⟨k,o⟩=>[(61,96,o.map au.av,1),(19000,112,p.links.map Link.av,1),(22000,3,p.aL.map i64,1)]) (fun⟨k,o⟩=>p.acts.length - k) ⟨0,[]⟩ ?_ ?_
 ·exact⟨Nat.zero_le _,rfl⟩
 rintro⟨k,o⟩ ⟨hk,ho⟩
 by_cases hlt:k < p.acts.length
 ·obtain⟨a,ha⟩:∃a,p.acts[k]? =some a:=⟨p.acts[k]'hlt,by simp⟩
  have hol:=take_len ho
  have hwa:=qW hwf.1.2.1.2 ha
  simp only [AV.wf,AV.wfs,List.length_map] at hwa
  (repeat' ((conv=>whnf);first|with_reducible refine Idx.got ha rfl ?_|(exfalso;omega)|refine gA ?_|(refine gB ?_ ?_<;>intro h)|(refine gI ?_;intro x hx)|(refine gJ ?_;intro j x hj hx)|refine gP ?_|refine gV ?_|intro _))<;>try (conv=>whnf)
  refine aG [1,2,3,6,24,25,26,36,37] [1,2,3] [54] ?_
  (conv=>whnf)
  refine aC.go ((Nat)×(List Mode)) (fun⟨j,q⟩=>(j≤a.modes.length)∧(q=a.modes.take j)) (fun⟨j,q⟩=>[(38,.data (i64 j))]) (fun⟨j,q⟩=>[(6,[.data (.str a.name),.data (i64 a.fam),.own 54 0])]) (fun⟨j,q⟩=>[(54,98,q.map Mode.av,1)]) (fun⟨j,q⟩=>a.modes.length - j) ⟨0,[]⟩ ?_ ?_
  ·exact⟨Nat.zero_le _,rfl⟩
  rintro⟨j,q⟩ ⟨hj,hq⟩
  have hql:=take_len hq
  by_cases hjt:j < a.modes.length
  ·obtain⟨m,hm⟩:∃m,a.modes[j]? =some m:=⟨a.modes[j]'hjt,by simp⟩
   (repeat' ((conv=>whnf);first|with_reducible refine Idx.got hm rfl ?_|(exfalso;omega)|refine gA ?_|(refine gB ?_ ?_<;>intro h)|(refine gI ?_;intro x hx)|(refine gJ ?_;intro j x hj hx)|refine gP ?_|refine gV ?_|refine gC (oQ m.use) ?_|refine gC (oQ m.con) ?_|intro _))<;>try (conv=>whnf)
   refine nw ⟨j+1,q++[m]⟩ ?_ ?_
   ·(repeat' ((conv=>whnf)<;>(first|exact trivial|exact rfl|with_reducible refine And.intro ?_ ?_)))<;>((conv=>whnf)<;>(simp))
   exact⟨by omega,lq hm hq⟩
  ·obtain rfl:=nV hjt hq
   (repeat' ((conv=>whnf);first|(exfalso;omega)|refine gA ?_|(refine gB ?_ ?_<;>intro h)|(refine gI ?_;intro x hx)|(refine gJ ?_;intro j x hj hx)|refine gP ?_|refine gV ?_|intro _))<;>try (conv=>whnf)
   refine nw ⟨k+1,o++[a]⟩ ?_ ?_
   ·(repeat' ((conv=>whnf)<;>(first|exact trivial|exact rfl|with_reducible refine And.intro ?_ ?_)))<;>((conv=>whnf)<;>(simp))
   exact⟨by omega,lq ha ho⟩
 obtain rfl:=nV hlt ho
 (repeat' ((conv=>whnf);first|(exfalso;omega)|refine gA ?_|(refine gB ?_ ?_<;>intro h)|(refine gI ?_;intro x hx)|(refine gJ ?_;intro j x hj hx)|refine gP ?_|refine gV ?_|intro _))<;>try (conv=>whnf)
 refine aG [2,3,65,66] [2] [61,19000,94,22000] ?_
 (conv=>whnf)
 refine aC.go ((Nat)×(List aP)) (fun⟨r,o⟩=>(r≤p.aU.length)∧(o=p.aU.take r)) (fun⟨r,o⟩=>[(67,.data (i64 r))]) (fun⟨r,o⟩=>[(3,[.data (i64 p.dead),.own 61 0,.own 19000 0,.own 94 0,.own 22000 0])]) (fun⟨r,o⟩=>[(61,96,p.acts.map au.av,1),(19000,112,p.links.map Link.av,1),(94,102,o.map aP.av,1),(22000,3,p.aL.map i64,1)]) (fun⟨r,o⟩=>p.aU.length - r) ⟨0,[]⟩ ?_ ?_
 ·exact⟨Nat.zero_le _,rfl⟩
 rintro⟨r,o⟩ ⟨hk,ho⟩
 by_cases hlt:r < p.aU.length
 ·obtain⟨a,ha⟩:∃a,p.aU[r]? =some a:=⟨p.aU[r]'hlt,by simp⟩
  have hol:=take_len ho
  have hwa:=qW hwf.1.2.2.2.1.2 ha
  simp only [AV.wf,AV.wfs,List.length_map] at hwa
  (repeat' ((conv=>whnf);first|with_reducible refine Idx.got ha rfl ?_|(exfalso;omega)|refine gA ?_|(refine gB ?_ ?_<;>intro h)|(refine gI ?_;intro x hx)|(refine gJ ?_;intro j x hj hx)|refine gP ?_|refine gV ?_|refine gC (GN a.steps) ?_|intro _))<;>try (conv=>whnf)
  refine aG [2,3,11,65,66,67,76,77] [2,3] [74000,87] ?_
  (conv=>whnf)
  refine aC.go ((Nat)×(List (List Int))) (fun⟨j,q⟩=>(j≤a.setup.length)∧(q=a.setup.take j)) (fun⟨j,q⟩=>[(78,.data (i64 j))]) (fun⟨j,q⟩=>[(11,[.own 74000 0,.own 87 0])]) (fun⟨j,q⟩=>[(74000,131,a.steps.map Step.av,1),(87,25,q.map ints,1)]) (fun⟨j,q⟩=>a.setup.length - j) ⟨0,[]⟩ ?_ ?_
  ·exact⟨Nat.zero_le _,rfl⟩
  rintro⟨j,q⟩ ⟨hj,hq⟩
  have hql:=take_len hq
  by_cases hjt:j < a.setup.length
  ·obtain⟨m,hm⟩:∃m,a.setup[j]? =some m:=⟨a.setup[j]'hjt,by simp⟩
   (repeat' ((conv=>whnf);first|with_reducible refine Idx.got hm rfl ?_|(exfalso;omega)|refine gA ?_|(refine gB ?_ ?_<;>intro h)|(refine gI ?_;intro x hx)|(refine gJ ?_;intro j x hj hx)|refine gP ?_|refine gV ?_|refine gC (oQ m) ?_|intro _))<;>try (conv=>whnf)
   refine nw ⟨j+1,q++[m]⟩ ?_ ?_
   ·(repeat' ((conv=>whnf)<;>(first|exact trivial|exact rfl|with_reducible refine And.intro ?_ ?_)))<;>((conv=>whnf)<;>(simp))
   exact⟨by omega,lq hm hq⟩
  ·obtain rfl:=nV hjt hq
   (repeat' ((conv=>whnf);first|(exfalso;omega)|refine gA ?_|(refine gB ?_ ?_<;>intro h)|(refine gI ?_;intro x hx)|(refine gJ ?_;intro j x hj hx)|refine gP ?_|refine gV ?_|intro _))<;>try (conv=>whnf)
   refine nw ⟨r+1,o++[a]⟩ ?_ ?_
   ·(repeat' ((conv=>whnf)<;>(first|exact trivial|exact rfl|with_reducible refine And.intro ?_ ?_)))<;>((conv=>whnf)<;>(simp))
   exact⟨by omega,lq ha ho⟩
 obtain rfl:=nV hlt ho
 (repeat' ((conv=>whnf);first|(exfalso;omega)|refine gA ?_|(refine gB ?_ ?_<;>intro h)|(refine gI ?_;intro x hx)|(refine gJ ?_;intro j x hj hx)|refine gP ?_|refine gV ?_|intro _))<;>try (conv=>whnf)
 exact fv
end Go.Proofs.YtpfgedlimdeffaaGreat.Abs
