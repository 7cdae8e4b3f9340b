/- Contracts: lines picked as separate data; proofs that are trimmed. -/
import Derived.Test.YtmenphiahgkjkaaGreatDoorC12
import Derived.Test.YtmenphiahgkjkaaGreatDoorLayC
set_option linter.all false
set_option maxRecDepth 20000
set_option maxHeartbeats 0
namespace Go.Proofs.YtmenphiahgkjkaaGreatDoor.Abs
open Go.Proofs Go.RowKit
theorem fZ (l:List Lit):Con 64 [.d (lits l)] (.lin 79 (l.map Lit.av)):=(wC l).xO rfl
theorem fH (ls:List Lin) (idx:List Int) (hv:∀i∈idx,0≤i∧i < ls.length):Con 22 [.d (.sl (ls.map Lin.av)),.d (ints idx)] (.lin 75 ((WK ls idx).map Lin.av)):=by
 refine con Tryz.func22 rfl rfl Tryz.call22 rfl fun hwf=>?_
 simp only [ARs.wf,AR.wf,AV.wf,AV.wfs,lm,lim] at hwf
 (repeat' ((conv=>whnf);first|refine gA ?_|(refine gB ?_ ?_<;>intro h)|(refine gI ?_;intro x hx)|(refine gJ ?_;intro j x hj hx)|refine gP ?_|refine gV ?_|intro _))<;>try (conv=>whnf)
 refine aB [0,10,11] [] [9] ?_
 (conv=>whnf)
 refine aA.go ((Nat)) (fun k=>(k≤idx.length)) (fun k=>[(12,.data (i64 k)),(5,.own 9 0)]) (fun _=>[]) (fun k=>[(9,75,(idx.take k).map (fun i=>(GH ls i).av),1)]) (fun k=>idx.length - k) (0) ?_ ?_
 ·exact Nat.zero_le _
 rintro k hk
 by_cases hlt:k < idx.length
 ·obtain⟨i,hi⟩:∃i,idx[k]? =some i:=⟨idx[k]'hlt,by simp⟩
  have hv':=hv i (List.mem_of_getElem? hi)
  obtain⟨x,hx⟩:∃x,ls[i.toNat]? =some x:=⟨ls[i.toNat]'(by omega),by simp⟩
  have e:=Vt hx
  (repeat' ((conv=>whnf);first|with_reducible refine Idx.got hi rfl ?_|with_reducible refine Idx.got hx (by omega) ?_|refine gA ?_|(refine gB ?_ ?_<;>intro h)|(refine gI ?_;intro x hx)|(refine gJ ?_;intro j x hj hx)|refine gP ?_|refine gV ?_|refine gC (fZ x.clause) ?_|intro _))<;>try (conv=>whnf)
  ·refine nw (k+1) ?_ ?_
   ·(repeat' ((conv=>whnf)<;>(first|exact trivial|exact rfl|with_reducible refine And.intro ?_ ?_)))<;>((conv=>whnf)<;>((rw [← Ld (fun i=>(GH ls i).av) hi,e])))
   exact (by omega:k+1≤idx.length)
  ·exfalso;omega
 ·(repeat' ((conv=>whnf);first|(exfalso;omega)|refine gA ?_|(refine gB ?_ ?_<;>intro h)|(refine gI ?_;intro x hx)|(refine gJ ?_;intro j x hj hx)|refine gP ?_|refine gV ?_|intro _))<;>try (conv=>whnf)
  refine⟨?_,rfl,trivial⟩
  dsimp only
  rw [List.take_of_length_le (by omega)];simp [WK,Function.comp_def]
open Go.Proofs Go.RowKit
theorem mE (l:List Int):Con 52 [.d (ints l)] (.lin 3 (l.map i64)):=(slices_Clone_int l).xO rfl
theorem MX (l:List Step):Con 53 [.d (.sl (l.map Step.av))] (.lin 117 (l.map Step.av)):=(uL l).xO rfl
theorem MZ (l:List Link):Con 51 [.d (.sl (l.map Link.av))] (.lin 104 (l.map Link.av)):=(uM l).xO rfl
def abD (p:Proj):RV:=.agg [.d (i64 p.dead),.lin 101 (p.acts.map aC.av),.lin 104 (p.links.map Link.av),.lin 96 (p.bB.map dR.av),.lin 3 (p.aW.map i64)]
def acU (b:Dom):RV:=.agg [.lin 3 (b.lo.map i64),.lin 3 (b.hi.map i64),.lin 26 (b.modes.map ints)]
theorem rE (p:Proj):Con 17 [.d p.av] (abD p):=by
 refine con Tryz.func17 rfl rfl Tryz.call17 rfl fun hwf=>?_
 simp only [ARs.wf,AR.wf,AV.wf,AV.wfs,lm,lim] at hwf
 (repeat' ((conv=>whnf);first|refine gA ?_|(refine gB ?_ ?_<;>intro h)|(refine gI ?_;intro x hx)|(refine gJ ?_;intro j x hj hx)|refine gP ?_|refine gV ?_|refine gC (MZ p.links) ?_|refine gC (mE p.aW) ?_|intro _))<;>try (conv=>whnf)
 refine aB [1,2,3,24,25] [1,2] [61,19000,22000] ?_
 (conv=>whnf)
 refine aA.go ((Nat)×(List aC)) (fun⟨k,o⟩=>(k≤p.acts.length)∧(o=p.acts.take k)) (fun⟨k,o⟩=>[(26,.data (i64 k))]) (fun⟨k,o⟩=>[(3,[.data (i64 p.dead),.own 61 0,.own 19000 0,.ah,.own 22000 0])]) (fun⟨k,o⟩=>[(61,101,o.map aC.av,1),(19000,104,p.links.map Link.av,1),(22000,3,p.aW.map i64,1)]) (fun⟨k,o⟩=>p.acts.length - k) ⟨0,[]⟩ ?_ ?_
 ·exact⟨Nat.zero_le _,rfl⟩
 rintro⟨k,o⟩ ⟨hk,ho⟩
 by_cases hlt:k < p.acts.length
 ·obtain⟨a,ha⟩:∃a,p.acts[k]? =some a:=⟨p.acts[k]'hlt,by simp⟩
  have hol:=take_len ho
  have hwa:=rP hwf.1.2.1.2 ha
  simp only [AV.wf,AV.wfs,List.length_map] at hwa
  (repeat' ((conv=>whnf);first|with_reducible refine Idx.got ha rfl ?_|(exfalso;omega)|refine gA ?_|(refine gB ?_ ?_<;>intro h)|(refine gI ?_;intro x hx)|(refine gJ ?_;intro j x hj hx)|refine gP ?_|refine gV ?_|intro _))<;>try (conv=>whnf)
  refine aB [1,2,3,6,24,25,26,36,37] [1,2,3] [54] ?_
  (conv=>whnf)
  refine aA.go ((Nat)×(List Mode)) (fun⟨j,q⟩=>(j≤a.modes.length)∧(q=a.modes.take j)) (fun⟨j,q⟩=>[(38,.data (i64 j))]) (fun⟨j,q⟩=>[(6,[.data (.str a.name),.data (i64 a.fam),.own 54 0])]) (fun⟨j,q⟩=>[(54,114,q.map Mode.av,1)]) (fun⟨j,q⟩=>a.modes.length - j) ⟨0,[]⟩ ?_ ?_
  ·exact⟨Nat.zero_le _,rfl⟩
  rintro⟨j,q⟩ ⟨hj,hq⟩
  have hql:=take_len hq
  by_cases hjt:j < a.modes.length
  ·obtain⟨m,hm⟩:∃m,a.modes[j]? =some m:=⟨a.modes[j]'hjt,by simp⟩
   (repeat' ((conv=>whnf);first|with_reducible refine Idx.got hm rfl ?_|(exfalso;omega)|refine gA ?_|(refine gB ?_ ?_<;>intro h)|(refine gI ?_;intro x hx)|(refine gJ ?_;intro j x hj hx)|refine gP ?_|refine gV ?_|refine gC (mE m.use) ?_|refine gC (mE m.con) ?_|intro _))<;>try (conv=>whnf)
   refine nw ⟨j+1,q++[m]⟩ ?_ ?_
   ·(repeat' ((conv=>whnf)<;>(first|exact trivial|exact rfl|with_reducible refine And.intro ?_ ?_)))<;>((conv=>whnf)<;>(simp))
   exact⟨by omega,nT hm hq⟩
  ·obtain rfl:=qH hjt hq
   (repeat' ((conv=>whnf);first|(exfalso;omega)|refine gA ?_|(refine gB ?_ ?_<;>intro h)|(refine gI ?_;intro x hx)|(refine gJ ?_;intro j x hj hx)|refine gP ?_|refine gV ?_|intro _))<;>try (conv=>whnf)
   refine nw ⟨k+1,o++[a]⟩ ?_ ?_
   ·(repeat' ((conv=>whnf)<;>(first|exact trivial|exact rfl|with_reducible refine And.intro ?_ ?_)))<;>((conv=>whnf)<;>(simp))
   exact⟨by omega,nT ha ho⟩
 obtain rfl:=qH hlt ho
 (repeat' ((conv=>whnf);first|(exfalso;omega)|refine gA ?_|(refine gB ?_ ?_<;>intro h)|(refine gI ?_;intro x hx)|(refine gJ ?_;intro j x hj hx)|refine gP ?_|refine gV ?_|intro _))<;>try (conv=>whnf)
 refine aB [2,3,65,66] [2] [61,19000,94,22000] ?_
 (conv=>whnf)
 refine aA.go ((Nat)×(List dR)) (fun⟨r,o⟩=>(r≤p.bB.length)∧(o=p.bB.take r)) (fun⟨r,o⟩=>[(67,.data (i64 r))]) (fun⟨r,o⟩=>[(3,[.data (i64 p.dead),.own 61 0,.own 19000 0,.own 94 0,.own 22000 0])]) (fun⟨r,o⟩=>[(61,101,p.acts.map aC.av,1),(19000,104,p.links.map Link.av,1),(94,96,o.map dR.av,1),(22000,3,p.aW.map i64,1)]) (fun⟨r,o⟩=>p.bB.length - r) ⟨0,[]⟩ ?_ ?_
 ·exact⟨Nat.zero_le _,rfl⟩
 rintro⟨r,o⟩ ⟨hk,ho⟩
 by_cases hlt:r < p.bB.length
 ·obtain⟨a,ha⟩:∃a,p.bB[r]? =some a:=⟨p.bB[r]'hlt,by simp⟩
  have hol:=take_len ho
  have hwa:=rP hwf.1.2.2.2.1.2 ha
  simp only [AV.wf,AV.wfs,List.length_map] at hwa
  (repeat' ((conv=>whnf);first|with_reducible refine Idx.got ha rfl ?_|(exfalso;omega)|refine gA ?_|(refine gB ?_ ?_<;>intro h)|(refine gI ?_;intro x hx)|(refine gJ ?_;intro j x hj hx)|refine gP ?_|refine gV ?_|refine gC (MX a.steps) ?_|intro _))<;>try (conv=>whnf)
  refine aB [2,3,11,65,66,67,76,77] [2,3] [74000,87] ?_
  (conv=>whnf)
  refine aA.go ((Nat)×(List (List Int))) (fun⟨j,q⟩=>(j≤a.setup.length)∧(q=a.setup.take j)) (fun⟨j,q⟩=>[(78,.data (i64 j))]) (fun⟨j,q⟩=>[(11,[.own 74000 0,.own 87 0])]) (fun⟨j,q⟩=>[(74000,117,a.steps.map Step.av,1),(87,26,q.map ints,1)]) (fun⟨j,q⟩=>a.setup.length - j) ⟨0,[]⟩ ?_ ?_
  ·exact⟨Nat.zero_le _,rfl⟩
  rintro⟨j,q⟩ ⟨hj,hq⟩
  have hql:=take_len hq
  by_cases hjt:j < a.setup.length
  ·obtain⟨m,hm⟩:∃m,a.setup[j]? =some m:=⟨a.setup[j]'hjt,by simp⟩
   (repeat' ((conv=>whnf);first|with_reducible refine Idx.got hm rfl ?_|(exfalso;omega)|refine gA ?_|(refine gB ?_ ?_<;>intro h)|(refine gI ?_;intro x hx)|(refine gJ ?_;intro j x hj hx)|refine gP ?_|refine gV ?_|refine gC (mE m) ?_|intro _))<;>try (conv=>whnf)
   refine nw ⟨j+1,q++[m]⟩ ?_ ?_
   ·(repeat' ((conv=>whnf)<;>(first|exact trivial|exact rfl|with_reducible refine And.intro ?_ ?_)))<;>((conv=>whnf)<;>(simp))
   exact⟨by omega,nT hm hq⟩
  ·obtain rfl:=qH hjt hq
   (repeat' ((conv=>whnf);first|(exfalso;omega)|refine gA ?_|(refine gB ?_ ?_<;>intro h)|(refine gI ?_;intro x hx)|(refine gJ ?_;intro j x hj hx)|refine gP ?_|refine gV ?_|intro _))<;>try (conv=>whnf)
   refine nw ⟨r+1,o++[a]⟩ ?_ ?_
   ·(repeat' ((conv=>whnf)<;>(first|exact trivial|exact rfl|with_reducible refine And.intro ?_ ?_)))<;>((conv=>whnf)<;>(simp))
   exact⟨by omega,nT ha ho⟩
 obtain rfl:=qH hlt ho
 (repeat' ((conv=>whnf);first|(exfalso;omega)|refine gA ?_|(refine gB ?_ ?_<;>intro h)|(refine gI ?_;intro x hx)|(refine gJ ?_;intro j x hj hx)|refine gP ?_|refine gV ?_|intro _))<;>try (conv=>whnf)
 exact fv
theorem Dc (b:Dom):Con 63 [.d b.av] (acU b):=by
 refine con Tryz.func63 rfl rfl Tryz.call63 rfl fun hwf=>?_
 simp only [ARs.wf,AR.wf,AV.wf,AV.wfs,lm,lim] at hwf
 (repeat' ((conv=>whnf);first|refine gA ?_|(refine gB ?_ ?_<;>intro h)|(refine gI ?_;intro x hx)|(refine gJ ?_;intro j x hj hx)|refine gP ?_|refine gV ?_|refine gC (mE _) ?_|intro _))<;>try (conv=>whnf)
 refine aB [2,3,14,15] [2] [9000,12000,25] ?_
 (conv=>whnf)
 refine aA.go ((Nat)) (fun k=>(k≤b.modes.length)) (fun k=>[(16,.data (i64 k))]) (fun k=>[(3,[.own 9000 0,.own 12000 0,.own 25 0])]) (fun k=>[(9000,3,b.lo.map i64,1),(12000,3,b.hi.map i64,1),(25,26,(b.modes.take k).map ints,1)]) (fun k=>b.modes.length - k) (0) ?_ ?_
 ·exact Nat.zero_le _
 rintro k hk
 (repeat' ((conv=>whnf);first|refine gA ?_|(refine gB ?_ ?_<;>intro h)|(refine gI ?_;intro x hx)|(refine gJ ?_;intro j x hj hx)|refine gP ?_|refine gV ?_|refine gC (mE x) ?_|intro _))<;>try (conv=>whnf)
 ·refine nw (k+1) ?_ ?_
  ·(repeat' ((conv=>whnf)<;>(first|exact trivial|exact rfl|with_reducible refine And.intro ?_ ?_)))<;>((conv=>whnf)<;>(exact kN ints hx))
  exact (by omega:k+1≤b.modes.length)
 ·(repeat' ((conv=>whnf)<;>(first|exact trivial|exact VC.nod (by kernel_rfl)|refine VC.mk rfl ?_|refine VC.mk (by dsimp only;rw [List.take_of_length_le (by omega)]) ?_)))
end Go.Proofs.YtmenphiahgkjkaaGreatDoor.Abs
namespace Go.Proofs.YtmenphiahgkjkaaGreatDoor.Abs
open Go.Proofs Go.RowKit
end Go.Proofs.YtmenphiahgkjkaaGreatDoor.Abs
