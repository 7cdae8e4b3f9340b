/- Part of a proof. -/
import Derived.Test.YthegbfgeochckaaGreatC12
import Derived.Test.YthegbfgeochckaaGreatLayC
set_option linter.all false
set_option maxRecDepth 20000
set_option maxHeartbeats 0
namespace Go.Proofs.YthegbfgeochckaaGreat.Abs
open Go.Proofs Go.RowKit
theorem iC (l:List Lit):Con 93 [.d (lits l)] (.lin 102 (l.map Lit.av)):=(zy l).Aq rfl
theorem gW (ls:List Lin) (idx:List Int) (hv:∀i∈idx,0<=i/\i < ls.length):Con 29 [.d (.sl (ls.map Lin.av)),.d (ints idx)] (.lin 130 ((aaP ls idx).map Lin.av)):=by
 refine con Tryz.func29 rfl rfl Tryz.call29 rfl fun hwf=>?_
 simp only [ARs.wf,AR.wf,AV.wf,AV.wfs,lm,lim] at hwf
 try (conv=>whnf)
 refine ay [0,10,11] [] [9] ?_
 (conv=>whnf)
 refine au.go ((Nat)) (fun k=>(k<=idx.length)) (fun k=>[(12,.data (i64 k)),(5,.own 9 0)]) lE (fun k=>[(9,130,(idx.take k).map (fun i=>(KA ls i).av),1)]) (fun k=>idx.length - k) (0) ?_ ?_
 ·exact Nat.zero_le _
 rintro k hk
 by_cases hlt:k < idx.length
 ·obtain⟨i,hi⟩:∃i,idx[k]? =some i:=⟨idx[k]'hlt,by simp⟩
  have hv':=hv i (List.mem_of_getElem? hi)
  obtain⟨x,hx⟩:∃x,ls[i.toNat]? =some x:=⟨ls[i.toNat]'(by omega),by simp⟩
  have e:=Zz hx
  (repeat' ((conv=>whnf);first|(with_reducible first|refine Idx.got hi rfl ?_|refine Idx.got hx (by omega) ?_)|refine gAX ?_|(refine gB ?_ ?_<;>intro h)|refine gC (iC x.clause) ?_|intro _))<;>try (conv=>whnf)
  ·refine nw (k+1) ?_ ?_
   ·(repeat' ((conv=>whnf)<;>(first|exact trivial|exact rfl|with_reducible refine And.intro ?_ ?_)))<;>((conv=>whnf)<;>((rw [<- OG (fun i=>(KA ls i).av) hi,e])))
   exact (by omega:k+1<=idx.length)
  ·exfalso;omega
 ·(repeat' ((conv=>whnf);first|(exfalso;omega)|(refine gB ?_ ?_<;>intro h)))<;>try (conv=>whnf)
  refine⟨?_,rfl,trivial⟩
  dsimp only
  rw [List.take_of_length_le (by omega)];simp [aaP,Function.comp_def]
open Go.Proofs Go.RowKit
theorem pF (l:List Int):Con 176 [.d (ints l)] (.lin 3 (l.map i64)):=(slices_Clone_int l).Aq rfl
theorem QY (l:List Step):Con 177 [.d (.sl (l.map Step.av))] (.lin 218 (l.map Step.av)):=(xW l).Aq rfl
theorem QZ (l:List Link):Con 175 [.d (.sl (l.map Link.av))] (.lin 173 (l.map Link.av)):=(xX l).Aq rfl
def agD (p:Proj):RV:=.agg [.d (i64 p.dead),.lin 165 (p.acts.map aB.av),.lin 173 (p.links.map Link.av),.lin 170 (p.aS.map aK.av),.lin 3 (p.aH.map i64)]
def ail (b:Dom):RV:=.agg [.lin 3 (b.lo.map i64),.lin 3 (b.hi.map i64),.lin 25 (b.modes.map ints)]
theorem vv (p:Proj):Con 91 [.d p.av] (agD p):=by
 refine con Tryz.func91 rfl rfl Tryz.call91 rfl fun hwf=>?_
 simp only [ARs.wf,AR.wf,AV.wf,AV.wfs,lm,lim] at hwf
 (repeat' ((conv=>whnf);first|refine gA ?_|refine gC (QZ p.links) ?_|refine gC (pF p.aH) ?_))<;>try (conv=>whnf)
 refine ay [1,2,3,24,25] [1,2] [61,19000,22000] ?_
 (conv=>whnf)
 refine au.go ((Nat)×(List aB)) (fun⟨k,o⟩=>(k<=p.acts.length)/\(o=p.acts.take k)) (fun⟨k,o⟩=>[(26,.data (i64 k))]) (fun⟨k,o⟩=>[(3,[.data (i64 p.dead),.own 61 0,.own 19000 0,.aj,.own 22000 0])]) (fun⟨k,o⟩=>[(61,165,o.map aB.av,1),(19000,173,p.links.map Link.av,1),(22000,3,p.aH.map i64,1)]) (fun⟨k,o⟩=>p.acts.length - k) ⟨0,[]⟩ ?_ ?_
 ·exact⟨Nat.zero_le _,rfl⟩
 rintro⟨k,o⟩ ⟨hk,ho⟩
 by_cases hlt:k < p.acts.length
 ·obtain⟨a,ha⟩:∃a,p.acts[k]? =some a:=⟨p.acts[k]'hlt,by simp⟩
  have hol:=take_len ho
  have hwa:=jD hwf.1.2.1.2 ha
  simp only [AV.wf,AV.wfs,List.length_map] at hwa
  (repeat' ((conv=>whnf);first|with_reducible refine Idx.got ha rfl ?_|(exfalso;omega)|(refine gB ?_ ?_<;>intro h)))<;>try (conv=>whnf)
  refine ay [1,2,3,6,24,25,26,36,37] [1,2,3] [54] ?_
  (conv=>whnf)
  refine au.go ((Nat)×(List Mode)) (fun⟨j,q⟩=>(j<=a.modes.length)/\(q=a.modes.take j)) (fun⟨j,q⟩=>[(38,.data (i64 j))]) (fun⟨j,q⟩=>[(6,[.data (.str a.name),.data (i64 a.fam),.own 54 0])]) (fun⟨j,q⟩=>[(54,210,q.map Mode.av,1)]) (fun⟨j,q⟩=>a.modes.length - j) ⟨0,[]⟩ ?_ ?_
  ·exact⟨Nat.zero_le _,rfl⟩
  rintro⟨j,q⟩ ⟨hj,hq⟩
  have hql:=take_len hq
  by_cases hjt:j < a.modes.length
  ·obtain⟨m,hm⟩:∃m,a.modes[j]? =some m:=⟨a.modes[j]'hjt,by simp⟩
   (repeat' ((conv=>whnf);first|with_reducible refine Idx.got hm rfl ?_|(exfalso;omega)|refine gAX ?_|(refine gB ?_ ?_<;>intro h)|refine gC (pF m.use) ?_|refine gC (pF m.con) ?_))<;>try (conv=>whnf)
   refine nwS ⟨j+1,q++[m]⟩ ?_
   exact⟨by omega,kK hm hq⟩
  ·obtain rfl:=nG hjt hq
   (repeat' ((conv=>whnf);first|(exfalso;omega)|refine gAX ?_|(refine gB ?_ ?_<;>intro h)))<;>try (conv=>whnf)
   refine nwS ⟨k+1,o++[a]⟩ ?_
   exact⟨by omega,kK ha ho⟩
 obtain rfl:=nG hlt ho
 (repeat' ((conv=>whnf);first|(exfalso;omega)|(refine gB ?_ ?_<;>intro h)))<;>try (conv=>whnf)
 refine ay [2,3,65,66] [2] [61,19000,94,22000] ?_
 (conv=>whnf)
 refine au.go ((Nat)×(List aK)) (fun⟨r,o⟩=>(r<=p.aS.length)/\(o=p.aS.take r)) (fun⟨r,o⟩=>[(67,.data (i64 r))]) (fun⟨r,o⟩=>[(3,[.data (i64 p.dead),.own 61 0,.own 19000 0,.own 94 0,.own 22000 0])]) (fun⟨r,o⟩=>[(61,165,p.acts.map aB.av,1),(19000,173,p.links.map Link.av,1),(94,170,o.map aK.av,1),(22000,3,p.aH.map i64,1)]) (fun⟨r,o⟩=>p.aS.length - r) ⟨0,[]⟩ ?_ ?_
 ·exact⟨Nat.zero_le _,rfl⟩
 rintro⟨r,o⟩ ⟨hk,ho⟩
 by_cases hlt:r < p.aS.length
 ·obtain⟨a,ha⟩:∃a,p.aS[r]? =some a:=⟨p.aS[r]'hlt,by simp⟩
  have hol:=take_len ho
  have hwa:=jD hwf.1.2.2.2.1.2 ha
  simp only [AV.wf,AV.wfs,List.length_map] at hwa
  (repeat' ((conv=>whnf);first|with_reducible refine Idx.got ha rfl ?_|(exfalso;omega)|refine gA ?_|(refine gB ?_ ?_<;>intro h)|refine gC (QY a.steps) ?_|intro _))<;>try (conv=>whnf)
  refine ay [2,3,11,65,66,67,76,77] [2,3] [74000,87] ?_
  (conv=>whnf)
  refine au.go ((Nat)×(List (List Int))) (fun⟨j,q⟩=>(j<=a.setup.length)/\(q=a.setup.take j)) (fun⟨j,q⟩=>[(78,.data (i64 j))]) (fun⟨j,q⟩=>[(11,[.own 74000 0,.own 87 0])]) (fun⟨j,q⟩=>[(74000,218,a.steps.map Step.av,1),(87,25,q.map ints,1)]) (fun⟨j,q⟩=>a.setup.length - j) ⟨0,[]⟩ ?_ ?_
  ·exact⟨Nat.zero_le _,rfl⟩
  rintro⟨j,q⟩ ⟨hj,hq⟩
  have hql:=take_len hq
  by_cases hjt:j < a.setup.length
  ·obtain⟨m,hm⟩:∃m,a.setup[j]? =some m:=⟨a.setup[j]'hjt,by simp⟩
   (repeat' ((conv=>whnf);first|with_reducible refine Idx.got hm rfl ?_|(exfalso;omega)|refine gAX ?_|(refine gB ?_ ?_<;>intro h)|refine gC (pF m) ?_))<;>try (conv=>whnf)
   refine nwS ⟨j+1,q++[m]⟩ ?_
   exact⟨by omega,kK hm hq⟩
  ·obtain rfl:=nG hjt hq
   (repeat' ((conv=>whnf);first|(exfalso;omega)|refine gAX ?_|(refine gB ?_ ?_<;>intro h)))<;>try (conv=>whnf)
   refine nwS ⟨r+1,o++[a]⟩ ?_
   exact⟨by omega,kK ha ho⟩
 obtain rfl:=nG hlt ho
 (repeat' ((conv=>whnf);first|(exfalso;omega)|(refine gB ?_ ?_<;>intro h)))
 exact fv
theorem Gu (b:Dom):Con 92 [.d b.av] (ail b):=by
 refine con Tryz.func92 rfl rfl Tryz.call92 rfl fun hwf=>?_
 simp only [ARs.wf,AR.wf,AV.wf,AV.wfs,lm,lim] at hwf
 (repeat' ((conv=>whnf);first|refine gA ?_|refine gC (pF _) ?_))<;>try (conv=>whnf)
 refine ay [2,3,14,15] [2] [9000,12000,25] ?_
 (conv=>whnf)
 refine au.go ((Nat)) (fun k=>(k<=b.modes.length)) (fun k=>[(16,.data (i64 k))]) (fun k=>[(3,[.own 9000 0,.own 12000 0,.own 25 0])]) (fun k=>[(9000,3,b.lo.map i64,1),(12000,3,b.hi.map i64,1),(25,25,(b.modes.take k).map ints,1)]) (fun k=>b.modes.length - k) (0) ?_ ?_
 ·exact Nat.zero_le _
 rintro k hk
 (repeat' ((conv=>whnf);first|refine gAX ?_|(refine gB ?_ ?_<;>intro h)|(refine gI ?_;intro x hx)|refine gC (pF x) ?_))<;>try (conv=>whnf)
 ·refine nw (k+1) ?_ ?_
  ·(repeat' ((conv=>whnf)<;>(first|exact trivial|exact rfl|with_reducible refine And.intro ?_ ?_)))<;>((conv=>whnf)<;>(exact fO ints hx))
  exact (by omega:k+1<=b.modes.length)
 ·(repeat' ((conv=>whnf)<;>(first|exact trivial|exact VC.nod (by kernel_rfl)|refine VC.mk rfl ?_|refine VC.mk (by dsimp only;rw [List.take_of_length_le (by omega)]) ?_)))
end Go.Proofs.YthegbfgeochckaaGreat.Abs
