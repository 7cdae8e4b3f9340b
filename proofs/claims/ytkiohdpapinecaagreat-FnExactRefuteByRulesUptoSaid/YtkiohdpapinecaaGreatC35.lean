/- Contracts: lines picked as separate data; proofs that are trimmed. No statement of a claim. -/
import Derived.Test.YtkiohdpapinecaaGreatC12
import Derived.Test.YtkiohdpapinecaaGreatLayC
set_option linter.all false
set_option linter.unusedVariables false
set_option linter.unusedSimpArgs false
set_option maxRecDepth 20000
set_option maxHeartbeats 4000000
namespace Go.Proofs.YtkiohdpapinecaaGreat.Abs
open Go.Proofs Go.RowKit
theorem cloneLit_lin (l:List Lit):Con 258 [.d (lits l)] (.lin 184 (l.map Lit.av)):=(slices_Clone_lit l).own_lin rfl
theorem impl_linesAt_lin (ls:List Lin) (idx:List Int) (hv:∀i∈idx,0≤i∧i < ls.length):Con 266 [.d (.sl (ls.map Lin.av)),.d (ints idx)] (.lin 128 ((pickL ls idx).map Lin.av)):=by
 refine con Tryz.func266 rfl rfl Tryz.call266 rfl fun hwf=>?_
 simp only [ARs.wf,AR.wf,AV.wf,AV.wfs,List.length_map,lim] at hwf
 (repeat' ((conv=>whnf);first | refine gA ?_ | ((with_reducible first | refine gD (fun h=>?_) (fun h=>?_) | refine gE (fun h=>?_) (fun h=>?_)) <;> (try simp only [lm] at h) <;> try have hw:=wn h) | with_reducible refine gI (fun x hx=>?_) | with_reducible refine gJ (fun j x hj hx=>?_) | refine gP ?_ | refine gV ?_ | intro _)) <;> (try (conv=>whnf))
 refine loopF [0,10,11] [] [9] ?_
 (conv=>whnf)
 refine LoopC.go ((Nat)) (fun k=>(k≤idx.length)) (fun k=>[(12,.data (i64 k)),(5,.own 9 0)]) (fun _=>[]) (fun k=>[(9,128,(idx.take k).map (fun i=>(lineAt ls i).av),1)]) (fun k=>idx.length - k) (0) ?_ ?_
 ·exact Nat.zero_le _
 rintro k hk
 by_cases hlt:k < idx.length
 ·obtain⟨i,hi⟩:∃i,idx[k]? =some i:=⟨idx[k]'hlt,by simp⟩
  have hv':=hv i (List.mem_of_getElem? hi)
  obtain⟨x,hx⟩:∃x,ls[i.toNat]? =some x:=⟨ls[i.toNat]'(by omega),by simp⟩
  have e:=lineAt_get hx
  (repeat' ((conv=>whnf);first | with_reducible refine Idx.got hi rfl ?_ | with_reducible refine Idx.got hx (by omega) ?_ | refine gA ?_ | ((with_reducible first | refine gD (fun h=>?_) (fun h=>?_) | refine gE (fun h=>?_) (fun h=>?_)) <;> (try simp only [lm] at h) <;> try have hw:=wn h) | with_reducible refine gI (fun x hx=>?_) | with_reducible refine gJ (fun j x hj hx=>?_) | refine gP ?_ | refine gV ?_ | refine gC (cloneLit_lin x.clause) ?_ | intro _)) <;> (try (conv=>whnf))
  ·refine nw (k+1) ?_ ?_
   ·(repeat' ((conv=>whnf) <;> (first | exact trivial | exact rfl | with_reducible refine And.intro ?_ ?_))) <;> ((conv=>whnf) <;> ((rw [← map_take_succ2 (fun i=>(lineAt ls i).av) hi,e])))
   exact (by omega:k+1≤idx.length)
  ·exfalso;omega
 ·(repeat' ((conv=>whnf);first | (exfalso;omega) | refine gA ?_ | ((with_reducible first | refine gD (fun h=>?_) (fun h=>?_) | refine gE (fun h=>?_) (fun h=>?_)) <;> (try simp only [lm] at h) <;> try have hw:=wn h) | with_reducible refine gI (fun x hx=>?_) | with_reducible refine gJ (fun j x hj hx=>?_) | refine gP ?_ | refine gV ?_ | intro _)) <;> (try (conv=>whnf))
  refine⟨?_,rfl,trivial⟩
  dsimp only
  rw [List.take_of_length_le (by omega)];simp [pickL,Function.comp_def]
def trimmed (p:Proj) (ls:List Lin):List Lin:=pickL ls (needed p ls)
end Go.Proofs.YtkiohdpapinecaaGreat.Abs
set_option linter.unusedVariables false
set_option linter.unusedSimpArgs false
set_option maxRecDepth 20000
set_option maxHeartbeats 4000000
namespace Go.Proofs.YtkiohdpapinecaaGreat.Abs
open Go.Proofs Go.RowKit
theorem cloneInt_lin (l:List Int):Con 153 [.d (ints l)] (.lin 3 (l.map i64)):=(slices_Clone_int l).own_lin rfl
theorem cloneStep_lin (l:List Step):Con 228 [.d (.sl (l.map Step.av))] (.lin 226 (l.map Step.av)):=(slices_Clone_step l).own_lin rfl
theorem cloneLink_lin (l:List Link):Con 227 [.d (.sl (l.map Link.av))] (.lin 150 (l.map Link.av)):=(slices_Clone_link l).own_lin rfl
def RProjL (p:Proj):RV:=.agg [.d (i64 p.dead),.lin 142 (p.acts.map Activ.av),.lin 150 (p.links.map Link.av),.lin 147 (p.ress.map Resrc.av),.lin 3 (p.stocks.map i64)]
def RDomL (b:Dom):RV:=.agg [.lin 3 (b.lo.map i64),.lin 3 (b.hi.map i64),.lin 25 (b.modes.map ints)]
theorem impl_copiedProj_lin (p:Proj):Con 149 [.d p.av] (RProjL p):=by
 refine con Tryz.func149 rfl rfl Tryz.call149 rfl fun hwf=>?_
 simp only [ARs.wf,AR.wf,AV.wf,AV.wfs,List.length_map,lim] at hwf
 (repeat' ((conv=>whnf);first | refine gA ?_ | ((with_reducible first | refine gD (fun h=>?_) (fun h=>?_) | refine gE (fun h=>?_) (fun h=>?_)) <;> (try simp only [lm] at h) <;> try have hw:=wn h) | with_reducible refine gI (fun x hx=>?_) | with_reducible refine gJ (fun j x hj hx=>?_) | refine gP ?_ | refine gV ?_ | refine gC (cloneLink_lin p.links) ?_ | refine gC (cloneInt_lin p.stocks) ?_ | intro _)) <;> (try (conv=>whnf))
 refine loopF [1,2,3,24,25] [1,2] [61,19000,22000] ?_
 (conv=>whnf)
 refine LoopC.go ((Nat)×(List Activ)) (fun⟨k,o⟩=>(k≤p.acts.length)∧(o=p.acts.take k)) (fun⟨k,o⟩=>[(26,.data (i64 k))]) (fun⟨k,o⟩=>[(3,[.data (i64 p.dead),.own 61 0,.own 19000 0,.nilsl,.own 22000 0])]) (fun⟨k,o⟩=>[(61,142,o.map Activ.av,1),(19000,150,p.links.map Link.av,1),(22000,3,p.stocks.map i64,1)]) (fun⟨k,o⟩=>p.acts.length - k) ⟨0,[]⟩ ?_ ?_
 ·exact⟨Nat.zero_le _,rfl⟩
 rintro⟨k,o⟩ ⟨hk,ho⟩
 by_cases hlt:k < p.acts.length
 ·obtain⟨a,ha⟩:∃a,p.acts[k]? =some a:=⟨p.acts[k]'hlt,by simp⟩
  have hol:=take_len ho
  have hwa:=wfs_get hwf.1.2.1.2 ha
  simp only [AV.wf,AV.wfs,List.length_map] at hwa
  (repeat' ((conv=>whnf);first | with_reducible refine Idx.got ha rfl ?_ | (exfalso;omega) | refine gA ?_ | ((with_reducible first | refine gD (fun h=>?_) (fun h=>?_) | refine gE (fun h=>?_) (fun h=>?_)) <;> (try simp only [lm] at h) <;> try have hw:=wn h) | with_reducible refine gI (fun x hx=>?_) | with_reducible refine gJ (fun j x hj hx=>?_) | refine gP ?_ | refine gV ?_ | intro _)) <;> (try (conv=>whnf))
  refine loopF [1,2,3,6,24,25,26,36,37] [1,2,3] [54] ?_
  (conv=>whnf)
  refine LoopC.go ((Nat)×(List Mode)) (fun⟨j,q⟩=>(j≤a.modes.length)∧(q=a.modes.take j)) (fun⟨j,q⟩=>[(38,.data (i64 j))]) (fun⟨j,q⟩=>[(6,[.data (.str a.name),.data (i64 a.fam),.own 54 0])]) (fun⟨j,q⟩=>[(54,154,q.map Mode.av,1)]) (fun⟨j,q⟩=>a.modes.length - j) ⟨0,[]⟩ ?_ ?_
  ·exact⟨Nat.zero_le _,rfl⟩
  rintro⟨j,q⟩ ⟨hj,hq⟩
  have hql:=take_len hq
  by_cases hjt:j < a.modes.length
  ·obtain⟨m,hm⟩:∃m,a.modes[j]? =some m:=⟨a.modes[j]'hjt,by simp⟩
   (repeat' ((conv=>whnf);first | with_reducible refine Idx.got hm rfl ?_ | (exfalso;omega) | refine gA ?_ | ((with_reducible first | refine gD (fun h=>?_) (fun h=>?_) | refine gE (fun h=>?_) (fun h=>?_)) <;> (try simp only [lm] at h) <;> try have hw:=wn h) | with_reducible refine gI (fun x hx=>?_) | with_reducible refine gJ (fun j x hj hx=>?_) | refine gP ?_ | refine gV ?_ | refine gC (cloneInt_lin m.use) ?_ | refine gC (cloneInt_lin m.con) ?_ | intro _)) <;> (try (conv=>whnf))
   refine nw ⟨j+1,q++[m]⟩ ?_ ?_
   ·(repeat' ((conv=>whnf) <;> (first | exact trivial | exact rfl | with_reducible refine And.intro ?_ ?_))) <;> ((conv=>whnf) <;> (simp))
   exact⟨by omega,take_snoc hm hq⟩
  ·obtain rfl:=take_all hjt hq
   (repeat' ((conv=>whnf);first | (exfalso;omega) | refine gA ?_ | ((with_reducible first | refine gD (fun h=>?_) (fun h=>?_) | refine gE (fun h=>?_) (fun h=>?_)) <;> (try simp only [lm] at h) <;> try have hw:=wn h) | with_reducible refine gI (fun x hx=>?_) | with_reducible refine gJ (fun j x hj hx=>?_) | refine gP ?_ | refine gV ?_ | intro _)) <;> (try (conv=>whnf))
   refine nw ⟨k+1,o++[a]⟩ ?_ ?_
   ·(repeat' ((conv=>whnf) <;> (first | exact trivial | exact rfl | with_reducible refine And.intro ?_ ?_))) <;> ((conv=>whnf) <;> (simp))
   exact⟨by omega,take_snoc ha ho⟩
 obtain rfl:=take_all hlt ho
 (repeat' ((conv=>whnf);first | (exfalso;omega) | refine gA ?_ | ((with_reducible first | refine gD (fun h=>?_) (fun h=>?_) | refine gE (fun h=>?_) (fun h=>?_)) <;> (try simp only [lm] at h) <;> try have hw:=wn h) | with_reducible refine gI (fun x hx=>?_) | with_reducible refine gJ (fun j x hj hx=>?_) | refine gP ?_ | refine gV ?_ | intro _)) <;> (try (conv=>whnf))
 refine loopF [2,3,65,66] [2] [61,19000,94,22000] ?_
 (conv=>whnf)
 refine LoopC.go ((Nat)×(List Resrc)) (fun⟨r,o⟩=>(r≤p.ress.length)∧(o=p.ress.take r)) (fun⟨r,o⟩=>[(67,.data (i64 r))]) (fun⟨r,o⟩=>[(3,[.data (i64 p.dead),.own 61 0,.own 19000 0,.own 94 0,.own 22000 0])]) (fun⟨r,o⟩=>[(61,142,p.acts.map Activ.av,1),(19000,150,p.links.map Link.av,1),(94,147,o.map Resrc.av,1),(22000,3,p.stocks.map i64,1)]) (fun⟨r,o⟩=>p.ress.length - r) ⟨0,[]⟩ ?_ ?_
 ·exact⟨Nat.zero_le _,rfl⟩
 rintro⟨r,o⟩ ⟨hk,ho⟩
 by_cases hlt:r < p.ress.length
 ·obtain⟨a,ha⟩:∃a,p.ress[r]? =some a:=⟨p.ress[r]'hlt,by simp⟩
  have hol:=take_len ho
  have hwa:=wfs_get hwf.1.2.2.2.1.2 ha
  simp only [AV.wf,AV.wfs,List.length_map] at hwa
  (repeat' ((conv=>whnf);first | with_reducible refine Idx.got ha rfl ?_ | (exfalso;omega) | refine gA ?_ | ((with_reducible first | refine gD (fun h=>?_) (fun h=>?_) | refine gE (fun h=>?_) (fun h=>?_)) <;> (try simp only [lm] at h) <;> try have hw:=wn h) | with_reducible refine gI (fun x hx=>?_) | with_reducible refine gJ (fun j x hj hx=>?_) | refine gP ?_ | refine gV ?_ | refine gC (cloneStep_lin a.steps) ?_ | intro _)) <;> (try (conv=>whnf))
  refine loopF [2,3,11,65,66,67,76,77] [2,3] [74000,87] ?_
  (conv=>whnf)
  refine LoopC.go ((Nat)×(List (List Int))) (fun⟨j,q⟩=>(j≤a.setup.length)∧(q=a.setup.take j)) (fun⟨j,q⟩=>[(78,.data (i64 j))]) (fun⟨j,q⟩=>[(11,[.own 74000 0,.own 87 0])]) (fun⟨j,q⟩=>[(74000,226,a.steps.map Step.av,1),(87,25,q.map ints,1)]) (fun⟨j,q⟩=>a.setup.length - j) ⟨0,[]⟩ ?_ ?_
  ·exact⟨Nat.zero_le _,rfl⟩
  rintro⟨j,q⟩ ⟨hj,hq⟩
  have hql:=take_len hq
  by_cases hjt:j < a.setup.length
  ·obtain⟨m,hm⟩:∃m,a.setup[j]? =some m:=⟨a.setup[j]'hjt,by simp⟩
   (repeat' ((conv=>whnf);first | with_reducible refine Idx.got hm rfl ?_ | (exfalso;omega) | refine gA ?_ | ((with_reducible first | refine gD (fun h=>?_) (fun h=>?_) | refine gE (fun h=>?_) (fun h=>?_)) <;> (try simp only [lm] at h) <;> try have hw:=wn h) | with_reducible refine gI (fun x hx=>?_) | with_reducible refine gJ (fun j x hj hx=>?_) | refine gP ?_ | refine gV ?_ | refine gC (cloneInt_lin m) ?_ | intro _)) <;> (try (conv=>whnf))
   refine nw ⟨j+1,q++[m]⟩ ?_ ?_
   ·(repeat' ((conv=>whnf) <;> (first | exact trivial | exact rfl | with_reducible refine And.intro ?_ ?_))) <;> ((conv=>whnf) <;> (simp))
   exact⟨by omega,take_snoc hm hq⟩
  ·obtain rfl:=take_all hjt hq
   (repeat' ((conv=>whnf);first | (exfalso;omega) | refine gA ?_ | ((with_reducible first | refine gD (fun h=>?_) (fun h=>?_) | refine gE (fun h=>?_) (fun h=>?_)) <;> (try simp only [lm] at h) <;> try have hw:=wn h) | with_reducible refine gI (fun x hx=>?_) | with_reducible refine gJ (fun j x hj hx=>?_) | refine gP ?_ | refine gV ?_ | intro _)) <;> (try (conv=>whnf))
   refine nw ⟨r+1,o++[a]⟩ ?_ ?_
   ·(repeat' ((conv=>whnf) <;> (first | exact trivial | exact rfl | with_reducible refine And.intro ?_ ?_))) <;> ((conv=>whnf) <;> (simp))
   exact⟨by omega,take_snoc ha ho⟩
 obtain rfl:=take_all hlt ho
 (repeat' ((conv=>whnf);first | (exfalso;omega) | refine gA ?_ | ((with_reducible first | refine gD (fun h=>?_) (fun h=>?_) | refine gE (fun h=>?_) (fun h=>?_)) <;> (try simp only [lm] at h) <;> try have hw:=wn h) | with_reducible refine gI (fun x hx=>?_) | with_reducible refine gJ (fun j x hj hx=>?_) | refine gP ?_ | refine gV ?_ | intro _)) <;> (try (conv=>whnf))
 (repeat' ((conv=>whnf) <;> (first | exact trivial | exact VC.nod (by kernel_rfl) | refine VC.mk rfl ?_)))
end Go.Proofs.YtkiohdpapinecaaGreat.Abs
