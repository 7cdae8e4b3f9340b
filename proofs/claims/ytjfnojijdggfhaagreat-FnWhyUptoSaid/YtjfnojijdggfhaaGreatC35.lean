/- Contracts: lines picked as separate data; proofs that are trimmed. -/
import Derived.Test.YtjfnojijdggfhaaGreatC12
import Derived.Test.YtjfnojijdggfhaaGreatLayC
set_option linter.all false
set_option maxRecDepth 20000
set_option maxHeartbeats 0
namespace Go.Proofs.YtjfnojijdggfhaaGreat.Abs
open Go.Proofs Go.RowKit
open Go.Proofs Go.RowKit
theorem CP (l:List Int):Con 122 [.d (ints l)] (.lin 3 (l.map i64)):=(slices_Clone_int l).GI rfl
def VN (b:Dom):RV:=.agg [.lin 3 (b.lo.map i64),.lin 3 (b.hi.map i64),.lin 26 (b.modes.map ints)]
theorem jG (b:Dom):Con 80 [.d b.av] (VN b):=by
 refine con Tryz.func80 rfl rfl Tryz.call80 rfl fun hwf=>?_
 simp only [ARs.wf,AR.wf,AV.wf,AV.wfs,lm,lim] at hwf
 (repeat' ((conv=>whnf);first|refine gA ?_|(refine gB ?_ ?_<;>intro h)|(refine gI ?_;intro x hx)|(refine gJ ?_;intro j x hj hx)|refine gP ?_|refine gV ?_|refine gC (CP _) ?_|intro _))<;>try (conv=>whnf)
 refine aB [2,3,14,15] [2] [9000,12000,25] ?_
 (conv=>whnf)
 refine aA.go ((Nat)) (fun k=>(k≤b.modes.length)) (fun k=>[(16,.data (i64 k))]) (fun k=>[(3,[.own 9000 0,.own 12000 0,.own 25 0])]) (fun k=>[(9000,3,b.lo.map i64,1),(12000,3,b.hi.map i64,1),(25,26,(b.modes.take k).map ints,1)]) (fun k=>b.modes.length - k) (0) ?_ ?_
 ·exact Nat.zero_le _
 rintro k hk
 (repeat' ((conv=>whnf);first|refine gA ?_|(refine gB ?_ ?_<;>intro h)|(refine gI ?_;intro x hx)|(refine gJ ?_;intro j x hj hx)|refine gP ?_|refine gV ?_|refine gC (CP x) ?_|intro _))<;>try (conv=>whnf)
 ·refine nw (k+1) ?_ ?_
  ·(repeat' ((conv=>whnf)<;>(first|exact trivial|exact rfl|with_reducible refine And.intro ?_ ?_)))<;>((conv=>whnf)<;>(exact iP ints hx))
  exact (by omega:k+1≤b.modes.length)
 ·(repeat' ((conv=>whnf)<;>(first|exact trivial|exact VC.nod (by kernel_rfl)|refine VC.mk rfl ?_|refine VC.mk (by dsimp only;rw [List.take_of_length_le (by omega)]) ?_)))
end Go.Proofs.YtjfnojijdggfhaaGreat.Abs
