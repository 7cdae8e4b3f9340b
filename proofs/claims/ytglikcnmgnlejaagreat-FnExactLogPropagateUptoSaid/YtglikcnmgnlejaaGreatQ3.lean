/- The laws' own functions: valid logs. -/
import Derived.Test.YtglikcnmgnlejaaGreatC15
import Derived.Test.YtglikcnmgnlejaaGreatLh
set_option linter.all false
set_option maxRecDepth 20000
set_option maxHeartbeats 0
namespace Go.Proofs.YtglikcnmgnlejaaGreat.Abs
open Go.Proofs
def FK (x:Lg) (n:Int):Int:=szB (jC x.proj n) fun n=>szB (mG x.dom n) fun n=>szB (szN x.decs.length n) fun n=>szB (szS (fun x n=>qH x n) x.lines n) fun n=>n
theorem MO (x:Lg) (n:Int) (hn:Sz n) (hf:x.proj.fine):Con 23 [.d x.av,.d (i64 n)] (.d (i64 (FK x n))):=by
 refine con Tryz.func23 rfl rfl Tryz.call23 rfl fun hwf=>?_
 have h0:Sz (jC x.proj n):=Ry hn
 have h1:Sz (mG x.dom (jC x.proj n)):=UD h0
 have h2:Sz (szN x.decs.length (mG x.dom (jC x.proj n))):=iP h1
 (repeat' ((conv=>whnf);first|refine gA ?_|(refine gB ?_ ?_<;>intro h)|refine gC (MC x.proj n hn hf) ?_|refine gC (NM x.dom _ h0) ?_|refine gC (yX x.decs _ h1) ?_|refine gC (Rz x.lines _ h2) ?_|intro _))<;>try (conv=>whnf)
 all_goals refine⟨?_,rfl,trivial⟩
 all_goals (unfold FK;simp only [szB, *,if_true,if_false,ite_true,ite_false])
theorem Dw (x:Lg):Con 25 [.d x.av] (.d x.av):=by
 refine con Tryz.func25 rfl rfl Tryz.call25 rfl fun hwf=>?_
 (repeat' ((conv=>whnf);first|refine gA ?_|(refine gB ?_ ?_<;>intro h)|refine gC (Mv x.proj) ?_|refine gC (NJ x.dom) ?_|refine gC (yU x.decs) ?_|refine gC (Rp x.lines) ?_|intro _))<;>try (conv=>whnf)
 exact⟨rfl,rfl,trivial⟩
theorem yI (x:Lg):Con 27 [.d x.av,.d x.av] (.d (.bool true)):=by
 refine con Tryz.func27 rfl rfl Tryz.call27 rfl fun hwf=>?_
 (repeat' ((conv=>whnf);first|refine gA ?_|(refine gB ?_ ?_<;>intro h)|refine gC (Mx x.proj) ?_|refine gC (NK x.dom) ?_|refine gC (yV x.decs) ?_|refine gC (Ru x.lines) ?_|intro _))<;>try (conv=>whnf)
 all_goals exact⟨rfl,rfl,trivial⟩
end Go.Proofs.YtglikcnmgnlejaaGreat.Abs
