/- Part of a proof. -/
import Derived.Test.YthegbfgeochckaaGreatC15
import Derived.Test.YthegbfgeochckaaGreatLh
set_option linter.all false
set_option maxRecDepth 20000
set_option maxHeartbeats 0
namespace Go.Proofs.YthegbfgeochckaaGreat.Abs
open Go.Proofs
def JN (x:Lg) (n:Int):Int:=szB (kM x.proj n) fun n=>szB (oL x.dom n) fun n=>szB (szN x.decs.length n) fun n=>szB (szS (fun x n=>tJ x n) x.lines n) fun n=>n
theorem Qy (x:Lg) (n:Int) (hn:Sz n) (hf:x.proj.fine):Con 4 [.d x.av,.d (i64 n)] (.d (i64 (JN x n))):=by
 refine con Tryz.func4 rfl rfl Tryz.call4 rfl fun hwf=>?_
 have h0:Sz (kM x.proj n):=Vz hn
 have h1:Sz (oL x.dom (kM x.proj n)):=Yu h0
 have h2:Sz (szN x.decs.length (oL x.dom (kM x.proj n))):=jC h1
 (repeat' ((conv=>whnf);first|refine gA ?_|(refine gB ?_ ?_<;>intro h)|refine gC (Qs x.proj n hn hf) ?_|refine gC (Rw x.dom _ h0) ?_|refine gC (BF x.decs _ h1) ?_|refine gC (VA x.lines _ h2) ?_|intro _))
 all_goals refine⟨?_,rfl,trivial⟩
 all_goals (unfold JN;simp only [szB, *,if_true,if_false,ite_true,ite_false])
theorem GY (x:Lg):Con 6 [.d x.av] (.d x.av):=by
 refine con Tryz.func6 rfl rfl Tryz.call6 rfl fun hwf=>?_
 (repeat' ((conv=>whnf);first|refine gA ?_|refine gC (Qu x.proj) ?_|refine gC (RB x.dom) ?_|refine gC (BG x.decs) ?_|refine gC (VK x.lines) ?_|intro _))
 exact⟨rfl,rfl,trivial⟩
theorem Qz (x:Lg):Con 9 [.d x.av,.d x.av] (.d (.bool true)):=by
 refine con Tryz.func9 rfl rfl Tryz.call9 rfl fun hwf=>?_
 (repeat' ((conv=>whnf);first|refine gA ?_|refine gC (Qw x.proj) ?_|refine gC (RD x.dom) ?_|refine gC (BH x.decs) ?_|refine gC (VP x.lines) ?_|intro _))
 all_goals exact⟨rfl,rfl,trivial⟩
end Go.Proofs.YthegbfgeochckaaGreat.Abs
