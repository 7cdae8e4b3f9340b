/- ExplainLiteral's clause as separate data. -/
import Derived.Test.YtjfnojijdggfhaaGreatC30
set_option linter.all false
set_option maxRecDepth 100000
set_option maxHeartbeats 4000000
namespace Go.Proofs.YtjfnojijdggfhaaGreat.Abs
open Go.Proofs Go.RowKit
def aaG (r:List Lit×Bool):RV:=.tup [.lin 42 (r.1.map Lit.av),.d (.bool r.2)]
theorem uf (p:Proj) (b:Dom) (r:Rul) (l:Lit) (hp:p.fine):Con 22 [.d p.av,.d b.av,.d r.av,.d l.av] (aaG (dw p b r l)):=by
 refine con Tryz.func22 rfl rfl Tryz.call22 rfl fun hwf=>?_
 have hnl:=Qu p b
 have hN:=qH (mY p b++[l])
 rw [lits,List.map_append] at hN
 (repeat' ((conv=>whnf);first|refine gA ?_|(refine gB ?_ ?_<;>intro h)|refine gP ?_|refine gC (qA p l hp) ?_|refine gC (rC l) ?_|refine gC (iQ b (negate l)) ?_|refine gC (fJ p (restrict b (negate l)) r hp) ?_|refine gC (qI p b hp) ?_|refine gC (hN) ?_|refine gC (qF p r (dB (mY p b++[l])) 75 [l.av] _ hp (fun x=>oq x l)) ?_|intro _))<;>try (conv=>whnf)
 ·rw [dw,if_pos ⟨by assumption,by assumption⟩]
  exact fv
 ·rw [dw,if_neg (by simp [*])]
  exact fv
 ·rw [dw,if_neg (by simp [*])]
  exact fv
open Go.Proofs Go.RowKit
def Wd (p:Proj) (b:Dom) (r:Rul) (a:Int):List Infer:=(iR p b r a.toNat).map fun l=>⟨l,r,(dw p b r l).1⟩
def infers (p:Proj) (b:Dom) (r:Rul):List Infer:=if usable p b=true∧fT p r=true∧refutes p b r=false then (dH p r).flatMap (Wd p b r) else []
end Go.Proofs.YtjfnojijdggfhaaGreat.Abs
