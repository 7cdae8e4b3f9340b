/- ExplainLiteral's clause as separate data. -/
import Derived.Test.YtjfnojijdggfhaaGreatC30
set_option linter.all false
set_option maxRecDepth 100000
set_option maxHeartbeats 4000000
namespace Go.Proofs.YtjfnojijdggfhaaGreat.Abs
open Go.Proofs Go.RowKit
def YT (r:List Lit×Bool):RV:=.tup [.lin 42 (r.1.map Lit.av),.d (.bool r.2)]
theorem sG (p:Proj) (b:Dom) (r:Rul) (l:Lit) (hp:p.fine):Con 22 [.d p.av,.d b.av,.d r.av,.d l.av] (YT (aU p b r l)):=by
 refine con Tryz.func22 rfl rfl Tryz.call22 rfl fun hwf=>?_
 have hnl:=OC p b
 have hN:=vS (qb p b++[l])
 rw [lits,List.map_append] at hN
 (repeat' ((conv=>whnf);first|refine gA ?_|(refine gB ?_ ?_<;>intro h)|refine gP ?_|refine gC (pQ p l hp) ?_|refine gC (qH l) ?_|refine gC (jv b (negate l)) ?_|refine gC (fP p (restrict b (negate l)) r hp) ?_|refine gC (vT p b hp) ?_|refine gC (hN) ?_|refine gC (pY p r (dW (qb p b++[l])) 75 [l.av] _ hp (fun x=>nK x l)) ?_|intro _))<;>try (conv=>whnf)
 ·rw [aU,if_pos ⟨by assumption,by assumption⟩]
  exact fv
 ·rw [aU,if_neg (by simp [*])]
  exact fv
 ·rw [aU,if_neg (by simp [*])]
  exact fv
open Go.Proofs Go.RowKit
def nQ (p:Proj) (b:Dom) (r:Rul) (a:Int):List Infer:=(mE p b r a.toNat).map fun l=>⟨l,r,(aU p b r l).1⟩
def infers (p:Proj) (b:Dom) (r:Rul):List Infer:=if usable p b=true∧kJ p r=true∧refutes p b r=false then (cZ p r).flatMap (nQ p b r) else []
theorem Qs (p:Proj) (b:Dom) (r:Rul) (hp:p.fine):Con 21 [.d p.av,.d b.av,.d r.av] (.lin 62 ((infers p b r).map Infer.av)):=by
 refine con Tryz.func21 rfl rfl Tryz.call21 rfl fun hwf=>?_
 by_cases h:usable p b=true∧kJ p r=true∧refutes p b r=false
 rotate_left
 ·rw [infers,if_neg h]
  have hno:=h
  (repeat' ((conv=>whnf);first|refine gA ?_|(refine gB ?_ ?_<;>intro h)|(refine gI ?_;intro x hx)|(refine gJ ?_;intro j x hj hx)|refine gP ?_|refine gV ?_|refine gC (eZ p b hp) ?_|refine gC (bT p r hp) ?_|refine gC (fP p b r hp) ?_|intro _))<;>try (conv=>whnf)
  all_goals first
   |exact⟨rfl,rfl,trivial⟩
   |exact absurd ⟨by assumption,by assumption,by assumption⟩ hno
 obtain⟨hu,hro,hre⟩:=h
 rw [infers,if_pos ⟨hu,hro,hre⟩]
 have hf:=Mf hu
 have hal:=Ba p r
 (repeat' ((conv=>whnf);first|refine gA ?_|(refine gB ?_ ?_<;>intro h)|(refine gI ?_;intro x hx)|(refine gJ ?_;intro j x hj hx)|refine gP ?_|refine gV ?_|refine gC (eZ p b hp) ?_|refine gC (bT p r hp) ?_|refine gC (fP p b r hp) ?_|refine gC (oo p r hp) ?_|intro _))<;>try (conv=>whnf)
 refine aC [3,4,5,33,34] [3,4,5] [30] ?_
 (conv=>whnf)
 refine aB.go ((Nat)×(List Infer)) (fun⟨k,o⟩=>(k≤(cZ p r).length)∧(o.length≤5*k)∧(o++((cZ p r).drop k).flatMap (nQ p b r)=(cZ p r).flatMap (nQ p b r))) (fun⟨k,o⟩=>[(35,.data (i64 k)),(7,.own 30 0)]) (fun _=>[]) (fun⟨k,o⟩=>[(30,62,o.map Infer.av,1)]) (fun⟨k,o⟩=>(cZ p r).length - k) ⟨0,[]⟩ ?_ ?_
 ·exact⟨Nat.zero_le _,by simp,rfl⟩
 rintro⟨k,o⟩ ⟨hk,ho,hi⟩
 by_cases hlt:k < (cZ p r).length
 rotate_left
 ·(repeat' ((conv=>whnf);first|(exfalso;omega)|refine gA ?_|(refine gB ?_ ?_<;>intro h)|(refine gI ?_;intro x hx)|(refine gJ ?_;intro j x hj hx)|refine gP ?_|refine gV ?_|intro _))<;>try (conv=>whnf)
  rw [aM (by assumption)] at hi
  refine⟨?_,rfl,trivial⟩
  rw [← hi];simp
 obtain⟨a,ha⟩:∃a,(cZ p r)[k]? =some a:=⟨(cZ p r)[k]'hlt,by simp⟩
 obtain⟨n,rfl,hna⟩:=tZ (List.mem_of_getElem? ha)
 have hil:=HV p b r n hf hna
 rw [au ha,List.flatMap_cons,nQ,Int.toNat_natCast] at hi
 (repeat' ((conv=>whnf);first|with_reducible refine Idx.got ha rfl ?_|refine gA ?_|(refine gB ?_ ?_<;>intro h)|(refine gI ?_;intro x hx)|(refine gJ ?_;intro j x hj hx)|refine gP ?_|refine gV ?_|refine gC (Jd p b r n hp hf hna) ?_|intro _))<;>try (conv=>whnf)
 rotate_left
 ·exfalso;omega
 refine aC [3,4,5,33,34,35,43,44] [3,4,5] [30] ?_
 (conv=>whnf)
 refine aB.go ((Nat)×(List Infer)) (fun⟨j,o'⟩=>(j≤(mE p b r n).length)∧(o'.length≤o.length+j)∧(o'++((mE p b r n).drop j).map (fun l=>(⟨l,r,(aU p b r l).1⟩:Infer))++((cZ p r).drop (k+1)).flatMap (nQ p b r)=(cZ p r).flatMap (nQ p b r))) (fun⟨j,o'⟩=>[(45,.data (i64 j)),(7,.own 30 0)]) (fun _=>[]) (fun⟨j,o'⟩=>[(30,62,o'.map Infer.av,1)]) (fun⟨j,o'⟩=>(mE p b r n).length - j) ⟨0,o⟩ ?_ ?_
 ·exact⟨Nat.zero_le _,by omega,by rw [List.drop_zero,List.append_assoc];exact hi⟩
 rintro⟨j,o'⟩ ⟨hj,ho',hi'⟩
 by_cases hjl:j < (mE p b r n).length
 rotate_left
 ·rw [aM (by omega),List.map_nil,List.append_nil] at hi'
  (repeat' ((conv=>whnf);first|(exfalso;omega)|refine gA ?_|(refine gB ?_ ?_<;>intro h)|(refine gI ?_;intro x hx)|(refine gJ ?_;intro j x hj hx)|refine gP ?_|refine gV ?_|intro _))<;>try (conv=>whnf)
  refine nx ⟨k+1,o'⟩ ?_
  exact⟨by omega,by omega,hi'⟩
 obtain⟨l,hx⟩:∃l,(mE p b r n)[j]? =some l:=⟨(mE p b r n)[j]'hjl,by simp⟩
 rw [au hx,List.map_cons] at hi'
 (repeat' ((conv=>whnf);first|with_reducible refine Idx.got hx rfl ?_|refine gA ?_|(refine gB ?_ ?_<;>intro h)|(refine gI ?_;intro x hx)|(refine gJ ?_;intro j x hj hx)|refine gP ?_|refine gV ?_|refine gC (sG p b r l hp) ?_|intro _))<;>try (conv=>whnf)
 ·refine nw ⟨j+1,o'++[⟨l,r,(aU p b r l).1⟩]⟩ ?_ ?_
  ·(repeat' ((conv=>whnf)<;>(first|exact trivial|exact rfl|with_reducible refine And.intro ?_ ?_)))<;>((conv=>whnf)<;>(simp))
  exact⟨by omega,by simp;omega,by simpa using hi'⟩
 ·exfalso;omega
end Go.Proofs.YtjfnojijdggfhaaGreat.Abs
