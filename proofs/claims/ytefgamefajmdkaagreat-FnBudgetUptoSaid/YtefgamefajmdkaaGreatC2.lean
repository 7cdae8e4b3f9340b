/- Contracts: projects. -/
import Derived.Test.YtefgamefajmdkaaGreatC1
set_option linter.all false
set_option maxRecDepth 20000
set_option maxHeartbeats 0
namespace Go.Proofs.YtefgamefajmdkaaGreat.Abs
open Go.Proofs
theorem Ee (r:bI):Con 74 [.d r.av] (.d (.bool (nT r))):=by
 refine con Tryz.func74 rfl rfl Tryz.call74 rfl fun hwf=>?_
 simp only [ARs.wf,AR.wf,AV.wf,AV.wfs,lm,lim] at hwf
 (conv=>whnf)
 refine aA [1,8,9] [1] [] ?_
 (conv=>whnf)
 refine ay.go ((Nat)) (fun k=>(k≤r.setup.length)∧((r.setup.drop k).all rowOk=r.setup.all rowOk)) (fun k=>[(10,.data (i64 k))]) (fun _=>[]) (fun _=>[]) (fun k=>r.setup.length - k) (0) ?_ ?_
 ·exact⟨by omega,rfl⟩
 rintro k ⟨hk,hi⟩
 (repeat' ((conv=>whnf);first|refine gA ?_|(refine gN ?_ ?_<;>intro h hw)|(refine gB ?_ ?_<;>intro h)|(refine gI ?_;intro x hx)|(refine gJ ?_;intro j x hj hx)|refine gV ?_|refine gC (aO _ _ _) ?_|refine gC (tL r.steps) ?_|intro _))<;>try (conv=>whnf)
 ·revert x
  intro row hrow h4
  refine aA [1,8,9,10,17,18] [1] [] ?_
  (conv=>whnf)
  refine ay.go ((Nat)) (fun m=>(m≤row.length)∧((row.drop m).all (fun n=>within n 0 12)=row.all (fun n=>within n 0 12))) (fun m=>[(19,.data (i64 m))]) (fun _=>[]) (fun _=>[]) (fun m=>row.length - m) (0) ?_ ?_
  ·exact⟨by omega,rfl⟩
  rintro m ⟨hm,hj⟩
  (repeat' ((conv=>whnf);first|refine gA ?_|(refine gN ?_ ?_<;>intro h hw)|(refine gB ?_ ?_<;>intro h)|(refine gI ?_;intro x hx)|(refine gJ ?_;intro j x hj hx)|refine gV ?_|refine gC (aO _ _ _) ?_|intro _))<;>try (conv=>whnf)
  ·refine nx (m+1) ?_
   rw [aC hx,List.all_cons,h,Bool.true_and] at hj
   exact⟨by omega,hj⟩
  ·refine⟨?_,rfl,trivial⟩
   rw [aC hx,List.all_cons,h,Bool.false_and] at hj
   rw [aC hrow,List.all_cons] at hi
   rw [nT, ← hi,rowOk, ← hj];simp
  ·refine nx (k+1) ?_
   rw [aU (by assumption)] at hj
   rw [aC hrow,List.all_cons,rowOk, ← hj] at hi
   exact⟨by omega,by rw [← hi];simp [h4]⟩
 all_goals refine⟨?_,rfl,trivial⟩
 ·rw [aC hx,List.all_cons,rowOk] at hi
  rw [nT, ← hi];simp [h]
 all_goals (rw [aU (l:=r.setup) (by assumption)] at hi;have e:r.setup.all rowOk=true:=hi.symm;clear hi;rw [nT,e];first|(simp [*];done)|simp_all)
theorem tN (l:List aB) (fc:Nat) (caps:List AV) (p:aB→Bool) (hc:∀x:aB,Con fc ([.d x.av]++caps.map .ref) (.d (.bool (p x)))):
  Con 137 [.d (.sl (l.map aB.av)),.fn fc caps] (.d (i64 (aJ p l 0))):=by
 refine con Tryz.func137 rfl rfl Tryz.call137 rfl fun hwf=>?_
 simp only [ARs.wf,AR.wf,AV.wf,AV.wfs,lm,lim] at hwf
 (conv=>whnf)
 refine aA [0,1,7] [] [] ?_
 (conv=>whnf)
 refine ay.go ((Nat)) (fun k=>(k≤l.length)∧(aJ p (l.drop k) k=aJ p l 0)) (fun k=>[(8,.data (i64 k))]) (fun _=>[]) (fun _=>[]) (fun k=>l.length - k) (0) ?_ ?_
 ·exact⟨by omega,rfl⟩
 rintro k ⟨hk,hi⟩
 (repeat' ((conv=>whnf);first|refine gA ?_|(refine gB ?_ ?_<;>intro h)|(refine gI ?_;intro x hx)|(refine gJ ?_;intro j x hj hx)|refine gV ?_|refine gC (hc x) ?_|intro _))<;>try (conv=>whnf)
 all_goals first
  |exact trivial
  |(refine⟨?_,rfl,trivial⟩;rw [aU (l:=l) (by assumption)] at hi;first|(simp_all [aJ];done)|(simp only [aJ, ← hi];clear hi;simp_all [aJ];done))
  |(refine⟨?_,rfl,trivial⟩;rw [aC (l:=l) (by assumption)] at hi;first|(simp_all [aJ];done)|(simp only [aJ, ← hi];clear hi;simp_all [aJ];done))
  |(refine nx (k+1) ?_
    rw [aC (l:=l) (by assumption)] at hi;refine⟨by omega,?_⟩;simp_all [aJ];done)
theorem uH (l:List Link) (fc:Nat) (caps:List AV) (p:Link→Bool) (hc:∀x:Link,Con fc ([.d x.av]++caps.map .ref) (.d (.bool (p x)))):
  Con 140 [.d (.sl (l.map Link.av)),.fn fc caps] (.d (i64 (aJ p l 0))):=by
 refine con Tryz.func140 rfl rfl Tryz.call140 rfl fun hwf=>?_
 simp only [ARs.wf,AR.wf,AV.wf,AV.wfs,lm,lim] at hwf
 (conv=>whnf)
 refine aA [0,1,7] [] [] ?_
 (conv=>whnf)
 refine ay.go ((Nat)) (fun k=>(k≤l.length)∧(aJ p (l.drop k) k=aJ p l 0)) (fun k=>[(8,.data (i64 k))]) (fun _=>[]) (fun _=>[]) (fun k=>l.length - k) (0) ?_ ?_
 ·exact⟨by omega,rfl⟩
 rintro k ⟨hk,hi⟩
 (repeat' ((conv=>whnf);first|refine gA ?_|(refine gB ?_ ?_<;>intro h)|(refine gI ?_;intro x hx)|(refine gJ ?_;intro j x hj hx)|refine gV ?_|refine gC (hc x) ?_|intro _))<;>try (conv=>whnf)
 all_goals first
  |exact trivial
  |(refine⟨?_,rfl,trivial⟩;rw [aU (l:=l) (by assumption)] at hi;first|(simp_all [aJ];done)|(simp only [aJ, ← hi];clear hi;simp_all [aJ];done))
  |(refine⟨?_,rfl,trivial⟩;rw [aC (l:=l) (by assumption)] at hi;first|(simp_all [aJ];done)|(simp only [aJ, ← hi];clear hi;simp_all [aJ];done))
  |(refine nx (k+1) ?_
    rw [aC (l:=l) (by assumption)] at hi;refine⟨by omega,?_⟩;simp_all [aJ];done)
theorem qV (l:List Link) (fc:Nat) (caps:List AV) (p:Link→Bool) (hc:∀x:Link,Con fc ([.d x.av]++caps.map .ref) (.d (.bool (p x)))):
  Con 75 [.d (.sl (l.map Link.av)),.fn fc caps] (.d (.bool (l.any p))):=by
 refine con Tryz.func75 rfl rfl Tryz.call75 rfl fun hwf=>?_
 (repeat' ((conv=>whnf);first|refine gA ?_|(refine gB ?_ ?_<;>intro h)|refine gC (uH l fc caps p hc) ?_|intro _))<;>try (conv=>whnf)
 refine⟨?_,rfl,trivial⟩
 rw [← vk l 0]
theorem wY (a:aB) (name:ByteArray):Con 138 [.d a.av,.ref (.str name)] (.d (.bool (decide (a.name=name)))):=by
 refine con Tryz.func138 rfl rfl Tryz.call138 rfl fun hwf=>?_
 (repeat' ((conv=>whnf);first|refine gA ?_|(refine gB ?_ ?_<;>intro h)|intro _))<;>try (conv=>whnf)
 all_goals exact⟨rfl,rfl,trivial⟩
theorem yU (p:Proj) (name:ByteArray):Con 73 [.d p.av,.d (.str name)] (.d (i64 (FB p name))):=by
 refine con Tryz.func73 rfl rfl Tryz.call73 rfl fun hwf=>?_
 (repeat' ((conv=>whnf);first|refine gA ?_|(refine gB ?_ ?_<;>intro h)|refine gC (tN p.acts 138 [.str name] _ fun x=>wY x name) ?_|intro _))<;>try (conv=>whnf)
 all_goals exact⟨rfl,rfl,trivial⟩
theorem eH (p:Proj) (n:Int):Con 141 [.d p.av,.d (i64 n)] (.d (.bool (bM p n))):=by
 refine con Tryz.func141 rfl rfl Tryz.call141 rfl fun hwf=>?_
 simp only [ARs.wf,AR.wf,AV.wf,AV.wfs,lm,lim] at hwf
 (repeat' ((conv=>whnf);first|refine gA ?_|(refine gN ?_ ?_<;>intro h hw)|(refine gB ?_ ?_<;>intro h)|refine gV ?_|refine gC (aO _ _ _) ?_|intro _))<;>try (conv=>whnf)
 refine⟨?_,rfl,trivial⟩
 simp [bM]
theorem NW (p:Proj) (k:Link):Con 77 [.d p.av,.d k.av] (.d (.bool (pI p k))):=by
 refine con Tryz.func77 rfl rfl Tryz.call77 rfl fun hwf=>?_
 (repeat' ((conv=>whnf);first|refine gA ?_|(refine gN ?_ ?_<;>intro h hw)|(refine gB ?_ ?_<;>intro h)|refine gC (aO _ _ _) ?_|refine gC (eH p _) ?_|intro _))<;>try (conv=>whnf)
 all_goals refine⟨?_,rfl,trivial⟩
 all_goals simp [pI, *]
theorem Ef (p:Proj) (k:Link):Con 76 [.d k.av,.ref p.av] (.d (.bool (!pI p k))):=by
 refine con Tryz.func76 rfl rfl Tryz.call76 rfl fun hwf=>?_
 (repeat' ((conv=>whnf);first|refine gA ?_|(refine gB ?_ ?_<;>intro h)|refine gC (NW p k) ?_|intro _))<;>try (conv=>whnf)
 all_goals exact⟨rfl,rfl,trivial⟩
def Proj.fine (p:Proj):Prop:=∀a∈p.acts,a.name.size≤lim
theorem aX (p:Proj) (hp:p.fine):Con 25 [.d p.av] (.d (.bool (bC p))):=by
 refine con Tryz.func25 rfl rfl Tryz.call25 rfl fun hwf=>?_
 simp only [ARs.wf,AR.wf,AV.wf,AV.wfs,lm,lim] at hwf
 (conv=>whnf)
 (repeat' ((conv=>whnf);first|refine gA ?_|(refine gN ?_ ?_<;>intro h hw)|(refine gB ?_ ?_<;>intro h)|(refine gI ?_;intro x hx)|(refine gJ ?_;intro j x hj hx)|refine gV ?_|refine gC (aO _ _ _) ?_|intro _))<;>try (conv=>whnf)
 all_goals try (refine⟨?_,rfl,trivial⟩;simp_all [bC,vv];done)
 have e0:vv p=true:=by simp_all [vv]
 refine aA [1,39,40] [1] [] ?_
 (conv=>whnf)
 refine ay.go ((Nat)) (fun k=>(k≤p.acts.length)∧(∀i,i < k→Dq p i=true)) (fun k=>[(41,.data (i64 k))]) (fun _=>[]) (fun _=>[]) (fun k=>p.acts.length - k) (0) ?_ ?_
 ·exact⟨by omega,by omega⟩
 rintro k ⟨hk,hi⟩
 (repeat' ((conv=>whnf);first|refine gA ?_|(refine gN ?_ ?_<;>intro h hw)|(refine gB ?_ ?_<;>intro h)|(refine gI ?_;intro x hx)|(refine gJ ?_;intro j x hj hx)|refine gV ?_|refine gC (Ed x _ _ (hp x (List.mem_of_getElem? hx))) ?_|refine gC (yU p x.name) ?_|intro _))<;>try (conv=>whnf)
 ·refine nx (k+1) ?_
  exact⟨by omega,jN hi (by simp_all [Dq])⟩
 ·refine⟨?_,rfl,trivial⟩
  rw [bC,jM k (by omega) (by simp_all [Dq])];simp
 ·refine⟨?_,rfl,trivial⟩
  rw [bC,jM k (by omega) (by simp_all [Dq])];simp
 have e1:Ab p.acts.length (Dq p)=true:=dO.2 fun i hh=>hi i (by omega)
 clear hi
 refine aA [1,65,66] [1] [] ?_
 (conv=>whnf)
 refine ay.go ((Nat)) (fun m=>(m≤p.aW.length)∧((p.aW.drop m).all nT=p.aW.all nT)) (fun m=>[(67,.data (i64 m))]) (fun _=>[]) (fun _=>[]) (fun m=>p.aW.length - m) (0) ?_ ?_
 ·exact⟨by omega,rfl⟩
 rintro m ⟨hm,hi⟩
 (repeat' ((conv=>whnf);first|refine gA ?_|(refine gN ?_ ?_<;>intro h hw)|(refine gB ?_ ?_<;>intro h)|(refine gI ?_;intro x hx)|(refine gJ ?_;intro j x hj hx)|refine gV ?_|refine gC (Ee x) ?_|intro _))<;>try (conv=>whnf)
 ·refine nx (m+1) ?_
  rw [aC hx,List.all_cons,h,Bool.true_and] at hi
  exact⟨by omega,hi⟩
 ·refine⟨?_,rfl,trivial⟩
  rw [aC hx,List.all_cons,h,Bool.false_and] at hi
  rw [bC, ← hi];simp
 have e2:p.aW.all nT=true:=by rw [aU (by assumption)] at hi;exact hi.symm
 clear hi
 refine aA [1,76,77] [1] [] ?_
 (conv=>whnf)
 refine ay.go ((Nat)) (fun n=>(n≤p.aR.length)∧((p.aR.drop n).all (fun n=>within n 0 100)=p.aR.all (fun n=>within n 0 100))) (fun n=>[(78,.data (i64 n))]) (fun _=>[]) (fun _=>[]) (fun n=>p.aR.length - n) (0) ?_ ?_
 ·exact⟨by omega,rfl⟩
 rintro n ⟨hn,hi⟩
 (repeat' ((conv=>whnf);first|refine gA ?_|(refine gN ?_ ?_<;>intro h hw)|(refine gB ?_ ?_<;>intro h)|(refine gI ?_;intro x hx)|(refine gJ ?_;intro j x hj hx)|refine gV ?_|refine gC (aO _ _ _) ?_|refine gC (qV p.links 76 [p.av] _ fun x=>Ef p x) ?_|intro _))<;>try (conv=>whnf)
 ·refine nx (n+1) ?_
  rw [aC hx,List.all_cons,h,Bool.true_and] at hi
  exact⟨by omega,hi⟩
 ·refine⟨?_,rfl,trivial⟩
  rw [aC hx,List.all_cons,h,Bool.false_and] at hi
  rw [bC, ← hi];simp
 have e3:p.aR.all (fun n=>within n 0 100)=true:=by rw [aU (by assumption)] at hi;exact hi.symm
 clear hi
 refine⟨?_,rfl,trivial⟩
 rw [bC,e0,e1,e2,e3]
 simp only [Bool.true_and,AV.bool.injEq]
 rw [Bool.eq_iff_iff]
 simp
end Go.Proofs.YtefgamefajmdkaaGreat.Abs
