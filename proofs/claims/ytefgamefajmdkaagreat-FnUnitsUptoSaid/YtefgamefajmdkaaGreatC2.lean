/- Contracts: projects. -/
import Derived.Test.YtefgamefajmdkaaGreatC1
set_option linter.all false
set_option maxRecDepth 20000
set_option maxHeartbeats 0
namespace Go.Proofs.YtefgamefajmdkaaGreat.Abs
open Go.Proofs
theorem IE (r:fE):Con 74 [.d r.av] (.d (.bool (kN r))):=by
 refine con Tryz.func74 rfl rfl Tryz.call74 rfl fun hwf=>?_
 simp only [ARs.wf,AR.wf,AV.wf,AV.wfs,lm,lim] at hwf
 (conv=>whnf)
 refine aB [1,8,9] [1] [] ?_
 (conv=>whnf)
 refine aA.go ((Nat)) (fun k=>(k≤r.setup.length)∧((r.setup.drop k).all rowOk=r.setup.all rowOk)) (fun k=>[(10,.data (i64 k))]) (fun _=>[]) (fun _=>[]) (fun k=>r.setup.length - k) (0) ?_ ?_
 ·exact⟨by omega,rfl⟩
 rintro k ⟨hk,hi⟩
 (repeat' ((conv=>whnf);first|refine gA ?_|(refine gN ?_ ?_<;>intro h hw)|(refine gB ?_ ?_<;>intro h)|(refine gI ?_;intro x hx)|(refine gJ ?_;intro j x hj hx)|refine gV ?_|refine gC (aV _ _ _) ?_|refine gC (vY r.steps) ?_|intro _))<;>try (conv=>whnf)
 ·revert x
  intro row hrow h4
  refine aB [1,8,9,10,17,18] [1] [] ?_
  (conv=>whnf)
  refine aA.go ((Nat)) (fun m=>(m≤row.length)∧((row.drop m).all (fun n=>within n 0 12)=row.all (fun n=>within n 0 12))) (fun m=>[(19,.data (i64 m))]) (fun _=>[]) (fun _=>[]) (fun m=>row.length - m) (0) ?_ ?_
  ·exact⟨by omega,rfl⟩
  rintro m ⟨hm,hj⟩
  (repeat' ((conv=>whnf);first|refine gA ?_|(refine gN ?_ ?_<;>intro h hw)|(refine gB ?_ ?_<;>intro h)|(refine gI ?_;intro x hx)|(refine gJ ?_;intro j x hj hx)|refine gV ?_|refine gC (aV _ _ _) ?_|intro _))<;>try (conv=>whnf)
  ·refine nx (m+1) ?_
   rw [au hx,List.all_cons,h,Bool.true_and] at hj
   exact⟨by omega,hj⟩
  ·refine⟨?_,rfl,trivial⟩
   rw [au hx,List.all_cons,h,Bool.false_and] at hj
   rw [au hrow,List.all_cons] at hi
   rw [kN, ← hi,rowOk, ← hj];simp
  ·refine nx (k+1) ?_
   rw [aG (by assumption)] at hj
   rw [au hrow,List.all_cons,rowOk, ← hj] at hi
   exact⟨by omega,by rw [← hi];simp [h4]⟩
 all_goals refine⟨?_,rfl,trivial⟩
 ·rw [au hx,List.all_cons,rowOk] at hi
  rw [kN, ← hi];simp [h]
 all_goals (rw [aG (l:=r.setup) (by assumption)] at hi;have e:r.setup.all rowOk=true:=hi.symm;clear hi;rw [kN,e];first|(simp [*];done)|simp_all)
theorem IG (r:fE):Con 160 [.d r.av] (.d (.bool (kN r))):=by
 refine con Tryz.func160 rfl rfl Tryz.call160 rfl fun hwf=>?_
 simp only [ARs.wf,AR.wf,AV.wf,AV.wfs,lm,lim] at hwf
 (conv=>whnf)
 refine aB [1,8,9] [1] [] ?_
 (conv=>whnf)
 refine aA.go ((Nat)) (fun k=>(k≤r.setup.length)∧((r.setup.drop k).all rowOk=r.setup.all rowOk)) (fun k=>[(10,.data (i64 k))]) (fun _=>[]) (fun _=>[]) (fun k=>r.setup.length - k) (0) ?_ ?_
 ·exact⟨by omega,rfl⟩
 rintro k ⟨hk,hi⟩
 (repeat' ((conv=>whnf);first|refine gA ?_|(refine gN ?_ ?_<;>intro h hw)|(refine gB ?_ ?_<;>intro h)|(refine gI ?_;intro x hx)|(refine gJ ?_;intro j x hj hx)|refine gV ?_|refine gC (dh _ _ _) ?_|refine gC (Ep r.steps) ?_|intro _))<;>try (conv=>whnf)
 ·revert x
  intro row hrow h4
  refine aB [1,8,9,10,17,18] [1] [] ?_
  (conv=>whnf)
  refine aA.go ((Nat)) (fun m=>(m≤row.length)∧((row.drop m).all (fun n=>within n 0 12)=row.all (fun n=>within n 0 12))) (fun m=>[(19,.data (i64 m))]) (fun _=>[]) (fun _=>[]) (fun m=>row.length - m) (0) ?_ ?_
  ·exact⟨by omega,rfl⟩
  rintro m ⟨hm,hj⟩
  (repeat' ((conv=>whnf);first|refine gA ?_|(refine gN ?_ ?_<;>intro h hw)|(refine gB ?_ ?_<;>intro h)|(refine gI ?_;intro x hx)|(refine gJ ?_;intro j x hj hx)|refine gV ?_|refine gC (dh _ _ _) ?_|intro _))<;>try (conv=>whnf)
  ·refine nx (m+1) ?_
   rw [au hx,List.all_cons,h,Bool.true_and] at hj
   exact⟨by omega,hj⟩
  ·refine⟨?_,rfl,trivial⟩
   rw [au hx,List.all_cons,h,Bool.false_and] at hj
   rw [au hrow,List.all_cons] at hi
   rw [kN, ← hi,rowOk, ← hj];simp
  ·refine nx (k+1) ?_
   rw [aG (by assumption)] at hj
   rw [au hrow,List.all_cons,rowOk, ← hj] at hi
   exact⟨by omega,by rw [← hi];simp [h4]⟩
 all_goals refine⟨?_,rfl,trivial⟩
 ·rw [au hx,List.all_cons,rowOk] at hi
  rw [kN, ← hi];simp [h]
 all_goals (rw [aG (l:=r.setup) (by assumption)] at hi;have e:r.setup.all rowOk=true:=hi.symm;clear hi;rw [kN,e];first|(simp [*];done)|simp_all)
theorem vZ (l:List aH) (fc:Nat) (caps:List AV) (p:aH→Bool) (hc:∀x:aH,Con fc ([.d x.av]++caps.map .ref) (.d (.bool (p x)))):
  Con 137 [.d (.sl (l.map aH.av)),.fn fc caps] (.d (i64 (aQ p l 0))):=by
 refine con Tryz.func137 rfl rfl Tryz.call137 rfl fun hwf=>?_
 simp only [ARs.wf,AR.wf,AV.wf,AV.wfs,lm,lim] at hwf
 (conv=>whnf)
 refine aB [0,1,7] [] [] ?_
 (conv=>whnf)
 refine aA.go ((Nat)) (fun k=>(k≤l.length)∧(aQ p (l.drop k) k=aQ p l 0)) (fun k=>[(8,.data (i64 k))]) (fun _=>[]) (fun _=>[]) (fun k=>l.length - k) (0) ?_ ?_
 ·exact⟨by omega,rfl⟩
 rintro k ⟨hk,hi⟩
 (repeat' ((conv=>whnf);first|refine gA ?_|(refine gB ?_ ?_<;>intro h)|(refine gI ?_;intro x hx)|(refine gJ ?_;intro j x hj hx)|refine gV ?_|refine gC (hc x) ?_|intro _))<;>try (conv=>whnf)
 all_goals first
  |exact trivial
  |(refine⟨?_,rfl,trivial⟩;rw [aG (l:=l) (by assumption)] at hi;first|(simp_all [aQ];done)|(simp only [aQ, ← hi];clear hi;simp_all [aQ];done))
  |(refine⟨?_,rfl,trivial⟩;rw [au (l:=l) (by assumption)] at hi;first|(simp_all [aQ];done)|(simp only [aQ, ← hi];clear hi;simp_all [aQ];done))
  |(refine nx (k+1) ?_
    rw [au (l:=l) (by assumption)] at hi;refine⟨by omega,?_⟩;simp_all [aQ];done)
theorem xI (l:List Link) (fc:Nat) (caps:List AV) (p:Link→Bool) (hc:∀x:Link,Con fc ([.d x.av]++caps.map .ref) (.d (.bool (p x)))):
  Con 140 [.d (.sl (l.map Link.av)),.fn fc caps] (.d (i64 (aQ p l 0))):=by
 refine con Tryz.func140 rfl rfl Tryz.call140 rfl fun hwf=>?_
 simp only [ARs.wf,AR.wf,AV.wf,AV.wfs,lm,lim] at hwf
 (conv=>whnf)
 refine aB [0,1,7] [] [] ?_
 (conv=>whnf)
 refine aA.go ((Nat)) (fun k=>(k≤l.length)∧(aQ p (l.drop k) k=aQ p l 0)) (fun k=>[(8,.data (i64 k))]) (fun _=>[]) (fun _=>[]) (fun k=>l.length - k) (0) ?_ ?_
 ·exact⟨by omega,rfl⟩
 rintro k ⟨hk,hi⟩
 (repeat' ((conv=>whnf);first|refine gA ?_|(refine gB ?_ ?_<;>intro h)|(refine gI ?_;intro x hx)|(refine gJ ?_;intro j x hj hx)|refine gV ?_|refine gC (hc x) ?_|intro _))<;>try (conv=>whnf)
 all_goals first
  |exact trivial
  |(refine⟨?_,rfl,trivial⟩;rw [aG (l:=l) (by assumption)] at hi;first|(simp_all [aQ];done)|(simp only [aQ, ← hi];clear hi;simp_all [aQ];done))
  |(refine⟨?_,rfl,trivial⟩;rw [au (l:=l) (by assumption)] at hi;first|(simp_all [aQ];done)|(simp only [aQ, ← hi];clear hi;simp_all [aQ];done))
  |(refine nx (k+1) ?_
    rw [au (l:=l) (by assumption)] at hi;refine⟨by omega,?_⟩;simp_all [aQ];done)
theorem uo (l:List Link) (fc:Nat) (caps:List AV) (p:Link→Bool) (hc:∀x:Link,Con fc ([.d x.av]++caps.map .ref) (.d (.bool (p x)))):
  Con 75 [.d (.sl (l.map Link.av)),.fn fc caps] (.d (.bool (l.any p))):=by
 refine con Tryz.func75 rfl rfl Tryz.call75 rfl fun hwf=>?_
 (repeat' ((conv=>whnf);first|refine gA ?_|(refine gB ?_ ?_<;>intro h)|refine gC (xI l fc caps p hc) ?_|intro _))<;>try (conv=>whnf)
 refine⟨?_,rfl,trivial⟩
 rw [← uR l 0]
theorem Ae (a:aH) (name:ByteArray):Con 138 [.d a.av,.ref (.str name)] (.d (.bool (decide (a.name=name)))):=by
 refine con Tryz.func138 rfl rfl Tryz.call138 rfl fun hwf=>?_
 (repeat' ((conv=>whnf);first|refine gA ?_|(refine gB ?_ ?_<;>intro h)|intro _))<;>try (conv=>whnf)
 all_goals exact⟨rfl,rfl,trivial⟩
theorem Ct (p:Proj) (name:ByteArray):Con 73 [.d p.av,.d (.str name)] (.d (i64 (yC p name))):=by
 refine con Tryz.func73 rfl rfl Tryz.call73 rfl fun hwf=>?_
 (repeat' ((conv=>whnf);first|refine gA ?_|(refine gB ?_ ?_<;>intro h)|refine gC (vZ p.acts 138 [.str name] _ fun x=>Ae x name) ?_|intro _))<;>try (conv=>whnf)
 all_goals exact⟨rfl,rfl,trivial⟩
theorem Cu (p:Proj) (name:ByteArray):Con 159 [.d p.av,.d (.str name)] (.d (i64 (yC p name))):=by
 refine con Tryz.func159 rfl rfl Tryz.call159 rfl fun hwf=>?_
 simp only [ARs.wf,AR.wf,AV.wf,AV.wfs,lm,lim] at hwf
 (conv=>whnf)
 refine aB [1,8,9] [] [] ?_
 (conv=>whnf)
 refine aA.go ((Nat)) (fun k=>(k≤p.acts.length)∧(aQ (fun a=>decide (a.name=name)) (p.acts.drop k) k=yC p name)) (fun k=>[(10,.data (i64 k))]) (fun _=>[]) (fun _=>[]) (fun k=>p.acts.length - k) (0) ?_ ?_
 ·exact⟨by omega,rfl⟩
 rintro k ⟨hk,hi⟩
 (repeat' ((conv=>whnf);first|refine gA ?_|(refine gB ?_ ?_<;>intro h)|(refine gI ?_;intro x hx)|(refine gJ ?_;intro j x hj hx)|refine gV ?_|intro _))<;>try (conv=>whnf)
 all_goals first
  |exact trivial
  |(refine⟨?_,rfl,trivial⟩;rw [aG (l:=p.acts) (by assumption)] at hi;first|(simp_all [aQ];done)|(simp only [aQ, ← hi];clear hi;simp_all [aQ];done))
  |(refine⟨?_,rfl,trivial⟩;rw [au (l:=p.acts) (by assumption)] at hi;first|(simp_all [aQ];done)|(simp only [aQ, ← hi];clear hi;simp_all [aQ];done))
  |(refine nx (k+1) ?_
    rw [au (l:=p.acts) (by assumption)] at hi;refine⟨by omega,?_⟩;simp_all [aQ];done)
theorem fU (p:Proj) (n:Int):Con 141 [.d p.av,.d (i64 n)] (.d (.bool (bn p n))):=by
 refine con Tryz.func141 rfl rfl Tryz.call141 rfl fun hwf=>?_
 simp only [ARs.wf,AR.wf,AV.wf,AV.wfs,lm,lim] at hwf
 (repeat' ((conv=>whnf);first|refine gA ?_|(refine gN ?_ ?_<;>intro h hw)|(refine gB ?_ ?_<;>intro h)|refine gV ?_|refine gC (aV _ _ _) ?_|intro _))<;>try (conv=>whnf)
 refine⟨?_,rfl,trivial⟩
 simp [bn]
theorem Rn (p:Proj) (k:Link):Con 77 [.d p.av,.d k.av] (.d (.bool (jR p k))):=by
 refine con Tryz.func77 rfl rfl Tryz.call77 rfl fun hwf=>?_
 (repeat' ((conv=>whnf);first|refine gA ?_|(refine gN ?_ ?_<;>intro h hw)|(refine gB ?_ ?_<;>intro h)|refine gC (aV _ _ _) ?_|refine gC (fU p _) ?_|intro _))<;>try (conv=>whnf)
 all_goals refine⟨?_,rfl,trivial⟩
 all_goals simp [jR, *]
theorem II (p:Proj) (k:Link):Con 76 [.d k.av,.ref p.av] (.d (.bool (!jR p k))):=by
 refine con Tryz.func76 rfl rfl Tryz.call76 rfl fun hwf=>?_
 (repeat' ((conv=>whnf);first|refine gA ?_|(refine gB ?_ ?_<;>intro h)|refine gC (Rn p k) ?_|intro _))<;>try (conv=>whnf)
 all_goals exact⟨rfl,rfl,trivial⟩
def Proj.fine (p:Proj):Prop:=∀a∈p.acts,a.name.size≤lim
theorem dH (p:Proj) (hp:p.fine):Con 25 [.d p.av] (.d (.bool (aF p))):=by
 refine con Tryz.func25 rfl rfl Tryz.call25 rfl fun hwf=>?_
 simp only [ARs.wf,AR.wf,AV.wf,AV.wfs,lm,lim] at hwf
 (conv=>whnf)
 (repeat' ((conv=>whnf);first|refine gA ?_|(refine gN ?_ ?_<;>intro h hw)|(refine gB ?_ ?_<;>intro h)|(refine gI ?_;intro x hx)|(refine gJ ?_;intro j x hj hx)|refine gV ?_|refine gC (aV _ _ _) ?_|intro _))<;>try (conv=>whnf)
 all_goals try (refine⟨?_,rfl,trivial⟩;simp_all [aF,nN];done)
 have e0:nN p=true:=by simp_all [nN]
 refine aB [1,39,40] [1] [] ?_
 (conv=>whnf)
 refine aA.go ((Nat)) (fun k=>(k≤p.acts.length)∧(∀i,i < k→sS p i=true)) (fun k=>[(41,.data (i64 k))]) (fun _=>[]) (fun _=>[]) (fun k=>p.acts.length - k) (0) ?_ ?_
 ·exact⟨by omega,by omega⟩
 rintro k ⟨hk,hi⟩
 (repeat' ((conv=>whnf);first|refine gA ?_|(refine gN ?_ ?_<;>intro h hw)|(refine gB ?_ ?_<;>intro h)|(refine gI ?_;intro x hx)|(refine gJ ?_;intro j x hj hx)|refine gV ?_|refine gC (IB x _ _ (hp x (List.mem_of_getElem? hx))) ?_|refine gC (Ct p x.name) ?_|intro _))<;>try (conv=>whnf)
 ·refine nx (k+1) ?_
  exact⟨by omega,fJ hi (by simp_all [sS])⟩
 ·refine⟨?_,rfl,trivial⟩
  rw [aF,gX k (by omega) (by simp_all [sS])];simp
 ·refine⟨?_,rfl,trivial⟩
  rw [aF,gX k (by omega) (by simp_all [sS])];simp
 have e1:xH p.acts.length (sS p)=true:=bg.2 fun i hh=>hi i (by omega)
 clear hi
 refine aB [1,65,66] [1] [] ?_
 (conv=>whnf)
 refine aA.go ((Nat)) (fun m=>(m≤p.bB.length)∧((p.bB.drop m).all kN=p.bB.all kN)) (fun m=>[(67,.data (i64 m))]) (fun _=>[]) (fun _=>[]) (fun m=>p.bB.length - m) (0) ?_ ?_
 ·exact⟨by omega,rfl⟩
 rintro m ⟨hm,hi⟩
 (repeat' ((conv=>whnf);first|refine gA ?_|(refine gN ?_ ?_<;>intro h hw)|(refine gB ?_ ?_<;>intro h)|(refine gI ?_;intro x hx)|(refine gJ ?_;intro j x hj hx)|refine gV ?_|refine gC (IE x) ?_|intro _))<;>try (conv=>whnf)
 ·refine nx (m+1) ?_
  rw [au hx,List.all_cons,h,Bool.true_and] at hi
  exact⟨by omega,hi⟩
 ·refine⟨?_,rfl,trivial⟩
  rw [au hx,List.all_cons,h,Bool.false_and] at hi
  rw [aF, ← hi];simp
 have e2:p.bB.all kN=true:=by rw [aG (by assumption)] at hi;exact hi.symm
 clear hi
 refine aB [1,76,77] [1] [] ?_
 (conv=>whnf)
 refine aA.go ((Nat)) (fun n=>(n≤p.aY.length)∧((p.aY.drop n).all (fun n=>within n 0 100)=p.aY.all (fun n=>within n 0 100))) (fun n=>[(78,.data (i64 n))]) (fun _=>[]) (fun _=>[]) (fun n=>p.aY.length - n) (0) ?_ ?_
 ·exact⟨by omega,rfl⟩
 rintro n ⟨hn,hi⟩
 (repeat' ((conv=>whnf);first|refine gA ?_|(refine gN ?_ ?_<;>intro h hw)|(refine gB ?_ ?_<;>intro h)|(refine gI ?_;intro x hx)|(refine gJ ?_;intro j x hj hx)|refine gV ?_|refine gC (aV _ _ _) ?_|refine gC (uo p.links 76 [p.av] _ fun x=>II p x) ?_|intro _))<;>try (conv=>whnf)
 ·refine nx (n+1) ?_
  rw [au hx,List.all_cons,h,Bool.true_and] at hi
  exact⟨by omega,hi⟩
 ·refine⟨?_,rfl,trivial⟩
  rw [au hx,List.all_cons,h,Bool.false_and] at hi
  rw [aF, ← hi];simp
 have e3:p.aY.all (fun n=>within n 0 100)=true:=by rw [aG (by assumption)] at hi;exact hi.symm
 clear hi
 refine⟨?_,rfl,trivial⟩
 rw [aF,e0,e1,e2,e3]
 simp only [Bool.true_and,AV.bool.injEq]
 rw [Bool.eq_iff_iff]
 simp
theorem dI (p:Proj) (hp:p.fine):Con 94 [.d p.av] (.d (.bool (aF p))):=by
 refine con Tryz.func94 rfl rfl Tryz.call94 rfl fun hwf=>?_
 simp only [ARs.wf,AR.wf,AV.wf,AV.wfs,lm,lim] at hwf
 (conv=>whnf)
 (repeat' ((conv=>whnf);first|refine gA ?_|(refine gN ?_ ?_<;>intro h hw)|(refine gB ?_ ?_<;>intro h)|(refine gI ?_;intro x hx)|(refine gJ ?_;intro j x hj hx)|refine gV ?_|refine gC (dh _ _ _) ?_|intro _))<;>try (conv=>whnf)
 all_goals try (refine⟨?_,rfl,trivial⟩;simp_all [aF,nN];done)
 have e0:nN p=true:=by simp_all [nN]
 refine aB [1,3,43,44] [1] [] ?_
 (conv=>whnf)
 refine aA.go ((Nat)) (fun k=>(k≤p.acts.length)∧(∀i,i < k→sS p i=true)) (fun k=>[(45,.data (i64 k))]) (fun _=>[]) (fun _=>[]) (fun k=>p.acts.length - k) (0) ?_ ?_
 ·exact⟨by omega,by omega⟩
 rintro k ⟨hk,hi⟩
 (repeat' ((conv=>whnf);first|refine gA ?_|(refine gN ?_ ?_<;>intro h hw)|(refine gB ?_ ?_<;>intro h)|(refine gI ?_;intro x hx)|(refine gJ ?_;intro j x hj hx)|refine gV ?_|refine gC (IC x _ _ (hp x (List.mem_of_getElem? hx))) ?_|refine gC (Cu p x.name) ?_|intro _))<;>try (conv=>whnf)
 ·refine nx (k+1) ?_
  exact⟨by omega,fJ hi (by simp_all [sS])⟩
 ·refine⟨?_,rfl,trivial⟩
  rw [aF,gX k (by omega) (by simp_all [sS])];simp
 ·refine⟨?_,rfl,trivial⟩
  rw [aF,gX k (by omega) (by simp_all [sS])];simp
 have e1:xH p.acts.length (sS p)=true:=bg.2 fun i hh=>hi i (by omega)
 clear hi
 refine aB [1,3,69,70] [1] [] ?_
 (conv=>whnf)
 refine aA.go ((Nat)) (fun m=>(m≤p.bB.length)∧((p.bB.drop m).all kN=p.bB.all kN)) (fun m=>[(71,.data (i64 m))]) (fun _=>[]) (fun _=>[]) (fun m=>p.bB.length - m) (0) ?_ ?_
 ·exact⟨by omega,rfl⟩
 rintro m ⟨hm,hi⟩
 (repeat' ((conv=>whnf);first|refine gA ?_|(refine gN ?_ ?_<;>intro h hw)|(refine gB ?_ ?_<;>intro h)|(refine gI ?_;intro x hx)|(refine gJ ?_;intro j x hj hx)|refine gV ?_|refine gC (IG x) ?_|intro _))<;>try (conv=>whnf)
 ·refine nx (m+1) ?_
  rw [au hx,List.all_cons,h,Bool.true_and] at hi
  exact⟨by omega,hi⟩
 ·refine⟨?_,rfl,trivial⟩
  rw [au hx,List.all_cons,h,Bool.false_and] at hi
  rw [aF, ← hi];simp
 have e2:p.bB.all kN=true:=by rw [aG (by assumption)] at hi;exact hi.symm
 clear hi
 refine aB [1,3,80,81] [1] [] ?_
 (conv=>whnf)
 refine aA.go ((Nat)) (fun n=>(n≤p.aY.length)∧((p.aY.drop n).all (fun n=>within n 0 100)=p.aY.all (fun n=>within n 0 100))) (fun n=>[(82,.data (i64 n))]) (fun _=>[]) (fun _=>[]) (fun n=>p.aY.length - n) (0) ?_ ?_
 ·exact⟨by omega,rfl⟩
 rintro n ⟨hn,hi⟩
 (repeat' ((conv=>whnf);first|refine gA ?_|(refine gN ?_ ?_<;>intro h hw)|(refine gB ?_ ?_<;>intro h)|(refine gI ?_;intro x hx)|(refine gJ ?_;intro j x hj hx)|refine gV ?_|refine gC (dh _ _ _) ?_|intro _))<;>try (conv=>whnf)
 ·refine nx (n+1) ?_
  rw [au hx,List.all_cons,h,Bool.true_and] at hi
  exact⟨by omega,hi⟩
 ·refine⟨?_,rfl,trivial⟩
  rw [au hx,List.all_cons,h,Bool.false_and] at hi
  rw [aF, ← hi];simp
 have e3:p.aY.all (fun n=>within n 0 100)=true:=by rw [aG (by assumption)] at hi;exact hi.symm
 clear hi
 refine aB [3,91,92] [] [] ?_
 (conv=>whnf)
 refine aA.go ((Nat)) (fun o=>(o≤p.links.length)∧((p.links.drop o).all (jR p)=p.links.all (jR p))) (fun o=>[(93,.data (i64 o))]) (fun _=>[]) (fun _=>[]) (fun o=>p.links.length - o) (0) ?_ ?_
 ·exact⟨by omega,rfl⟩
 rintro o ⟨ho,hi⟩
 (repeat' ((conv=>whnf);first|refine gA ?_|(refine gN ?_ ?_<;>intro h hw)|(refine gB ?_ ?_<;>intro h)|(refine gI ?_;intro x hx)|(refine gJ ?_;intro j x hj hx)|refine gV ?_|refine gC (dh _ _ _) ?_|intro _))<;>try (conv=>whnf)
 all_goals first
  |(refine nx (o+1) ?_
    rw [au hx,List.all_cons,show jR p x=true by simp [jR,bn, *],Bool.true_and] at hi
    exact⟨by omega,hi⟩)
  |(refine⟨?_,rfl,trivial⟩
    rw [au hx,List.all_cons,show jR p x=false by simp [jR,bn, *],Bool.false_and] at hi
    rw [aF, ← hi];simp)
  |(refine⟨?_,rfl,trivial⟩;rw [aG (by assumption)] at hi;rw [aF,e0,e1,e2,e3, ← hi];rfl)
end Go.Proofs.YtefgamefajmdkaaGreat.Abs
