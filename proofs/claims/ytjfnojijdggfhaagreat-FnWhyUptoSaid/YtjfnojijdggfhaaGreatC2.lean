/- Contracts: projects. -/
import Derived.Test.YtjfnojijdggfhaaGreatC1
set_option linter.all false
set_option maxRecDepth 20000
set_option maxHeartbeats 0
namespace Go.Proofs.YtjfnojijdggfhaaGreat.Abs
open Go.Proofs
theorem Gf (r:iy):Con 117 [.d r.av] (.d (.bool (jV r))):=by
 refine con Tryz.func117 rfl rfl Tryz.call117 rfl fun hwf=>?_
 simp only [ARs.wf,AR.wf,AV.wf,AV.wfs,lm,lim] at hwf
 (conv=>whnf)
 refine aB [1,8,9] [1] [] ?_
 (conv=>whnf)
 refine aA.go ((Nat)) (fun k=>(k≤r.setup.length)∧((r.setup.drop k).all rowOk=r.setup.all rowOk)) (fun k=>[(10,.data (i64 k))]) (fun _=>[]) (fun _=>[]) (fun k=>r.setup.length - k) (0) ?_ ?_
 ·exact⟨by omega,rfl⟩
 rintro k ⟨hk,hi⟩
 (repeat' ((conv=>whnf);first|refine gA ?_|(refine gN ?_ ?_<;>intro h hw)|(refine gB ?_ ?_<;>intro h)|(refine gI ?_;intro x hx)|(refine gJ ?_;intro j x hj hx)|refine gV ?_|refine gC (aP _ _ _) ?_|refine gC (uU r.steps) ?_|intro _))<;>try (conv=>whnf)
 ·revert x
  intro row hrow h4
  refine aB [1,8,9,10,17,18] [1] [] ?_
  (conv=>whnf)
  refine aA.go ((Nat)) (fun m=>(m≤row.length)∧((row.drop m).all (fun n=>within n 0 12)=row.all (fun n=>within n 0 12))) (fun m=>[(19,.data (i64 m))]) (fun _=>[]) (fun _=>[]) (fun m=>row.length - m) (0) ?_ ?_
  ·exact⟨by omega,rfl⟩
  rintro m ⟨hm,hj⟩
  (repeat' ((conv=>whnf);first|refine gA ?_|(refine gN ?_ ?_<;>intro h hw)|(refine gB ?_ ?_<;>intro h)|(refine gI ?_;intro x hx)|(refine gJ ?_;intro j x hj hx)|refine gV ?_|refine gC (aP _ _ _) ?_|intro _))<;>try (conv=>whnf)
  ·refine nx (m+1) ?_
   rw [au hx,List.all_cons,h,Bool.true_and] at hj
   exact⟨by omega,hj⟩
  ·refine⟨?_,rfl,trivial⟩
   rw [au hx,List.all_cons,h,Bool.false_and] at hj
   rw [au hrow,List.all_cons] at hi
   rw [jV, ← hi,rowOk, ← hj];simp
  ·refine nx (k+1) ?_
   rw [aJ (by assumption)] at hj
   rw [au hrow,List.all_cons,rowOk, ← hj] at hi
   exact⟨by omega,by rw [← hi];simp [h4]⟩
 all_goals refine⟨?_,rfl,trivial⟩
 ·rw [au hx,List.all_cons,rowOk] at hi
  rw [jV, ← hi];simp [h]
 all_goals (rw [aJ (l:=r.setup) (by assumption)] at hi;have e:r.setup.all rowOk=true:=hi.symm;clear hi;rw [jV,e];first|(simp [*];done)|simp_all)
theorem Gg (r:iy):Con 141 [.d r.av] (.d (.bool (jV r))):=by
 refine con Tryz.func141 rfl rfl Tryz.call141 rfl fun hwf=>?_
 simp only [ARs.wf,AR.wf,AV.wf,AV.wfs,lm,lim] at hwf
 (conv=>whnf)
 refine aB [1,8,9] [1] [] ?_
 (conv=>whnf)
 refine aA.go ((Nat)) (fun k=>(k≤r.setup.length)∧((r.setup.drop k).all rowOk=r.setup.all rowOk)) (fun k=>[(10,.data (i64 k))]) (fun _=>[]) (fun _=>[]) (fun k=>r.setup.length - k) (0) ?_ ?_
 ·exact⟨by omega,rfl⟩
 rintro k ⟨hk,hi⟩
 (repeat' ((conv=>whnf);first|refine gA ?_|(refine gN ?_ ?_<;>intro h hw)|(refine gB ?_ ?_<;>intro h)|(refine gI ?_;intro x hx)|(refine gJ ?_;intro j x hj hx)|refine gV ?_|refine gC (lM _ _ _) ?_|refine gC (Nt r.steps) ?_|intro _))<;>try (conv=>whnf)
 ·revert x
  intro row hrow h4
  refine aB [1,8,9,10,17,18] [1] [] ?_
  (conv=>whnf)
  refine aA.go ((Nat)) (fun m=>(m≤row.length)∧((row.drop m).all (fun n=>within n 0 12)=row.all (fun n=>within n 0 12))) (fun m=>[(19,.data (i64 m))]) (fun _=>[]) (fun _=>[]) (fun m=>row.length - m) (0) ?_ ?_
  ·exact⟨by omega,rfl⟩
  rintro m ⟨hm,hj⟩
  (repeat' ((conv=>whnf);first|refine gA ?_|(refine gN ?_ ?_<;>intro h hw)|(refine gB ?_ ?_<;>intro h)|(refine gI ?_;intro x hx)|(refine gJ ?_;intro j x hj hx)|refine gV ?_|refine gC (lM _ _ _) ?_|intro _))<;>try (conv=>whnf)
  ·refine nx (m+1) ?_
   rw [au hx,List.all_cons,h,Bool.true_and] at hj
   exact⟨by omega,hj⟩
  ·refine⟨?_,rfl,trivial⟩
   rw [au hx,List.all_cons,h,Bool.false_and] at hj
   rw [au hrow,List.all_cons] at hi
   rw [jV, ← hi,rowOk, ← hj];simp
  ·refine nx (k+1) ?_
   rw [aJ (by assumption)] at hj
   rw [au hrow,List.all_cons,rowOk, ← hj] at hi
   exact⟨by omega,by rw [← hi];simp [h4]⟩
 all_goals refine⟨?_,rfl,trivial⟩
 ·rw [au hx,List.all_cons,rowOk] at hi
  rw [jV, ← hi];simp [h]
 all_goals (rw [aJ (l:=r.setup) (by assumption)] at hi;have e:r.setup.all rowOk=true:=hi.symm;clear hi;rw [jV,e];first|(simp [*];done)|simp_all)
theorem uV (l:List aK) (fc:Nat) (caps:List AV) (p:aK→Bool) (hc:∀x:aK,Con fc ([.d x.av]++caps.map .ref) (.d (.bool (p x)))):
  Con 163 [.d (.sl (l.map aK.av)),.fn fc caps] (.d (i64 (aO p l 0))):=by
 refine con Tryz.func163 rfl rfl Tryz.call163 rfl fun hwf=>?_
 simp only [ARs.wf,AR.wf,AV.wf,AV.wfs,lm,lim] at hwf
 (conv=>whnf)
 refine aB [0,1,7] [] [] ?_
 (conv=>whnf)
 refine aA.go ((Nat)) (fun k=>(k≤l.length)∧(aO p (l.drop k) k=aO p l 0)) (fun k=>[(8,.data (i64 k))]) (fun _=>[]) (fun _=>[]) (fun k=>l.length - k) (0) ?_ ?_
 ·exact⟨by omega,rfl⟩
 rintro k ⟨hk,hi⟩
 (repeat' ((conv=>whnf);first|refine gA ?_|(refine gB ?_ ?_<;>intro h)|(refine gI ?_;intro x hx)|(refine gJ ?_;intro j x hj hx)|refine gV ?_|refine gC (hc x) ?_|intro _))<;>try (conv=>whnf)
 all_goals first
  |exact trivial
  |(refine⟨?_,rfl,trivial⟩;rw [aJ (l:=l) (by assumption)] at hi;first|(simp_all [aO];done)|(simp only [aO, ← hi];clear hi;simp_all [aO];done))
  |(refine⟨?_,rfl,trivial⟩;rw [au (l:=l) (by assumption)] at hi;first|(simp_all [aO];done)|(simp only [aO, ← hi];clear hi;simp_all [aO];done))
  |(refine nx (k+1) ?_
    rw [au (l:=l) (by assumption)] at hi;refine⟨by omega,?_⟩;simp_all [aO];done)
theorem wo (l:List Link) (fc:Nat) (caps:List AV) (p:Link→Bool) (hc:∀x:Link,Con fc ([.d x.av]++caps.map .ref) (.d (.bool (p x)))):
  Con 166 [.d (.sl (l.map Link.av)),.fn fc caps] (.d (i64 (aO p l 0))):=by
 refine con Tryz.func166 rfl rfl Tryz.call166 rfl fun hwf=>?_
 simp only [ARs.wf,AR.wf,AV.wf,AV.wfs,lm,lim] at hwf
 (conv=>whnf)
 refine aB [0,1,7] [] [] ?_
 (conv=>whnf)
 refine aA.go ((Nat)) (fun k=>(k≤l.length)∧(aO p (l.drop k) k=aO p l 0)) (fun k=>[(8,.data (i64 k))]) (fun _=>[]) (fun _=>[]) (fun k=>l.length - k) (0) ?_ ?_
 ·exact⟨by omega,rfl⟩
 rintro k ⟨hk,hi⟩
 (repeat' ((conv=>whnf);first|refine gA ?_|(refine gB ?_ ?_<;>intro h)|(refine gI ?_;intro x hx)|(refine gJ ?_;intro j x hj hx)|refine gV ?_|refine gC (hc x) ?_|intro _))<;>try (conv=>whnf)
 all_goals first
  |exact trivial
  |(refine⟨?_,rfl,trivial⟩;rw [aJ (l:=l) (by assumption)] at hi;first|(simp_all [aO];done)|(simp only [aO, ← hi];clear hi;simp_all [aO];done))
  |(refine⟨?_,rfl,trivial⟩;rw [au (l:=l) (by assumption)] at hi;first|(simp_all [aO];done)|(simp only [aO, ← hi];clear hi;simp_all [aO];done))
  |(refine nx (k+1) ?_
    rw [au (l:=l) (by assumption)] at hi;refine⟨by omega,?_⟩;simp_all [aO];done)
theorem sG (l:List Link) (fc:Nat) (caps:List AV) (p:Link→Bool) (hc:∀x:Link,Con fc ([.d x.av]++caps.map .ref) (.d (.bool (p x)))):
  Con 118 [.d (.sl (l.map Link.av)),.fn fc caps] (.d (.bool (l.any p))):=by
 refine con Tryz.func118 rfl rfl Tryz.call118 rfl fun hwf=>?_
 (repeat' ((conv=>whnf);first|refine gA ?_|(refine gB ?_ ?_<;>intro h)|refine gC (wo l fc caps p hc) ?_|intro _))<;>try (conv=>whnf)
 refine⟨?_,rfl,trivial⟩
 rw [← tu l 0]
theorem yK (a:aK) (name:ByteArray):Con 164 [.d a.av,.ref (.str name)] (.d (.bool (decide (a.name=name)))):=by
 refine con Tryz.func164 rfl rfl Tryz.call164 rfl fun hwf=>?_
 (repeat' ((conv=>whnf);first|refine gA ?_|(refine gB ?_ ?_<;>intro h)|intro _))<;>try (conv=>whnf)
 all_goals exact⟨rfl,rfl,trivial⟩
theorem zY (p:Proj) (name:ByteArray):Con 116 [.d p.av,.d (.str name)] (.d (i64 (wX p name))):=by
 refine con Tryz.func116 rfl rfl Tryz.call116 rfl fun hwf=>?_
 (repeat' ((conv=>whnf);first|refine gA ?_|(refine gB ?_ ?_<;>intro h)|refine gC (uV p.acts 164 [.str name] _ fun x=>yK x name) ?_|intro _))<;>try (conv=>whnf)
 all_goals exact⟨rfl,rfl,trivial⟩
theorem zZ (p:Proj) (name:ByteArray):Con 140 [.d p.av,.d (.str name)] (.d (i64 (wX p name))):=by
 refine con Tryz.func140 rfl rfl Tryz.call140 rfl fun hwf=>?_
 simp only [ARs.wf,AR.wf,AV.wf,AV.wfs,lm,lim] at hwf
 (conv=>whnf)
 refine aB [1,8,9] [] [] ?_
 (conv=>whnf)
 refine aA.go ((Nat)) (fun k=>(k≤p.acts.length)∧(aO (fun a=>decide (a.name=name)) (p.acts.drop k) k=wX p name)) (fun k=>[(10,.data (i64 k))]) (fun _=>[]) (fun _=>[]) (fun k=>p.acts.length - k) (0) ?_ ?_
 ·exact⟨by omega,rfl⟩
 rintro k ⟨hk,hi⟩
 (repeat' ((conv=>whnf);first|refine gA ?_|(refine gB ?_ ?_<;>intro h)|(refine gI ?_;intro x hx)|(refine gJ ?_;intro j x hj hx)|refine gV ?_|intro _))<;>try (conv=>whnf)
 all_goals first
  |exact trivial
  |(refine⟨?_,rfl,trivial⟩;rw [aJ (l:=p.acts) (by assumption)] at hi;first|(simp_all [aO];done)|(simp only [aO, ← hi];clear hi;simp_all [aO];done))
  |(refine⟨?_,rfl,trivial⟩;rw [au (l:=p.acts) (by assumption)] at hi;first|(simp_all [aO];done)|(simp only [aO, ← hi];clear hi;simp_all [aO];done))
  |(refine nx (k+1) ?_
    rw [au (l:=p.acts) (by assumption)] at hi;refine⟨by omega,?_⟩;simp_all [aO];done)
theorem fH (p:Proj) (n:Int):Con 130 [.d p.av,.d (i64 n)] (.d (.bool (bg p n))):=by
 refine con Tryz.func130 rfl rfl Tryz.call130 rfl fun hwf=>?_
 simp only [ARs.wf,AR.wf,AV.wf,AV.wfs,lm,lim] at hwf
 (repeat' ((conv=>whnf);first|refine gA ?_|(refine gN ?_ ?_<;>intro h hw)|(refine gB ?_ ?_<;>intro h)|refine gV ?_|refine gC (aP _ _ _) ?_|intro _))<;>try (conv=>whnf)
 refine⟨?_,rfl,trivial⟩
 simp [bg]
theorem PU (p:Proj) (k:Link):Con 120 [.d p.av,.d k.av] (.d (.bool (jS p k))):=by
 refine con Tryz.func120 rfl rfl Tryz.call120 rfl fun hwf=>?_
 (repeat' ((conv=>whnf);first|refine gA ?_|(refine gN ?_ ?_<;>intro h hw)|(refine gB ?_ ?_<;>intro h)|refine gC (aP _ _ _) ?_|refine gC (fH p _) ?_|intro _))<;>try (conv=>whnf)
 all_goals refine⟨?_,rfl,trivial⟩
 all_goals simp [jS, *]
theorem Gh (p:Proj) (k:Link):Con 119 [.d k.av,.ref p.av] (.d (.bool (!jS p k))):=by
 refine con Tryz.func119 rfl rfl Tryz.call119 rfl fun hwf=>?_
 (repeat' ((conv=>whnf);first|refine gA ?_|(refine gB ?_ ?_<;>intro h)|refine gC (PU p k) ?_|intro _))<;>try (conv=>whnf)
 all_goals exact⟨rfl,rfl,trivial⟩
def Proj.fine (p:Proj):Prop:=∀a∈p.acts,a.name.size≤lim
theorem bU (p:Proj) (hp:p.fine):Con 45 [.d p.av] (.d (.bool (aL p))):=by
 refine con Tryz.func45 rfl rfl Tryz.call45 rfl fun hwf=>?_
 simp only [ARs.wf,AR.wf,AV.wf,AV.wfs,lm,lim] at hwf
 (conv=>whnf)
 (repeat' ((conv=>whnf);first|refine gA ?_|(refine gN ?_ ?_<;>intro h hw)|(refine gB ?_ ?_<;>intro h)|(refine gI ?_;intro x hx)|(refine gJ ?_;intro j x hj hx)|refine gV ?_|refine gC (aP _ _ _) ?_|intro _))<;>try (conv=>whnf)
 all_goals try (refine⟨?_,rfl,trivial⟩;simp_all [aL,oM];done)
 have e0:oM p=true:=by simp_all [oM]
 refine aB [1,39,40] [1] [] ?_
 (conv=>whnf)
 refine aA.go ((Nat)) (fun k=>(k≤p.acts.length)∧(∀i,i < k→ru p i=true)) (fun k=>[(41,.data (i64 k))]) (fun _=>[]) (fun _=>[]) (fun k=>p.acts.length - k) (0) ?_ ?_
 ·exact⟨by omega,by omega⟩
 rintro k ⟨hk,hi⟩
 (repeat' ((conv=>whnf);first|refine gA ?_|(refine gN ?_ ?_<;>intro h hw)|(refine gB ?_ ?_<;>intro h)|(refine gI ?_;intro x hx)|(refine gJ ?_;intro j x hj hx)|refine gV ?_|refine gC (Gc x _ _ (hp x (List.mem_of_getElem? hx))) ?_|refine gC (zY p x.name) ?_|intro _))<;>try (conv=>whnf)
 ·refine nx (k+1) ?_
  exact⟨by omega,iC hi (by simp_all [ru])⟩
 ·refine⟨?_,rfl,trivial⟩
  rw [aL,iI k (by omega) (by simp_all [ru])];simp
 ·refine⟨?_,rfl,trivial⟩
  rw [aL,iI k (by omega) (by simp_all [ru])];simp
 have e1:wV p.acts.length (ru p)=true:=aX.2 fun i hh=>hi i (by omega)
 clear hi
 refine aB [1,65,66] [1] [] ?_
 (conv=>whnf)
 refine aA.go ((Nat)) (fun m=>(m≤p.bS.length)∧((p.bS.drop m).all jV=p.bS.all jV)) (fun m=>[(67,.data (i64 m))]) (fun _=>[]) (fun _=>[]) (fun m=>p.bS.length - m) (0) ?_ ?_
 ·exact⟨by omega,rfl⟩
 rintro m ⟨hm,hi⟩
 (repeat' ((conv=>whnf);first|refine gA ?_|(refine gN ?_ ?_<;>intro h hw)|(refine gB ?_ ?_<;>intro h)|(refine gI ?_;intro x hx)|(refine gJ ?_;intro j x hj hx)|refine gV ?_|refine gC (Gf x) ?_|intro _))<;>try (conv=>whnf)
 ·refine nx (m+1) ?_
  rw [au hx,List.all_cons,h,Bool.true_and] at hi
  exact⟨by omega,hi⟩
 ·refine⟨?_,rfl,trivial⟩
  rw [au hx,List.all_cons,h,Bool.false_and] at hi
  rw [aL, ← hi];simp
 have e2:p.bS.all jV=true:=by rw [aJ (by assumption)] at hi;exact hi.symm
 clear hi
 refine aB [1,76,77] [1] [] ?_
 (conv=>whnf)
 refine aA.go ((Nat)) (fun n=>(n≤p.bD.length)∧((p.bD.drop n).all (fun n=>within n 0 100)=p.bD.all (fun n=>within n 0 100))) (fun n=>[(78,.data (i64 n))]) (fun _=>[]) (fun _=>[]) (fun n=>p.bD.length - n) (0) ?_ ?_
 ·exact⟨by omega,rfl⟩
 rintro n ⟨hn,hi⟩
 (repeat' ((conv=>whnf);first|refine gA ?_|(refine gN ?_ ?_<;>intro h hw)|(refine gB ?_ ?_<;>intro h)|(refine gI ?_;intro x hx)|(refine gJ ?_;intro j x hj hx)|refine gV ?_|refine gC (aP _ _ _) ?_|refine gC (sG p.links 119 [p.av] _ fun x=>Gh p x) ?_|intro _))<;>try (conv=>whnf)
 ·refine nx (n+1) ?_
  rw [au hx,List.all_cons,h,Bool.true_and] at hi
  exact⟨by omega,hi⟩
 ·refine⟨?_,rfl,trivial⟩
  rw [au hx,List.all_cons,h,Bool.false_and] at hi
  rw [aL, ← hi];simp
 have e3:p.bD.all (fun n=>within n 0 100)=true:=by rw [aJ (by assumption)] at hi;exact hi.symm
 clear hi
 refine⟨?_,rfl,trivial⟩
 rw [aL,e0,e1,e2,e3]
 simp only [Bool.true_and,AV.bool.injEq]
 rw [Bool.eq_iff_iff]
 simp
theorem IE (p:Proj) (hp:p.fine):Con 92 [.d p.av] (.d (.bool (aL p))):=by
 refine con Tryz.func92 rfl rfl Tryz.call92 rfl fun hwf=>?_
 simp only [ARs.wf,AR.wf,AV.wf,AV.wfs,lm,lim] at hwf
 (conv=>whnf)
 (repeat' ((conv=>whnf);first|refine gA ?_|(refine gN ?_ ?_<;>intro h hw)|(refine gB ?_ ?_<;>intro h)|(refine gI ?_;intro x hx)|(refine gJ ?_;intro j x hj hx)|refine gV ?_|refine gC (lM _ _ _) ?_|intro _))<;>try (conv=>whnf)
 all_goals try (refine⟨?_,rfl,trivial⟩;simp_all [aL,oM];done)
 have e0:oM p=true:=by simp_all [oM]
 refine aB [1,3,43,44] [1] [] ?_
 (conv=>whnf)
 refine aA.go ((Nat)) (fun k=>(k≤p.acts.length)∧(∀i,i < k→ru p i=true)) (fun k=>[(45,.data (i64 k))]) (fun _=>[]) (fun _=>[]) (fun k=>p.acts.length - k) (0) ?_ ?_
 ·exact⟨by omega,by omega⟩
 rintro k ⟨hk,hi⟩
 (repeat' ((conv=>whnf);first|refine gA ?_|(refine gN ?_ ?_<;>intro h hw)|(refine gB ?_ ?_<;>intro h)|(refine gI ?_;intro x hx)|(refine gJ ?_;intro j x hj hx)|refine gV ?_|refine gC (Gd x _ _ (hp x (List.mem_of_getElem? hx))) ?_|refine gC (zZ p x.name) ?_|intro _))<;>try (conv=>whnf)
 ·refine nx (k+1) ?_
  exact⟨by omega,iC hi (by simp_all [ru])⟩
 ·refine⟨?_,rfl,trivial⟩
  rw [aL,iI k (by omega) (by simp_all [ru])];simp
 ·refine⟨?_,rfl,trivial⟩
  rw [aL,iI k (by omega) (by simp_all [ru])];simp
 have e1:wV p.acts.length (ru p)=true:=aX.2 fun i hh=>hi i (by omega)
 clear hi
 refine aB [1,3,69,70] [1] [] ?_
 (conv=>whnf)
 refine aA.go ((Nat)) (fun m=>(m≤p.bS.length)∧((p.bS.drop m).all jV=p.bS.all jV)) (fun m=>[(71,.data (i64 m))]) (fun _=>[]) (fun _=>[]) (fun m=>p.bS.length - m) (0) ?_ ?_
 ·exact⟨by omega,rfl⟩
 rintro m ⟨hm,hi⟩
 (repeat' ((conv=>whnf);first|refine gA ?_|(refine gN ?_ ?_<;>intro h hw)|(refine gB ?_ ?_<;>intro h)|(refine gI ?_;intro x hx)|(refine gJ ?_;intro j x hj hx)|refine gV ?_|refine gC (Gg x) ?_|intro _))<;>try (conv=>whnf)
 ·refine nx (m+1) ?_
  rw [au hx,List.all_cons,h,Bool.true_and] at hi
  exact⟨by omega,hi⟩
 ·refine⟨?_,rfl,trivial⟩
  rw [au hx,List.all_cons,h,Bool.false_and] at hi
  rw [aL, ← hi];simp
 have e2:p.bS.all jV=true:=by rw [aJ (by assumption)] at hi;exact hi.symm
 clear hi
 refine aB [1,3,80,81] [1] [] ?_
 (conv=>whnf)
 refine aA.go ((Nat)) (fun n=>(n≤p.bD.length)∧((p.bD.drop n).all (fun n=>within n 0 100)=p.bD.all (fun n=>within n 0 100))) (fun n=>[(82,.data (i64 n))]) (fun _=>[]) (fun _=>[]) (fun n=>p.bD.length - n) (0) ?_ ?_
 ·exact⟨by omega,rfl⟩
 rintro n ⟨hn,hi⟩
 (repeat' ((conv=>whnf);first|refine gA ?_|(refine gN ?_ ?_<;>intro h hw)|(refine gB ?_ ?_<;>intro h)|(refine gI ?_;intro x hx)|(refine gJ ?_;intro j x hj hx)|refine gV ?_|refine gC (lM _ _ _) ?_|intro _))<;>try (conv=>whnf)
 ·refine nx (n+1) ?_
  rw [au hx,List.all_cons,h,Bool.true_and] at hi
  exact⟨by omega,hi⟩
 ·refine⟨?_,rfl,trivial⟩
  rw [au hx,List.all_cons,h,Bool.false_and] at hi
  rw [aL, ← hi];simp
 have e3:p.bD.all (fun n=>within n 0 100)=true:=by rw [aJ (by assumption)] at hi;exact hi.symm
 clear hi
 refine aB [3,91,92] [] [] ?_
 (conv=>whnf)
 refine aA.go ((Nat)) (fun o=>(o≤p.links.length)∧((p.links.drop o).all (jS p)=p.links.all (jS p))) (fun o=>[(93,.data (i64 o))]) (fun _=>[]) (fun _=>[]) (fun o=>p.links.length - o) (0) ?_ ?_
 ·exact⟨by omega,rfl⟩
 rintro o ⟨ho,hi⟩
 (repeat' ((conv=>whnf);first|refine gA ?_|(refine gN ?_ ?_<;>intro h hw)|(refine gB ?_ ?_<;>intro h)|(refine gI ?_;intro x hx)|(refine gJ ?_;intro j x hj hx)|refine gV ?_|refine gC (lM _ _ _) ?_|intro _))<;>try (conv=>whnf)
 all_goals first
  |(refine nx (o+1) ?_
    rw [au hx,List.all_cons,show jS p x=true by simp [jS,bg, *],Bool.true_and] at hi
    exact⟨by omega,hi⟩)
  |(refine⟨?_,rfl,trivial⟩
    rw [au hx,List.all_cons,show jS p x=false by simp [jS,bg, *],Bool.false_and] at hi
    rw [aL, ← hi];simp)
  |(refine⟨?_,rfl,trivial⟩;rw [aJ (by assumption)] at hi;rw [aL,e0,e1,e2,e3, ← hi];rfl)
end Go.Proofs.YtjfnojijdggfhaaGreat.Abs
