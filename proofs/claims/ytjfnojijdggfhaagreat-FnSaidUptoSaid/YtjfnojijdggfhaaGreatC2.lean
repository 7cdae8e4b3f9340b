/- Contracts: projects. -/
import Derived.Test.YtjfnojijdggfhaaGreatC1
set_option linter.all false
set_option maxRecDepth 20000
set_option maxHeartbeats 0
namespace Go.Proofs.YtjfnojijdggfhaaGreat.Abs
open Go.Proofs
theorem Ey (r:gH):Con 117 [.d r.av] (.d (.bool (jF r))):=by
 refine con Tryz.func117 rfl rfl Tryz.call117 rfl fun hwf=>?_
 simp only [ARs.wf,AR.wf,AV.wf,AV.wfs,lm,lim] at hwf
 (conv=>whnf)
 refine aC [1,8,9] [1] [] ?_
 (conv=>whnf)
 refine aB.go ((Nat)) (fun k=>(k≤r.setup.length)∧((r.setup.drop k).all rowOk=r.setup.all rowOk)) (fun k=>[(10,.data (i64 k))]) (fun _=>[]) (fun _=>[]) (fun k=>r.setup.length - k) (0) ?_ ?_
 ·exact⟨by omega,rfl⟩
 rintro k ⟨hk,hi⟩
 (repeat' ((conv=>whnf);first|refine gA ?_|(refine gN ?_ ?_<;>intro h hw)|(refine gB ?_ ?_<;>intro h)|(refine gI ?_;intro x hx)|(refine gJ ?_;intro j x hj hx)|refine gV ?_|refine gC (aO _ _ _) ?_|refine gC (tL r.steps) ?_|intro _))<;>try (conv=>whnf)
 ·revert x
  intro row hrow h4
  refine aC [1,8,9,10,17,18] [1] [] ?_
  (conv=>whnf)
  refine aB.go ((Nat)) (fun m=>(m≤row.length)∧((row.drop m).all (fun n=>within n 0 12)=row.all (fun n=>within n 0 12))) (fun m=>[(19,.data (i64 m))]) (fun _=>[]) (fun _=>[]) (fun m=>row.length - m) (0) ?_ ?_
  ·exact⟨by omega,rfl⟩
  rintro m ⟨hm,hj⟩
  (repeat' ((conv=>whnf);first|refine gA ?_|(refine gN ?_ ?_<;>intro h hw)|(refine gB ?_ ?_<;>intro h)|(refine gI ?_;intro x hx)|(refine gJ ?_;intro j x hj hx)|refine gV ?_|refine gC (aO _ _ _) ?_|intro _))<;>try (conv=>whnf)
  ·refine nx (m+1) ?_
   rw [au hx,List.all_cons,h,Bool.true_and] at hj
   exact⟨by omega,hj⟩
  ·refine⟨?_,rfl,trivial⟩
   rw [au hx,List.all_cons,h,Bool.false_and] at hj
   rw [au hrow,List.all_cons] at hi
   rw [jF, ← hi,rowOk, ← hj];simp
  ·refine nx (k+1) ?_
   rw [aM (by assumption)] at hj
   rw [au hrow,List.all_cons,rowOk, ← hj] at hi
   exact⟨by omega,by rw [← hi];simp [h4]⟩
 all_goals refine⟨?_,rfl,trivial⟩
 ·rw [au hx,List.all_cons,rowOk] at hi
  rw [jF, ← hi];simp [h]
 all_goals (rw [aM (l:=r.setup) (by assumption)] at hi;have e:r.setup.all rowOk=true:=hi.symm;clear hi;rw [jF,e];first|(simp [*];done)|simp_all)
theorem Ez (r:gH):Con 141 [.d r.av] (.d (.bool (jF r))):=by
 refine con Tryz.func141 rfl rfl Tryz.call141 rfl fun hwf=>?_
 simp only [ARs.wf,AR.wf,AV.wf,AV.wfs,lm,lim] at hwf
 (conv=>whnf)
 refine aC [1,8,9] [1] [] ?_
 (conv=>whnf)
 refine aB.go ((Nat)) (fun k=>(k≤r.setup.length)∧((r.setup.drop k).all rowOk=r.setup.all rowOk)) (fun k=>[(10,.data (i64 k))]) (fun _=>[]) (fun _=>[]) (fun k=>r.setup.length - k) (0) ?_ ?_
 ·exact⟨by omega,rfl⟩
 rintro k ⟨hk,hi⟩
 (repeat' ((conv=>whnf);first|refine gA ?_|(refine gN ?_ ?_<;>intro h hw)|(refine gB ?_ ?_<;>intro h)|(refine gI ?_;intro x hx)|(refine gJ ?_;intro j x hj hx)|refine gV ?_|refine gC (kV _ _ _) ?_|refine gC (LB r.steps) ?_|intro _))<;>try (conv=>whnf)
 ·revert x
  intro row hrow h4
  refine aC [1,8,9,10,17,18] [1] [] ?_
  (conv=>whnf)
  refine aB.go ((Nat)) (fun m=>(m≤row.length)∧((row.drop m).all (fun n=>within n 0 12)=row.all (fun n=>within n 0 12))) (fun m=>[(19,.data (i64 m))]) (fun _=>[]) (fun _=>[]) (fun m=>row.length - m) (0) ?_ ?_
  ·exact⟨by omega,rfl⟩
  rintro m ⟨hm,hj⟩
  (repeat' ((conv=>whnf);first|refine gA ?_|(refine gN ?_ ?_<;>intro h hw)|(refine gB ?_ ?_<;>intro h)|(refine gI ?_;intro x hx)|(refine gJ ?_;intro j x hj hx)|refine gV ?_|refine gC (kV _ _ _) ?_|intro _))<;>try (conv=>whnf)
  ·refine nx (m+1) ?_
   rw [au hx,List.all_cons,h,Bool.true_and] at hj
   exact⟨by omega,hj⟩
  ·refine⟨?_,rfl,trivial⟩
   rw [au hx,List.all_cons,h,Bool.false_and] at hj
   rw [au hrow,List.all_cons] at hi
   rw [jF, ← hi,rowOk, ← hj];simp
  ·refine nx (k+1) ?_
   rw [aM (by assumption)] at hj
   rw [au hrow,List.all_cons,rowOk, ← hj] at hi
   exact⟨by omega,by rw [← hi];simp [h4]⟩
 all_goals refine⟨?_,rfl,trivial⟩
 ·rw [au hx,List.all_cons,rowOk] at hi
  rw [jF, ← hi];simp [h]
 all_goals (rw [aM (l:=r.setup) (by assumption)] at hi;have e:r.setup.all rowOk=true:=hi.symm;clear hi;rw [jF,e];first|(simp [*];done)|simp_all)
theorem tN (l:List aJ) (fc:Nat) (caps:List AV) (p:aJ→Bool) (hc:∀x:aJ,Con fc ([.d x.av]++caps.map .ref) (.d (.bool (p x)))):
  Con 163 [.d (.sl (l.map aJ.av)),.fn fc caps] (.d (i64 (aN p l 0))):=by
 refine con Tryz.func163 rfl rfl Tryz.call163 rfl fun hwf=>?_
 simp only [ARs.wf,AR.wf,AV.wf,AV.wfs,lm,lim] at hwf
 (conv=>whnf)
 refine aC [0,1,7] [] [] ?_
 (conv=>whnf)
 refine aB.go ((Nat)) (fun k=>(k≤l.length)∧(aN p (l.drop k) k=aN p l 0)) (fun k=>[(8,.data (i64 k))]) (fun _=>[]) (fun _=>[]) (fun k=>l.length - k) (0) ?_ ?_
 ·exact⟨by omega,rfl⟩
 rintro k ⟨hk,hi⟩
 (repeat' ((conv=>whnf);first|refine gA ?_|(refine gB ?_ ?_<;>intro h)|(refine gI ?_;intro x hx)|(refine gJ ?_;intro j x hj hx)|refine gV ?_|refine gC (hc x) ?_|intro _))<;>try (conv=>whnf)
 all_goals first
  |exact trivial
  |(refine⟨?_,rfl,trivial⟩;rw [aM (l:=l) (by assumption)] at hi;first|(simp_all [aN];done)|(simp only [aN, ← hi];clear hi;simp_all [aN];done))
  |(refine⟨?_,rfl,trivial⟩;rw [au (l:=l) (by assumption)] at hi;first|(simp_all [aN];done)|(simp only [aN, ← hi];clear hi;simp_all [aN];done))
  |(refine nx (k+1) ?_
    rw [au (l:=l) (by assumption)] at hi;refine⟨by omega,?_⟩;simp_all [aN];done)
theorem uM (l:List Link) (fc:Nat) (caps:List AV) (p:Link→Bool) (hc:∀x:Link,Con fc ([.d x.av]++caps.map .ref) (.d (.bool (p x)))):
  Con 166 [.d (.sl (l.map Link.av)),.fn fc caps] (.d (i64 (aN p l 0))):=by
 refine con Tryz.func166 rfl rfl Tryz.call166 rfl fun hwf=>?_
 simp only [ARs.wf,AR.wf,AV.wf,AV.wfs,lm,lim] at hwf
 (conv=>whnf)
 refine aC [0,1,7] [] [] ?_
 (conv=>whnf)
 refine aB.go ((Nat)) (fun k=>(k≤l.length)∧(aN p (l.drop k) k=aN p l 0)) (fun k=>[(8,.data (i64 k))]) (fun _=>[]) (fun _=>[]) (fun k=>l.length - k) (0) ?_ ?_
 ·exact⟨by omega,rfl⟩
 rintro k ⟨hk,hi⟩
 (repeat' ((conv=>whnf);first|refine gA ?_|(refine gB ?_ ?_<;>intro h)|(refine gI ?_;intro x hx)|(refine gJ ?_;intro j x hj hx)|refine gV ?_|refine gC (hc x) ?_|intro _))<;>try (conv=>whnf)
 all_goals first
  |exact trivial
  |(refine⟨?_,rfl,trivial⟩;rw [aM (l:=l) (by assumption)] at hi;first|(simp_all [aN];done)|(simp only [aN, ← hi];clear hi;simp_all [aN];done))
  |(refine⟨?_,rfl,trivial⟩;rw [au (l:=l) (by assumption)] at hi;first|(simp_all [aN];done)|(simp only [aN, ← hi];clear hi;simp_all [aN];done))
  |(refine nx (k+1) ?_
    rw [au (l:=l) (by assumption)] at hi;refine⟨by omega,?_⟩;simp_all [aN];done)
theorem rE (l:List Link) (fc:Nat) (caps:List AV) (p:Link→Bool) (hc:∀x:Link,Con fc ([.d x.av]++caps.map .ref) (.d (.bool (p x)))):
  Con 118 [.d (.sl (l.map Link.av)),.fn fc caps] (.d (.bool (l.any p))):=by
 refine con Tryz.func118 rfl rfl Tryz.call118 rfl fun hwf=>?_
 (repeat' ((conv=>whnf);first|refine gA ?_|(refine gB ?_ ?_<;>intro h)|refine gC (uM l fc caps p hc) ?_|intro _))<;>try (conv=>whnf)
 refine⟨?_,rfl,trivial⟩
 rw [← rV l 0]
theorem wX (a:aJ) (name:ByteArray):Con 164 [.d a.av,.ref (.str name)] (.d (.bool (decide (a.name=name)))):=by
 refine con Tryz.func164 rfl rfl Tryz.call164 rfl fun hwf=>?_
 (repeat' ((conv=>whnf);first|refine gA ?_|(refine gB ?_ ?_<;>intro h)|intro _))<;>try (conv=>whnf)
 all_goals exact⟨rfl,rfl,trivial⟩
theorem yI (p:Proj) (name:ByteArray):Con 116 [.d p.av,.d (.str name)] (.d (i64 (vE p name))):=by
 refine con Tryz.func116 rfl rfl Tryz.call116 rfl fun hwf=>?_
 (repeat' ((conv=>whnf);first|refine gA ?_|(refine gB ?_ ?_<;>intro h)|refine gC (tN p.acts 164 [.str name] _ fun x=>wX x name) ?_|intro _))<;>try (conv=>whnf)
 all_goals exact⟨rfl,rfl,trivial⟩
theorem yJ (p:Proj) (name:ByteArray):Con 140 [.d p.av,.d (.str name)] (.d (i64 (vE p name))):=by
 refine con Tryz.func140 rfl rfl Tryz.call140 rfl fun hwf=>?_
 simp only [ARs.wf,AR.wf,AV.wf,AV.wfs,lm,lim] at hwf
 (conv=>whnf)
 refine aC [1,8,9] [] [] ?_
 (conv=>whnf)
 refine aB.go ((Nat)) (fun k=>(k≤p.acts.length)∧(aN (fun a=>decide (a.name=name)) (p.acts.drop k) k=vE p name)) (fun k=>[(10,.data (i64 k))]) (fun _=>[]) (fun _=>[]) (fun k=>p.acts.length - k) (0) ?_ ?_
 ·exact⟨by omega,rfl⟩
 rintro k ⟨hk,hi⟩
 (repeat' ((conv=>whnf);first|refine gA ?_|(refine gB ?_ ?_<;>intro h)|(refine gI ?_;intro x hx)|(refine gJ ?_;intro j x hj hx)|refine gV ?_|intro _))<;>try (conv=>whnf)
 all_goals first
  |exact trivial
  |(refine⟨?_,rfl,trivial⟩;rw [aM (l:=p.acts) (by assumption)] at hi;first|(simp_all [aN];done)|(simp only [aN, ← hi];clear hi;simp_all [aN];done))
  |(refine⟨?_,rfl,trivial⟩;rw [au (l:=p.acts) (by assumption)] at hi;first|(simp_all [aN];done)|(simp only [aN, ← hi];clear hi;simp_all [aN];done))
  |(refine nx (k+1) ?_
    rw [au (l:=p.acts) (by assumption)] at hi;refine⟨by omega,?_⟩;simp_all [aN];done)
theorem eT (p:Proj) (n:Int):Con 130 [.d p.av,.d (i64 n)] (.d (.bool (bA p n))):=by
 refine con Tryz.func130 rfl rfl Tryz.call130 rfl fun hwf=>?_
 simp only [ARs.wf,AR.wf,AV.wf,AV.wfs,lm,lim] at hwf
 (repeat' ((conv=>whnf);first|refine gA ?_|(refine gN ?_ ?_<;>intro h hw)|(refine gB ?_ ?_<;>intro h)|refine gV ?_|refine gC (aO _ _ _) ?_|intro _))<;>try (conv=>whnf)
 refine⟨?_,rfl,trivial⟩
 simp [bA]
theorem NU (p:Proj) (k:Link):Con 120 [.d p.av,.d k.av] (.d (.bool (jB p k))):=by
 refine con Tryz.func120 rfl rfl Tryz.call120 rfl fun hwf=>?_
 (repeat' ((conv=>whnf);first|refine gA ?_|(refine gN ?_ ?_<;>intro h hw)|(refine gB ?_ ?_<;>intro h)|refine gC (aO _ _ _) ?_|refine gC (eT p _) ?_|intro _))<;>try (conv=>whnf)
 all_goals refine⟨?_,rfl,trivial⟩
 all_goals simp [jB, *]
theorem EA (p:Proj) (k:Link):Con 119 [.d k.av,.ref p.av] (.d (.bool (!jB p k))):=by
 refine con Tryz.func119 rfl rfl Tryz.call119 rfl fun hwf=>?_
 (repeat' ((conv=>whnf);first|refine gA ?_|(refine gB ?_ ?_<;>intro h)|refine gC (NU p k) ?_|intro _))<;>try (conv=>whnf)
 all_goals exact⟨rfl,rfl,trivial⟩
def Proj.fine (p:Proj):Prop:=∀a∈p.acts,a.name.size≤lim
theorem bN (p:Proj) (hp:p.fine):Con 45 [.d p.av] (.d (.bool (aK p))):=by
 refine con Tryz.func45 rfl rfl Tryz.call45 rfl fun hwf=>?_
 simp only [ARs.wf,AR.wf,AV.wf,AV.wfs,lm,lim] at hwf
 (conv=>whnf)
 (repeat' ((conv=>whnf);first|refine gA ?_|(refine gN ?_ ?_<;>intro h hw)|(refine gB ?_ ?_<;>intro h)|(refine gI ?_;intro x hx)|(refine gJ ?_;intro j x hj hx)|refine gV ?_|refine gC (aO _ _ _) ?_|intro _))<;>try (conv=>whnf)
 all_goals try (refine⟨?_,rfl,trivial⟩;simp_all [aK,nW];done)
 have e0:nW p=true:=by simp_all [nW]
 refine aC [1,39,40] [1] [] ?_
 (conv=>whnf)
 refine aB.go ((Nat)) (fun k=>(k≤p.acts.length)∧(∀i,i < k→qE p i=true)) (fun k=>[(41,.data (i64 k))]) (fun _=>[]) (fun _=>[]) (fun k=>p.acts.length - k) (0) ?_ ?_
 ·exact⟨by omega,by omega⟩
 rintro k ⟨hk,hi⟩
 (repeat' ((conv=>whnf);first|refine gA ?_|(refine gN ?_ ?_<;>intro h hw)|(refine gB ?_ ?_<;>intro h)|(refine gI ?_;intro x hx)|(refine gJ ?_;intro j x hj hx)|refine gV ?_|refine gC (Ev x _ _ (hp x (List.mem_of_getElem? hx))) ?_|refine gC (yI p x.name) ?_|intro _))<;>try (conv=>whnf)
 ·refine nx (k+1) ?_
  exact⟨by omega,iP hi (by simp_all [qE])⟩
 ·refine⟨?_,rfl,trivial⟩
  rw [aK,jE k (by omega) (by simp_all [qE])];simp
 ·refine⟨?_,rfl,trivial⟩
  rw [aK,jE k (by omega) (by simp_all [qE])];simp
 have e1:wW p.acts.length (qE p)=true:=bf.2 fun i hh=>hi i (by omega)
 clear hi
 refine aC [1,65,66] [1] [] ?_
 (conv=>whnf)
 refine aB.go ((Nat)) (fun m=>(m≤p.bM.length)∧((p.bM.drop m).all jF=p.bM.all jF)) (fun m=>[(67,.data (i64 m))]) (fun _=>[]) (fun _=>[]) (fun m=>p.bM.length - m) (0) ?_ ?_
 ·exact⟨by omega,rfl⟩
 rintro m ⟨hm,hi⟩
 (repeat' ((conv=>whnf);first|refine gA ?_|(refine gN ?_ ?_<;>intro h hw)|(refine gB ?_ ?_<;>intro h)|(refine gI ?_;intro x hx)|(refine gJ ?_;intro j x hj hx)|refine gV ?_|refine gC (Ey x) ?_|intro _))<;>try (conv=>whnf)
 ·refine nx (m+1) ?_
  rw [au hx,List.all_cons,h,Bool.true_and] at hi
  exact⟨by omega,hi⟩
 ·refine⟨?_,rfl,trivial⟩
  rw [au hx,List.all_cons,h,Bool.false_and] at hi
  rw [aK, ← hi];simp
 have e2:p.bM.all jF=true:=by rw [aM (by assumption)] at hi;exact hi.symm
 clear hi
 refine aC [1,76,77] [1] [] ?_
 (conv=>whnf)
 refine aB.go ((Nat)) (fun n=>(n≤p.bn.length)∧((p.bn.drop n).all (fun n=>within n 0 100)=p.bn.all (fun n=>within n 0 100))) (fun n=>[(78,.data (i64 n))]) (fun _=>[]) (fun _=>[]) (fun n=>p.bn.length - n) (0) ?_ ?_
 ·exact⟨by omega,rfl⟩
 rintro n ⟨hn,hi⟩
 (repeat' ((conv=>whnf);first|refine gA ?_|(refine gN ?_ ?_<;>intro h hw)|(refine gB ?_ ?_<;>intro h)|(refine gI ?_;intro x hx)|(refine gJ ?_;intro j x hj hx)|refine gV ?_|refine gC (aO _ _ _) ?_|refine gC (rE p.links 119 [p.av] _ fun x=>EA p x) ?_|intro _))<;>try (conv=>whnf)
 ·refine nx (n+1) ?_
  rw [au hx,List.all_cons,h,Bool.true_and] at hi
  exact⟨by omega,hi⟩
 ·refine⟨?_,rfl,trivial⟩
  rw [au hx,List.all_cons,h,Bool.false_and] at hi
  rw [aK, ← hi];simp
 have e3:p.bn.all (fun n=>within n 0 100)=true:=by rw [aM (by assumption)] at hi;exact hi.symm
 clear hi
 refine⟨?_,rfl,trivial⟩
 rw [aK,e0,e1,e2,e3]
 simp only [Bool.true_and,AV.bool.injEq]
 rw [Bool.eq_iff_iff]
 simp
theorem Gn (p:Proj) (hp:p.fine):Con 92 [.d p.av] (.d (.bool (aK p))):=by
 refine con Tryz.func92 rfl rfl Tryz.call92 rfl fun hwf=>?_
 simp only [ARs.wf,AR.wf,AV.wf,AV.wfs,lm,lim] at hwf
 (conv=>whnf)
 (repeat' ((conv=>whnf);first|refine gA ?_|(refine gN ?_ ?_<;>intro h hw)|(refine gB ?_ ?_<;>intro h)|(refine gI ?_;intro x hx)|(refine gJ ?_;intro j x hj hx)|refine gV ?_|refine gC (kV _ _ _) ?_|intro _))<;>try (conv=>whnf)
 all_goals try (refine⟨?_,rfl,trivial⟩;simp_all [aK,nW];done)
 have e0:nW p=true:=by simp_all [nW]
 refine aC [1,3,43,44] [1] [] ?_
 (conv=>whnf)
 refine aB.go ((Nat)) (fun k=>(k≤p.acts.length)∧(∀i,i < k→qE p i=true)) (fun k=>[(45,.data (i64 k))]) (fun _=>[]) (fun _=>[]) (fun k=>p.acts.length - k) (0) ?_ ?_
 ·exact⟨by omega,by omega⟩
 rintro k ⟨hk,hi⟩
 (repeat' ((conv=>whnf);first|refine gA ?_|(refine gN ?_ ?_<;>intro h hw)|(refine gB ?_ ?_<;>intro h)|(refine gI ?_;intro x hx)|(refine gJ ?_;intro j x hj hx)|refine gV ?_|refine gC (Ew x _ _ (hp x (List.mem_of_getElem? hx))) ?_|refine gC (yJ p x.name) ?_|intro _))<;>try (conv=>whnf)
 ·refine nx (k+1) ?_
  exact⟨by omega,iP hi (by simp_all [qE])⟩
 ·refine⟨?_,rfl,trivial⟩
  rw [aK,jE k (by omega) (by simp_all [qE])];simp
 ·refine⟨?_,rfl,trivial⟩
  rw [aK,jE k (by omega) (by simp_all [qE])];simp
 have e1:wW p.acts.length (qE p)=true:=bf.2 fun i hh=>hi i (by omega)
 clear hi
 refine aC [1,3,69,70] [1] [] ?_
 (conv=>whnf)
 refine aB.go ((Nat)) (fun m=>(m≤p.bM.length)∧((p.bM.drop m).all jF=p.bM.all jF)) (fun m=>[(71,.data (i64 m))]) (fun _=>[]) (fun _=>[]) (fun m=>p.bM.length - m) (0) ?_ ?_
 ·exact⟨by omega,rfl⟩
 rintro m ⟨hm,hi⟩
 (repeat' ((conv=>whnf);first|refine gA ?_|(refine gN ?_ ?_<;>intro h hw)|(refine gB ?_ ?_<;>intro h)|(refine gI ?_;intro x hx)|(refine gJ ?_;intro j x hj hx)|refine gV ?_|refine gC (Ez x) ?_|intro _))<;>try (conv=>whnf)
 ·refine nx (m+1) ?_
  rw [au hx,List.all_cons,h,Bool.true_and] at hi
  exact⟨by omega,hi⟩
 ·refine⟨?_,rfl,trivial⟩
  rw [au hx,List.all_cons,h,Bool.false_and] at hi
  rw [aK, ← hi];simp
 have e2:p.bM.all jF=true:=by rw [aM (by assumption)] at hi;exact hi.symm
 clear hi
 refine aC [1,3,80,81] [1] [] ?_
 (conv=>whnf)
 refine aB.go ((Nat)) (fun n=>(n≤p.bn.length)∧((p.bn.drop n).all (fun n=>within n 0 100)=p.bn.all (fun n=>within n 0 100))) (fun n=>[(82,.data (i64 n))]) (fun _=>[]) (fun _=>[]) (fun n=>p.bn.length - n) (0) ?_ ?_
 ·exact⟨by omega,rfl⟩
 rintro n ⟨hn,hi⟩
 (repeat' ((conv=>whnf);first|refine gA ?_|(refine gN ?_ ?_<;>intro h hw)|(refine gB ?_ ?_<;>intro h)|(refine gI ?_;intro x hx)|(refine gJ ?_;intro j x hj hx)|refine gV ?_|refine gC (kV _ _ _) ?_|intro _))<;>try (conv=>whnf)
 ·refine nx (n+1) ?_
  rw [au hx,List.all_cons,h,Bool.true_and] at hi
  exact⟨by omega,hi⟩
 ·refine⟨?_,rfl,trivial⟩
  rw [au hx,List.all_cons,h,Bool.false_and] at hi
  rw [aK, ← hi];simp
 have e3:p.bn.all (fun n=>within n 0 100)=true:=by rw [aM (by assumption)] at hi;exact hi.symm
 clear hi
 refine aC [3,91,92] [] [] ?_
 (conv=>whnf)
 refine aB.go ((Nat)) (fun o=>(o≤p.links.length)∧((p.links.drop o).all (jB p)=p.links.all (jB p))) (fun o=>[(93,.data (i64 o))]) (fun _=>[]) (fun _=>[]) (fun o=>p.links.length - o) (0) ?_ ?_
 ·exact⟨by omega,rfl⟩
 rintro o ⟨ho,hi⟩
 (repeat' ((conv=>whnf);first|refine gA ?_|(refine gN ?_ ?_<;>intro h hw)|(refine gB ?_ ?_<;>intro h)|(refine gI ?_;intro x hx)|(refine gJ ?_;intro j x hj hx)|refine gV ?_|refine gC (kV _ _ _) ?_|intro _))<;>try (conv=>whnf)
 all_goals first
  |(refine nx (o+1) ?_
    rw [au hx,List.all_cons,show jB p x=true by simp [jB,bA, *],Bool.true_and] at hi
    exact⟨by omega,hi⟩)
  |(refine⟨?_,rfl,trivial⟩
    rw [au hx,List.all_cons,show jB p x=false by simp [jB,bA, *],Bool.false_and] at hi
    rw [aK, ← hi];simp)
  |(refine⟨?_,rfl,trivial⟩;rw [aM (by assumption)] at hi;rw [aK,e0,e1,e2,e3, ← hi];rfl)
end Go.Proofs.YtjfnojijdggfhaaGreat.Abs
