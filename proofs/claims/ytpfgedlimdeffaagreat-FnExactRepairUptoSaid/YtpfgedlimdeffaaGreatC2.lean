/- Contracts: projects. -/
import Derived.Test.YtpfgedlimdeffaaGreatC1
set_option linter.all false
set_option maxRecDepth 20000
set_option maxHeartbeats 0
namespace Go.Proofs.YtpfgedlimdeffaaGreat.Abs
open Go.Proofs
theorem Dn (r:aP):Con 120 [.d r.av] (.d (.bool (lS r))):=by
 refine con Tryz.func120 rfl rfl Tryz.call120 rfl fun hwf=>?_
 simp only [ARs.wf,AR.wf,AV.wf,AV.wfs,lm,lim] at hwf
 (conv=>whnf)
 refine aG [1,8,9] [1] [] ?_
 (conv=>whnf)
 refine aC.go ((Nat)) (fun k=>(k≤r.setup.length)∧((r.setup.drop k).all rowOk=r.setup.all rowOk)) (fun k=>[(10,.data (i64 k))]) (fun _=>[]) (fun _=>[]) (fun k=>r.setup.length - k) (0) ?_ ?_
 ·exact⟨by omega,rfl⟩
 rintro k ⟨hk,hi⟩
 (repeat' ((conv=>whnf);first|refine gA ?_|(refine gN ?_ ?_<;>intro h hw)|(refine gB ?_ ?_<;>intro h)|(refine gI ?_;intro x hx)|(refine gJ ?_;intro j x hj hx)|refine gV ?_|refine gC (bq _ _ _) ?_|refine gC (zR r.steps) ?_|intro _))<;>try (conv=>whnf)
 ·revert x
  intro row hrow h4
  refine aG [1,8,9,10,17,18] [1] [] ?_
  (conv=>whnf)
  refine aC.go ((Nat)) (fun m=>(m≤row.length)∧((row.drop m).all (fun n=>within n 0 12)=row.all (fun n=>within n 0 12))) (fun m=>[(19,.data (i64 m))]) (fun _=>[]) (fun _=>[]) (fun m=>row.length - m) (0) ?_ ?_
  ·exact⟨by omega,rfl⟩
  rintro m ⟨hm,hj⟩
  (repeat' ((conv=>whnf);first|refine gA ?_|(refine gN ?_ ?_<;>intro h hw)|(refine gB ?_ ?_<;>intro h)|(refine gI ?_;intro x hx)|(refine gJ ?_;intro j x hj hx)|refine gV ?_|refine gC (bq _ _ _) ?_|intro _))<;>try (conv=>whnf)
  ·refine nx (m+1) ?_
   rw [ay hx,List.all_cons,h,Bool.true_and] at hj
   exact⟨by omega,hj⟩
  ·refine⟨?_,rfl,trivial⟩
   rw [ay hx,List.all_cons,h,Bool.false_and] at hj
   rw [ay hrow,List.all_cons] at hi
   rw [lS, ← hi,rowOk, ← hj];simp
  ·refine nx (k+1) ?_
   rw [aQ (by assumption)] at hj
   rw [ay hrow,List.all_cons,rowOk, ← hj] at hi
   exact⟨by omega,by rw [← hi];simp [h4]⟩
 all_goals refine⟨?_,rfl,trivial⟩
 ·rw [ay hx,List.all_cons,rowOk] at hi
  rw [lS, ← hi];simp [h]
 all_goals (rw [aQ (l:=r.setup) (by assumption)] at hi;have e:r.setup.all rowOk=true:=hi.symm;clear hi;rw [lS,e];first|(simp [*];done)|simp_all)
theorem Dp (r:aP):Con 98 [.d r.av] (.d (.bool (lS r))):=by
 refine con Tryz.func98 rfl rfl Tryz.call98 rfl fun hwf=>?_
 simp only [ARs.wf,AR.wf,AV.wf,AV.wfs,lm,lim] at hwf
 (conv=>whnf)
 refine aG [1,8,9] [1] [] ?_
 (conv=>whnf)
 refine aC.go ((Nat)) (fun k=>(k≤r.setup.length)∧((r.setup.drop k).all rowOk=r.setup.all rowOk)) (fun k=>[(10,.data (i64 k))]) (fun _=>[]) (fun _=>[]) (fun k=>r.setup.length - k) (0) ?_ ?_
 ·exact⟨by omega,rfl⟩
 rintro k ⟨hk,hi⟩
 (repeat' ((conv=>whnf);first|refine gA ?_|(refine gN ?_ ?_<;>intro h hw)|(refine gB ?_ ?_<;>intro h)|(refine gI ?_;intro x hx)|(refine gJ ?_;intro j x hj hx)|refine gV ?_|refine gC (dI _ _ _) ?_|refine gC (zS r.steps) ?_|intro _))<;>try (conv=>whnf)
 ·revert x
  intro row hrow h4
  refine aG [1,8,9,10,17,18] [1] [] ?_
  (conv=>whnf)
  refine aC.go ((Nat)) (fun m=>(m≤row.length)∧((row.drop m).all (fun n=>within n 0 12)=row.all (fun n=>within n 0 12))) (fun m=>[(19,.data (i64 m))]) (fun _=>[]) (fun _=>[]) (fun m=>row.length - m) (0) ?_ ?_
  ·exact⟨by omega,rfl⟩
  rintro m ⟨hm,hj⟩
  (repeat' ((conv=>whnf);first|refine gA ?_|(refine gN ?_ ?_<;>intro h hw)|(refine gB ?_ ?_<;>intro h)|(refine gI ?_;intro x hx)|(refine gJ ?_;intro j x hj hx)|refine gV ?_|refine gC (dI _ _ _) ?_|intro _))<;>try (conv=>whnf)
  ·refine nx (m+1) ?_
   rw [ay hx,List.all_cons,h,Bool.true_and] at hj
   exact⟨by omega,hj⟩
  ·refine⟨?_,rfl,trivial⟩
   rw [ay hx,List.all_cons,h,Bool.false_and] at hj
   rw [ay hrow,List.all_cons] at hi
   rw [lS, ← hi,rowOk, ← hj];simp
  ·refine nx (k+1) ?_
   rw [aQ (by assumption)] at hj
   rw [ay hrow,List.all_cons,rowOk, ← hj] at hi
   exact⟨by omega,by rw [← hi];simp [h4]⟩
 all_goals refine⟨?_,rfl,trivial⟩
 ·rw [ay hx,List.all_cons,rowOk] at hi
  rw [lS, ← hi];simp [h]
 all_goals (rw [aQ (l:=r.setup) (by assumption)] at hi;have e:r.setup.all rowOk=true:=hi.symm;clear hi;rw [lS,e];first|(simp [*];done)|simp_all)
theorem tV (l:List au) (fc:Nat) (caps:List AV) (p:au→Bool) (hc:∀x:au,Con fc ([.d x.av]++caps.map .ref) (.d (.bool (p x)))):
  Con 153 [.d (.sl (l.map au.av)),.fn fc caps] (.d (i64 (dz p l 0))):=by
 refine con Tryz.func153 rfl rfl Tryz.call153 rfl fun hwf=>?_
 simp only [ARs.wf,AR.wf,AV.wf,AV.wfs,lm,lim] at hwf
 (conv=>whnf)
 refine aG [0,1,7] [] [] ?_
 (conv=>whnf)
 refine aC.go ((Nat)) (fun k=>(k≤l.length)∧(dz p (l.drop k) k=dz p l 0)) (fun k=>[(8,.data (i64 k))]) (fun _=>[]) (fun _=>[]) (fun k=>l.length - k) (0) ?_ ?_
 ·exact⟨by omega,rfl⟩
 rintro k ⟨hk,hi⟩
 (repeat' ((conv=>whnf);first|refine gA ?_|(refine gB ?_ ?_<;>intro h)|(refine gI ?_;intro x hx)|(refine gJ ?_;intro j x hj hx)|refine gV ?_|refine gC (hc x) ?_|intro _))<;>try (conv=>whnf)
 all_goals first
  |exact trivial
  |(refine⟨?_,rfl,trivial⟩;rw [aQ (l:=l) (by assumption)] at hi;first|(simp_all [dz];done)|(simp only [dz, ← hi];clear hi;simp_all [dz];done))
  |(refine⟨?_,rfl,trivial⟩;rw [ay (l:=l) (by assumption)] at hi;first|(simp_all [dz];done)|(simp only [dz, ← hi];clear hi;simp_all [dz];done))
  |(refine nx (k+1) ?_
    rw [ay (l:=l) (by assumption)] at hi;refine⟨by omega,?_⟩;simp_all [dz];done)
theorem uW (l:List Link) (fc:Nat) (caps:List AV) (p:Link→Bool) (hc:∀x:Link,Con fc ([.d x.av]++caps.map .ref) (.d (.bool (p x)))):
  Con 156 [.d (.sl (l.map Link.av)),.fn fc caps] (.d (i64 (dz p l 0))):=by
 refine con Tryz.func156 rfl rfl Tryz.call156 rfl fun hwf=>?_
 simp only [ARs.wf,AR.wf,AV.wf,AV.wfs,lm,lim] at hwf
 (conv=>whnf)
 refine aG [0,1,7] [] [] ?_
 (conv=>whnf)
 refine aC.go ((Nat)) (fun k=>(k≤l.length)∧(dz p (l.drop k) k=dz p l 0)) (fun k=>[(8,.data (i64 k))]) (fun _=>[]) (fun _=>[]) (fun k=>l.length - k) (0) ?_ ?_
 ·exact⟨by omega,rfl⟩
 rintro k ⟨hk,hi⟩
 (repeat' ((conv=>whnf);first|refine gA ?_|(refine gB ?_ ?_<;>intro h)|(refine gI ?_;intro x hx)|(refine gJ ?_;intro j x hj hx)|refine gV ?_|refine gC (hc x) ?_|intro _))<;>try (conv=>whnf)
 all_goals first
  |exact trivial
  |(refine⟨?_,rfl,trivial⟩;rw [aQ (l:=l) (by assumption)] at hi;first|(simp_all [dz];done)|(simp only [dz, ← hi];clear hi;simp_all [dz];done))
  |(refine⟨?_,rfl,trivial⟩;rw [ay (l:=l) (by assumption)] at hi;first|(simp_all [dz];done)|(simp only [dz, ← hi];clear hi;simp_all [dz];done))
  |(refine nx (k+1) ?_
    rw [ay (l:=l) (by assumption)] at hi;refine⟨by omega,?_⟩;simp_all [dz];done)
theorem rM (l:List Link) (fc:Nat) (caps:List AV) (p:Link→Bool) (hc:∀x:Link,Con fc ([.d x.av]++caps.map .ref) (.d (.bool (p x)))):
  Con 121 [.d (.sl (l.map Link.av)),.fn fc caps] (.d (.bool (l.any p))):=by
 refine con Tryz.func121 rfl rfl Tryz.call121 rfl fun hwf=>?_
 (repeat' ((conv=>whnf);first|refine gA ?_|(refine gB ?_ ?_<;>intro h)|refine gC (uW l fc caps p hc) ?_|intro _))<;>try (conv=>whnf)
 refine⟨?_,rfl,trivial⟩
 rw [← ER l 0]
theorem wS (a:au) (name:ByteArray):Con 154 [.d a.av,.ref (.str name)] (.d (.bool (decide (a.name=name)))):=by
 refine con Tryz.func154 rfl rfl Tryz.call154 rfl fun hwf=>?_
 (repeat' ((conv=>whnf);first|refine gA ?_|(refine gB ?_ ?_<;>intro h)|intro _))<;>try (conv=>whnf)
 all_goals exact⟨rfl,rfl,trivial⟩
theorem yx (p:Proj) (name:ByteArray):Con 119 [.d p.av,.d (.str name)] (.d (i64 (zM p name))):=by
 refine con Tryz.func119 rfl rfl Tryz.call119 rfl fun hwf=>?_
 (repeat' ((conv=>whnf);first|refine gA ?_|(refine gB ?_ ?_<;>intro h)|refine gC (tV p.acts 154 [.str name] _ fun x=>wS x name) ?_|intro _))<;>try (conv=>whnf)
 all_goals exact⟨rfl,rfl,trivial⟩
theorem yA (p:Proj) (name:ByteArray):Con 97 [.d p.av,.d (.str name)] (.d (i64 (zM p name))):=by
 refine con Tryz.func97 rfl rfl Tryz.call97 rfl fun hwf=>?_
 simp only [ARs.wf,AR.wf,AV.wf,AV.wfs,lm,lim] at hwf
 (conv=>whnf)
 refine aG [1,8,9] [] [] ?_
 (conv=>whnf)
 refine aC.go ((Nat)) (fun k=>(k≤p.acts.length)∧(dz (fun a=>decide (a.name=name)) (p.acts.drop k) k=zM p name)) (fun k=>[(10,.data (i64 k))]) (fun _=>[]) (fun _=>[]) (fun k=>p.acts.length - k) (0) ?_ ?_
 ·exact⟨by omega,rfl⟩
 rintro k ⟨hk,hi⟩
 (repeat' ((conv=>whnf);first|refine gA ?_|(refine gB ?_ ?_<;>intro h)|(refine gI ?_;intro x hx)|(refine gJ ?_;intro j x hj hx)|refine gV ?_|intro _))<;>try (conv=>whnf)
 all_goals first
  |exact trivial
  |(refine⟨?_,rfl,trivial⟩;rw [aQ (l:=p.acts) (by assumption)] at hi;first|(simp_all [dz];done)|(simp only [dz, ← hi];clear hi;simp_all [dz];done))
  |(refine⟨?_,rfl,trivial⟩;rw [ay (l:=p.acts) (by assumption)] at hi;first|(simp_all [dz];done)|(simp only [dz, ← hi];clear hi;simp_all [dz];done))
  |(refine nx (k+1) ?_
    rw [ay (l:=p.acts) (by assumption)] at hi;refine⟨by omega,?_⟩;simp_all [dz];done)
theorem kg (p:Proj) (n:Int):Con 112 [.d p.av,.d (i64 n)] (.d (.bool (bH p n))):=by
 refine con Tryz.func112 rfl rfl Tryz.call112 rfl fun hwf=>?_
 simp only [ARs.wf,AR.wf,AV.wf,AV.wfs,lm,lim] at hwf
 (repeat' ((conv=>whnf);first|refine gA ?_|(refine gN ?_ ?_<;>intro h hw)|(refine gB ?_ ?_<;>intro h)|refine gV ?_|refine gC (bq _ _ _) ?_|intro _))<;>try (conv=>whnf)
 refine⟨?_,rfl,trivial⟩
 simp [bH]
theorem MS (p:Proj) (k:Link):Con 123 [.d p.av,.d k.av] (.d (.bool (lU p k))):=by
 refine con Tryz.func123 rfl rfl Tryz.call123 rfl fun hwf=>?_
 (repeat' ((conv=>whnf);first|refine gA ?_|(refine gN ?_ ?_<;>intro h hw)|(refine gB ?_ ?_<;>intro h)|refine gC (bq _ _ _) ?_|refine gC (kg p _) ?_|intro _))<;>try (conv=>whnf)
 all_goals refine⟨?_,rfl,trivial⟩
 all_goals simp [lU, *]
theorem Dq (p:Proj) (k:Link):Con 122 [.d k.av,.ref p.av] (.d (.bool (!lU p k))):=by
 refine con Tryz.func122 rfl rfl Tryz.call122 rfl fun hwf=>?_
 (repeat' ((conv=>whnf);first|refine gA ?_|(refine gB ?_ ?_<;>intro h)|refine gC (MS p k) ?_|intro _))<;>try (conv=>whnf)
 all_goals exact⟨rfl,rfl,trivial⟩
def Proj.fine (p:Proj):Prop:=∀a∈p.acts,a.name.size≤lim
theorem jJ (p:Proj) (hp:p.fine):Con 71 [.d p.av] (.d (.bool (aY p))):=by
 refine con Tryz.func71 rfl rfl Tryz.call71 rfl fun hwf=>?_
 simp only [ARs.wf,AR.wf,AV.wf,AV.wfs,lm,lim] at hwf
 (conv=>whnf)
 (repeat' ((conv=>whnf);first|refine gA ?_|(refine gN ?_ ?_<;>intro h hw)|(refine gB ?_ ?_<;>intro h)|(refine gI ?_;intro x hx)|(refine gJ ?_;intro j x hj hx)|refine gV ?_|refine gC (bq _ _ _) ?_|intro _))<;>try (conv=>whnf)
 all_goals try (refine⟨?_,rfl,trivial⟩;simp_all [aY,rJ];done)
 have e0:rJ p=true:=by simp_all [rJ]
 refine aG [1,39,40] [1] [] ?_
 (conv=>whnf)
 refine aC.go ((Nat)) (fun k=>(k≤p.acts.length)∧(∀i,i < k→uK p i=true)) (fun k=>[(41,.data (i64 k))]) (fun _=>[]) (fun _=>[]) (fun k=>p.acts.length - k) (0) ?_ ?_
 ·exact⟨by omega,by omega⟩
 rintro k ⟨hk,hi⟩
 (repeat' ((conv=>whnf);first|refine gA ?_|(refine gN ?_ ?_<;>intro h hw)|(refine gB ?_ ?_<;>intro h)|(refine gI ?_;intro x hx)|(refine gJ ?_;intro j x hj hx)|refine gV ?_|refine gC (Dl x _ _ (hp x (List.mem_of_getElem? hx))) ?_|refine gC (yx p x.name) ?_|intro _))<;>try (conv=>whnf)
 ·refine nx (k+1) ?_
  exact⟨by omega,jv hi (by simp_all [uK])⟩
 ·refine⟨?_,rfl,trivial⟩
  rw [aY,kR k (by omega) (by simp_all [uK])];simp
 ·refine⟨?_,rfl,trivial⟩
  rw [aY,kR k (by omega) (by simp_all [uK])];simp
 have e1:Bd p.acts.length (uK p)=true:=eY.2 fun i hh=>hi i (by omega)
 clear hi
 refine aG [1,65,66] [1] [] ?_
 (conv=>whnf)
 refine aC.go ((Nat)) (fun m=>(m≤p.aU.length)∧((p.aU.drop m).all lS=p.aU.all lS)) (fun m=>[(67,.data (i64 m))]) (fun _=>[]) (fun _=>[]) (fun m=>p.aU.length - m) (0) ?_ ?_
 ·exact⟨by omega,rfl⟩
 rintro m ⟨hm,hi⟩
 (repeat' ((conv=>whnf);first|refine gA ?_|(refine gN ?_ ?_<;>intro h hw)|(refine gB ?_ ?_<;>intro h)|(refine gI ?_;intro x hx)|(refine gJ ?_;intro j x hj hx)|refine gV ?_|refine gC (Dn x) ?_|intro _))<;>try (conv=>whnf)
 ·refine nx (m+1) ?_
  rw [ay hx,List.all_cons,h,Bool.true_and] at hi
  exact⟨by omega,hi⟩
 ·refine⟨?_,rfl,trivial⟩
  rw [ay hx,List.all_cons,h,Bool.false_and] at hi
  rw [aY, ← hi];simp
 have e2:p.aU.all lS=true:=by rw [aQ (by assumption)] at hi;exact hi.symm
 clear hi
 refine aG [1,76,77] [1] [] ?_
 (conv=>whnf)
 refine aC.go ((Nat)) (fun n=>(n≤p.aL.length)∧((p.aL.drop n).all (fun n=>within n 0 100)=p.aL.all (fun n=>within n 0 100))) (fun n=>[(78,.data (i64 n))]) (fun _=>[]) (fun _=>[]) (fun n=>p.aL.length - n) (0) ?_ ?_
 ·exact⟨by omega,rfl⟩
 rintro n ⟨hn,hi⟩
 (repeat' ((conv=>whnf);first|refine gA ?_|(refine gN ?_ ?_<;>intro h hw)|(refine gB ?_ ?_<;>intro h)|(refine gI ?_;intro x hx)|(refine gJ ?_;intro j x hj hx)|refine gV ?_|refine gC (bq _ _ _) ?_|refine gC (rM p.links 122 [p.av] _ fun x=>Dq p x) ?_|intro _))<;>try (conv=>whnf)
 ·refine nx (n+1) ?_
  rw [ay hx,List.all_cons,h,Bool.true_and] at hi
  exact⟨by omega,hi⟩
 ·refine⟨?_,rfl,trivial⟩
  rw [ay hx,List.all_cons,h,Bool.false_and] at hi
  rw [aY, ← hi];simp
 have e3:p.aL.all (fun n=>within n 0 100)=true:=by rw [aQ (by assumption)] at hi;exact hi.symm
 clear hi
 refine⟨?_,rfl,trivial⟩
 rw [aY,e0,e1,e2,e3]
 simp only [Bool.true_and,AV.bool.injEq]
 rw [Bool.eq_iff_iff]
 simp
theorem mg (p:Proj) (hp:p.fine):Con 57 [.d p.av] (.d (.bool (aY p))):=by
 refine con Tryz.func57 rfl rfl Tryz.call57 rfl fun hwf=>?_
 simp only [ARs.wf,AR.wf,AV.wf,AV.wfs,lm,lim] at hwf
 (conv=>whnf)
 (repeat' ((conv=>whnf);first|refine gA ?_|(refine gN ?_ ?_<;>intro h hw)|(refine gB ?_ ?_<;>intro h)|(refine gI ?_;intro x hx)|(refine gJ ?_;intro j x hj hx)|refine gV ?_|refine gC (dI _ _ _) ?_|intro _))<;>try (conv=>whnf)
 all_goals try (refine⟨?_,rfl,trivial⟩;simp_all [aY,rJ];done)
 have e0:rJ p=true:=by simp_all [rJ]
 refine aG [1,3,43,44] [1] [] ?_
 (conv=>whnf)
 refine aC.go ((Nat)) (fun k=>(k≤p.acts.length)∧(∀i,i < k→uK p i=true)) (fun k=>[(45,.data (i64 k))]) (fun _=>[]) (fun _=>[]) (fun k=>p.acts.length - k) (0) ?_ ?_
 ·exact⟨by omega,by omega⟩
 rintro k ⟨hk,hi⟩
 (repeat' ((conv=>whnf);first|refine gA ?_|(refine gN ?_ ?_<;>intro h hw)|(refine gB ?_ ?_<;>intro h)|(refine gI ?_;intro x hx)|(refine gJ ?_;intro j x hj hx)|refine gV ?_|refine gC (Dm x _ _ (hp x (List.mem_of_getElem? hx))) ?_|refine gC (yA p x.name) ?_|intro _))<;>try (conv=>whnf)
 ·refine nx (k+1) ?_
  exact⟨by omega,jv hi (by simp_all [uK])⟩
 ·refine⟨?_,rfl,trivial⟩
  rw [aY,kR k (by omega) (by simp_all [uK])];simp
 ·refine⟨?_,rfl,trivial⟩
  rw [aY,kR k (by omega) (by simp_all [uK])];simp
 have e1:Bd p.acts.length (uK p)=true:=eY.2 fun i hh=>hi i (by omega)
 clear hi
 refine aG [1,3,69,70] [1] [] ?_
 (conv=>whnf)
 refine aC.go ((Nat)) (fun m=>(m≤p.aU.length)∧((p.aU.drop m).all lS=p.aU.all lS)) (fun m=>[(71,.data (i64 m))]) (fun _=>[]) (fun _=>[]) (fun m=>p.aU.length - m) (0) ?_ ?_
 ·exact⟨by omega,rfl⟩
 rintro m ⟨hm,hi⟩
 (repeat' ((conv=>whnf);first|refine gA ?_|(refine gN ?_ ?_<;>intro h hw)|(refine gB ?_ ?_<;>intro h)|(refine gI ?_;intro x hx)|(refine gJ ?_;intro j x hj hx)|refine gV ?_|refine gC (Dp x) ?_|intro _))<;>try (conv=>whnf)
 ·refine nx (m+1) ?_
  rw [ay hx,List.all_cons,h,Bool.true_and] at hi
  exact⟨by omega,hi⟩
 ·refine⟨?_,rfl,trivial⟩
  rw [ay hx,List.all_cons,h,Bool.false_and] at hi
  rw [aY, ← hi];simp
 have e2:p.aU.all lS=true:=by rw [aQ (by assumption)] at hi;exact hi.symm
 clear hi
 refine aG [1,3,80,81] [1] [] ?_
 (conv=>whnf)
 refine aC.go ((Nat)) (fun n=>(n≤p.aL.length)∧((p.aL.drop n).all (fun n=>within n 0 100)=p.aL.all (fun n=>within n 0 100))) (fun n=>[(82,.data (i64 n))]) (fun _=>[]) (fun _=>[]) (fun n=>p.aL.length - n) (0) ?_ ?_
 ·exact⟨by omega,rfl⟩
 rintro n ⟨hn,hi⟩
 (repeat' ((conv=>whnf);first|refine gA ?_|(refine gN ?_ ?_<;>intro h hw)|(refine gB ?_ ?_<;>intro h)|(refine gI ?_;intro x hx)|(refine gJ ?_;intro j x hj hx)|refine gV ?_|refine gC (dI _ _ _) ?_|intro _))<;>try (conv=>whnf)
 ·refine nx (n+1) ?_
  rw [ay hx,List.all_cons,h,Bool.true_and] at hi
  exact⟨by omega,hi⟩
 ·refine⟨?_,rfl,trivial⟩
  rw [ay hx,List.all_cons,h,Bool.false_and] at hi
  rw [aY, ← hi];simp
 have e3:p.aL.all (fun n=>within n 0 100)=true:=by rw [aQ (by assumption)] at hi;exact hi.symm
 clear hi
 refine aG [3,91,92] [] [] ?_
 (conv=>whnf)
 refine aC.go ((Nat)) (fun o=>(o≤p.links.length)∧((p.links.drop o).all (lU p)=p.links.all (lU p))) (fun o=>[(93,.data (i64 o))]) (fun _=>[]) (fun _=>[]) (fun o=>p.links.length - o) (0) ?_ ?_
 ·exact⟨by omega,rfl⟩
 rintro o ⟨ho,hi⟩
 (repeat' ((conv=>whnf);first|refine gA ?_|(refine gN ?_ ?_<;>intro h hw)|(refine gB ?_ ?_<;>intro h)|(refine gI ?_;intro x hx)|(refine gJ ?_;intro j x hj hx)|refine gV ?_|refine gC (dI _ _ _) ?_|intro _))<;>try (conv=>whnf)
 all_goals first
  |(refine nx (o+1) ?_
    rw [ay hx,List.all_cons,show lU p x=true by simp [lU,bH, *],Bool.true_and] at hi
    exact⟨by omega,hi⟩)
  |(refine⟨?_,rfl,trivial⟩
    rw [ay hx,List.all_cons,show lU p x=false by simp [lU,bH, *],Bool.false_and] at hi
    rw [aY, ← hi];simp)
  |(refine⟨?_,rfl,trivial⟩;rw [aQ (by assumption)] at hi;rw [aY,e0,e1,e2,e3, ← hi];rfl)
end Go.Proofs.YtpfgedlimdeffaaGreat.Abs
