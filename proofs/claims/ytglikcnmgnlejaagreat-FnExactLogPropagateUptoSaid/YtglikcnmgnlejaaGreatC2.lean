/- Contracts: projects. -/
import Derived.Test.YtglikcnmgnlejaaGreatC1
set_option linter.all false
set_option maxRecDepth 20000
set_option maxHeartbeats 0
namespace Go.Proofs.YtglikcnmgnlejaaGreat.Abs
open Go.Proofs
theorem Jf (r:aL):Con 228 [.d r.av] (.d (.bool (qc r))):=by
 refine con Tryz.func228 rfl rfl Tryz.call228 rfl fun hwf=>?_
 simp only [ARs.wf,AR.wf,AV.wf,AV.wfs,lm,lim] at hwf
 (conv=>whnf)
 refine au [1,8,9] [1] [] ?_
 (conv=>whnf)
 refine ak.go ((Nat)) (fun k=>(k≤r.setup.length)∧((r.setup.drop k).all rowOk=r.setup.all rowOk)) (fun k=>[(10,.data (i64 k))]) (fun _=>[]) (fun _=>[]) (fun k=>r.setup.length - k) (0) ?_ ?_
 ·exact⟨by omega,rfl⟩
 rintro k ⟨hk,hi⟩
 (repeat' ((conv=>whnf);first|refine gA ?_|(refine gN ?_ ?_<;>intro h hw)|(refine gB ?_ ?_<;>intro h)|(refine gI ?_;intro x hx)|(refine gJ ?_;intro j x hj hx)|refine gV ?_|refine gC (bC _ _ _) ?_|refine gC (xK r.steps) ?_|intro _))<;>try (conv=>whnf)
 ·revert x
  intro row hrow h4
  refine au [1,8,9,10,17,18] [1] [] ?_
  (conv=>whnf)
  refine ak.go ((Nat)) (fun m=>(m≤row.length)∧((row.drop m).all (fun n=>within n 0 12)=row.all (fun n=>within n 0 12))) (fun m=>[(19,.data (i64 m))]) (fun _=>[]) (fun _=>[]) (fun m=>row.length - m) (0) ?_ ?_
  ·exact⟨by omega,rfl⟩
  rintro m ⟨hm,hj⟩
  (repeat' ((conv=>whnf);first|refine gA ?_|(refine gN ?_ ?_<;>intro h hw)|(refine gB ?_ ?_<;>intro h)|(refine gI ?_;intro x hx)|(refine gJ ?_;intro j x hj hx)|refine gV ?_|refine gC (bC _ _ _) ?_|intro _))<;>try (conv=>whnf)
  ·refine nx (m+1) ?_
   rw [ay hx,List.all_cons,h,Bool.true_and] at hj
   exact⟨by omega,hj⟩
  ·refine⟨?_,rfl,trivial⟩
   rw [ay hx,List.all_cons,h,Bool.false_and] at hj
   rw [ay hrow,List.all_cons] at hi
   rw [qc, ← hi,rowOk, ← hj];simp
  ·refine nx (k+1) ?_
   rw [aG (by assumption)] at hj
   rw [ay hrow,List.all_cons,rowOk, ← hj] at hi
   exact⟨by omega,by rw [← hi];simp [h4]⟩
 all_goals refine⟨?_,rfl,trivial⟩
 ·rw [ay hx,List.all_cons,rowOk] at hi
  rw [qc, ← hi];simp [h]
 all_goals (rw [aG (l:=r.setup) (by assumption)] at hi;have e:r.setup.all rowOk=true:=hi.symm;clear hi;rw [qc,e];first|(simp [*];done)|simp_all)
theorem Jg (r:aL):Con 210 [.d r.av] (.d (.bool (qc r))):=by
 refine con Tryz.func210 rfl rfl Tryz.call210 rfl fun hwf=>?_
 simp only [ARs.wf,AR.wf,AV.wf,AV.wfs,lm,lim] at hwf
 (conv=>whnf)
 refine au [1,8,9] [1] [] ?_
 (conv=>whnf)
 refine ak.go ((Nat)) (fun k=>(k≤r.setup.length)∧((r.setup.drop k).all rowOk=r.setup.all rowOk)) (fun k=>[(10,.data (i64 k))]) (fun _=>[]) (fun _=>[]) (fun k=>r.setup.length - k) (0) ?_ ?_
 ·exact⟨by omega,rfl⟩
 rintro k ⟨hk,hi⟩
 (repeat' ((conv=>whnf);first|refine gA ?_|(refine gN ?_ ?_<;>intro h hw)|(refine gB ?_ ?_<;>intro h)|(refine gI ?_;intro x hx)|(refine gJ ?_;intro j x hj hx)|refine gV ?_|refine gC (cB _ _ _) ?_|refine gC (Ew r.steps) ?_|intro _))<;>try (conv=>whnf)
 ·revert x
  intro row hrow h4
  refine au [1,8,9,10,17,18] [1] [] ?_
  (conv=>whnf)
  refine ak.go ((Nat)) (fun m=>(m≤row.length)∧((row.drop m).all (fun n=>within n 0 12)=row.all (fun n=>within n 0 12))) (fun m=>[(19,.data (i64 m))]) (fun _=>[]) (fun _=>[]) (fun m=>row.length - m) (0) ?_ ?_
  ·exact⟨by omega,rfl⟩
  rintro m ⟨hm,hj⟩
  (repeat' ((conv=>whnf);first|refine gA ?_|(refine gN ?_ ?_<;>intro h hw)|(refine gB ?_ ?_<;>intro h)|(refine gI ?_;intro x hx)|(refine gJ ?_;intro j x hj hx)|refine gV ?_|refine gC (cB _ _ _) ?_|intro _))<;>try (conv=>whnf)
  ·refine nx (m+1) ?_
   rw [ay hx,List.all_cons,h,Bool.true_and] at hj
   exact⟨by omega,hj⟩
  ·refine⟨?_,rfl,trivial⟩
   rw [ay hx,List.all_cons,h,Bool.false_and] at hj
   rw [ay hrow,List.all_cons] at hi
   rw [qc, ← hi,rowOk, ← hj];simp
  ·refine nx (k+1) ?_
   rw [aG (by assumption)] at hj
   rw [ay hrow,List.all_cons,rowOk, ← hj] at hi
   exact⟨by omega,by rw [← hi];simp [h4]⟩
 all_goals refine⟨?_,rfl,trivial⟩
 ·rw [ay hx,List.all_cons,rowOk] at hi
  rw [qc, ← hi];simp [h]
 all_goals (rw [aG (l:=r.setup) (by assumption)] at hi;have e:r.setup.all rowOk=true:=hi.symm;clear hi;rw [qc,e];first|(simp [*];done)|simp_all)
theorem xL (l:List aC) (fc:Nat) (caps:List AV) (p:aC→Bool) (hc:∀x:aC,Con fc ([.d x.av]++caps.map .ref) (.d (.bool (p x)))):
  Con 315 [.d (.sl (l.map aC.av)),.fn fc caps] (.d (i64 (bf p l 0))):=by
 refine con Tryz.func315 rfl rfl Tryz.call315 rfl fun hwf=>?_
 simp only [ARs.wf,AR.wf,AV.wf,AV.wfs,lm,lim] at hwf
 (conv=>whnf)
 refine au [0,1,7] [] [] ?_
 (conv=>whnf)
 refine ak.go ((Nat)) (fun k=>(k≤l.length)∧(bf p (l.drop k) k=bf p l 0)) (fun k=>[(8,.data (i64 k))]) (fun _=>[]) (fun _=>[]) (fun k=>l.length - k) (0) ?_ ?_
 ·exact⟨by omega,rfl⟩
 rintro k ⟨hk,hi⟩
 (repeat' ((conv=>whnf);first|refine gA ?_|(refine gB ?_ ?_<;>intro h)|(refine gI ?_;intro x hx)|(refine gJ ?_;intro j x hj hx)|refine gV ?_|refine gC (hc x) ?_|intro _))<;>try (conv=>whnf)
 all_goals first
  |exact trivial
  |(refine⟨?_,rfl,trivial⟩;rw [aG (l:=l) (by assumption)] at hi;first|(simp_all [bf];done)|(simp only [bf, ← hi];clear hi;simp_all [bf];done))
  |(refine⟨?_,rfl,trivial⟩;rw [ay (l:=l) (by assumption)] at hi;first|(simp_all [bf];done)|(simp only [bf, ← hi];clear hi;simp_all [bf];done))
  |(refine nx (k+1) ?_
    rw [ay (l:=l) (by assumption)] at hi;refine⟨by omega,?_⟩;simp_all [bf];done)
theorem yZ (l:List Link) (fc:Nat) (caps:List AV) (p:Link→Bool) (hc:∀x:Link,Con fc ([.d x.av]++caps.map .ref) (.d (.bool (p x)))):
  Con 318 [.d (.sl (l.map Link.av)),.fn fc caps] (.d (i64 (bf p l 0))):=by
 refine con Tryz.func318 rfl rfl Tryz.call318 rfl fun hwf=>?_
 simp only [ARs.wf,AR.wf,AV.wf,AV.wfs,lm,lim] at hwf
 (conv=>whnf)
 refine au [0,1,7] [] [] ?_
 (conv=>whnf)
 refine ak.go ((Nat)) (fun k=>(k≤l.length)∧(bf p (l.drop k) k=bf p l 0)) (fun k=>[(8,.data (i64 k))]) (fun _=>[]) (fun _=>[]) (fun k=>l.length - k) (0) ?_ ?_
 ·exact⟨by omega,rfl⟩
 rintro k ⟨hk,hi⟩
 (repeat' ((conv=>whnf);first|refine gA ?_|(refine gB ?_ ?_<;>intro h)|(refine gI ?_;intro x hx)|(refine gJ ?_;intro j x hj hx)|refine gV ?_|refine gC (hc x) ?_|intro _))<;>try (conv=>whnf)
 all_goals first
  |exact trivial
  |(refine⟨?_,rfl,trivial⟩;rw [aG (l:=l) (by assumption)] at hi;first|(simp_all [bf];done)|(simp only [bf, ← hi];clear hi;simp_all [bf];done))
  |(refine⟨?_,rfl,trivial⟩;rw [ay (l:=l) (by assumption)] at hi;first|(simp_all [bf];done)|(simp only [bf, ← hi];clear hi;simp_all [bf];done))
  |(refine nx (k+1) ?_
    rw [ay (l:=l) (by assumption)] at hi;refine⟨by omega,?_⟩;simp_all [bf];done)
theorem vN (l:List Link) (fc:Nat) (caps:List AV) (p:Link→Bool) (hc:∀x:Link,Con fc ([.d x.av]++caps.map .ref) (.d (.bool (p x)))):
  Con 229 [.d (.sl (l.map Link.av)),.fn fc caps] (.d (.bool (l.any p))):=by
 refine con Tryz.func229 rfl rfl Tryz.call229 rfl fun hwf=>?_
 (repeat' ((conv=>whnf);first|refine gA ?_|(refine gB ?_ ?_<;>intro h)|refine gC (yZ l fc caps p hc) ?_|intro _))<;>try (conv=>whnf)
 refine⟨?_,rfl,trivial⟩
 rw [← zF l 0]
theorem Bg (a:aC) (name:ByteArray):Con 316 [.d a.av,.ref (.str name)] (.d (.bool (decide (a.name=name)))):=by
 refine con Tryz.func316 rfl rfl Tryz.call316 rfl fun hwf=>?_
 (repeat' ((conv=>whnf);first|refine gA ?_|(refine gB ?_ ?_<;>intro h)|intro _))<;>try (conv=>whnf)
 all_goals exact⟨rfl,rfl,trivial⟩
theorem CW (p:Proj) (name:ByteArray):Con 227 [.d p.av,.d (.str name)] (.d (i64 (Er p name))):=by
 refine con Tryz.func227 rfl rfl Tryz.call227 rfl fun hwf=>?_
 (repeat' ((conv=>whnf);first|refine gA ?_|(refine gB ?_ ?_<;>intro h)|refine gC (xL p.acts 316 [.str name] _ fun x=>Bg x name) ?_|intro _))<;>try (conv=>whnf)
 all_goals exact⟨rfl,rfl,trivial⟩
theorem CX (p:Proj) (name:ByteArray):Con 209 [.d p.av,.d (.str name)] (.d (i64 (Er p name))):=by
 refine con Tryz.func209 rfl rfl Tryz.call209 rfl fun hwf=>?_
 simp only [ARs.wf,AR.wf,AV.wf,AV.wfs,lm,lim] at hwf
 (conv=>whnf)
 refine au [1,8,9] [] [] ?_
 (conv=>whnf)
 refine ak.go ((Nat)) (fun k=>(k≤p.acts.length)∧(bf (fun a=>decide (a.name=name)) (p.acts.drop k) k=Er p name)) (fun k=>[(10,.data (i64 k))]) (fun _=>[]) (fun _=>[]) (fun k=>p.acts.length - k) (0) ?_ ?_
 ·exact⟨by omega,rfl⟩
 rintro k ⟨hk,hi⟩
 (repeat' ((conv=>whnf);first|refine gA ?_|(refine gB ?_ ?_<;>intro h)|(refine gI ?_;intro x hx)|(refine gJ ?_;intro j x hj hx)|refine gV ?_|intro _))<;>try (conv=>whnf)
 all_goals first
  |exact trivial
  |(refine⟨?_,rfl,trivial⟩;rw [aG (l:=p.acts) (by assumption)] at hi;first|(simp_all [bf];done)|(simp only [bf, ← hi];clear hi;simp_all [bf];done))
  |(refine⟨?_,rfl,trivial⟩;rw [ay (l:=p.acts) (by assumption)] at hi;first|(simp_all [bf];done)|(simp only [bf, ← hi];clear hi;simp_all [bf];done))
  |(refine nx (k+1) ?_
    rw [ay (l:=p.acts) (by assumption)] at hi;refine⟨by omega,?_⟩;simp_all [bf];done)
theorem gX (p:Proj) (n:Int):Con 159 [.d p.av,.d (i64 n)] (.d (.bool (dz p n))):=by
 refine con Tryz.func159 rfl rfl Tryz.call159 rfl fun hwf=>?_
 simp only [ARs.wf,AR.wf,AV.wf,AV.wfs,lm,lim] at hwf
 (repeat' ((conv=>whnf);first|refine gA ?_|(refine gN ?_ ?_<;>intro h hw)|(refine gB ?_ ?_<;>intro h)|refine gV ?_|refine gC (bC _ _ _) ?_|intro _))<;>try (conv=>whnf)
 refine⟨?_,rfl,trivial⟩
 simp [dz]
theorem Tx (p:Proj) (k:Link):Con 231 [.d p.av,.d k.av] (.d (.bool (nW p k))):=by
 refine con Tryz.func231 rfl rfl Tryz.call231 rfl fun hwf=>?_
 (repeat' ((conv=>whnf);first|refine gA ?_|(refine gN ?_ ?_<;>intro h hw)|(refine gB ?_ ?_<;>intro h)|refine gC (bC _ _ _) ?_|refine gC (gX p _) ?_|intro _))<;>try (conv=>whnf)
 all_goals refine⟨?_,rfl,trivial⟩
 all_goals simp [nW, *]
theorem Jh (p:Proj) (k:Link):Con 230 [.d k.av,.ref p.av] (.d (.bool (!nW p k))):=by
 refine con Tryz.func230 rfl rfl Tryz.call230 rfl fun hwf=>?_
 (repeat' ((conv=>whnf);first|refine gA ?_|(refine gB ?_ ?_<;>intro h)|refine gC (Tx p k) ?_|intro _))<;>try (conv=>whnf)
 all_goals exact⟨rfl,rfl,trivial⟩
def Proj.fine (p:Proj):Prop:=∀a∈p.acts,a.name.size≤lim
theorem dA (p:Proj) (hp:p.fine):Con 120 [.d p.av] (.d (.bool (bE p))):=by
 refine con Tryz.func120 rfl rfl Tryz.call120 rfl fun hwf=>?_
 simp only [ARs.wf,AR.wf,AV.wf,AV.wfs,lm,lim] at hwf
 (conv=>whnf)
 (repeat' ((conv=>whnf);first|refine gA ?_|(refine gN ?_ ?_<;>intro h hw)|(refine gB ?_ ?_<;>intro h)|(refine gI ?_;intro x hx)|(refine gJ ?_;intro j x hj hx)|refine gV ?_|refine gC (bC _ _ _) ?_|intro _))<;>try (conv=>whnf)
 all_goals try (refine⟨?_,rfl,trivial⟩;simp_all [bE,tN];done)
 have e0:tN p=true:=by simp_all [tN]
 refine au [1,39,40] [1] [] ?_
 (conv=>whnf)
 refine ak.go ((Nat)) (fun k=>(k≤p.acts.length)∧(∀i,i < k→yL p i=true)) (fun k=>[(41,.data (i64 k))]) (fun _=>[]) (fun _=>[]) (fun k=>p.acts.length - k) (0) ?_ ?_
 ·exact⟨by omega,by omega⟩
 rintro k ⟨hk,hi⟩
 (repeat' ((conv=>whnf);first|refine gA ?_|(refine gN ?_ ?_<;>intro h hw)|(refine gB ?_ ?_<;>intro h)|(refine gI ?_;intro x hx)|(refine gJ ?_;intro j x hj hx)|refine gV ?_|refine gC (Jd x _ _ (hp x (List.mem_of_getElem? hx))) ?_|refine gC (CW p x.name) ?_|intro _))<;>try (conv=>whnf)
 ·refine nx (k+1) ?_
  exact⟨by omega,gU hi (by simp_all [yL])⟩
 ·refine⟨?_,rfl,trivial⟩
  rw [bE,iw k (by omega) (by simp_all [yL])];simp
 ·refine⟨?_,rfl,trivial⟩
  rw [bE,iw k (by omega) (by simp_all [yL])];simp
 have e1:Ep p.acts.length (yL p)=true:=dN.2 fun i hh=>hi i (by omega)
 clear hi
 refine au [1,65,66] [1] [] ?_
 (conv=>whnf)
 refine ak.go ((Nat)) (fun m=>(m≤p.aU.length)∧((p.aU.drop m).all qc=p.aU.all qc)) (fun m=>[(67,.data (i64 m))]) (fun _=>[]) (fun _=>[]) (fun m=>p.aU.length - m) (0) ?_ ?_
 ·exact⟨by omega,rfl⟩
 rintro m ⟨hm,hi⟩
 (repeat' ((conv=>whnf);first|refine gA ?_|(refine gN ?_ ?_<;>intro h hw)|(refine gB ?_ ?_<;>intro h)|(refine gI ?_;intro x hx)|(refine gJ ?_;intro j x hj hx)|refine gV ?_|refine gC (Jf x) ?_|intro _))<;>try (conv=>whnf)
 ·refine nx (m+1) ?_
  rw [ay hx,List.all_cons,h,Bool.true_and] at hi
  exact⟨by omega,hi⟩
 ·refine⟨?_,rfl,trivial⟩
  rw [ay hx,List.all_cons,h,Bool.false_and] at hi
  rw [bE, ← hi];simp
 have e2:p.aU.all qc=true:=by rw [aG (by assumption)] at hi;exact hi.symm
 clear hi
 refine au [1,76,77] [1] [] ?_
 (conv=>whnf)
 refine ak.go ((Nat)) (fun n=>(n≤p.aO.length)∧((p.aO.drop n).all (fun n=>within n 0 100)=p.aO.all (fun n=>within n 0 100))) (fun n=>[(78,.data (i64 n))]) (fun _=>[]) (fun _=>[]) (fun n=>p.aO.length - n) (0) ?_ ?_
 ·exact⟨by omega,rfl⟩
 rintro n ⟨hn,hi⟩
 (repeat' ((conv=>whnf);first|refine gA ?_|(refine gN ?_ ?_<;>intro h hw)|(refine gB ?_ ?_<;>intro h)|(refine gI ?_;intro x hx)|(refine gJ ?_;intro j x hj hx)|refine gV ?_|refine gC (bC _ _ _) ?_|refine gC (vN p.links 230 [p.av] _ fun x=>Jh p x) ?_|intro _))<;>try (conv=>whnf)
 ·refine nx (n+1) ?_
  rw [ay hx,List.all_cons,h,Bool.true_and] at hi
  exact⟨by omega,hi⟩
 ·refine⟨?_,rfl,trivial⟩
  rw [ay hx,List.all_cons,h,Bool.false_and] at hi
  rw [bE, ← hi];simp
 have e3:p.aO.all (fun n=>within n 0 100)=true:=by rw [aG (by assumption)] at hi;exact hi.symm
 clear hi
 refine⟨?_,rfl,trivial⟩
 rw [bE,e0,e1,e2,e3]
 simp only [Bool.true_and,AV.bool.injEq]
 rw [Bool.eq_iff_iff]
 simp
theorem dO (p:Proj) (hp:p.fine):Con 106 [.d p.av] (.d (.bool (bE p))):=by
 refine con Tryz.func106 rfl rfl Tryz.call106 rfl fun hwf=>?_
 simp only [ARs.wf,AR.wf,AV.wf,AV.wfs,lm,lim] at hwf
 (conv=>whnf)
 (repeat' ((conv=>whnf);first|refine gA ?_|(refine gN ?_ ?_<;>intro h hw)|(refine gB ?_ ?_<;>intro h)|(refine gI ?_;intro x hx)|(refine gJ ?_;intro j x hj hx)|refine gV ?_|refine gC (cB _ _ _) ?_|intro _))<;>try (conv=>whnf)
 all_goals try (refine⟨?_,rfl,trivial⟩;simp_all [bE,tN];done)
 have e0:tN p=true:=by simp_all [tN]
 refine au [1,3,43,44] [1] [] ?_
 (conv=>whnf)
 refine ak.go ((Nat)) (fun k=>(k≤p.acts.length)∧(∀i,i < k→yL p i=true)) (fun k=>[(45,.data (i64 k))]) (fun _=>[]) (fun _=>[]) (fun k=>p.acts.length - k) (0) ?_ ?_
 ·exact⟨by omega,by omega⟩
 rintro k ⟨hk,hi⟩
 (repeat' ((conv=>whnf);first|refine gA ?_|(refine gN ?_ ?_<;>intro h hw)|(refine gB ?_ ?_<;>intro h)|(refine gI ?_;intro x hx)|(refine gJ ?_;intro j x hj hx)|refine gV ?_|refine gC (Je x _ _ (hp x (List.mem_of_getElem? hx))) ?_|refine gC (CX p x.name) ?_|intro _))<;>try (conv=>whnf)
 ·refine nx (k+1) ?_
  exact⟨by omega,gU hi (by simp_all [yL])⟩
 ·refine⟨?_,rfl,trivial⟩
  rw [bE,iw k (by omega) (by simp_all [yL])];simp
 ·refine⟨?_,rfl,trivial⟩
  rw [bE,iw k (by omega) (by simp_all [yL])];simp
 have e1:Ep p.acts.length (yL p)=true:=dN.2 fun i hh=>hi i (by omega)
 clear hi
 refine au [1,3,69,70] [1] [] ?_
 (conv=>whnf)
 refine ak.go ((Nat)) (fun m=>(m≤p.aU.length)∧((p.aU.drop m).all qc=p.aU.all qc)) (fun m=>[(71,.data (i64 m))]) (fun _=>[]) (fun _=>[]) (fun m=>p.aU.length - m) (0) ?_ ?_
 ·exact⟨by omega,rfl⟩
 rintro m ⟨hm,hi⟩
 (repeat' ((conv=>whnf);first|refine gA ?_|(refine gN ?_ ?_<;>intro h hw)|(refine gB ?_ ?_<;>intro h)|(refine gI ?_;intro x hx)|(refine gJ ?_;intro j x hj hx)|refine gV ?_|refine gC (Jg x) ?_|intro _))<;>try (conv=>whnf)
 ·refine nx (m+1) ?_
  rw [ay hx,List.all_cons,h,Bool.true_and] at hi
  exact⟨by omega,hi⟩
 ·refine⟨?_,rfl,trivial⟩
  rw [ay hx,List.all_cons,h,Bool.false_and] at hi
  rw [bE, ← hi];simp
 have e2:p.aU.all qc=true:=by rw [aG (by assumption)] at hi;exact hi.symm
 clear hi
 refine au [1,3,80,81] [1] [] ?_
 (conv=>whnf)
 refine ak.go ((Nat)) (fun n=>(n≤p.aO.length)∧((p.aO.drop n).all (fun n=>within n 0 100)=p.aO.all (fun n=>within n 0 100))) (fun n=>[(82,.data (i64 n))]) (fun _=>[]) (fun _=>[]) (fun n=>p.aO.length - n) (0) ?_ ?_
 ·exact⟨by omega,rfl⟩
 rintro n ⟨hn,hi⟩
 (repeat' ((conv=>whnf);first|refine gA ?_|(refine gN ?_ ?_<;>intro h hw)|(refine gB ?_ ?_<;>intro h)|(refine gI ?_;intro x hx)|(refine gJ ?_;intro j x hj hx)|refine gV ?_|refine gC (cB _ _ _) ?_|intro _))<;>try (conv=>whnf)
 ·refine nx (n+1) ?_
  rw [ay hx,List.all_cons,h,Bool.true_and] at hi
  exact⟨by omega,hi⟩
 ·refine⟨?_,rfl,trivial⟩
  rw [ay hx,List.all_cons,h,Bool.false_and] at hi
  rw [bE, ← hi];simp
 have e3:p.aO.all (fun n=>within n 0 100)=true:=by rw [aG (by assumption)] at hi;exact hi.symm
 clear hi
 refine au [3,91,92] [] [] ?_
 (conv=>whnf)
 refine ak.go ((Nat)) (fun o=>(o≤p.links.length)∧((p.links.drop o).all (nW p)=p.links.all (nW p))) (fun o=>[(93,.data (i64 o))]) (fun _=>[]) (fun _=>[]) (fun o=>p.links.length - o) (0) ?_ ?_
 ·exact⟨by omega,rfl⟩
 rintro o ⟨ho,hi⟩
 (repeat' ((conv=>whnf);first|refine gA ?_|(refine gN ?_ ?_<;>intro h hw)|(refine gB ?_ ?_<;>intro h)|(refine gI ?_;intro x hx)|(refine gJ ?_;intro j x hj hx)|refine gV ?_|refine gC (cB _ _ _) ?_|intro _))<;>try (conv=>whnf)
 all_goals first
  |(refine nx (o+1) ?_
    rw [ay hx,List.all_cons,show nW p x=true by simp [nW,dz, *],Bool.true_and] at hi
    exact⟨by omega,hi⟩)
  |(refine⟨?_,rfl,trivial⟩
    rw [ay hx,List.all_cons,show nW p x=false by simp [nW,dz, *],Bool.false_and] at hi
    rw [bE, ← hi];simp)
  |(refine⟨?_,rfl,trivial⟩;rw [aG (by assumption)] at hi;rw [bE,e0,e1,e2,e3, ← hi];rfl)
end Go.Proofs.YtglikcnmgnlejaaGreat.Abs
