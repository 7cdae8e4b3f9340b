/- Part of a proof. -/
import Derived.Test.YthegbfgeochckaaGreatC1
set_option linter.all false
set_option maxRecDepth 20000
set_option maxHeartbeats 0
namespace Go.Proofs.YthegbfgeochckaaGreat.Abs
open Go.Proofs
theorem Ms (r:aK):Con 143 [.d r.av] (.d (.bool (sF r))):=by
 refine con Tryz.func143 rfl rfl Tryz.call143 rfl fun hwf=>?_
 simp only [ARs.wf,AR.wf,AV.wf,AV.wfs,lm,lim] at hwf
 (conv=>whnf)
 refine ay [1,8,9] [1] [] ?_
 (conv=>whnf)
 refine au.go ((Nat)) (fun k=>(k<=r.setup.length)/\((r.setup.drop k).all rowOk=r.setup.all rowOk)) (fun k=>[(10,.data (i64 k))]) lE lE (fun k=>r.setup.length - k) (0) ?_ ?_
 ·exact⟨by omega,rfl⟩
 rintro k ⟨hk,hi⟩
 (repeat' ((conv=>whnf);first|refine gA ?_|(refine gB ?_ ?_<;>intro h)|(refine gI ?_;intro x hx)|refine gC (Ad r.steps) ?_|intro _))<;>try (conv=>whnf)
 ·revert x
  intro row hrow h4
  refine ay [1,8,9,10,17,18] [1] [] ?_
  (conv=>whnf)
  refine au.go ((Nat)) (fun m=>(m<=row.length)/\((row.drop m).all (fun n=>within n 0 12)=row.all (fun n=>within n 0 12))) (fun m=>[(19,.data (i64 m))]) lE lE (fun m=>row.length - m) (0) ?_ ?_
  ·exact⟨by omega,rfl⟩
  rintro m ⟨hm,hj⟩
  (repeat' ((conv=>whnf);first|refine gA ?_|(refine gN ?_ ?_<;>intro h hw)|(refine gB ?_ ?_<;>intro h)|(refine gI ?_;intro x hx)|refine gC (bO _ _ _) ?_|intro _))<;>try (conv=>whnf)
  ·refine nx (m+1) ?_
   rw [aA hx,List.all_cons,h,Bool.true_and] at hj
   exact⟨by omega,hj⟩
  ·refine⟨?_,rfl,trivial⟩
   rw [aA hx,List.all_cons,h,Bool.false_and] at hj
   rw [aA hrow,List.all_cons] at hi
   rw [sF, <- hi,rowOk, <- hj];simp
  ·refine nx (k+1) ?_
   rw [aG (by assumption)] at hj
   rw [aA hrow,List.all_cons,rowOk, <- hj] at hi
   exact⟨by omega,by rw [<- hi];simp [h4]⟩
 all_goals refine⟨?_,rfl,trivial⟩
 ·rw [aA hx,List.all_cons,rowOk] at hi
  rw [sF, <- hi];simp [h]
 all_goals (rw [aG (l:=r.setup) (by assumption)] at hi;have e:r.setup.all rowOk=true:=hi.symm;clear hi;rw [sF,e];first|(simp [*];done)|simp_all)
theorem Mt (r:aK):Con 115 [.d r.av] (.d (.bool (sF r))):=by
 refine con Tryz.func115 rfl rfl Tryz.call115 rfl fun hwf=>?_
 simp only [ARs.wf,AR.wf,AV.wf,AV.wfs,lm,lim] at hwf
 (conv=>whnf)
 refine ay [1,8,9] [1] [] ?_
 (conv=>whnf)
 refine au.go ((Nat)) (fun k=>(k<=r.setup.length)/\((r.setup.drop k).all rowOk=r.setup.all rowOk)) (fun k=>[(10,.data (i64 k))]) lE lE (fun k=>r.setup.length - k) (0) ?_ ?_
 ·exact⟨by omega,rfl⟩
 rintro k ⟨hk,hi⟩
 (repeat' ((conv=>whnf);first|refine gA ?_|(refine gB ?_ ?_<;>intro h)|(refine gI ?_;intro x hx)|refine gC (IG r.steps) ?_|intro _))<;>try (conv=>whnf)
 ·revert x
  intro row hrow h4
  refine ay [1,8,9,10,17,18] [1] [] ?_
  (conv=>whnf)
  refine au.go ((Nat)) (fun m=>(m<=row.length)/\((row.drop m).all (fun n=>within n 0 12)=row.all (fun n=>within n 0 12))) (fun m=>[(19,.data (i64 m))]) lE lE (fun m=>row.length - m) (0) ?_ ?_
  ·exact⟨by omega,rfl⟩
  rintro m ⟨hm,hj⟩
  (repeat' ((conv=>whnf);first|refine gA ?_|(refine gN ?_ ?_<;>intro h hw)|(refine gB ?_ ?_<;>intro h)|(refine gI ?_;intro x hx)|refine gC (dG _ _ _) ?_|intro _))<;>try (conv=>whnf)
  ·refine nx (m+1) ?_
   rw [aA hx,List.all_cons,h,Bool.true_and] at hj
   exact⟨by omega,hj⟩
  ·refine⟨?_,rfl,trivial⟩
   rw [aA hx,List.all_cons,h,Bool.false_and] at hj
   rw [aA hrow,List.all_cons] at hi
   rw [sF, <- hi,rowOk, <- hj];simp
  ·refine nx (k+1) ?_
   rw [aG (by assumption)] at hj
   rw [aA hrow,List.all_cons,rowOk, <- hj] at hi
   exact⟨by omega,by rw [<- hi];simp [h4]⟩
 all_goals refine⟨?_,rfl,trivial⟩
 ·rw [aA hx,List.all_cons,rowOk] at hi
  rw [sF, <- hi];simp [h]
 all_goals (rw [aG (l:=r.setup) (by assumption)] at hi;have e:r.setup.all rowOk=true:=hi.symm;clear hi;rw [sF,e];first|(simp [*];done)|simp_all)
theorem Ae (l:List aB) (fc:Nat) (caps:List AV) (p:aB->Bool) (hc:∀x:aB,Con fc ([.d x.av]++caps.map .ref) (.d (.bool (p x)))):
  Con 224 [.d (.sl (l.map aB.av)),.fn fc caps] (.d (i64 (bn p l 0))):=by
 refine con Tryz.func224 rfl rfl Tryz.call224 rfl fun hwf=>?_
 simp only [ARs.wf,AR.wf,AV.wf,AV.wfs,lm,lim] at hwf
 (conv=>whnf)
 refine ay [0,1,7] [] [] ?_
 (conv=>whnf)
 refine au.go ((Nat)) (fun k=>(k<=l.length)/\(bn p (l.drop k) k=bn p l 0)) (fun k=>[(8,.data (i64 k))]) lE lE (fun k=>l.length - k) (0) ?_ ?_
 ·exact⟨by omega,rfl⟩
 rintro k ⟨hk,hi⟩
 (repeat' ((conv=>whnf);first|refine gA ?_|(refine gB ?_ ?_<;>intro h)|(refine gI ?_;intro x hx)|refine gC (hc x) ?_|intro _))<;>try (conv=>whnf)
 all_goals first
  |exact trivial
  |(refine⟨?_,rfl,trivial⟩;rw [aG (l:=l) (by assumption)] at hi;first|(simp_all [bn];done)|(simp only [bn, <- hi];clear hi;simp_all [bn];done))
  |(refine⟨?_,rfl,trivial⟩;rw [aA (l:=l) (by assumption)] at hi;first|(simp_all [bn];done)|(simp only [bn, <- hi];clear hi;simp_all [bn];done))
  |(refine nx (k+1) ?_
    rw [aA (l:=l) (by assumption)] at hi;refine⟨by omega,?_⟩;simp_all [bn];done)
theorem BI (l:List Link) (fc:Nat) (caps:List AV) (p:Link->Bool) (hc:∀x:Link,Con fc ([.d x.av]++caps.map .ref) (.d (.bool (p x)))):
  Con 227 [.d (.sl (l.map Link.av)),.fn fc caps] (.d (i64 (bn p l 0))):=by
 refine con Tryz.func227 rfl rfl Tryz.call227 rfl fun hwf=>?_
 simp only [ARs.wf,AR.wf,AV.wf,AV.wfs,lm,lim] at hwf
 (conv=>whnf)
 refine ay [0,1,7] [] [] ?_
 (conv=>whnf)
 refine au.go ((Nat)) (fun k=>(k<=l.length)/\(bn p (l.drop k) k=bn p l 0)) (fun k=>[(8,.data (i64 k))]) lE lE (fun k=>l.length - k) (0) ?_ ?_
 ·exact⟨by omega,rfl⟩
 rintro k ⟨hk,hi⟩
 (repeat' ((conv=>whnf);first|refine gA ?_|(refine gB ?_ ?_<;>intro h)|(refine gI ?_;intro x hx)|refine gC (hc x) ?_|intro _))<;>try (conv=>whnf)
 all_goals first
  |exact trivial
  |(refine⟨?_,rfl,trivial⟩;rw [aG (l:=l) (by assumption)] at hi;first|(simp_all [bn];done)|(simp only [bn, <- hi];clear hi;simp_all [bn];done))
  |(refine⟨?_,rfl,trivial⟩;rw [aA (l:=l) (by assumption)] at hi;first|(simp_all [bn];done)|(simp only [bn, <- hi];clear hi;simp_all [bn];done))
  |(refine nx (k+1) ?_
    rw [aA (l:=l) (by assumption)] at hi;refine⟨by omega,?_⟩;simp_all [bn];done)
theorem yK (l:List Link) (fc:Nat) (caps:List AV) (p:Link->Bool) (hc:∀x:Link,Con fc ([.d x.av]++caps.map .ref) (.d (.bool (p x)))):
  Con 144 [.d (.sl (l.map Link.av)),.fn fc caps] (.d (.bool (l.any p))):=by
 refine con Tryz.func144 rfl rfl Tryz.call144 rfl fun hwf=>?_
 (repeat' ((conv=>whnf);first|refine gA ?_|refine gC (BI l fc caps p hc) ?_|intro _))
 refine⟨?_,rfl,trivial⟩
 rw [<- Ch l 0]
theorem Et (a:aB) (name:ByteArray):Con 225 [.d a.av,.ref (.str name)] (.d (.bool (decide (a.name=name)))):=by
 refine con Tryz.func225 rfl rfl Tryz.call225 rfl fun hwf=>?_
 try (conv=>whnf)
 all_goals exact⟨rfl,rfl,trivial⟩
theorem Gj (p:Proj) (name:ByteArray):Con 142 [.d p.av,.d (.str name)] (.d (i64 (Iw p name))):=by
 refine con Tryz.func142 rfl rfl Tryz.call142 rfl fun hwf=>?_
 (repeat' ((conv=>whnf);first|refine gA ?_|refine gC (Ae p.acts 225 [.str name] _ fun x=>Et x name) ?_|intro _))
 all_goals exact⟨rfl,rfl,trivial⟩
theorem Gl (p:Proj) (name:ByteArray):Con 114 [.d p.av,.d (.str name)] (.d (i64 (Iw p name))):=by
 refine con Tryz.func114 rfl rfl Tryz.call114 rfl fun hwf=>?_
 simp only [ARs.wf,AR.wf,AV.wf,AV.wfs,lm,lim] at hwf
 (conv=>whnf)
 refine ay [1,8,9] [] [] ?_
 (conv=>whnf)
 refine au.go ((Nat)) (fun k=>(k<=p.acts.length)/\(bn (fun a=>decide (a.name=name)) (p.acts.drop k) k=Iw p name)) (fun k=>[(10,.data (i64 k))]) lE lE (fun k=>p.acts.length - k) (0) ?_ ?_
 ·exact⟨by omega,rfl⟩
 rintro k ⟨hk,hi⟩
 (repeat' ((conv=>whnf);first|refine gA ?_|(refine gB ?_ ?_<;>intro h)|(refine gI ?_;intro x hx)))<;>try (conv=>whnf)
 all_goals first
  |exact trivial
  |(refine⟨?_,rfl,trivial⟩;rw [aG (l:=p.acts) (by assumption)] at hi;first|(simp_all [bn];done)|(simp only [bn, <- hi];clear hi;simp_all [bn];done))
  |(refine⟨?_,rfl,trivial⟩;rw [aA (l:=p.acts) (by assumption)] at hi;first|(simp_all [bn];done)|(simp only [bn, <- hi];clear hi;simp_all [bn];done))
  |(refine nx (k+1) ?_
    rw [aA (l:=p.acts) (by assumption)] at hi;refine⟨by omega,?_⟩;simp_all [bn];done)
theorem iQ (p:Proj) (n:Int):Con 151 [.d p.av,.d (i64 n)] (.d (.bool (dI p n))):=by
 refine con Tryz.func151 rfl rfl Tryz.call151 rfl fun hwf=>?_
 simp only [ARs.wf,AR.wf,AV.wf,AV.wfs,lm,lim] at hwf
 (repeat' ((conv=>whnf);first|refine gA ?_|refine gC (bO _ _ _) ?_|intro _))<;>try (conv=>whnf)
 refine⟨?_,rfl,trivial⟩
 simp [dI]
theorem Xl (p:Proj) (k:Link):Con 146 [.d p.av,.d k.av] (.d (.bool (nM p k))):=by
 refine con Tryz.func146 rfl rfl Tryz.call146 rfl fun hwf=>?_
 (repeat' ((conv=>whnf);first|refine gA ?_|(refine gN ?_ ?_<;>intro h hw)|(refine gB ?_ ?_<;>intro h)|refine gC (bO _ _ _) ?_|refine gC (iQ p _) ?_|intro _))
 all_goals refine⟨?_,rfl,trivial⟩
 all_goals simp [nM, *]
theorem Mv (p:Proj) (k:Link):Con 145 [.d k.av,.ref p.av] (.d (.bool (!nM p k))):=by
 refine con Tryz.func145 rfl rfl Tryz.call145 rfl fun hwf=>?_
 (repeat' ((conv=>whnf);first|refine gA ?_|refine gC (Xl p k) ?_|intro _))
 all_goals exact⟨rfl,rfl,trivial⟩
def Proj.fine (p:Proj):Prop:=∀a∈p.acts,a.name.size<=lim
theorem dJ (p:Proj) (hp:p.fine):Con 72 [.d p.av] (.d (.bool (bI p))):=by
 refine con Tryz.func72 rfl rfl Tryz.call72 rfl fun hwf=>?_
 (conv=>whnf)
 (repeat' ((conv=>whnf);first|refine gA ?_|(refine gN ?_ ?_<;>intro h hw)|(refine gB ?_ ?_<;>intro h)|refine gC (bO _ _ _) ?_|intro _))
 all_goals try (refine⟨?_,rfl,trivial⟩;simp_all [bI,wH];done)
 have e0:wH p=true:=by simp_all [wH]
 refine ay [1,39,40] [1] [] ?_
 (conv=>whnf)
 refine au.go ((Nat)) (fun k=>(k<=p.acts.length)/\(∀i,i < k->Bp p i=true)) (fun k=>[(41,.data (i64 k))]) lE lE (fun k=>p.acts.length - k) (0) ?_ ?_
 ·exact⟨by omega,by omega⟩
 rintro k ⟨hk,hi⟩
 (repeat' ((conv=>whnf);first|refine gA ?_|(refine gB ?_ ?_<;>intro h)|(refine gI ?_;intro x hx)|refine gC (Mq x _ _ (hp x (List.mem_of_getElem? hx))) ?_|refine gC (Gj p x.name) ?_|intro _))
 ·refine nx (k+1) ?_
  exact⟨by omega,eY hi (by simp_all [Bp])⟩
 ·refine⟨?_,rfl,trivial⟩
  rw [bI,fT k (by omega) (by simp_all [Bp])];simp
 ·refine⟨?_,rfl,trivial⟩
  rw [bI,fT k (by omega) (by simp_all [Bp])];simp
 have e1:Es p.acts.length (Bp p)=true:=dB.2 fun i hh=>hi i (by omega)
 clear hi
 refine ay [1,65,66] [1] [] ?_
 (conv=>whnf)
 refine au.go ((Nat)) (fun m=>(m<=p.aS.length)/\((p.aS.drop m).all sF=p.aS.all sF)) (fun m=>[(67,.data (i64 m))]) lE lE (fun m=>p.aS.length - m) (0) ?_ ?_
 ·exact⟨by omega,rfl⟩
 rintro m ⟨hm,hi⟩
 (repeat' ((conv=>whnf);first|refine gA ?_|(refine gB ?_ ?_<;>intro h)|(refine gI ?_;intro x hx)|refine gC (Ms x) ?_|intro _))
 ·refine nx (m+1) ?_
  rw [aA hx,List.all_cons,h,Bool.true_and] at hi
  exact⟨by omega,hi⟩
 ·refine⟨?_,rfl,trivial⟩
  rw [aA hx,List.all_cons,h,Bool.false_and] at hi
  rw [bI, <- hi];simp
 have e2:p.aS.all sF=true:=by rw [aG (by assumption)] at hi;exact hi.symm
 clear hi
 refine ay [1,76,77] [1] [] ?_
 (conv=>whnf)
 refine au.go ((Nat)) (fun n=>(n<=p.aH.length)/\((p.aH.drop n).all (fun n=>within n 0 100)=p.aH.all (fun n=>within n 0 100))) (fun n=>[(78,.data (i64 n))]) lE lE (fun n=>p.aH.length - n) (0) ?_ ?_
 ·exact⟨by omega,rfl⟩
 rintro n ⟨hn,hi⟩
 (repeat' ((conv=>whnf);first|refine gA ?_|(refine gN ?_ ?_<;>intro h hw)|(refine gB ?_ ?_<;>intro h)|(refine gI ?_;intro x hx)|refine gC (bO _ _ _) ?_|refine gC (yK p.links 145 [p.av] _ fun x=>Mv p x) ?_|intro _))
 ·refine nx (n+1) ?_
  rw [aA hx,List.all_cons,h,Bool.true_and] at hi
  exact⟨by omega,hi⟩
 ·refine⟨?_,rfl,trivial⟩
  rw [aA hx,List.all_cons,h,Bool.false_and] at hi
  rw [bI, <- hi];simp
 have e3:p.aH.all (fun n=>within n 0 100)=true:=by rw [aG (by assumption)] at hi;exact hi.symm
 clear hi
 refine⟨?_,rfl,trivial⟩
 rw [bI,e0,e1,e2,e3]
 simp only [Bool.true_and,AV.bool.injEq]
 rw [Bool.eq_iff_iff]
 simp
theorem dP (p:Proj) (hp:p.fine):Con 49 [.d p.av] (.d (.bool (bI p))):=by
 refine con Tryz.func49 rfl rfl Tryz.call49 rfl fun hwf=>?_
 (conv=>whnf)
 (repeat' ((conv=>whnf);first|refine gA ?_|(refine gN ?_ ?_<;>intro h hw)|(refine gB ?_ ?_<;>intro h)|refine gC (dG _ _ _) ?_|intro _))
 all_goals try (refine⟨?_,rfl,trivial⟩;simp_all [bI,wH];done)
 have e0:wH p=true:=by simp_all [wH]
 refine ay [1,3,43,44] [1] [] ?_
 (conv=>whnf)
 refine au.go ((Nat)) (fun k=>(k<=p.acts.length)/\(∀i,i < k->Bp p i=true)) (fun k=>[(45,.data (i64 k))]) lE lE (fun k=>p.acts.length - k) (0) ?_ ?_
 ·exact⟨by omega,by omega⟩
 rintro k ⟨hk,hi⟩
 (repeat' ((conv=>whnf);first|refine gA ?_|(refine gB ?_ ?_<;>intro h)|(refine gI ?_;intro x hx)|refine gC (Mr x _ _ (hp x (List.mem_of_getElem? hx))) ?_|refine gC (Gl p x.name) ?_|intro _))
 ·refine nx (k+1) ?_
  exact⟨by omega,eY hi (by simp_all [Bp])⟩
 ·refine⟨?_,rfl,trivial⟩
  rw [bI,fT k (by omega) (by simp_all [Bp])];simp
 ·refine⟨?_,rfl,trivial⟩
  rw [bI,fT k (by omega) (by simp_all [Bp])];simp
 have e1:Es p.acts.length (Bp p)=true:=dB.2 fun i hh=>hi i (by omega)
 clear hi
 refine ay [1,3,69,70] [1] [] ?_
 (conv=>whnf)
 refine au.go ((Nat)) (fun m=>(m<=p.aS.length)/\((p.aS.drop m).all sF=p.aS.all sF)) (fun m=>[(71,.data (i64 m))]) lE lE (fun m=>p.aS.length - m) (0) ?_ ?_
 ·exact⟨by omega,rfl⟩
 rintro m ⟨hm,hi⟩
 (repeat' ((conv=>whnf);first|refine gA ?_|(refine gB ?_ ?_<;>intro h)|(refine gI ?_;intro x hx)|refine gC (Mt x) ?_|intro _))
 ·refine nx (m+1) ?_
  rw [aA hx,List.all_cons,h,Bool.true_and] at hi
  exact⟨by omega,hi⟩
 ·refine⟨?_,rfl,trivial⟩
  rw [aA hx,List.all_cons,h,Bool.false_and] at hi
  rw [bI, <- hi];simp
 have e2:p.aS.all sF=true:=by rw [aG (by assumption)] at hi;exact hi.symm
 clear hi
 refine ay [1,3,80,81] [1] [] ?_
 (conv=>whnf)
 refine au.go ((Nat)) (fun n=>(n<=p.aH.length)/\((p.aH.drop n).all (fun n=>within n 0 100)=p.aH.all (fun n=>within n 0 100))) (fun n=>[(82,.data (i64 n))]) lE lE (fun n=>p.aH.length - n) (0) ?_ ?_
 ·exact⟨by omega,rfl⟩
 rintro n ⟨hn,hi⟩
 (repeat' ((conv=>whnf);first|refine gA ?_|(refine gN ?_ ?_<;>intro h hw)|(refine gB ?_ ?_<;>intro h)|(refine gI ?_;intro x hx)|refine gC (dG _ _ _) ?_|intro _))
 ·refine nx (n+1) ?_
  rw [aA hx,List.all_cons,h,Bool.true_and] at hi
  exact⟨by omega,hi⟩
 ·refine⟨?_,rfl,trivial⟩
  rw [aA hx,List.all_cons,h,Bool.false_and] at hi
  rw [bI, <- hi];simp
 have e3:p.aH.all (fun n=>within n 0 100)=true:=by rw [aG (by assumption)] at hi;exact hi.symm
 clear hi
 refine ay [3,91,92] [] [] ?_
 (conv=>whnf)
 refine au.go ((Nat)) (fun o=>(o<=p.links.length)/\((p.links.drop o).all (nM p)=p.links.all (nM p))) (fun o=>[(93,.data (i64 o))]) lE lE (fun o=>p.links.length - o) (0) ?_ ?_
 ·exact⟨by omega,rfl⟩
 rintro o ⟨ho,hi⟩
 (repeat' ((conv=>whnf);first|refine gA ?_|(refine gN ?_ ?_<;>intro h hw)|(refine gB ?_ ?_<;>intro h)|(refine gI ?_;intro x hx)|refine gC (dG _ _ _) ?_|intro _))
 all_goals first
  |(refine nx (o+1) ?_
    rw [aA hx,List.all_cons,show nM p x=true by simp [nM,dI, *],Bool.true_and] at hi
    exact⟨by omega,hi⟩)
  |(refine⟨?_,rfl,trivial⟩
    rw [aA hx,List.all_cons,show nM p x=false by simp [nM,dI, *],Bool.false_and] at hi
    rw [bI, <- hi];simp)
  |(refine⟨?_,rfl,trivial⟩;rw [aG (by assumption)] at hi;rw [bI,e0,e1,e2,e3, <- hi];rfl)
end Go.Proofs.YthegbfgeochckaaGreat.Abs
