/- Contracts: projects. No statement of a claim. -/
import Derived.Test.YtfhojdalheinaaaGreatC1
set_option linter.all false
set_option linter.unusedVariables false
set_option linter.unusedSimpArgs false
set_option maxRecDepth 20000
set_option maxHeartbeats 4000000
namespace Go.Proofs.YtfhojdalheinaaaGreat.Abs
open Go.Proofs
theorem impl_ResourceOk (r:Resrc):Con 209 [.d r.av] (.d (.bool (resOk r))):=by
 refine con Tryz.func209 rfl rfl Tryz.call209 rfl fun hwf=>?_
 simp only [ARs.wf,AR.wf,AV.wf,AV.wfs,List.length_map,lim] at hwf
 (conv=>whnf)
 refine loopF [1,8,9] [1] [] ?_
 (conv=>whnf)
 refine LoopC.go ((Nat)) (fun k=>(k≤r.setup.length)∧((r.setup.drop k).all rowOk=r.setup.all rowOk)) (fun k=>[(10,.data (i64 k))]) (fun _=>[]) (fun _=>[]) (fun k=>r.setup.length - k) (0) ?_ ?_
 ·exact⟨by omega,rfl⟩
 rintro k ⟨hk,hi⟩
 (repeat' ((conv=>whnf);first | refine gA ?_ | (refine gN ?_ ?_ <;> intro h hw) | (refine gB ?_ ?_ <;> intro h) | (refine gI ?_;intro x hx) | (refine gJ ?_;intro j x hj hx) | refine gV ?_ | refine gC (impl_within _ _ _) ?_ | refine gC (impl_StepsOk r.steps) ?_ | intro _)) <;> try (conv=>whnf)
 ·revert x
  intro row hrow h4
  refine loopF [1,8,9,10,17,18] [1] [] ?_
  (conv=>whnf)
  refine LoopC.go ((Nat)) (fun m=>(m≤row.length)∧((row.drop m).all (fun n=>within n 0 12)=row.all (fun n=>within n 0 12))) (fun m=>[(19,.data (i64 m))]) (fun _=>[]) (fun _=>[]) (fun m=>row.length - m) (0) ?_ ?_
  ·exact⟨by omega,rfl⟩
  rintro m ⟨hm,hj⟩
  (repeat' ((conv=>whnf);first | refine gA ?_ | (refine gN ?_ ?_ <;> intro h hw) | (refine gB ?_ ?_ <;> intro h) | (refine gI ?_;intro x hx) | (refine gJ ?_;intro j x hj hx) | refine gV ?_ | refine gC (impl_within _ _ _) ?_ | intro _)) <;> try (conv=>whnf)
  ·refine nx (m+1) ?_
   rw [drop_get hx,List.all_cons,h,Bool.true_and] at hj
   exact⟨by omega,hj⟩
  ·refine⟨?_,rfl,trivial⟩
   rw [drop_get hx,List.all_cons,h,Bool.false_and] at hj
   rw [drop_get hrow,List.all_cons] at hi
   rw [resOk, ← hi,rowOk, ← hj];simp
  ·refine nx (k+1) ?_
   rw [drop_end' (by assumption)] at hj
   rw [drop_get hrow,List.all_cons,rowOk, ← hj] at hi
   exact⟨by omega,by rw [← hi];simp [h4]⟩
 all_goals refine⟨?_,rfl,trivial⟩
 ·rw [drop_get hx,List.all_cons,rowOk] at hi
  rw [resOk, ← hi];simp [h]
 all_goals (rw [drop_end' (l:=r.setup) (by assumption)] at hi;have e:r.setup.all rowOk=true:=hi.symm;clear hi;rw [resOk,e];first | (simp [*];done) | simp_all)
theorem spec_ResourceOk (r:Resrc):Con 190 [.d r.av] (.d (.bool (resOk r))):=by
 refine con Tryz.func190 rfl rfl Tryz.call190 rfl fun hwf=>?_
 simp only [ARs.wf,AR.wf,AV.wf,AV.wfs,List.length_map,lim] at hwf
 (conv=>whnf)
 refine loopF [1,8,9] [1] [] ?_
 (conv=>whnf)
 refine LoopC.go ((Nat)) (fun k=>(k≤r.setup.length)∧((r.setup.drop k).all rowOk=r.setup.all rowOk)) (fun k=>[(10,.data (i64 k))]) (fun _=>[]) (fun _=>[]) (fun k=>r.setup.length - k) (0) ?_ ?_
 ·exact⟨by omega,rfl⟩
 rintro k ⟨hk,hi⟩
 (repeat' ((conv=>whnf);first | refine gA ?_ | (refine gN ?_ ?_ <;> intro h hw) | (refine gB ?_ ?_ <;> intro h) | (refine gI ?_;intro x hx) | (refine gJ ?_;intro j x hj hx) | refine gV ?_ | refine gC (spec_in _ _ _) ?_ | refine gC (spec_StepsOk r.steps) ?_ | intro _)) <;> try (conv=>whnf)
 ·revert x
  intro row hrow h4
  refine loopF [1,8,9,10,17,18] [1] [] ?_
  (conv=>whnf)
  refine LoopC.go ((Nat)) (fun m=>(m≤row.length)∧((row.drop m).all (fun n=>within n 0 12)=row.all (fun n=>within n 0 12))) (fun m=>[(19,.data (i64 m))]) (fun _=>[]) (fun _=>[]) (fun m=>row.length - m) (0) ?_ ?_
  ·exact⟨by omega,rfl⟩
  rintro m ⟨hm,hj⟩
  (repeat' ((conv=>whnf);first | refine gA ?_ | (refine gN ?_ ?_ <;> intro h hw) | (refine gB ?_ ?_ <;> intro h) | (refine gI ?_;intro x hx) | (refine gJ ?_;intro j x hj hx) | refine gV ?_ | refine gC (spec_in _ _ _) ?_ | intro _)) <;> try (conv=>whnf)
  ·refine nx (m+1) ?_
   rw [drop_get hx,List.all_cons,h,Bool.true_and] at hj
   exact⟨by omega,hj⟩
  ·refine⟨?_,rfl,trivial⟩
   rw [drop_get hx,List.all_cons,h,Bool.false_and] at hj
   rw [drop_get hrow,List.all_cons] at hi
   rw [resOk, ← hi,rowOk, ← hj];simp
  ·refine nx (k+1) ?_
   rw [drop_end' (by assumption)] at hj
   rw [drop_get hrow,List.all_cons,rowOk, ← hj] at hi
   exact⟨by omega,by rw [← hi];simp [h4]⟩
 all_goals refine⟨?_,rfl,trivial⟩
 ·rw [drop_get hx,List.all_cons,rowOk] at hi
  rw [resOk, ← hi];simp [h]
 all_goals (rw [drop_end' (l:=r.setup) (by assumption)] at hi;have e:r.setup.all rowOk=true:=hi.symm;clear hi;rw [resOk,e];first | (simp [*];done) | simp_all)
theorem slices_IndexFunc_Activ (l:List Activ) (fc:Nat) (caps:List AV) (p:Activ→Bool) (hc:∀x:Activ,Con fc ([.d x.av]++caps.map .ref) (.d (.bool (p x)))):
  Con 293 [.d (.sl (l.map Activ.av)),.fn fc caps] (.d (i64 (findI p l 0))):=by
 refine con Tryz.func293 rfl rfl Tryz.call293 rfl fun hwf=>?_
 simp only [ARs.wf,AR.wf,AV.wf,AV.wfs,List.length_map,lim] at hwf
 (conv=>whnf)
 refine loopF [0,1,7] [] [] ?_
 (conv=>whnf)
 refine LoopC.go ((Nat)) (fun k=>(k≤l.length)∧(findI p (l.drop k) k=findI p l 0)) (fun k=>[(8,.data (i64 k))]) (fun _=>[]) (fun _=>[]) (fun k=>l.length - k) (0) ?_ ?_
 ·exact⟨by omega,rfl⟩
 rintro k ⟨hk,hi⟩
 (repeat' ((conv=>whnf);first | refine gA ?_ | (refine gB ?_ ?_ <;> intro h) | (refine gI ?_;intro x hx) | (refine gJ ?_;intro j x hj hx) | refine gV ?_ | refine gC (hc x) ?_ | intro _)) <;> try (conv=>whnf)
 all_goals first
  | exact trivial
  | (refine⟨?_,rfl,trivial⟩;rw [drop_end' (l:=l) (by assumption)] at hi;first | (simp_all [findI];done) | (simp only [findI, ← hi];clear hi;simp_all [findI];done))
  | (refine⟨?_,rfl,trivial⟩;rw [drop_get (l:=l) (by assumption)] at hi;first | (simp_all [findI];done) | (simp only [findI, ← hi];clear hi;simp_all [findI];done))
  | (refine nx (k+1) ?_
     rw [drop_get (l:=l) (by assumption)] at hi;refine⟨by omega,?_⟩;simp_all [findI];done)
theorem slices_IndexFunc_Link (l:List Link) (fc:Nat) (caps:List AV) (p:Link→Bool) (hc:∀x:Link,Con fc ([.d x.av]++caps.map .ref) (.d (.bool (p x)))):
  Con 296 [.d (.sl (l.map Link.av)),.fn fc caps] (.d (i64 (findI p l 0))):=by
 refine con Tryz.func296 rfl rfl Tryz.call296 rfl fun hwf=>?_
 simp only [ARs.wf,AR.wf,AV.wf,AV.wfs,List.length_map,lim] at hwf
 (conv=>whnf)
 refine loopF [0,1,7] [] [] ?_
 (conv=>whnf)
 refine LoopC.go ((Nat)) (fun k=>(k≤l.length)∧(findI p (l.drop k) k=findI p l 0)) (fun k=>[(8,.data (i64 k))]) (fun _=>[]) (fun _=>[]) (fun k=>l.length - k) (0) ?_ ?_
 ·exact⟨by omega,rfl⟩
 rintro k ⟨hk,hi⟩
 (repeat' ((conv=>whnf);first | refine gA ?_ | (refine gB ?_ ?_ <;> intro h) | (refine gI ?_;intro x hx) | (refine gJ ?_;intro j x hj hx) | refine gV ?_ | refine gC (hc x) ?_ | intro _)) <;> try (conv=>whnf)
 all_goals first
  | exact trivial
  | (refine⟨?_,rfl,trivial⟩;rw [drop_end' (l:=l) (by assumption)] at hi;first | (simp_all [findI];done) | (simp only [findI, ← hi];clear hi;simp_all [findI];done))
  | (refine⟨?_,rfl,trivial⟩;rw [drop_get (l:=l) (by assumption)] at hi;first | (simp_all [findI];done) | (simp only [findI, ← hi];clear hi;simp_all [findI];done))
  | (refine nx (k+1) ?_
     rw [drop_get (l:=l) (by assumption)] at hi;refine⟨by omega,?_⟩;simp_all [findI];done)
theorem slices_ContainsFunc_Link (l:List Link) (fc:Nat) (caps:List AV) (p:Link→Bool) (hc:∀x:Link,Con fc ([.d x.av]++caps.map .ref) (.d (.bool (p x)))):
  Con 210 [.d (.sl (l.map Link.av)),.fn fc caps] (.d (.bool (l.any p))):=by
 refine con Tryz.func210 rfl rfl Tryz.call210 rfl fun hwf=>?_
 (repeat' ((conv=>whnf);first | refine gA ?_ | (refine gB ?_ ?_ <;> intro h) | refine gC (slices_IndexFunc_Link l fc caps p hc) ?_ | intro _)) <;> try (conv=>whnf)
 refine⟨?_,rfl,trivial⟩
 rw [← findI_ge l 0]
theorem impl_ActivityIndex1 (a:Activ) (name:ByteArray):Con 294 [.d a.av,.ref (.str name)] (.d (.bool (decide (a.name=name)))):=by
 refine con Tryz.func294 rfl rfl Tryz.call294 rfl fun hwf=>?_
 (repeat' ((conv=>whnf);first | refine gA ?_ | (refine gB ?_ ?_ <;> intro h) | intro _)) <;> try (conv=>whnf)
 all_goals exact⟨rfl,rfl,trivial⟩
theorem impl_ActivityIndex (p:Proj) (name:ByteArray):Con 208 [.d p.av,.d (.str name)] (.d (i64 (actIndex p name))):=by
 refine con Tryz.func208 rfl rfl Tryz.call208 rfl fun hwf=>?_
 (repeat' ((conv=>whnf);first | refine gA ?_ | (refine gB ?_ ?_ <;> intro h) | refine gC (slices_IndexFunc_Activ p.acts 294 [.str name] _ fun x=>impl_ActivityIndex1 x name) ?_ | intro _)) <;> try (conv=>whnf)
 all_goals exact⟨rfl,rfl,trivial⟩
theorem spec_ActivityIndex (p:Proj) (name:ByteArray):Con 189 [.d p.av,.d (.str name)] (.d (i64 (actIndex p name))):=by
 refine con Tryz.func189 rfl rfl Tryz.call189 rfl fun hwf=>?_
 simp only [ARs.wf,AR.wf,AV.wf,AV.wfs,List.length_map,lim] at hwf
 (conv=>whnf)
 refine loopF [1,8,9] [] [] ?_
 (conv=>whnf)
 refine LoopC.go ((Nat)) (fun k=>(k≤p.acts.length)∧(findI (fun a=>decide (a.name=name)) (p.acts.drop k) k=actIndex p name)) (fun k=>[(10,.data (i64 k))]) (fun _=>[]) (fun _=>[]) (fun k=>p.acts.length - k) (0) ?_ ?_
 ·exact⟨by omega,rfl⟩
 rintro k ⟨hk,hi⟩
 (repeat' ((conv=>whnf);first | refine gA ?_ | (refine gB ?_ ?_ <;> intro h) | (refine gI ?_;intro x hx) | (refine gJ ?_;intro j x hj hx) | refine gV ?_ | intro _)) <;> try (conv=>whnf)
 all_goals first
  | exact trivial
  | (refine⟨?_,rfl,trivial⟩;rw [drop_end' (l:=p.acts) (by assumption)] at hi;first | (simp_all [findI];done) | (simp only [findI, ← hi];clear hi;simp_all [findI];done))
  | (refine⟨?_,rfl,trivial⟩;rw [drop_get (l:=p.acts) (by assumption)] at hi;first | (simp_all [findI];done) | (simp only [findI, ← hi];clear hi;simp_all [findI];done))
  | (refine nx (k+1) ?_
     rw [drop_get (l:=p.acts) (by assumption)] at hi;refine⟨by omega,?_⟩;simp_all [findI];done)
theorem impl_hasActivity (p:Proj) (n:Int):Con 151 [.d p.av,.d (i64 n)] (.d (.bool (hasAct p n))):=by
 refine con Tryz.func151 rfl rfl Tryz.call151 rfl fun hwf=>?_
 simp only [ARs.wf,AR.wf,AV.wf,AV.wfs,List.length_map,lim] at hwf
 (repeat' ((conv=>whnf);first | refine gA ?_ | (refine gN ?_ ?_ <;> intro h hw) | (refine gB ?_ ?_ <;> intro h) | refine gV ?_ | refine gC (impl_within _ _ _) ?_ | intro _)) <;> try (conv=>whnf)
 refine⟨?_,rfl,trivial⟩
 simp [hasAct]
theorem impl_linkOk (p:Proj) (k:Link):Con 212 [.d p.av,.d k.av] (.d (.bool (linkOk p k))):=by
 refine con Tryz.func212 rfl rfl Tryz.call212 rfl fun hwf=>?_
 (repeat' ((conv=>whnf);first | refine gA ?_ | (refine gN ?_ ?_ <;> intro h hw) | (refine gB ?_ ?_ <;> intro h) | refine gC (impl_within _ _ _) ?_ | refine gC (impl_hasActivity p _) ?_ | intro _)) <;> try (conv=>whnf)
 all_goals refine⟨?_,rfl,trivial⟩
 all_goals simp [linkOk, *]
theorem impl_ProjectOk1 (p:Proj) (k:Link):Con 211 [.d k.av,.ref p.av] (.d (.bool (!linkOk p k))):=by
 refine con Tryz.func211 rfl rfl Tryz.call211 rfl fun hwf=>?_
 (repeat' ((conv=>whnf);first | refine gA ?_ | (refine gB ?_ ?_ <;> intro h) | refine gC (impl_linkOk p k) ?_ | intro _)) <;> try (conv=>whnf)
 all_goals exact⟨rfl,rfl,trivial⟩
def Proj.fine (p:Proj):Prop:=∀a∈p.acts,a.name.size≤lim
theorem impl_ProjectOk (p:Proj) (hp:p.fine):Con 115 [.d p.av] (.d (.bool (projOk p))):=by
 refine con Tryz.func115 rfl rfl Tryz.call115 rfl fun hwf=>?_
 simp only [ARs.wf,AR.wf,AV.wf,AV.wfs,List.length_map,lim] at hwf
 (conv=>whnf)
 (repeat' ((conv=>whnf);first | refine gA ?_ | (refine gN ?_ ?_ <;> intro h hw) | (refine gB ?_ ?_ <;> intro h) | (refine gI ?_;intro x hx) | (refine gJ ?_;intro j x hj hx) | refine gV ?_ | refine gC (impl_within _ _ _) ?_ | intro _)) <;> try (conv=>whnf)
 all_goals try (refine⟨?_,rfl,trivial⟩;simp_all [projOk,headOk];done)
 have e0:headOk p=true:=by simp_all [headOk]
 refine loopF [1,39,40] [1] [] ?_
 (conv=>whnf)
 refine LoopC.go ((Nat)) (fun k=>(k≤p.acts.length)∧(∀i,i < k→actAt p i=true)) (fun k=>[(41,.data (i64 k))]) (fun _=>[]) (fun _=>[]) (fun k=>p.acts.length - k) (0) ?_ ?_
 ·exact⟨by omega,by omega⟩
 rintro k ⟨hk,hi⟩
 (repeat' ((conv=>whnf);first | refine gA ?_ | (refine gN ?_ ?_ <;> intro h hw) | (refine gB ?_ ?_ <;> intro h) | (refine gI ?_;intro x hx) | (refine gJ ?_;intro j x hj hx) | refine gV ?_ | refine gC (impl_ActivityOk x _ _ (hp x (List.mem_of_getElem? hx))) ?_ | refine gC (impl_ActivityIndex p x.name) ?_ | intro _)) <;> try (conv=>whnf)
 ·refine nx (k+1) ?_
  exact⟨by omega,allN_step hi (by simp_all [actAt])⟩
 ·refine⟨?_,rfl,trivial⟩
  rw [projOk,allN_no k (by omega) (by simp_all [actAt])];simp
 ·refine⟨?_,rfl,trivial⟩
  rw [projOk,allN_no k (by omega) (by simp_all [actAt])];simp
 have e1:allN p.acts.length (actAt p)=true:=allN_iff.2 fun i hh=>hi i (by omega)
 clear hi
 refine loopF [1,65,66] [1] [] ?_
 (conv=>whnf)
 refine LoopC.go ((Nat)) (fun m=>(m≤p.ress.length)∧((p.ress.drop m).all resOk=p.ress.all resOk)) (fun m=>[(67,.data (i64 m))]) (fun _=>[]) (fun _=>[]) (fun m=>p.ress.length - m) (0) ?_ ?_
 ·exact⟨by omega,rfl⟩
 rintro m ⟨hm,hi⟩
 (repeat' ((conv=>whnf);first | refine gA ?_ | (refine gN ?_ ?_ <;> intro h hw) | (refine gB ?_ ?_ <;> intro h) | (refine gI ?_;intro x hx) | (refine gJ ?_;intro j x hj hx) | refine gV ?_ | refine gC (impl_ResourceOk x) ?_ | intro _)) <;> try (conv=>whnf)
 ·refine nx (m+1) ?_
  rw [drop_get hx,List.all_cons,h,Bool.true_and] at hi
  exact⟨by omega,hi⟩
 ·refine⟨?_,rfl,trivial⟩
  rw [drop_get hx,List.all_cons,h,Bool.false_and] at hi
  rw [projOk, ← hi];simp
 have e2:p.ress.all resOk=true:=by rw [drop_end' (by assumption)] at hi;exact hi.symm
 clear hi
 refine loopF [1,76,77] [1] [] ?_
 (conv=>whnf)
 refine LoopC.go ((Nat)) (fun n=>(n≤p.stocks.length)∧((p.stocks.drop n).all (fun n=>within n 0 100)=p.stocks.all (fun n=>within n 0 100))) (fun n=>[(78,.data (i64 n))]) (fun _=>[]) (fun _=>[]) (fun n=>p.stocks.length - n) (0) ?_ ?_
 ·exact⟨by omega,rfl⟩
 rintro n ⟨hn,hi⟩
 (repeat' ((conv=>whnf);first | refine gA ?_ | (refine gN ?_ ?_ <;> intro h hw) | (refine gB ?_ ?_ <;> intro h) | (refine gI ?_;intro x hx) | (refine gJ ?_;intro j x hj hx) | refine gV ?_ | refine gC (impl_within _ _ _) ?_ | refine gC (slices_ContainsFunc_Link p.links 211 [p.av] _ fun x=>impl_ProjectOk1 p x) ?_ | intro _)) <;> try (conv=>whnf)
 ·refine nx (n+1) ?_
  rw [drop_get hx,List.all_cons,h,Bool.true_and] at hi
  exact⟨by omega,hi⟩
 ·refine⟨?_,rfl,trivial⟩
  rw [drop_get hx,List.all_cons,h,Bool.false_and] at hi
  rw [projOk, ← hi];simp
 have e3:p.stocks.all (fun n=>within n 0 100)=true:=by rw [drop_end' (by assumption)] at hi;exact hi.symm
 clear hi
 refine⟨?_,rfl,trivial⟩
 rw [projOk,e0,e1,e2,e3]
 simp only [Bool.true_and,AV.bool.injEq]
 rw [Bool.eq_iff_iff]
 simp
theorem spec_ProjectOk (p:Proj) (hp:p.fine):Con 101 [.d p.av] (.d (.bool (projOk p))):=by
 refine con Tryz.func101 rfl rfl Tryz.call101 rfl fun hwf=>?_
 simp only [ARs.wf,AR.wf,AV.wf,AV.wfs,List.length_map,lim] at hwf
 (conv=>whnf)
 (repeat' ((conv=>whnf);first | refine gA ?_ | (refine gN ?_ ?_ <;> intro h hw) | (refine gB ?_ ?_ <;> intro h) | (refine gI ?_;intro x hx) | (refine gJ ?_;intro j x hj hx) | refine gV ?_ | refine gC (spec_in _ _ _) ?_ | intro _)) <;> try (conv=>whnf)
 all_goals try (refine⟨?_,rfl,trivial⟩;simp_all [projOk,headOk];done)
 have e0:headOk p=true:=by simp_all [headOk]
 refine loopF [1,3,43,44] [1] [] ?_
 (conv=>whnf)
 refine LoopC.go ((Nat)) (fun k=>(k≤p.acts.length)∧(∀i,i < k→actAt p i=true)) (fun k=>[(45,.data (i64 k))]) (fun _=>[]) (fun _=>[]) (fun k=>p.acts.length - k) (0) ?_ ?_
 ·exact⟨by omega,by omega⟩
 rintro k ⟨hk,hi⟩
 (repeat' ((conv=>whnf);first | refine gA ?_ | (refine gN ?_ ?_ <;> intro h hw) | (refine gB ?_ ?_ <;> intro h) | (refine gI ?_;intro x hx) | (refine gJ ?_;intro j x hj hx) | refine gV ?_ | refine gC (spec_ActivityOk x _ _ (hp x (List.mem_of_getElem? hx))) ?_ | refine gC (spec_ActivityIndex p x.name) ?_ | intro _)) <;> try (conv=>whnf)
 ·refine nx (k+1) ?_
  exact⟨by omega,allN_step hi (by simp_all [actAt])⟩
 ·refine⟨?_,rfl,trivial⟩
  rw [projOk,allN_no k (by omega) (by simp_all [actAt])];simp
 ·refine⟨?_,rfl,trivial⟩
  rw [projOk,allN_no k (by omega) (by simp_all [actAt])];simp
 have e1:allN p.acts.length (actAt p)=true:=allN_iff.2 fun i hh=>hi i (by omega)
 clear hi
 refine loopF [1,3,69,70] [1] [] ?_
 (conv=>whnf)
 refine LoopC.go ((Nat)) (fun m=>(m≤p.ress.length)∧((p.ress.drop m).all resOk=p.ress.all resOk)) (fun m=>[(71,.data (i64 m))]) (fun _=>[]) (fun _=>[]) (fun m=>p.ress.length - m) (0) ?_ ?_
 ·exact⟨by omega,rfl⟩
 rintro m ⟨hm,hi⟩
 (repeat' ((conv=>whnf);first | refine gA ?_ | (refine gN ?_ ?_ <;> intro h hw) | (refine gB ?_ ?_ <;> intro h) | (refine gI ?_;intro x hx) | (refine gJ ?_;intro j x hj hx) | refine gV ?_ | refine gC (spec_ResourceOk x) ?_ | intro _)) <;> try (conv=>whnf)
 ·refine nx (m+1) ?_
  rw [drop_get hx,List.all_cons,h,Bool.true_and] at hi
  exact⟨by omega,hi⟩
 ·refine⟨?_,rfl,trivial⟩
  rw [drop_get hx,List.all_cons,h,Bool.false_and] at hi
  rw [projOk, ← hi];simp
 have e2:p.ress.all resOk=true:=by rw [drop_end' (by assumption)] at hi;exact hi.symm
 clear hi
 refine loopF [1,3,80,81] [1] [] ?_
 (conv=>whnf)
 refine LoopC.go ((Nat)) (fun n=>(n≤p.stocks.length)∧((p.stocks.drop n).all (fun n=>within n 0 100)=p.stocks.all (fun n=>within n 0 100))) (fun n=>[(82,.data (i64 n))]) (fun _=>[]) (fun _=>[]) (fun n=>p.stocks.length - n) (0) ?_ ?_
 ·exact⟨by omega,rfl⟩
 rintro n ⟨hn,hi⟩
 (repeat' ((conv=>whnf);first | refine gA ?_ | (refine gN ?_ ?_ <;> intro h hw) | (refine gB ?_ ?_ <;> intro h) | (refine gI ?_;intro x hx) | (refine gJ ?_;intro j x hj hx) | refine gV ?_ | refine gC (spec_in _ _ _) ?_ | intro _)) <;> try (conv=>whnf)
 ·refine nx (n+1) ?_
  rw [drop_get hx,List.all_cons,h,Bool.true_and] at hi
  exact⟨by omega,hi⟩
 ·refine⟨?_,rfl,trivial⟩
  rw [drop_get hx,List.all_cons,h,Bool.false_and] at hi
  rw [projOk, ← hi];simp
 have e3:p.stocks.all (fun n=>within n 0 100)=true:=by rw [drop_end' (by assumption)] at hi;exact hi.symm
 clear hi
 refine loopF [3,91,92] [] [] ?_
 (conv=>whnf)
 refine LoopC.go ((Nat)) (fun o=>(o≤p.links.length)∧((p.links.drop o).all (linkOk p)=p.links.all (linkOk p))) (fun o=>[(93,.data (i64 o))]) (fun _=>[]) (fun _=>[]) (fun o=>p.links.length - o) (0) ?_ ?_
 ·exact⟨by omega,rfl⟩
 rintro o ⟨ho,hi⟩
 (repeat' ((conv=>whnf);first | refine gA ?_ | (refine gN ?_ ?_ <;> intro h hw) | (refine gB ?_ ?_ <;> intro h) | (refine gI ?_;intro x hx) | (refine gJ ?_;intro j x hj hx) | refine gV ?_ | refine gC (spec_in _ _ _) ?_ | intro _)) <;> try (conv=>whnf)
 all_goals first
  | (refine nx (o+1) ?_
     rw [drop_get hx,List.all_cons,show linkOk p x=true by simp [linkOk,hasAct, *],Bool.true_and] at hi
     exact⟨by omega,hi⟩)
  | (refine⟨?_,rfl,trivial⟩
     rw [drop_get hx,List.all_cons,show linkOk p x=false by simp [linkOk,hasAct, *],Bool.false_and] at hi
     rw [projOk, ← hi];simp)
  | (refine⟨?_,rfl,trivial⟩;rw [drop_end' (by assumption)] at hi;rw [projOk,e0,e1,e2,e3, ← hi];rfl)
end Go.Proofs.YtfhojdalheinaaaGreat.Abs
