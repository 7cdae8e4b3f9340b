/- Contracts: numbers, names, sets, steps. No statement of a claim. -/
import Derived.Test.YtfhojdalheinaaaGreatTab
import Derived.Test.YtfhojdalheinaaaGreatPlain
import Derived.KernelRfl
set_option linter.all false
set_option linter.unusedVariables false
set_option linter.unusedSimpArgs false
set_option maxRecDepth 20000
namespace Go.Proofs.YtfhojdalheinaaaGreat.Abs
open Go.Proofs
theorem mixed:Tryz.prog.follows .mixedOrders=true:=by kernel_rfl
abbrev Con (f:Nat) (args:List AR) (r:RV):Prop:=Contract Tryz.prog tab lim f args r
theorem con {f:FuncId} {fn:Func} {code:Code} {args:List AR} {r:RV} (hf:Tryz.prog.funcs[f]? =some fn) (hb:fn.body=some code) (hp:plainCode code=true)
  (hcall:∀(vs:Array Value) (w:World),(callFunc f vs).run Tryz.prog w= .ok (.enter f vs) w) (hlen:Nat.ble args.length fn.ntmps=true)
  (h:ARs.wf lim args→awpR tab (CallK Tryz.prog tab lim) lim code (RetOk tab fn.results.toList r) (entry fn.ntmps args)):Con f args r:=
 contract_of_awp tabOk (by decide) (by decide) mixed hf hb hp hcall hlen h
theorem impl_within (n lo hi:Int):Con 93 [.d (i64 n),.d (i64 lo),.d (i64 hi)] (.d (.bool (within n lo hi))):=by
 refine con Tryz.func93 rfl rfl Tryz.call93 rfl fun hwf=>?_
 (repeat' ((conv=>whnf);first | refine gA ?_ | (refine gB ?_ ?_ <;> intro h) | intro _)) <;> try (conv=>whnf)
 all_goals refine⟨?_,rfl,trivial⟩
 all_goals (simp_all [within];try omega)
theorem spec_in (n lo hi:Int):Con 90 [.d (i64 n),.d (i64 lo),.d (i64 hi)] (.d (.bool (within n lo hi))):=by
 refine con Tryz.func90 rfl rfl Tryz.call90 rfl fun hwf=>?_
 (repeat' ((conv=>whnf);first | refine gA ?_ | (refine gB ?_ ?_ <;> intro h) | intro _)) <;> try (conv=>whnf)
 all_goals refine⟨?_,rfl,trivial⟩
 all_goals (simp_all [within];try omega)
theorem impl_isTime (n:Int):Con 202 [.d (i64 n)] (.d (.bool (isTime n))):=by
 refine con Tryz.func202 rfl rfl Tryz.call202 rfl fun hwf=>?_
 (repeat' ((conv=>whnf);first | refine gA ?_ | (refine gN ?_ ?_ <;> intro h hw) | (refine gB ?_ ?_ <;> intro h) | refine gC (impl_within _ _ _) ?_ | intro _)) <;> try (conv=>whnf)
 exact⟨rfl,rfl,trivial⟩
theorem impl_isAmount (n:Int):Con 355 [.d (i64 n)] (.d (.bool (isAmount n))):=by
 refine con Tryz.func355 rfl rfl Tryz.call355 rfl fun hwf=>?_
 (repeat' ((conv=>whnf);first | refine gA ?_ | (refine gN ?_ ?_ <;> intro h hw) | (refine gB ?_ ?_ <;> intro h) | refine gC (impl_within _ _ _) ?_ | intro _)) <;> try (conv=>whnf)
 exact⟨rfl,rfl,trivial⟩
theorem impl_IsName (s:ByteArray) (hs:s.size≤lim):Con 292 [.d (.str s)] (.d (.bool (nameOk s))):=by
 refine con Tryz.func292 rfl rfl Tryz.call292 rfl fun hwf=>?_
 unfold lim at hs
 (conv=>whnf)
 refine loopF [0,6] [] [] ?_
 (conv=>whnf)
 refine LoopC.go ((Nat)) (fun k=>(k≤s.size)∧(∀i,i < k→nameAt s i=true)) (fun k=>[(7,.data (i64 k))]) (fun _=>[]) (fun _=>[]) (fun k=>s.size - k) (0) ?_ ?_
 ·exact⟨by omega,by omega⟩
 rintro k ⟨hk,hi⟩
 (repeat' ((conv=>whnf);first | refine gA ?_ | (refine gN ?_ ?_ <;> intro h hw) | (refine gB ?_ ?_ <;> intro h) | (refine gI ?_;intro x hx) | (refine gJ ?_;intro j x hj hx) | refine gV ?_ | refine gC (impl_within _ _ _) ?_ | intro _)) <;> try (conv=>whnf)
 all_goals first
  | exact trivial
  | (refine⟨?_,rfl,trivial⟩;rw [nameOk,allN_no k (by omega) (by simp_all [nameAt,byteAt];try omega)];rfl)
  | (refine nx (k+1) ?_
     exact⟨by omega,allN_step hi (by simp_all [nameAt,byteAt];try omega)⟩)
  | (refine⟨?_,rfl,trivial⟩;rw [nameOk,allN_iff.2 fun i hh=>hi i (by omega)];rfl)
theorem spec_IsName (s:ByteArray) (hs:s.size≤lim):Con 279 [.d (.str s)] (.d (.bool (nameOk s))):=by
 refine con Tryz.func279 rfl rfl Tryz.call279 rfl fun hwf=>?_
 unfold lim at hs
 (conv=>whnf)
 refine loopF [0] [] [] ?_
 (conv=>whnf)
 refine LoopC.go ((Nat)) (fun k=>(k≤s.size)∧(∀i,i < k→nameAt s i=true)) (fun k=>[(3,.data (i64 k))]) (fun _=>[]) (fun _=>[]) (fun k=>s.size - k) (0) ?_ ?_
 ·exact⟨by omega,by omega⟩
 rintro k ⟨hk,hi⟩
 (repeat' ((conv=>whnf);first | refine gA ?_ | (refine gN ?_ ?_ <;> intro h hw) | (refine gB ?_ ?_ <;> intro h) | (refine gI ?_;intro x hx) | (refine gJ ?_;intro j x hj hx) | refine gV ?_ | refine gC (spec_in _ _ _) ?_ | intro _)) <;> try (conv=>whnf)
 all_goals first
  | exact trivial
  | (refine⟨?_,rfl,trivial⟩;rw [nameOk,allN_no k (by omega) (by simp_all [nameAt,byteAt];try omega)];rfl)
  | (refine nx (k+1) ?_
     exact⟨by omega,allN_step hi (by simp_all [nameAt,byteAt];try omega)⟩)
  | (refine⟨?_,rfl,trivial⟩;rw [nameOk,allN_iff.2 fun i hh=>hi i (by omega)];rfl)
theorem impl_SetOk (l:List Int):Con 236 [.d (ints l)] (.d (.bool (setOk l))):=by
 refine con Tryz.func236 rfl rfl Tryz.call236 rfl fun hwf=>?_
 simp only [ARs.wf,AR.wf,AV.wf,List.length_map,lim] at hwf
 (conv=>whnf)
 refine loopF [0] [] [] ?_
 (conv=>whnf)
 refine LoopC.go ((Nat)) (fun k=>(1≤k)∧(k≤l.length+1)∧(∀i,i < k→i < l.length→setAt l i=true)) (fun k=>[(3,.data (i64 k))]) (fun _=>[]) (fun _=>[]) (fun k=>l.length+1 - k) (1) ?_ ?_
 ·exact⟨by omega,by omega,fun i h1 h2=>by obtain rfl:i=0:=by omega
                                          rfl⟩
 rintro k ⟨h1,hk,hi⟩
 (repeat' ((conv=>whnf);first | refine gA ?_ | (refine gB ?_ ?_ <;> intro h) | (refine gI ?_;intro x hx) | (refine gJ ?_;intro j x hj hx) | refine gV ?_ | intro _)) <;> try (conv=>whnf)
 ·obtain rfl:j=k - 1:=by omega
  refine⟨?_,rfl,trivial⟩
  rw [setOk,allN_no k (by omega) (by simp_all [setAt,List.getD_eq_getElem?_getD];omega)]
 ·obtain rfl:j=k - 1:=by omega
  refine nx (k+1) ?_
  refine⟨by omega,by omega,fun i h1 h2=>?_⟩
  by_cases e:i=k
  ·subst e;simp_all [setAt,List.getD_eq_getElem?_getD]
  ·exact hi i (by omega) h2
 ·refine⟨?_,rfl,trivial⟩
  rw [setOk,allN_iff.2 fun i hh=>hi i (by omega) hh]
theorem spec_SetOk (l:List Int):Con 223 [.d (ints l)] (.d (.bool (setOk l))):=by
 refine con Tryz.func223 rfl rfl Tryz.call223 rfl fun hwf=>?_
 simp only [ARs.wf,AR.wf,AV.wf,List.length_map,lim] at hwf
 (conv=>whnf)
 refine loopF [0,5] [] [] ?_
 (conv=>whnf)
 refine LoopC.go ((Nat)) (fun k=>(k≤l.length)∧(∀i,i < k→setAt l i=true)) (fun k=>[(6,.data (i64 k))]) (fun _=>[]) (fun _=>[]) (fun k=>l.length - k) (0) ?_ ?_
 ·exact⟨by omega,by omega⟩
 rintro k ⟨hk,hi⟩
 (repeat' ((conv=>whnf);first | refine gA ?_ | (refine gB ?_ ?_ <;> intro h) | (refine gI ?_;intro x hx) | (refine gJ ?_;intro j x hj hx) | refine gV ?_ | intro _)) <;> try (conv=>whnf)
 ·obtain rfl:j=k - 1:=by omega
  refine⟨?_,rfl,trivial⟩
  rw [setOk,allN_no k (by omega) (by simp_all [setAt,List.getD_eq_getElem?_getD];omega)]
 ·obtain rfl:j=k - 1:=by omega
  refine nx (k+1) ?_
  exact⟨by omega,allN_step hi (by simp_all [setAt,List.getD_eq_getElem?_getD])⟩
 ·refine nx (k+1) ?_
  exact⟨by omega,allN_step hi (by simp_all [setAt,List.getD_eq_getElem?_getD])⟩
 ·refine⟨?_,rfl,trivial⟩
  rw [setOk,allN_iff.2 fun i hh=>hi i (by omega)]
theorem slices_Index (l:List Int) (n:Int):Con 215 [.d (ints l),.d (i64 n)] (.d (i64 (findI (fun x=>decide (n=x)) l 0))):=by
 refine con Tryz.func215 rfl rfl Tryz.call215 rfl fun hwf=>?_
 simp only [ARs.wf,AR.wf,AV.wf,List.length_map,lim] at hwf
 (conv=>whnf)
 refine loopF [0,1,7] [] [] ?_
 (conv=>whnf)
 refine LoopC.go ((Nat)) (fun k=>(k≤l.length)∧(findI (fun x=>decide (n=x)) (l.drop k) k=findI (fun x=>decide (n=x)) l 0)) (fun k=>[(8,.data (i64 k))]) (fun _=>[]) (fun _=>[]) (fun k=>l.length - k) (0) ?_ ?_
 ·exact⟨by omega,rfl⟩
 rintro k ⟨hk,hi⟩
 (repeat' ((conv=>whnf);first | refine gA ?_ | (refine gB ?_ ?_ <;> intro h) | (refine gI ?_;intro x hx) | (refine gJ ?_;intro j x hj hx) | refine gV ?_ | intro _)) <;> try (conv=>whnf)
 all_goals first
  | exact trivial
  | (refine⟨?_,rfl,trivial⟩;rw [drop_end' (l:=l) (by assumption)] at hi;first | (simp_all [findI];done) | (simp only [findI, ← hi];clear hi;simp_all [findI];done))
  | (refine⟨?_,rfl,trivial⟩;rw [drop_get (l:=l) (by assumption)] at hi;first | (simp_all [findI];done) | (simp only [findI, ← hi];clear hi;simp_all [findI];done))
  | (refine nx (k+1) ?_
     rw [drop_get (l:=l) (by assumption)] at hi;refine⟨by omega,?_⟩;simp_all [findI];done)
theorem any_eq {l:List Int} {n:Int}:l.any (fun x=>decide (n=x))=l.contains n:=by
 induction l with
 | nil=>rfl
 | cons x l ih=>simp only [List.any_cons,List.contains_cons,ih];rfl
theorem slices_Contains (l:List Int) (n:Int):Con 118 [.d (ints l),.d (i64 n)] (.d (.bool (l.contains n))):=by
 refine con Tryz.func118 rfl rfl Tryz.call118 rfl fun hwf=>?_
 (repeat' ((conv=>whnf);first | refine gA ?_ | (refine gB ?_ ?_ <;> intro h) | refine gC (slices_Index _ _) ?_ | intro _)) <;> try (conv=>whnf)
 refine⟨?_,rfl,trivial⟩
 rw [← any_eq, ← findI_ge l 0]
theorem impl_SetHas (l:List Int) (n:Int):Con 51 [.d (ints l),.d (i64 n)] (.d (.bool (l.contains n))):=by
 refine con Tryz.func51 rfl rfl Tryz.call51 rfl fun hwf=>?_
 (repeat' ((conv=>whnf);first | refine gA ?_ | (refine gB ?_ ?_ <;> intro h) | refine gC (slices_Contains _ _) ?_ | intro _)) <;> try (conv=>whnf)
 exact⟨rfl,rfl,trivial⟩
theorem spec_SetHas (l:List Int) (n:Int):Con 39 [.d (ints l),.d (i64 n)] (.d (.bool (l.contains n))):=by
 refine con Tryz.func39 rfl rfl Tryz.call39 rfl fun hwf=>?_
 simp only [ARs.wf,AR.wf,AV.wf,List.length_map,lim] at hwf
 (conv=>whnf)
 refine loopF [1,7,8] [] [] ?_
 (conv=>whnf)
 refine LoopC.go ((Nat)) (fun k=>(k≤l.length)∧((l.drop k).contains n=l.contains n)) (fun k=>[(9,.data (i64 k))]) (fun _=>[]) (fun _=>[]) (fun k=>l.length - k) (0) ?_ ?_
 ·exact⟨by omega,rfl⟩
 rintro k ⟨hk,hi⟩
 (repeat' ((conv=>whnf);first | refine gA ?_ | (refine gB ?_ ?_ <;> intro h) | (refine gI ?_;intro x hx) | (refine gJ ?_;intro j x hj hx) | refine gV ?_ | intro _)) <;> try (conv=>whnf)
 all_goals first
  | exact trivial
  | (refine⟨?_,rfl,trivial⟩;rw [drop_end' (l:=l) (by assumption)] at hi;first | (simp_all [List.contains_cons,eq_comm];done) | (simp only [List.contains_cons,eq_comm, ← hi];clear hi;simp_all [List.contains_cons,eq_comm];done))
  | (refine⟨?_,rfl,trivial⟩;rw [drop_get (l:=l) (by assumption)] at hi;first | (simp_all [List.contains_cons,eq_comm];done) | (simp only [List.contains_cons,eq_comm, ← hi];clear hi;simp_all [List.contains_cons,eq_comm];done))
  | (refine nx (k+1) ?_
     rw [drop_get (l:=l) (by assumption)] at hi;refine⟨by omega,?_⟩;simp_all [List.contains_cons,eq_comm];done)
theorem impl_SetSubset (a b:List Int):Con 237 [.d (ints a),.d (ints b)] (.d (.bool (subset a b))):=by
 refine con Tryz.func237 rfl rfl Tryz.call237 rfl fun hwf=>?_
 simp only [ARs.wf,AR.wf,AV.wf,List.length_map,lim] at hwf
 (conv=>whnf)
 refine loopF [1,7,8] [] [] ?_
 (conv=>whnf)
 refine LoopC.go ((Nat)) (fun k=>(k≤a.length)∧(subset (a.drop k) b=subset a b)) (fun k=>[(9,.data (i64 k))]) (fun _=>[]) (fun _=>[]) (fun k=>a.length - k) (0) ?_ ?_
 ·exact⟨by omega,rfl⟩
 rintro k ⟨hk,hi⟩
 (repeat' ((conv=>whnf);first | refine gA ?_ | (refine gB ?_ ?_ <;> intro h) | (refine gI ?_;intro x hx) | (refine gJ ?_;intro j x hj hx) | refine gV ?_ | refine gC (impl_SetHas _ _) ?_ | intro _)) <;> try (conv=>whnf)
 all_goals first
  | exact trivial
  | (refine⟨?_,rfl,trivial⟩;rw [drop_end' (l:=a) (by assumption)] at hi;first | (simp_all [subset];done) | (simp only [subset, ← hi];clear hi;simp_all [subset];done))
  | (refine⟨?_,rfl,trivial⟩;rw [drop_get (l:=a) (by assumption)] at hi;first | (simp_all [subset];done) | (simp only [subset, ← hi];clear hi;simp_all [subset];done))
  | (refine nx (k+1) ?_
     rw [drop_get (l:=a) (by assumption)] at hi;refine⟨by omega,?_⟩;simp_all [subset];done)
theorem spec_SetSubset (a b:List Int):Con 224 [.d (ints a),.d (ints b)] (.d (.bool (subset a b))):=by
 refine con Tryz.func224 rfl rfl Tryz.call224 rfl fun hwf=>?_
 simp only [ARs.wf,AR.wf,AV.wf,List.length_map,lim] at hwf
 (conv=>whnf)
 refine loopF [1,7,8] [] [] ?_
 (conv=>whnf)
 refine LoopC.go ((Nat)) (fun k=>(k≤a.length)∧(subset (a.drop k) b=subset a b)) (fun k=>[(9,.data (i64 k))]) (fun _=>[]) (fun _=>[]) (fun k=>a.length - k) (0) ?_ ?_
 ·exact⟨by omega,rfl⟩
 rintro k ⟨hk,hi⟩
 (repeat' ((conv=>whnf);first | refine gA ?_ | (refine gB ?_ ?_ <;> intro h) | (refine gI ?_;intro x hx) | (refine gJ ?_;intro j x hj hx) | refine gV ?_ | refine gC (spec_SetHas _ _) ?_ | intro _)) <;> try (conv=>whnf)
 all_goals first
  | exact trivial
  | (refine⟨?_,rfl,trivial⟩;rw [drop_end' (l:=a) (by assumption)] at hi;first | (simp_all [subset];done) | (simp only [subset, ← hi];clear hi;simp_all [subset];done))
  | (refine⟨?_,rfl,trivial⟩;rw [drop_get (l:=a) (by assumption)] at hi;first | (simp_all [subset];done) | (simp only [subset, ← hi];clear hi;simp_all [subset];done))
  | (refine nx (k+1) ?_
     rw [drop_get (l:=a) (by assumption)] at hi;refine⟨by omega,?_⟩;simp_all [subset];done)
theorem impl_StepsOk (l:List Step):Con 295 [.d (.sl (l.map Step.av))] (.d (.bool (stepsOk l))):=by
 refine con Tryz.func295 rfl rfl Tryz.call295 rfl fun hwf=>?_
 simp only [ARs.wf,AR.wf,AV.wf,List.length_map,lim] at hwf
 (conv=>whnf)
 refine loopF [0,5,6] [] [] ?_
 (conv=>whnf)
 refine LoopC.go ((Nat)) (fun k=>(k≤l.length)∧(∀i,i < k→stepAt l i=true)) (fun k=>[(7,.data (i64 k))]) (fun _=>[]) (fun _=>[]) (fun k=>l.length - k) (0) ?_ ?_
 ·exact⟨by omega,by omega⟩
 rintro k ⟨hk,hi⟩
 (repeat' ((conv=>whnf);first | refine gA ?_ | (refine gN ?_ ?_ <;> intro h hw) | (refine gB ?_ ?_ <;> intro h) | (refine gI ?_;intro x hx) | (refine gJ ?_;intro j x hj hx) | refine gV ?_ | refine gC (impl_isTime _) ?_ | refine gC (impl_isAmount _) ?_ | refine gC (impl_within _ _ _) ?_ | intro _)) <;> try (conv=>whnf)
 all_goals first
  | exact trivial
  | (exfalso;omega)
  | (refine⟨?_,rfl,trivial⟩;rw [stepsOk,allN_no k (by omega) (by (try (obtain rfl:j=k - 1:=by omega));simp_all [stepAt];try omega)];rfl)
  | (refine nx (k+1) ?_
     exact⟨by omega,allN_step hi (by (try (obtain rfl:j=k - 1:=by omega));simp_all [stepAt];try omega)⟩)
  | (refine⟨?_,rfl,trivial⟩;rw [stepsOk,allN_iff.2 fun i hh=>hi i (by omega)];simp)
def stepAt' (l:List Step) (i:Nat):Bool:=
 match l[i]? with
 | some s=>isTime s.at'&&isAmount s.cap&&(!decide ((i:Int) > 0)||(match l[i - 1]? with | some q=> !decide (q.at'≥s.at') | none=>true))
 | none=>true
theorem stepsOk_eq (l:List Step):stepsOk l=(allN l.length (stepAt' l)&&(within l.length 1 8&&match l[0]? with | some s=>decide (s.at'=0) | none=>false)):=by
 rw [Bool.eq_iff_iff]
 simp only [stepsOk,Bool.and_eq_true,allN_iff]
 have key:∀i,i < l.length→(stepAt l i=true↔stepAt' l i=true∧(i=0→(match l[0]? with | some s=>decide (s.at'=0) | none=>false)=true)):=by
  intro i hi
  simp only [stepAt,stepAt',List.getElem?_eq_getElem hi]
  by_cases h:i=0
  ·subst h;simp [List.getElem?_eq_getElem hi]
  ·simp [h]
   intro _ _
   cases l[i - 1]? <;> simp
 constructor
 ·rintro⟨h1,h2⟩
  refine⟨fun i hi=>((key i hi).1 (h1 i hi)).1,h2,?_⟩
  have h0:=(within_iff.1 h2).1
  exact ((key 0 (by omega)).1 (h1 0 (by omega))).2 rfl
 ·rintro⟨h1,h2,h3⟩
  exact⟨fun i hi=>(key i hi).2 ⟨h1 i hi,fun _=>h3⟩,h2⟩
theorem spec_StepsOk (l:List Step):Con 280 [.d (.sl (l.map Step.av))] (.d (.bool (stepsOk l))):=by
 refine con Tryz.func280 rfl rfl Tryz.call280 rfl fun hwf=>?_
 simp only [ARs.wf,AR.wf,AV.wf,List.length_map,lim] at hwf
 rw [stepsOk_eq]
 (conv=>whnf)
 refine loopF [0,5,6] [] [] ?_
 (conv=>whnf)
 refine LoopC.go ((Nat)) (fun k=>(k≤l.length)∧(∀i,i < k→stepAt' l i=true)) (fun k=>[(7,.data (i64 k))]) (fun _=>[]) (fun _=>[]) (fun k=>l.length - k) (0) ?_ ?_
 ·exact⟨by omega,by omega⟩
 rintro k ⟨hk,hi⟩
 (repeat' ((conv=>whnf);first | refine gA ?_ | (refine gN ?_ ?_ <;> intro h hw) | (refine gB ?_ ?_ <;> intro h) | (refine gI ?_;intro x hx) | (refine gJ ?_;intro j x hj hx) | refine gV ?_ | refine gC (spec_in _ _ _) ?_ | intro _)) <;> try (conv=>whnf)
 all_goals first
  | exact trivial
  | (exfalso;omega)
  | (refine⟨?_,rfl,trivial⟩;rw [allN_no k (by omega) (by (try (obtain rfl:j=k - 1:=by omega));simp_all [stepAt',isTime,isAmount];try omega)];rfl)
  | (refine nx (k+1) ?_
     exact⟨by omega,allN_step hi (by (try (obtain rfl:j=k - 1:=by omega));simp_all [stepAt',isTime,isAmount];try omega)⟩)
  | (refine⟨?_,rfl,trivial⟩;rw [allN_iff.2 fun i hh=>hi i (by omega)];(try (obtain rfl:j=0:=by omega));(try rw [List.length_map] at h);first | (rw [h,hx];simp;done) | (rw [h];simp))
theorem impl_capacityAt (l:List Step) (t:Int):Con 206 [.d (.sl (l.map Step.av)),.d (i64 t)] (.d (i64 (capAt t l 0))):=by
 refine con Tryz.func206 rfl rfl Tryz.call206 rfl fun hwf=>?_
 simp only [ARs.wf,AR.wf,AV.wf,List.length_map,lim] at hwf
 (conv=>whnf)
 refine loopF [1,8,9] [] [] ?_
 (conv=>whnf)
 refine LoopC.go ((Nat)×(Int)) (fun⟨k,n⟩=>(k≤l.length)∧(capAt t (l.drop k) n=capAt t l 0)) (fun⟨k,n⟩=>[(10,.data (i64 k)),(5,.data (i64 n))]) (fun _=>[]) (fun _=>[]) (fun⟨k,n⟩=>l.length - k) ⟨0,0⟩ ?_ ?_
 ·exact⟨by omega,rfl⟩
 rintro⟨k,n⟩ ⟨hk,hi⟩
 (repeat' ((conv=>whnf);first | refine gA ?_ | (refine gB ?_ ?_ <;> intro h) | (refine gI ?_;intro x hx) | (refine gJ ?_;intro j x hj hx) | refine gV ?_ | intro _)) <;> try (conv=>whnf)
 all_goals first
  | exact trivial
  | (refine⟨?_,rfl,trivial⟩;rw [drop_end' (l:=l) (by assumption)] at hi;first | (simp_all [capAt];done) | (simp only [capAt, ← hi];clear hi;simp_all [capAt];done))
  | (refine⟨?_,rfl,trivial⟩;rw [drop_get (l:=l) (by assumption)] at hi;first | (simp_all [capAt];done) | (simp only [capAt, ← hi];clear hi;simp_all [capAt];done))
  | (apply Exists.intro (⟨k+1,_⟩)
     refine⟨?_,rfl,?_,?_⟩
     rotate_left
     ·(repeat' ((conv=>whnf) <;> (first | exact trivial | exact rfl | with_reducible refine And.intro ?_ ?_)))
     ·(try dsimp only);(try simp only [List.length_map]);omega
     rw [drop_get (l:=l) (by assumption)] at hi;refine⟨by omega,?_⟩;simp_all [capAt];done)
theorem spec_l03At (l:List Step) (t:Int):Con 186 [.d (.sl (l.map Step.av)),.d (i64 t)] (.d (i64 (capAt t l 0))):=by
 refine con Tryz.func186 rfl rfl Tryz.call186 rfl fun hwf=>?_
 simp only [ARs.wf,AR.wf,AV.wf,List.length_map,lim] at hwf
 (conv=>whnf)
 refine loopF [1,8,9] [] [] ?_
 (conv=>whnf)
 refine LoopC.go ((Nat)×(Int)) (fun⟨k,n⟩=>(k≤l.length)∧(capAt t (l.drop k) n=capAt t l 0)) (fun⟨k,n⟩=>[(10,.data (i64 k)),(5,.data (i64 n))]) (fun _=>[]) (fun _=>[]) (fun⟨k,n⟩=>l.length - k) ⟨0,0⟩ ?_ ?_
 ·exact⟨by omega,rfl⟩
 rintro⟨k,n⟩ ⟨hk,hi⟩
 (repeat' ((conv=>whnf);first | refine gA ?_ | (refine gB ?_ ?_ <;> intro h) | (refine gI ?_;intro x hx) | (refine gJ ?_;intro j x hj hx) | refine gV ?_ | intro _)) <;> try (conv=>whnf)
 all_goals first
  | exact trivial
  | (refine⟨?_,rfl,trivial⟩;rw [drop_end' (l:=l) (by assumption)] at hi;first | (simp_all [capAt];done) | (simp only [capAt, ← hi];clear hi;simp_all [capAt];done))
  | (refine⟨?_,rfl,trivial⟩;rw [drop_get (l:=l) (by assumption)] at hi;first | (simp_all [capAt];done) | (simp only [capAt, ← hi];clear hi;simp_all [capAt];done))
  | (apply Exists.intro (⟨k+1,_⟩)
     refine⟨?_,rfl,?_,?_⟩
     rotate_left
     ·(repeat' ((conv=>whnf) <;> (first | exact trivial | exact rfl | with_reducible refine And.intro ?_ ?_)))
     ·(try dsimp only);(try simp only [List.length_map]);omega
     rw [drop_get (l:=l) (by assumption)] at hi;refine⟨by omega,?_⟩;simp_all [capAt];done)
theorem impl_areAmounts (l:List Int) (n:Int):Con 354 [.d (ints l),.d (i64 n)] (.d (.bool (amountsOk l n))):=by
 refine con Tryz.func354 rfl rfl Tryz.call354 rfl fun hwf=>?_
 simp only [ARs.wf,AR.wf,AV.wf,List.length_map,lim] at hwf
 (conv=>whnf)
 refine loopF [0,1,7,8] [] [] ?_
 (conv=>whnf)
 refine LoopC.go ((Nat)) (fun k=>(k≤l.length)∧((l.drop k).all isAmount=l.all isAmount)) (fun k=>[(9,.data (i64 k))]) (fun _=>[]) (fun _=>[]) (fun k=>l.length - k) (0) ?_ ?_
 ·exact⟨by omega,rfl⟩
 rintro k ⟨hk,hi⟩
 (repeat' ((conv=>whnf);first | refine gA ?_ | (refine gN ?_ ?_ <;> intro h hw) | (refine gB ?_ ?_ <;> intro h) | (refine gI ?_;intro x hx) | (refine gJ ?_;intro j x hj hx) | refine gV ?_ | refine gC (impl_isAmount _) ?_ | intro _)) <;> try (conv=>whnf)
 all_goals first
  | exact trivial
  | (refine⟨?_,rfl,trivial⟩;rw [drop_end' (l:=l) (by assumption)] at hi;first | (simp_all [amountsOk];done) | (simp only [amountsOk, ← hi];clear hi;simp_all [amountsOk];done))
  | (refine⟨?_,rfl,trivial⟩;rw [drop_get (l:=l) (by assumption)] at hi;first | (simp_all [amountsOk];done) | (simp only [amountsOk, ← hi];clear hi;simp_all [amountsOk];done))
  | (refine nx (k+1) ?_
     rw [drop_get (l:=l) (by assumption)] at hi;refine⟨by omega,?_⟩;simp_all [amountsOk];done)
theorem spec_l04Nums (l:List Int) (n:Int):Con 351 [.d (ints l),.d (i64 n)] (.d (.bool (amountsOk l n))):=by
 refine con Tryz.func351 rfl rfl Tryz.call351 rfl fun hwf=>?_
 simp only [ARs.wf,AR.wf,AV.wf,List.length_map,lim] at hwf
 (conv=>whnf)
 refine loopF [0,1,7,8] [] [] ?_
 (conv=>whnf)
 refine LoopC.go ((Nat)) (fun k=>(k≤l.length)∧((l.drop k).all isAmount=l.all isAmount)) (fun k=>[(9,.data (i64 k))]) (fun _=>[]) (fun _=>[]) (fun k=>l.length - k) (0) ?_ ?_
 ·exact⟨by omega,rfl⟩
 rintro k ⟨hk,hi⟩
 (repeat' ((conv=>whnf);first | refine gA ?_ | (refine gN ?_ ?_ <;> intro h hw) | (refine gB ?_ ?_ <;> intro h) | (refine gI ?_;intro x hx) | (refine gJ ?_;intro j x hj hx) | refine gV ?_ | refine gC (spec_in _ _ _) ?_ | intro _)) <;> try (conv=>whnf)
 all_goals first
  | exact trivial
  | (refine⟨?_,rfl,trivial⟩;rw [drop_end' (l:=l) (by assumption)] at hi;first | (simp_all [amountsOk,isAmount];done) | (simp only [amountsOk,isAmount, ← hi];clear hi;simp_all [amountsOk,isAmount];done))
  | (refine⟨?_,rfl,trivial⟩;rw [drop_get (l:=l) (by assumption)] at hi;first | (simp_all [amountsOk,isAmount];done) | (simp only [amountsOk,isAmount, ← hi];clear hi;simp_all [amountsOk,isAmount];done))
  | (refine nx (k+1) ?_
     rw [drop_get (l:=l) (by assumption)] at hi;refine⟨by omega,?_⟩;simp_all [amountsOk,isAmount];done)
theorem impl_ModeOk (m:Mode) (r s:Int):Con 291 [.d m.av,.d (i64 r),.d (i64 s)] (.d (.bool (modeOk m r s))):=by
 refine con Tryz.func291 rfl rfl Tryz.call291 rfl fun hwf=>?_
 (repeat' ((conv=>whnf);first | refine gA ?_ | (refine gN ?_ ?_ <;> intro h hw) | (refine gB ?_ ?_ <;> intro h) | refine gC (impl_within _ _ _) ?_ | refine gC (impl_areAmounts _ _) ?_ | intro _)) <;> try (conv=>whnf)
 all_goals refine⟨?_,rfl,trivial⟩
 all_goals simp_all [modeOk]
theorem spec_ModeOk (m:Mode) (r s:Int):Con 278 [.d m.av,.d (i64 r),.d (i64 s)] (.d (.bool (modeOk m r s))):=by
 refine con Tryz.func278 rfl rfl Tryz.call278 rfl fun hwf=>?_
 (repeat' ((conv=>whnf);first | refine gA ?_ | (refine gN ?_ ?_ <;> intro h hw) | (refine gB ?_ ?_ <;> intro h) | refine gC (spec_in _ _ _) ?_ | refine gC (spec_l04Nums _ _) ?_ | intro _)) <;> try (conv=>whnf)
 all_goals refine⟨?_,rfl,trivial⟩
 all_goals simp_all [modeOk]
theorem impl_ActivityOk (a:Activ) (r s:Int) (hs:a.name.size≤lim):Con 207 [.d a.av,.d (i64 r),.d (i64 s)] (.d (.bool (activOk a r s))):=by
 refine con Tryz.func207 rfl rfl Tryz.call207 rfl fun hwf=>?_
 simp only [ARs.wf,AR.wf,AV.wf,AV.wfs,List.length_map,lim] at hwf
 (conv=>whnf)
 refine loopF [1,2,3,10,11] [3] [] ?_
 (conv=>whnf)
 refine LoopC.go ((Nat)) (fun k=>(k≤a.modes.length)∧((a.modes.drop k).all (fun m=>modeOk m r s)=a.modes.all (fun m=>modeOk m r s))) (fun k=>[(12,.data (i64 k))]) (fun _=>[]) (fun _=>[]) (fun k=>a.modes.length - k) (0) ?_ ?_
 ·exact⟨by omega,rfl⟩
 rintro k ⟨hk,hi⟩
 (repeat' ((conv=>whnf);first | refine gA ?_ | (refine gN ?_ ?_ <;> intro h hw) | (refine gB ?_ ?_ <;> intro h) | (refine gI ?_;intro x hx) | (refine gJ ?_;intro j x hj hx) | refine gV ?_ | refine gC (impl_ModeOk x r s) ?_ | refine gC (impl_IsName a.name hs) ?_ | refine gC (impl_within _ _ _) ?_ | intro _)) <;> try (conv=>whnf)
 all_goals first
  | exact trivial
  | (refine⟨?_,rfl,trivial⟩;rw [drop_end' (l:=a.modes) (by assumption)] at hi;first | (simp_all [activOk];done) | (simp only [activOk, ← hi];clear hi;simp_all [activOk];done))
  | (refine⟨?_,rfl,trivial⟩;rw [drop_get (l:=a.modes) (by assumption)] at hi;first | (simp_all [activOk];done) | (simp only [activOk, ← hi];clear hi;simp_all [activOk];done))
  | (refine nx (k+1) ?_
     rw [drop_get (l:=a.modes) (by assumption)] at hi;refine⟨by omega,?_⟩;simp_all [activOk];done)
theorem spec_ActivityOk (a:Activ) (r s:Int) (hs:a.name.size≤lim):Con 188 [.d a.av,.d (i64 r),.d (i64 s)] (.d (.bool (activOk a r s))):=by
 refine con Tryz.func188 rfl rfl Tryz.call188 rfl fun hwf=>?_
 simp only [ARs.wf,AR.wf,AV.wf,AV.wfs,List.length_map,lim] at hwf
 (conv=>whnf)
 refine loopF [1,2,3,10,11] [3] [] ?_
 (conv=>whnf)
 refine LoopC.go ((Nat)) (fun k=>(k≤a.modes.length)∧((a.modes.drop k).all (fun m=>modeOk m r s)=a.modes.all (fun m=>modeOk m r s))) (fun k=>[(12,.data (i64 k))]) (fun _=>[]) (fun _=>[]) (fun k=>a.modes.length - k) (0) ?_ ?_
 ·exact⟨by omega,rfl⟩
 rintro k ⟨hk,hi⟩
 (repeat' ((conv=>whnf);first | refine gA ?_ | (refine gN ?_ ?_ <;> intro h hw) | (refine gB ?_ ?_ <;> intro h) | (refine gI ?_;intro x hx) | (refine gJ ?_;intro j x hj hx) | refine gV ?_ | refine gC (spec_ModeOk x r s) ?_ | refine gC (spec_IsName a.name hs) ?_ | refine gC (spec_in _ _ _) ?_ | intro _)) <;> try (conv=>whnf)
 all_goals first
  | exact trivial
  | (refine⟨?_,rfl,trivial⟩;rw [drop_end' (l:=a.modes) (by assumption)] at hi;first | (simp_all [activOk];done) | (simp only [activOk, ← hi];clear hi;simp_all [activOk];done))
  | (refine⟨?_,rfl,trivial⟩;rw [drop_get (l:=a.modes) (by assumption)] at hi;first | (simp_all [activOk];done) | (simp only [activOk, ← hi];clear hi;simp_all [activOk];done))
  | (refine nx (k+1) ?_
     rw [drop_get (l:=a.modes) (by assumption)] at hi;refine⟨by omega,?_⟩;simp_all [activOk];done)
end Go.Proofs.YtfhojdalheinaaaGreat.Abs
