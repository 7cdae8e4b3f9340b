/- Contracts: numbers, names, sets, steps. -/
import Derived.Test.YtmenphiahgkjkaaGreatDoorTab
import Derived.Test.YtmenphiahgkjkaaGreatDoorPlain
import Derived.KernelRfl
set_option linter.all false
set_option maxRecDepth 20000
namespace Go.Proofs.YtmenphiahgkjkaaGreatDoor.Abs
open Go.Proofs
theorem mixed:Tryz.prog.follows .mixedOrders=true:=by kernel_rfl
abbrev Con (f:Nat) (args:List AR) (r:RV):Prop:=Contract Tryz.prog tab lim f args r
theorem con {f:FuncId} {fn:Func} {code:Code} {args:List AR} {r:RV} (hf:Tryz.prog.funcs[f]? =some fn) (hb:fn.body=some code) (hp:iw code=true)
  (hcall:∀(vs:Array Value) (w:World),(callFunc f vs).run Tryz.prog w= .ok (.enter f vs) w) (hlen:(Nat.ble args.length fn.ntmps&&Xx args r)=true)
  (h:ARs.wf lim args→CQ tab (kH Tryz.prog tab lim) lim code (DU tab fn.results.toList r) (entry fn.ntmps args)):Con f args r:=
 Ja aaK (by decide) (by decide) mixed hf hb hp hcall hlen h
theorem aS (n lo hi:Int):Con 19 [.d (i64 n),.d (i64 lo),.d (i64 hi)] (.d (.bool (within n lo hi))):=by
 refine con Tryz.func19 rfl rfl Tryz.call19 rfl fun hwf=>?_
 (repeat' ((conv=>whnf);first|refine gA ?_|(refine gB ?_ ?_<;>intro h)|intro _))<;>try (conv=>whnf)
 all_goals refine⟨?_,rfl,trivial⟩
 all_goals (simp_all [within];try omega)
theorem jZ (n:Int):Con 82 [.d (i64 n)] (.d (.bool (eY n))):=by
 refine con Tryz.func82 rfl rfl Tryz.call82 rfl fun hwf=>?_
 (repeat' ((conv=>whnf);first|refine gA ?_|(refine gN ?_ ?_<;>intro h hw)|(refine gB ?_ ?_<;>intro h)|refine gC (aS _ _ _) ?_|intro _))<;>try (conv=>whnf)
 exact⟨rfl,rfl,trivial⟩
theorem BJ (n:Int):Con 120 [.d (i64 n)] (.d (.bool (mU n))):=by
 refine con Tryz.func120 rfl rfl Tryz.call120 rfl fun hwf=>?_
 (repeat' ((conv=>whnf);first|refine gA ?_|(refine gN ?_ ?_<;>intro h hw)|(refine gB ?_ ?_<;>intro h)|refine gC (aS _ _ _) ?_|intro _))<;>try (conv=>whnf)
 exact⟨rfl,rfl,trivial⟩
theorem Te (s:ByteArray) (hs:s.size≤lim):Con 88 [.d (.str s)] (.d (.bool (CW s))):=by
 refine con Tryz.func88 rfl rfl Tryz.call88 rfl fun hwf=>?_
 unfold lim at hs
 (conv=>whnf)
 refine aB [0,6] [] [] ?_
 (conv=>whnf)
 refine aA.go ((Nat)) (fun k=>(k≤s.size)∧(∀i,i < k→nameAt s i=true)) (fun k=>[(7,.data (i64 k))]) (fun _=>[]) (fun _=>[]) (fun k=>s.size - k) (0) ?_ ?_
 ·exact⟨by omega,by omega⟩
 rintro k ⟨hk,hi⟩
 (repeat' ((conv=>whnf);first|refine gA ?_|(refine gN ?_ ?_<;>intro h hw)|(refine gB ?_ ?_<;>intro h)|(refine gI ?_;intro x hx)|(refine gJ ?_;intro j x hj hx)|refine gV ?_|refine gC (aS _ _ _) ?_|intro _))<;>try (conv=>whnf)
 all_goals first
  |exact trivial
  |(refine⟨?_,rfl,trivial⟩;rw [CW,lT k (by omega) (by simp_all [nameAt,Ve];try omega)];rfl)
  |(refine nx (k+1) ?_
    exact⟨by omega,lU hi (by simp_all [nameAt,Ve];try omega)⟩)
  |(refine⟨?_,rfl,trivial⟩;rw [CW,bX.2 fun i hh=>hi i (by omega)];rfl)
theorem Vk (l:List Int):Con 70 [.d (ints l)] (.d (.bool (uE l))):=by
 refine con Tryz.func70 rfl rfl Tryz.call70 rfl fun hwf=>?_
 simp only [ARs.wf,AR.wf,AV.wf,List.length_map,lim] at hwf
 (conv=>whnf)
 refine aB [0] [] [] ?_
 (conv=>whnf)
 refine aA.go ((Nat)) (fun k=>(1≤k)∧(k≤l.length+1)∧(∀i,i < k→i < l.length→setAt l i=true)) (fun k=>[(3,.data (i64 k))]) (fun _=>[]) (fun _=>[]) (fun k=>l.length+1 - k) (1) ?_ ?_
 ·exact⟨by omega,by omega,fun i h1 h2=>by obtain rfl:i=0:=by omega
                                          rfl⟩
 rintro k ⟨h1,hk,hi⟩
 (repeat' ((conv=>whnf);first|refine gA ?_|(refine gB ?_ ?_<;>intro h)|(refine gI ?_;intro x hx)|(refine gJ ?_;intro j x hj hx)|refine gV ?_|intro _))<;>try (conv=>whnf)
 ·obtain rfl:j=k - 1:=by omega
  refine⟨?_,rfl,trivial⟩
  rw [uE,lT k (by omega) (by simp_all [setAt,List.getD_eq_getElem?_getD];omega)]
 ·obtain rfl:j=k - 1:=by omega
  refine nx (k+1) ?_
  refine⟨by omega,by omega,fun i h1 h2=>?_⟩
  by_cases e:i=k
  ·subst e;simp_all [setAt,List.getD_eq_getElem?_getD]
  ·exact hi i (by omega) h2
 ·refine⟨?_,rfl,trivial⟩
  rw [uE,bX.2 fun i hh=>hi i (by omega) hh]
theorem slices_Index (l:List Int) (n:Int):Con 178 [.d (ints l),.d (i64 n)] (.d (i64 (aQ (fun x=>decide (n=x)) l 0))):=by
 refine con Tryz.func178 rfl rfl Tryz.call178 rfl fun hwf=>?_
 simp only [ARs.wf,AR.wf,AV.wf,List.length_map,lim] at hwf
 (conv=>whnf)
 refine aB [0,1,7] [] [] ?_
 (conv=>whnf)
 refine aA.go ((Nat)) (fun k=>(k≤l.length)∧(aQ (fun x=>decide (n=x)) (l.drop k) k=aQ (fun x=>decide (n=x)) l 0)) (fun k=>[(8,.data (i64 k))]) (fun _=>[]) (fun _=>[]) (fun k=>l.length - k) (0) ?_ ?_
 ·exact⟨by omega,rfl⟩
 rintro k ⟨hk,hi⟩
 (repeat' ((conv=>whnf);first|refine gA ?_|(refine gB ?_ ?_<;>intro h)|(refine gI ?_;intro x hx)|(refine gJ ?_;intro j x hj hx)|refine gV ?_|intro _))<;>try (conv=>whnf)
 all_goals first
  |exact trivial
  |(refine⟨?_,rfl,trivial⟩;rw [bC (l:=l) (by assumption)] at hi;first|(simp_all [aQ];done)|(simp only [aQ, ← hi];clear hi;simp_all [aQ];done))
  |(refine⟨?_,rfl,trivial⟩;rw [aF (l:=l) (by assumption)] at hi;first|(simp_all [aQ];done)|(simp only [aQ, ← hi];clear hi;simp_all [aQ];done))
  |(refine nx (k+1) ?_
    rw [aF (l:=l) (by assumption)] at hi;refine⟨by omega,?_⟩;simp_all [aQ];done)
theorem any_eq {l:List Int} {n:Int}:l.any (fun x=>decide (n=x))=l.contains n:=by
 induction l with
 |nil=>rfl
 |cons x l ih=>simp only [List.any_cons,List.contains_cons,ih];rfl
theorem slices_Contains (l:List Int) (n:Int):Con 140 [.d (ints l),.d (i64 n)] (.d (.bool (l.contains n))):=by
 refine con Tryz.func140 rfl rfl Tryz.call140 rfl fun hwf=>?_
 (repeat' ((conv=>whnf);first|refine gA ?_|(refine gB ?_ ?_<;>intro h)|refine gC (slices_Index _ _) ?_|intro _))<;>try (conv=>whnf)
 refine⟨?_,rfl,trivial⟩
 rw [← any_eq, ← vY l 0]
theorem uI (l:List Int) (n:Int):Con 105 [.d (ints l),.d (i64 n)] (.d (.bool (l.contains n))):=by
 refine con Tryz.func105 rfl rfl Tryz.call105 rfl fun hwf=>?_
 (repeat' ((conv=>whnf);first|refine gA ?_|(refine gB ?_ ?_<;>intro h)|refine gC (slices_Contains _ _) ?_|intro _))<;>try (conv=>whnf)
 exact⟨rfl,rfl,trivial⟩
theorem zD (a b:List Int):Con 71 [.d (ints a),.d (ints b)] (.d (.bool (subset a b))):=by
 refine con Tryz.func71 rfl rfl Tryz.call71 rfl fun hwf=>?_
 simp only [ARs.wf,AR.wf,AV.wf,List.length_map,lim] at hwf
 (conv=>whnf)
 refine aB [1,7,8] [] [] ?_
 (conv=>whnf)
 refine aA.go ((Nat)) (fun k=>(k≤a.length)∧(subset (a.drop k) b=subset a b)) (fun k=>[(9,.data (i64 k))]) (fun _=>[]) (fun _=>[]) (fun k=>a.length - k) (0) ?_ ?_
 ·exact⟨by omega,rfl⟩
 rintro k ⟨hk,hi⟩
 (repeat' ((conv=>whnf);first|refine gA ?_|(refine gB ?_ ?_<;>intro h)|(refine gI ?_;intro x hx)|(refine gJ ?_;intro j x hj hx)|refine gV ?_|refine gC (uI _ _) ?_|intro _))<;>try (conv=>whnf)
 all_goals first
  |exact trivial
  |(refine⟨?_,rfl,trivial⟩;rw [bC (l:=a) (by assumption)] at hi;first|(simp_all [subset];done)|(simp only [subset, ← hi];clear hi;simp_all [subset];done))
  |(refine⟨?_,rfl,trivial⟩;rw [aF (l:=a) (by assumption)] at hi;first|(simp_all [subset];done)|(simp only [subset, ← hi];clear hi;simp_all [subset];done))
  |(refine nx (k+1) ?_
    rw [aF (l:=a) (by assumption)] at hi;refine⟨by omega,?_⟩;simp_all [subset];done)
theorem xH (l:List Step):Con 91 [.d (.sl (l.map Step.av))] (.d (.bool (lV l))):=by
 refine con Tryz.func91 rfl rfl Tryz.call91 rfl fun hwf=>?_
 simp only [ARs.wf,AR.wf,AV.wf,List.length_map,lim] at hwf
 (conv=>whnf)
 refine aB [0,5,6] [] [] ?_
 (conv=>whnf)
 refine aA.go ((Nat)) (fun k=>(k≤l.length)∧(∀i,i < k→Gu l i=true)) (fun k=>[(7,.data (i64 k))]) (fun _=>[]) (fun _=>[]) (fun k=>l.length - k) (0) ?_ ?_
 ·exact⟨by omega,by omega⟩
 rintro k ⟨hk,hi⟩
 (repeat' ((conv=>whnf);first|refine gA ?_|(refine gN ?_ ?_<;>intro h hw)|(refine gB ?_ ?_<;>intro h)|(refine gI ?_;intro x hx)|(refine gJ ?_;intro j x hj hx)|refine gV ?_|refine gC (jZ _) ?_|refine gC (BJ _) ?_|refine gC (aS _ _ _) ?_|intro _))<;>try (conv=>whnf)
 all_goals first
  |exact trivial
  |(exfalso;omega)
  |(refine⟨?_,rfl,trivial⟩;rw [lV,lT k (by omega) (by (try (obtain rfl:j=k - 1:=by omega));simp_all [Gu];try omega)];rfl)
  |(refine nx (k+1) ?_
    exact⟨by omega,lU hi (by (try (obtain rfl:j=k - 1:=by omega));simp_all [Gu];try omega)⟩)
  |(refine⟨?_,rfl,trivial⟩;rw [lV,bX.2 fun i hh=>hi i (by omega)];simp)
theorem ru (l:List Step) (t:Int):Con 114 [.d (.sl (l.map Step.av)),.d (i64 t)] (.d (i64 (oF t l 0))):=by
 refine con Tryz.func114 rfl rfl Tryz.call114 rfl fun hwf=>?_
 simp only [ARs.wf,AR.wf,AV.wf,List.length_map,lim] at hwf
 (conv=>whnf)
 refine aB [1,8,9] [] [] ?_
 (conv=>whnf)
 refine aA.go ((Nat)×(Int)) (fun⟨k,n⟩=>(k≤l.length)∧(oF t (l.drop k) n=oF t l 0)) (fun⟨k,n⟩=>[(10,.data (i64 k)),(5,.data (i64 n))]) (fun _=>[]) (fun _=>[]) (fun⟨k,n⟩=>l.length - k) ⟨0,0⟩ ?_ ?_
 ·exact⟨by omega,rfl⟩
 rintro⟨k,n⟩ ⟨hk,hi⟩
 (repeat' ((conv=>whnf);first|refine gA ?_|(refine gB ?_ ?_<;>intro h)|(refine gI ?_;intro x hx)|(refine gJ ?_;intro j x hj hx)|refine gV ?_|intro _))<;>try (conv=>whnf)
 all_goals first
  |exact trivial
  |(refine⟨?_,rfl,trivial⟩;rw [bC (l:=l) (by assumption)] at hi;first|(simp_all [oF];done)|(simp only [oF, ← hi];clear hi;simp_all [oF];done))
  |(refine⟨?_,rfl,trivial⟩;rw [aF (l:=l) (by assumption)] at hi;first|(simp_all [oF];done)|(simp only [oF, ← hi];clear hi;simp_all [oF];done))
  |(apply Exists.intro (⟨k+1,_⟩)
    refine⟨?_,rfl,?_,?_⟩
    rotate_left
    ·(repeat' ((conv=>whnf)<;>(first|exact trivial|exact rfl|with_reducible refine And.intro ?_ ?_)))
    ·(try dsimp only);(try simp only [List.length_map]);omega
    rw [aF (l:=l) (by assumption)] at hi;refine⟨by omega,?_⟩;simp_all [oF];done)
theorem Jc (l:List Int) (n:Int):Con 119 [.d (ints l),.d (i64 n)] (.d (.bool (dX l n))):=by
 refine con Tryz.func119 rfl rfl Tryz.call119 rfl fun hwf=>?_
 simp only [ARs.wf,AR.wf,AV.wf,List.length_map,lim] at hwf
 (conv=>whnf)
 refine aB [0,1,7,8] [] [] ?_
 (conv=>whnf)
 refine aA.go ((Nat)) (fun k=>(k≤l.length)∧((l.drop k).all mU=l.all mU)) (fun k=>[(9,.data (i64 k))]) (fun _=>[]) (fun _=>[]) (fun k=>l.length - k) (0) ?_ ?_
 ·exact⟨by omega,rfl⟩
 rintro k ⟨hk,hi⟩
 (repeat' ((conv=>whnf);first|refine gA ?_|(refine gN ?_ ?_<;>intro h hw)|(refine gB ?_ ?_<;>intro h)|(refine gI ?_;intro x hx)|(refine gJ ?_;intro j x hj hx)|refine gV ?_|refine gC (BJ _) ?_|intro _))<;>try (conv=>whnf)
 all_goals first
  |exact trivial
  |(refine⟨?_,rfl,trivial⟩;rw [bC (l:=l) (by assumption)] at hi;first|(simp_all [dX];done)|(simp only [dX, ← hi];clear hi;simp_all [dX];done))
  |(refine⟨?_,rfl,trivial⟩;rw [aF (l:=l) (by assumption)] at hi;first|(simp_all [dX];done)|(simp only [dX, ← hi];clear hi;simp_all [dX];done))
  |(refine nx (k+1) ?_
    rw [aF (l:=l) (by assumption)] at hi;refine⟨by omega,?_⟩;simp_all [dX];done)
theorem Tf (m:Mode) (r s:Int):Con 87 [.d m.av,.d (i64 r),.d (i64 s)] (.d (.bool (kW m r s))):=by
 refine con Tryz.func87 rfl rfl Tryz.call87 rfl fun hwf=>?_
 (repeat' ((conv=>whnf);first|refine gA ?_|(refine gN ?_ ?_<;>intro h hw)|(refine gB ?_ ?_<;>intro h)|refine gC (aS _ _ _) ?_|refine gC (Jc _ _) ?_|intro _))<;>try (conv=>whnf)
 all_goals refine⟨?_,rfl,trivial⟩
 all_goals simp_all [kW]
theorem Jd (a:aC) (r s:Int) (hs:a.name.size≤lim):Con 45 [.d a.av,.d (i64 r),.d (i64 s)] (.d (.bool (dD a r s))):=by
 refine con Tryz.func45 rfl rfl Tryz.call45 rfl fun hwf=>?_
 simp only [ARs.wf,AR.wf,AV.wf,AV.wfs,lm,lim] at hwf
 (conv=>whnf)
 refine aB [1,2,3,10,11] [3] [] ?_
 (conv=>whnf)
 refine aA.go ((Nat)) (fun k=>(k≤a.modes.length)∧((a.modes.drop k).all (fun m=>kW m r s)=a.modes.all (fun m=>kW m r s))) (fun k=>[(12,.data (i64 k))]) (fun _=>[]) (fun _=>[]) (fun k=>a.modes.length - k) (0) ?_ ?_
 ·exact⟨by omega,rfl⟩
 rintro k ⟨hk,hi⟩
 (repeat' ((conv=>whnf);first|refine gA ?_|(refine gN ?_ ?_<;>intro h hw)|(refine gB ?_ ?_<;>intro h)|(refine gI ?_;intro x hx)|(refine gJ ?_;intro j x hj hx)|refine gV ?_|refine gC (Tf x r s) ?_|refine gC (Te a.name hs) ?_|refine gC (aS _ _ _) ?_|intro _))<;>try (conv=>whnf)
 all_goals first
  |exact trivial
  |(refine⟨?_,rfl,trivial⟩;rw [bC (l:=a.modes) (by assumption)] at hi;first|(simp_all [dD];done)|(simp only [dD, ← hi];clear hi;simp_all [dD];done))
  |(refine⟨?_,rfl,trivial⟩;rw [aF (l:=a.modes) (by assumption)] at hi;first|(simp_all [dD];done)|(simp only [dD, ← hi];clear hi;simp_all [dD];done))
  |(refine nx (k+1) ?_
    rw [aF (l:=a.modes) (by assumption)] at hi;refine⟨by omega,?_⟩;simp_all [dD];done)
end Go.Proofs.YtmenphiahgkjkaaGreatDoor.Abs
