/- Contracts: numbers, names, sets, steps. -/
import Derived.Test.YtefgamefajmdkaaGreatTab
import Derived.Test.YtefgamefajmdkaaGreatPlain
import Derived.KernelRfl
set_option linter.all false
set_option maxRecDepth 20000
namespace Go.Proofs.YtefgamefajmdkaaGreat.Abs
open Go.Proofs
theorem mixed:Tryz.prog.follows .mixedOrders=true:=by kernel_rfl
abbrev Con (f:Nat) (args:List AR) (r:RV):Prop:=Contract Tryz.prog tab lim f args r
theorem con {f:FuncId} {fn:Func} {code:Code} {args:List AR} {r:RV} (hf:Tryz.prog.funcs[f]? =some fn) (hb:fn.body=some code) (hp:fu code=true)
  (hcall:∀(vs:Array Value) (w:World),(callFunc f vs).run Tryz.prog w= .ok (.enter f vs) w) (hlen:(Nat.ble args.length fn.ntmps&&RL args r)=true)
  (h:ARs.wf lim args→yM tab (iZ Tryz.prog tab lim) lim code (zH tab fn.results.toList r) (entry fn.ntmps args)):Con f args r:=
 Eb Vu (by decide) (by decide) mixed hf hb hp hcall hlen h
theorem aO (n lo hi:Int):Con 53 [.d (i64 n),.d (i64 lo),.d (i64 hi)] (.d (.bool (within n lo hi))):=by
 refine con Tryz.func53 rfl rfl Tryz.call53 rfl fun hwf=>?_
 (repeat' ((conv=>whnf);first|refine gA ?_|(refine gB ?_ ?_<;>intro h)|intro _))<;>try (conv=>whnf)
 all_goals refine⟨?_,rfl,trivial⟩
 all_goals (simp_all [within];try omega)
theorem iQ (n:Int):Con 186 [.d (i64 n)] (.d (.bool (fF n))):=by
 refine con Tryz.func186 rfl rfl Tryz.call186 rfl fun hwf=>?_
 (repeat' ((conv=>whnf);first|refine gA ?_|(refine gN ?_ ?_<;>intro h hw)|(refine gB ?_ ?_<;>intro h)|refine gC (aO _ _ _) ?_|intro _))<;>try (conv=>whnf)
 exact⟨rfl,rfl,trivial⟩
theorem xR (n:Int):Con 201 [.d (i64 n)] (.d (.bool (ku n))):=by
 refine con Tryz.func201 rfl rfl Tryz.call201 rfl fun hwf=>?_
 (repeat' ((conv=>whnf);first|refine gA ?_|(refine gN ?_ ?_<;>intro h hw)|(refine gB ?_ ?_<;>intro h)|refine gC (aO _ _ _) ?_|intro _))<;>try (conv=>whnf)
 exact⟨rfl,rfl,trivial⟩
theorem NU (s:ByteArray) (hs:s.size≤lim):Con 136 [.d (.str s)] (.d (.bool (yO s))):=by
 refine con Tryz.func136 rfl rfl Tryz.call136 rfl fun hwf=>?_
 unfold lim at hs
 (conv=>whnf)
 refine aA [0,6] [] [] ?_
 (conv=>whnf)
 refine ay.go ((Nat)) (fun k=>(k≤s.size)∧(∀i,i < k→nameAt s i=true)) (fun k=>[(7,.data (i64 k))]) (fun _=>[]) (fun _=>[]) (fun k=>s.size - k) (0) ?_ ?_
 ·exact⟨by omega,by omega⟩
 rintro k ⟨hk,hi⟩
 (repeat' ((conv=>whnf);first|refine gA ?_|(refine gN ?_ ?_<;>intro h hw)|(refine gB ?_ ?_<;>intro h)|(refine gI ?_;intro x hx)|(refine gJ ?_;intro j x hj hx)|refine gV ?_|refine gC (aO _ _ _) ?_|intro _))<;>try (conv=>whnf)
 all_goals first
  |exact trivial
  |(refine⟨?_,rfl,trivial⟩;rw [yO,jM k (by omega) (by simp_all [nameAt,Py];try omega)];rfl)
  |(refine nx (k+1) ?_
    exact⟨by omega,jN hi (by simp_all [nameAt,Py];try omega)⟩)
  |(refine⟨?_,rfl,trivial⟩;rw [yO,dO.2 fun i hh=>hi i (by omega)];rfl)
theorem PL (l:List Int):Con 50 [.d (ints l)] (.d (.bool (vo l))):=by
 refine con Tryz.func50 rfl rfl Tryz.call50 rfl fun hwf=>?_
 simp only [ARs.wf,AR.wf,AV.wf,List.length_map,lim] at hwf
 (conv=>whnf)
 refine aA [0] [] [] ?_
 (conv=>whnf)
 refine ay.go ((Nat)) (fun k=>(1≤k)∧(k≤l.length+1)∧(∀i,i < k→i < l.length→setAt l i=true)) (fun k=>[(3,.data (i64 k))]) (fun _=>[]) (fun _=>[]) (fun k=>l.length+1 - k) (1) ?_ ?_
 ·exact⟨by omega,by omega,fun i h1 h2=>by obtain rfl:i=0:=by omega
                                          rfl⟩
 rintro k ⟨h1,hk,hi⟩
 (repeat' ((conv=>whnf);first|refine gA ?_|(refine gB ?_ ?_<;>intro h)|(refine gI ?_;intro x hx)|(refine gJ ?_;intro j x hj hx)|refine gV ?_|intro _))<;>try (conv=>whnf)
 ·obtain rfl:j=k - 1:=by omega
  refine⟨?_,rfl,trivial⟩
  rw [vo,jM k (by omega) (by simp_all [setAt,List.getD_eq_getElem?_getD];omega)]
 ·obtain rfl:j=k - 1:=by omega
  refine nx (k+1) ?_
  refine⟨by omega,by omega,fun i h1 h2=>?_⟩
  by_cases e:i=k
  ·subst e;simp_all [setAt,List.getD_eq_getElem?_getD]
  ·exact hi i (by omega) h2
 ·refine⟨?_,rfl,trivial⟩
  rw [vo,dO.2 fun i hh=>hi i (by omega) hh]
theorem slices_Index (l:List Int) (n:Int):Con 189 [.d (ints l),.d (i64 n)] (.d (i64 (aJ (fun x=>decide (n=x)) l 0))):=by
 refine con Tryz.func189 rfl rfl Tryz.call189 rfl fun hwf=>?_
 simp only [ARs.wf,AR.wf,AV.wf,List.length_map,lim] at hwf
 (conv=>whnf)
 refine aA [0,1,7] [] [] ?_
 (conv=>whnf)
 refine ay.go ((Nat)) (fun k=>(k≤l.length)∧(aJ (fun x=>decide (n=x)) (l.drop k) k=aJ (fun x=>decide (n=x)) l 0)) (fun k=>[(8,.data (i64 k))]) (fun _=>[]) (fun _=>[]) (fun k=>l.length - k) (0) ?_ ?_
 ·exact⟨by omega,rfl⟩
 rintro k ⟨hk,hi⟩
 (repeat' ((conv=>whnf);first|refine gA ?_|(refine gB ?_ ?_<;>intro h)|(refine gI ?_;intro x hx)|(refine gJ ?_;intro j x hj hx)|refine gV ?_|intro _))<;>try (conv=>whnf)
 all_goals first
  |exact trivial
  |(refine⟨?_,rfl,trivial⟩;rw [aU (l:=l) (by assumption)] at hi;first|(simp_all [aJ];done)|(simp only [aJ, ← hi];clear hi;simp_all [aJ];done))
  |(refine⟨?_,rfl,trivial⟩;rw [aC (l:=l) (by assumption)] at hi;first|(simp_all [aJ];done)|(simp only [aJ, ← hi];clear hi;simp_all [aJ];done))
  |(refine nx (k+1) ?_
    rw [aC (l:=l) (by assumption)] at hi;refine⟨by omega,?_⟩;simp_all [aJ];done)
theorem any_eq {l:List Int} {n:Int}:l.any (fun x=>decide (n=x))=l.contains n:=by
 induction l with
 |nil=>rfl
 |cons x l ih=>simp only [List.any_cons,List.contains_cons,ih];rfl
theorem slices_Contains (l:List Int) (n:Int):Con 128 [.d (ints l),.d (i64 n)] (.d (.bool (l.contains n))):=by
 refine con Tryz.func128 rfl rfl Tryz.call128 rfl fun hwf=>?_
 (repeat' ((conv=>whnf);first|refine gA ?_|(refine gB ?_ ?_<;>intro h)|refine gC (slices_Index _ _) ?_|intro _))<;>try (conv=>whnf)
 refine⟨?_,rfl,trivial⟩
 rw [← any_eq, ← vk l 0]
theorem qD (l:List Int) (n:Int):Con 58 [.d (ints l),.d (i64 n)] (.d (.bool (l.contains n))):=by
 refine con Tryz.func58 rfl rfl Tryz.call58 rfl fun hwf=>?_
 (repeat' ((conv=>whnf);first|refine gA ?_|(refine gB ?_ ?_<;>intro h)|refine gC (slices_Contains _ _) ?_|intro _))<;>try (conv=>whnf)
 exact⟨rfl,rfl,trivial⟩
theorem vI (a b:List Int):Con 51 [.d (ints a),.d (ints b)] (.d (.bool (subset a b))):=by
 refine con Tryz.func51 rfl rfl Tryz.call51 rfl fun hwf=>?_
 simp only [ARs.wf,AR.wf,AV.wf,List.length_map,lim] at hwf
 (conv=>whnf)
 refine aA [1,7,8] [] [] ?_
 (conv=>whnf)
 refine ay.go ((Nat)) (fun k=>(k≤a.length)∧(subset (a.drop k) b=subset a b)) (fun k=>[(9,.data (i64 k))]) (fun _=>[]) (fun _=>[]) (fun k=>a.length - k) (0) ?_ ?_
 ·exact⟨by omega,rfl⟩
 rintro k ⟨hk,hi⟩
 (repeat' ((conv=>whnf);first|refine gA ?_|(refine gB ?_ ?_<;>intro h)|(refine gI ?_;intro x hx)|(refine gJ ?_;intro j x hj hx)|refine gV ?_|refine gC (qD _ _) ?_|intro _))<;>try (conv=>whnf)
 all_goals first
  |exact trivial
  |(refine⟨?_,rfl,trivial⟩;rw [aU (l:=a) (by assumption)] at hi;first|(simp_all [subset];done)|(simp only [subset, ← hi];clear hi;simp_all [subset];done))
  |(refine⟨?_,rfl,trivial⟩;rw [aC (l:=a) (by assumption)] at hi;first|(simp_all [subset];done)|(simp only [subset, ← hi];clear hi;simp_all [subset];done))
  |(refine nx (k+1) ?_
    rw [aC (l:=a) (by assumption)] at hi;refine⟨by omega,?_⟩;simp_all [subset];done)
theorem tL (l:List Step):Con 139 [.d (.sl (l.map Step.av))] (.d (.bool (kG l))):=by
 refine con Tryz.func139 rfl rfl Tryz.call139 rfl fun hwf=>?_
 simp only [ARs.wf,AR.wf,AV.wf,List.length_map,lim] at hwf
 (conv=>whnf)
 refine aA [0,5,6] [] [] ?_
 (conv=>whnf)
 refine ay.go ((Nat)) (fun k=>(k≤l.length)∧(∀i,i < k→Co l i=true)) (fun k=>[(7,.data (i64 k))]) (fun _=>[]) (fun _=>[]) (fun k=>l.length - k) (0) ?_ ?_
 ·exact⟨by omega,by omega⟩
 rintro k ⟨hk,hi⟩
 (repeat' ((conv=>whnf);first|refine gA ?_|(refine gN ?_ ?_<;>intro h hw)|(refine gB ?_ ?_<;>intro h)|(refine gI ?_;intro x hx)|(refine gJ ?_;intro j x hj hx)|refine gV ?_|refine gC (iQ _) ?_|refine gC (xR _) ?_|refine gC (aO _ _ _) ?_|intro _))<;>try (conv=>whnf)
 all_goals first
  |exact trivial
  |(exfalso;omega)
  |(refine⟨?_,rfl,trivial⟩;rw [kG,jM k (by omega) (by (try (obtain rfl:j=k - 1:=by omega));simp_all [Co];try omega)];rfl)
  |(refine nx (k+1) ?_
    exact⟨by omega,jN hi (by (try (obtain rfl:j=k - 1:=by omega));simp_all [Co];try omega)⟩)
  |(refine⟨?_,rfl,trivial⟩;rw [kG,dO.2 fun i hh=>hi i (by omega)];simp)
theorem nQ (l:List Step) (t:Int):Con 194 [.d (.sl (l.map Step.av)),.d (i64 t)] (.d (i64 (lY t l 0))):=by
 refine con Tryz.func194 rfl rfl Tryz.call194 rfl fun hwf=>?_
 simp only [ARs.wf,AR.wf,AV.wf,List.length_map,lim] at hwf
 (conv=>whnf)
 refine aA [1,8,9] [] [] ?_
 (conv=>whnf)
 refine ay.go ((Nat)×(Int)) (fun⟨k,n⟩=>(k≤l.length)∧(lY t (l.drop k) n=lY t l 0)) (fun⟨k,n⟩=>[(10,.data (i64 k)),(5,.data (i64 n))]) (fun _=>[]) (fun _=>[]) (fun⟨k,n⟩=>l.length - k) ⟨0,0⟩ ?_ ?_
 ·exact⟨by omega,rfl⟩
 rintro⟨k,n⟩ ⟨hk,hi⟩
 (repeat' ((conv=>whnf);first|refine gA ?_|(refine gB ?_ ?_<;>intro h)|(refine gI ?_;intro x hx)|(refine gJ ?_;intro j x hj hx)|refine gV ?_|intro _))<;>try (conv=>whnf)
 all_goals first
  |exact trivial
  |(refine⟨?_,rfl,trivial⟩;rw [aU (l:=l) (by assumption)] at hi;first|(simp_all [lY];done)|(simp only [lY, ← hi];clear hi;simp_all [lY];done))
  |(refine⟨?_,rfl,trivial⟩;rw [aC (l:=l) (by assumption)] at hi;first|(simp_all [lY];done)|(simp only [lY, ← hi];clear hi;simp_all [lY];done))
  |(apply Exists.intro (⟨k+1,_⟩)
    refine⟨?_,rfl,?_,?_⟩
    rotate_left
    ·(repeat' ((conv=>whnf)<;>(first|exact trivial|exact rfl|with_reducible refine And.intro ?_ ?_)))
    ·(try dsimp only);(try simp only [List.length_map]);omega
    rw [aC (l:=l) (by assumption)] at hi;refine⟨by omega,?_⟩;simp_all [lY];done)
theorem Ec (l:List Int) (n:Int):Con 200 [.d (ints l),.d (i64 n)] (.d (.bool (eF l n))):=by
 refine con Tryz.func200 rfl rfl Tryz.call200 rfl fun hwf=>?_
 simp only [ARs.wf,AR.wf,AV.wf,List.length_map,lim] at hwf
 (conv=>whnf)
 refine aA [0,1,7,8] [] [] ?_
 (conv=>whnf)
 refine ay.go ((Nat)) (fun k=>(k≤l.length)∧((l.drop k).all ku=l.all ku)) (fun k=>[(9,.data (i64 k))]) (fun _=>[]) (fun _=>[]) (fun k=>l.length - k) (0) ?_ ?_
 ·exact⟨by omega,rfl⟩
 rintro k ⟨hk,hi⟩
 (repeat' ((conv=>whnf);first|refine gA ?_|(refine gN ?_ ?_<;>intro h hw)|(refine gB ?_ ?_<;>intro h)|(refine gI ?_;intro x hx)|(refine gJ ?_;intro j x hj hx)|refine gV ?_|refine gC (xR _) ?_|intro _))<;>try (conv=>whnf)
 all_goals first
  |exact trivial
  |(refine⟨?_,rfl,trivial⟩;rw [aU (l:=l) (by assumption)] at hi;first|(simp_all [eF];done)|(simp only [eF, ← hi];clear hi;simp_all [eF];done))
  |(refine⟨?_,rfl,trivial⟩;rw [aC (l:=l) (by assumption)] at hi;first|(simp_all [eF];done)|(simp only [eF, ← hi];clear hi;simp_all [eF];done))
  |(refine nx (k+1) ?_
    rw [aC (l:=l) (by assumption)] at hi;refine⟨by omega,?_⟩;simp_all [eF];done)
theorem NV (m:Mode) (r s:Int):Con 135 [.d m.av,.d (i64 r),.d (i64 s)] (.d (.bool (nL m r s))):=by
 refine con Tryz.func135 rfl rfl Tryz.call135 rfl fun hwf=>?_
 (repeat' ((conv=>whnf);first|refine gA ?_|(refine gN ?_ ?_<;>intro h hw)|(refine gB ?_ ?_<;>intro h)|refine gC (aO _ _ _) ?_|refine gC (Ec _ _) ?_|intro _))<;>try (conv=>whnf)
 all_goals refine⟨?_,rfl,trivial⟩
 all_goals simp_all [nL]
theorem Ed (a:aB) (r s:Int) (hs:a.name.size≤lim):Con 72 [.d a.av,.d (i64 r),.d (i64 s)] (.d (.bool (cB a r s))):=by
 refine con Tryz.func72 rfl rfl Tryz.call72 rfl fun hwf=>?_
 simp only [ARs.wf,AR.wf,AV.wf,AV.wfs,lm,lim] at hwf
 (conv=>whnf)
 refine aA [1,2,3,10,11] [3] [] ?_
 (conv=>whnf)
 refine ay.go ((Nat)) (fun k=>(k≤a.modes.length)∧((a.modes.drop k).all (fun m=>nL m r s)=a.modes.all (fun m=>nL m r s))) (fun k=>[(12,.data (i64 k))]) (fun _=>[]) (fun _=>[]) (fun k=>a.modes.length - k) (0) ?_ ?_
 ·exact⟨by omega,rfl⟩
 rintro k ⟨hk,hi⟩
 (repeat' ((conv=>whnf);first|refine gA ?_|(refine gN ?_ ?_<;>intro h hw)|(refine gB ?_ ?_<;>intro h)|(refine gI ?_;intro x hx)|(refine gJ ?_;intro j x hj hx)|refine gV ?_|refine gC (NV x r s) ?_|refine gC (NU a.name hs) ?_|refine gC (aO _ _ _) ?_|intro _))<;>try (conv=>whnf)
 all_goals first
  |exact trivial
  |(refine⟨?_,rfl,trivial⟩;rw [aU (l:=a.modes) (by assumption)] at hi;first|(simp_all [cB];done)|(simp only [cB, ← hi];clear hi;simp_all [cB];done))
  |(refine⟨?_,rfl,trivial⟩;rw [aC (l:=a.modes) (by assumption)] at hi;first|(simp_all [cB];done)|(simp only [cB, ← hi];clear hi;simp_all [cB];done))
  |(refine nx (k+1) ?_
    rw [aC (l:=a.modes) (by assumption)] at hi;refine⟨by omega,?_⟩;simp_all [cB];done)
end Go.Proofs.YtefgamefajmdkaaGreat.Abs
