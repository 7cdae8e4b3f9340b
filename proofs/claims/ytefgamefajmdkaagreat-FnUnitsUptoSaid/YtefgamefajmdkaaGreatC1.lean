/- Contracts: numbers, names, sets, steps. -/
import Derived.Test.YtefgamefajmdkaaGreatTab
import Derived.Test.YtefgamefajmdkaaGreatPlain
import Derived.KernelRfl
set_option linter.all false
set_option maxRecDepth 20000
namespace Go.Proofs.YtefgamefajmdkaaGreat.Abs
open Go.Proofs
theorem mixed:Tryz.prog.follows .mixedOrders=true:=by kernel_rfl
abbrev Con (f:Nat) (args:List AR) (r:RV):Prop:=Contract Tryz.prog tab lim f args r
theorem con {f:FuncId} {fn:Func} {code:Code} {args:List AR} {r:RV} (hf:Tryz.prog.funcs[f]? =some fn) (hb:fn.body=some code) (hp:gU code=true)
  (hcall:∀(vs:Array Value) (w:World),(callFunc f vs).run Tryz.prog w= .ok (.enter f vs) w) (hlen:(Nat.ble args.length fn.ntmps&&Yh args r)=true)
  (h:ARs.wf lim args→Co tab (jZ Tryz.prog tab lim) lim code (Dy tab fn.results.toList r) (entry fn.ntmps args)):Con f args r:=
 Iy aaO (by decide) (by decide) mixed hf hb hp hcall hlen h
theorem aV (n lo hi:Int):Con 53 [.d (i64 n),.d (i64 lo),.d (i64 hi)] (.d (.bool (within n lo hi))):=by
 refine con Tryz.func53 rfl rfl Tryz.call53 rfl fun hwf=>?_
 (repeat' ((conv=>whnf);first|refine gA ?_|(refine gB ?_ ?_<;>intro h)|intro _))<;>try (conv=>whnf)
 all_goals refine⟨?_,rfl,trivial⟩
 all_goals (simp_all [within];try omega)
theorem dh (n lo hi:Int):Con 157 [.d (i64 n),.d (i64 lo),.d (i64 hi)] (.d (.bool (within n lo hi))):=by
 refine con Tryz.func157 rfl rfl Tryz.call157 rfl fun hwf=>?_
 (repeat' ((conv=>whnf);first|refine gA ?_|(refine gB ?_ ?_<;>intro h)|intro _))<;>try (conv=>whnf)
 all_goals refine⟨?_,rfl,trivial⟩
 all_goals (simp_all [within];try omega)
theorem mY (n:Int):Con 186 [.d (i64 n)] (.d (.bool (bC n))):=by
 refine con Tryz.func186 rfl rfl Tryz.call186 rfl fun hwf=>?_
 (repeat' ((conv=>whnf);first|refine gA ?_|(refine gN ?_ ?_<;>intro h hw)|(refine gB ?_ ?_<;>intro h)|refine gC (aV _ _ _) ?_|intro _))<;>try (conv=>whnf)
 exact⟨rfl,rfl,trivial⟩
theorem AA (n:Int):Con 201 [.d (i64 n)] (.d (.bool (dU n))):=by
 refine con Tryz.func201 rfl rfl Tryz.call201 rfl fun hwf=>?_
 (repeat' ((conv=>whnf);first|refine gA ?_|(refine gN ?_ ?_<;>intro h hw)|(refine gB ?_ ?_<;>intro h)|refine gC (aV _ _ _) ?_|intro _))<;>try (conv=>whnf)
 exact⟨rfl,rfl,trivial⟩
theorem Rj (s:ByteArray) (hs:s.size≤lim):Con 136 [.d (.str s)] (.d (.bool (uj s))):=by
 refine con Tryz.func136 rfl rfl Tryz.call136 rfl fun hwf=>?_
 unfold lim at hs
 (conv=>whnf)
 refine aB [0,6] [] [] ?_
 (conv=>whnf)
 refine aA.go ((Nat)) (fun k=>(k≤s.size)∧(∀i,i < k→nameAt s i=true)) (fun k=>[(7,.data (i64 k))]) (fun _=>[]) (fun _=>[]) (fun k=>s.size - k) (0) ?_ ?_
 ·exact⟨by omega,by omega⟩
 rintro k ⟨hk,hi⟩
 (repeat' ((conv=>whnf);first|refine gA ?_|(refine gN ?_ ?_<;>intro h hw)|(refine gB ?_ ?_<;>intro h)|(refine gI ?_;intro x hx)|(refine gJ ?_;intro j x hj hx)|refine gV ?_|refine gC (aV _ _ _) ?_|intro _))<;>try (conv=>whnf)
 all_goals first
  |exact trivial
  |(refine⟨?_,rfl,trivial⟩;rw [uj,gX k (by omega) (by simp_all [nameAt,Ka];try omega)];rfl)
  |(refine nx (k+1) ?_
    exact⟨by omega,fJ hi (by simp_all [nameAt,Ka];try omega)⟩)
  |(refine⟨?_,rfl,trivial⟩;rw [uj,bg.2 fun i hh=>hi i (by omega)];rfl)
theorem Rk (s:ByteArray) (hs:s.size≤lim):Con 213 [.d (.str s)] (.d (.bool (uj s))):=by
 refine con Tryz.func213 rfl rfl Tryz.call213 rfl fun hwf=>?_
 unfold lim at hs
 (conv=>whnf)
 refine aB [0] [] [] ?_
 (conv=>whnf)
 refine aA.go ((Nat)) (fun k=>(k≤s.size)∧(∀i,i < k→nameAt s i=true)) (fun k=>[(3,.data (i64 k))]) (fun _=>[]) (fun _=>[]) (fun k=>s.size - k) (0) ?_ ?_
 ·exact⟨by omega,by omega⟩
 rintro k ⟨hk,hi⟩
 (repeat' ((conv=>whnf);first|refine gA ?_|(refine gN ?_ ?_<;>intro h hw)|(refine gB ?_ ?_<;>intro h)|(refine gI ?_;intro x hx)|(refine gJ ?_;intro j x hj hx)|refine gV ?_|refine gC (dh _ _ _) ?_|intro _))<;>try (conv=>whnf)
 all_goals first
  |exact trivial
  |(refine⟨?_,rfl,trivial⟩;rw [uj,gX k (by omega) (by simp_all [nameAt,Ka];try omega)];rfl)
  |(refine nx (k+1) ?_
    exact⟨by omega,fJ hi (by simp_all [nameAt,Ka];try omega)⟩)
  |(refine⟨?_,rfl,trivial⟩;rw [uj,bg.2 fun i hh=>hi i (by omega)];rfl)
theorem Tn (l:List Int):Con 50 [.d (ints l)] (.d (.bool (jk l))):=by
 refine con Tryz.func50 rfl rfl Tryz.call50 rfl fun hwf=>?_
 simp only [ARs.wf,AR.wf,AV.wf,List.length_map,lim] at hwf
 (conv=>whnf)
 refine aB [0] [] [] ?_
 (conv=>whnf)
 refine aA.go ((Nat)) (fun k=>(1≤k)∧(k≤l.length+1)∧(∀i,i < k→i < l.length→setAt l i=true)) (fun k=>[(3,.data (i64 k))]) (fun _=>[]) (fun _=>[]) (fun k=>l.length+1 - k) (1) ?_ ?_
 ·exact⟨by omega,by omega,fun i h1 h2=>by obtain rfl:i=0:=by omega
                                          rfl⟩
 rintro k ⟨h1,hk,hi⟩
 (repeat' ((conv=>whnf);first|refine gA ?_|(refine gB ?_ ?_<;>intro h)|(refine gI ?_;intro x hx)|(refine gJ ?_;intro j x hj hx)|refine gV ?_|intro _))<;>try (conv=>whnf)
 ·obtain rfl:j=k - 1:=by omega
  refine⟨?_,rfl,trivial⟩
  rw [jk,gX k (by omega) (by simp_all [setAt,List.getD_eq_getElem?_getD];omega)]
 ·obtain rfl:j=k - 1:=by omega
  refine nx (k+1) ?_
  refine⟨by omega,by omega,fun i h1 h2=>?_⟩
  by_cases e:i=k
  ·subst e;simp_all [setAt,List.getD_eq_getElem?_getD]
  ·exact hi i (by omega) h2
 ·refine⟨?_,rfl,trivial⟩
  rw [jk,bg.2 fun i hh=>hi i (by omega) hh]
theorem Tp (l:List Int):Con 215 [.d (ints l)] (.d (.bool (jk l))):=by
 refine con Tryz.func215 rfl rfl Tryz.call215 rfl fun hwf=>?_
 simp only [ARs.wf,AR.wf,AV.wf,List.length_map,lim] at hwf
 (conv=>whnf)
 refine aB [0,5] [] [] ?_
 (conv=>whnf)
 refine aA.go ((Nat)) (fun k=>(k≤l.length)∧(∀i,i < k→setAt l i=true)) (fun k=>[(6,.data (i64 k))]) (fun _=>[]) (fun _=>[]) (fun k=>l.length - k) (0) ?_ ?_
 ·exact⟨by omega,by omega⟩
 rintro k ⟨hk,hi⟩
 (repeat' ((conv=>whnf);first|refine gA ?_|(refine gB ?_ ?_<;>intro h)|(refine gI ?_;intro x hx)|(refine gJ ?_;intro j x hj hx)|refine gV ?_|intro _))<;>try (conv=>whnf)
 ·obtain rfl:j=k - 1:=by omega
  refine⟨?_,rfl,trivial⟩
  rw [jk,gX k (by omega) (by simp_all [setAt,List.getD_eq_getElem?_getD];omega)]
 ·obtain rfl:j=k - 1:=by omega
  refine nx (k+1) ?_
  exact⟨by omega,fJ hi (by simp_all [setAt,List.getD_eq_getElem?_getD])⟩
 ·refine nx (k+1) ?_
  exact⟨by omega,fJ hi (by simp_all [setAt,List.getD_eq_getElem?_getD])⟩
 ·refine⟨?_,rfl,trivial⟩
  rw [jk,bg.2 fun i hh=>hi i (by omega)]
theorem slices_Index (l:List Int) (n:Int):Con 189 [.d (ints l),.d (i64 n)] (.d (i64 (aQ (fun x=>decide (n=x)) l 0))):=by
 refine con Tryz.func189 rfl rfl Tryz.call189 rfl fun hwf=>?_
 simp only [ARs.wf,AR.wf,AV.wf,List.length_map,lim] at hwf
 (conv=>whnf)
 refine aB [0,1,7] [] [] ?_
 (conv=>whnf)
 refine aA.go ((Nat)) (fun k=>(k≤l.length)∧(aQ (fun x=>decide (n=x)) (l.drop k) k=aQ (fun x=>decide (n=x)) l 0)) (fun k=>[(8,.data (i64 k))]) (fun _=>[]) (fun _=>[]) (fun k=>l.length - k) (0) ?_ ?_
 ·exact⟨by omega,rfl⟩
 rintro k ⟨hk,hi⟩
 (repeat' ((conv=>whnf);first|refine gA ?_|(refine gB ?_ ?_<;>intro h)|(refine gI ?_;intro x hx)|(refine gJ ?_;intro j x hj hx)|refine gV ?_|intro _))<;>try (conv=>whnf)
 all_goals first
  |exact trivial
  |(refine⟨?_,rfl,trivial⟩;rw [aG (l:=l) (by assumption)] at hi;first|(simp_all [aQ];done)|(simp only [aQ, ← hi];clear hi;simp_all [aQ];done))
  |(refine⟨?_,rfl,trivial⟩;rw [au (l:=l) (by assumption)] at hi;first|(simp_all [aQ];done)|(simp only [aQ, ← hi];clear hi;simp_all [aQ];done))
  |(refine nx (k+1) ?_
    rw [au (l:=l) (by assumption)] at hi;refine⟨by omega,?_⟩;simp_all [aQ];done)
theorem any_eq {l:List Int} {n:Int}:l.any (fun x=>decide (n=x))=l.contains n:=by
 induction l with
 |nil=>rfl
 |cons x l ih=>simp only [List.any_cons,List.contains_cons,ih];rfl
theorem slices_Contains (l:List Int) (n:Int):Con 128 [.d (ints l),.d (i64 n)] (.d (.bool (l.contains n))):=by
 refine con Tryz.func128 rfl rfl Tryz.call128 rfl fun hwf=>?_
 (repeat' ((conv=>whnf);first|refine gA ?_|(refine gB ?_ ?_<;>intro h)|refine gC (slices_Index _ _) ?_|intro _))<;>try (conv=>whnf)
 refine⟨?_,rfl,trivial⟩
 rw [← any_eq, ← uR l 0]
theorem sZ (l:List Int) (n:Int):Con 58 [.d (ints l),.d (i64 n)] (.d (.bool (l.contains n))):=by
 refine con Tryz.func58 rfl rfl Tryz.call58 rfl fun hwf=>?_
 (repeat' ((conv=>whnf);first|refine gA ?_|(refine gB ?_ ?_<;>intro h)|refine gC (slices_Contains _ _) ?_|intro _))<;>try (conv=>whnf)
 exact⟨rfl,rfl,trivial⟩
theorem eT (l:List Int) (n:Int):Con 177 [.d (ints l),.d (i64 n)] (.d (.bool (l.contains n))):=by
 refine con Tryz.func177 rfl rfl Tryz.call177 rfl fun hwf=>?_
 simp only [ARs.wf,AR.wf,AV.wf,List.length_map,lim] at hwf
 (conv=>whnf)
 refine aB [1,7,8] [] [] ?_
 (conv=>whnf)
 refine aA.go ((Nat)) (fun k=>(k≤l.length)∧((l.drop k).contains n=l.contains n)) (fun k=>[(9,.data (i64 k))]) (fun _=>[]) (fun _=>[]) (fun k=>l.length - k) (0) ?_ ?_
 ·exact⟨by omega,rfl⟩
 rintro k ⟨hk,hi⟩
 (repeat' ((conv=>whnf);first|refine gA ?_|(refine gB ?_ ?_<;>intro h)|(refine gI ?_;intro x hx)|(refine gJ ?_;intro j x hj hx)|refine gV ?_|intro _))<;>try (conv=>whnf)
 all_goals first
  |exact trivial
  |(refine⟨?_,rfl,trivial⟩;rw [aG (l:=l) (by assumption)] at hi;first|(simp_all [List.contains_cons,eq_comm];done)|(simp only [List.contains_cons,eq_comm, ← hi];clear hi;simp_all [List.contains_cons,eq_comm];done))
  |(refine⟨?_,rfl,trivial⟩;rw [au (l:=l) (by assumption)] at hi;first|(simp_all [List.contains_cons,eq_comm];done)|(simp only [List.contains_cons,eq_comm, ← hi];clear hi;simp_all [List.contains_cons,eq_comm];done))
  |(refine nx (k+1) ?_
    rw [au (l:=l) (by assumption)] at hi;refine⟨by omega,?_⟩;simp_all [List.contains_cons,eq_comm];done)
theorem yF (a b:List Int):Con 51 [.d (ints a),.d (ints b)] (.d (.bool (subset a b))):=by
 refine con Tryz.func51 rfl rfl Tryz.call51 rfl fun hwf=>?_
 simp only [ARs.wf,AR.wf,AV.wf,List.length_map,lim] at hwf
 (conv=>whnf)
 refine aB [1,7,8] [] [] ?_
 (conv=>whnf)
 refine aA.go ((Nat)) (fun k=>(k≤a.length)∧(subset (a.drop k) b=subset a b)) (fun k=>[(9,.data (i64 k))]) (fun _=>[]) (fun _=>[]) (fun k=>a.length - k) (0) ?_ ?_
 ·exact⟨by omega,rfl⟩
 rintro k ⟨hk,hi⟩
 (repeat' ((conv=>whnf);first|refine gA ?_|(refine gB ?_ ?_<;>intro h)|(refine gI ?_;intro x hx)|(refine gJ ?_;intro j x hj hx)|refine gV ?_|refine gC (sZ _ _) ?_|intro _))<;>try (conv=>whnf)
 all_goals first
  |exact trivial
  |(refine⟨?_,rfl,trivial⟩;rw [aG (l:=a) (by assumption)] at hi;first|(simp_all [subset];done)|(simp only [subset, ← hi];clear hi;simp_all [subset];done))
  |(refine⟨?_,rfl,trivial⟩;rw [au (l:=a) (by assumption)] at hi;first|(simp_all [subset];done)|(simp only [subset, ← hi];clear hi;simp_all [subset];done))
  |(refine nx (k+1) ?_
    rw [au (l:=a) (by assumption)] at hi;refine⟨by omega,?_⟩;simp_all [subset];done)
theorem Kk (a b:List Int):Con 216 [.d (ints a),.d (ints b)] (.d (.bool (subset a b))):=by
 refine con Tryz.func216 rfl rfl Tryz.call216 rfl fun hwf=>?_
 simp only [ARs.wf,AR.wf,AV.wf,List.length_map,lim] at hwf
 (conv=>whnf)
 refine aB [1,7,8] [] [] ?_
 (conv=>whnf)
 refine aA.go ((Nat)) (fun k=>(k≤a.length)∧(subset (a.drop k) b=subset a b)) (fun k=>[(9,.data (i64 k))]) (fun _=>[]) (fun _=>[]) (fun k=>a.length - k) (0) ?_ ?_
 ·exact⟨by omega,rfl⟩
 rintro k ⟨hk,hi⟩
 (repeat' ((conv=>whnf);first|refine gA ?_|(refine gB ?_ ?_<;>intro h)|(refine gI ?_;intro x hx)|(refine gJ ?_;intro j x hj hx)|refine gV ?_|refine gC (eT _ _) ?_|intro _))<;>try (conv=>whnf)
 all_goals first
  |exact trivial
  |(refine⟨?_,rfl,trivial⟩;rw [aG (l:=a) (by assumption)] at hi;first|(simp_all [subset];done)|(simp only [subset, ← hi];clear hi;simp_all [subset];done))
  |(refine⟨?_,rfl,trivial⟩;rw [au (l:=a) (by assumption)] at hi;first|(simp_all [subset];done)|(simp only [subset, ← hi];clear hi;simp_all [subset];done))
  |(refine nx (k+1) ?_
    rw [au (l:=a) (by assumption)] at hi;refine⟨by omega,?_⟩;simp_all [subset];done)
theorem vY (l:List Step):Con 139 [.d (.sl (l.map Step.av))] (.d (.bool (gY l))):=by
 refine con Tryz.func139 rfl rfl Tryz.call139 rfl fun hwf=>?_
 simp only [ARs.wf,AR.wf,AV.wf,List.length_map,lim] at hwf
 (conv=>whnf)
 refine aB [0,5,6] [] [] ?_
 (conv=>whnf)
 refine aA.go ((Nat)) (fun k=>(k≤l.length)∧(∀i,i < k→yB l i=true)) (fun k=>[(7,.data (i64 k))]) (fun _=>[]) (fun _=>[]) (fun k=>l.length - k) (0) ?_ ?_
 ·exact⟨by omega,by omega⟩
 rintro k ⟨hk,hi⟩
 (repeat' ((conv=>whnf);first|refine gA ?_|(refine gN ?_ ?_<;>intro h hw)|(refine gB ?_ ?_<;>intro h)|(refine gI ?_;intro x hx)|(refine gJ ?_;intro j x hj hx)|refine gV ?_|refine gC (mY _) ?_|refine gC (AA _) ?_|refine gC (aV _ _ _) ?_|intro _))<;>try (conv=>whnf)
 all_goals first
  |exact trivial
  |(exfalso;omega)
  |(refine⟨?_,rfl,trivial⟩;rw [gY,gX k (by omega) (by (try (obtain rfl:j=k - 1:=by omega));simp_all [yB];try omega)];rfl)
  |(refine nx (k+1) ?_
    exact⟨by omega,fJ hi (by (try (obtain rfl:j=k - 1:=by omega));simp_all [yB];try omega)⟩)
  |(refine⟨?_,rfl,trivial⟩;rw [gY,bg.2 fun i hh=>hi i (by omega)];simp)
def zW (l:List Step) (i:Nat):Bool:=
 match l[i]? with
 |some s=>bC s.at'&&dU s.cap&&(!decide ((i:Int) > 0)||(match l[i - 1]? with|some q=> !decide (q.at'≥s.at')|none=>true))
 |none=>true
theorem Tq (l:List Step):gY l=(xH l.length (zW l)&&(within l.length 1 8&&match l[0]? with|some s=>decide (s.at'=0)|none=>false)):=by
 rw [Bool.eq_iff_iff]
 simp only [gY,Bool.and_eq_true,bg]
 have key:∀i,i < l.length→(yB l i=true↔zW l i=true∧(i=0→(match l[0]? with|some s=>decide (s.at'=0)|none=>false)=true)):=by
  intro i hi
  simp only [yB,zW,List.getElem?_eq_getElem hi]
  by_cases h:i=0
  ·subst h;simp [List.getElem?_eq_getElem hi]
  ·simp [h]
   intro _ _
   cases l[i - 1]? <;>simp
 constructor
 ·rintro⟨h1,h2⟩
  refine⟨fun i hi=>((key i hi).1 (h1 i hi)).1,h2,?_⟩
  have h0:=(within_iff.1 h2).1
  exact ((key 0 (by omega)).1 (h1 0 (by omega))).2 rfl
 ·rintro⟨h1,h2,h3⟩
  exact⟨fun i hi=>(key i hi).2 ⟨h1 i hi,fun _=>h3⟩,h2⟩
theorem Ep (l:List Step):Con 214 [.d (.sl (l.map Step.av))] (.d (.bool (gY l))):=by
 refine con Tryz.func214 rfl rfl Tryz.call214 rfl fun hwf=>?_
 simp only [ARs.wf,AR.wf,AV.wf,List.length_map,lim] at hwf
 rw [Tq]
 (conv=>whnf)
 refine aB [0,5,6] [] [] ?_
 (conv=>whnf)
 refine aA.go ((Nat)) (fun k=>(k≤l.length)∧(∀i,i < k→zW l i=true)) (fun k=>[(7,.data (i64 k))]) (fun _=>[]) (fun _=>[]) (fun k=>l.length - k) (0) ?_ ?_
 ·exact⟨by omega,by omega⟩
 rintro k ⟨hk,hi⟩
 (repeat' ((conv=>whnf);first|refine gA ?_|(refine gN ?_ ?_<;>intro h hw)|(refine gB ?_ ?_<;>intro h)|(refine gI ?_;intro x hx)|(refine gJ ?_;intro j x hj hx)|refine gV ?_|refine gC (dh _ _ _) ?_|intro _))<;>try (conv=>whnf)
 all_goals first
  |exact trivial
  |(exfalso;omega)
  |(refine⟨?_,rfl,trivial⟩;rw [gX k (by omega) (by (try (obtain rfl:j=k - 1:=by omega));simp_all [zW,bC,dU];try omega)];rfl)
  |(refine nx (k+1) ?_
    exact⟨by omega,fJ hi (by (try (obtain rfl:j=k - 1:=by omega));simp_all [zW,bC,dU];try omega)⟩)
  |(refine⟨?_,rfl,trivial⟩;rw [bg.2 fun i hh=>hi i (by omega)];(try (obtain rfl:j=0:=by omega));(try rw [List.length_map] at h);first|(rw [h,hx];simp;done)|(rw [h];simp))
theorem qh (l:List Step) (t:Int):Con 194 [.d (.sl (l.map Step.av)),.d (i64 t)] (.d (i64 (iZ t l 0))):=by
 refine con Tryz.func194 rfl rfl Tryz.call194 rfl fun hwf=>?_
 simp only [ARs.wf,AR.wf,AV.wf,List.length_map,lim] at hwf
 (conv=>whnf)
 refine aB [1,8,9] [] [] ?_
 (conv=>whnf)
 refine aA.go ((Nat)×(Int)) (fun⟨k,n⟩=>(k≤l.length)∧(iZ t (l.drop k) n=iZ t l 0)) (fun⟨k,n⟩=>[(10,.data (i64 k)),(5,.data (i64 n))]) (fun _=>[]) (fun _=>[]) (fun⟨k,n⟩=>l.length - k) ⟨0,0⟩ ?_ ?_
 ·exact⟨by omega,rfl⟩
 rintro⟨k,n⟩ ⟨hk,hi⟩
 (repeat' ((conv=>whnf);first|refine gA ?_|(refine gB ?_ ?_<;>intro h)|(refine gI ?_;intro x hx)|(refine gJ ?_;intro j x hj hx)|refine gV ?_|intro _))<;>try (conv=>whnf)
 all_goals first
  |exact trivial
  |(refine⟨?_,rfl,trivial⟩;rw [aG (l:=l) (by assumption)] at hi;first|(simp_all [iZ];done)|(simp only [iZ, ← hi];clear hi;simp_all [iZ];done))
  |(refine⟨?_,rfl,trivial⟩;rw [au (l:=l) (by assumption)] at hi;first|(simp_all [iZ];done)|(simp only [iZ, ← hi];clear hi;simp_all [iZ];done))
  |(apply Exists.intro (⟨k+1,_⟩)
    refine⟨?_,rfl,?_,?_⟩
    rotate_left
    ·(repeat' ((conv=>whnf)<;>(first|exact trivial|exact rfl|with_reducible refine And.intro ?_ ?_)))
    ·(try dsimp only);(try simp only [List.length_map]);omega
    rw [au (l:=l) (by assumption)] at hi;refine⟨by omega,?_⟩;simp_all [iZ];done)
theorem Kl (l:List Step) (t:Int):Con 219 [.d (.sl (l.map Step.av)),.d (i64 t)] (.d (i64 (iZ t l 0))):=by
 refine con Tryz.func219 rfl rfl Tryz.call219 rfl fun hwf=>?_
 simp only [ARs.wf,AR.wf,AV.wf,List.length_map,lim] at hwf
 (conv=>whnf)
 refine aB [1,8,9] [] [] ?_
 (conv=>whnf)
 refine aA.go ((Nat)×(Int)) (fun⟨k,n⟩=>(k≤l.length)∧(iZ t (l.drop k) n=iZ t l 0)) (fun⟨k,n⟩=>[(10,.data (i64 k)),(5,.data (i64 n))]) (fun _=>[]) (fun _=>[]) (fun⟨k,n⟩=>l.length - k) ⟨0,0⟩ ?_ ?_
 ·exact⟨by omega,rfl⟩
 rintro⟨k,n⟩ ⟨hk,hi⟩
 (repeat' ((conv=>whnf);first|refine gA ?_|(refine gB ?_ ?_<;>intro h)|(refine gI ?_;intro x hx)|(refine gJ ?_;intro j x hj hx)|refine gV ?_|intro _))<;>try (conv=>whnf)
 all_goals first
  |exact trivial
  |(refine⟨?_,rfl,trivial⟩;rw [aG (l:=l) (by assumption)] at hi;first|(simp_all [iZ];done)|(simp only [iZ, ← hi];clear hi;simp_all [iZ];done))
  |(refine⟨?_,rfl,trivial⟩;rw [au (l:=l) (by assumption)] at hi;first|(simp_all [iZ];done)|(simp only [iZ, ← hi];clear hi;simp_all [iZ];done))
  |(apply Exists.intro (⟨k+1,_⟩)
    refine⟨?_,rfl,?_,?_⟩
    rotate_left
    ·(repeat' ((conv=>whnf)<;>(first|exact trivial|exact rfl|with_reducible refine And.intro ?_ ?_)))
    ·(try dsimp only);(try simp only [List.length_map]);omega
    rw [au (l:=l) (by assumption)] at hi;refine⟨by omega,?_⟩;simp_all [iZ];done)
theorem Iz (l:List Int) (n:Int):Con 200 [.d (ints l),.d (i64 n)] (.d (.bool (bE l n))):=by
 refine con Tryz.func200 rfl rfl Tryz.call200 rfl fun hwf=>?_
 simp only [ARs.wf,AR.wf,AV.wf,List.length_map,lim] at hwf
 (conv=>whnf)
 refine aB [0,1,7,8] [] [] ?_
 (conv=>whnf)
 refine aA.go ((Nat)) (fun k=>(k≤l.length)∧((l.drop k).all dU=l.all dU)) (fun k=>[(9,.data (i64 k))]) (fun _=>[]) (fun _=>[]) (fun k=>l.length - k) (0) ?_ ?_
 ·exact⟨by omega,rfl⟩
 rintro k ⟨hk,hi⟩
 (repeat' ((conv=>whnf);first|refine gA ?_|(refine gN ?_ ?_<;>intro h hw)|(refine gB ?_ ?_<;>intro h)|(refine gI ?_;intro x hx)|(refine gJ ?_;intro j x hj hx)|refine gV ?_|refine gC (AA _) ?_|intro _))<;>try (conv=>whnf)
 all_goals first
  |exact trivial
  |(refine⟨?_,rfl,trivial⟩;rw [aG (l:=l) (by assumption)] at hi;first|(simp_all [bE];done)|(simp only [bE, ← hi];clear hi;simp_all [bE];done))
  |(refine⟨?_,rfl,trivial⟩;rw [au (l:=l) (by assumption)] at hi;first|(simp_all [bE];done)|(simp only [bE, ← hi];clear hi;simp_all [bE];done))
  |(refine nx (k+1) ?_
    rw [au (l:=l) (by assumption)] at hi;refine⟨by omega,?_⟩;simp_all [bE];done)
theorem OO (l:List Int) (n:Int):Con 255 [.d (ints l),.d (i64 n)] (.d (.bool (bE l n))):=by
 refine con Tryz.func255 rfl rfl Tryz.call255 rfl fun hwf=>?_
 simp only [ARs.wf,AR.wf,AV.wf,List.length_map,lim] at hwf
 (conv=>whnf)
 refine aB [0,1,7,8] [] [] ?_
 (conv=>whnf)
 refine aA.go ((Nat)) (fun k=>(k≤l.length)∧((l.drop k).all dU=l.all dU)) (fun k=>[(9,.data (i64 k))]) (fun _=>[]) (fun _=>[]) (fun k=>l.length - k) (0) ?_ ?_
 ·exact⟨by omega,rfl⟩
 rintro k ⟨hk,hi⟩
 (repeat' ((conv=>whnf);first|refine gA ?_|(refine gN ?_ ?_<;>intro h hw)|(refine gB ?_ ?_<;>intro h)|(refine gI ?_;intro x hx)|(refine gJ ?_;intro j x hj hx)|refine gV ?_|refine gC (dh _ _ _) ?_|intro _))<;>try (conv=>whnf)
 all_goals first
  |exact trivial
  |(refine⟨?_,rfl,trivial⟩;rw [aG (l:=l) (by assumption)] at hi;first|(simp_all [bE,dU];done)|(simp only [bE,dU, ← hi];clear hi;simp_all [bE,dU];done))
  |(refine⟨?_,rfl,trivial⟩;rw [au (l:=l) (by assumption)] at hi;first|(simp_all [bE,dU];done)|(simp only [bE,dU, ← hi];clear hi;simp_all [bE,dU];done))
  |(refine nx (k+1) ?_
    rw [au (l:=l) (by assumption)] at hi;refine⟨by omega,?_⟩;simp_all [bE,dU];done)
theorem Rl (m:Mode) (r s:Int):Con 135 [.d m.av,.d (i64 r),.d (i64 s)] (.d (.bool (jC m r s))):=by
 refine con Tryz.func135 rfl rfl Tryz.call135 rfl fun hwf=>?_
 (repeat' ((conv=>whnf);first|refine gA ?_|(refine gN ?_ ?_<;>intro h hw)|(refine gB ?_ ?_<;>intro h)|refine gC (aV _ _ _) ?_|refine gC (Iz _ _) ?_|intro _))<;>try (conv=>whnf)
 all_goals refine⟨?_,rfl,trivial⟩
 all_goals simp_all [jC]
theorem Rm (m:Mode) (r s:Int):Con 212 [.d m.av,.d (i64 r),.d (i64 s)] (.d (.bool (jC m r s))):=by
 refine con Tryz.func212 rfl rfl Tryz.call212 rfl fun hwf=>?_
 (repeat' ((conv=>whnf);first|refine gA ?_|(refine gN ?_ ?_<;>intro h hw)|(refine gB ?_ ?_<;>intro h)|refine gC (dh _ _ _) ?_|refine gC (OO _ _) ?_|intro _))<;>try (conv=>whnf)
 all_goals refine⟨?_,rfl,trivial⟩
 all_goals simp_all [jC]
theorem IB (a:aH) (r s:Int) (hs:a.name.size≤lim):Con 72 [.d a.av,.d (i64 r),.d (i64 s)] (.d (.bool (bG a r s))):=by
 refine con Tryz.func72 rfl rfl Tryz.call72 rfl fun hwf=>?_
 simp only [ARs.wf,AR.wf,AV.wf,AV.wfs,lm,lim] at hwf
 (conv=>whnf)
 refine aB [1,2,3,10,11] [3] [] ?_
 (conv=>whnf)
 refine aA.go ((Nat)) (fun k=>(k≤a.modes.length)∧((a.modes.drop k).all (fun m=>jC m r s)=a.modes.all (fun m=>jC m r s))) (fun k=>[(12,.data (i64 k))]) (fun _=>[]) (fun _=>[]) (fun k=>a.modes.length - k) (0) ?_ ?_
 ·exact⟨by omega,rfl⟩
 rintro k ⟨hk,hi⟩
 (repeat' ((conv=>whnf);first|refine gA ?_|(refine gN ?_ ?_<;>intro h hw)|(refine gB ?_ ?_<;>intro h)|(refine gI ?_;intro x hx)|(refine gJ ?_;intro j x hj hx)|refine gV ?_|refine gC (Rl x r s) ?_|refine gC (Rj a.name hs) ?_|refine gC (aV _ _ _) ?_|intro _))<;>try (conv=>whnf)
 all_goals first
  |exact trivial
  |(refine⟨?_,rfl,trivial⟩;rw [aG (l:=a.modes) (by assumption)] at hi;first|(simp_all [bG];done)|(simp only [bG, ← hi];clear hi;simp_all [bG];done))
  |(refine⟨?_,rfl,trivial⟩;rw [au (l:=a.modes) (by assumption)] at hi;first|(simp_all [bG];done)|(simp only [bG, ← hi];clear hi;simp_all [bG];done))
  |(refine nx (k+1) ?_
    rw [au (l:=a.modes) (by assumption)] at hi;refine⟨by omega,?_⟩;simp_all [bG];done)
theorem IC (a:aH) (r s:Int) (hs:a.name.size≤lim):Con 158 [.d a.av,.d (i64 r),.d (i64 s)] (.d (.bool (bG a r s))):=by
 refine con Tryz.func158 rfl rfl Tryz.call158 rfl fun hwf=>?_
 simp only [ARs.wf,AR.wf,AV.wf,AV.wfs,lm,lim] at hwf
 (conv=>whnf)
 refine aB [1,2,3,10,11] [3] [] ?_
 (conv=>whnf)
 refine aA.go ((Nat)) (fun k=>(k≤a.modes.length)∧((a.modes.drop k).all (fun m=>jC m r s)=a.modes.all (fun m=>jC m r s))) (fun k=>[(12,.data (i64 k))]) (fun _=>[]) (fun _=>[]) (fun k=>a.modes.length - k) (0) ?_ ?_
 ·exact⟨by omega,rfl⟩
 rintro k ⟨hk,hi⟩
 (repeat' ((conv=>whnf);first|refine gA ?_|(refine gN ?_ ?_<;>intro h hw)|(refine gB ?_ ?_<;>intro h)|(refine gI ?_;intro x hx)|(refine gJ ?_;intro j x hj hx)|refine gV ?_|refine gC (Rm x r s) ?_|refine gC (Rk a.name hs) ?_|refine gC (dh _ _ _) ?_|intro _))<;>try (conv=>whnf)
 all_goals first
  |exact trivial
  |(refine⟨?_,rfl,trivial⟩;rw [aG (l:=a.modes) (by assumption)] at hi;first|(simp_all [bG];done)|(simp only [bG, ← hi];clear hi;simp_all [bG];done))
  |(refine⟨?_,rfl,trivial⟩;rw [au (l:=a.modes) (by assumption)] at hi;first|(simp_all [bG];done)|(simp only [bG, ← hi];clear hi;simp_all [bG];done))
  |(refine nx (k+1) ?_
    rw [au (l:=a.modes) (by assumption)] at hi;refine⟨by omega,?_⟩;simp_all [bG];done)
end Go.Proofs.YtefgamefajmdkaaGreat.Abs
