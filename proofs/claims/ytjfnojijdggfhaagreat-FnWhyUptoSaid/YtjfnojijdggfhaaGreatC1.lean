/- Contracts: numbers, names, sets, steps. -/
import Derived.Test.YtjfnojijdggfhaaGreatTab
import Derived.Test.YtjfnojijdggfhaaGreatPlain
import Derived.KernelRfl
set_option linter.all false
set_option maxRecDepth 20000
namespace Go.Proofs.YtjfnojijdggfhaaGreat.Abs
open Go.Proofs
theorem mixed:Tryz.prog.follows .mixedOrders=true:=by kernel_rfl
abbrev Con (f:Nat) (args:List AR) (r:RV):Prop:=Contract Tryz.prog tab lim f args r
theorem con {f:FuncId} {fn:Func} {code:Code} {args:List AR} {r:RV} (hf:Tryz.prog.funcs[f]? =some fn) (hb:fn.body=some code) (hp:fO code=true)
  (hcall:∀(vs:Array Value) (w:World),(callFunc f vs).run Tryz.prog w= .ok (.enter f vs) w) (hlen:(Nat.ble args.length fn.ntmps&&WS args r)=true)
  (h:ARs.wf lim args→zV tab (jK Tryz.prog tab lim) lim code (AU tab fn.results.toList r) (entry fn.ntmps args)):Con f args r:=
 Ga Xz (by decide) (by decide) mixed hf hb hp hcall hlen h
theorem aP (n lo hi:Int):Con 52 [.d (i64 n),.d (i64 lo),.d (i64 hi)] (.d (.bool (within n lo hi))):=by
 refine con Tryz.func52 rfl rfl Tryz.call52 rfl fun hwf=>?_
 (repeat' ((conv=>whnf);first|refine gA ?_|(refine gB ?_ ?_<;>intro h)|intro _))<;>try (conv=>whnf)
 all_goals refine⟨?_,rfl,trivial⟩
 all_goals (simp_all [within];try omega)
theorem lM (n lo hi:Int):Con 138 [.d (i64 n),.d (i64 lo),.d (i64 hi)] (.d (.bool (within n lo hi))):=by
 refine con Tryz.func138 rfl rfl Tryz.call138 rfl fun hwf=>?_
 (repeat' ((conv=>whnf);first|refine gA ?_|(refine gB ?_ ?_<;>intro h)|intro _))<;>try (conv=>whnf)
 all_goals refine⟨?_,rfl,trivial⟩
 all_goals (simp_all [within];try omega)
theorem jB (n:Int):Con 67 [.d (i64 n)] (.d (.bool (dD n))):=by
 refine con Tryz.func67 rfl rfl Tryz.call67 rfl fun hwf=>?_
 (repeat' ((conv=>whnf);first|refine gA ?_|(refine gN ?_ ?_<;>intro h hw)|(refine gB ?_ ?_<;>intro h)|refine gC (aP _ _ _) ?_|intro _))<;>try (conv=>whnf)
 exact⟨rfl,rfl,trivial⟩
theorem zk (n:Int):Con 198 [.d (i64 n)] (.d (.bool (dQ n))):=by
 refine con Tryz.func198 rfl rfl Tryz.call198 rfl fun hwf=>?_
 (repeat' ((conv=>whnf);first|refine gA ?_|(refine gN ?_ ?_<;>intro h hw)|(refine gB ?_ ?_<;>intro h)|refine gC (aP _ _ _) ?_|intro _))<;>try (conv=>whnf)
 exact⟨rfl,rfl,trivial⟩
theorem PL (s:ByteArray) (hs:s.size≤lim):Con 162 [.d (.str s)] (.d (.bool (sj s))):=by
 refine con Tryz.func162 rfl rfl Tryz.call162 rfl fun hwf=>?_
 unfold lim at hs
 (conv=>whnf)
 refine aB [0,6] [] [] ?_
 (conv=>whnf)
 refine aA.go ((Nat)) (fun k=>(k≤s.size)∧(∀i,i < k→nameAt s i=true)) (fun k=>[(7,.data (i64 k))]) (fun _=>[]) (fun _=>[]) (fun k=>s.size - k) (0) ?_ ?_
 ·exact⟨by omega,by omega⟩
 rintro k ⟨hk,hi⟩
 (repeat' ((conv=>whnf);first|refine gA ?_|(refine gN ?_ ?_<;>intro h hw)|(refine gB ?_ ?_<;>intro h)|(refine gI ?_;intro x hx)|(refine gJ ?_;intro j x hj hx)|refine gV ?_|refine gC (aP _ _ _) ?_|intro _))<;>try (conv=>whnf)
 all_goals first
  |exact trivial
  |(refine⟨?_,rfl,trivial⟩;rw [sj,iI k (by omega) (by simp_all [nameAt,Io];try omega)];rfl)
  |(refine nx (k+1) ?_
    exact⟨by omega,iC hi (by simp_all [nameAt,Io];try omega)⟩)
  |(refine⟨?_,rfl,trivial⟩;rw [sj,aX.2 fun i hh=>hi i (by omega)];rfl)
theorem PN (s:ByteArray) (hs:s.size≤lim):Con 173 [.d (.str s)] (.d (.bool (sj s))):=by
 refine con Tryz.func173 rfl rfl Tryz.call173 rfl fun hwf=>?_
 unfold lim at hs
 (conv=>whnf)
 refine aB [0] [] [] ?_
 (conv=>whnf)
 refine aA.go ((Nat)) (fun k=>(k≤s.size)∧(∀i,i < k→nameAt s i=true)) (fun k=>[(3,.data (i64 k))]) (fun _=>[]) (fun _=>[]) (fun k=>s.size - k) (0) ?_ ?_
 ·exact⟨by omega,by omega⟩
 rintro k ⟨hk,hi⟩
 (repeat' ((conv=>whnf);first|refine gA ?_|(refine gN ?_ ?_<;>intro h hw)|(refine gB ?_ ?_<;>intro h)|(refine gI ?_;intro x hx)|(refine gJ ?_;intro j x hj hx)|refine gV ?_|refine gC (lM _ _ _) ?_|intro _))<;>try (conv=>whnf)
 all_goals first
  |exact trivial
  |(refine⟨?_,rfl,trivial⟩;rw [sj,iI k (by omega) (by simp_all [nameAt,Io];try omega)];rfl)
  |(refine nx (k+1) ?_
    exact⟨by omega,iC hi (by simp_all [nameAt,Io];try omega)⟩)
  |(refine⟨?_,rfl,trivial⟩;rw [sj,aX.2 fun i hh=>hi i (by omega)];rfl)
theorem Ry (l:List Int):Con 19 [.d (ints l)] (.d (.bool (nV l))):=by
 refine con Tryz.func19 rfl rfl Tryz.call19 rfl fun hwf=>?_
 simp only [ARs.wf,AR.wf,AV.wf,List.length_map,lim] at hwf
 (conv=>whnf)
 refine aB [0] [] [] ?_
 (conv=>whnf)
 refine aA.go ((Nat)) (fun k=>(1≤k)∧(k≤l.length+1)∧(∀i,i < k→i < l.length→setAt l i=true)) (fun k=>[(3,.data (i64 k))]) (fun _=>[]) (fun _=>[]) (fun k=>l.length+1 - k) (1) ?_ ?_
 ·exact⟨by omega,by omega,fun i h1 h2=>by obtain rfl:i=0:=by omega
                                          rfl⟩
 rintro k ⟨h1,hk,hi⟩
 (repeat' ((conv=>whnf);first|refine gA ?_|(refine gB ?_ ?_<;>intro h)|(refine gI ?_;intro x hx)|(refine gJ ?_;intro j x hj hx)|refine gV ?_|intro _))<;>try (conv=>whnf)
 ·obtain rfl:j=k - 1:=by omega
  refine⟨?_,rfl,trivial⟩
  rw [nV,iI k (by omega) (by simp_all [setAt,List.getD_eq_getElem?_getD];omega)]
 ·obtain rfl:j=k - 1:=by omega
  refine nx (k+1) ?_
  refine⟨by omega,by omega,fun i h1 h2=>?_⟩
  by_cases e:i=k
  ·subst e;simp_all [setAt,List.getD_eq_getElem?_getD]
  ·exact hi i (by omega) h2
 ·refine⟨?_,rfl,trivial⟩
  rw [nV,aX.2 fun i hh=>hi i (by omega) hh]
theorem slices_Index (l:List Int) (n:Int):Con 171 [.d (ints l),.d (i64 n)] (.d (i64 (aO (fun x=>decide (n=x)) l 0))):=by
 refine con Tryz.func171 rfl rfl Tryz.call171 rfl fun hwf=>?_
 simp only [ARs.wf,AR.wf,AV.wf,List.length_map,lim] at hwf
 (conv=>whnf)
 refine aB [0,1,7] [] [] ?_
 (conv=>whnf)
 refine aA.go ((Nat)) (fun k=>(k≤l.length)∧(aO (fun x=>decide (n=x)) (l.drop k) k=aO (fun x=>decide (n=x)) l 0)) (fun k=>[(8,.data (i64 k))]) (fun _=>[]) (fun _=>[]) (fun k=>l.length - k) (0) ?_ ?_
 ·exact⟨by omega,rfl⟩
 rintro k ⟨hk,hi⟩
 (repeat' ((conv=>whnf);first|refine gA ?_|(refine gB ?_ ?_<;>intro h)|(refine gI ?_;intro x hx)|(refine gJ ?_;intro j x hj hx)|refine gV ?_|intro _))<;>try (conv=>whnf)
 all_goals first
  |exact trivial
  |(refine⟨?_,rfl,trivial⟩;rw [aJ (l:=l) (by assumption)] at hi;first|(simp_all [aO];done)|(simp only [aO, ← hi];clear hi;simp_all [aO];done))
  |(refine⟨?_,rfl,trivial⟩;rw [au (l:=l) (by assumption)] at hi;first|(simp_all [aO];done)|(simp only [aO, ← hi];clear hi;simp_all [aO];done))
  |(refine nx (k+1) ?_
    rw [au (l:=l) (by assumption)] at hi;refine⟨by omega,?_⟩;simp_all [aO];done)
theorem any_eq {l:List Int} {n:Int}:l.any (fun x=>decide (n=x))=l.contains n:=by
 induction l with
 |nil=>rfl
 |cons x l ih=>simp only [List.any_cons,List.contains_cons,ih];rfl
theorem slices_Contains (l:List Int) (n:Int):Con 135 [.d (ints l),.d (i64 n)] (.d (.bool (l.contains n))):=by
 refine con Tryz.func135 rfl rfl Tryz.call135 rfl fun hwf=>?_
 (repeat' ((conv=>whnf);first|refine gA ?_|(refine gB ?_ ?_<;>intro h)|refine gC (slices_Index _ _) ?_|intro _))<;>try (conv=>whnf)
 refine⟨?_,rfl,trivial⟩
 rw [← any_eq, ← tu l 0]
theorem nX (l:List Int) (n:Int):Con 79 [.d (ints l),.d (i64 n)] (.d (.bool (l.contains n))):=by
 refine con Tryz.func79 rfl rfl Tryz.call79 rfl fun hwf=>?_
 (repeat' ((conv=>whnf);first|refine gA ?_|(refine gB ?_ ?_<;>intro h)|refine gC (slices_Contains _ _) ?_|intro _))<;>try (conv=>whnf)
 exact⟨rfl,rfl,trivial⟩
theorem Fb (l:List Int) (n:Int):Con 143 [.d (ints l),.d (i64 n)] (.d (.bool (l.contains n))):=by
 refine con Tryz.func143 rfl rfl Tryz.call143 rfl fun hwf=>?_
 simp only [ARs.wf,AR.wf,AV.wf,List.length_map,lim] at hwf
 (conv=>whnf)
 refine aB [1,7,8] [] [] ?_
 (conv=>whnf)
 refine aA.go ((Nat)) (fun k=>(k≤l.length)∧((l.drop k).contains n=l.contains n)) (fun k=>[(9,.data (i64 k))]) (fun _=>[]) (fun _=>[]) (fun k=>l.length - k) (0) ?_ ?_
 ·exact⟨by omega,rfl⟩
 rintro k ⟨hk,hi⟩
 (repeat' ((conv=>whnf);first|refine gA ?_|(refine gB ?_ ?_<;>intro h)|(refine gI ?_;intro x hx)|(refine gJ ?_;intro j x hj hx)|refine gV ?_|intro _))<;>try (conv=>whnf)
 all_goals first
  |exact trivial
  |(refine⟨?_,rfl,trivial⟩;rw [aJ (l:=l) (by assumption)] at hi;first|(simp_all [List.contains_cons,eq_comm];done)|(simp only [List.contains_cons,eq_comm, ← hi];clear hi;simp_all [List.contains_cons,eq_comm];done))
  |(refine⟨?_,rfl,trivial⟩;rw [au (l:=l) (by assumption)] at hi;first|(simp_all [List.contains_cons,eq_comm];done)|(simp only [List.contains_cons,eq_comm, ← hi];clear hi;simp_all [List.contains_cons,eq_comm];done))
  |(refine nx (k+1) ?_
    rw [au (l:=l) (by assumption)] at hi;refine⟨by omega,?_⟩;simp_all [List.contains_cons,eq_comm];done)
theorem xg (a b:List Int):Con 47 [.d (ints a),.d (ints b)] (.d (.bool (subset a b))):=by
 refine con Tryz.func47 rfl rfl Tryz.call47 rfl fun hwf=>?_
 simp only [ARs.wf,AR.wf,AV.wf,List.length_map,lim] at hwf
 (conv=>whnf)
 refine aB [1,7,8] [] [] ?_
 (conv=>whnf)
 refine aA.go ((Nat)) (fun k=>(k≤a.length)∧(subset (a.drop k) b=subset a b)) (fun k=>[(9,.data (i64 k))]) (fun _=>[]) (fun _=>[]) (fun k=>a.length - k) (0) ?_ ?_
 ·exact⟨by omega,rfl⟩
 rintro k ⟨hk,hi⟩
 (repeat' ((conv=>whnf);first|refine gA ?_|(refine gB ?_ ?_<;>intro h)|(refine gI ?_;intro x hx)|(refine gJ ?_;intro j x hj hx)|refine gV ?_|refine gC (nX _ _) ?_|intro _))<;>try (conv=>whnf)
 all_goals first
  |exact trivial
  |(refine⟨?_,rfl,trivial⟩;rw [aJ (l:=a) (by assumption)] at hi;first|(simp_all [subset];done)|(simp only [subset, ← hi];clear hi;simp_all [subset];done))
  |(refine⟨?_,rfl,trivial⟩;rw [au (l:=a) (by assumption)] at hi;first|(simp_all [subset];done)|(simp only [subset, ← hi];clear hi;simp_all [subset];done))
  |(refine nx (k+1) ?_
    rw [au (l:=a) (by assumption)] at hi;refine⟨by omega,?_⟩;simp_all [subset];done)
theorem uU (l:List Step):Con 165 [.d (.sl (l.map Step.av))] (.d (.bool (iY l))):=by
 refine con Tryz.func165 rfl rfl Tryz.call165 rfl fun hwf=>?_
 simp only [ARs.wf,AR.wf,AV.wf,List.length_map,lim] at hwf
 (conv=>whnf)
 refine aB [0,5,6] [] [] ?_
 (conv=>whnf)
 refine aA.go ((Nat)) (fun k=>(k≤l.length)∧(∀i,i < k→wW l i=true)) (fun k=>[(7,.data (i64 k))]) (fun _=>[]) (fun _=>[]) (fun k=>l.length - k) (0) ?_ ?_
 ·exact⟨by omega,by omega⟩
 rintro k ⟨hk,hi⟩
 (repeat' ((conv=>whnf);first|refine gA ?_|(refine gN ?_ ?_<;>intro h hw)|(refine gB ?_ ?_<;>intro h)|(refine gI ?_;intro x hx)|(refine gJ ?_;intro j x hj hx)|refine gV ?_|refine gC (jB _) ?_|refine gC (zk _) ?_|refine gC (aP _ _ _) ?_|intro _))<;>try (conv=>whnf)
 all_goals first
  |exact trivial
  |(exfalso;omega)
  |(refine⟨?_,rfl,trivial⟩;rw [iY,iI k (by omega) (by (try (obtain rfl:j=k - 1:=by omega));simp_all [wW];try omega)];rfl)
  |(refine nx (k+1) ?_
    exact⟨by omega,iC hi (by (try (obtain rfl:j=k - 1:=by omega));simp_all [wW];try omega)⟩)
  |(refine⟨?_,rfl,trivial⟩;rw [iY,aX.2 fun i hh=>hi i (by omega)];simp)
def yE (l:List Step) (i:Nat):Bool:=
 match l[i]? with
 |some s=>dD s.at'&&dQ s.cap&&(!decide ((i:Int) > 0)||(match l[i - 1]? with|some q=> !decide (q.at'≥s.at')|none=>true))
 |none=>true
theorem Rz (l:List Step):iY l=(wV l.length (yE l)&&(within l.length 1 8&&match l[0]? with|some s=>decide (s.at'=0)|none=>false)):=by
 rw [Bool.eq_iff_iff]
 simp only [iY,Bool.and_eq_true,aX]
 have key:∀i,i < l.length→(wW l i=true↔yE l i=true∧(i=0→(match l[0]? with|some s=>decide (s.at'=0)|none=>false)=true)):=by
  intro i hi
  simp only [wW,yE,List.getElem?_eq_getElem hi]
  by_cases h:i=0
  ·subst h;simp [List.getElem?_eq_getElem hi]
  ·simp [h]
   intro _ _
   cases l[i - 1]? <;>simp
 constructor
 ·rintro⟨h1,h2⟩
  refine⟨fun i hi=>((key i hi).1 (h1 i hi)).1,h2,?_⟩
  have h0:=(within_iff.1 h2).1
  exact ((key 0 (by omega)).1 (h1 0 (by omega))).2 rfl
 ·rintro⟨h1,h2,h3⟩
  exact⟨fun i hi=>(key i hi).2 ⟨h1 i hi,fun _=>h3⟩,h2⟩
theorem Nt (l:List Step):Con 174 [.d (.sl (l.map Step.av))] (.d (.bool (iY l))):=by
 refine con Tryz.func174 rfl rfl Tryz.call174 rfl fun hwf=>?_
 simp only [ARs.wf,AR.wf,AV.wf,List.length_map,lim] at hwf
 rw [Rz]
 (conv=>whnf)
 refine aB [0,5,6] [] [] ?_
 (conv=>whnf)
 refine aA.go ((Nat)) (fun k=>(k≤l.length)∧(∀i,i < k→yE l i=true)) (fun k=>[(7,.data (i64 k))]) (fun _=>[]) (fun _=>[]) (fun k=>l.length - k) (0) ?_ ?_
 ·exact⟨by omega,by omega⟩
 rintro k ⟨hk,hi⟩
 (repeat' ((conv=>whnf);first|refine gA ?_|(refine gN ?_ ?_<;>intro h hw)|(refine gB ?_ ?_<;>intro h)|(refine gI ?_;intro x hx)|(refine gJ ?_;intro j x hj hx)|refine gV ?_|refine gC (lM _ _ _) ?_|intro _))<;>try (conv=>whnf)
 all_goals first
  |exact trivial
  |(exfalso;omega)
  |(refine⟨?_,rfl,trivial⟩;rw [iI k (by omega) (by (try (obtain rfl:j=k - 1:=by omega));simp_all [yE,dD,dQ];try omega)];rfl)
  |(refine nx (k+1) ?_
    exact⟨by omega,iC hi (by (try (obtain rfl:j=k - 1:=by omega));simp_all [yE,dD,dQ];try omega)⟩)
  |(refine⟨?_,rfl,trivial⟩;rw [aX.2 fun i hh=>hi i (by omega)];(try (obtain rfl:j=0:=by omega));(try rw [List.length_map] at h);first|(rw [h,hx];simp;done)|(rw [h];simp))
theorem oO (l:List Step) (t:Int):Con 106 [.d (.sl (l.map Step.av)),.d (i64 t)] (.d (i64 (mK t l 0))):=by
 refine con Tryz.func106 rfl rfl Tryz.call106 rfl fun hwf=>?_
 simp only [ARs.wf,AR.wf,AV.wf,List.length_map,lim] at hwf
 (conv=>whnf)
 refine aB [1,8,9] [] [] ?_
 (conv=>whnf)
 refine aA.go ((Nat)×(Int)) (fun⟨k,n⟩=>(k≤l.length)∧(mK t (l.drop k) n=mK t l 0)) (fun⟨k,n⟩=>[(10,.data (i64 k)),(5,.data (i64 n))]) (fun _=>[]) (fun _=>[]) (fun⟨k,n⟩=>l.length - k) ⟨0,0⟩ ?_ ?_
 ·exact⟨by omega,rfl⟩
 rintro⟨k,n⟩ ⟨hk,hi⟩
 (repeat' ((conv=>whnf);first|refine gA ?_|(refine gB ?_ ?_<;>intro h)|(refine gI ?_;intro x hx)|(refine gJ ?_;intro j x hj hx)|refine gV ?_|intro _))<;>try (conv=>whnf)
 all_goals first
  |exact trivial
  |(refine⟨?_,rfl,trivial⟩;rw [aJ (l:=l) (by assumption)] at hi;first|(simp_all [mK];done)|(simp only [mK, ← hi];clear hi;simp_all [mK];done))
  |(refine⟨?_,rfl,trivial⟩;rw [au (l:=l) (by assumption)] at hi;first|(simp_all [mK];done)|(simp only [mK, ← hi];clear hi;simp_all [mK];done))
  |(apply Exists.intro (⟨k+1,_⟩)
    refine⟨?_,rfl,?_,?_⟩
    rotate_left
    ·(repeat' ((conv=>whnf)<;>(first|exact trivial|exact rfl|with_reducible refine And.intro ?_ ?_)))
    ·(try dsimp only);(try simp only [List.length_map]);omega
    rw [au (l:=l) (by assumption)] at hi;refine⟨by omega,?_⟩;simp_all [mK];done)
theorem Gb (l:List Int) (n:Int):Con 197 [.d (ints l),.d (i64 n)] (.d (.bool (bf l n))):=by
 refine con Tryz.func197 rfl rfl Tryz.call197 rfl fun hwf=>?_
 simp only [ARs.wf,AR.wf,AV.wf,List.length_map,lim] at hwf
 (conv=>whnf)
 refine aB [0,1,7,8] [] [] ?_
 (conv=>whnf)
 refine aA.go ((Nat)) (fun k=>(k≤l.length)∧((l.drop k).all dQ=l.all dQ)) (fun k=>[(9,.data (i64 k))]) (fun _=>[]) (fun _=>[]) (fun k=>l.length - k) (0) ?_ ?_
 ·exact⟨by omega,rfl⟩
 rintro k ⟨hk,hi⟩
 (repeat' ((conv=>whnf);first|refine gA ?_|(refine gN ?_ ?_<;>intro h hw)|(refine gB ?_ ?_<;>intro h)|(refine gI ?_;intro x hx)|(refine gJ ?_;intro j x hj hx)|refine gV ?_|refine gC (zk _) ?_|intro _))<;>try (conv=>whnf)
 all_goals first
  |exact trivial
  |(refine⟨?_,rfl,trivial⟩;rw [aJ (l:=l) (by assumption)] at hi;first|(simp_all [bf];done)|(simp only [bf, ← hi];clear hi;simp_all [bf];done))
  |(refine⟨?_,rfl,trivial⟩;rw [au (l:=l) (by assumption)] at hi;first|(simp_all [bf];done)|(simp only [bf, ← hi];clear hi;simp_all [bf];done))
  |(refine nx (k+1) ?_
    rw [au (l:=l) (by assumption)] at hi;refine⟨by omega,?_⟩;simp_all [bf];done)
theorem Nu (l:List Int) (n:Int):Con 214 [.d (ints l),.d (i64 n)] (.d (.bool (bf l n))):=by
 refine con Tryz.func214 rfl rfl Tryz.call214 rfl fun hwf=>?_
 simp only [ARs.wf,AR.wf,AV.wf,List.length_map,lim] at hwf
 (conv=>whnf)
 refine aB [0,1,7,8] [] [] ?_
 (conv=>whnf)
 refine aA.go ((Nat)) (fun k=>(k≤l.length)∧((l.drop k).all dQ=l.all dQ)) (fun k=>[(9,.data (i64 k))]) (fun _=>[]) (fun _=>[]) (fun k=>l.length - k) (0) ?_ ?_
 ·exact⟨by omega,rfl⟩
 rintro k ⟨hk,hi⟩
 (repeat' ((conv=>whnf);first|refine gA ?_|(refine gN ?_ ?_<;>intro h hw)|(refine gB ?_ ?_<;>intro h)|(refine gI ?_;intro x hx)|(refine gJ ?_;intro j x hj hx)|refine gV ?_|refine gC (lM _ _ _) ?_|intro _))<;>try (conv=>whnf)
 all_goals first
  |exact trivial
  |(refine⟨?_,rfl,trivial⟩;rw [aJ (l:=l) (by assumption)] at hi;first|(simp_all [bf,dQ];done)|(simp only [bf,dQ, ← hi];clear hi;simp_all [bf,dQ];done))
  |(refine⟨?_,rfl,trivial⟩;rw [au (l:=l) (by assumption)] at hi;first|(simp_all [bf,dQ];done)|(simp only [bf,dQ, ← hi];clear hi;simp_all [bf,dQ];done))
  |(refine nx (k+1) ?_
    rw [au (l:=l) (by assumption)] at hi;refine⟨by omega,?_⟩;simp_all [bf,dQ];done)
theorem PO (m:Mode) (r s:Int):Con 161 [.d m.av,.d (i64 r),.d (i64 s)] (.d (.bool (iN m r s))):=by
 refine con Tryz.func161 rfl rfl Tryz.call161 rfl fun hwf=>?_
 (repeat' ((conv=>whnf);first|refine gA ?_|(refine gN ?_ ?_<;>intro h hw)|(refine gB ?_ ?_<;>intro h)|refine gC (aP _ _ _) ?_|refine gC (Gb _ _) ?_|intro _))<;>try (conv=>whnf)
 all_goals refine⟨?_,rfl,trivial⟩
 all_goals simp_all [iN]
theorem PS (m:Mode) (r s:Int):Con 172 [.d m.av,.d (i64 r),.d (i64 s)] (.d (.bool (iN m r s))):=by
 refine con Tryz.func172 rfl rfl Tryz.call172 rfl fun hwf=>?_
 (repeat' ((conv=>whnf);first|refine gA ?_|(refine gN ?_ ?_<;>intro h hw)|(refine gB ?_ ?_<;>intro h)|refine gC (lM _ _ _) ?_|refine gC (Nu _ _) ?_|intro _))<;>try (conv=>whnf)
 all_goals refine⟨?_,rfl,trivial⟩
 all_goals simp_all [iN]
theorem Gc (a:aK) (r s:Int) (hs:a.name.size≤lim):Con 115 [.d a.av,.d (i64 r),.d (i64 s)] (.d (.bool (bC a r s))):=by
 refine con Tryz.func115 rfl rfl Tryz.call115 rfl fun hwf=>?_
 simp only [ARs.wf,AR.wf,AV.wf,AV.wfs,lm,lim] at hwf
 (conv=>whnf)
 refine aB [1,2,3,10,11] [3] [] ?_
 (conv=>whnf)
 refine aA.go ((Nat)) (fun k=>(k≤a.modes.length)∧((a.modes.drop k).all (fun m=>iN m r s)=a.modes.all (fun m=>iN m r s))) (fun k=>[(12,.data (i64 k))]) (fun _=>[]) (fun _=>[]) (fun k=>a.modes.length - k) (0) ?_ ?_
 ·exact⟨by omega,rfl⟩
 rintro k ⟨hk,hi⟩
 (repeat' ((conv=>whnf);first|refine gA ?_|(refine gN ?_ ?_<;>intro h hw)|(refine gB ?_ ?_<;>intro h)|(refine gI ?_;intro x hx)|(refine gJ ?_;intro j x hj hx)|refine gV ?_|refine gC (PO x r s) ?_|refine gC (PL a.name hs) ?_|refine gC (aP _ _ _) ?_|intro _))<;>try (conv=>whnf)
 all_goals first
  |exact trivial
  |(refine⟨?_,rfl,trivial⟩;rw [aJ (l:=a.modes) (by assumption)] at hi;first|(simp_all [bC];done)|(simp only [bC, ← hi];clear hi;simp_all [bC];done))
  |(refine⟨?_,rfl,trivial⟩;rw [au (l:=a.modes) (by assumption)] at hi;first|(simp_all [bC];done)|(simp only [bC, ← hi];clear hi;simp_all [bC];done))
  |(refine nx (k+1) ?_
    rw [au (l:=a.modes) (by assumption)] at hi;refine⟨by omega,?_⟩;simp_all [bC];done)
theorem Gd (a:aK) (r s:Int) (hs:a.name.size≤lim):Con 139 [.d a.av,.d (i64 r),.d (i64 s)] (.d (.bool (bC a r s))):=by
 refine con Tryz.func139 rfl rfl Tryz.call139 rfl fun hwf=>?_
 simp only [ARs.wf,AR.wf,AV.wf,AV.wfs,lm,lim] at hwf
 (conv=>whnf)
 refine aB [1,2,3,10,11] [3] [] ?_
 (conv=>whnf)
 refine aA.go ((Nat)) (fun k=>(k≤a.modes.length)∧((a.modes.drop k).all (fun m=>iN m r s)=a.modes.all (fun m=>iN m r s))) (fun k=>[(12,.data (i64 k))]) (fun _=>[]) (fun _=>[]) (fun k=>a.modes.length - k) (0) ?_ ?_
 ·exact⟨by omega,rfl⟩
 rintro k ⟨hk,hi⟩
 (repeat' ((conv=>whnf);first|refine gA ?_|(refine gN ?_ ?_<;>intro h hw)|(refine gB ?_ ?_<;>intro h)|(refine gI ?_;intro x hx)|(refine gJ ?_;intro j x hj hx)|refine gV ?_|refine gC (PS x r s) ?_|refine gC (PN a.name hs) ?_|refine gC (lM _ _ _) ?_|intro _))<;>try (conv=>whnf)
 all_goals first
  |exact trivial
  |(refine⟨?_,rfl,trivial⟩;rw [aJ (l:=a.modes) (by assumption)] at hi;first|(simp_all [bC];done)|(simp only [bC, ← hi];clear hi;simp_all [bC];done))
  |(refine⟨?_,rfl,trivial⟩;rw [au (l:=a.modes) (by assumption)] at hi;first|(simp_all [bC];done)|(simp only [bC, ← hi];clear hi;simp_all [bC];done))
  |(refine nx (k+1) ?_
    rw [au (l:=a.modes) (by assumption)] at hi;refine⟨by omega,?_⟩;simp_all [bC];done)
end Go.Proofs.YtjfnojijdggfhaaGreat.Abs
