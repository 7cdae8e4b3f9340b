/- Contracts: numbers, names, sets, steps. -/
import Derived.Test.YtgkfifiobmklcaaGreatTab
import Derived.Test.YtgkfifiobmklcaaGreatPlain
import Derived.KernelRfl
set_option linter.all false
set_option maxRecDepth 20000
namespace Go.Proofs.YtgkfifiobmklcaaGreat.Abs
open Go.Proofs
theorem mixed:Tryz.prog.follows .mixedOrders=true:=by kernel_rfl
abbrev Con (f:Nat) (args:List AR) (r:RV):Prop:=Contract Tryz.prog tab lim f args r
theorem con {f:FuncId} {fn:Func} {code:Code} {args:List AR} {r:RV} (hf:Tryz.prog.funcs[f]? =some fn) (hb:fn.body=some code) (hp:iw code=true)
  (hcall:∀(vs:Array Value) (w:World),(callFunc f vs).run Tryz.prog w= .ok (.enter f vs) w) (hlen:(Nat.ble args.length fn.ntmps&&aaU args r)=true)
  (h:ARs.wf lim args→Dj tab (kM Tryz.prog tab lim) lim code (Es tab fn.results.toList r) (entry fn.ntmps args)):Con f args r:=
 JN abN (by decide) (by decide) mixed hf hb hp hcall hlen h
theorem aV (n lo hi:Int):Con 40 [.d (i64 n),.d (i64 lo),.d (i64 hi)] (.d (.bool (within n lo hi))):=by
 refine con Tryz.func40 rfl rfl Tryz.call40 rfl fun hwf=>?_
 (repeat' ((conv=>whnf);first|refine gA ?_|(refine gB ?_ ?_<;>intro h)|intro _))<;>try (conv=>whnf)
 all_goals refine⟨?_,rfl,trivial⟩
 all_goals (simp_all [within];try omega)
theorem lu (n lo hi:Int):Con 157 [.d (i64 n),.d (i64 lo),.d (i64 hi)] (.d (.bool (within n lo hi))):=by
 refine con Tryz.func157 rfl rfl Tryz.call157 rfl fun hwf=>?_
 (repeat' ((conv=>whnf);first|refine gA ?_|(refine gB ?_ ?_<;>intro h)|intro _))<;>try (conv=>whnf)
 all_goals refine⟨?_,rfl,trivial⟩
 all_goals (simp_all [within];try omega)
theorem jY (n:Int):Con 103 [.d (i64 n)] (.d (.bool (dS n))):=by
 refine con Tryz.func103 rfl rfl Tryz.call103 rfl fun hwf=>?_
 (repeat' ((conv=>whnf);first|refine gA ?_|(refine gN ?_ ?_<;>intro h hw)|(refine gB ?_ ?_<;>intro h)|refine gC (aV _ _ _) ?_|intro _))<;>try (conv=>whnf)
 exact⟨rfl,rfl,trivial⟩
theorem Ck (n:Int):Con 224 [.d (i64 n)] (.d (.bool (eG n))):=by
 refine con Tryz.func224 rfl rfl Tryz.call224 rfl fun hwf=>?_
 (repeat' ((conv=>whnf);first|refine gA ?_|(refine gN ?_ ?_<;>intro h hw)|(refine gB ?_ ?_<;>intro h)|refine gC (aV _ _ _) ?_|intro _))<;>try (conv=>whnf)
 exact⟨rfl,rfl,trivial⟩
theorem TQ (s:ByteArray) (hs:s.size≤lim):Con 180 [.d (.str s)] (.d (.bool (vG s))):=by
 refine con Tryz.func180 rfl rfl Tryz.call180 rfl fun hwf=>?_
 unfold lim at hs
 (conv=>whnf)
 refine aB [0,6] [] [] ?_
 (conv=>whnf)
 refine aA.go ((Nat)) (fun k=>(k≤s.size)∧(∀i,i < k→nameAt s i=true)) (fun k=>[(7,.data (i64 k))]) (fun _=>[]) (fun _=>[]) (fun k=>s.size - k) (0) ?_ ?_
 ·exact⟨by omega,by omega⟩
 rintro k ⟨hk,hi⟩
 (repeat' ((conv=>whnf);first|refine gA ?_|(refine gN ?_ ?_<;>intro h hw)|(refine gB ?_ ?_<;>intro h)|(refine gI ?_;intro x hx)|(refine gJ ?_;intro j x hj hx)|refine gV ?_|refine gC (aV _ _ _) ?_|intro _))<;>try (conv=>whnf)
 all_goals first
  |exact trivial
  |(refine⟨?_,rfl,trivial⟩;rw [vG,jh k (by omega) (by simp_all [nameAt,LA];try omega)];rfl)
  |(refine nx (k+1) ?_
    exact⟨by omega,iY hi (by simp_all [nameAt,LA];try omega)⟩)
  |(refine⟨?_,rfl,trivial⟩;rw [vG,bL.2 fun i hh=>hi i (by omega)];rfl)
theorem TR (s:ByteArray) (hs:s.size≤lim):Con 212 [.d (.str s)] (.d (.bool (vG s))):=by
 refine con Tryz.func212 rfl rfl Tryz.call212 rfl fun hwf=>?_
 unfold lim at hs
 (conv=>whnf)
 refine aB [0] [] [] ?_
 (conv=>whnf)
 refine aA.go ((Nat)) (fun k=>(k≤s.size)∧(∀i,i < k→nameAt s i=true)) (fun k=>[(3,.data (i64 k))]) (fun _=>[]) (fun _=>[]) (fun k=>s.size - k) (0) ?_ ?_
 ·exact⟨by omega,by omega⟩
 rintro k ⟨hk,hi⟩
 (repeat' ((conv=>whnf);first|refine gA ?_|(refine gN ?_ ?_<;>intro h hw)|(refine gB ?_ ?_<;>intro h)|(refine gI ?_;intro x hx)|(refine gJ ?_;intro j x hj hx)|refine gV ?_|refine gC (lu _ _ _) ?_|intro _))<;>try (conv=>whnf)
 all_goals first
  |exact trivial
  |(refine⟨?_,rfl,trivial⟩;rw [vG,jh k (by omega) (by simp_all [nameAt,LA];try omega)];rfl)
  |(refine nx (k+1) ?_
    exact⟨by omega,iY hi (by simp_all [nameAt,LA];try omega)⟩)
  |(refine⟨?_,rfl,trivial⟩;rw [vG,bL.2 fun i hh=>hi i (by omega)];rfl)
theorem VR (l:List Int):Con 125 [.d (ints l)] (.d (.bool (nT l))):=by
 refine con Tryz.func125 rfl rfl Tryz.call125 rfl fun hwf=>?_
 simp only [ARs.wf,AR.wf,AV.wf,List.length_map,lim] at hwf
 (conv=>whnf)
 refine aB [0] [] [] ?_
 (conv=>whnf)
 refine aA.go ((Nat)) (fun k=>(1≤k)∧(k≤l.length+1)∧(∀i,i < k→i < l.length→setAt l i=true)) (fun k=>[(3,.data (i64 k))]) (fun _=>[]) (fun _=>[]) (fun k=>l.length+1 - k) (1) ?_ ?_
 ·exact⟨by omega,by omega,fun i h1 h2=>by obtain rfl:i=0:=by omega
                                          rfl⟩
 rintro k ⟨h1,hk,hi⟩
 (repeat' ((conv=>whnf);first|refine gA ?_|(refine gB ?_ ?_<;>intro h)|(refine gI ?_;intro x hx)|(refine gJ ?_;intro j x hj hx)|refine gV ?_|intro _))<;>try (conv=>whnf)
 ·obtain rfl:j=k - 1:=by omega
  refine⟨?_,rfl,trivial⟩
  rw [nT,jh k (by omega) (by simp_all [setAt,List.getD_eq_getElem?_getD];omega)]
 ·obtain rfl:j=k - 1:=by omega
  refine nx (k+1) ?_
  refine⟨by omega,by omega,fun i h1 h2=>?_⟩
  by_cases e:i=k
  ·subst e;simp_all [setAt,List.getD_eq_getElem?_getD]
  ·exact hi i (by omega) h2
 ·refine⟨?_,rfl,trivial⟩
  rw [nT,bL.2 fun i hh=>hi i (by omega) hh]
theorem slices_Index (l:List Int) (n:Int):Con 244 [.d (ints l),.d (i64 n)] (.d (i64 (aQ (fun x=>decide (n=x)) l 0))):=by
 refine con Tryz.func244 rfl rfl Tryz.call244 rfl fun hwf=>?_
 simp only [ARs.wf,AR.wf,AV.wf,List.length_map,lim] at hwf
 (conv=>whnf)
 refine aB [0,1,7] [] [] ?_
 (conv=>whnf)
 refine aA.go ((Nat)) (fun k=>(k≤l.length)∧(aQ (fun x=>decide (n=x)) (l.drop k) k=aQ (fun x=>decide (n=x)) l 0)) (fun k=>[(8,.data (i64 k))]) (fun _=>[]) (fun _=>[]) (fun k=>l.length - k) (0) ?_ ?_
 ·exact⟨by omega,rfl⟩
 rintro k ⟨hk,hi⟩
 (repeat' ((conv=>whnf);first|refine gA ?_|(refine gB ?_ ?_<;>intro h)|(refine gI ?_;intro x hx)|(refine gJ ?_;intro j x hj hx)|refine gV ?_|intro _))<;>try (conv=>whnf)
 all_goals first
  |exact trivial
  |(refine⟨?_,rfl,trivial⟩;rw [aP (l:=l) (by assumption)] at hi;first|(simp_all [aQ];done)|(simp only [aQ, ← hi];clear hi;simp_all [aQ];done))
  |(refine⟨?_,rfl,trivial⟩;rw [ay (l:=l) (by assumption)] at hi;first|(simp_all [aQ];done)|(simp only [aQ, ← hi];clear hi;simp_all [aQ];done))
  |(refine nx (k+1) ?_
    rw [ay (l:=l) (by assumption)] at hi;refine⟨by omega,?_⟩;simp_all [aQ];done)
theorem any_eq {l:List Int} {n:Int}:l.any (fun x=>decide (n=x))=l.contains n:=by
 induction l with
 |nil=>rfl
 |cons x l ih=>simp only [List.any_cons,List.contains_cons,ih];rfl
theorem slices_Contains (l:List Int) (n:Int):Con 210 [.d (ints l),.d (i64 n)] (.d (.bool (l.contains n))):=by
 refine con Tryz.func210 rfl rfl Tryz.call210 rfl fun hwf=>?_
 (repeat' ((conv=>whnf);first|refine gA ?_|(refine gB ?_ ?_<;>intro h)|refine gC (slices_Index _ _) ?_|intro _))<;>try (conv=>whnf)
 refine⟨?_,rfl,trivial⟩
 rw [← any_eq, ← wh l 0]
theorem qG (l:List Int) (n:Int):Con 155 [.d (ints l),.d (i64 n)] (.d (.bool (l.contains n))):=by
 refine con Tryz.func155 rfl rfl Tryz.call155 rfl fun hwf=>?_
 (repeat' ((conv=>whnf);first|refine gA ?_|(refine gB ?_ ?_<;>intro h)|refine gC (slices_Contains _ _) ?_|intro _))<;>try (conv=>whnf)
 exact⟨rfl,rfl,trivial⟩
theorem Jc (l:List Int) (n:Int):Con 163 [.d (ints l),.d (i64 n)] (.d (.bool (l.contains n))):=by
 refine con Tryz.func163 rfl rfl Tryz.call163 rfl fun hwf=>?_
 simp only [ARs.wf,AR.wf,AV.wf,List.length_map,lim] at hwf
 (conv=>whnf)
 refine aB [1,7,8] [] [] ?_
 (conv=>whnf)
 refine aA.go ((Nat)) (fun k=>(k≤l.length)∧((l.drop k).contains n=l.contains n)) (fun k=>[(9,.data (i64 k))]) (fun _=>[]) (fun _=>[]) (fun k=>l.length - k) (0) ?_ ?_
 ·exact⟨by omega,rfl⟩
 rintro k ⟨hk,hi⟩
 (repeat' ((conv=>whnf);first|refine gA ?_|(refine gB ?_ ?_<;>intro h)|(refine gI ?_;intro x hx)|(refine gJ ?_;intro j x hj hx)|refine gV ?_|intro _))<;>try (conv=>whnf)
 all_goals first
  |exact trivial
  |(refine⟨?_,rfl,trivial⟩;rw [aP (l:=l) (by assumption)] at hi;first|(simp_all [List.contains_cons,eq_comm];done)|(simp only [List.contains_cons,eq_comm, ← hi];clear hi;simp_all [List.contains_cons,eq_comm];done))
  |(refine⟨?_,rfl,trivial⟩;rw [ay (l:=l) (by assumption)] at hi;first|(simp_all [List.contains_cons,eq_comm];done)|(simp only [List.contains_cons,eq_comm, ← hi];clear hi;simp_all [List.contains_cons,eq_comm];done))
  |(refine nx (k+1) ?_
    rw [ay (l:=l) (by assumption)] at hi;refine⟨by omega,?_⟩;simp_all [List.contains_cons,eq_comm];done)
theorem zP (a b:List Int):Con 80 [.d (ints a),.d (ints b)] (.d (.bool (subset a b))):=by
 refine con Tryz.func80 rfl rfl Tryz.call80 rfl fun hwf=>?_
 simp only [ARs.wf,AR.wf,AV.wf,List.length_map,lim] at hwf
 (conv=>whnf)
 refine aB [1,7,8] [] [] ?_
 (conv=>whnf)
 refine aA.go ((Nat)) (fun k=>(k≤a.length)∧(subset (a.drop k) b=subset a b)) (fun k=>[(9,.data (i64 k))]) (fun _=>[]) (fun _=>[]) (fun k=>a.length - k) (0) ?_ ?_
 ·exact⟨by omega,rfl⟩
 rintro k ⟨hk,hi⟩
 (repeat' ((conv=>whnf);first|refine gA ?_|(refine gB ?_ ?_<;>intro h)|(refine gI ?_;intro x hx)|(refine gJ ?_;intro j x hj hx)|refine gV ?_|refine gC (qG _ _) ?_|intro _))<;>try (conv=>whnf)
 all_goals first
  |exact trivial
  |(refine⟨?_,rfl,trivial⟩;rw [aP (l:=a) (by assumption)] at hi;first|(simp_all [subset];done)|(simp only [subset, ← hi];clear hi;simp_all [subset];done))
  |(refine⟨?_,rfl,trivial⟩;rw [ay (l:=a) (by assumption)] at hi;first|(simp_all [subset];done)|(simp only [subset, ← hi];clear hi;simp_all [subset];done))
  |(refine nx (k+1) ?_
    rw [ay (l:=a) (by assumption)] at hi;refine⟨by omega,?_⟩;simp_all [subset];done)
theorem xM (l:List Step):Con 183 [.d (.sl (l.map Step.av))] (.d (.bool (jH l))):=by
 refine con Tryz.func183 rfl rfl Tryz.call183 rfl fun hwf=>?_
 simp only [ARs.wf,AR.wf,AV.wf,List.length_map,lim] at hwf
 (conv=>whnf)
 refine aB [0,5,6] [] [] ?_
 (conv=>whnf)
 refine aA.go ((Nat)) (fun k=>(k≤l.length)∧(∀i,i < k→zJ l i=true)) (fun k=>[(7,.data (i64 k))]) (fun _=>[]) (fun _=>[]) (fun k=>l.length - k) (0) ?_ ?_
 ·exact⟨by omega,by omega⟩
 rintro k ⟨hk,hi⟩
 (repeat' ((conv=>whnf);first|refine gA ?_|(refine gN ?_ ?_<;>intro h hw)|(refine gB ?_ ?_<;>intro h)|(refine gI ?_;intro x hx)|(refine gJ ?_;intro j x hj hx)|refine gV ?_|refine gC (jY _) ?_|refine gC (Ck _) ?_|refine gC (aV _ _ _) ?_|intro _))<;>try (conv=>whnf)
 all_goals first
  |exact trivial
  |(exfalso;omega)
  |(refine⟨?_,rfl,trivial⟩;rw [jH,jh k (by omega) (by (try (obtain rfl:j=k - 1:=by omega));simp_all [zJ];try omega)];rfl)
  |(refine nx (k+1) ?_
    exact⟨by omega,iY hi (by (try (obtain rfl:j=k - 1:=by omega));simp_all [zJ];try omega)⟩)
  |(refine⟨?_,rfl,trivial⟩;rw [jH,bL.2 fun i hh=>hi i (by omega)];simp)
def Bc (l:List Step) (i:Nat):Bool:=
 match l[i]? with
 |some s=>dS s.at'&&eG s.cap&&(!decide ((i:Int) > 0)||(match l[i - 1]? with|some q=> !decide (q.at'≥s.at')|none=>true))
 |none=>true
theorem VT (l:List Step):jH l=(yY l.length (Bc l)&&(within l.length 1 8&&match l[0]? with|some s=>decide (s.at'=0)|none=>false)):=by
 rw [Bool.eq_iff_iff]
 simp only [jH,Bool.and_eq_true,bL]
 have key:∀i,i < l.length→(zJ l i=true↔Bc l i=true∧(i=0→(match l[0]? with|some s=>decide (s.at'=0)|none=>false)=true)):=by
  intro i hi
  simp only [zJ,Bc,List.getElem?_eq_getElem hi]
  by_cases h:i=0
  ·subst h;simp [List.getElem?_eq_getElem hi]
  ·simp [h]
   intro _ _
   cases l[i - 1]? <;>simp
 constructor
 ·rintro⟨h1,h2⟩
  refine⟨fun i hi=>((key i hi).1 (h1 i hi)).1,h2,?_⟩
  have h0:=(within_iff.1 h2).1
  exact ((key 0 (by omega)).1 (h1 0 (by omega))).2 rfl
 ·rintro⟨h1,h2,h3⟩
  exact⟨fun i hi=>(key i hi).2 ⟨h1 i hi,fun _=>h3⟩,h2⟩
theorem Rk (l:List Step):Con 213 [.d (.sl (l.map Step.av))] (.d (.bool (jH l))):=by
 refine con Tryz.func213 rfl rfl Tryz.call213 rfl fun hwf=>?_
 simp only [ARs.wf,AR.wf,AV.wf,List.length_map,lim] at hwf
 rw [VT]
 (conv=>whnf)
 refine aB [0,5,6] [] [] ?_
 (conv=>whnf)
 refine aA.go ((Nat)) (fun k=>(k≤l.length)∧(∀i,i < k→Bc l i=true)) (fun k=>[(7,.data (i64 k))]) (fun _=>[]) (fun _=>[]) (fun k=>l.length - k) (0) ?_ ?_
 ·exact⟨by omega,by omega⟩
 rintro k ⟨hk,hi⟩
 (repeat' ((conv=>whnf);first|refine gA ?_|(refine gN ?_ ?_<;>intro h hw)|(refine gB ?_ ?_<;>intro h)|(refine gI ?_;intro x hx)|(refine gJ ?_;intro j x hj hx)|refine gV ?_|refine gC (lu _ _ _) ?_|intro _))<;>try (conv=>whnf)
 all_goals first
  |exact trivial
  |(exfalso;omega)
  |(refine⟨?_,rfl,trivial⟩;rw [jh k (by omega) (by (try (obtain rfl:j=k - 1:=by omega));simp_all [Bc,dS,eG];try omega)];rfl)
  |(refine nx (k+1) ?_
    exact⟨by omega,iY hi (by (try (obtain rfl:j=k - 1:=by omega));simp_all [Bc,dS,eG];try omega)⟩)
  |(refine⟨?_,rfl,trivial⟩;rw [bL.2 fun i hh=>hi i (by omega)];(try (obtain rfl:j=0:=by omega));(try rw [List.length_map] at h);first|(rw [h,hx];simp;done)|(rw [h];simp))
theorem ru (l:List Step) (t:Int):Con 137 [.d (.sl (l.map Step.av)),.d (i64 t)] (.d (i64 (oF t l 0))):=by
 refine con Tryz.func137 rfl rfl Tryz.call137 rfl fun hwf=>?_
 simp only [ARs.wf,AR.wf,AV.wf,List.length_map,lim] at hwf
 (conv=>whnf)
 refine aB [1,8,9] [] [] ?_
 (conv=>whnf)
 refine aA.go ((Nat)×(Int)) (fun⟨k,n⟩=>(k≤l.length)∧(oF t (l.drop k) n=oF t l 0)) (fun⟨k,n⟩=>[(10,.data (i64 k)),(5,.data (i64 n))]) (fun _=>[]) (fun _=>[]) (fun⟨k,n⟩=>l.length - k) ⟨0,0⟩ ?_ ?_
 ·exact⟨by omega,rfl⟩
 rintro⟨k,n⟩ ⟨hk,hi⟩
 (repeat' ((conv=>whnf);first|refine gA ?_|(refine gB ?_ ?_<;>intro h)|(refine gI ?_;intro x hx)|(refine gJ ?_;intro j x hj hx)|refine gV ?_|intro _))<;>try (conv=>whnf)
 all_goals first
  |exact trivial
  |(refine⟨?_,rfl,trivial⟩;rw [aP (l:=l) (by assumption)] at hi;first|(simp_all [oF];done)|(simp only [oF, ← hi];clear hi;simp_all [oF];done))
  |(refine⟨?_,rfl,trivial⟩;rw [ay (l:=l) (by assumption)] at hi;first|(simp_all [oF];done)|(simp only [oF, ← hi];clear hi;simp_all [oF];done))
  |(apply Exists.intro (⟨k+1,_⟩)
    refine⟨?_,rfl,?_,?_⟩
    rotate_left
    ·(repeat' ((conv=>whnf)<;>(first|exact trivial|exact rfl|with_reducible refine And.intro ?_ ?_)))
    ·(try dsimp only);(try simp only [List.length_map]);omega
    rw [ay (l:=l) (by assumption)] at hi;refine⟨by omega,?_⟩;simp_all [oF];done)
theorem JQ (l:List Int) (n:Int):Con 223 [.d (ints l),.d (i64 n)] (.d (.bool (bO l n))):=by
 refine con Tryz.func223 rfl rfl Tryz.call223 rfl fun hwf=>?_
 simp only [ARs.wf,AR.wf,AV.wf,List.length_map,lim] at hwf
 (conv=>whnf)
 refine aB [0,1,7,8] [] [] ?_
 (conv=>whnf)
 refine aA.go ((Nat)) (fun k=>(k≤l.length)∧((l.drop k).all eG=l.all eG)) (fun k=>[(9,.data (i64 k))]) (fun _=>[]) (fun _=>[]) (fun k=>l.length - k) (0) ?_ ?_
 ·exact⟨by omega,rfl⟩
 rintro k ⟨hk,hi⟩
 (repeat' ((conv=>whnf);first|refine gA ?_|(refine gN ?_ ?_<;>intro h hw)|(refine gB ?_ ?_<;>intro h)|(refine gI ?_;intro x hx)|(refine gJ ?_;intro j x hj hx)|refine gV ?_|refine gC (Ck _) ?_|intro _))<;>try (conv=>whnf)
 all_goals first
  |exact trivial
  |(refine⟨?_,rfl,trivial⟩;rw [aP (l:=l) (by assumption)] at hi;first|(simp_all [bO];done)|(simp only [bO, ← hi];clear hi;simp_all [bO];done))
  |(refine⟨?_,rfl,trivial⟩;rw [ay (l:=l) (by assumption)] at hi;first|(simp_all [bO];done)|(simp only [bO, ← hi];clear hi;simp_all [bO];done))
  |(refine nx (k+1) ?_
    rw [ay (l:=l) (by assumption)] at hi;refine⟨by omega,?_⟩;simp_all [bO];done)
theorem Rl (l:List Int) (n:Int):Con 245 [.d (ints l),.d (i64 n)] (.d (.bool (bO l n))):=by
 refine con Tryz.func245 rfl rfl Tryz.call245 rfl fun hwf=>?_
 simp only [ARs.wf,AR.wf,AV.wf,List.length_map,lim] at hwf
 (conv=>whnf)
 refine aB [0,1,7,8] [] [] ?_
 (conv=>whnf)
 refine aA.go ((Nat)) (fun k=>(k≤l.length)∧((l.drop k).all eG=l.all eG)) (fun k=>[(9,.data (i64 k))]) (fun _=>[]) (fun _=>[]) (fun k=>l.length - k) (0) ?_ ?_
 ·exact⟨by omega,rfl⟩
 rintro k ⟨hk,hi⟩
 (repeat' ((conv=>whnf);first|refine gA ?_|(refine gN ?_ ?_<;>intro h hw)|(refine gB ?_ ?_<;>intro h)|(refine gI ?_;intro x hx)|(refine gJ ?_;intro j x hj hx)|refine gV ?_|refine gC (lu _ _ _) ?_|intro _))<;>try (conv=>whnf)
 all_goals first
  |exact trivial
  |(refine⟨?_,rfl,trivial⟩;rw [aP (l:=l) (by assumption)] at hi;first|(simp_all [bO,eG];done)|(simp only [bO,eG, ← hi];clear hi;simp_all [bO,eG];done))
  |(refine⟨?_,rfl,trivial⟩;rw [ay (l:=l) (by assumption)] at hi;first|(simp_all [bO,eG];done)|(simp only [bO,eG, ← hi];clear hi;simp_all [bO,eG];done))
  |(refine nx (k+1) ?_
    rw [ay (l:=l) (by assumption)] at hi;refine⟨by omega,?_⟩;simp_all [bO,eG];done)
theorem TS (m:Mode) (r s:Int):Con 179 [.d m.av,.d (i64 r),.d (i64 s)] (.d (.bool (jA m r s))):=by
 refine con Tryz.func179 rfl rfl Tryz.call179 rfl fun hwf=>?_
 (repeat' ((conv=>whnf);first|refine gA ?_|(refine gN ?_ ?_<;>intro h hw)|(refine gB ?_ ?_<;>intro h)|refine gC (aV _ _ _) ?_|refine gC (JQ _ _) ?_|intro _))<;>try (conv=>whnf)
 all_goals refine⟨?_,rfl,trivial⟩
 all_goals simp_all [jA]
theorem TT (m:Mode) (r s:Int):Con 211 [.d m.av,.d (i64 r),.d (i64 s)] (.d (.bool (jA m r s))):=by
 refine con Tryz.func211 rfl rfl Tryz.call211 rfl fun hwf=>?_
 (repeat' ((conv=>whnf);first|refine gA ?_|(refine gN ?_ ?_<;>intro h hw)|(refine gB ?_ ?_<;>intro h)|refine gC (lu _ _ _) ?_|refine gC (Rl _ _) ?_|intro _))<;>try (conv=>whnf)
 all_goals refine⟨?_,rfl,trivial⟩
 all_goals simp_all [jA]
theorem JR (a:aF) (r s:Int) (hs:a.name.size≤lim):Con 118 [.d a.av,.d (i64 r),.d (i64 s)] (.d (.bool (bT a r s))):=by
 refine con Tryz.func118 rfl rfl Tryz.call118 rfl fun hwf=>?_
 simp only [ARs.wf,AR.wf,AV.wf,AV.wfs,lm,lim] at hwf
 (conv=>whnf)
 refine aB [1,2,3,10,11] [3] [] ?_
 (conv=>whnf)
 refine aA.go ((Nat)) (fun k=>(k≤a.modes.length)∧((a.modes.drop k).all (fun m=>jA m r s)=a.modes.all (fun m=>jA m r s))) (fun k=>[(12,.data (i64 k))]) (fun _=>[]) (fun _=>[]) (fun k=>a.modes.length - k) (0) ?_ ?_
 ·exact⟨by omega,rfl⟩
 rintro k ⟨hk,hi⟩
 (repeat' ((conv=>whnf);first|refine gA ?_|(refine gN ?_ ?_<;>intro h hw)|(refine gB ?_ ?_<;>intro h)|(refine gI ?_;intro x hx)|(refine gJ ?_;intro j x hj hx)|refine gV ?_|refine gC (TS x r s) ?_|refine gC (TQ a.name hs) ?_|refine gC (aV _ _ _) ?_|intro _))<;>try (conv=>whnf)
 all_goals first
  |exact trivial
  |(refine⟨?_,rfl,trivial⟩;rw [aP (l:=a.modes) (by assumption)] at hi;first|(simp_all [bT];done)|(simp only [bT, ← hi];clear hi;simp_all [bT];done))
  |(refine⟨?_,rfl,trivial⟩;rw [ay (l:=a.modes) (by assumption)] at hi;first|(simp_all [bT];done)|(simp only [bT, ← hi];clear hi;simp_all [bT];done))
  |(refine nx (k+1) ?_
    rw [ay (l:=a.modes) (by assumption)] at hi;refine⟨by omega,?_⟩;simp_all [bT];done)
theorem JU (a:aF) (r s:Int) (hs:a.name.size≤lim):Con 158 [.d a.av,.d (i64 r),.d (i64 s)] (.d (.bool (bT a r s))):=by
 refine con Tryz.func158 rfl rfl Tryz.call158 rfl fun hwf=>?_
 simp only [ARs.wf,AR.wf,AV.wf,AV.wfs,lm,lim] at hwf
 (conv=>whnf)
 refine aB [1,2,3,10,11] [3] [] ?_
 (conv=>whnf)
 refine aA.go ((Nat)) (fun k=>(k≤a.modes.length)∧((a.modes.drop k).all (fun m=>jA m r s)=a.modes.all (fun m=>jA m r s))) (fun k=>[(12,.data (i64 k))]) (fun _=>[]) (fun _=>[]) (fun k=>a.modes.length - k) (0) ?_ ?_
 ·exact⟨by omega,rfl⟩
 rintro k ⟨hk,hi⟩
 (repeat' ((conv=>whnf);first|refine gA ?_|(refine gN ?_ ?_<;>intro h hw)|(refine gB ?_ ?_<;>intro h)|(refine gI ?_;intro x hx)|(refine gJ ?_;intro j x hj hx)|refine gV ?_|refine gC (TT x r s) ?_|refine gC (TR a.name hs) ?_|refine gC (lu _ _ _) ?_|intro _))<;>try (conv=>whnf)
 all_goals first
  |exact trivial
  |(refine⟨?_,rfl,trivial⟩;rw [aP (l:=a.modes) (by assumption)] at hi;first|(simp_all [bT];done)|(simp only [bT, ← hi];clear hi;simp_all [bT];done))
  |(refine⟨?_,rfl,trivial⟩;rw [ay (l:=a.modes) (by assumption)] at hi;first|(simp_all [bT];done)|(simp only [bT, ← hi];clear hi;simp_all [bT];done))
  |(refine nx (k+1) ?_
    rw [ay (l:=a.modes) (by assumption)] at hi;refine⟨by omega,?_⟩;simp_all [bT];done)
end Go.Proofs.YtgkfifiobmklcaaGreat.Abs
