/- Contracts: numbers, names, sets, steps. -/
import Derived.Test.YtpfgedlimdeffaaGreatTab
import Derived.Test.YtpfgedlimdeffaaGreatPlain
import Derived.KernelRfl
set_option linter.all false
set_option maxRecDepth 20000
namespace Go.Proofs.YtpfgedlimdeffaaGreat.Abs
open Go.Proofs
theorem mixed:Tryz.prog.follows .mixedOrders=true:=by kernel_rfl
abbrev Con (f:Nat) (args:List AR) (r:RV):Prop:=Contract Tryz.prog tab lim f args r
theorem con {f:FuncId} {fn:Func} {code:Code} {args:List AR} {r:RV} (hf:Tryz.prog.funcs[f]? =some fn) (hb:fn.body=some code) (hp:bW code=true)
  (hcall:∀(vs:Array Value) (w:World),(callFunc f vs).run Tryz.prog w= .ok (.enter f vs) w) (hlen:(Nat.ble args.length fn.ntmps&&Vg args r)=true)
  (h:ARs.wf lim args→mK tab (dO Tryz.prog tab lim) lim code (oH tab fn.results.toList r) (entry fn.ntmps args)):Con f args r:=
 Dj MN (by decide) (by decide) mixed hf hb hp hcall hlen h
theorem bq (n lo hi:Int):Con 113 [.d (i64 n),.d (i64 lo),.d (i64 hi)] (.d (.bool (within n lo hi))):=by
 refine con Tryz.func113 rfl rfl Tryz.call113 rfl fun hwf=>?_
 (repeat' ((conv=>whnf);first|refine gA ?_|(refine gB ?_ ?_<;>intro h)|intro _))<;>try (conv=>whnf)
 all_goals refine⟨?_,rfl,trivial⟩
 all_goals (simp_all [within];try omega)
theorem dI (n lo hi:Int):Con 92 [.d (i64 n),.d (i64 lo),.d (i64 hi)] (.d (.bool (within n lo hi))):=by
 refine con Tryz.func92 rfl rfl Tryz.call92 rfl fun hwf=>?_
 (repeat' ((conv=>whnf);first|refine gA ?_|(refine gB ?_ ?_<;>intro h)|intro _))<;>try (conv=>whnf)
 all_goals refine⟨?_,rfl,trivial⟩
 all_goals (simp_all [within];try omega)
theorem kZ (n:Int):Con 111 [.d (i64 n)] (.d (.bool (bM n))):=by
 refine con Tryz.func111 rfl rfl Tryz.call111 rfl fun hwf=>?_
 (repeat' ((conv=>whnf);first|refine gA ?_|(refine gN ?_ ?_<;>intro h hw)|(refine gB ?_ ?_<;>intro h)|refine gC (bq _ _ _) ?_|intro _))<;>try (conv=>whnf)
 exact⟨rfl,rfl,trivial⟩
theorem xA (n:Int):Con 180 [.d (i64 n)] (.d (.bool (dY n))):=by
 refine con Tryz.func180 rfl rfl Tryz.call180 rfl fun hwf=>?_
 (repeat' ((conv=>whnf);first|refine gA ?_|(refine gN ?_ ?_<;>intro h hw)|(refine gB ?_ ?_<;>intro h)|refine gC (bq _ _ _) ?_|intro _))<;>try (conv=>whnf)
 exact⟨rfl,rfl,trivial⟩
theorem MO (s:ByteArray) (hs:s.size≤lim):Con 152 [.d (.str s)] (.d (.bool (xZ s))):=by
 refine con Tryz.func152 rfl rfl Tryz.call152 rfl fun hwf=>?_
 unfold lim at hs
 (conv=>whnf)
 refine aG [0,6] [] [] ?_
 (conv=>whnf)
 refine aC.go ((Nat)) (fun k=>(k≤s.size)∧(∀i,i < k→nameAt s i=true)) (fun k=>[(7,.data (i64 k))]) (fun _=>[]) (fun _=>[]) (fun k=>s.size - k) (0) ?_ ?_
 ·exact⟨by omega,by omega⟩
 rintro k ⟨hk,hi⟩
 (repeat' ((conv=>whnf);first|refine gA ?_|(refine gN ?_ ?_<;>intro h hw)|(refine gB ?_ ?_<;>intro h)|(refine gI ?_;intro x hx)|(refine gJ ?_;intro j x hj hx)|refine gV ?_|refine gC (bq _ _ _) ?_|intro _))<;>try (conv=>whnf)
 all_goals first
  |exact trivial
  |(refine⟨?_,rfl,trivial⟩;rw [xZ,kR k (by omega) (by simp_all [nameAt,ES];try omega)];rfl)
  |(refine nx (k+1) ?_
    exact⟨by omega,jv hi (by simp_all [nameAt,ES];try omega)⟩)
  |(refine⟨?_,rfl,trivial⟩;rw [xZ,eY.2 fun i hh=>hi i (by omega)];rfl)
theorem MP (s:ByteArray) (hs:s.size≤lim):Con 137 [.d (.str s)] (.d (.bool (xZ s))):=by
 refine con Tryz.func137 rfl rfl Tryz.call137 rfl fun hwf=>?_
 unfold lim at hs
 (conv=>whnf)
 refine aG [0] [] [] ?_
 (conv=>whnf)
 refine aC.go ((Nat)) (fun k=>(k≤s.size)∧(∀i,i < k→nameAt s i=true)) (fun k=>[(3,.data (i64 k))]) (fun _=>[]) (fun _=>[]) (fun k=>s.size - k) (0) ?_ ?_
 ·exact⟨by omega,by omega⟩
 rintro k ⟨hk,hi⟩
 (repeat' ((conv=>whnf);first|refine gA ?_|(refine gN ?_ ?_<;>intro h hw)|(refine gB ?_ ?_<;>intro h)|(refine gI ?_;intro x hx)|(refine gJ ?_;intro j x hj hx)|refine gV ?_|refine gC (dI _ _ _) ?_|intro _))<;>try (conv=>whnf)
 all_goals first
  |exact trivial
  |(refine⟨?_,rfl,trivial⟩;rw [xZ,kR k (by omega) (by simp_all [nameAt,ES];try omega)];rfl)
  |(refine nx (k+1) ?_
    exact⟨by omega,jv hi (by simp_all [nameAt,ES];try omega)⟩)
  |(refine⟨?_,rfl,trivial⟩;rw [xZ,eY.2 fun i hh=>hi i (by omega)];rfl)
theorem OM (l:List Int):Con 167 [.d (ints l)] (.d (.bool (qU l))):=by
 refine con Tryz.func167 rfl rfl Tryz.call167 rfl fun hwf=>?_
 simp only [ARs.wf,AR.wf,AV.wf,List.length_map,lim] at hwf
 (conv=>whnf)
 refine aG [0] [] [] ?_
 (conv=>whnf)
 refine aC.go ((Nat)) (fun k=>(1≤k)∧(k≤l.length+1)∧(∀i,i < k→i < l.length→setAt l i=true)) (fun k=>[(3,.data (i64 k))]) (fun _=>[]) (fun _=>[]) (fun k=>l.length+1 - k) (1) ?_ ?_
 ·exact⟨by omega,by omega,fun i h1 h2=>by obtain rfl:i=0:=by omega
                                          rfl⟩
 rintro k ⟨h1,hk,hi⟩
 (repeat' ((conv=>whnf);first|refine gA ?_|(refine gB ?_ ?_<;>intro h)|(refine gI ?_;intro x hx)|(refine gJ ?_;intro j x hj hx)|refine gV ?_|intro _))<;>try (conv=>whnf)
 ·obtain rfl:j=k - 1:=by omega
  refine⟨?_,rfl,trivial⟩
  rw [qU,kR k (by omega) (by simp_all [setAt,List.getD_eq_getElem?_getD];omega)]
 ·obtain rfl:j=k - 1:=by omega
  refine nx (k+1) ?_
  refine⟨by omega,by omega,fun i h1 h2=>?_⟩
  by_cases e:i=k
  ·subst e;simp_all [setAt,List.getD_eq_getElem?_getD]
  ·exact hi i (by omega) h2
 ·refine⟨?_,rfl,trivial⟩
  rw [qU,eY.2 fun i hh=>hi i (by omega) hh]
theorem OO (l:List Int):Con 144 [.d (ints l)] (.d (.bool (qU l))):=by
 refine con Tryz.func144 rfl rfl Tryz.call144 rfl fun hwf=>?_
 simp only [ARs.wf,AR.wf,AV.wf,List.length_map,lim] at hwf
 (conv=>whnf)
 refine aG [0,5] [] [] ?_
 (conv=>whnf)
 refine aC.go ((Nat)) (fun k=>(k≤l.length)∧(∀i,i < k→setAt l i=true)) (fun k=>[(6,.data (i64 k))]) (fun _=>[]) (fun _=>[]) (fun k=>l.length - k) (0) ?_ ?_
 ·exact⟨by omega,by omega⟩
 rintro k ⟨hk,hi⟩
 (repeat' ((conv=>whnf);first|refine gA ?_|(refine gB ?_ ?_<;>intro h)|(refine gI ?_;intro x hx)|(refine gJ ?_;intro j x hj hx)|refine gV ?_|intro _))<;>try (conv=>whnf)
 ·obtain rfl:j=k - 1:=by omega
  refine⟨?_,rfl,trivial⟩
  rw [qU,kR k (by omega) (by simp_all [setAt,List.getD_eq_getElem?_getD];omega)]
 ·obtain rfl:j=k - 1:=by omega
  refine nx (k+1) ?_
  exact⟨by omega,jv hi (by simp_all [setAt,List.getD_eq_getElem?_getD])⟩
 ·refine nx (k+1) ?_
  exact⟨by omega,jv hi (by simp_all [setAt,List.getD_eq_getElem?_getD])⟩
 ·refine⟨?_,rfl,trivial⟩
  rw [qU,eY.2 fun i hh=>hi i (by omega)]
theorem slices_Index (l:List Int) (n:Int):Con 126 [.d (ints l),.d (i64 n)] (.d (i64 (dz (fun x=>decide (n=x)) l 0))):=by
 refine con Tryz.func126 rfl rfl Tryz.call126 rfl fun hwf=>?_
 simp only [ARs.wf,AR.wf,AV.wf,List.length_map,lim] at hwf
 (conv=>whnf)
 refine aG [0,1,7] [] [] ?_
 (conv=>whnf)
 refine aC.go ((Nat)) (fun k=>(k≤l.length)∧(dz (fun x=>decide (n=x)) (l.drop k) k=dz (fun x=>decide (n=x)) l 0)) (fun k=>[(8,.data (i64 k))]) (fun _=>[]) (fun _=>[]) (fun k=>l.length - k) (0) ?_ ?_
 ·exact⟨by omega,rfl⟩
 rintro k ⟨hk,hi⟩
 (repeat' ((conv=>whnf);first|refine gA ?_|(refine gB ?_ ?_<;>intro h)|(refine gI ?_;intro x hx)|(refine gJ ?_;intro j x hj hx)|refine gV ?_|intro _))<;>try (conv=>whnf)
 all_goals first
  |exact trivial
  |(refine⟨?_,rfl,trivial⟩;rw [aQ (l:=l) (by assumption)] at hi;first|(simp_all [dz];done)|(simp only [dz, ← hi];clear hi;simp_all [dz];done))
  |(refine⟨?_,rfl,trivial⟩;rw [ay (l:=l) (by assumption)] at hi;first|(simp_all [dz];done)|(simp only [dz, ← hi];clear hi;simp_all [dz];done))
  |(refine nx (k+1) ?_
    rw [ay (l:=l) (by assumption)] at hi;refine⟨by omega,?_⟩;simp_all [dz];done)
theorem any_eq {l:List Int} {n:Int}:l.any (fun x=>decide (n=x))=l.contains n:=by
 induction l with
 |nil=>rfl
 |cons x l ih=>simp only [List.any_cons,List.contains_cons,ih];rfl
theorem slices_Contains (l:List Int) (n:Int):Con 74 [.d (ints l),.d (i64 n)] (.d (.bool (l.contains n))):=by
 refine con Tryz.func74 rfl rfl Tryz.call74 rfl fun hwf=>?_
 (repeat' ((conv=>whnf);first|refine gA ?_|(refine gB ?_ ?_<;>intro h)|refine gC (slices_Index _ _) ?_|intro _))<;>try (conv=>whnf)
 refine⟨?_,rfl,trivial⟩
 rw [← any_eq, ← ER l 0]
theorem iZ (l:List Int) (n:Int):Con 36 [.d (ints l),.d (i64 n)] (.d (.bool (l.contains n))):=by
 refine con Tryz.func36 rfl rfl Tryz.call36 rfl fun hwf=>?_
 (repeat' ((conv=>whnf);first|refine gA ?_|(refine gB ?_ ?_<;>intro h)|refine gC (slices_Contains _ _) ?_|intro _))<;>try (conv=>whnf)
 exact⟨rfl,rfl,trivial⟩
theorem gZ (l:List Int) (n:Int):Con 24 [.d (ints l),.d (i64 n)] (.d (.bool (l.contains n))):=by
 refine con Tryz.func24 rfl rfl Tryz.call24 rfl fun hwf=>?_
 simp only [ARs.wf,AR.wf,AV.wf,List.length_map,lim] at hwf
 (conv=>whnf)
 refine aG [1,7,8] [] [] ?_
 (conv=>whnf)
 refine aC.go ((Nat)) (fun k=>(k≤l.length)∧((l.drop k).contains n=l.contains n)) (fun k=>[(9,.data (i64 k))]) (fun _=>[]) (fun _=>[]) (fun k=>l.length - k) (0) ?_ ?_
 ·exact⟨by omega,rfl⟩
 rintro k ⟨hk,hi⟩
 (repeat' ((conv=>whnf);first|refine gA ?_|(refine gB ?_ ?_<;>intro h)|(refine gI ?_;intro x hx)|(refine gJ ?_;intro j x hj hx)|refine gV ?_|intro _))<;>try (conv=>whnf)
 all_goals first
  |exact trivial
  |(refine⟨?_,rfl,trivial⟩;rw [aQ (l:=l) (by assumption)] at hi;first|(simp_all [List.contains_cons,eq_comm];done)|(simp only [List.contains_cons,eq_comm, ← hi];clear hi;simp_all [List.contains_cons,eq_comm];done))
  |(refine⟨?_,rfl,trivial⟩;rw [ay (l:=l) (by assumption)] at hi;first|(simp_all [List.contains_cons,eq_comm];done)|(simp only [List.contains_cons,eq_comm, ← hi];clear hi;simp_all [List.contains_cons,eq_comm];done))
  |(refine nx (k+1) ?_
    rw [ay (l:=l) (by assumption)] at hi;refine⟨by omega,?_⟩;simp_all [List.contains_cons,eq_comm];done)
theorem EZ (a b:List Int):Con 168 [.d (ints a),.d (ints b)] (.d (.bool (subset a b))):=by
 refine con Tryz.func168 rfl rfl Tryz.call168 rfl fun hwf=>?_
 simp only [ARs.wf,AR.wf,AV.wf,List.length_map,lim] at hwf
 (conv=>whnf)
 refine aG [1,7,8] [] [] ?_
 (conv=>whnf)
 refine aC.go ((Nat)) (fun k=>(k≤a.length)∧(subset (a.drop k) b=subset a b)) (fun k=>[(9,.data (i64 k))]) (fun _=>[]) (fun _=>[]) (fun k=>a.length - k) (0) ?_ ?_
 ·exact⟨by omega,rfl⟩
 rintro k ⟨hk,hi⟩
 (repeat' ((conv=>whnf);first|refine gA ?_|(refine gB ?_ ?_<;>intro h)|(refine gI ?_;intro x hx)|(refine gJ ?_;intro j x hj hx)|refine gV ?_|refine gC (iZ _ _) ?_|intro _))<;>try (conv=>whnf)
 all_goals first
  |exact trivial
  |(refine⟨?_,rfl,trivial⟩;rw [aQ (l:=a) (by assumption)] at hi;first|(simp_all [subset];done)|(simp only [subset, ← hi];clear hi;simp_all [subset];done))
  |(refine⟨?_,rfl,trivial⟩;rw [ay (l:=a) (by assumption)] at hi;first|(simp_all [subset];done)|(simp only [subset, ← hi];clear hi;simp_all [subset];done))
  |(refine nx (k+1) ?_
    rw [ay (l:=a) (by assumption)] at hi;refine⟨by omega,?_⟩;simp_all [subset];done)
theorem Fa (a b:List Int):Con 145 [.d (ints a),.d (ints b)] (.d (.bool (subset a b))):=by
 refine con Tryz.func145 rfl rfl Tryz.call145 rfl fun hwf=>?_
 simp only [ARs.wf,AR.wf,AV.wf,List.length_map,lim] at hwf
 (conv=>whnf)
 refine aG [1,7,8] [] [] ?_
 (conv=>whnf)
 refine aC.go ((Nat)) (fun k=>(k≤a.length)∧(subset (a.drop k) b=subset a b)) (fun k=>[(9,.data (i64 k))]) (fun _=>[]) (fun _=>[]) (fun k=>a.length - k) (0) ?_ ?_
 ·exact⟨by omega,rfl⟩
 rintro k ⟨hk,hi⟩
 (repeat' ((conv=>whnf);first|refine gA ?_|(refine gB ?_ ?_<;>intro h)|(refine gI ?_;intro x hx)|(refine gJ ?_;intro j x hj hx)|refine gV ?_|refine gC (gZ _ _) ?_|intro _))<;>try (conv=>whnf)
 all_goals first
  |exact trivial
  |(refine⟨?_,rfl,trivial⟩;rw [aQ (l:=a) (by assumption)] at hi;first|(simp_all [subset];done)|(simp only [subset, ← hi];clear hi;simp_all [subset];done))
  |(refine⟨?_,rfl,trivial⟩;rw [ay (l:=a) (by assumption)] at hi;first|(simp_all [subset];done)|(simp only [subset, ← hi];clear hi;simp_all [subset];done))
  |(refine nx (k+1) ?_
    rw [ay (l:=a) (by assumption)] at hi;refine⟨by omega,?_⟩;simp_all [subset];done)
theorem zR (l:List Step):Con 155 [.d (.sl (l.map Step.av))] (.d (.bool (je l))):=by
 refine con Tryz.func155 rfl rfl Tryz.call155 rfl fun hwf=>?_
 simp only [ARs.wf,AR.wf,AV.wf,List.length_map,lim] at hwf
 (conv=>whnf)
 refine aG [0,5,6] [] [] ?_
 (conv=>whnf)
 refine aC.go ((Nat)) (fun k=>(k≤l.length)∧(∀i,i < k→yc l i=true)) (fun k=>[(7,.data (i64 k))]) (fun _=>[]) (fun _=>[]) (fun k=>l.length - k) (0) ?_ ?_
 ·exact⟨by omega,by omega⟩
 rintro k ⟨hk,hi⟩
 (repeat' ((conv=>whnf);first|refine gA ?_|(refine gN ?_ ?_<;>intro h hw)|(refine gB ?_ ?_<;>intro h)|(refine gI ?_;intro x hx)|(refine gJ ?_;intro j x hj hx)|refine gV ?_|refine gC (kZ _) ?_|refine gC (xA _) ?_|refine gC (bq _ _ _) ?_|intro _))<;>try (conv=>whnf)
 all_goals first
  |exact trivial
  |(exfalso;omega)
  |(refine⟨?_,rfl,trivial⟩;rw [je,kR k (by omega) (by (try (obtain rfl:j=k - 1:=by omega));simp_all [yc];try omega)];rfl)
  |(refine nx (k+1) ?_
    exact⟨by omega,jv hi (by (try (obtain rfl:j=k - 1:=by omega));simp_all [yc];try omega)⟩)
  |(refine⟨?_,rfl,trivial⟩;rw [je,eY.2 fun i hh=>hi i (by omega)];simp)
def tT (l:List Step) (i:Nat):Bool:=
 match l[i]? with
 |some s=>bM s.at'&&dY s.cap&&(!decide ((i:Int) > 0)||(match l[i - 1]? with|some q=> !decide (q.at'≥s.at')|none=>true))
 |none=>true
theorem Fb (l:List Step):je l=(Bd l.length (tT l)&&(within l.length 1 8&&match l[0]? with|some s=>decide (s.at'=0)|none=>false)):=by
 rw [Bool.eq_iff_iff]
 simp only [je,Bool.and_eq_true,eY]
 have key:∀i,i < l.length→(yc l i=true↔tT l i=true∧(i=0→(match l[0]? with|some s=>decide (s.at'=0)|none=>false)=true)):=by
  intro i hi
  simp only [yc,tT,List.getElem?_eq_getElem hi]
  by_cases h:i=0
  ·subst h;simp [List.getElem?_eq_getElem hi]
  ·simp [h]
   intro _ _
   cases l[i - 1]? <;>simp
 constructor
 ·rintro⟨h1,h2⟩
  refine⟨fun i hi=>((key i hi).1 (h1 i hi)).1,h2,?_⟩
  have h0:=(within_iff.1 h2).1
  exact ((key 0 (by omega)).1 (h1 0 (by omega))).2 rfl
 ·rintro⟨h1,h2,h3⟩
  exact⟨fun i hi=>(key i hi).2 ⟨h1 i hi,fun _=>h3⟩,h2⟩
theorem zS (l:List Step):Con 138 [.d (.sl (l.map Step.av))] (.d (.bool (je l))):=by
 refine con Tryz.func138 rfl rfl Tryz.call138 rfl fun hwf=>?_
 simp only [ARs.wf,AR.wf,AV.wf,List.length_map,lim] at hwf
 rw [Fb]
 (conv=>whnf)
 refine aG [0,5,6] [] [] ?_
 (conv=>whnf)
 refine aC.go ((Nat)) (fun k=>(k≤l.length)∧(∀i,i < k→tT l i=true)) (fun k=>[(7,.data (i64 k))]) (fun _=>[]) (fun _=>[]) (fun k=>l.length - k) (0) ?_ ?_
 ·exact⟨by omega,by omega⟩
 rintro k ⟨hk,hi⟩
 (repeat' ((conv=>whnf);first|refine gA ?_|(refine gN ?_ ?_<;>intro h hw)|(refine gB ?_ ?_<;>intro h)|(refine gI ?_;intro x hx)|(refine gJ ?_;intro j x hj hx)|refine gV ?_|refine gC (dI _ _ _) ?_|intro _))<;>try (conv=>whnf)
 all_goals first
  |exact trivial
  |(exfalso;omega)
  |(refine⟨?_,rfl,trivial⟩;rw [kR k (by omega) (by (try (obtain rfl:j=k - 1:=by omega));simp_all [tT,bM,dY];try omega)];rfl)
  |(refine nx (k+1) ?_
    exact⟨by omega,jv hi (by (try (obtain rfl:j=k - 1:=by omega));simp_all [tT,bM,dY];try omega)⟩)
  |(refine⟨?_,rfl,trivial⟩;rw [eY.2 fun i hh=>hi i (by omega)];(try (obtain rfl:j=0:=by omega));(try rw [List.length_map] at h);first|(rw [h,hx];simp;done)|(rw [h];simp))
theorem ow (l:List Step) (t:Int):Con 117 [.d (.sl (l.map Step.av)),.d (i64 t)] (.d (i64 (aT t l 0))):=by
 refine con Tryz.func117 rfl rfl Tryz.call117 rfl fun hwf=>?_
 simp only [ARs.wf,AR.wf,AV.wf,List.length_map,lim] at hwf
 (conv=>whnf)
 refine aG [1,8,9] [] [] ?_
 (conv=>whnf)
 refine aC.go ((Nat)×(Int)) (fun⟨k,n⟩=>(k≤l.length)∧(aT t (l.drop k) n=aT t l 0)) (fun⟨k,n⟩=>[(10,.data (i64 k)),(5,.data (i64 n))]) (fun _=>[]) (fun _=>[]) (fun⟨k,n⟩=>l.length - k) ⟨0,0⟩ ?_ ?_
 ·exact⟨by omega,rfl⟩
 rintro⟨k,n⟩ ⟨hk,hi⟩
 (repeat' ((conv=>whnf);first|refine gA ?_|(refine gB ?_ ?_<;>intro h)|(refine gI ?_;intro x hx)|(refine gJ ?_;intro j x hj hx)|refine gV ?_|intro _))<;>try (conv=>whnf)
 all_goals first
  |exact trivial
  |(refine⟨?_,rfl,trivial⟩;rw [aQ (l:=l) (by assumption)] at hi;first|(simp_all [aT];done)|(simp only [aT, ← hi];clear hi;simp_all [aT];done))
  |(refine⟨?_,rfl,trivial⟩;rw [ay (l:=l) (by assumption)] at hi;first|(simp_all [aT];done)|(simp only [aT, ← hi];clear hi;simp_all [aT];done))
  |(apply Exists.intro (⟨k+1,_⟩)
    refine⟨?_,rfl,?_,?_⟩
    rotate_left
    ·(repeat' ((conv=>whnf)<;>(first|exact trivial|exact rfl|with_reducible refine And.intro ?_ ?_)))
    ·(try dsimp only);(try simp only [List.length_map]);omega
    rw [ay (l:=l) (by assumption)] at hi;refine⟨by omega,?_⟩;simp_all [aT];done)
theorem yw (l:List Step) (t:Int):Con 94 [.d (.sl (l.map Step.av)),.d (i64 t)] (.d (i64 (aT t l 0))):=by
 refine con Tryz.func94 rfl rfl Tryz.call94 rfl fun hwf=>?_
 simp only [ARs.wf,AR.wf,AV.wf,List.length_map,lim] at hwf
 (conv=>whnf)
 refine aG [1,8,9] [] [] ?_
 (conv=>whnf)
 refine aC.go ((Nat)×(Int)) (fun⟨k,n⟩=>(k≤l.length)∧(aT t (l.drop k) n=aT t l 0)) (fun⟨k,n⟩=>[(10,.data (i64 k)),(5,.data (i64 n))]) (fun _=>[]) (fun _=>[]) (fun⟨k,n⟩=>l.length - k) ⟨0,0⟩ ?_ ?_
 ·exact⟨by omega,rfl⟩
 rintro⟨k,n⟩ ⟨hk,hi⟩
 (repeat' ((conv=>whnf);first|refine gA ?_|(refine gB ?_ ?_<;>intro h)|(refine gI ?_;intro x hx)|(refine gJ ?_;intro j x hj hx)|refine gV ?_|intro _))<;>try (conv=>whnf)
 all_goals first
  |exact trivial
  |(refine⟨?_,rfl,trivial⟩;rw [aQ (l:=l) (by assumption)] at hi;first|(simp_all [aT];done)|(simp only [aT, ← hi];clear hi;simp_all [aT];done))
  |(refine⟨?_,rfl,trivial⟩;rw [ay (l:=l) (by assumption)] at hi;first|(simp_all [aT];done)|(simp only [aT, ← hi];clear hi;simp_all [aT];done))
  |(apply Exists.intro (⟨k+1,_⟩)
    refine⟨?_,rfl,?_,?_⟩
    rotate_left
    ·(repeat' ((conv=>whnf)<;>(first|exact trivial|exact rfl|with_reducible refine And.intro ?_ ?_)))
    ·(try dsimp only);(try simp only [List.length_map]);omega
    rw [ay (l:=l) (by assumption)] at hi;refine⟨by omega,?_⟩;simp_all [aT];done)
theorem Dk (l:List Int) (n:Int):Con 179 [.d (ints l),.d (i64 n)] (.d (.bool (bX l n))):=by
 refine con Tryz.func179 rfl rfl Tryz.call179 rfl fun hwf=>?_
 simp only [ARs.wf,AR.wf,AV.wf,List.length_map,lim] at hwf
 (conv=>whnf)
 refine aG [0,1,7,8] [] [] ?_
 (conv=>whnf)
 refine aC.go ((Nat)) (fun k=>(k≤l.length)∧((l.drop k).all dY=l.all dY)) (fun k=>[(9,.data (i64 k))]) (fun _=>[]) (fun _=>[]) (fun k=>l.length - k) (0) ?_ ?_
 ·exact⟨by omega,rfl⟩
 rintro k ⟨hk,hi⟩
 (repeat' ((conv=>whnf);first|refine gA ?_|(refine gN ?_ ?_<;>intro h hw)|(refine gB ?_ ?_<;>intro h)|(refine gI ?_;intro x hx)|(refine gJ ?_;intro j x hj hx)|refine gV ?_|refine gC (xA _) ?_|intro _))<;>try (conv=>whnf)
 all_goals first
  |exact trivial
  |(refine⟨?_,rfl,trivial⟩;rw [aQ (l:=l) (by assumption)] at hi;first|(simp_all [bX];done)|(simp only [bX, ← hi];clear hi;simp_all [bX];done))
  |(refine⟨?_,rfl,trivial⟩;rw [ay (l:=l) (by assumption)] at hi;first|(simp_all [bX];done)|(simp only [bX, ← hi];clear hi;simp_all [bX];done))
  |(refine nx (k+1) ?_
    rw [ay (l:=l) (by assumption)] at hi;refine⟨by omega,?_⟩;simp_all [bX];done)
theorem Ko (l:List Int) (n:Int):Con 176 [.d (ints l),.d (i64 n)] (.d (.bool (bX l n))):=by
 refine con Tryz.func176 rfl rfl Tryz.call176 rfl fun hwf=>?_
 simp only [ARs.wf,AR.wf,AV.wf,List.length_map,lim] at hwf
 (conv=>whnf)
 refine aG [0,1,7,8] [] [] ?_
 (conv=>whnf)
 refine aC.go ((Nat)) (fun k=>(k≤l.length)∧((l.drop k).all dY=l.all dY)) (fun k=>[(9,.data (i64 k))]) (fun _=>[]) (fun _=>[]) (fun k=>l.length - k) (0) ?_ ?_
 ·exact⟨by omega,rfl⟩
 rintro k ⟨hk,hi⟩
 (repeat' ((conv=>whnf);first|refine gA ?_|(refine gN ?_ ?_<;>intro h hw)|(refine gB ?_ ?_<;>intro h)|(refine gI ?_;intro x hx)|(refine gJ ?_;intro j x hj hx)|refine gV ?_|refine gC (dI _ _ _) ?_|intro _))<;>try (conv=>whnf)
 all_goals first
  |exact trivial
  |(refine⟨?_,rfl,trivial⟩;rw [aQ (l:=l) (by assumption)] at hi;first|(simp_all [bX,dY];done)|(simp only [bX,dY, ← hi];clear hi;simp_all [bX,dY];done))
  |(refine⟨?_,rfl,trivial⟩;rw [ay (l:=l) (by assumption)] at hi;first|(simp_all [bX,dY];done)|(simp only [bX,dY, ← hi];clear hi;simp_all [bX,dY];done))
  |(refine nx (k+1) ?_
    rw [ay (l:=l) (by assumption)] at hi;refine⟨by omega,?_⟩;simp_all [bX,dY];done)
theorem MQ (m:Mode) (r s:Int):Con 151 [.d m.av,.d (i64 r),.d (i64 s)] (.d (.bool (qj m r s))):=by
 refine con Tryz.func151 rfl rfl Tryz.call151 rfl fun hwf=>?_
 (repeat' ((conv=>whnf);first|refine gA ?_|(refine gN ?_ ?_<;>intro h hw)|(refine gB ?_ ?_<;>intro h)|refine gC (bq _ _ _) ?_|refine gC (Dk _ _) ?_|intro _))<;>try (conv=>whnf)
 all_goals refine⟨?_,rfl,trivial⟩
 all_goals simp_all [qj]
theorem MR (m:Mode) (r s:Int):Con 136 [.d m.av,.d (i64 r),.d (i64 s)] (.d (.bool (qj m r s))):=by
 refine con Tryz.func136 rfl rfl Tryz.call136 rfl fun hwf=>?_
 (repeat' ((conv=>whnf);first|refine gA ?_|(refine gN ?_ ?_<;>intro h hw)|(refine gB ?_ ?_<;>intro h)|refine gC (dI _ _ _) ?_|refine gC (Ko _ _) ?_|intro _))<;>try (conv=>whnf)
 all_goals refine⟨?_,rfl,trivial⟩
 all_goals simp_all [qj]
theorem Dl (a:au) (r s:Int) (hs:a.name.size≤lim):Con 118 [.d a.av,.d (i64 r),.d (i64 s)] (.d (.bool (dH a r s))):=by
 refine con Tryz.func118 rfl rfl Tryz.call118 rfl fun hwf=>?_
 simp only [ARs.wf,AR.wf,AV.wf,AV.wfs,lm,lim] at hwf
 (conv=>whnf)
 refine aG [1,2,3,10,11] [3] [] ?_
 (conv=>whnf)
 refine aC.go ((Nat)) (fun k=>(k≤a.modes.length)∧((a.modes.drop k).all (fun m=>qj m r s)=a.modes.all (fun m=>qj m r s))) (fun k=>[(12,.data (i64 k))]) (fun _=>[]) (fun _=>[]) (fun k=>a.modes.length - k) (0) ?_ ?_
 ·exact⟨by omega,rfl⟩
 rintro k ⟨hk,hi⟩
 (repeat' ((conv=>whnf);first|refine gA ?_|(refine gN ?_ ?_<;>intro h hw)|(refine gB ?_ ?_<;>intro h)|(refine gI ?_;intro x hx)|(refine gJ ?_;intro j x hj hx)|refine gV ?_|refine gC (MQ x r s) ?_|refine gC (MO a.name hs) ?_|refine gC (bq _ _ _) ?_|intro _))<;>try (conv=>whnf)
 all_goals first
  |exact trivial
  |(refine⟨?_,rfl,trivial⟩;rw [aQ (l:=a.modes) (by assumption)] at hi;first|(simp_all [dH];done)|(simp only [dH, ← hi];clear hi;simp_all [dH];done))
  |(refine⟨?_,rfl,trivial⟩;rw [ay (l:=a.modes) (by assumption)] at hi;first|(simp_all [dH];done)|(simp only [dH, ← hi];clear hi;simp_all [dH];done))
  |(refine nx (k+1) ?_
    rw [ay (l:=a.modes) (by assumption)] at hi;refine⟨by omega,?_⟩;simp_all [dH];done)
theorem Dm (a:au) (r s:Int) (hs:a.name.size≤lim):Con 96 [.d a.av,.d (i64 r),.d (i64 s)] (.d (.bool (dH a r s))):=by
 refine con Tryz.func96 rfl rfl Tryz.call96 rfl fun hwf=>?_
 simp only [ARs.wf,AR.wf,AV.wf,AV.wfs,lm,lim] at hwf
 (conv=>whnf)
 refine aG [1,2,3,10,11] [3] [] ?_
 (conv=>whnf)
 refine aC.go ((Nat)) (fun k=>(k≤a.modes.length)∧((a.modes.drop k).all (fun m=>qj m r s)=a.modes.all (fun m=>qj m r s))) (fun k=>[(12,.data (i64 k))]) (fun _=>[]) (fun _=>[]) (fun k=>a.modes.length - k) (0) ?_ ?_
 ·exact⟨by omega,rfl⟩
 rintro k ⟨hk,hi⟩
 (repeat' ((conv=>whnf);first|refine gA ?_|(refine gN ?_ ?_<;>intro h hw)|(refine gB ?_ ?_<;>intro h)|(refine gI ?_;intro x hx)|(refine gJ ?_;intro j x hj hx)|refine gV ?_|refine gC (MR x r s) ?_|refine gC (MP a.name hs) ?_|refine gC (dI _ _ _) ?_|intro _))<;>try (conv=>whnf)
 all_goals first
  |exact trivial
  |(refine⟨?_,rfl,trivial⟩;rw [aQ (l:=a.modes) (by assumption)] at hi;first|(simp_all [dH];done)|(simp only [dH, ← hi];clear hi;simp_all [dH];done))
  |(refine⟨?_,rfl,trivial⟩;rw [ay (l:=a.modes) (by assumption)] at hi;first|(simp_all [dH];done)|(simp only [dH, ← hi];clear hi;simp_all [dH];done))
  |(refine nx (k+1) ?_
    rw [ay (l:=a.modes) (by assumption)] at hi;refine⟨by omega,?_⟩;simp_all [dH];done)
end Go.Proofs.YtpfgedlimdeffaaGreat.Abs
