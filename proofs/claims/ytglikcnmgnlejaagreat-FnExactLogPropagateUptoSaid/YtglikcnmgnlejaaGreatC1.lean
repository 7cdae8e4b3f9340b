/- Contracts: numbers, names, sets, steps. -/
import Derived.Test.YtglikcnmgnlejaaGreatTab
import Derived.Test.YtglikcnmgnlejaaGreatPlain
import Derived.KernelRfl
set_option linter.all false
set_option maxRecDepth 20000
namespace Go.Proofs.YtglikcnmgnlejaaGreat.Abs
open Go.Proofs
theorem mixed:Tryz.prog.follows .mixedOrders=true:=by kernel_rfl
abbrev Con (f:Nat) (args:List AR) (r:RV):Prop:=Contract Tryz.prog tab lim f args r
theorem con {f:FuncId} {fn:Func} {code:Code} {args:List AR} {r:RV} (hf:Tryz.prog.funcs[f]? =some fn) (hb:fn.body=some code) (hp:dW code=true)
  (hcall:∀(vs:Array Value) (w:World),(callFunc f vs).run Tryz.prog w= .ok (.enter f vs) w) (hlen:(Nat.ble args.length fn.ntmps&&Yf args r)=true)
  (h:ARs.wf lim args→oV tab (fB Tryz.prog tab lim) lim code (qb tab fn.results.toList r) (entry fn.ntmps args)):Con f args r:=
 Jb rW (by decide) (by decide) mixed hf hb hp hcall hlen h
theorem afL {f:FuncId} {fn:Func} {code:Code} {args:List AR} {r:RV} (hf:Tryz.prog.funcs[f]? =some fn) (hb:fn.body=some code) (hp:dW code=true)
  (hcall:∀(vs:Array Value) (w:World),(callFunc f vs).run Tryz.prog w= .ok (.enter f vs) w) (hlen:(Nat.ble args.length fn.ntmps&&Yf args r)=true)
  (h:ARs.wf lim args→oV tab (fB Tryz.prog tab lim) lim code (qb tab fn.results.toList r) (YZ fn.ntmps args)):Con f args r:=
 Gh rW (by decide) (by decide) mixed hf hb hp hcall hlen h
theorem bC (n lo hi:Int):Con 87 [.d (i64 n),.d (i64 lo),.d (i64 hi)] (.d (.bool (within n lo hi))):=by
 refine con Tryz.func87 rfl rfl Tryz.call87 rfl fun hwf=>?_
 (repeat' ((conv=>whnf);first|refine gA ?_|(refine gB ?_ ?_<;>intro h)|intro _))<;>try (conv=>whnf)
 all_goals refine⟨?_,rfl,trivial⟩
 all_goals (simp_all [within];try omega)
theorem cB (n lo hi:Int):Con 80 [.d (i64 n),.d (i64 lo),.d (i64 hi)] (.d (.bool (within n lo hi))):=by
 refine con Tryz.func80 rfl rfl Tryz.call80 rfl fun hwf=>?_
 (repeat' ((conv=>whnf);first|refine gA ?_|(refine gB ?_ ?_<;>intro h)|intro _))<;>try (conv=>whnf)
 all_goals refine⟨?_,rfl,trivial⟩
 all_goals (simp_all [within];try omega)
theorem lV (n:Int):Con 221 [.d (i64 n)] (.d (.bool (dw n))):=by
 refine con Tryz.func221 rfl rfl Tryz.call221 rfl fun hwf=>?_
 (repeat' ((conv=>whnf);first|refine gA ?_|(refine gN ?_ ?_<;>intro h hw)|(refine gB ?_ ?_<;>intro h)|refine gC (bC _ _ _) ?_|intro _))<;>try (conv=>whnf)
 exact⟨rfl,rfl,trivial⟩
theorem BQ (n:Int):Con 380 [.d (i64 n)] (.d (.bool (fP n))):=by
 refine con Tryz.func380 rfl rfl Tryz.call380 rfl fun hwf=>?_
 (repeat' ((conv=>whnf);first|refine gA ?_|(refine gN ?_ ?_<;>intro h hw)|(refine gB ?_ ?_<;>intro h)|refine gC (bC _ _ _) ?_|intro _))<;>try (conv=>whnf)
 exact⟨rfl,rfl,trivial⟩
theorem Tq (s:ByteArray) (hs:s.size≤lim):Con 314 [.d (.str s)] (.d (.bool (CU s))):=by
 refine con Tryz.func314 rfl rfl Tryz.call314 rfl fun hwf=>?_
 unfold lim at hs
 (conv=>whnf)
 refine au [0,6] [] [] ?_
 (conv=>whnf)
 refine ak.go ((Nat)) (fun k=>(k≤s.size)∧(∀i,i < k→nameAt s i=true)) (fun k=>[(7,.data (i64 k))]) (fun _=>[]) (fun _=>[]) (fun k=>s.size - k) (0) ?_ ?_
 ·exact⟨by omega,by omega⟩
 rintro k ⟨hk,hi⟩
 (repeat' ((conv=>whnf);first|refine gA ?_|(refine gN ?_ ?_<;>intro h hw)|(refine gB ?_ ?_<;>intro h)|(refine gI ?_;intro x hx)|(refine gJ ?_;intro j x hj hx)|refine gV ?_|refine gC (bC _ _ _) ?_|intro _))<;>try (conv=>whnf)
 all_goals first
  |exact trivial
  |(refine⟨?_,rfl,trivial⟩;rw [CU,iw k (by omega) (by simp_all [nameAt,KG];try omega)];rfl)
  |(refine nx (k+1) ?_
    exact⟨by omega,gU hi (by simp_all [nameAt,KG];try omega)⟩)
  |(refine⟨?_,rfl,trivial⟩;rw [CU,dN.2 fun i hh=>hi i (by omega)];rfl)
theorem Tt (s:ByteArray) (hs:s.size≤lim):Con 302 [.d (.str s)] (.d (.bool (CU s))):=by
 refine con Tryz.func302 rfl rfl Tryz.call302 rfl fun hwf=>?_
 unfold lim at hs
 (conv=>whnf)
 refine au [0] [] [] ?_
 (conv=>whnf)
 refine ak.go ((Nat)) (fun k=>(k≤s.size)∧(∀i,i < k→nameAt s i=true)) (fun k=>[(3,.data (i64 k))]) (fun _=>[]) (fun _=>[]) (fun k=>s.size - k) (0) ?_ ?_
 ·exact⟨by omega,by omega⟩
 rintro k ⟨hk,hi⟩
 (repeat' ((conv=>whnf);first|refine gA ?_|(refine gN ?_ ?_<;>intro h hw)|(refine gB ?_ ?_<;>intro h)|(refine gI ?_;intro x hx)|(refine gJ ?_;intro j x hj hx)|refine gV ?_|refine gC (cB _ _ _) ?_|intro _))<;>try (conv=>whnf)
 all_goals first
  |exact trivial
  |(refine⟨?_,rfl,trivial⟩;rw [CU,iw k (by omega) (by simp_all [nameAt,KG];try omega)];rfl)
  |(refine nx (k+1) ?_
    exact⟨by omega,gU hi (by simp_all [nameAt,KG];try omega)⟩)
  |(refine⟨?_,rfl,trivial⟩;rw [CU,dN.2 fun i hh=>hi i (by omega)];rfl)
theorem Vy (l:List Int):Con 278 [.d (ints l)] (.d (.bool (kr l))):=by
 refine con Tryz.func278 rfl rfl Tryz.call278 rfl fun hwf=>?_
 simp only [ARs.wf,AR.wf,AV.wf,List.length_map,lim] at hwf
 (conv=>whnf)
 refine au [0] [] [] ?_
 (conv=>whnf)
 refine ak.go ((Nat)) (fun k=>(1≤k)∧(k≤l.length+1)∧(∀i,i < k→i < l.length→setAt l i=true)) (fun k=>[(3,.data (i64 k))]) (fun _=>[]) (fun _=>[]) (fun k=>l.length+1 - k) (1) ?_ ?_
 ·exact⟨by omega,by omega,fun i h1 h2=>by obtain rfl:i=0:=by omega
                                          rfl⟩
 rintro k ⟨h1,hk,hi⟩
 (repeat' ((conv=>whnf);first|refine gA ?_|(refine gB ?_ ?_<;>intro h)|(refine gI ?_;intro x hx)|(refine gJ ?_;intro j x hj hx)|refine gV ?_|intro _))<;>try (conv=>whnf)
 ·obtain rfl:j=k - 1:=by omega
  refine⟨?_,rfl,trivial⟩
  rw [kr,iw k (by omega) (by simp_all [setAt,List.getD_eq_getElem?_getD];omega)]
 ·obtain rfl:j=k - 1:=by omega
  refine nx (k+1) ?_
  refine⟨by omega,by omega,fun i h1 h2=>?_⟩
  by_cases e:i=k
  ·subst e;simp_all [setAt,List.getD_eq_getElem?_getD]
  ·exact hi i (by omega) h2
 ·refine⟨?_,rfl,trivial⟩
  rw [kr,dN.2 fun i hh=>hi i (by omega) hh]
theorem Vz (l:List Int):Con 258 [.d (ints l)] (.d (.bool (kr l))):=by
 refine con Tryz.func258 rfl rfl Tryz.call258 rfl fun hwf=>?_
 simp only [ARs.wf,AR.wf,AV.wf,List.length_map,lim] at hwf
 (conv=>whnf)
 refine au [0,5] [] [] ?_
 (conv=>whnf)
 refine ak.go ((Nat)) (fun k=>(k≤l.length)∧(∀i,i < k→setAt l i=true)) (fun k=>[(6,.data (i64 k))]) (fun _=>[]) (fun _=>[]) (fun k=>l.length - k) (0) ?_ ?_
 ·exact⟨by omega,by omega⟩
 rintro k ⟨hk,hi⟩
 (repeat' ((conv=>whnf);first|refine gA ?_|(refine gB ?_ ?_<;>intro h)|(refine gI ?_;intro x hx)|(refine gJ ?_;intro j x hj hx)|refine gV ?_|intro _))<;>try (conv=>whnf)
 ·obtain rfl:j=k - 1:=by omega
  refine⟨?_,rfl,trivial⟩
  rw [kr,iw k (by omega) (by simp_all [setAt,List.getD_eq_getElem?_getD];omega)]
 ·obtain rfl:j=k - 1:=by omega
  refine nx (k+1) ?_
  exact⟨by omega,gU hi (by simp_all [setAt,List.getD_eq_getElem?_getD])⟩
 ·refine nx (k+1) ?_
  exact⟨by omega,gU hi (by simp_all [setAt,List.getD_eq_getElem?_getD])⟩
 ·refine⟨?_,rfl,trivial⟩
  rw [kr,dN.2 fun i hh=>hi i (by omega)]
theorem slices_Index (l:List Int) (n:Int):Con 234 [.d (ints l),.d (i64 n)] (.d (i64 (bf (fun x=>decide (n=x)) l 0))):=by
 refine con Tryz.func234 rfl rfl Tryz.call234 rfl fun hwf=>?_
 simp only [ARs.wf,AR.wf,AV.wf,List.length_map,lim] at hwf
 (conv=>whnf)
 refine au [0,1,7] [] [] ?_
 (conv=>whnf)
 refine ak.go ((Nat)) (fun k=>(k≤l.length)∧(bf (fun x=>decide (n=x)) (l.drop k) k=bf (fun x=>decide (n=x)) l 0)) (fun k=>[(8,.data (i64 k))]) (fun _=>[]) (fun _=>[]) (fun k=>l.length - k) (0) ?_ ?_
 ·exact⟨by omega,rfl⟩
 rintro k ⟨hk,hi⟩
 (repeat' ((conv=>whnf);first|refine gA ?_|(refine gB ?_ ?_<;>intro h)|(refine gI ?_;intro x hx)|(refine gJ ?_;intro j x hj hx)|refine gV ?_|intro _))<;>try (conv=>whnf)
 all_goals first
  |exact trivial
  |(refine⟨?_,rfl,trivial⟩;rw [aG (l:=l) (by assumption)] at hi;first|(simp_all [bf];done)|(simp only [bf, ← hi];clear hi;simp_all [bf];done))
  |(refine⟨?_,rfl,trivial⟩;rw [ay (l:=l) (by assumption)] at hi;first|(simp_all [bf];done)|(simp only [bf, ← hi];clear hi;simp_all [bf];done))
  |(refine nx (k+1) ?_
    rw [ay (l:=l) (by assumption)] at hi;refine⟨by omega,?_⟩;simp_all [bf];done)
theorem any_eq {l:List Int} {n:Int}:l.any (fun x=>decide (n=x))=l.contains n:=by
 induction l with
 |nil=>rfl
 |cons x l ih=>simp only [List.any_cons,List.contains_cons,ih];rfl
theorem slices_Contains (l:List Int) (n:Int):Con 123 [.d (ints l),.d (i64 n)] (.d (.bool (l.contains n))):=by
 refine con Tryz.func123 rfl rfl Tryz.call123 rfl fun hwf=>?_
 (repeat' ((conv=>whnf);first|refine gA ?_|(refine gB ?_ ?_<;>intro h)|refine gC (slices_Index _ _) ?_|intro _))<;>try (conv=>whnf)
 refine⟨?_,rfl,trivial⟩
 rw [← any_eq, ← zF l 0]
theorem uP (l:List Int) (n:Int):Con 50 [.d (ints l),.d (i64 n)] (.d (.bool (l.contains n))):=by
 refine con Tryz.func50 rfl rfl Tryz.call50 rfl fun hwf=>?_
 (repeat' ((conv=>whnf);first|refine gA ?_|(refine gB ?_ ?_<;>intro h)|refine gC (slices_Contains _ _) ?_|intro _))<;>try (conv=>whnf)
 exact⟨rfl,rfl,trivial⟩
theorem fC (l:List Int) (n:Int):Con 38 [.d (ints l),.d (i64 n)] (.d (.bool (l.contains n))):=by
 refine con Tryz.func38 rfl rfl Tryz.call38 rfl fun hwf=>?_
 simp only [ARs.wf,AR.wf,AV.wf,List.length_map,lim] at hwf
 (conv=>whnf)
 refine au [1,7,8] [] [] ?_
 (conv=>whnf)
 refine ak.go ((Nat)) (fun k=>(k≤l.length)∧((l.drop k).contains n=l.contains n)) (fun k=>[(9,.data (i64 k))]) (fun _=>[]) (fun _=>[]) (fun k=>l.length - k) (0) ?_ ?_
 ·exact⟨by omega,rfl⟩
 rintro k ⟨hk,hi⟩
 (repeat' ((conv=>whnf);first|refine gA ?_|(refine gB ?_ ?_<;>intro h)|(refine gI ?_;intro x hx)|(refine gJ ?_;intro j x hj hx)|refine gV ?_|intro _))<;>try (conv=>whnf)
 all_goals first
  |exact trivial
  |(refine⟨?_,rfl,trivial⟩;rw [aG (l:=l) (by assumption)] at hi;first|(simp_all [List.contains_cons,eq_comm];done)|(simp only [List.contains_cons,eq_comm, ← hi];clear hi;simp_all [List.contains_cons,eq_comm];done))
  |(refine⟨?_,rfl,trivial⟩;rw [ay (l:=l) (by assumption)] at hi;first|(simp_all [List.contains_cons,eq_comm];done)|(simp only [List.contains_cons,eq_comm, ← hi];clear hi;simp_all [List.contains_cons,eq_comm];done))
  |(refine nx (k+1) ?_
    rw [ay (l:=l) (by assumption)] at hi;refine⟨by omega,?_⟩;simp_all [List.contains_cons,eq_comm];done)
theorem zJ (a b:List Int):Con 279 [.d (ints a),.d (ints b)] (.d (.bool (subset a b))):=by
 refine con Tryz.func279 rfl rfl Tryz.call279 rfl fun hwf=>?_
 simp only [ARs.wf,AR.wf,AV.wf,List.length_map,lim] at hwf
 (conv=>whnf)
 refine au [1,7,8] [] [] ?_
 (conv=>whnf)
 refine ak.go ((Nat)) (fun k=>(k≤a.length)∧(subset (a.drop k) b=subset a b)) (fun k=>[(9,.data (i64 k))]) (fun _=>[]) (fun _=>[]) (fun k=>a.length - k) (0) ?_ ?_
 ·exact⟨by omega,rfl⟩
 rintro k ⟨hk,hi⟩
 (repeat' ((conv=>whnf);first|refine gA ?_|(refine gB ?_ ?_<;>intro h)|(refine gI ?_;intro x hx)|(refine gJ ?_;intro j x hj hx)|refine gV ?_|refine gC (uP _ _) ?_|intro _))<;>try (conv=>whnf)
 all_goals first
  |exact trivial
  |(refine⟨?_,rfl,trivial⟩;rw [aG (l:=a) (by assumption)] at hi;first|(simp_all [subset];done)|(simp only [subset, ← hi];clear hi;simp_all [subset];done))
  |(refine⟨?_,rfl,trivial⟩;rw [ay (l:=a) (by assumption)] at hi;first|(simp_all [subset];done)|(simp only [subset, ← hi];clear hi;simp_all [subset];done))
  |(refine nx (k+1) ?_
    rw [ay (l:=a) (by assumption)] at hi;refine⟨by omega,?_⟩;simp_all [subset];done)
theorem zK (a b:List Int):Con 259 [.d (ints a),.d (ints b)] (.d (.bool (subset a b))):=by
 refine con Tryz.func259 rfl rfl Tryz.call259 rfl fun hwf=>?_
 simp only [ARs.wf,AR.wf,AV.wf,List.length_map,lim] at hwf
 (conv=>whnf)
 refine au [1,7,8] [] [] ?_
 (conv=>whnf)
 refine ak.go ((Nat)) (fun k=>(k≤a.length)∧(subset (a.drop k) b=subset a b)) (fun k=>[(9,.data (i64 k))]) (fun _=>[]) (fun _=>[]) (fun k=>a.length - k) (0) ?_ ?_
 ·exact⟨by omega,rfl⟩
 rintro k ⟨hk,hi⟩
 (repeat' ((conv=>whnf);first|refine gA ?_|(refine gB ?_ ?_<;>intro h)|(refine gI ?_;intro x hx)|(refine gJ ?_;intro j x hj hx)|refine gV ?_|refine gC (fC _ _) ?_|intro _))<;>try (conv=>whnf)
 all_goals first
  |exact trivial
  |(refine⟨?_,rfl,trivial⟩;rw [aG (l:=a) (by assumption)] at hi;first|(simp_all [subset];done)|(simp only [subset, ← hi];clear hi;simp_all [subset];done))
  |(refine⟨?_,rfl,trivial⟩;rw [ay (l:=a) (by assumption)] at hi;first|(simp_all [subset];done)|(simp only [subset, ← hi];clear hi;simp_all [subset];done))
  |(refine nx (k+1) ?_
    rw [ay (l:=a) (by assumption)] at hi;refine⟨by omega,?_⟩;simp_all [subset];done)
theorem xK (l:List Step):Con 317 [.d (.sl (l.map Step.av))] (.d (.bool (jH l))):=by
 refine con Tryz.func317 rfl rfl Tryz.call317 rfl fun hwf=>?_
 simp only [ARs.wf,AR.wf,AV.wf,List.length_map,lim] at hwf
 (conv=>whnf)
 refine au [0,5,6] [] [] ?_
 (conv=>whnf)
 refine ak.go ((Nat)) (fun k=>(k≤l.length)∧(∀i,i < k→CV l i=true)) (fun k=>[(7,.data (i64 k))]) (fun _=>[]) (fun _=>[]) (fun k=>l.length - k) (0) ?_ ?_
 ·exact⟨by omega,by omega⟩
 rintro k ⟨hk,hi⟩
 (repeat' ((conv=>whnf);first|refine gA ?_|(refine gN ?_ ?_<;>intro h hw)|(refine gB ?_ ?_<;>intro h)|(refine gI ?_;intro x hx)|(refine gJ ?_;intro j x hj hx)|refine gV ?_|refine gC (lV _) ?_|refine gC (BQ _) ?_|refine gC (bC _ _ _) ?_|intro _))<;>try (conv=>whnf)
 all_goals first
  |exact trivial
  |(exfalso;omega)
  |(refine⟨?_,rfl,trivial⟩;rw [jH,iw k (by omega) (by (try (obtain rfl:j=k - 1:=by omega));simp_all [CV];try omega)];rfl)
  |(refine nx (k+1) ?_
    exact⟨by omega,gU hi (by (try (obtain rfl:j=k - 1:=by omega));simp_all [CV];try omega)⟩)
  |(refine⟨?_,rfl,trivial⟩;rw [jH,dN.2 fun i hh=>hi i (by omega)];simp)
def AP (l:List Step) (i:Nat):Bool:=
 match l[i]? with
 |some s=>dw s.at'&&fP s.cap&&(!decide ((i:Int) > 0)||(match l[i - 1]? with|some q=> !decide (q.at'≥s.at')|none=>true))
 |none=>true
theorem VA (l:List Step):jH l=(Ep l.length (AP l)&&(within l.length 1 8&&match l[0]? with|some s=>decide (s.at'=0)|none=>false)):=by
 rw [Bool.eq_iff_iff]
 simp only [jH,Bool.and_eq_true,dN]
 have key:∀i,i < l.length→(CV l i=true↔AP l i=true∧(i=0→(match l[0]? with|some s=>decide (s.at'=0)|none=>false)=true)):=by
  intro i hi
  simp only [CV,AP,List.getElem?_eq_getElem hi]
  by_cases h:i=0
  ·subst h;simp [List.getElem?_eq_getElem hi]
  ·simp [h]
   intro _ _
   cases l[i - 1]? <;>simp
 constructor
 ·rintro⟨h1,h2⟩
  refine⟨fun i hi=>((key i hi).1 (h1 i hi)).1,h2,?_⟩
  have h0:=(within_iff.1 h2).1
  exact ((key 0 (by omega)).1 (h1 0 (by omega))).2 rfl
 ·rintro⟨h1,h2,h3⟩
  exact⟨fun i hi=>(key i hi).2 ⟨h1 i hi,fun _=>h3⟩,h2⟩
theorem Ew (l:List Step):Con 303 [.d (.sl (l.map Step.av))] (.d (.bool (jH l))):=by
 refine con Tryz.func303 rfl rfl Tryz.call303 rfl fun hwf=>?_
 simp only [ARs.wf,AR.wf,AV.wf,List.length_map,lim] at hwf
 rw [VA]
 (conv=>whnf)
 refine au [0,5,6] [] [] ?_
 (conv=>whnf)
 refine ak.go ((Nat)) (fun k=>(k≤l.length)∧(∀i,i < k→AP l i=true)) (fun k=>[(7,.data (i64 k))]) (fun _=>[]) (fun _=>[]) (fun k=>l.length - k) (0) ?_ ?_
 ·exact⟨by omega,by omega⟩
 rintro k ⟨hk,hi⟩
 (repeat' ((conv=>whnf);first|refine gA ?_|(refine gN ?_ ?_<;>intro h hw)|(refine gB ?_ ?_<;>intro h)|(refine gI ?_;intro x hx)|(refine gJ ?_;intro j x hj hx)|refine gV ?_|refine gC (cB _ _ _) ?_|intro _))<;>try (conv=>whnf)
 all_goals first
  |exact trivial
  |(exfalso;omega)
  |(refine⟨?_,rfl,trivial⟩;rw [iw k (by omega) (by (try (obtain rfl:j=k - 1:=by omega));simp_all [AP,dw,fP];try omega)];rfl)
  |(refine nx (k+1) ?_
    exact⟨by omega,gU hi (by (try (obtain rfl:j=k - 1:=by omega));simp_all [AP,dw,fP];try omega)⟩)
  |(refine⟨?_,rfl,trivial⟩;rw [dN.2 fun i hh=>hi i (by omega)];(try (obtain rfl:j=0:=by omega));(try rw [List.length_map] at h);first|(rw [h,hx];simp;done)|(rw [h];simp))
theorem yN (l:List Step) (t:Int):Con 225 [.d (.sl (l.map Step.av)),.d (i64 t)] (.d (i64 (ku t l 0))):=by
 refine con Tryz.func225 rfl rfl Tryz.call225 rfl fun hwf=>?_
 simp only [ARs.wf,AR.wf,AV.wf,List.length_map,lim] at hwf
 (conv=>whnf)
 refine au [1,8,9] [] [] ?_
 (conv=>whnf)
 refine ak.go ((Nat)×(Int)) (fun⟨k,n⟩=>(k≤l.length)∧(ku t (l.drop k) n=ku t l 0)) (fun⟨k,n⟩=>[(10,.data (i64 k)),(5,.data (i64 n))]) (fun _=>[]) (fun _=>[]) (fun⟨k,n⟩=>l.length - k) ⟨0,0⟩ ?_ ?_
 ·exact⟨by omega,rfl⟩
 rintro⟨k,n⟩ ⟨hk,hi⟩
 (repeat' ((conv=>whnf);first|refine gA ?_|(refine gB ?_ ?_<;>intro h)|(refine gI ?_;intro x hx)|(refine gJ ?_;intro j x hj hx)|refine gV ?_|intro _))<;>try (conv=>whnf)
 all_goals first
  |exact trivial
  |(refine⟨?_,rfl,trivial⟩;rw [aG (l:=l) (by assumption)] at hi;first|(simp_all [ku];done)|(simp only [ku, ← hi];clear hi;simp_all [ku];done))
  |(refine⟨?_,rfl,trivial⟩;rw [ay (l:=l) (by assumption)] at hi;first|(simp_all [ku];done)|(simp only [ku, ← hi];clear hi;simp_all [ku];done))
  |(apply Exists.intro (⟨k+1,_⟩)
    refine⟨?_,rfl,?_,?_⟩
    rotate_left
    ·(repeat' ((conv=>whnf)<;>(first|exact trivial|exact rfl|with_reducible refine And.intro ?_ ?_)))
    ·(try dsimp only);(try simp only [List.length_map]);omega
    rw [ay (l:=l) (by assumption)] at hi;refine⟨by omega,?_⟩;simp_all [ku];done)
theorem KJ (l:List Step) (t:Int):Con 206 [.d (.sl (l.map Step.av)),.d (i64 t)] (.d (i64 (ku t l 0))):=by
 refine con Tryz.func206 rfl rfl Tryz.call206 rfl fun hwf=>?_
 simp only [ARs.wf,AR.wf,AV.wf,List.length_map,lim] at hwf
 (conv=>whnf)
 refine au [1,8,9] [] [] ?_
 (conv=>whnf)
 refine ak.go ((Nat)×(Int)) (fun⟨k,n⟩=>(k≤l.length)∧(ku t (l.drop k) n=ku t l 0)) (fun⟨k,n⟩=>[(10,.data (i64 k)),(5,.data (i64 n))]) (fun _=>[]) (fun _=>[]) (fun⟨k,n⟩=>l.length - k) ⟨0,0⟩ ?_ ?_
 ·exact⟨by omega,rfl⟩
 rintro⟨k,n⟩ ⟨hk,hi⟩
 (repeat' ((conv=>whnf);first|refine gA ?_|(refine gB ?_ ?_<;>intro h)|(refine gI ?_;intro x hx)|(refine gJ ?_;intro j x hj hx)|refine gV ?_|intro _))<;>try (conv=>whnf)
 all_goals first
  |exact trivial
  |(refine⟨?_,rfl,trivial⟩;rw [aG (l:=l) (by assumption)] at hi;first|(simp_all [ku];done)|(simp only [ku, ← hi];clear hi;simp_all [ku];done))
  |(refine⟨?_,rfl,trivial⟩;rw [ay (l:=l) (by assumption)] at hi;first|(simp_all [ku];done)|(simp only [ku, ← hi];clear hi;simp_all [ku];done))
  |(apply Exists.intro (⟨k+1,_⟩)
    refine⟨?_,rfl,?_,?_⟩
    rotate_left
    ·(repeat' ((conv=>whnf)<;>(first|exact trivial|exact rfl|with_reducible refine And.intro ?_ ?_)))
    ·(try dsimp only);(try simp only [List.length_map]);omega
    rw [ay (l:=l) (by assumption)] at hi;refine⟨by omega,?_⟩;simp_all [ku];done)
theorem Jc (l:List Int) (n:Int):Con 379 [.d (ints l),.d (i64 n)] (.d (.bool (dX l n))):=by
 refine con Tryz.func379 rfl rfl Tryz.call379 rfl fun hwf=>?_
 simp only [ARs.wf,AR.wf,AV.wf,List.length_map,lim] at hwf
 (conv=>whnf)
 refine au [0,1,7,8] [] [] ?_
 (conv=>whnf)
 refine ak.go ((Nat)) (fun k=>(k≤l.length)∧((l.drop k).all fP=l.all fP)) (fun k=>[(9,.data (i64 k))]) (fun _=>[]) (fun _=>[]) (fun k=>l.length - k) (0) ?_ ?_
 ·exact⟨by omega,rfl⟩
 rintro k ⟨hk,hi⟩
 (repeat' ((conv=>whnf);first|refine gA ?_|(refine gN ?_ ?_<;>intro h hw)|(refine gB ?_ ?_<;>intro h)|(refine gI ?_;intro x hx)|(refine gJ ?_;intro j x hj hx)|refine gV ?_|refine gC (BQ _) ?_|intro _))<;>try (conv=>whnf)
 all_goals first
  |exact trivial
  |(refine⟨?_,rfl,trivial⟩;rw [aG (l:=l) (by assumption)] at hi;first|(simp_all [dX];done)|(simp only [dX, ← hi];clear hi;simp_all [dX];done))
  |(refine⟨?_,rfl,trivial⟩;rw [ay (l:=l) (by assumption)] at hi;first|(simp_all [dX];done)|(simp only [dX, ← hi];clear hi;simp_all [dX];done))
  |(refine nx (k+1) ?_
    rw [ay (l:=l) (by assumption)] at hi;refine⟨by omega,?_⟩;simp_all [dX];done)
theorem QF (l:List Int) (n:Int):Con 376 [.d (ints l),.d (i64 n)] (.d (.bool (dX l n))):=by
 refine con Tryz.func376 rfl rfl Tryz.call376 rfl fun hwf=>?_
 simp only [ARs.wf,AR.wf,AV.wf,List.length_map,lim] at hwf
 (conv=>whnf)
 refine au [0,1,7,8] [] [] ?_
 (conv=>whnf)
 refine ak.go ((Nat)) (fun k=>(k≤l.length)∧((l.drop k).all fP=l.all fP)) (fun k=>[(9,.data (i64 k))]) (fun _=>[]) (fun _=>[]) (fun k=>l.length - k) (0) ?_ ?_
 ·exact⟨by omega,rfl⟩
 rintro k ⟨hk,hi⟩
 (repeat' ((conv=>whnf);first|refine gA ?_|(refine gN ?_ ?_<;>intro h hw)|(refine gB ?_ ?_<;>intro h)|(refine gI ?_;intro x hx)|(refine gJ ?_;intro j x hj hx)|refine gV ?_|refine gC (cB _ _ _) ?_|intro _))<;>try (conv=>whnf)
 all_goals first
  |exact trivial
  |(refine⟨?_,rfl,trivial⟩;rw [aG (l:=l) (by assumption)] at hi;first|(simp_all [dX,fP];done)|(simp only [dX,fP, ← hi];clear hi;simp_all [dX,fP];done))
  |(refine⟨?_,rfl,trivial⟩;rw [ay (l:=l) (by assumption)] at hi;first|(simp_all [dX,fP];done)|(simp only [dX,fP, ← hi];clear hi;simp_all [dX,fP];done))
  |(refine nx (k+1) ?_
    rw [ay (l:=l) (by assumption)] at hi;refine⟨by omega,?_⟩;simp_all [dX,fP];done)
theorem Tv (m:Mode) (r s:Int):Con 313 [.d m.av,.d (i64 r),.d (i64 s)] (.d (.bool (vI m r s))):=by
 refine con Tryz.func313 rfl rfl Tryz.call313 rfl fun hwf=>?_
 (repeat' ((conv=>whnf);first|refine gA ?_|(refine gN ?_ ?_<;>intro h hw)|(refine gB ?_ ?_<;>intro h)|refine gC (bC _ _ _) ?_|refine gC (Jc _ _) ?_|intro _))<;>try (conv=>whnf)
 all_goals refine⟨?_,rfl,trivial⟩
 all_goals simp_all [vI]
theorem Tw (m:Mode) (r s:Int):Con 301 [.d m.av,.d (i64 r),.d (i64 s)] (.d (.bool (vI m r s))):=by
 refine con Tryz.func301 rfl rfl Tryz.call301 rfl fun hwf=>?_
 (repeat' ((conv=>whnf);first|refine gA ?_|(refine gN ?_ ?_<;>intro h hw)|(refine gB ?_ ?_<;>intro h)|refine gC (cB _ _ _) ?_|refine gC (QF _ _) ?_|intro _))<;>try (conv=>whnf)
 all_goals refine⟨?_,rfl,trivial⟩
 all_goals simp_all [vI]
theorem Jd (a:aC) (r s:Int) (hs:a.name.size≤lim):Con 226 [.d a.av,.d (i64 r),.d (i64 s)] (.d (.bool (dJ a r s))):=by
 refine con Tryz.func226 rfl rfl Tryz.call226 rfl fun hwf=>?_
 simp only [ARs.wf,AR.wf,AV.wf,AV.wfs,lm,lim] at hwf
 (conv=>whnf)
 refine au [1,2,3,10,11] [3] [] ?_
 (conv=>whnf)
 refine ak.go ((Nat)) (fun k=>(k≤a.modes.length)∧((a.modes.drop k).all (fun m=>vI m r s)=a.modes.all (fun m=>vI m r s))) (fun k=>[(12,.data (i64 k))]) (fun _=>[]) (fun _=>[]) (fun k=>a.modes.length - k) (0) ?_ ?_
 ·exact⟨by omega,rfl⟩
 rintro k ⟨hk,hi⟩
 (repeat' ((conv=>whnf);first|refine gA ?_|(refine gN ?_ ?_<;>intro h hw)|(refine gB ?_ ?_<;>intro h)|(refine gI ?_;intro x hx)|(refine gJ ?_;intro j x hj hx)|refine gV ?_|refine gC (Tv x r s) ?_|refine gC (Tq a.name hs) ?_|refine gC (bC _ _ _) ?_|intro _))<;>try (conv=>whnf)
 all_goals first
  |exact trivial
  |(refine⟨?_,rfl,trivial⟩;rw [aG (l:=a.modes) (by assumption)] at hi;first|(simp_all [dJ];done)|(simp only [dJ, ← hi];clear hi;simp_all [dJ];done))
  |(refine⟨?_,rfl,trivial⟩;rw [ay (l:=a.modes) (by assumption)] at hi;first|(simp_all [dJ];done)|(simp only [dJ, ← hi];clear hi;simp_all [dJ];done))
  |(refine nx (k+1) ?_
    rw [ay (l:=a.modes) (by assumption)] at hi;refine⟨by omega,?_⟩;simp_all [dJ];done)
theorem Je (a:aC) (r s:Int) (hs:a.name.size≤lim):Con 208 [.d a.av,.d (i64 r),.d (i64 s)] (.d (.bool (dJ a r s))):=by
 refine con Tryz.func208 rfl rfl Tryz.call208 rfl fun hwf=>?_
 simp only [ARs.wf,AR.wf,AV.wf,AV.wfs,lm,lim] at hwf
 (conv=>whnf)
 refine au [1,2,3,10,11] [3] [] ?_
 (conv=>whnf)
 refine ak.go ((Nat)) (fun k=>(k≤a.modes.length)∧((a.modes.drop k).all (fun m=>vI m r s)=a.modes.all (fun m=>vI m r s))) (fun k=>[(12,.data (i64 k))]) (fun _=>[]) (fun _=>[]) (fun k=>a.modes.length - k) (0) ?_ ?_
 ·exact⟨by omega,rfl⟩
 rintro k ⟨hk,hi⟩
 (repeat' ((conv=>whnf);first|refine gA ?_|(refine gN ?_ ?_<;>intro h hw)|(refine gB ?_ ?_<;>intro h)|(refine gI ?_;intro x hx)|(refine gJ ?_;intro j x hj hx)|refine gV ?_|refine gC (Tw x r s) ?_|refine gC (Tt a.name hs) ?_|refine gC (cB _ _ _) ?_|intro _))<;>try (conv=>whnf)
 all_goals first
  |exact trivial
  |(refine⟨?_,rfl,trivial⟩;rw [aG (l:=a.modes) (by assumption)] at hi;first|(simp_all [dJ];done)|(simp only [dJ, ← hi];clear hi;simp_all [dJ];done))
  |(refine⟨?_,rfl,trivial⟩;rw [ay (l:=a.modes) (by assumption)] at hi;first|(simp_all [dJ];done)|(simp only [dJ, ← hi];clear hi;simp_all [dJ];done))
  |(refine nx (k+1) ?_
    rw [ay (l:=a.modes) (by assumption)] at hi;refine⟨by omega,?_⟩;simp_all [dJ];done)
end Go.Proofs.YtglikcnmgnlejaaGreat.Abs
