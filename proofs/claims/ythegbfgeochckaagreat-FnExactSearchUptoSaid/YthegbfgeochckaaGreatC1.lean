/- Part of a proof. -/
import Derived.Test.YthegbfgeochckaaGreatTab
import Derived.Test.YthegbfgeochckaaGreatPlain
import Derived.KernelRfl
set_option linter.all false
set_option maxRecDepth 20000
namespace Go.Proofs.YthegbfgeochckaaGreat.Abs
open Go.Proofs
theorem mixed:Tryz.prog.follows .mixedOrders=true:=by kernel_rfl
abbrev Con (f:Nat) (args:List AR) (r:RV):Prop:=Contract Tryz.prog tab lim f args r
theorem con {f:FuncId} {fn:Func} {code:Code} {args:List AR} {r:RV} (hf:Tryz.prog.funcs[f]? =some fn) (hb:fn.body=some code) (hp:gG code=true)
  (hcall:∀(vs:Array Value) (w:World),(callFunc f vs).run Tryz.prog w= .ok (.enter f vs) w) (hlen:(Nat.ble args.length fn.ntmps&&Xb args r)=true)
  (h:ARs.wf lim args->sN tab (iy Tryz.prog tab lim) lim code (vo tab fn.results.toList r) (entry fn.ntmps args)):Con f args r:=
 Mk uz (by decide) (by decide) mixed hf hb hp hcall hlen h
theorem bO (n lo hi:Int):Con 25 [.d (i64 n),.d (i64 lo),.d (i64 hi)] (.d (.bool (within n lo hi))):=by
 refine con Tryz.func25 rfl rfl Tryz.call25 rfl fun hwf=>?_
 (repeat' ((conv=>whnf);first|refine gA ?_|(refine gB ?_ ?_<;>intro h)))
 all_goals refine⟨?_,rfl,trivial⟩
 all_goals (simp_all [within];try omega)
theorem dG (n lo hi:Int):Con 18 [.d (i64 n),.d (i64 lo),.d (i64 hi)] (.d (.bool (within n lo hi))):=by
 refine con Tryz.func18 rfl rfl Tryz.call18 rfl fun hwf=>?_
 (repeat' ((conv=>whnf);first|refine gA ?_|(refine gB ?_ ?_<;>intro h)))
 all_goals refine⟨?_,rfl,trivial⟩
 all_goals (simp_all [within];try omega)
theorem mK (n:Int):Con 242 [.d (i64 n)] (.d (.bool (cu n))):=by
 refine con Tryz.func242 rfl rfl Tryz.call242 rfl fun hwf=>?_
 (repeat' ((conv=>whnf);first|refine gA ?_|refine gC (bO _ _ _) ?_|intro _))
 exact⟨rfl,rfl,trivial⟩
theorem EZ (n:Int):Con 282 [.d (i64 n)] (.d (.bool (iA n))):=by
 refine con Tryz.func282 rfl rfl Tryz.call282 rfl fun hwf=>?_
 (repeat' ((conv=>whnf);first|refine gA ?_|refine gC (bO _ _ _) ?_|intro _))
 exact⟨rfl,rfl,trivial⟩
theorem Xh (s:ByteArray) (hs:s.size<=lim):Con 223 [.d (.str s)] (.d (.bool (Gg s))):=by
 refine con Tryz.func223 rfl rfl Tryz.call223 rfl fun hwf=>?_
 unfold lim at hs
 (conv=>whnf)
 refine ay [0,6] [] [] ?_
 (conv=>whnf)
 refine au.go ((Nat)) (fun k=>(k<=s.size)/\(∀i,i < k->nameAt s i=true)) (fun k=>[(7,.data (i64 k))]) lE lE (fun k=>s.size - k) (0) ?_ ?_
 ·exact⟨by omega,by omega⟩
 rintro k ⟨hk,hi⟩
 (repeat' ((conv=>whnf);first|refine gAV ?_|(refine gB ?_ ?_<;>intro h)|refine gC (bO _ _ _) ?_|intro _))
 all_goals first
  |exact trivial
  |(refine⟨?_,rfl,trivial⟩;rw [Gg,fT k (by omega) (by simp_all [nameAt,Oj];try omega)];rfl)
  |(refine nx (k+1) ?_
    exact⟨by omega,eY hi (by simp_all [nameAt,Oj];try omega)⟩)
  |(refine⟨?_,rfl,trivial⟩;rw [Gg,dB.2 fun i hh=>hi i (by omega)];rfl)
theorem Xi (s:ByteArray) (hs:s.size<=lim):Con 192 [.d (.str s)] (.d (.bool (Gg s))):=by
 refine con Tryz.func192 rfl rfl Tryz.call192 rfl fun hwf=>?_
 unfold lim at hs
 (conv=>whnf)
 refine ay [0] [] [] ?_
 (conv=>whnf)
 refine au.go ((Nat)) (fun k=>(k<=s.size)/\(∀i,i < k->nameAt s i=true)) (fun k=>[(3,.data (i64 k))]) lE lE (fun k=>s.size - k) (0) ?_ ?_
 ·exact⟨by omega,by omega⟩
 rintro k ⟨hk,hi⟩
 (repeat' ((conv=>whnf);first|refine gAV ?_|(refine gB ?_ ?_<;>intro h)|refine gC (dG _ _ _) ?_|intro _))
 all_goals first
  |exact trivial
  |(refine⟨?_,rfl,trivial⟩;rw [Gg,fT k (by omega) (by simp_all [nameAt,Oj];try omega)];rfl)
  |(refine nx (k+1) ?_
    exact⟨by omega,eY hi (by simp_all [nameAt,Oj];try omega)⟩)
  |(refine⟨?_,rfl,trivial⟩;rw [Gg,dB.2 fun i hh=>hi i (by omega)];rfl)
theorem Zo (l:List Int):Con 148 [.d (ints l)] (.d (.bool (jU l))):=by
 refine con Tryz.func148 rfl rfl Tryz.call148 rfl fun hwf=>?_
 simp only [ARs.wf,AR.wf,AV.wf,List.length_map,lim] at hwf
 (conv=>whnf)
 refine ay [0] [] [] ?_
 (conv=>whnf)
 refine au.go ((Nat)) (fun k=>(1<=k)/\(k<=l.length+1)/\(∀i,i < k->i < l.length->setAt l i=true)) (fun k=>[(3,.data (i64 k))]) lE lE (fun k=>l.length+1 - k) (1) ?_ ?_
 ·exact⟨by omega,by omega,fun i h1 h2=>by obtain rfl:i=0:=by omega
                                          rfl⟩
 rintro k ⟨h1,hk,hi⟩
 (repeat' ((conv=>whnf);first|refine gA ?_|(refine gB ?_ ?_<;>intro h)|(refine gI ?_;intro x hx)|(refine gJ ?_;intro j x hj hx)))
 ·obtain rfl:j=k - 1:=by omega
  refine⟨?_,rfl,trivial⟩
  rw [jU,fT k (by omega) (by simp_all [setAt,List.getD_eq_getElem?_getD];omega)]
 ·obtain rfl:j=k - 1:=by omega
  refine nx (k+1) ?_
  refine⟨by omega,by omega,fun i h1 h2=>?_⟩
  by_cases e:i=k
  ·subst e;simp_all [setAt,List.getD_eq_getElem?_getD]
  ·exact hi i (by omega) h2
 ·refine⟨?_,rfl,trivial⟩
  rw [jU,dB.2 fun i hh=>hi i (by omega) hh]
theorem Zp (l:List Int):Con 116 [.d (ints l)] (.d (.bool (jU l))):=by
 refine con Tryz.func116 rfl rfl Tryz.call116 rfl fun hwf=>?_
 simp only [ARs.wf,AR.wf,AV.wf,List.length_map,lim] at hwf
 (conv=>whnf)
 refine ay [0,5] [] [] ?_
 (conv=>whnf)
 refine au.go ((Nat)) (fun k=>(k<=l.length)/\(∀i,i < k->setAt l i=true)) (fun k=>[(6,.data (i64 k))]) lE lE (fun k=>l.length - k) (0) ?_ ?_
 ·exact⟨by omega,by omega⟩
 rintro k ⟨hk,hi⟩
 (repeat' ((conv=>whnf);first|refine gA ?_|(refine gB ?_ ?_<;>intro h)|(refine gI ?_;intro x hx)|(refine gJ ?_;intro j x hj hx)))
 ·obtain rfl:j=k - 1:=by omega
  refine⟨?_,rfl,trivial⟩
  rw [jU,fT k (by omega) (by simp_all [setAt,List.getD_eq_getElem?_getD];omega)]
 ·obtain rfl:j=k - 1:=by omega
  refine nx (k+1) ?_
  exact⟨by omega,eY hi (by simp_all [setAt,List.getD_eq_getElem?_getD])⟩
 ·refine nx (k+1) ?_
  exact⟨by omega,eY hi (by simp_all [setAt,List.getD_eq_getElem?_getD])⟩
 ·refine⟨?_,rfl,trivial⟩
  rw [jU,dB.2 fun i hh=>hi i (by omega)]
theorem slices_Index (l:List Int) (n:Int):Con 335 [.d (ints l),.d (i64 n)] (.d (i64 (bn (fun x=>decide (n=x)) l 0))):=by
 refine con Tryz.func335 rfl rfl Tryz.call335 rfl fun hwf=>?_
 simp only [ARs.wf,AR.wf,AV.wf,List.length_map,lim] at hwf
 (conv=>whnf)
 refine ay [0,1,7] [] [] ?_
 (conv=>whnf)
 refine au.go ((Nat)) (fun k=>(k<=l.length)/\(bn (fun x=>decide (n=x)) (l.drop k) k=bn (fun x=>decide (n=x)) l 0)) (fun k=>[(8,.data (i64 k))]) lE lE (fun k=>l.length - k) (0) ?_ ?_
 ·exact⟨by omega,rfl⟩
 rintro k ⟨hk,hi⟩
 (repeat' ((conv=>whnf);first|refine gA ?_|(refine gB ?_ ?_<;>intro h)|(refine gI ?_;intro x hx)))
 all_goals first
  |exact trivial
  |(refine⟨?_,rfl,trivial⟩;rw [aG (l:=l) (by assumption)] at hi;first|(simp_all [bn];done)|(simp only [bn, <- hi];clear hi;simp_all [bn];done))
  |(refine⟨?_,rfl,trivial⟩;rw [aA (l:=l) (by assumption)] at hi;first|(simp_all [bn];done)|(simp only [bn, <- hi];clear hi;simp_all [bn];done))
  |(refine nx (k+1) ?_
    rw [aA (l:=l) (by assumption)] at hi;refine⟨by omega,?_⟩;simp_all [bn];done)
theorem any_eq {l:List Int} {n:Int}:l.any (fun x=>decide (n=x))=l.contains n:=by
 induction l with
 |nil=>rfl
 |cons x l ih=>simp only [List.any_cons,List.contains_cons,ih];rfl
theorem slices_Contains (l:List Int) (n:Int):Con 283 [.d (ints l),.d (i64 n)] (.d (.bool (l.contains n))):=by
 refine con Tryz.func283 rfl rfl Tryz.call283 rfl fun hwf=>?_
 (repeat' ((conv=>whnf);first|refine gA ?_|refine gC (slices_Index _ _) ?_|intro _))
 refine⟨?_,rfl,trivial⟩
 rw [<- any_eq, <- Ch l 0]
theorem xL (l:List Int) (n:Int):Con 228 [.d (ints l),.d (i64 n)] (.d (.bool (l.contains n))):=by
 refine con Tryz.func228 rfl rfl Tryz.call228 rfl fun hwf=>?_
 (repeat' ((conv=>whnf);first|refine gA ?_|refine gC (slices_Contains _ _) ?_|intro _))
 exact⟨rfl,rfl,trivial⟩
theorem gT (l:List Int) (n:Int):Con 194 [.d (ints l),.d (i64 n)] (.d (.bool (l.contains n))):=by
 refine con Tryz.func194 rfl rfl Tryz.call194 rfl fun hwf=>?_
 simp only [ARs.wf,AR.wf,AV.wf,List.length_map,lim] at hwf
 (conv=>whnf)
 refine ay [1,7,8] [] [] ?_
 (conv=>whnf)
 refine au.go ((Nat)) (fun k=>(k<=l.length)/\((l.drop k).contains n=l.contains n)) (fun k=>[(9,.data (i64 k))]) lE lE (fun k=>l.length - k) (0) ?_ ?_
 ·exact⟨by omega,rfl⟩
 rintro k ⟨hk,hi⟩
 (repeat' ((conv=>whnf);first|refine gA ?_|(refine gB ?_ ?_<;>intro h)|(refine gI ?_;intro x hx)))
 all_goals first
  |exact trivial
  |(refine⟨?_,rfl,trivial⟩;rw [aG (l:=l) (by assumption)] at hi;first|(simp_all [List.contains_cons,eq_comm];done)|(simp only [List.contains_cons,eq_comm, <- hi];clear hi;simp_all [List.contains_cons,eq_comm];done))
  |(refine⟨?_,rfl,trivial⟩;rw [aA (l:=l) (by assumption)] at hi;first|(simp_all [List.contains_cons,eq_comm];done)|(simp only [List.contains_cons,eq_comm, <- hi];clear hi;simp_all [List.contains_cons,eq_comm];done))
  |(refine nx (k+1) ?_
    rw [aA (l:=l) (by assumption)] at hi;refine⟨by omega,?_⟩;simp_all [List.contains_cons,eq_comm];done)
theorem Cr (a b:List Int):Con 149 [.d (ints a),.d (ints b)] (.d (.bool (subset a b))):=by
 refine con Tryz.func149 rfl rfl Tryz.call149 rfl fun hwf=>?_
 simp only [ARs.wf,AR.wf,AV.wf,List.length_map,lim] at hwf
 (conv=>whnf)
 refine ay [1,7,8] [] [] ?_
 (conv=>whnf)
 refine au.go ((Nat)) (fun k=>(k<=a.length)/\(subset (a.drop k) b=subset a b)) (fun k=>[(9,.data (i64 k))]) lE lE (fun k=>a.length - k) (0) ?_ ?_
 ·exact⟨by omega,rfl⟩
 rintro k ⟨hk,hi⟩
 (repeat' ((conv=>whnf);first|refine gA ?_|(refine gB ?_ ?_<;>intro h)|(refine gI ?_;intro x hx)|refine gC (xL _ _) ?_|intro _))
 all_goals first
  |exact trivial
  |(refine⟨?_,rfl,trivial⟩;rw [aG (l:=a) (by assumption)] at hi;first|(simp_all [subset];done)|(simp only [subset, <- hi];clear hi;simp_all [subset];done))
  |(refine⟨?_,rfl,trivial⟩;rw [aA (l:=a) (by assumption)] at hi;first|(simp_all [subset];done)|(simp only [subset, <- hi];clear hi;simp_all [subset];done))
  |(refine nx (k+1) ?_
    rw [aA (l:=a) (by assumption)] at hi;refine⟨by omega,?_⟩;simp_all [subset];done)
theorem Ct (a b:List Int):Con 117 [.d (ints a),.d (ints b)] (.d (.bool (subset a b))):=by
 refine con Tryz.func117 rfl rfl Tryz.call117 rfl fun hwf=>?_
 simp only [ARs.wf,AR.wf,AV.wf,List.length_map,lim] at hwf
 (conv=>whnf)
 refine ay [1,7,8] [] [] ?_
 (conv=>whnf)
 refine au.go ((Nat)) (fun k=>(k<=a.length)/\(subset (a.drop k) b=subset a b)) (fun k=>[(9,.data (i64 k))]) lE lE (fun k=>a.length - k) (0) ?_ ?_
 ·exact⟨by omega,rfl⟩
 rintro k ⟨hk,hi⟩
 (repeat' ((conv=>whnf);first|refine gA ?_|(refine gB ?_ ?_<;>intro h)|(refine gI ?_;intro x hx)|refine gC (gT _ _) ?_|intro _))
 all_goals first
  |exact trivial
  |(refine⟨?_,rfl,trivial⟩;rw [aG (l:=a) (by assumption)] at hi;first|(simp_all [subset];done)|(simp only [subset, <- hi];clear hi;simp_all [subset];done))
  |(refine⟨?_,rfl,trivial⟩;rw [aA (l:=a) (by assumption)] at hi;first|(simp_all [subset];done)|(simp only [subset, <- hi];clear hi;simp_all [subset];done))
  |(refine nx (k+1) ?_
    rw [aA (l:=a) (by assumption)] at hi;refine⟨by omega,?_⟩;simp_all [subset];done)
theorem Ad (l:List Step):Con 226 [.d (.sl (l.map Step.av))] (.d (.bool (kT l))):=by
 refine con Tryz.func226 rfl rfl Tryz.call226 rfl fun hwf=>?_
 simp only [ARs.wf,AR.wf,AV.wf,List.length_map,lim] at hwf
 (conv=>whnf)
 refine ay [0,5,6] [] [] ?_
 (conv=>whnf)
 refine au.go ((Nat)) (fun k=>(k<=l.length)/\(∀i,i < k->Gh l i=true)) (fun k=>[(7,.data (i64 k))]) lE lE (fun k=>l.length - k) (0) ?_ ?_
 ·exact⟨by omega,by omega⟩
 rintro k ⟨hk,hi⟩
 (repeat' ((conv=>whnf);first|refine gAV ?_|(refine gN ?_ ?_<;>intro h hw)|(refine gB ?_ ?_<;>intro h)|(refine gI ?_;intro x hx)|(refine gJ ?_;intro j x hj hx)|refine gC (mK _) ?_|refine gC (EZ _) ?_|refine gC (bO _ _ _) ?_|intro _))
 all_goals first
  |exact trivial
  |(exfalso;omega)
  |(refine⟨?_,rfl,trivial⟩;rw [kT,fT k (by omega) (by (try (obtain rfl:j=k - 1:=by omega));simp_all [Gh];try omega)];rfl)
  |(refine nx (k+1) ?_
    exact⟨by omega,eY hi (by (try (obtain rfl:j=k - 1:=by omega));simp_all [Gh];try omega)⟩)
  |(refine⟨?_,rfl,trivial⟩;rw [kT,dB.2 fun i hh=>hi i (by omega)];simp)
def Ea (l:List Step) (i:Nat):Bool:=
 match l[i]? with
 |some s=>cu s.at'&&iA s.cap&&(!decide ((i:Int) > 0)||(match l[i - 1]? with|some q=> !decide (q.at'>=s.at')|none=>true))
 |none=>true
theorem Zq (l:List Step):kT l=(Es l.length (Ea l)&&(within l.length 1 8&&match l[0]? with|some s=>decide (s.at'=0)|none=>false)):=by
 rw [Bool.eq_iff_iff]
 simp only [kT,Bool.and_eq_true,dB]
 have key:∀i,i < l.length->(Gh l i=true↔Ea l i=true/\(i=0->(match l[0]? with|some s=>decide (s.at'=0)|none=>false)=true)):=by
  intro i hi
  simp only [Gh,Ea,List.getElem?_eq_getElem hi]
  by_cases h:i=0
  ·subst h;simp [List.getElem?_eq_getElem hi]
  ·simp [h]
   intro _ _
   cases l[i - 1]? <;>simp
 constructor
 ·rintro⟨h1,h2⟩
  refine⟨fun i hi=>((key i hi).1 (h1 i hi)).1,h2,?_⟩
  have h0:=(within_iff.1 h2).1
  exact ((key 0 (by omega)).1 (h1 0 (by omega))).2 rfl
 ·rintro⟨h1,h2,h3⟩
  exact⟨fun i hi=>(key i hi).2 ⟨h1 i hi,fun _=>h3⟩,h2⟩
theorem IG (l:List Step):Con 193 [.d (.sl (l.map Step.av))] (.d (.bool (kT l))):=by
 refine con Tryz.func193 rfl rfl Tryz.call193 rfl fun hwf=>?_
 simp only [ARs.wf,AR.wf,AV.wf,List.length_map,lim] at hwf
 rw [Zq]
 (conv=>whnf)
 refine ay [0,5,6] [] [] ?_
 (conv=>whnf)
 refine au.go ((Nat)) (fun k=>(k<=l.length)/\(∀i,i < k->Ea l i=true)) (fun k=>[(7,.data (i64 k))]) lE lE (fun k=>l.length - k) (0) ?_ ?_
 ·exact⟨by omega,by omega⟩
 rintro k ⟨hk,hi⟩
 (repeat' ((conv=>whnf);first|refine gA ?_|(refine gN ?_ ?_<;>intro h hw)|(refine gB ?_ ?_<;>intro h)|(refine gI ?_;intro x hx)|(refine gJ ?_;intro j x hj hx)|refine gC (dG _ _ _) ?_|intro _))
 all_goals first
  |exact trivial
  |(exfalso;omega)
  |(refine⟨?_,rfl,trivial⟩;rw [fT k (by omega) (by (try (obtain rfl:j=k - 1:=by omega));simp_all [Ea,cu,iA];try omega)];rfl)
  |(refine nx (k+1) ?_
    exact⟨by omega,eY hi (by (try (obtain rfl:j=k - 1:=by omega));simp_all [Ea,cu,iA];try omega)⟩)
  |(refine⟨?_,rfl,trivial⟩;rw [dB.2 fun i hh=>hi i (by omega)];(try (obtain rfl:j=0:=by omega));(try rw [List.length_map] at h);first|(rw [h,hx];simp;done)|(rw [h];simp))
theorem uT (l:List Step) (t:Int):Con 296 [.d (.sl (l.map Step.av)),.d (i64 t)] (.d (i64 (kU t l 0))):=by
 refine con Tryz.func296 rfl rfl Tryz.call296 rfl fun hwf=>?_
 simp only [ARs.wf,AR.wf,AV.wf,List.length_map,lim] at hwf
 (conv=>whnf)
 refine ay [1,8,9] [] [] ?_
 (conv=>whnf)
 refine au.go ((Nat)×(Int)) (fun⟨k,n⟩=>(k<=l.length)/\(kU t (l.drop k) n=kU t l 0)) (fun⟨k,n⟩=>[(10,.data (i64 k)),(5,.data (i64 n))]) lE lE (fun⟨k,n⟩=>l.length - k) ⟨0,0⟩ ?_ ?_
 ·exact⟨by omega,rfl⟩
 rintro⟨k,n⟩ ⟨hk,hi⟩
 (repeat' ((conv=>whnf);first|refine gA ?_|(refine gB ?_ ?_<;>intro h)|(refine gI ?_;intro x hx)))
 all_goals first
  |exact trivial
  |(refine⟨?_,rfl,trivial⟩;rw [aG (l:=l) (by assumption)] at hi;first|(simp_all [kU];done)|(simp only [kU, <- hi];clear hi;simp_all [kU];done))
  |(refine⟨?_,rfl,trivial⟩;rw [aA (l:=l) (by assumption)] at hi;first|(simp_all [kU];done)|(simp only [kU, <- hi];clear hi;simp_all [kU];done))
  |(apply Exists.intro (⟨k+1,_⟩)
    refine⟨?_,rfl,?_,?_⟩
    rotate_left
    ·(repeat' ((conv=>whnf)<;>(first|exact trivial|exact rfl|with_reducible refine And.intro ?_ ?_)))
    ·(try dsimp only);(try simp only [List.length_map]);omega
    rw [aA (l:=l) (by assumption)] at hi;refine⟨by omega,?_⟩;simp_all [kU];done)
theorem Gi (l:List Step) (t:Int):Con 268 [.d (.sl (l.map Step.av)),.d (i64 t)] (.d (i64 (kU t l 0))):=by
 refine con Tryz.func268 rfl rfl Tryz.call268 rfl fun hwf=>?_
 simp only [ARs.wf,AR.wf,AV.wf,List.length_map,lim] at hwf
 (conv=>whnf)
 refine ay [1,8,9] [] [] ?_
 (conv=>whnf)
 refine au.go ((Nat)×(Int)) (fun⟨k,n⟩=>(k<=l.length)/\(kU t (l.drop k) n=kU t l 0)) (fun⟨k,n⟩=>[(10,.data (i64 k)),(5,.data (i64 n))]) lE lE (fun⟨k,n⟩=>l.length - k) ⟨0,0⟩ ?_ ?_
 ·exact⟨by omega,rfl⟩
 rintro⟨k,n⟩ ⟨hk,hi⟩
 (repeat' ((conv=>whnf);first|refine gA ?_|(refine gB ?_ ?_<;>intro h)|(refine gI ?_;intro x hx)))
 all_goals first
  |exact trivial
  |(refine⟨?_,rfl,trivial⟩;rw [aG (l:=l) (by assumption)] at hi;first|(simp_all [kU];done)|(simp only [kU, <- hi];clear hi;simp_all [kU];done))
  |(refine⟨?_,rfl,trivial⟩;rw [aA (l:=l) (by assumption)] at hi;first|(simp_all [kU];done)|(simp only [kU, <- hi];clear hi;simp_all [kU];done))
  |(apply Exists.intro (⟨k+1,_⟩)
    refine⟨?_,rfl,?_,?_⟩
    rotate_left
    ·(repeat' ((conv=>whnf)<;>(first|exact trivial|exact rfl|with_reducible refine And.intro ?_ ?_)))
    ·(try dsimp only);(try simp only [List.length_map]);omega
    rw [aA (l:=l) (by assumption)] at hi;refine⟨by omega,?_⟩;simp_all [kU];done)
theorem Ml (l:List Int) (n:Int):Con 281 [.d (ints l),.d (i64 n)] (.d (.bool (eZ l n))):=by
 refine con Tryz.func281 rfl rfl Tryz.call281 rfl fun hwf=>?_
 simp only [ARs.wf,AR.wf,AV.wf,List.length_map,lim] at hwf
 (conv=>whnf)
 refine ay [0,1,7,8] [] [] ?_
 (conv=>whnf)
 refine au.go ((Nat)) (fun k=>(k<=l.length)/\((l.drop k).all iA=l.all iA)) (fun k=>[(9,.data (i64 k))]) lE lE (fun k=>l.length - k) (0) ?_ ?_
 ·exact⟨by omega,rfl⟩
 rintro k ⟨hk,hi⟩
 (repeat' ((conv=>whnf);first|refine gA ?_|(refine gN ?_ ?_<;>intro h hw)|(refine gB ?_ ?_<;>intro h)|(refine gI ?_;intro x hx)|refine gC (EZ _) ?_|intro _))
 all_goals first
  |exact trivial
  |(refine⟨?_,rfl,trivial⟩;rw [aG (l:=l) (by assumption)] at hi;first|(simp_all [eZ];done)|(simp only [eZ, <- hi];clear hi;simp_all [eZ];done))
  |(refine⟨?_,rfl,trivial⟩;rw [aA (l:=l) (by assumption)] at hi;first|(simp_all [eZ];done)|(simp only [eZ, <- hi];clear hi;simp_all [eZ];done))
  |(refine nx (k+1) ?_
    rw [aA (l:=l) (by assumption)] at hi;refine⟨by omega,?_⟩;simp_all [eZ];done)
theorem UH (l:List Int) (n:Int):Con 255 [.d (ints l),.d (i64 n)] (.d (.bool (eZ l n))):=by
 refine con Tryz.func255 rfl rfl Tryz.call255 rfl fun hwf=>?_
 simp only [ARs.wf,AR.wf,AV.wf,List.length_map,lim] at hwf
 (conv=>whnf)
 refine ay [0,1,7,8] [] [] ?_
 (conv=>whnf)
 refine au.go ((Nat)) (fun k=>(k<=l.length)/\((l.drop k).all iA=l.all iA)) (fun k=>[(9,.data (i64 k))]) lE lE (fun k=>l.length - k) (0) ?_ ?_
 ·exact⟨by omega,rfl⟩
 rintro k ⟨hk,hi⟩
 (repeat' ((conv=>whnf);first|refine gA ?_|(refine gN ?_ ?_<;>intro h hw)|(refine gB ?_ ?_<;>intro h)|(refine gI ?_;intro x hx)|refine gC (dG _ _ _) ?_|intro _))
 all_goals first
  |exact trivial
  |(refine⟨?_,rfl,trivial⟩;rw [aG (l:=l) (by assumption)] at hi;first|(simp_all [eZ,iA];done)|(simp only [eZ,iA, <- hi];clear hi;simp_all [eZ,iA];done))
  |(refine⟨?_,rfl,trivial⟩;rw [aA (l:=l) (by assumption)] at hi;first|(simp_all [eZ,iA];done)|(simp only [eZ,iA, <- hi];clear hi;simp_all [eZ,iA];done))
  |(refine nx (k+1) ?_
    rw [aA (l:=l) (by assumption)] at hi;refine⟨by omega,?_⟩;simp_all [eZ,iA];done)
theorem Xj (m:Mode) (r s:Int):Con 222 [.d m.av,.d (i64 r),.d (i64 s)] (.d (.bool (yF m r s))):=by
 refine con Tryz.func222 rfl rfl Tryz.call222 rfl fun hwf=>?_
 (repeat' ((conv=>whnf);first|refine gA ?_|(refine gN ?_ ?_<;>intro h hw)|(refine gB ?_ ?_<;>intro h)|refine gC (bO _ _ _) ?_|refine gC (Ml _ _) ?_|intro _))
 all_goals refine⟨?_,rfl,trivial⟩
 all_goals simp_all [yF]
theorem Xk (m:Mode) (r s:Int):Con 191 [.d m.av,.d (i64 r),.d (i64 s)] (.d (.bool (yF m r s))):=by
 refine con Tryz.func191 rfl rfl Tryz.call191 rfl fun hwf=>?_
 (repeat' ((conv=>whnf);first|refine gA ?_|(refine gN ?_ ?_<;>intro h hw)|(refine gB ?_ ?_<;>intro h)|refine gC (dG _ _ _) ?_|refine gC (UH _ _) ?_|intro _))
 all_goals refine⟨?_,rfl,trivial⟩
 all_goals simp_all [yF]
theorem Mq (a:aB) (r s:Int) (hs:a.name.size<=lim):Con 141 [.d a.av,.d (i64 r),.d (i64 s)] (.d (.bool (dV a r s))):=by
 refine con Tryz.func141 rfl rfl Tryz.call141 rfl fun hwf=>?_
 simp only [ARs.wf,AR.wf,AV.wf,AV.wfs,lm,lim] at hwf
 (conv=>whnf)
 refine ay [1,2,3,10,11] [3] [] ?_
 (conv=>whnf)
 refine au.go ((Nat)) (fun k=>(k<=a.modes.length)/\((a.modes.drop k).all (fun m=>yF m r s)=a.modes.all (fun m=>yF m r s))) (fun k=>[(12,.data (i64 k))]) lE lE (fun k=>a.modes.length - k) (0) ?_ ?_
 ·exact⟨by omega,rfl⟩
 rintro k ⟨hk,hi⟩
 (repeat' ((conv=>whnf);first|refine gA ?_|(refine gN ?_ ?_<;>intro h hw)|(refine gB ?_ ?_<;>intro h)|(refine gI ?_;intro x hx)|refine gC (Xj x r s) ?_|refine gC (Xh a.name hs) ?_|refine gC (bO _ _ _) ?_|intro _))<;>try (conv=>whnf)
 all_goals first
  |exact trivial
  |(refine⟨?_,rfl,trivial⟩;rw [aG (l:=a.modes) (by assumption)] at hi;first|(simp_all [dV];done)|(simp only [dV, <- hi];clear hi;simp_all [dV];done))
  |(refine⟨?_,rfl,trivial⟩;rw [aA (l:=a.modes) (by assumption)] at hi;first|(simp_all [dV];done)|(simp only [dV, <- hi];clear hi;simp_all [dV];done))
  |(refine nx (k+1) ?_
    rw [aA (l:=a.modes) (by assumption)] at hi;refine⟨by omega,?_⟩;simp_all [dV];done)
theorem Mr (a:aB) (r s:Int) (hs:a.name.size<=lim):Con 113 [.d a.av,.d (i64 r),.d (i64 s)] (.d (.bool (dV a r s))):=by
 refine con Tryz.func113 rfl rfl Tryz.call113 rfl fun hwf=>?_
 simp only [ARs.wf,AR.wf,AV.wf,AV.wfs,lm,lim] at hwf
 (conv=>whnf)
 refine ay [1,2,3,10,11] [3] [] ?_
 (conv=>whnf)
 refine au.go ((Nat)) (fun k=>(k<=a.modes.length)/\((a.modes.drop k).all (fun m=>yF m r s)=a.modes.all (fun m=>yF m r s))) (fun k=>[(12,.data (i64 k))]) lE lE (fun k=>a.modes.length - k) (0) ?_ ?_
 ·exact⟨by omega,rfl⟩
 rintro k ⟨hk,hi⟩
 (repeat' ((conv=>whnf);first|refine gA ?_|(refine gN ?_ ?_<;>intro h hw)|(refine gB ?_ ?_<;>intro h)|(refine gI ?_;intro x hx)|refine gC (Xk x r s) ?_|refine gC (Xi a.name hs) ?_|refine gC (dG _ _ _) ?_|intro _))<;>try (conv=>whnf)
 all_goals first
  |exact trivial
  |(refine⟨?_,rfl,trivial⟩;rw [aG (l:=a.modes) (by assumption)] at hi;first|(simp_all [dV];done)|(simp only [dV, <- hi];clear hi;simp_all [dV];done))
  |(refine⟨?_,rfl,trivial⟩;rw [aA (l:=a.modes) (by assumption)] at hi;first|(simp_all [dV];done)|(simp only [dV, <- hi];clear hi;simp_all [dV];done))
  |(refine nx (k+1) ?_
    rw [aA (l:=a.modes) (by assumption)] at hi;refine⟨by omega,?_⟩;simp_all [dV];done)
end Go.Proofs.YthegbfgeochckaaGreat.Abs
