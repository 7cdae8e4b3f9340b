/- Contracts: modes of activities, the least of some numbers. -/
import Derived.Test.YtefgamefajmdkaaGreatC6
set_option linter.all false
set_option maxRecDepth 20000
set_option maxHeartbeats 0
namespace Go.Proofs.YtefgamefajmdkaaGreat.Abs
open Go.Proofs
def Ao:Bool→Int→List Int→Int
 |_,n,[]=>n
 |b,n,x::r=>Ao false (if b=true∨x < n then x else n) r
theorem PV (l:List Int):∀n,Ao false n l=l.foldl min n:=by
 induction l with
 |nil=>intro n;rfl
 |cons x r ih=>
  intro n
  rw [Ao,ih,List.foldl_cons]
  congr 1
  by_cases h:x < n
  ·rw [if_pos (.inr h)];omega
  ·rw [if_neg (by simp [h])];omega
theorem Cv (l:List Int):Ao true 0 l=least l:=by
 cases l with
 |nil=>rfl
 |cons x r=>rw [Ao,if_pos (.inl rfl),PV];rfl
def PW:Bool→Int→List (Option Int)→Int
 |_,n,[]=>n
 |_,_,none::_=>0
 |b,n,some x::r=>PW false (if b=true∨x < n then x else n) r
theorem UM (l:List (Option Int)):∀b n,PW b n l=if l.all Option.isSome=true then Ao b n (l.map fun o=>o.getD 0) else 0:=by
 induction l with
 |nil=>intro b n;rfl
 |cons x r ih=>
  intro b n
  cases x with
  |none=>simp [PW]
  |some x=>rw [PW,ih];simp [Ao]
theorem RU (l:List Mode) (f:Mode→Option Int):PW true 0 (l.map f)=leastOf l f:=by
 rw [UM,leastOf,Cv]
 simp [List.map_map,Function.comp_def,List.all_map]
theorem vJ (ms:List Int):∀(l:List Mode) (k:Nat),(eG ms l k).length≤l.length
 |[],_=>by simp [eG]
 |m::r,k=>by
  have:=vJ ms r (k+1)
  rw [eG];split<;>simp<;>omega
theorem FR (a:aB) (ms:List Int):(chosen a ms).length≤a.modes.length:=vJ ms _ _
theorem pK (ms:List Int):∀(l:List Mode) (k:Nat) (m:Mode),m∈eG ms l k→m∈l
 |[],_,_,h=>by simp [eG] at h
 |x::r,k,m,h=>by
  rw [eG] at h
  split at h
  ·rcases List.mem_cons.1 h with rfl|h
   ·simp
   ·exact List.mem_cons_of_mem _ (pK ms r (k+1) m h)
  ·exact List.mem_cons_of_mem _ (pK ms r (k+1) m h)
theorem tO {a:aB} {ms:List Int} {m:Mode} (h:m∈chosen a ms):m∈a.modes:=pK ms _ _ m h
theorem qF (a:aB) (ms:List Int):Con 267 [.d a.av,.d (ints ms)] (.d (.sl ((chosen a ms).map Mode.av))):=by
 refine con Tryz.func267 rfl rfl Tryz.call267 rfl fun hwf=>?_
 simp only [ARs.wf,AR.wf,AV.wf,AV.wfs,lm,lim] at hwf
 (repeat' ((conv=>whnf);first|refine gA ?_|(refine gB ?_ ?_<;>intro h)|(refine gI ?_;intro x hx)|(refine gJ ?_;intro j x hj hx)|refine gP ?_|refine gV ?_|intro _))<;>try (conv=>whnf)
 refine aA [1,10,11] [] [8] ?_
 (conv=>whnf)
 refine ay.go ((Nat)×(List Mode)) (fun⟨k,o⟩=>(k≤a.modes.length)∧(o.length≤k)∧(o++eG ms (a.modes.drop k) k=chosen a ms)) (fun⟨k,o⟩=>[(12,.data (i64 k)),(5,.own 8 0)]) (fun _=>[]) (fun⟨k,o⟩=>[(8,177,o.map Mode.av,0)]) (fun⟨k,o⟩=>a.modes.length - k) ⟨0,[]⟩ ?_ ?_
 ·exact⟨by omega,by simp,rfl⟩
 rintro⟨k,o⟩ ⟨hk,ho,hi⟩
 (repeat' ((conv=>whnf);first|refine gA ?_|(refine gB ?_ ?_<;>intro h)|(refine gI ?_;intro x hx)|(refine gJ ?_;intro j x hj hx)|refine gP ?_|refine gV ?_|refine gC (qD ms _) ?_|intro _))<;>try (conv=>whnf)
 ·refine nw ⟨k+1,o++[x]⟩ ?_ ?_
  ·(repeat' ((conv=>whnf)<;>(first|exact trivial|exact rfl|with_reducible refine And.intro ?_ ?_)))<;>((conv=>whnf)<;>(simp))
  rw [aC hx,eG,if_pos h] at hi
  exact⟨by omega,by simp;omega,by rw [← hi];simp⟩
 ·refine nx ⟨k+1,o⟩ ?_
  rw [aC hx,eG,if_neg (Bool.eq_false_iff.1 h)] at hi
  exact⟨by omega,by omega,hi⟩
 ·refine⟨?_,rfl,trivial⟩
  rw [← hi,aU (by assumption)];simp [eG]
theorem Cw (a:aB) (ms:List Int):Con 238 [.d a.av,.d (ints ms)] (.d (i64 (yP a ms))):=by
 refine con Tryz.func238 rfl rfl Tryz.call238 rfl fun hwf=>?_
 simp only [ARs.wf,AR.wf,AV.wf,AV.wfs,lm,lim] at hwf
 have hl:=FR a ms
 (repeat' ((conv=>whnf);first|refine gA ?_|(refine gB ?_ ?_<;>intro h)|(refine gI ?_;intro x hx)|(refine gJ ?_;intro j x hj hx)|refine gV ?_|refine gC (qF a ms) ?_|intro _))<;>try (conv=>whnf)
 refine aA [10,11] [] [] ?_
 (conv=>whnf)
 refine ay.go ((Nat)×(Int)) (fun⟨k,n⟩=>(k≤(chosen a ms).length)∧(Ao (decide ((k:Int)=0)) n (((chosen a ms).drop k).map Mode.dur)=yP a ms)) (fun⟨k,n⟩=>[(12,.data (i64 k)),(5,.data (i64 n))]) (fun _=>[]) (fun _=>[]) (fun⟨k,n⟩=>(chosen a ms).length - k) ⟨0,0⟩ ?_ ?_
 ·exact⟨by omega,by rw [yP, ← Cv];rfl⟩
 rintro⟨k,n⟩ ⟨hk,hi⟩
 (repeat' ((conv=>whnf);first|refine gA ?_|(refine gB ?_ ?_<;>intro h)|(refine gI ?_;intro x hx)|(refine gJ ?_;intro j x hj hx)|refine gV ?_|intro _))<;>try (conv=>whnf)
 ·refine nx ⟨k+1,x.dur⟩ ?_
  rw [aC hx,List.map_cons,Ao,if_pos (.inl (by simp [h]))] at hi
  exact⟨by omega,by rw [decide_eq_false (show ¬((k+1:Nat):Int)=0 by omega)];exact hi⟩
 ·refine nx ⟨k+1,x.dur⟩ ?_
  rw [aC hx,List.map_cons,Ao,if_pos (.inr h)] at hi
  exact⟨by omega,by rw [decide_eq_false (show ¬((k+1:Nat):Int)=0 by omega)];exact hi⟩
 ·refine nx ⟨k+1,n⟩ ?_
  rw [aC hx,List.map_cons,Ao,if_neg (by rw [decide_eq_true_eq];omega)] at hi
  exact⟨by omega,by rw [decide_eq_false (show ¬((k+1:Nat):Int)=0 by omega)];exact hi⟩
 ·refine⟨?_,rfl,trivial⟩
  rw [← hi,aU (by assumption)];rfl
def UN (o:Option Int):RV:=.tup [.d (i64 (o.getD 0)),.d (.bool o.isSome)]
theorem xV {l:List Int} {i:Int} (h:within i 0 (l.length - 1)=true):∃(n:Nat) (x:Int),i=n∧l[n]? =some x∧fT l i=some x:=by
 have hn:=within_iff.1 h
 refine⟨i.toNat,l[i.toNat]'(by omega),by omega,by simp,?_⟩
 rw [fT,if_pos h,List.getD_eq_getElem?_getD,List.getElem?_eq_getElem (by omega)];rfl
theorem Ap (l:List Int) (i:Int):Con 270 [.d (ints l),.d (i64 i)] (UN (fT l i)):=by
 refine con Tryz.func270 rfl rfl Tryz.call270 rfl fun hwf=>?_
 simp only [ARs.wf,AR.wf,AV.wf,AV.wfs,lm,lim] at hwf
 cases h:within i 0 (l.length - 1) with
 |false=>
  have h':within i 0 (((l.map i64).length:Int) - 1)=false:=by rw [List.length_map];exact h
  (repeat' ((conv=>whnf);first|refine gA ?_|(refine gN ?_ ?_<;>intro h hw)|(refine gB ?_ ?_<;>intro h)|(refine gI ?_;intro x hx)|(refine gJ ?_;intro j x hj hx)|refine gV ?_|refine gC (aO _ _ _) ?_|intro _))<;>try (conv=>whnf)
  rw [fT,if_neg (by simp [h])]
  exact fv
 |true=>
  have h':within i 0 (((l.map i64).length:Int) - 1)=true:=by rw [List.length_map];exact h
  obtain⟨n,x,hn,hx,e⟩:=xV h
  (repeat' ((conv=>whnf);first|with_reducible refine Idx.got hx hn ?_|refine gA ?_|(refine gN ?_ ?_<;>intro h hw)|(refine gB ?_ ?_<;>intro h)|(refine gI ?_;intro x hx)|(refine gJ ?_;intro j x hj hx)|refine gV ?_|refine gC (aO _ _ _) ?_|intro _))<;>try (conv=>whnf)
  rw [e]
  exact fv
theorem Aq (l:List Mode) (fc:Nat) (caps:List AV) (f:Mode→Option Int) (hc:∀x:Mode,Con fc ([.d x.av]++caps.map .ref) (UN (f x))):
  Con 268 [.d (.sl (l.map Mode.av)),.fn fc caps] (.d (i64 (leastOf l f))):=by
 refine con Tryz.func268 rfl rfl Tryz.call268 rfl fun hwf=>?_
 simp only [ARs.wf,AR.wf,AV.wf,AV.wfs,lm,lim] at hwf
 (repeat' ((conv=>whnf);first|refine gA ?_|(refine gB ?_ ?_<;>intro h)|(refine gI ?_;intro x hx)|(refine gJ ?_;intro j x hj hx)|refine gV ?_|intro _))<;>try (conv=>whnf)
 refine aA [1,10,11] [] [] ?_
 (conv=>whnf)
 refine ay.go ((Nat)×(Int)) (fun⟨k,n⟩=>(k≤l.length)∧(PW (decide ((k:Int)=0)) n ((l.drop k).map f)=leastOf l f)) (fun⟨k,n⟩=>[(12,.data (i64 k)),(5,.data (i64 n))]) (fun _=>[]) (fun _=>[]) (fun⟨k,n⟩=>l.length - k) ⟨0,0⟩ ?_ ?_
 ·exact⟨by omega,by rw [← RU];rfl⟩
 rintro⟨k,n⟩ ⟨hk,hi⟩
 by_cases hlt:k < l.length
 ·obtain⟨x,hx⟩:∃x,l[k]? =some x:=⟨l[k]'hlt,by simp⟩
  have hcx:=hc x
  rw [aC hx,List.map_cons] at hi
  cases e:f x with
  |none=>
   rw [e] at hcx hi
   replace hcx:Con fc ([.d x.av]++caps.map .ref) (.tup [.d (i64 0),.d (.bool false)]):=hcx
   (repeat' ((conv=>whnf);first|with_reducible refine Idx.got hx rfl ?_|refine gA ?_|(refine gB ?_ ?_<;>intro h)|(refine gI ?_;intro x hx)|(refine gJ ?_;intro j x hj hx)|refine gV ?_|refine gC (hcx) ?_|intro _))<;>try (conv=>whnf)
   ·refine⟨?_,rfl,trivial⟩;rw [← hi];rfl
   ·exfalso;omega
  |some y=>
   rw [e,PW] at hi
   rw [e] at hcx
   replace hcx:Con fc ([.d x.av]++caps.map .ref) (.tup [.d (i64 y),.d (.bool true)]):=hcx
   (repeat' ((conv=>whnf);first|with_reducible refine Idx.got hx rfl ?_|refine gA ?_|(refine gB ?_ ?_<;>intro h)|(refine gI ?_;intro x hx)|(refine gJ ?_;intro j x hj hx)|refine gV ?_|refine gC (hcx) ?_|intro _))<;>try (conv=>whnf)
   ·refine nx ⟨k+1,y⟩ ?_
    rw [if_pos (by rw [decide_eq_true_eq];omega)] at hi
    exact⟨by omega,by rw [decide_eq_false (show ¬((k+1:Nat):Int)=0 by omega)];exact hi⟩
   ·refine nx ⟨k+1,y⟩ ?_
    rw [if_pos (by rw [decide_eq_true_eq];omega)] at hi
    exact⟨by omega,by rw [decide_eq_false (show ¬((k+1:Nat):Int)=0 by omega)];exact hi⟩
   ·refine nx ⟨k+1,n⟩ ?_
    rw [if_neg (by rw [decide_eq_true_eq];omega)] at hi
    exact⟨by omega,by rw [decide_eq_false (show ¬((k+1:Nat):Int)=0 by omega)];exact hi⟩
   ·exfalso;omega
 ·(repeat' ((conv=>whnf);first|(exfalso;omega)|refine gA ?_|(refine gB ?_ ?_<;>intro h)|(refine gI ?_;intro x hx)|(refine gJ ?_;intro j x hj hx)|refine gV ?_|intro _))<;>try (conv=>whnf)
  refine⟨?_,rfl,trivial⟩
  rw [← hi,pG hlt];rfl
theorem FT (m:Mode) (r:Int):Con 269 [.d m.av,.ref (i64 r)] (UN (fT m.use r)):=by
 refine con Tryz.func269 rfl rfl Tryz.call269 rfl fun hwf=>?_
 (repeat' ((conv=>whnf);first|refine gA ?_|(refine gB ?_ ?_<;>intro h)|refine gC (Ap m.use r) ?_|intro _))<;>try (conv=>whnf)
 exact fv
theorem xW (a:aB) (ms:List Int) (r:Int):Con 240 [.d a.av,.d (ints ms),.d (i64 r)] (.d (i64 (jC a ms r))):=by
 refine con Tryz.func240 rfl rfl Tryz.call240 rfl fun hwf=>?_
 (repeat' ((conv=>whnf);first|refine gA ?_|(refine gB ?_ ?_<;>intro h)|refine gC (qF a ms) ?_|refine gC (Aq (chosen a ms) 269 [i64 r] (fun m=>fT m.use r) fun x=>FT x r) ?_|intro _))<;>try (conv=>whnf)
 exact⟨rfl,rfl,trivial⟩
theorem vK (m:Mode) (r:Int):Con 275 [.d m.av,.ref (i64 r)] (UN (fT m.con r)):=by
 refine con Tryz.func275 rfl rfl Tryz.call275 rfl fun hwf=>?_
 (repeat' ((conv=>whnf);first|refine gA ?_|(refine gB ?_ ?_<;>intro h)|refine gC (Ap m.con r) ?_|intro _))<;>try (conv=>whnf)
 exact fv
theorem wZ (a:aB) (ms:List Int) (r:Int):Con 244 [.d a.av,.d (ints ms),.d (i64 r)] (.d (i64 (Cq a ms r))):=by
 refine con Tryz.func244 rfl rfl Tryz.call244 rfl fun hwf=>?_
 (repeat' ((conv=>whnf);first|refine gA ?_|(refine gB ?_ ?_<;>intro h)|refine gC (qF a ms) ?_|refine gC (Aq (chosen a ms) 275 [i64 r] (fun m=>fT m.con r) fun x=>vK x r) ?_|intro _))<;>try (conv=>whnf)
 exact⟨rfl,rfl,trivial⟩
def pick (b:Bool) (m:Mode):List Int:=if b=true then m.con else m.use
end Go.Proofs.YtefgamefajmdkaaGreat.Abs
