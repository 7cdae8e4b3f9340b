/- Contracts: modes of activities, the least of some numbers. -/
import Derived.Test.YtglikcnmgnlejaaGreatC6
set_option linter.all false
set_option maxRecDepth 20000
set_option maxHeartbeats 0
namespace Go.Proofs.YtglikcnmgnlejaaGreat.Abs
open Go.Proofs
def uI:Bool→Int→List Int→Int
 |_,n,[]=>n
 |b,n,x::r=>uI false (if b=true∨x < n then x else n) r
theorem VF (l:List Int):∀n,uI false n l=l.foldl min n:=by
 induction l with
 |nil=>intro n;rfl
 |cons x r ih=>
  intro n
  rw [uI,ih,List.foldl_cons]
  congr 1
  by_cases h:x < n
  ·rw [if_pos (.inr h)];omega
  ·rw [if_neg (by simp [h])];omega
theorem sM (l:List Int):uI true 0 l=least l:=by
 cases l with
 |nil=>rfl
 |cons x r=>rw [uI,if_pos (.inl rfl),VF];rfl
def Gp:Bool→Int→List (Option Int)→Int
 |_,n,[]=>n
 |_,_,none::_=>0
 |b,n,some x::r=>Gp false (if b=true∨x < n then x else n) r
theorem aaS (l:List (Option Int)):∀b n,Gp b n l=if l.all Option.isSome=true then uI b n (l.map fun o=>o.getD 0) else 0:=by
 induction l with
 |nil=>intro b n;rfl
 |cons x r ih=>
  intro b n
  cases x with
  |none=>simp [Gp]
  |some x=>rw [Gp,ih];simp [uI]
theorem OQ (l:List Mode) (f:Mode→Option Int):Gp true 0 (l.map f)=leastOf l f:=by
 rw [aaS,leastOf,sM]
 simp [List.map_map,Function.comp_def,List.all_map]
theorem zO (ms:List Int):∀(l:List Mode) (k:Nat),(bO ms l k).length≤l.length
 |[],_=>by simp [bO]
 |m::r,k=>by
  have:=zO ms r (k+1)
  rw [bO];split<;>simp<;>omega
theorem KR (a:aC) (ms:List Int):(chosen a ms).length≤a.modes.length:=zO ms _ _
theorem tY (ms:List Int):∀(l:List Mode) (k:Nat) (m:Mode),m∈bO ms l k→m∈l
 |[],_,_,h=>by simp [bO] at h
 |x::r,k,m,h=>by
  rw [bO] at h
  split at h
  ·rcases List.mem_cons.1 h with rfl|h
   ·simp
   ·exact List.mem_cons_of_mem _ (tY ms r (k+1) m h)
  ·exact List.mem_cons_of_mem _ (tY ms r (k+1) m h)
theorem xQ {a:aC} {ms:List Int} {m:Mode} (h:m∈chosen a ms):m∈a.modes:=tY ms _ _ m h
theorem uV (a:aC) (ms:List Int):Con 339 [.d a.av,.d (ints ms)] (.d (.sl ((chosen a ms).map Mode.av))):=by
 refine con Tryz.func339 rfl rfl Tryz.call339 rfl fun hwf=>?_
 simp only [ARs.wf,AR.wf,AV.wf,AV.wfs,lm,lim] at hwf
 (repeat' ((conv=>whnf);first|refine gA ?_|(refine gB ?_ ?_<;>intro h)|(refine gI ?_;intro x hx)|(refine gJ ?_;intro j x hj hx)|refine gP ?_|refine gV ?_|intro _))<;>try (conv=>whnf)
 refine au [1,10,11] [] [8] ?_
 (conv=>whnf)
 refine ak.go ((Nat)×(List Mode)) (fun⟨k,o⟩=>(k≤a.modes.length)∧(o.length≤k)∧(o++bO ms (a.modes.drop k) k=chosen a ms)) (fun⟨k,o⟩=>[(12,.data (i64 k)),(5,.own 8 0)]) (fun _=>[]) (fun⟨k,o⟩=>[(8,141,o.map Mode.av,0)]) (fun⟨k,o⟩=>a.modes.length - k) ⟨0,[]⟩ ?_ ?_
 ·exact⟨by omega,by simp,rfl⟩
 rintro⟨k,o⟩ ⟨hk,ho,hi⟩
 (repeat' ((conv=>whnf);first|refine gA ?_|(refine gB ?_ ?_<;>intro h)|(refine gI ?_;intro x hx)|(refine gJ ?_;intro j x hj hx)|refine gP ?_|refine gV ?_|refine gC (uP ms _) ?_|intro _))<;>try (conv=>whnf)
 ·refine nw ⟨k+1,o++[x]⟩ ?_ ?_
  ·(repeat' ((conv=>whnf)<;>(first|exact trivial|exact rfl|with_reducible refine And.intro ?_ ?_)))<;>((conv=>whnf)<;>(simp))
  rw [ay hx,bO,if_pos h] at hi
  exact⟨by omega,by simp;omega,by rw [← hi];simp⟩
 ·refine nx ⟨k+1,o⟩ ?_
  rw [ay hx,bO,if_neg (Bool.eq_false_iff.1 h)] at hi
  exact⟨by omega,by omega,hi⟩
 ·refine⟨?_,rfl,trivial⟩
  rw [← hi,aG (by assumption)];simp [bO]
theorem Gq (a:aC) (ms:List Int):Con 254 [.d a.av,.d (ints ms)] (.d (i64 (vJ a ms))):=by
 refine con Tryz.func254 rfl rfl Tryz.call254 rfl fun hwf=>?_
 simp only [ARs.wf,AR.wf,AV.wf,AV.wfs,lm,lim] at hwf
 have hl:=KR a ms
 (repeat' ((conv=>whnf);first|refine gA ?_|(refine gB ?_ ?_<;>intro h)|(refine gI ?_;intro x hx)|(refine gJ ?_;intro j x hj hx)|refine gV ?_|refine gC (uV a ms) ?_|intro _))<;>try (conv=>whnf)
 refine au [10,11] [] [] ?_
 (conv=>whnf)
 refine ak.go ((Nat)×(Int)) (fun⟨k,n⟩=>(k≤(chosen a ms).length)∧(uI (decide ((k:Int)=0)) n (((chosen a ms).drop k).map Mode.dur)=vJ a ms)) (fun⟨k,n⟩=>[(12,.data (i64 k)),(5,.data (i64 n))]) (fun _=>[]) (fun _=>[]) (fun⟨k,n⟩=>(chosen a ms).length - k) ⟨0,0⟩ ?_ ?_
 ·exact⟨by omega,by rw [vJ, ← sM];rfl⟩
 rintro⟨k,n⟩ ⟨hk,hi⟩
 (repeat' ((conv=>whnf);first|refine gA ?_|(refine gB ?_ ?_<;>intro h)|(refine gI ?_;intro x hx)|(refine gJ ?_;intro j x hj hx)|refine gV ?_|intro _))<;>try (conv=>whnf)
 ·refine nx ⟨k+1,x.dur⟩ ?_
  rw [ay hx,List.map_cons,uI,if_pos (.inl (by simp [h]))] at hi
  exact⟨by omega,by rw [decide_eq_false (show ¬((k+1:Nat):Int)=0 by omega)];exact hi⟩
 ·refine nx ⟨k+1,x.dur⟩ ?_
  rw [ay hx,List.map_cons,uI,if_pos (.inr h)] at hi
  exact⟨by omega,by rw [decide_eq_false (show ¬((k+1:Nat):Int)=0 by omega)];exact hi⟩
 ·refine nx ⟨k+1,n⟩ ?_
  rw [ay hx,List.map_cons,uI,if_neg (by rw [decide_eq_true_eq];omega)] at hi
  exact⟨by omega,by rw [decide_eq_false (show ¬((k+1:Nat):Int)=0 by omega)];exact hi⟩
 ·refine⟨?_,rfl,trivial⟩
  rw [← hi,aG (by assumption)];rfl
theorem Gt (a:aC) (ms:List Int):Con 335 [.d a.av,.d (ints ms)] (.d (i64 (vJ a ms))):=by
 refine con Tryz.func335 rfl rfl Tryz.call335 rfl fun hwf=>?_
 simp only [ARs.wf,AR.wf,AV.wf,AV.wfs,lm,lim] at hwf
 (repeat' ((conv=>whnf);first|refine gA ?_|(refine gB ?_ ?_<;>intro h)|(refine gI ?_;intro x hx)|(refine gJ ?_;intro j x hj hx)|refine gV ?_|intro _))<;>try (conv=>whnf)
 refine au [1,10,11] [] [] ?_
 (conv=>whnf)
 refine ak.go ((Nat)×(Int)×(Bool)) (fun⟨k,n,b⟩=>(k≤a.modes.length)∧(uI (!b) n ((bO ms (a.modes.drop k) k).map Mode.dur)=vJ a ms)) (fun⟨k,n,b⟩=>[(12,.data (i64 k)),(5,.data (i64 n)),(6,.data (.bool b))]) (fun _=>[]) (fun _=>[]) (fun⟨k,n,b⟩=>a.modes.length - k) ⟨0,0,false⟩ ?_ ?_
 ·exact⟨by omega,by rw [vJ, ← sM];rfl⟩
 rintro⟨k,n,b⟩ ⟨hk,hi⟩
 (repeat' ((conv=>whnf);first|refine gA ?_|(refine gB ?_ ?_<;>intro h)|(refine gI ?_;intro x hx)|(refine gJ ?_;intro j x hj hx)|refine gV ?_|refine gC (fC ms _) ?_|intro _))<;>try (conv=>whnf)
 all_goals first
  |(refine⟨?_,rfl,trivial⟩;rw [← hi,aG (by assumption)];rfl)
  |(refine nx ⟨k+1,x.dur,true⟩ ?_
    refine⟨by omega,?_⟩
    rw [ay hx,bO,if_pos (by assumption),List.map_cons,uI,if_pos (by simp [*])] at hi
    exact hi)
  |(refine nx ⟨k+1,n,b⟩ ?_
    refine⟨by omega,?_⟩
    rw [ay hx,bO,if_neg (Bool.eq_false_iff.1 (by assumption))] at hi
    exact hi)
  |(refine nx ⟨k+1,n,b⟩ ?_
    refine⟨by omega,?_⟩
    rw [ay hx,bO,if_pos (by assumption),List.map_cons,uI,if_neg (by simp [*])] at hi
    rw [← hi];simp [*])
def aaT (o:Option Int):RV:=.tup [.d (i64 (o.getD 0)),.d (.bool o.isSome)]
theorem qN {l:List Int} {i:Int} (h:within i 0 (l.length - 1)=true):∃(n:Nat) (x:Int),i=n∧l[n]? =some x∧eO l i=some x:=by
 have hn:=within_iff.1 h
 refine⟨i.toNat,l[i.toNat]'(by omega),by omega,by simp,?_⟩
 rw [eO,if_pos h,List.getD_eq_getElem?_getD,List.getElem?_eq_getElem (by omega)];rfl
theorem EB (l:List Int) (i:Int):Con 456 [.d (ints l),.d (i64 i)] (aaT (eO l i)):=by
 refine con Tryz.func456 rfl rfl Tryz.call456 rfl fun hwf=>?_
 simp only [ARs.wf,AR.wf,AV.wf,AV.wfs,lm,lim] at hwf
 cases h:within i 0 (l.length - 1) with
 |false=>
  have h':within i 0 (((l.map i64).length:Int) - 1)=false:=by rw [List.length_map];exact h
  (repeat' ((conv=>whnf);first|refine gA ?_|(refine gN ?_ ?_<;>intro h hw)|(refine gB ?_ ?_<;>intro h)|(refine gI ?_;intro x hx)|(refine gJ ?_;intro j x hj hx)|refine gV ?_|refine gC (bC _ _ _) ?_|intro _))<;>try (conv=>whnf)
  rw [eO,if_neg (by simp [h])]
  exact fv
 |true=>
  have h':within i 0 (((l.map i64).length:Int) - 1)=true:=by rw [List.length_map];exact h
  obtain⟨n,x,hn,hx,e⟩:=qN h
  (repeat' ((conv=>whnf);first|with_reducible refine Idx.got hx hn ?_|refine gA ?_|(refine gN ?_ ?_<;>intro h hw)|(refine gB ?_ ?_<;>intro h)|(refine gI ?_;intro x hx)|(refine gJ ?_;intro j x hj hx)|refine gV ?_|refine gC (bC _ _ _) ?_|intro _))<;>try (conv=>whnf)
  rw [e]
  exact fv
theorem EC (l:List Mode) (fc:Nat) (caps:List AV) (f:Mode→Option Int) (hc:∀x:Mode,Con fc ([.d x.av]++caps.map .ref) (aaT (f x))):
  Con 454 [.d (.sl (l.map Mode.av)),.fn fc caps] (.d (i64 (leastOf l f))):=by
 refine con Tryz.func454 rfl rfl Tryz.call454 rfl fun hwf=>?_
 simp only [ARs.wf,AR.wf,AV.wf,AV.wfs,lm,lim] at hwf
 (repeat' ((conv=>whnf);first|refine gA ?_|(refine gB ?_ ?_<;>intro h)|(refine gI ?_;intro x hx)|(refine gJ ?_;intro j x hj hx)|refine gV ?_|intro _))<;>try (conv=>whnf)
 refine au [1,10,11] [] [] ?_
 (conv=>whnf)
 refine ak.go ((Nat)×(Int)) (fun⟨k,n⟩=>(k≤l.length)∧(Gp (decide ((k:Int)=0)) n ((l.drop k).map f)=leastOf l f)) (fun⟨k,n⟩=>[(12,.data (i64 k)),(5,.data (i64 n))]) (fun _=>[]) (fun _=>[]) (fun⟨k,n⟩=>l.length - k) ⟨0,0⟩ ?_ ?_
 ·exact⟨by omega,by rw [← OQ];rfl⟩
 rintro⟨k,n⟩ ⟨hk,hi⟩
 by_cases hlt:k < l.length
 ·obtain⟨x,hx⟩:∃x,l[k]? =some x:=⟨l[k]'hlt,by simp⟩
  have hcx:=hc x
  rw [ay hx,List.map_cons] at hi
  cases e:f x with
  |none=>
   rw [e] at hcx hi
   replace hcx:Con fc ([.d x.av]++caps.map .ref) (.tup [.d (i64 0),.d (.bool false)]):=hcx
   (repeat' ((conv=>whnf);first|with_reducible refine Idx.got hx rfl ?_|refine gA ?_|(refine gB ?_ ?_<;>intro h)|(refine gI ?_;intro x hx)|(refine gJ ?_;intro j x hj hx)|refine gV ?_|refine gC (hcx) ?_|intro _))<;>try (conv=>whnf)
   ·refine⟨?_,rfl,trivial⟩;rw [← hi];rfl
   ·exfalso;omega
  |some y=>
   rw [e,Gp] at hi
   rw [e] at hcx
   replace hcx:Con fc ([.d x.av]++caps.map .ref) (.tup [.d (i64 y),.d (.bool true)]):=hcx
   (repeat' ((conv=>whnf);first|with_reducible refine Idx.got hx rfl ?_|refine gA ?_|(refine gB ?_ ?_<;>intro h)|(refine gI ?_;intro x hx)|(refine gJ ?_;intro j x hj hx)|refine gV ?_|refine gC (hcx) ?_|intro _))<;>try (conv=>whnf)
   ·refine nx ⟨k+1,y⟩ ?_
    rw [if_pos (by rw [decide_eq_true_eq];omega)] at hi
    exact⟨by omega,by rw [decide_eq_false (show ¬((k+1:Nat):Int)=0 by omega)];exact hi⟩
   ·refine nx ⟨k+1,y⟩ ?_
    rw [if_pos (by rw [decide_eq_true_eq];omega)] at hi
    exact⟨by omega,by rw [decide_eq_false (show ¬((k+1:Nat):Int)=0 by omega)];exact hi⟩
   ·refine nx ⟨k+1,n⟩ ?_
    rw [if_neg (by rw [decide_eq_true_eq];omega)] at hi
    exact⟨by omega,by rw [decide_eq_false (show ¬((k+1:Nat):Int)=0 by omega)];exact hi⟩
   ·exfalso;omega
 ·(repeat' ((conv=>whnf);first|(exfalso;omega)|refine gA ?_|(refine gB ?_ ?_<;>intro h)|(refine gI ?_;intro x hx)|(refine gJ ?_;intro j x hj hx)|refine gV ?_|intro _))<;>try (conv=>whnf)
  refine⟨?_,rfl,trivial⟩
  rw [← hi,oW hlt];rfl
theorem KS (m:Mode) (r:Int):Con 455 [.d m.av,.ref (i64 r)] (aaT (eO m.use r)):=by
 refine con Tryz.func455 rfl rfl Tryz.call455 rfl fun hwf=>?_
 (repeat' ((conv=>whnf);first|refine gA ?_|(refine gB ?_ ?_<;>intro h)|refine gC (EB m.use r) ?_|intro _))<;>try (conv=>whnf)
 exact fv
theorem Ca (a:aC) (ms:List Int) (r:Int):Con 435 [.d a.av,.d (ints ms),.d (i64 r)] (.d (i64 (jX a ms r))):=by
 refine con Tryz.func435 rfl rfl Tryz.call435 rfl fun hwf=>?_
 (repeat' ((conv=>whnf);first|refine gA ?_|(refine gB ?_ ?_<;>intro h)|refine gC (uV a ms) ?_|refine gC (EC (chosen a ms) 455 [i64 r] (fun m=>eO m.use r) fun x=>KS x r) ?_|intro _))<;>try (conv=>whnf)
 exact⟨rfl,rfl,trivial⟩
theorem zP (m:Mode) (r:Int):Con 461 [.d m.av,.ref (i64 r)] (aaT (eO m.con r)):=by
 refine con Tryz.func461 rfl rfl Tryz.call461 rfl fun hwf=>?_
 (repeat' ((conv=>whnf);first|refine gA ?_|(refine gB ?_ ?_<;>intro h)|refine gC (EB m.con r) ?_|intro _))<;>try (conv=>whnf)
 exact fv
theorem Bh (a:aC) (ms:List Int) (r:Int):Con 439 [.d a.av,.d (ints ms),.d (i64 r)] (.d (i64 (zH a ms r))):=by
 refine con Tryz.func439 rfl rfl Tryz.call439 rfl fun hwf=>?_
 (repeat' ((conv=>whnf);first|refine gA ?_|(refine gB ?_ ?_<;>intro h)|refine gC (uV a ms) ?_|refine gC (EC (chosen a ms) 461 [i64 r] (fun m=>eO m.con r) fun x=>zP x r) ?_|intro _))<;>try (conv=>whnf)
 exact⟨rfl,rfl,trivial⟩
def pick (b:Bool) (m:Mode):List Int:=if b=true then m.con else m.use
end Go.Proofs.YtglikcnmgnlejaaGreat.Abs
