/- Contracts: modes of activities, the least of some numbers. -/
import Derived.Test.YtjfnojijdggfhaaGreatCy
set_option linter.all false
set_option maxRecDepth 20000
set_option maxHeartbeats 0
namespace Go.Proofs.YtjfnojijdggfhaaGreat.Abs
open Go.Proofs
def Co:Bool→Int→List Int→Int
 |_,n,[]=>n
 |b,n,x::r=>Co false (if b=true∨x < n then x else n) r
theorem RH (l:List Int):∀n,Co false n l=l.foldl min n:=by
 induction l with
 |nil=>intro n;rfl
 |cons x r ih=>
  intro n
  rw [Co,ih,List.foldl_cons]
  congr 1
  by_cases h:x < n
  ·rw [if_pos (.inr h)];omega
  ·rw [if_neg (by simp [h])];omega
theorem El (l:List Int):Co true 0 l=least l:=by
 cases l with
 |nil=>rfl
 |cons x r=>rw [Co,if_pos (.inl rfl),RH];rfl
def RI:Bool→Int→List (Option Int)→Int
 |_,n,[]=>n
 |_,_,none::_=>0
 |b,n,some x::r=>RI false (if b=true∨x < n then x else n) r
theorem WW (l:List (Option Int)):∀b n,RI b n l=if l.all Option.isSome=true then Co b n (l.map fun o=>o.getD 0) else 0:=by
 induction l with
 |nil=>intro b n;rfl
 |cons x r ih=>
  intro b n
  cases x with
  |none=>simp [RI]
  |some x=>rw [RI,ih];simp [Co]
theorem Un (l:List Mode) (f:Mode→Option Int):RI true 0 (l.map f)=leastOf l f:=by
 rw [WW,leastOf,El]
 simp [List.map_map,Function.comp_def,List.all_map]
theorem xu (ms:List Int):∀(l:List Mode) (k:Nat),(bQ ms l k).length≤l.length
 |[],_=>by simp [bQ]
 |m::r,k=>by
  have:=xu ms r (k+1)
  rw [bQ];split<;>simp<;>omega
theorem IK (a:aK) (ms:List Int):(chosen a ms).length≤a.modes.length:=xu ms _ _
theorem qC (ms:List Int):∀(l:List Mode) (k:Nat) (m:Mode),m∈bQ ms l k→m∈l
 |[],_,_,h=>by simp [bQ] at h
 |x::r,k,m,h=>by
  rw [bQ] at h
  split at h
  ·rcases List.mem_cons.1 h with rfl|h
   ·simp
   ·exact List.mem_cons_of_mem _ (qC ms r (k+1) m h)
  ·exact List.mem_cons_of_mem _ (qC ms r (k+1) m h)
theorem uX {a:aK} {ms:List Int} {m:Mode} (h:m∈chosen a ms):m∈a.modes:=qC ms _ _ m h
theorem rE (a:aK) (ms:List Int):Con 169 [.d a.av,.d (ints ms)] (.d (.sl ((chosen a ms).map Mode.av))):=by
 refine con Tryz.func169 rfl rfl Tryz.call169 rfl fun hwf=>?_
 simp only [ARs.wf,AR.wf,AV.wf,AV.wfs,lm,lim] at hwf
 (repeat' ((conv=>whnf);first|refine gA ?_|(refine gB ?_ ?_<;>intro h)|(refine gI ?_;intro x hx)|(refine gJ ?_;intro j x hj hx)|refine gP ?_|refine gV ?_|intro _))<;>try (conv=>whnf)
 refine aB [1,10,11] [] [8] ?_
 (conv=>whnf)
 refine aA.go ((Nat)×(List Mode)) (fun⟨k,o⟩=>(k≤a.modes.length)∧(o.length≤k)∧(o++bQ ms (a.modes.drop k) k=chosen a ms)) (fun⟨k,o⟩=>[(12,.data (i64 k)),(5,.own 8 0)]) (fun _=>[]) (fun⟨k,o⟩=>[(8,158,o.map Mode.av,0)]) (fun⟨k,o⟩=>a.modes.length - k) ⟨0,[]⟩ ?_ ?_
 ·exact⟨by omega,by simp,rfl⟩
 rintro⟨k,o⟩ ⟨hk,ho,hi⟩
 (repeat' ((conv=>whnf);first|refine gA ?_|(refine gB ?_ ?_<;>intro h)|(refine gI ?_;intro x hx)|(refine gJ ?_;intro j x hj hx)|refine gP ?_|refine gV ?_|refine gC (nX ms _) ?_|intro _))<;>try (conv=>whnf)
 ·refine nw ⟨k+1,o++[x]⟩ ?_ ?_
  ·(repeat' ((conv=>whnf)<;>(first|exact trivial|exact rfl|with_reducible refine And.intro ?_ ?_)))<;>((conv=>whnf)<;>(simp))
  rw [au hx,bQ,if_pos h] at hi
  exact⟨by omega,by simp;omega,by rw [← hi];simp⟩
 ·refine nx ⟨k+1,o⟩ ?_
  rw [au hx,bQ,if_neg (Bool.eq_false_iff.1 h)] at hi
  exact⟨by omega,by omega,hi⟩
 ·refine⟨?_,rfl,trivial⟩
  rw [← hi,aJ (by assumption)];simp [bQ]
theorem Em (a:aK) (ms:List Int):Con 146 [.d a.av,.d (ints ms)] (.d (i64 (sw a ms))):=by
 refine con Tryz.func146 rfl rfl Tryz.call146 rfl fun hwf=>?_
 simp only [ARs.wf,AR.wf,AV.wf,AV.wfs,lm,lim] at hwf
 have hl:=IK a ms
 (repeat' ((conv=>whnf);first|refine gA ?_|(refine gB ?_ ?_<;>intro h)|(refine gI ?_;intro x hx)|(refine gJ ?_;intro j x hj hx)|refine gV ?_|refine gC (rE a ms) ?_|intro _))<;>try (conv=>whnf)
 refine aB [10,11] [] [] ?_
 (conv=>whnf)
 refine aA.go ((Nat)×(Int)) (fun⟨k,n⟩=>(k≤(chosen a ms).length)∧(Co (decide ((k:Int)=0)) n (((chosen a ms).drop k).map Mode.dur)=sw a ms)) (fun⟨k,n⟩=>[(12,.data (i64 k)),(5,.data (i64 n))]) (fun _=>[]) (fun _=>[]) (fun⟨k,n⟩=>(chosen a ms).length - k) ⟨0,0⟩ ?_ ?_
 ·exact⟨by omega,by rw [sw, ← El];rfl⟩
 rintro⟨k,n⟩ ⟨hk,hi⟩
 (repeat' ((conv=>whnf);first|refine gA ?_|(refine gB ?_ ?_<;>intro h)|(refine gI ?_;intro x hx)|(refine gJ ?_;intro j x hj hx)|refine gV ?_|intro _))<;>try (conv=>whnf)
 ·refine nx ⟨k+1,x.dur⟩ ?_
  rw [au hx,List.map_cons,Co,if_pos (.inl (by simp [h]))] at hi
  exact⟨by omega,by rw [decide_eq_false (show ¬((k+1:Nat):Int)=0 by omega)];exact hi⟩
 ·refine nx ⟨k+1,x.dur⟩ ?_
  rw [au hx,List.map_cons,Co,if_pos (.inr h)] at hi
  exact⟨by omega,by rw [decide_eq_false (show ¬((k+1:Nat):Int)=0 by omega)];exact hi⟩
 ·refine nx ⟨k+1,n⟩ ?_
  rw [au hx,List.map_cons,Co,if_neg (by rw [decide_eq_true_eq];omega)] at hi
  exact⟨by omega,by rw [decide_eq_false (show ¬((k+1:Nat):Int)=0 by omega)];exact hi⟩
 ·refine⟨?_,rfl,trivial⟩
  rw [← hi,aJ (by assumption)];rfl
def WX (o:Option Int):RV:=.tup [.d (i64 (o.getD 0)),.d (.bool o.isSome)]
theorem zn {l:List Int} {i:Int} (h:within i 0 (l.length - 1)=true):∃(n:Nat) (x:Int),i=n∧l[n]? =some x∧dM l i=some x:=by
 have hn:=within_iff.1 h
 refine⟨i.toNat,l[i.toNat]'(by omega),by omega,by simp,?_⟩
 rw [dM,if_pos h,List.getD_eq_getElem?_getD,List.getElem?_eq_getElem (by omega)];rfl
theorem Cq (l:List Int) (i:Int):Con 179 [.d (ints l),.d (i64 i)] (WX (dM l i)):=by
 refine con Tryz.func179 rfl rfl Tryz.call179 rfl fun hwf=>?_
 simp only [ARs.wf,AR.wf,AV.wf,AV.wfs,lm,lim] at hwf
 cases h:within i 0 (l.length - 1) with
 |false=>
  have h':within i 0 (((l.map i64).length:Int) - 1)=false:=by rw [List.length_map];exact h
  (repeat' ((conv=>whnf);first|refine gA ?_|(refine gN ?_ ?_<;>intro h hw)|(refine gB ?_ ?_<;>intro h)|(refine gI ?_;intro x hx)|(refine gJ ?_;intro j x hj hx)|refine gV ?_|refine gC (aP _ _ _) ?_|intro _))<;>try (conv=>whnf)
  rw [dM,if_neg (by simp [h])]
  exact fv
 |true=>
  have h':within i 0 (((l.map i64).length:Int) - 1)=true:=by rw [List.length_map];exact h
  obtain⟨n,x,hn,hx,e⟩:=zn h
  (repeat' ((conv=>whnf);first|with_reducible refine Idx.got hx hn ?_|refine gA ?_|(refine gN ?_ ?_<;>intro h hw)|(refine gB ?_ ?_<;>intro h)|(refine gI ?_;intro x hx)|(refine gJ ?_;intro j x hj hx)|refine gV ?_|refine gC (aP _ _ _) ?_|intro _))<;>try (conv=>whnf)
  rw [e]
  exact fv
theorem Cr (l:List Mode) (fc:Nat) (caps:List AV) (f:Mode→Option Int) (hc:∀x:Mode,Con fc ([.d x.av]++caps.map .ref) (WX (f x))):
  Con 177 [.d (.sl (l.map Mode.av)),.fn fc caps] (.d (i64 (leastOf l f))):=by
 refine con Tryz.func177 rfl rfl Tryz.call177 rfl fun hwf=>?_
 simp only [ARs.wf,AR.wf,AV.wf,AV.wfs,lm,lim] at hwf
 (repeat' ((conv=>whnf);first|refine gA ?_|(refine gB ?_ ?_<;>intro h)|(refine gI ?_;intro x hx)|(refine gJ ?_;intro j x hj hx)|refine gV ?_|intro _))<;>try (conv=>whnf)
 refine aB [1,10,11] [] [] ?_
 (conv=>whnf)
 refine aA.go ((Nat)×(Int)) (fun⟨k,n⟩=>(k≤l.length)∧(RI (decide ((k:Int)=0)) n ((l.drop k).map f)=leastOf l f)) (fun⟨k,n⟩=>[(12,.data (i64 k)),(5,.data (i64 n))]) (fun _=>[]) (fun _=>[]) (fun⟨k,n⟩=>l.length - k) ⟨0,0⟩ ?_ ?_
 ·exact⟨by omega,by rw [← Un];rfl⟩
 rintro⟨k,n⟩ ⟨hk,hi⟩
 by_cases hlt:k < l.length
 ·obtain⟨x,hx⟩:∃x,l[k]? =some x:=⟨l[k]'hlt,by simp⟩
  have hcx:=hc x
  rw [au hx,List.map_cons] at hi
  cases e:f x with
  |none=>
   rw [e] at hcx hi
   replace hcx:Con fc ([.d x.av]++caps.map .ref) (.tup [.d (i64 0),.d (.bool false)]):=hcx
   (repeat' ((conv=>whnf);first|with_reducible refine Idx.got hx rfl ?_|refine gA ?_|(refine gB ?_ ?_<;>intro h)|(refine gI ?_;intro x hx)|(refine gJ ?_;intro j x hj hx)|refine gV ?_|refine gC (hcx) ?_|intro _))<;>try (conv=>whnf)
   ·refine⟨?_,rfl,trivial⟩;rw [← hi];rfl
   ·exfalso;omega
  |some y=>
   rw [e,RI] at hi
   rw [e] at hcx
   replace hcx:Con fc ([.d x.av]++caps.map .ref) (.tup [.d (i64 y),.d (.bool true)]):=hcx
   (repeat' ((conv=>whnf);first|with_reducible refine Idx.got hx rfl ?_|refine gA ?_|(refine gB ?_ ?_<;>intro h)|(refine gI ?_;intro x hx)|(refine gJ ?_;intro j x hj hx)|refine gV ?_|refine gC (hcx) ?_|intro _))<;>try (conv=>whnf)
   ·refine nx ⟨k+1,y⟩ ?_
    rw [if_pos (by rw [decide_eq_true_eq];omega)] at hi
    exact⟨by omega,by rw [decide_eq_false (show ¬((k+1:Nat):Int)=0 by omega)];exact hi⟩
   ·refine nx ⟨k+1,y⟩ ?_
    rw [if_pos (by rw [decide_eq_true_eq];omega)] at hi
    exact⟨by omega,by rw [decide_eq_false (show ¬((k+1:Nat):Int)=0 by omega)];exact hi⟩
   ·refine nx ⟨k+1,n⟩ ?_
    rw [if_neg (by rw [decide_eq_true_eq];omega)] at hi
    exact⟨by omega,by rw [decide_eq_false (show ¬((k+1:Nat):Int)=0 by omega)];exact hi⟩
   ·exfalso;omega
 ·(repeat' ((conv=>whnf);first|(exfalso;omega)|refine gA ?_|(refine gB ?_ ?_<;>intro h)|(refine gI ?_;intro x hx)|(refine gJ ?_;intro j x hj hx)|refine gV ?_|intro _))<;>try (conv=>whnf)
  refine⟨?_,rfl,trivial⟩
  rw [← hi,wU hlt];rfl
theorem IL (m:Mode) (r:Int):Con 178 [.d m.av,.ref (i64 r)] (WX (dM m.use r)):=by
 refine con Tryz.func178 rfl rfl Tryz.call178 rfl fun hwf=>?_
 (repeat' ((conv=>whnf);first|refine gA ?_|(refine gB ?_ ?_<;>intro h)|refine gC (Cq m.use r) ?_|intro _))<;>try (conv=>whnf)
 exact fv
theorem zo (a:aK) (ms:List Int) (r:Int):Con 148 [.d a.av,.d (ints ms),.d (i64 r)] (.d (i64 (iA a ms r))):=by
 refine con Tryz.func148 rfl rfl Tryz.call148 rfl fun hwf=>?_
 (repeat' ((conv=>whnf);first|refine gA ?_|(refine gB ?_ ?_<;>intro h)|refine gC (rE a ms) ?_|refine gC (Cr (chosen a ms) 178 [i64 r] (fun m=>dM m.use r) fun x=>IL x r) ?_|intro _))<;>try (conv=>whnf)
 exact⟨rfl,rfl,trivial⟩
theorem xw (m:Mode) (r:Int):Con 184 [.d m.av,.ref (i64 r)] (WX (dM m.con r)):=by
 refine con Tryz.func184 rfl rfl Tryz.call184 rfl fun hwf=>?_
 (repeat' ((conv=>whnf);first|refine gA ?_|(refine gB ?_ ?_<;>intro h)|refine gC (Cq m.con r) ?_|intro _))<;>try (conv=>whnf)
 exact fv
theorem yL (a:aK) (ms:List Int) (r:Int):Con 153 [.d a.av,.d (ints ms),.d (i64 r)] (.d (i64 (uR a ms r))):=by
 refine con Tryz.func153 rfl rfl Tryz.call153 rfl fun hwf=>?_
 (repeat' ((conv=>whnf);first|refine gA ?_|(refine gB ?_ ?_<;>intro h)|refine gC (rE a ms) ?_|refine gC (Cr (chosen a ms) 184 [i64 r] (fun m=>dM m.con r) fun x=>xw x r) ?_|intro _))<;>try (conv=>whnf)
 exact⟨rfl,rfl,trivial⟩
def pick (b:Bool) (m:Mode):List Int:=if b=true then m.con else m.use
open Go.Proofs
end Go.Proofs.YtjfnojijdggfhaaGreat.Abs
