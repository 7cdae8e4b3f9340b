/- Contracts: modes of activities, the least of some numbers. -/
import Derived.Test.YtmenphiahgkjkaaGreatDoorCy
set_option linter.all false
set_option maxRecDepth 20000
set_option maxHeartbeats 0
namespace Go.Proofs.YtmenphiahgkjkaaGreatDoor.Abs
open Go.Proofs
def EG:Bool→Int→List Int→Int
 |_,n,[]=>n
 |b,n,x::r=>EG false (if b=true∨x < n then x else n) r
theorem Vp (l:List Int):∀n,EG false n l=l.foldl min n:=by
 induction l with
 |nil=>intro n;rfl
 |cons x r ih=>
  intro n
  rw [EG,ih,List.foldl_cons]
  congr 1
  by_cases h:x < n
  ·rw [if_pos (.inr h)];omega
  ·rw [if_neg (by simp [h])];omega
theorem Gy (l:List Int):EG true 0 l=least l:=by
 cases l with
 |nil=>rfl
 |cons x r=>rw [EG,if_pos (.inl rfl),Vp];rfl
def Vq:Bool→Int→List (Option Int)→Int
 |_,n,[]=>n
 |_,_,none::_=>0
 |b,n,some x::r=>Vq false (if b=true∨x < n then x else n) r
theorem aaf (l:List (Option Int)):∀b n,Vq b n l=if l.all Option.isSome=true then EG b n (l.map fun o=>o.getD 0) else 0:=by
 induction l with
 |nil=>intro b n;rfl
 |cons x r ih=>
  intro b n
  cases x with
  |none=>simp [Vq]
  |some x=>rw [Vq,ih];simp [EG]
theorem XD (l:List Mode) (f:Mode→Option Int):Vq true 0 (l.map f)=leastOf l f:=by
 rw [aaf,leastOf,Gy]
 simp [List.map_map,Function.comp_def,List.all_map]
theorem zF (ms:List Int):∀(l:List Mode) (k:Nat),(bT ms l k).length≤l.length
 |[],_=>by simp [bT]
 |m::r,k=>by
  have:=zF ms r (k+1)
  rw [bT];split<;>simp<;>omega
theorem KQ (a:aC) (ms:List Int):(chosen a ms).length≤a.modes.length:=zF ms _ _
theorem tF (ms:List Int):∀(l:List Mode) (k:Nat) (m:Mode),m∈bT ms l k→m∈l
 |[],_,_,h=>by simp [bT] at h
 |x::r,k,m,h=>by
  rw [bT] at h
  split at h
  ·rcases List.mem_cons.1 h with rfl|h
   ·simp
   ·exact List.mem_cons_of_mem _ (tF ms r (k+1) m h)
  ·exact List.mem_cons_of_mem _ (tF ms r (k+1) m h)
theorem xJ {a:aC} {ms:List Int} {m:Mode} (h:m∈chosen a ms):m∈a.modes:=tF ms _ _ m h
theorem uK (a:aC) (ms:List Int):Con 198 [.d a.av,.d (ints ms)] (.d (.sl ((chosen a ms).map Mode.av))):=by
 refine con Tryz.func198 rfl rfl Tryz.call198 rfl fun hwf=>?_
 simp only [ARs.wf,AR.wf,AV.wf,AV.wfs,lm,lim] at hwf
 (repeat' ((conv=>whnf);first|refine gA ?_|(refine gB ?_ ?_<;>intro h)|(refine gI ?_;intro x hx)|(refine gJ ?_;intro j x hj hx)|refine gP ?_|refine gV ?_|intro _))<;>try (conv=>whnf)
 refine aB [1,10,11] [] [8] ?_
 (conv=>whnf)
 refine aA.go ((Nat)×(List Mode)) (fun⟨k,o⟩=>(k≤a.modes.length)∧(o.length≤k)∧(o++bT ms (a.modes.drop k) k=chosen a ms)) (fun⟨k,o⟩=>[(12,.data (i64 k)),(5,.own 8 0)]) (fun _=>[]) (fun⟨k,o⟩=>[(8,114,o.map Mode.av,0)]) (fun⟨k,o⟩=>a.modes.length - k) ⟨0,[]⟩ ?_ ?_
 ·exact⟨by omega,by simp,rfl⟩
 rintro⟨k,o⟩ ⟨hk,ho,hi⟩
 (repeat' ((conv=>whnf);first|refine gA ?_|(refine gB ?_ ?_<;>intro h)|(refine gI ?_;intro x hx)|(refine gJ ?_;intro j x hj hx)|refine gP ?_|refine gV ?_|refine gC (uI ms _) ?_|intro _))<;>try (conv=>whnf)
 ·refine nw ⟨k+1,o++[x]⟩ ?_ ?_
  ·(repeat' ((conv=>whnf)<;>(first|exact trivial|exact rfl|with_reducible refine And.intro ?_ ?_)))<;>((conv=>whnf)<;>(simp))
  rw [aF hx,bT,if_pos h] at hi
  exact⟨by omega,by simp;omega,by rw [← hi];simp⟩
 ·refine nx ⟨k+1,o⟩ ?_
  rw [aF hx,bT,if_neg (Bool.eq_false_iff.1 h)] at hi
  exact⟨by omega,by omega,hi⟩
 ·refine⟨?_,rfl,trivial⟩
  rw [← hi,bC (by assumption)];simp [bT]
theorem Gz (a:aC) (ms:List Int):Con 171 [.d a.av,.d (ints ms)] (.d (i64 (vF a ms))):=by
 refine con Tryz.func171 rfl rfl Tryz.call171 rfl fun hwf=>?_
 simp only [ARs.wf,AR.wf,AV.wf,AV.wfs,lm,lim] at hwf
 have hl:=KQ a ms
 (repeat' ((conv=>whnf);first|refine gA ?_|(refine gB ?_ ?_<;>intro h)|(refine gI ?_;intro x hx)|(refine gJ ?_;intro j x hj hx)|refine gV ?_|refine gC (uK a ms) ?_|intro _))<;>try (conv=>whnf)
 refine aB [10,11] [] [] ?_
 (conv=>whnf)
 refine aA.go ((Nat)×(Int)) (fun⟨k,n⟩=>(k≤(chosen a ms).length)∧(EG (decide ((k:Int)=0)) n (((chosen a ms).drop k).map Mode.dur)=vF a ms)) (fun⟨k,n⟩=>[(12,.data (i64 k)),(5,.data (i64 n))]) (fun _=>[]) (fun _=>[]) (fun⟨k,n⟩=>(chosen a ms).length - k) ⟨0,0⟩ ?_ ?_
 ·exact⟨by omega,by rw [vF, ← Gy];rfl⟩
 rintro⟨k,n⟩ ⟨hk,hi⟩
 (repeat' ((conv=>whnf);first|refine gA ?_|(refine gB ?_ ?_<;>intro h)|(refine gI ?_;intro x hx)|(refine gJ ?_;intro j x hj hx)|refine gV ?_|intro _))<;>try (conv=>whnf)
 ·refine nx ⟨k+1,x.dur⟩ ?_
  rw [aF hx,List.map_cons,EG,if_pos (.inl (by simp [h]))] at hi
  exact⟨by omega,by rw [decide_eq_false (show ¬((k+1:Nat):Int)=0 by omega)];exact hi⟩
 ·refine nx ⟨k+1,x.dur⟩ ?_
  rw [aF hx,List.map_cons,EG,if_pos (.inr h)] at hi
  exact⟨by omega,by rw [decide_eq_false (show ¬((k+1:Nat):Int)=0 by omega)];exact hi⟩
 ·refine nx ⟨k+1,n⟩ ?_
  rw [aF hx,List.map_cons,EG,if_neg (by rw [decide_eq_true_eq];omega)] at hi
  exact⟨by omega,by rw [decide_eq_false (show ¬((k+1:Nat):Int)=0 by omega)];exact hi⟩
 ·refine⟨?_,rfl,trivial⟩
  rw [← hi,bC (by assumption)];rfl
def aag (o:Option Int):RV:=.tup [.d (i64 (o.getD 0)),.d (.bool o.isSome)]
theorem BQ {l:List Int} {i:Int} (h:within i 0 (l.length - 1)=true):∃(n:Nat) (x:Int),i=n∧l[n]? =some x∧dY l i=some x:=by
 have hn:=within_iff.1 h
 refine⟨i.toNat,l[i.toNat]'(by omega),by omega,by simp,?_⟩
 rw [dY,if_pos h,List.getD_eq_getElem?_getD,List.getElem?_eq_getElem (by omega)];rfl
theorem EH (l:List Int) (i:Int):Con 201 [.d (ints l),.d (i64 i)] (aag (dY l i)):=by
 refine con Tryz.func201 rfl rfl Tryz.call201 rfl fun hwf=>?_
 simp only [ARs.wf,AR.wf,AV.wf,AV.wfs,lm,lim] at hwf
 cases h:within i 0 (l.length - 1) with
 |false=>
  have h':within i 0 (((l.map i64).length:Int) - 1)=false:=by rw [List.length_map];exact h
  (repeat' ((conv=>whnf);first|refine gA ?_|(refine gN ?_ ?_<;>intro h hw)|(refine gB ?_ ?_<;>intro h)|(refine gI ?_;intro x hx)|(refine gJ ?_;intro j x hj hx)|refine gV ?_|refine gC (aS _ _ _) ?_|intro _))<;>try (conv=>whnf)
  rw [dY,if_neg (by simp [h])]
  exact fv
 |true=>
  have h':within i 0 (((l.map i64).length:Int) - 1)=true:=by rw [List.length_map];exact h
  obtain⟨n,x,hn,hx,e⟩:=BQ h
  (repeat' ((conv=>whnf);first|with_reducible refine Idx.got hx hn ?_|refine gA ?_|(refine gN ?_ ?_<;>intro h hw)|(refine gB ?_ ?_<;>intro h)|(refine gI ?_;intro x hx)|(refine gJ ?_;intro j x hj hx)|refine gV ?_|refine gC (aS _ _ _) ?_|intro _))<;>try (conv=>whnf)
  rw [e]
  exact fv
theorem EI (l:List Mode) (fc:Nat) (caps:List AV) (f:Mode→Option Int) (hc:∀x:Mode,Con fc ([.d x.av]++caps.map .ref) (aag (f x))):
  Con 199 [.d (.sl (l.map Mode.av)),.fn fc caps] (.d (i64 (leastOf l f))):=by
 refine con Tryz.func199 rfl rfl Tryz.call199 rfl fun hwf=>?_
 simp only [ARs.wf,AR.wf,AV.wf,AV.wfs,lm,lim] at hwf
 (repeat' ((conv=>whnf);first|refine gA ?_|(refine gB ?_ ?_<;>intro h)|(refine gI ?_;intro x hx)|(refine gJ ?_;intro j x hj hx)|refine gV ?_|intro _))<;>try (conv=>whnf)
 refine aB [1,10,11] [] [] ?_
 (conv=>whnf)
 refine aA.go ((Nat)×(Int)) (fun⟨k,n⟩=>(k≤l.length)∧(Vq (decide ((k:Int)=0)) n ((l.drop k).map f)=leastOf l f)) (fun⟨k,n⟩=>[(12,.data (i64 k)),(5,.data (i64 n))]) (fun _=>[]) (fun _=>[]) (fun⟨k,n⟩=>l.length - k) ⟨0,0⟩ ?_ ?_
 ·exact⟨by omega,by rw [← XD];rfl⟩
 rintro⟨k,n⟩ ⟨hk,hi⟩
 by_cases hlt:k < l.length
 ·obtain⟨x,hx⟩:∃x,l[k]? =some x:=⟨l[k]'hlt,by simp⟩
  have hcx:=hc x
  rw [aF hx,List.map_cons] at hi
  cases e:f x with
  |none=>
   rw [e] at hcx hi
   replace hcx:Con fc ([.d x.av]++caps.map .ref) (.tup [.d (i64 0),.d (.bool false)]):=hcx
   (repeat' ((conv=>whnf);first|with_reducible refine Idx.got hx rfl ?_|refine gA ?_|(refine gB ?_ ?_<;>intro h)|(refine gI ?_;intro x hx)|(refine gJ ?_;intro j x hj hx)|refine gV ?_|refine gC (hcx) ?_|intro _))<;>try (conv=>whnf)
   ·refine⟨?_,rfl,trivial⟩;rw [← hi];rfl
   ·exfalso;omega
  |some y=>
   rw [e,Vq] at hi
   rw [e] at hcx
   replace hcx:Con fc ([.d x.av]++caps.map .ref) (.tup [.d (i64 y),.d (.bool true)]):=hcx
   (repeat' ((conv=>whnf);first|with_reducible refine Idx.got hx rfl ?_|refine gA ?_|(refine gB ?_ ?_<;>intro h)|(refine gI ?_;intro x hx)|(refine gJ ?_;intro j x hj hx)|refine gV ?_|refine gC (hcx) ?_|intro _))<;>try (conv=>whnf)
   ·refine nx ⟨k+1,y⟩ ?_
    rw [if_pos (by rw [decide_eq_true_eq];omega)] at hi
    exact⟨by omega,by rw [decide_eq_false (show ¬((k+1:Nat):Int)=0 by omega)];exact hi⟩
   ·refine nx ⟨k+1,y⟩ ?_
    rw [if_pos (by rw [decide_eq_true_eq];omega)] at hi
    exact⟨by omega,by rw [decide_eq_false (show ¬((k+1:Nat):Int)=0 by omega)];exact hi⟩
   ·refine nx ⟨k+1,n⟩ ?_
    rw [if_neg (by rw [decide_eq_true_eq];omega)] at hi
    exact⟨by omega,by rw [decide_eq_false (show ¬((k+1:Nat):Int)=0 by omega)];exact hi⟩
   ·exfalso;omega
 ·(repeat' ((conv=>whnf);first|(exfalso;omega)|refine gA ?_|(refine gB ?_ ?_<;>intro h)|(refine gI ?_;intro x hx)|(refine gJ ?_;intro j x hj hx)|refine gV ?_|intro _))<;>try (conv=>whnf)
  refine⟨?_,rfl,trivial⟩
  rw [← hi,sW hlt];rfl
theorem KR (m:Mode) (r:Int):Con 200 [.d m.av,.ref (i64 r)] (aag (dY m.use r)):=by
 refine con Tryz.func200 rfl rfl Tryz.call200 rfl fun hwf=>?_
 (repeat' ((conv=>whnf);first|refine gA ?_|(refine gB ?_ ?_<;>intro h)|refine gC (EH m.use r) ?_|intro _))<;>try (conv=>whnf)
 exact fv
theorem BR (a:aC) (ms:List Int) (r:Int):Con 173 [.d a.av,.d (ints ms),.d (i64 r)] (.d (i64 (je a ms r))):=by
 refine con Tryz.func173 rfl rfl Tryz.call173 rfl fun hwf=>?_
 (repeat' ((conv=>whnf);first|refine gA ?_|(refine gB ?_ ?_<;>intro h)|refine gC (uK a ms) ?_|refine gC (EI (chosen a ms) 200 [i64 r] (fun m=>dY m.use r) fun x=>KR x r) ?_|intro _))<;>try (conv=>whnf)
 exact⟨rfl,rfl,trivial⟩
theorem zG (m:Mode) (r:Int):Con 206 [.d m.av,.ref (i64 r)] (aag (dY m.con r)):=by
 refine con Tryz.func206 rfl rfl Tryz.call206 rfl fun hwf=>?_
 (repeat' ((conv=>whnf);first|refine gA ?_|(refine gB ?_ ?_<;>intro h)|refine gC (EH m.con r) ?_|intro _))<;>try (conv=>whnf)
 exact fv
theorem AZ (a:aC) (ms:List Int) (r:Int):Con 177 [.d a.av,.d (ints ms),.d (i64 r)] (.d (i64 (xC a ms r))):=by
 refine con Tryz.func177 rfl rfl Tryz.call177 rfl fun hwf=>?_
 (repeat' ((conv=>whnf);first|refine gA ?_|(refine gB ?_ ?_<;>intro h)|refine gC (uK a ms) ?_|refine gC (EI (chosen a ms) 206 [i64 r] (fun m=>dY m.con r) fun x=>zG x r) ?_|intro _))<;>try (conv=>whnf)
 exact⟨rfl,rfl,trivial⟩
def pick (b:Bool) (m:Mode):List Int:=if b=true then m.con else m.use
open Go.Proofs
end Go.Proofs.YtmenphiahgkjkaaGreatDoor.Abs
