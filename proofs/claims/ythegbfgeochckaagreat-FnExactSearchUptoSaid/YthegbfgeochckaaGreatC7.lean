/- Part of a proof. -/
import Derived.Test.YthegbfgeochckaaGreatC6
set_option linter.all false
set_option maxRecDepth 20000
set_option maxHeartbeats 0
namespace Go.Proofs.YthegbfgeochckaaGreat.Abs
open Go.Proofs
def xE:Bool->Int->List Int->Int
 |_,n,[]=>n
 |b,n,x::r=>xE false (if b=true\/x < n then x else n) r
theorem Zv (l:List Int):∀n,xE false n l=l.foldl min n:=by
 induction l with
 |nil=>intro n;rfl
 |cons x r ih=>
  intro n
  rw [xE,ih,List.foldl_cons]
  congr 1
  by_cases h:x < n
  ·rw [if_pos (.inr h)];omega
  ·rw [if_neg (by simp [h])];omega
theorem vS (l:List Int):xE true 0 l=least l:=by
 cases l with
 |nil=>rfl
 |cons x r=>rw [xE,if_pos (.inl rfl),Zv];rfl
def Kt:Bool->Int->List (Option Int)->Int
 |_,n,[]=>n
 |_,_,none::_=>0
 |b,n,some x::r=>Kt false (if b=true\/x < n then x else n) r
theorem aeN (l:List (Option Int)):∀b n,Kt b n l=if l.all Option.isSome=true then xE b n (l.map fun o=>o.getD 0) else 0:=by
 induction l with
 |nil=>intro b n;rfl
 |cons x r ih=>
  intro b n
  cases x with
  |none=>simp [Kt]
  |some x=>rw [Kt,ih];simp [xE]
theorem SN (l:List Mode) (f:Mode->Option Int):Kt true 0 (l.map f)=leastOf l f:=by
 rw [aeN,leastOf,vS]
 simp [List.map_map,Function.comp_def,List.all_map]
theorem Cv (ms:List Int):∀(l:List Mode) (k:Nat),(bW ms l k).length<=l.length
 |[],_=>by simp [bW]
 |m::r,k=>by
  have:=Cv ms r (k+1)
  rw [bW];split<;>simp<;>omega
theorem Ox (a:aB) (ms:List Int):(chosen a ms).length<=a.modes.length:=Cv ms _ _
theorem wL (ms:List Int):∀(l:List Mode) (k:Nat) (m:Mode),m∈bW ms l k->m∈l
 |[],_,_,h=>by simp [bW] at h
 |x::r,k,m,h=>by
  rw [bW] at h
  split at h
  ·rcases List.mem_cons.1 h with rfl|h
   ·simp
   ·exact List.mem_cons_of_mem _ (wL ms r (k+1) m h)
  ·exact List.mem_cons_of_mem _ (wL ms r (k+1) m h)
theorem Aj {a:aB} {ms:List Int} {m:Mode} (h:m∈chosen a ms):m∈a.modes:=wL ms _ _ m h
theorem xR (a:aB) (ms:List Int):Con 366 [.d a.av,.d (ints ms)] (.d (.sl ((chosen a ms).map Mode.av))):=by
 refine con Tryz.func366 rfl rfl Tryz.call366 rfl fun hwf=>?_
 simp only [ARs.wf,AR.wf,AV.wf,AV.wfs,lm,lim] at hwf
 try (conv=>whnf)
 refine ay [1,10,11] [] [8] ?_
 (conv=>whnf)
 refine au.go ((Nat)×(List Mode)) (fun⟨k,o⟩=>(k<=a.modes.length)/\(o.length<=k)/\(o++bW ms (a.modes.drop k) k=chosen a ms)) (fun⟨k,o⟩=>[(12,.data (i64 k)),(5,.own 8 0)]) lE (fun⟨k,o⟩=>[(8,210,o.map Mode.av,0)]) (fun⟨k,o⟩=>a.modes.length - k) ⟨0,[]⟩ ?_ ?_
 ·exact⟨by omega,by simp,rfl⟩
 rintro⟨k,o⟩ ⟨hk,ho,hi⟩
 (repeat' ((conv=>whnf);first|refine gAX ?_|(refine gB ?_ ?_<;>intro h)|(refine gI ?_;intro x hx)|refine gC (xL ms _) ?_|intro _))<;>try (conv=>whnf)
 ·refine nwS ⟨k+1,o++[x]⟩ ?_
  rw [aA hx,bW,if_pos h] at hi
  exact⟨by omega,by simp;omega,by rw [<- hi];simp⟩
 ·refine nx ⟨k+1,o⟩ ?_
  rw [aA hx,bW,if_neg (Bool.eq_false_iff.1 h)] at hi
  exact⟨by omega,by omega,hi⟩
 ·refine⟨?_,rfl,trivial⟩
  rw [<- hi,aG (by assumption)];simp [bW]
theorem Ku (a:aB) (ms:List Int):Con 344 [.d a.av,.d (ints ms)] (.d (i64 (yG a ms))):=by
 refine con Tryz.func344 rfl rfl Tryz.call344 rfl fun hwf=>?_
 simp only [ARs.wf,AR.wf,AV.wf,AV.wfs,lm,lim] at hwf
 have hl:=Ox a ms
 (repeat' ((conv=>whnf);first|refine gA ?_|refine gC (xR a ms) ?_|intro _))<;>try (conv=>whnf)
 refine ay [10,11] [] [] ?_
 (conv=>whnf)
 refine au.go ((Nat)×(Int)) (fun⟨k,n⟩=>(k<=(chosen a ms).length)/\(xE (decide ((k:Int)=0)) n (((chosen a ms).drop k).map Mode.dur)=yG a ms)) (fun⟨k,n⟩=>[(12,.data (i64 k)),(5,.data (i64 n))]) lE lE (fun⟨k,n⟩=>(chosen a ms).length - k) ⟨0,0⟩ ?_ ?_
 ·exact⟨by omega,by rw [yG, <- vS];rfl⟩
 rintro⟨k,n⟩ ⟨hk,hi⟩
 (repeat' ((conv=>whnf);first|refine gA ?_|(refine gB ?_ ?_<;>intro h)|(refine gI ?_;intro x hx)))<;>try (conv=>whnf)
 ·refine nx ⟨k+1,x.dur⟩ ?_
  rw [aA hx,List.map_cons,xE,if_pos (.inl (by simp [h]))] at hi
  exact⟨by omega,by rw [decide_eq_false (show ¬((k+1:Nat):Int)=0 by omega)];exact hi⟩
 ·refine nx ⟨k+1,x.dur⟩ ?_
  rw [aA hx,List.map_cons,xE,if_pos (.inr h)] at hi
  exact⟨by omega,by rw [decide_eq_false (show ¬((k+1:Nat):Int)=0 by omega)];exact hi⟩
 ·refine nx ⟨k+1,n⟩ ?_
  rw [aA hx,List.map_cons,xE,if_neg (by rw [decide_eq_true_eq];omega)] at hi
  exact⟨by omega,by rw [decide_eq_false (show ¬((k+1:Nat):Int)=0 by omega)];exact hi⟩
 ·refine⟨?_,rfl,trivial⟩
  rw [<- hi,aG (by assumption)];rfl
theorem Kv (a:aB) (ms:List Int):Con 325 [.d a.av,.d (ints ms)] (.d (i64 (yG a ms))):=by
 refine con Tryz.func325 rfl rfl Tryz.call325 rfl fun hwf=>?_
 simp only [ARs.wf,AR.wf,AV.wf,AV.wfs,lm,lim] at hwf
 try (conv=>whnf)
 refine ay [1,10,11] [] [] ?_
 (conv=>whnf)
 refine au.go ((Nat)×(Int)×(Bool)) (fun⟨k,n,b⟩=>(k<=a.modes.length)/\(xE (!b) n ((bW ms (a.modes.drop k) k).map Mode.dur)=yG a ms)) (fun⟨k,n,b⟩=>[(12,.data (i64 k)),(5,.data (i64 n)),(6,.data (.bool b))]) lE lE (fun⟨k,n,b⟩=>a.modes.length - k) ⟨0,0,false⟩ ?_ ?_
 ·exact⟨by omega,by rw [yG, <- vS];rfl⟩
 rintro⟨k,n,b⟩ ⟨hk,hi⟩
 (repeat' ((conv=>whnf);first|refine gA ?_|(refine gB ?_ ?_<;>intro h)|(refine gI ?_;intro x hx)|refine gC (gT ms _) ?_|intro _))<;>try (conv=>whnf)
 all_goals first
  |(refine⟨?_,rfl,trivial⟩;rw [<- hi,aG (by assumption)];rfl)
  |(refine nx ⟨k+1,x.dur,true⟩ ?_
    refine⟨by omega,?_⟩
    rw [aA hx,bW,if_pos (by assumption),List.map_cons,xE,if_pos (by simp [*])] at hi
    exact hi)
  |(refine nx ⟨k+1,n,b⟩ ?_
    refine⟨by omega,?_⟩
    rw [aA hx,bW,if_neg (Bool.eq_false_iff.1 (by assumption))] at hi
    exact hi)
  |(refine nx ⟨k+1,n,b⟩ ?_
    refine⟨by omega,?_⟩
    rw [aA hx,bW,if_pos (by assumption),List.map_cons,xE,if_neg (by simp [*])] at hi
    rw [<- hi];simp [*])
def aeO (o:Option Int):RV:=.tup [.d (i64 (o.getD 0)),.d (.bool o.isSome)]
theorem tV {l:List Int} {i:Int} (h:within i 0 (l.length - 1)=true):∃(n:Nat) (x:Int),i=n/\l[n]? =some x/\fH l i=some x:=by
 have hn:=within_iff.1 h
 refine⟨i.toNat,l[i.toNat]'(by omega),by omega,by simp,?_⟩
 rw [fH,if_pos h,List.getD_eq_getElem?_getD,List.getElem?_eq_getElem (by omega)];rfl
theorem IL (l:List Int) (i:Int):Con 370 [.d (ints l),.d (i64 i)] (aeO (fH l i)):=by
 refine con Tryz.func370 rfl rfl Tryz.call370 rfl fun hwf=>?_
 simp only [ARs.wf,AR.wf,AV.wf,AV.wfs,lm,lim] at hwf
 cases h:within i 0 (l.length - 1) with
 |false=>
  have h':within i 0 (((l.map i64).length:Int) - 1)=false:=by rw [List.length_map];exact h
  (repeat' ((conv=>whnf);first|refine gA ?_|refine gC (bO _ _ _) ?_|intro _))<;>try (conv=>whnf)
  rw [fH,if_neg (by simp [h])]
  exact fv
 |true=>
  have h':within i 0 (((l.map i64).length:Int) - 1)=true:=by rw [List.length_map];exact h
  obtain⟨n,x,hn,hx,e⟩:=tV h
  (repeat' ((conv=>whnf);first|with_reducible refine Idx.got hx hn ?_|refine gA ?_|refine gC (bO _ _ _) ?_|intro _))<;>try (conv=>whnf)
  rw [e]
  exact fv
theorem IQ (l:List Mode) (fc:Nat) (caps:List AV) (f:Mode->Option Int) (hc:∀x:Mode,Con fc ([.d x.av]++caps.map .ref) (aeO (f x))):
  Con 368 [.d (.sl (l.map Mode.av)),.fn fc caps] (.d (i64 (leastOf l f))):=by
 refine con Tryz.func368 rfl rfl Tryz.call368 rfl fun hwf=>?_
 simp only [ARs.wf,AR.wf,AV.wf,AV.wfs,lm,lim] at hwf
 try (conv=>whnf)
 refine ay [1,10,11] [] [] ?_
 (conv=>whnf)
 refine au.go ((Nat)×(Int)) (fun⟨k,n⟩=>(k<=l.length)/\(Kt (decide ((k:Int)=0)) n ((l.drop k).map f)=leastOf l f)) (fun⟨k,n⟩=>[(12,.data (i64 k)),(5,.data (i64 n))]) lE lE (fun⟨k,n⟩=>l.length - k) ⟨0,0⟩ ?_ ?_
 ·exact⟨by omega,by rw [<- SN];rfl⟩
 rintro⟨k,n⟩ ⟨hk,hi⟩
 by_cases hlt:k < l.length
 ·obtain⟨x,hx⟩:∃x,l[k]? =some x:=⟨l[k]'hlt,by simp⟩
  have hcx:=hc x
  rw [aA hx,List.map_cons] at hi
  cases e:f x with
  |none=>
   rw [e] at hcx hi
   replace hcx:Con fc ([.d x.av]++caps.map .ref) (.tup [.d (i64 0),.d (.bool false)]):=hcx
   (repeat' ((conv=>whnf);first|with_reducible refine Idx.got hx rfl ?_|refine gAV ?_|(refine gB ?_ ?_<;>intro h)|refine gC hcx ?_|intro _))<;>try (conv=>whnf)
   ·refine⟨?_,rfl,trivial⟩;rw [<- hi];rfl
   ·exfalso;omega
  |some y=>
   rw [e,Kt] at hi
   rw [e] at hcx
   replace hcx:Con fc ([.d x.av]++caps.map .ref) (.tup [.d (i64 y),.d (.bool true)]):=hcx
   (repeat' ((conv=>whnf);first|with_reducible refine Idx.got hx rfl ?_|refine gAV ?_|(refine gB ?_ ?_<;>intro h)|refine gC hcx ?_|intro _))<;>try (conv=>whnf)
   ·refine nx ⟨k+1,y⟩ ?_
    rw [if_pos (by rw [decide_eq_true_eq];omega)] at hi
    exact⟨by omega,by rw [decide_eq_false (show ¬((k+1:Nat):Int)=0 by omega)];exact hi⟩
   ·refine nx ⟨k+1,y⟩ ?_
    rw [if_pos (by rw [decide_eq_true_eq];omega)] at hi
    exact⟨by omega,by rw [decide_eq_false (show ¬((k+1:Nat):Int)=0 by omega)];exact hi⟩
   ·refine nx ⟨k+1,n⟩ ?_
    rw [if_neg (by rw [decide_eq_true_eq];omega)] at hi
    exact⟨by omega,by rw [decide_eq_false (show ¬((k+1:Nat):Int)=0 by omega)];exact hi⟩
   ·exfalso;omega
 ·(repeat' ((conv=>whnf);first|(exfalso;omega)|(refine gB ?_ ?_<;>intro h)))<;>try (conv=>whnf)
  refine⟨?_,rfl,trivial⟩
  rw [<- hi,mg hlt];rfl
theorem Oy (m:Mode) (r:Int):Con 369 [.d m.av,.ref (i64 r)] (aeO (fH m.use r)):=by
 refine con Tryz.func369 rfl rfl Tryz.call369 rfl fun hwf=>?_
 (repeat' ((conv=>whnf);first|refine gA ?_|refine gC (IL m.use r) ?_|intro _))
 exact fv
theorem Fj (a:aB) (ms:List Int) (r:Int):Con 346 [.d a.av,.d (ints ms),.d (i64 r)] (.d (i64 (lK a ms r))):=by
 refine con Tryz.func346 rfl rfl Tryz.call346 rfl fun hwf=>?_
 (repeat' ((conv=>whnf);first|refine gA ?_|refine gC (xR a ms) ?_|refine gC (IQ (chosen a ms) 369 [i64 r] (fun m=>fH m.use r) fun x=>Oy x r) ?_|intro _))
 exact⟨rfl,rfl,trivial⟩
theorem Cw (m:Mode) (r:Int):Con 375 [.d m.av,.ref (i64 r)] (aeO (fH m.con r)):=by
 refine con Tryz.func375 rfl rfl Tryz.call375 rfl fun hwf=>?_
 (repeat' ((conv=>whnf);first|refine gA ?_|refine gC (IL m.con r) ?_|intro _))
 exact fv
theorem Eu (a:aB) (ms:List Int) (r:Int):Con 350 [.d a.av,.d (ints ms),.d (i64 r)] (.d (i64 (Cj a ms r))):=by
 refine con Tryz.func350 rfl rfl Tryz.call350 rfl fun hwf=>?_
 (repeat' ((conv=>whnf);first|refine gA ?_|refine gC (xR a ms) ?_|refine gC (IQ (chosen a ms) 375 [i64 r] (fun m=>fH m.con r) fun x=>Cw x r) ?_|intro _))
 exact⟨rfl,rfl,trivial⟩
def pick (b:Bool) (m:Mode):List Int:=if b=true then m.con else m.use
end Go.Proofs.YthegbfgeochckaaGreat.Abs
