/- Contracts: modes of activities, the least of some numbers. -/
import Derived.Test.YtefgamefajmdkaaGreatCy
set_option linter.all false
set_option maxRecDepth 20000
set_option maxHeartbeats 0
namespace Go.Proofs.YtefgamefajmdkaaGreat.Abs
open Go.Proofs
def sJ:Bool→Int→List Int→Int
 |_,n,[]=>n
 |b,n,x::r=>sJ false (if b=true∨x < n then x else n) r
theorem Tx (l:List Int):∀n,sJ false n l=l.foldl min n:=by
 induction l with
 |nil=>intro n;rfl
 |cons x r ih=>
  intro n
  rw [sJ,ih,List.foldl_cons]
  congr 1
  by_cases h:x < n
  ·rw [if_pos (.inr h)];omega
  ·rw [if_neg (by simp [h])];omega
theorem qN (l:List Int):sJ true 0 l=least l:=by
 cases l with
 |nil=>rfl
 |cons x r=>rw [sJ,if_pos (.inl rfl),Tx];rfl
def Gf:Bool→Int→List (Option Int)→Int
 |_,n,[]=>n
 |_,_,none::_=>0
 |b,n,some x::r=>Gf false (if b=true∨x < n then x else n) r
theorem Yk (l:List (Option Int)):∀b n,Gf b n l=if l.all Option.isSome=true then sJ b n (l.map fun o=>o.getD 0) else 0:=by
 induction l with
 |nil=>intro b n;rfl
 |cons x r ih=>
  intro b n
  cases x with
  |none=>simp [Gf]
  |some x=>rw [Gf,ih];simp [sJ]
theorem MZ (l:List Mode) (f:Mode→Option Int):Gf true 0 (l.map f)=leastOf l f:=by
 rw [Yk,leastOf,qN]
 simp [List.map_map,Function.comp_def,List.all_map]
theorem yK (ms:List Int):∀(l:List Mode) (k:Nat),(aS ms l k).length≤l.length
 |[],_=>by simp [aS]
 |m::r,k=>by
  have:=yK ms r (k+1)
  rw [aS];split<;>simp<;>omega
theorem Tz (a:aH) (ms:List Int):(chosen a ms).length≤a.modes.length:=yK ms _ _
theorem rO (ms:List Int):∀(l:List Mode) (k:Nat) (m:Mode),m∈aS ms l k→m∈l
 |[],_,_,h=>by simp [aS] at h
 |x::r,k,m,h=>by
  rw [aS] at h
  split at h
  ·rcases List.mem_cons.1 h with rfl|h
   ·simp
   ·exact List.mem_cons_of_mem _ (rO ms r (k+1) m h)
  ·exact List.mem_cons_of_mem _ (rO ms r (k+1) m h)
theorem wB {a:aH} {ms:List Int} {m:Mode} (h:m∈chosen a ms):m∈a.modes:=rO ms _ _ m h
theorem yL (a:aH) (ms:List Int):Con 267 [.d a.av,.d (ints ms)] (.d (.sl ((chosen a ms).map Mode.av))):=by
 refine con Tryz.func267 rfl rfl Tryz.call267 rfl fun hwf=>?_
 simp only [ARs.wf,AR.wf,AV.wf,AV.wfs,lm,lim] at hwf
 (repeat' ((conv=>whnf);first|refine gA ?_|(refine gB ?_ ?_<;>intro h)|(refine gI ?_;intro x hx)|(refine gJ ?_;intro j x hj hx)|refine gP ?_|refine gV ?_|intro _))<;>try (conv=>whnf)
 refine aB [1,10,11] [] [8] ?_
 (conv=>whnf)
 refine aA.go ((Nat)×(List Mode)) (fun⟨k,o⟩=>(k≤a.modes.length)∧(o.length≤k)∧(o++aS ms (a.modes.drop k) k=chosen a ms)) (fun⟨k,o⟩=>[(12,.data (i64 k)),(5,.own 8 0)]) (fun _=>[]) (fun⟨k,o⟩=>[(8,177,o.map Mode.av,0)]) (fun⟨k,o⟩=>a.modes.length - k) ⟨0,[]⟩ ?_ ?_
 ·exact⟨by omega,by simp,rfl⟩
 rintro⟨k,o⟩ ⟨hk,ho,hi⟩
 (repeat' ((conv=>whnf);first|refine gA ?_|(refine gB ?_ ?_<;>intro h)|(refine gI ?_;intro x hx)|(refine gJ ?_;intro j x hj hx)|refine gP ?_|refine gV ?_|refine gC (sZ ms _) ?_|intro _))<;>try (conv=>whnf)
 ·refine nw ⟨k+1,o++[x]⟩ ?_ ?_
  ·(repeat' ((conv=>whnf)<;>(first|exact trivial|exact rfl|with_reducible refine And.intro ?_ ?_)))<;>((conv=>whnf)<;>(simp))
  rw [au hx,aS,if_pos h] at hi
  exact⟨by omega,by simp;omega,by rw [← hi];simp⟩
 ·refine nx ⟨k+1,o⟩ ?_
  rw [au hx,aS,if_neg (Bool.eq_false_iff.1 h)] at hi
  exact⟨by omega,by omega,hi⟩
 ·refine⟨?_,rfl,trivial⟩
  rw [← hi,aG (by assumption)];simp [aS]
theorem Gg (a:aH) (ms:List Int):Con 238 [.d a.av,.d (ints ms)] (.d (i64 (oh a ms))):=by
 refine con Tryz.func238 rfl rfl Tryz.call238 rfl fun hwf=>?_
 simp only [ARs.wf,AR.wf,AV.wf,AV.wfs,lm,lim] at hwf
 have hl:=Tz a ms
 (repeat' ((conv=>whnf);first|refine gA ?_|(refine gB ?_ ?_<;>intro h)|(refine gI ?_;intro x hx)|(refine gJ ?_;intro j x hj hx)|refine gV ?_|refine gC (yL a ms) ?_|intro _))<;>try (conv=>whnf)
 refine aB [10,11] [] [] ?_
 (conv=>whnf)
 refine aA.go ((Nat)×(Int)) (fun⟨k,n⟩=>(k≤(chosen a ms).length)∧(sJ (decide ((k:Int)=0)) n (((chosen a ms).drop k).map Mode.dur)=oh a ms)) (fun⟨k,n⟩=>[(12,.data (i64 k)),(5,.data (i64 n))]) (fun _=>[]) (fun _=>[]) (fun⟨k,n⟩=>(chosen a ms).length - k) ⟨0,0⟩ ?_ ?_
 ·exact⟨by omega,by rw [oh, ← qN];rfl⟩
 rintro⟨k,n⟩ ⟨hk,hi⟩
 (repeat' ((conv=>whnf);first|refine gA ?_|(refine gB ?_ ?_<;>intro h)|(refine gI ?_;intro x hx)|(refine gJ ?_;intro j x hj hx)|refine gV ?_|intro _))<;>try (conv=>whnf)
 ·refine nx ⟨k+1,x.dur⟩ ?_
  rw [au hx,List.map_cons,sJ,if_pos (.inl (by simp [h]))] at hi
  exact⟨by omega,by rw [decide_eq_false (show ¬((k+1:Nat):Int)=0 by omega)];exact hi⟩
 ·refine nx ⟨k+1,x.dur⟩ ?_
  rw [au hx,List.map_cons,sJ,if_pos (.inr h)] at hi
  exact⟨by omega,by rw [decide_eq_false (show ¬((k+1:Nat):Int)=0 by omega)];exact hi⟩
 ·refine nx ⟨k+1,n⟩ ?_
  rw [au hx,List.map_cons,sJ,if_neg (by rw [decide_eq_true_eq];omega)] at hi
  exact⟨by omega,by rw [decide_eq_false (show ¬((k+1:Nat):Int)=0 by omega)];exact hi⟩
 ·refine⟨?_,rfl,trivial⟩
  rw [← hi,aG (by assumption)];rfl
theorem Gh (a:aH) (ms:List Int):Con 256 [.d a.av,.d (ints ms)] (.d (i64 (oh a ms))):=by
 refine con Tryz.func256 rfl rfl Tryz.call256 rfl fun hwf=>?_
 simp only [ARs.wf,AR.wf,AV.wf,AV.wfs,lm,lim] at hwf
 (repeat' ((conv=>whnf);first|refine gA ?_|(refine gB ?_ ?_<;>intro h)|(refine gI ?_;intro x hx)|(refine gJ ?_;intro j x hj hx)|refine gV ?_|intro _))<;>try (conv=>whnf)
 refine aB [1,10,11] [] [] ?_
 (conv=>whnf)
 refine aA.go ((Nat)×(Int)×(Bool)) (fun⟨k,n,b⟩=>(k≤a.modes.length)∧(sJ (!b) n ((aS ms (a.modes.drop k) k).map Mode.dur)=oh a ms)) (fun⟨k,n,b⟩=>[(12,.data (i64 k)),(5,.data (i64 n)),(6,.data (.bool b))]) (fun _=>[]) (fun _=>[]) (fun⟨k,n,b⟩=>a.modes.length - k) ⟨0,0,false⟩ ?_ ?_
 ·exact⟨by omega,by rw [oh, ← qN];rfl⟩
 rintro⟨k,n,b⟩ ⟨hk,hi⟩
 (repeat' ((conv=>whnf);first|refine gA ?_|(refine gB ?_ ?_<;>intro h)|(refine gI ?_;intro x hx)|(refine gJ ?_;intro j x hj hx)|refine gV ?_|refine gC (eT ms _) ?_|intro _))<;>try (conv=>whnf)
 all_goals first
  |(refine⟨?_,rfl,trivial⟩;rw [← hi,aG (by assumption)];rfl)
  |(refine nx ⟨k+1,x.dur,true⟩ ?_
    refine⟨by omega,?_⟩
    rw [au hx,aS,if_pos (by assumption),List.map_cons,sJ,if_pos (by simp [*])] at hi
    exact hi)
  |(refine nx ⟨k+1,n,b⟩ ?_
    refine⟨by omega,?_⟩
    rw [au hx,aS,if_neg (Bool.eq_false_iff.1 (by assumption))] at hi
    exact hi)
  |(refine nx ⟨k+1,n,b⟩ ?_
    refine⟨by omega,?_⟩
    rw [au hx,aS,if_pos (by assumption),List.map_cons,sJ,if_neg (by simp [*])] at hi
    rw [← hi];simp [*])
def Yl (o:Option Int):RV:=.tup [.d (i64 (o.getD 0)),.d (.bool o.isSome)]
theorem oL {l:List Int} {i:Int} (h:within i 0 (l.length - 1)=true):∃(n:Nat) (x:Int),i=n∧l[n]? =some x∧bT l i=some x:=by
 have hn:=within_iff.1 h
 refine⟨i.toNat,l[i.toNat]'(by omega),by omega,by simp,?_⟩
 rw [bT,if_pos h,List.getD_eq_getElem?_getD,List.getElem?_eq_getElem (by omega)];rfl
theorem Ey (l:List Int) (i:Int):Con 270 [.d (ints l),.d (i64 i)] (Yl (bT l i)):=by
 refine con Tryz.func270 rfl rfl Tryz.call270 rfl fun hwf=>?_
 simp only [ARs.wf,AR.wf,AV.wf,AV.wfs,lm,lim] at hwf
 cases h:within i 0 (l.length - 1) with
 |false=>
  have h':within i 0 (((l.map i64).length:Int) - 1)=false:=by rw [List.length_map];exact h
  (repeat' ((conv=>whnf);first|refine gA ?_|(refine gN ?_ ?_<;>intro h hw)|(refine gB ?_ ?_<;>intro h)|(refine gI ?_;intro x hx)|(refine gJ ?_;intro j x hj hx)|refine gV ?_|refine gC (aV _ _ _) ?_|intro _))<;>try (conv=>whnf)
  rw [bT,if_neg (by simp [h])]
  exact fv
 |true=>
  have h':within i 0 (((l.map i64).length:Int) - 1)=true:=by rw [List.length_map];exact h
  obtain⟨n,x,hn,hx,e⟩:=oL h
  (repeat' ((conv=>whnf);first|with_reducible refine Idx.got hx hn ?_|refine gA ?_|(refine gN ?_ ?_<;>intro h hw)|(refine gB ?_ ?_<;>intro h)|(refine gI ?_;intro x hx)|(refine gJ ?_;intro j x hj hx)|refine gV ?_|refine gC (aV _ _ _) ?_|intro _))<;>try (conv=>whnf)
  rw [e]
  exact fv
theorem Ez (l:List Mode) (fc:Nat) (caps:List AV) (f:Mode→Option Int) (hc:∀x:Mode,Con fc ([.d x.av]++caps.map .ref) (Yl (f x))):
  Con 268 [.d (.sl (l.map Mode.av)),.fn fc caps] (.d (i64 (leastOf l f))):=by
 refine con Tryz.func268 rfl rfl Tryz.call268 rfl fun hwf=>?_
 simp only [ARs.wf,AR.wf,AV.wf,AV.wfs,lm,lim] at hwf
 (repeat' ((conv=>whnf);first|refine gA ?_|(refine gB ?_ ?_<;>intro h)|(refine gI ?_;intro x hx)|(refine gJ ?_;intro j x hj hx)|refine gV ?_|intro _))<;>try (conv=>whnf)
 refine aB [1,10,11] [] [] ?_
 (conv=>whnf)
 refine aA.go ((Nat)×(Int)) (fun⟨k,n⟩=>(k≤l.length)∧(Gf (decide ((k:Int)=0)) n ((l.drop k).map f)=leastOf l f)) (fun⟨k,n⟩=>[(12,.data (i64 k)),(5,.data (i64 n))]) (fun _=>[]) (fun _=>[]) (fun⟨k,n⟩=>l.length - k) ⟨0,0⟩ ?_ ?_
 ·exact⟨by omega,by rw [← MZ];rfl⟩
 rintro⟨k,n⟩ ⟨hk,hi⟩
 by_cases hlt:k < l.length
 ·obtain⟨x,hx⟩:∃x,l[k]? =some x:=⟨l[k]'hlt,by simp⟩
  have hcx:=hc x
  rw [au hx,List.map_cons] at hi
  cases e:f x with
  |none=>
   rw [e] at hcx hi
   replace hcx:Con fc ([.d x.av]++caps.map .ref) (.tup [.d (i64 0),.d (.bool false)]):=hcx
   (repeat' ((conv=>whnf);first|with_reducible refine Idx.got hx rfl ?_|refine gA ?_|(refine gB ?_ ?_<;>intro h)|(refine gI ?_;intro x hx)|(refine gJ ?_;intro j x hj hx)|refine gV ?_|refine gC (hcx) ?_|intro _))<;>try (conv=>whnf)
   ·refine⟨?_,rfl,trivial⟩;rw [← hi];rfl
   ·exfalso;omega
  |some y=>
   rw [e,Gf] at hi
   rw [e] at hcx
   replace hcx:Con fc ([.d x.av]++caps.map .ref) (.tup [.d (i64 y),.d (.bool true)]):=hcx
   (repeat' ((conv=>whnf);first|with_reducible refine Idx.got hx rfl ?_|refine gA ?_|(refine gB ?_ ?_<;>intro h)|(refine gI ?_;intro x hx)|(refine gJ ?_;intro j x hj hx)|refine gV ?_|refine gC (hcx) ?_|intro _))<;>try (conv=>whnf)
   ·refine nx ⟨k+1,y⟩ ?_
    rw [if_pos (by rw [decide_eq_true_eq];omega)] at hi
    exact⟨by omega,by rw [decide_eq_false (show ¬((k+1:Nat):Int)=0 by omega)];exact hi⟩
   ·refine nx ⟨k+1,y⟩ ?_
    rw [if_pos (by rw [decide_eq_true_eq];omega)] at hi
    exact⟨by omega,by rw [decide_eq_false (show ¬((k+1:Nat):Int)=0 by omega)];exact hi⟩
   ·refine nx ⟨k+1,n⟩ ?_
    rw [if_neg (by rw [decide_eq_true_eq];omega)] at hi
    exact⟨by omega,by rw [decide_eq_false (show ¬((k+1:Nat):Int)=0 by omega)];exact hi⟩
   ·exfalso;omega
 ·(repeat' ((conv=>whnf);first|(exfalso;omega)|refine gA ?_|(refine gB ?_ ?_<;>intro h)|(refine gI ?_;intro x hx)|(refine gJ ?_;intro j x hj hx)|refine gV ?_|intro _))<;>try (conv=>whnf)
  refine⟨?_,rfl,trivial⟩
  rw [← hi,nL hlt];rfl
theorem Ku (m:Mode) (r:Int):Con 269 [.d m.av,.ref (i64 r)] (Yl (bT m.use r)):=by
 refine con Tryz.func269 rfl rfl Tryz.call269 rfl fun hwf=>?_
 (repeat' ((conv=>whnf);first|refine gA ?_|(refine gB ?_ ?_<;>intro h)|refine gC (Ey m.use r) ?_|intro _))<;>try (conv=>whnf)
 exact fv
theorem AU (a:aH) (ms:List Int) (r:Int):Con 240 [.d a.av,.d (ints ms),.d (i64 r)] (.d (i64 (gL a ms r))):=by
 refine con Tryz.func240 rfl rfl Tryz.call240 rfl fun hwf=>?_
 (repeat' ((conv=>whnf);first|refine gA ?_|(refine gB ?_ ?_<;>intro h)|refine gC (yL a ms) ?_|refine gC (Ez (chosen a ms) 269 [i64 r] (fun m=>bT m.use r) fun x=>Ku x r) ?_|intro _))<;>try (conv=>whnf)
 exact⟨rfl,rfl,trivial⟩
theorem yM (m:Mode) (r:Int):Con 275 [.d m.av,.ref (i64 r)] (Yl (bT m.con r)):=by
 refine con Tryz.func275 rfl rfl Tryz.call275 rfl fun hwf=>?_
 (repeat' ((conv=>whnf);first|refine gA ?_|(refine gB ?_ ?_<;>intro h)|refine gC (Ey m.con r) ?_|intro _))<;>try (conv=>whnf)
 exact fv
theorem Af (a:aH) (ms:List Int) (r:Int):Con 244 [.d a.av,.d (ints ms),.d (i64 r)] (.d (i64 (rE a ms r))):=by
 refine con Tryz.func244 rfl rfl Tryz.call244 rfl fun hwf=>?_
 (repeat' ((conv=>whnf);first|refine gA ?_|(refine gB ?_ ?_<;>intro h)|refine gC (yL a ms) ?_|refine gC (Ez (chosen a ms) 275 [i64 r] (fun m=>bT m.con r) fun x=>yM x r) ?_|intro _))<;>try (conv=>whnf)
 exact⟨rfl,rfl,trivial⟩
def pick (b:Bool) (m:Mode):List Int:=if b=true then m.con else m.use
open Go.Proofs
theorem AY (a:aH) (ms:List Int) (i:Int) (t:Bool):Con 296 [.d a.av,.d (ints ms),.d (i64 i),.d (.bool t),.d (.bool false)] (.d (i64 (leastOf (chosen a ms) fun m=>bT (pick t m) i))):=by
 refine con Tryz.func296 rfl rfl Tryz.call296 rfl fun hwf=>?_
 simp only [ARs.wf,AR.wf,AV.wf,AV.wfs,lm,lim] at hwf
 rw [← MZ]
 (repeat' ((conv=>whnf);first|refine gA ?_|(refine gN ?_ ?_<;>intro h hw)|(refine gB ?_ ?_<;>intro h)|(refine gI ?_;intro x hx)|(refine gJ ?_;intro j x hj hx)|refine gV ?_|intro _))<;>try (conv=>whnf)
 refine aB [1,2,3,4,18,19] [] [] ?_
 (conv=>whnf)
 refine aA.go ((Nat)×(Int)×(Bool)) (fun⟨k,n,b⟩=>(k≤a.modes.length)∧(Gf (!b) n ((aS ms (a.modes.drop k) k).map fun m=>bT (pick t m) i)=Gf true 0 ((chosen a ms).map fun m=>bT (pick t m) i))) (fun⟨k,n,b⟩=>[(20,.data (i64 k)),(11,.data (i64 n)),(12,.data (.bool b))]) (fun _=>[]) (fun _=>[]) (fun⟨k,n,b⟩=>a.modes.length - k) ⟨0,0,false⟩ ?_ ?_
 ·exact⟨by omega,rfl⟩
 rintro⟨k,n,b⟩ ⟨hk,hi⟩
 by_cases hlt:k < a.modes.length
 ·obtain⟨x,hx⟩:∃x,a.modes[k]? =some x:=⟨a.modes[k]'hlt,by simp⟩
  rw [au hx,aS] at hi
  have hm:=qE hwf.1.2.2.1.2 hx
  simp only [AV.wf,AV.wfs,List.length_map] at hm
  cases hh:ms.contains (k:Int) with
  |false=>
   rw [if_neg (Bool.eq_false_iff.1 hh)] at hi
   (repeat' ((conv=>whnf);first|with_reducible refine Idx.got hx rfl ?_|refine gA ?_|(refine gN ?_ ?_<;>intro h hw)|(refine gB ?_ ?_<;>intro h)|(refine gI ?_;intro x hx)|(refine gJ ?_;intro j x hj hx)|refine gV ?_|refine gC (eT ms _) ?_|intro _))<;>try (conv=>whnf)
   ·refine nx ⟨k+1,n,b⟩ ?_
    exact⟨by omega,hi⟩
   ·exfalso;omega
  |true=>
   rw [if_pos hh,List.map_cons] at hi
   cases ht:t with
   |false=>
    subst ht
    rw [show pick false x=x.use from rfl] at hi
    cases hw:within i 0 (x.use.length - 1) with
    |false=>
     have hw':within i 0 (((x.use.map i64).length:Int) - 1)=false:=by rw [List.length_map];exact hw
     rw [bT,if_neg (Bool.eq_false_iff.1 hw),Gf] at hi
     (repeat' ((conv=>whnf);first|with_reducible refine Idx.got hx rfl ?_|refine gA ?_|(refine gN ?_ ?_<;>intro h hw)|(refine gB ?_ ?_<;>intro h)|(refine gI ?_;intro x hx)|(refine gJ ?_;intro j x hj hx)|refine gV ?_|refine gC (eT ms _) ?_|refine gC (dh _ _ _) ?_|intro _))<;>try (conv=>whnf)
     ·refine⟨?_,rfl,trivial⟩
      rw [← hi]
     ·exfalso;omega
    |true=>
     have hw':within i 0 (((x.use.map i64).length:Int) - 1)=true:=by rw [List.length_map];exact hw
     obtain⟨j,y,hj,hy,e⟩:=oL hw
     rw [e,Gf] at hi
     (repeat' ((conv=>whnf);first|with_reducible refine Idx.got hx rfl ?_|with_reducible refine Idx.got hy hj ?_|refine gA ?_|(refine gN ?_ ?_<;>intro h hw)|(refine gB ?_ ?_<;>intro h)|(refine gI ?_;intro x hx)|(refine gJ ?_;intro j x hj hx)|refine gV ?_|refine gC (eT ms _) ?_|refine gC (dh _ _ _) ?_|intro _))<;>try (conv=>whnf)
     ·refine nx ⟨k+1,y,true⟩ ?_
      rw [if_pos (.inr (by assumption))] at hi
      exact⟨by omega,hi⟩
     ·refine nx ⟨k+1,n,true⟩ ?_
      rw [if_neg (by simp [*])] at hi
      exact⟨by omega,hi⟩
     ·refine nx ⟨k+1,y,true⟩ ?_
      rw [if_pos (.inl (by simp [*]))] at hi
      exact⟨by omega,hi⟩
     ·exfalso;omega
   |true=>
    subst ht
    rw [show pick true x=x.con from rfl] at hi
    cases hw:within i 0 (x.con.length - 1) with
    |false=>
     have hw':within i 0 (((x.con.map i64).length:Int) - 1)=false:=by rw [List.length_map];exact hw
     rw [bT,if_neg (Bool.eq_false_iff.1 hw),Gf] at hi
     (repeat' ((conv=>whnf);first|with_reducible refine Idx.got hx rfl ?_|refine gA ?_|(refine gN ?_ ?_<;>intro h hw)|(refine gB ?_ ?_<;>intro h)|(refine gI ?_;intro x hx)|(refine gJ ?_;intro j x hj hx)|refine gV ?_|refine gC (eT ms _) ?_|refine gC (dh _ _ _) ?_|intro _))<;>try (conv=>whnf)
     ·refine⟨?_,rfl,trivial⟩
      rw [← hi]
     ·exfalso;omega
    |true=>
     have hw':within i 0 (((x.con.map i64).length:Int) - 1)=true:=by rw [List.length_map];exact hw
     obtain⟨j,y,hj,hy,e⟩:=oL hw
     rw [e,Gf] at hi
     (repeat' ((conv=>whnf);first|with_reducible refine Idx.got hx rfl ?_|with_reducible refine Idx.got hy hj ?_|refine gA ?_|(refine gN ?_ ?_<;>intro h hw)|(refine gB ?_ ?_<;>intro h)|(refine gI ?_;intro x hx)|(refine gJ ?_;intro j x hj hx)|refine gV ?_|refine gC (eT ms _) ?_|refine gC (dh _ _ _) ?_|intro _))<;>try (conv=>whnf)
     ·refine nx ⟨k+1,y,true⟩ ?_
      rw [if_pos (.inr (by assumption))] at hi
      exact⟨by omega,hi⟩
     ·refine nx ⟨k+1,n,true⟩ ?_
      rw [if_neg (by simp [*])] at hi
      exact⟨by omega,hi⟩
     ·refine nx ⟨k+1,y,true⟩ ?_
      rw [if_pos (.inl (by simp [*]))] at hi
      exact⟨by omega,hi⟩
     ·exfalso;omega
 ·(repeat' ((conv=>whnf);first|(exfalso;omega)|refine gA ?_|(refine gN ?_ ?_<;>intro h hw)|(refine gB ?_ ?_<;>intro h)|(refine gI ?_;intro x hx)|(refine gJ ?_;intro j x hj hx)|refine gV ?_|intro _))<;>try (conv=>whnf)
  refine⟨?_,rfl,trivial⟩
  rw [← hi,nL hlt];rfl
theorem LD (a:aH) (ms:List Int) (r:Int):Con 293 [.d a.av,.d (ints ms),.d (i64 r)] (.d (i64 (gL a ms r))):=by
 refine con Tryz.func293 rfl rfl Tryz.call293 rfl fun hwf=>?_
 (repeat' ((conv=>whnf);first|refine gA ?_|(refine gB ?_ ?_<;>intro h)|refine gC (AY a ms r false) ?_|intro _))<;>try (conv=>whnf)
 exact⟨rfl,rfl,trivial⟩
theorem Ag (a:aH) (ms:List Int) (r:Int):Con 261 [.d a.av,.d (ints ms),.d (i64 r)] (.d (i64 (rE a ms r))):=by
 refine con Tryz.func261 rfl rfl Tryz.call261 rfl fun hwf=>?_
 (repeat' ((conv=>whnf);first|refine gA ?_|(refine gB ?_ ?_<;>intro h)|refine gC (AY a ms r true) ?_|intro _))<;>try (conv=>whnf)
 exact⟨rfl,rfl,trivial⟩
end Go.Proofs.YtefgamefajmdkaaGreat.Abs
