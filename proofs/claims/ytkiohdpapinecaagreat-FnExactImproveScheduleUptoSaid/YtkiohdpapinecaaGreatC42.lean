/- Contracts: what fits into a plan, modes to choose, who is ready. No statement of a claim. -/
import Derived.Test.YtkiohdpapinecaaGreatC41
set_option linter.all false
set_option linter.unusedVariables false
set_option linter.unusedSimpArgs false
set_option maxRecDepth 20000
set_option maxHeartbeats 8000000
namespace Go.Proofs.YtkiohdpapinecaaGreat.Abs
open Go.Proofs Go.RowKit
structure FitGet (p:Proj) (x:Pln) (k:Nat) (m t:Int) (y:Activ) (q:Nat) (mo:Mode):Prop where
 ok:plnOk p x=true
 act:p.acts[k]? =some y
 mq:m=q
 moE:y.modes[q]? =some mo
 tb:0≤t∧t≤60
theorem plnFits_at {p:Proj} {x:Pln} {k:Nat} {y:Activ} {m t:Int} (hy:p.acts[k]? =some y):plnFits p x k m t=(plnOk p x&&(!x.done.contains (k:Int)&&(within m 0 (y.modes.length - 1)&&(isTime t&&(decide (t+(y.modes.getD m.toNat ⟨0,[],[]⟩).dur≤p.dead)&&plnHolds p (putPln x k m t) k))))):=by
 have hk:=(List.getElem?_eq_some_iff.1 hy).1
 have hA:hasAct p k=true:=hasAct_nat hk
 simp only [plnFits,hA,durAt,Int.toNat_natCast,actOf_get hy,Bool.true_and]
theorem fits_get {p:Proj} {x:Pln} {a m t:Int} (h:plnFits p x a m t=true):∃(k:Nat) (y:Activ) (q:Nat) (mo:Mode),a=k∧FitGet p x k m t y q mo:=by
 have h0:=h
 simp only [plnFits,Bool.and_eq_true] at h0
 obtain⟨k,y,rfl,hy⟩:=hasAct_get h0.2.1
 rw [plnFits_at hy] at h
 simp only [Bool.and_eq_true,isTime,within_iff] at h
 obtain⟨h1,_,h3,h4,_⟩:=h
 exact⟨k,y,m.toNat,y.modes[m.toNat]'(by omega),rfl,h1,hy,by omega,by simp,h4⟩
theorem fit_len {p:Proj} {x:Pln} {k:Nat} {m t:Int} {y:Activ} {q:Nat} {mo:Mode} (g:FitGet p x k m t y q mo):k < x.sched.starts.length∧k < x.sched.modes.length∧x.done.length < lim:=by
 obtain⟨h1,_,_,h4⟩:=plnOk_parts g.ok
 have hs:=schedForm_parts h1
 have hna:=(projForm hs.1).nact
 have:=(List.getElem?_eq_some_iff.1 g.act).1
 unfold lim
 omega
theorem impl_PlanFits (p:Proj) (x:Pln) (a m t:Int) (hp:p.fine):Con 59 [.d p.av,.d x.av,.d (i64 a),.d (i64 m),.d (i64 t)] (.d (.bool (plnFits p x a m t))):=by
 refine con Tryz.func59 rfl rfl Tryz.call59 rfl fun hwf=>?_
 have hP:=impl_PlanOk p x hp
 cases h1:plnOk p x with
 | false=>
  rw [h1] at hP
  have e:plnFits p x a m t=false:=by rw [plnFits,h1];rfl
  rw [e]
  (repeat' ((conv=>whnf);first | refine gA ?_ | ((with_reducible first | refine gD (fun h=>?_) (fun h=>?_) | refine gE (fun h=>?_) (fun h=>?_)) <;> (try simp only [lm] at h) <;> try have hw:=wn h) | with_reducible refine gI (fun x hx=>?_) | with_reducible refine gJ (fun j x hj hx=>?_) | refine gV ?_ | refine gC (hP) ?_ | intro _)) <;> (try (conv=>whnf))
  exact⟨rfl,rfl,trivial⟩
 | true=>
 rw [h1] at hP
 obtain⟨hf,hso,hd,hl⟩:=plnOk_parts h1
 have hok:=(schedForm_parts hf).1
 have hH:=impl_hasActivity p a
 cases h2:hasAct p a with
 | false=>
  rw [h2] at hH
  have e:plnFits p x a m t=false:=by rw [plnFits,h1,h2];rfl
  rw [e]
  (repeat' ((conv=>whnf);first | refine gA ?_ | ((with_reducible first | refine gD (fun h=>?_) (fun h=>?_) | refine gE (fun h=>?_) (fun h=>?_)) <;> (try simp only [lm] at h) <;> try have hw:=wn h) | with_reducible refine gI (fun x hx=>?_) | with_reducible refine gJ (fun j x hj hx=>?_) | refine gV ?_ | refine gC (hP) ?_ | refine gC (hH) ?_ | intro _)) <;> (try (conv=>whnf))
  exact⟨rfl,rfl,trivial⟩
 | true=>
 rw [h2] at hH
 obtain⟨k,y,rfl,hy⟩:=hasAct_get h2
 have e:=plnFits_at (x:=x) (m:=m) (t:=t) hy
 rw [h1,Bool.true_and] at e
 have hS:=impl_SetHas x.done k
 cases h3:x.done.contains (k:Int) with
 | true=>
  rw [h3] at hS e
  rw [e]
  (repeat' ((conv=>whnf);first | refine gA ?_ | ((with_reducible first | refine gD (fun h=>?_) (fun h=>?_) | refine gE (fun h=>?_) (fun h=>?_)) <;> (try simp only [lm] at h) <;> try have hw:=wn h) | with_reducible refine gI (fun x hx=>?_) | with_reducible refine gJ (fun j x hj hx=>?_) | refine gV ?_ | refine gC (hP) ?_ | refine gC (hH) ?_ | refine gC (hS) ?_ | intro _)) <;> (try (conv=>whnf))
  exact⟨rfl,rfl,trivial⟩
 | false=>
 rw [h3] at hS e
 have hmf:=modes_few hok hy
 have hW:=impl_within m 0 (((y.modes.map Mode.av).length:Int) - 1)
 rw [show within m 0 (((y.modes.map Mode.av).length:Int) - 1)=within m 0 (y.modes.length - 1) by rw [List.length_map]] at hW
 cases h4:within m 0 (y.modes.length - 1) with
 | false=>
  rw [h4] at hW e
  rw [e]
  (repeat' ((conv=>whnf);first | with_reducible refine Idx.got hy rfl ?_ | refine gA ?_ | ((with_reducible first | refine gD (fun h=>?_) (fun h=>?_) | refine gE (fun h=>?_) (fun h=>?_)) <;> (try simp only [lm] at h) <;> try have hw:=wn h) | with_reducible refine gI (fun x hx=>?_) | with_reducible refine gJ (fun j x hj hx=>?_) | refine gV ?_ | refine gC (hP) ?_ | refine gC (hH) ?_ | refine gC (hS) ?_ | refine gC (hW) ?_ | intro _)) <;> (try (conv=>whnf))
  exact⟨rfl,rfl,trivial⟩
 | true=>
 rw [h4] at hW e
 have hT:=impl_isTime t
 cases h5:isTime t with
 | false=>
  rw [h5] at hT e
  rw [e]
  (repeat' ((conv=>whnf);first | with_reducible refine Idx.got hy rfl ?_ | refine gA ?_ | ((with_reducible first | refine gD (fun h=>?_) (fun h=>?_) | refine gE (fun h=>?_) (fun h=>?_)) <;> (try simp only [lm] at h) <;> try have hw:=wn h) | with_reducible refine gI (fun x hx=>?_) | with_reducible refine gJ (fun j x hj hx=>?_) | refine gV ?_ | refine gC (hP) ?_ | refine gC (hH) ?_ | refine gC (hS) ?_ | refine gC (hW) ?_ | refine gC (hT) ?_ | intro _)) <;> (try (conv=>whnf))
  exact⟨rfl,rfl,trivial⟩
 | true=>
 rw [h5] at hT e
 have hwi:=within_iff.1 h4
 have hti:=within_iff.1 h5
 obtain⟨q,mo,rfl,hmo⟩:∃(q:Nat) (mo:Mode),m=q∧y.modes[q]? =some mo:=⟨m.toNat,y.modes[m.toNat]'(by omega),by omega,by simp⟩
 have hdu:=(activ_mode ((projForm hok).act k y hy) (List.mem_of_getElem? hmo)).1
 rw [show (y.modes.getD (q:Int).toNat ⟨0,[],[]⟩).dur=mo.dur by simp [List.getD_eq_getElem?_getD,hmo]] at e
 by_cases h6:t+mo.dur≤p.dead
 ·rw [decide_eq_true h6] at e
  rw [show plnFits p x k q t=plnHolds p (putPln x k q t) k by rw [e];rfl]
  have hkl:=(List.getElem?_eq_some_iff.1 hy).1
  have hfl:=fit_len ⟨h1,hy,rfl,hmo,hti⟩
  have hpd:=put_done hd hkl (m:=q) (t:=t)
  (repeat' ((conv=>whnf);first | with_reducible refine Idx.got hy rfl ?_ | with_reducible refine Idx.got hmo rfl ?_ | refine gA ?_ | ((with_reducible first | refine gD (fun h=>?_) (fun h=>?_) | refine gE (fun h=>?_) (fun h=>?_)) <;> (try simp only [lm] at h) <;> try have hw:=wn h) | with_reducible refine gI (fun x hx=>?_) | with_reducible refine gJ (fun j x hj hx=>?_) | refine gV ?_ | refine gC (hP) ?_ | refine gC (hH) ?_ | refine gC (hS) ?_ | refine gC (hW) ?_ | refine gC (hT) ?_ | refine gC (impl_with x k q t hfl.1 hfl.2.1 hfl.2.2) ?_ | refine gC (impl_holds p (putPln x k q t) k hp (schedForm_put hf hy h4 h5) hkl hpd.1 hpd.2) ?_ | intro _)) <;> (try (conv=>whnf))
  all_goals first
   | (exfalso;omega)
   | exact⟨rfl,rfl,trivial⟩
 ·rw [decide_eq_false h6] at e
  rw [e]
  (repeat' ((conv=>whnf);first | with_reducible refine Idx.got hy rfl ?_ | with_reducible refine Idx.got hmo rfl ?_ | refine gA ?_ | ((with_reducible first | refine gD (fun h=>?_) (fun h=>?_) | refine gE (fun h=>?_) (fun h=>?_)) <;> (try simp only [lm] at h) <;> try have hw:=wn h) | with_reducible refine gI (fun x hx=>?_) | with_reducible refine gJ (fun j x hj hx=>?_) | refine gV ?_ | refine gC (hP) ?_ | refine gC (hH) ?_ | refine gC (hS) ?_ | refine gC (hW) ?_ | refine gC (hT) ?_ | intro _)) <;> (try (conv=>whnf))
  all_goals first
   | (exfalso;omega)
   | exact⟨rfl,rfl,trivial⟩
def earliest (p:Proj) (x:Pln) (a m:Int):Nat→Int→Option Int
 | 0,_=>none
 | n+1,t=>if plnFits p x a m t=true then some t else earliest p x a m n (t+1)
theorem earliest_zero (p:Proj) (x:Pln) (a m t:Int):earliest p x a m 0 t=none:=rfl
theorem earliest_succ (p:Proj) (x:Pln) (a m t:Int) (n:Nat):earliest p x a m (n+1) t=if plnFits p x a m t=true then some t else earliest p x a m n (t+1):=rfl
def plnEarliest (p:Proj) (x:Pln) (a m fr:Int):Option Int:=earliest p x a m (61 - max fr 0).toNat (max fr 0)
theorem earliest_fits {p:Proj} {x:Pln} {a m:Int}:∀{n:Nat} {t u:Int},earliest p x a m n t=some u→plnFits p x a m u=true
 | 0,_,_,h=>by cases h
 | n+1,t,u,h=>by
  rw [earliest_succ] at h
  split at h
  ·cases h;assumption
  ·exact earliest_fits h
theorem impl_PlanEarliest (p:Proj) (x:Pln) (a m fr:Int) (hp:p.fine):Con 74 [.d p.av,.d x.av,.d (i64 a),.d (i64 m),.d (i64 fr)] (ROpt (plnEarliest p x a m fr)):=by
 refine con Tryz.func74 rfl rfl Tryz.call74 rfl fun hwf=>?_
 generalize hR:plnEarliest p x a m fr=R
 (repeat' ((conv=>whnf);first | refine gA ?_ | ((with_reducible first | refine gD (fun h=>?_) (fun h=>?_) | refine gE (fun h=>?_) (fun h=>?_)) <;> (try simp only [lm] at h) <;> try have hw:=wn h) | refine gV ?_ | intro _)) <;> (try (conv=>whnf))
 refine loopF [2,3,5,6] [5,6] [] ?_
 (conv=>whnf)
 refine LoopC.go ((Int)) (fun t=>(0≤t)∧(earliest p x a m (61 - t).toNat t=R)) (fun t=>[(12,.data (i64 t))]) (fun _=>[]) (fun _=>[]) (fun t=>(61 - t).toNat) (max fr 0) ?_ ?_
 ·exact⟨by omega,hR⟩
 rintro t ⟨h0,he⟩
 by_cases hlt:t≤60
 ·rw [show (61 - t).toNat=(61 - (t+1)).toNat+1 by omega,earliest_succ] at he
  have hF:=impl_PlanFits p x a m t hp
  cases hf:plnFits p x a m t with
  | true=>
   rw [if_pos hf] at he
   subst he
   rw [hf] at hF
   (repeat' ((conv=>whnf);first | with_reducible refine Br.yes (decide_eq_true (by omega)) ?_ | refine gA ?_ | ((with_reducible first | refine gD (fun h=>?_) (fun h=>?_) | refine gE (fun h=>?_) (fun h=>?_)) <;> (try simp only [lm] at h) <;> try have hw:=wn h) | refine gV ?_ | refine gC (hF) ?_ | intro _)) <;> (try (conv=>whnf))
   (repeat' ((conv=>whnf) <;> (first | exact trivial | exact VC.nod (by kernel_rfl) | refine VC.mk rfl ?_)))
  | false=>
   rw [if_neg (by simp [hf])] at he
   rw [hf] at hF
   (repeat' ((conv=>whnf);first | with_reducible refine Br.yes (decide_eq_true (by omega)) ?_ | refine gA ?_ | ((with_reducible first | refine gD (fun h=>?_) (fun h=>?_) | refine gE (fun h=>?_) (fun h=>?_)) <;> (try simp only [lm] at h) <;> try have hw:=wn h) | refine gV ?_ | refine gC (hF) ?_ | intro _)) <;> (try (conv=>whnf))
   refine nx (t+1) ?_
   exact⟨by omega,he⟩
 ·rw [show (61 - t).toNat=0 by omega,earliest_zero] at he
  subst he
  (repeat' ((conv=>whnf);first | with_reducible refine Br.no (decide_eq_false (by omega)) ?_ | refine gA ?_ | ((with_reducible first | refine gD (fun h=>?_) (fun h=>?_) | refine gE (fun h=>?_) (fun h=>?_)) <;> (try simp only [lm] at h) <;> try have hw:=wn h) | refine gV ?_ | intro _)) <;> (try (conv=>whnf))
  (repeat' ((conv=>whnf) <;> (first | exact trivial | exact VC.nod (by kernel_rfl) | refine VC.mk rfl ?_)))
def clampOne (n:Int):Int:=min (max n (-100000)) 100000
def clampSum (l:List Int):Int:=sumOver clampOne l 0
theorem clampSum_bound {l:List Int} (h:l.length≤1000): -100000000≤clampSum l∧clampSum l≤100000000:=by
 have:∀(l:List Int) (s:Int),s - 100000*l.length≤sumOver clampOne l s∧sumOver clampOne l s≤s+100000*l.length:=by
  intro l
  induction l with
  | nil=>intro s;simp [sumOver]
  | cons x l ih=>
   intro s
   have:=ih (s+clampOne x)
   have hx: -100000≤clampOne x∧clampOne x≤100000:=by unfold clampOne;omega
   rw [sumOver,List.length_cons,Int.natCast_succ,Int.mul_add];omega
 have:=this l 0
 unfold clampSum;omega
theorem impl_ClampedSum (l:List Int) (hl:l.length≤1000):Con 124 [.d (ints l)] (.d (i64 (clampSum l))):=by
 refine con Tryz.func124 rfl rfl Tryz.call124 rfl fun hwf=>?_
 simp only [ARs.wf,AR.wf,AV.wf,AV.wfs,List.length_map,lim] at hwf
 generalize hR:clampSum l=R
 (repeat' ((conv=>whnf);first | refine gA ?_ | ((with_reducible first | refine gD (fun h=>?_) (fun h=>?_) | refine gE (fun h=>?_) (fun h=>?_)) <;> (try simp only [lm] at h) <;> try have hw:=wn h) | with_reducible refine gI (fun x hx=>?_) | with_reducible refine gJ (fun j x hj hx=>?_) | refine gV ?_ | intro _)) <;> (try (conv=>whnf))
 refine loopF [6,7] [] [] ?_
 (conv=>whnf)
 refine LoopC.go ((Nat)×(Int)) (fun⟨k,s⟩=>(k≤l.length)∧(-100000*(k:Int)≤s∧s≤100000*k)∧(sumOver clampOne (l.drop k) s=R)) (fun⟨k,s⟩=>[(8,.data (i64 k)),(3,.data (i64 s))]) (fun _=>[]) (fun _=>[]) (fun⟨k,s⟩=>l.length - k) ⟨0,0⟩ ?_ ?_
 ·exact⟨Nat.zero_le _,by omega,hR⟩
 rintro⟨k,s⟩ ⟨hk,hs,he⟩
 by_cases hlt:k < l.length
 ·obtain⟨x,hx⟩:∃x,l[k]? =some x:=⟨l[k]'hlt,by simp⟩
  rw [drop_get hx,sumOver] at he
  have hb: -100000≤clampOne x∧clampOne x≤100000:=by unfold clampOne;omega
  have hcl:clampOne x=min (max x (-100000)) 100000:=rfl
  (repeat' ((conv=>whnf);first | with_reducible refine Idx.got hx rfl ?_ | (exfalso;omega) | refine gA ?_ | ((with_reducible first | refine gD (fun h=>?_) (fun h=>?_) | refine gE (fun h=>?_) (fun h=>?_)) <;> (try simp only [lm] at h) <;> try have hw:=wn h) | with_reducible refine gI (fun x hx=>?_) | with_reducible refine gJ (fun j x hj hx=>?_) | refine gV ?_ | intro _)) <;> (try (conv=>whnf))
  refine nx ⟨k+1,s+clampOne x⟩ ?_
  exact⟨by omega,by omega,he⟩
 ·rw [drop_end' (by omega),sumOver] at he
  subst he
  (repeat' ((conv=>whnf);first | (exfalso;omega) | refine gA ?_ | ((with_reducible first | refine gD (fun h=>?_) (fun h=>?_) | refine gE (fun h=>?_) (fun h=>?_)) <;> (try simp only [lm] at h) <;> try have hw:=wn h) | with_reducible refine gI (fun x hx=>?_) | with_reducible refine gJ (fun j x hj hx=>?_) | refine gV ?_ | intro _)) <;> (try (conv=>whnf))
  exact⟨rfl,rfl,trivial⟩
def modeKey (low:Bool) (m:Mode):Int:=if low=true then clampSum m.use+clampSum m.con else m.dur
def bestFrom (f:Mode→Int):List Mode→Nat→Nat→Int→Nat
 | [],_,b,_=>b
 | m::l,i,b,v=>if i=0∨f m < v then bestFrom f l (i+1) i (f m) else bestFrom f l (i+1) b v
theorem bestFrom_nil (f:Mode→Int) (i b:Nat) (v:Int):bestFrom f [] i b v=b:=rfl
theorem bestFrom_cons (f:Mode→Int) (m:Mode) (l:List Mode) (i b:Nat) (v:Int):bestFrom f (m::l) i b v=if i=0∨f m < v then bestFrom f l (i+1) i (f m) else bestFrom f l (i+1) b v:=rfl
def chooseMode (p:Proj) (a:Int) (low:Bool):Nat:=if projOk p=true∧hasAct p a=true then bestFrom (modeKey low) (actOf p a.toNat).modes 0 0 0 else 0
theorem mode_lens {p:Proj} (hok:projOk p=true) {k:Nat} {y:Activ} (hy:p.acts[k]? =some y) {m:Mode} (hm:m∈y.modes):m.use.length≤3∧m.con.length≤2∧1≤m.dur∧m.dur≤12:=by
 have h:=activ_mode ((projForm hok).act k y hy) hm
 have:=proj_small hok
 omega
theorem impl_ChooseMode (p:Proj) (a:Int) (low:Bool) (hp:p.fine):Con 56 [.d p.av,.d (i64 a),.d (.bool low)] (.d (i64 (chooseMode p a low))):=by
 refine con Tryz.func56 rfl rfl Tryz.call56 rfl fun hwf=>?_
 have hP:=impl_ProjectOk p hp
 have hH:=impl_hasActivity p a
 by_cases hboth:projOk p=true∧hasAct p a=true
 rotate_left
 ·rw [chooseMode,if_neg hboth]
  (repeat' ((conv=>whnf);first | refine gA ?_ | ((with_reducible first | refine gD (fun h=>?_) (fun h=>?_) | refine gE (fun h=>?_) (fun h=>?_)) <;> (try simp only [lm] at h) <;> try have hw:=wn h) | with_reducible refine gI (fun x hx=>?_) | with_reducible refine gJ (fun j x hj hx=>?_) | refine gV ?_ | refine gC (hP) ?_ | refine gC (hH) ?_ | intro _)) <;> (try (conv=>whnf))
  all_goals first
   | exact⟨rfl,rfl,trivial⟩
   | (exfalso;exact hboth ⟨by assumption,by assumption⟩)
 obtain⟨hok,hA⟩:=hboth
 obtain⟨k,y,rfl,hy⟩:=hasAct_get hA
 have h3:=modes_few hok hy
 generalize hR:chooseMode p k low=R
 rw [chooseMode,if_pos ⟨hok,hA⟩,Int.toNat_natCast,actOf_get hy] at hR
 rw [hok] at hP
 rw [hA] at hH
 (repeat' ((conv=>whnf);first | with_reducible refine Idx.got hy rfl ?_ | refine gA ?_ | ((with_reducible first | refine gD (fun h=>?_) (fun h=>?_) | refine gE (fun h=>?_) (fun h=>?_)) <;> (try simp only [lm] at h) <;> try have hw:=wn h) | with_reducible refine gI (fun x hx=>?_) | with_reducible refine gJ (fun j x hj hx=>?_) | refine gV ?_ | refine gC (hP) ?_ | refine gC (hH) ?_ | intro _)) <;> (try (conv=>whnf))
 refine loopF [2,26,27] [] [] ?_
 (conv=>whnf)
 refine LoopC.go ((Nat)×(Nat)×(Int)) (fun⟨i,b,v⟩=>(i≤y.modes.length)∧(bestFrom (modeKey low) (y.modes.drop i) i b v=R)) (fun⟨i,b,v⟩=>[(28,.data (i64 i)),(7,.data (i64 b)),(8,.data (i64 v))]) (fun _=>[]) (fun _=>[]) (fun⟨i,b,v⟩=>y.modes.length - i) ⟨0,0,0⟩ ?_ ?_
 ·exact⟨Nat.zero_le _,hR⟩
 rintro⟨i,b,v⟩ ⟨hi,he⟩
 by_cases hlt:i < y.modes.length
 ·obtain⟨m,hm⟩:∃m,y.modes[i]? =some m:=⟨y.modes[i]'hlt,by simp⟩
  have hml:=mode_lens hok hy (List.mem_of_getElem? hm)
  have hb1:=clampSum_bound (l:=m.use) (by omega)
  have hb2:=clampSum_bound (l:=m.con) (by omega)
  rw [drop_get hm,bestFrom_cons] at he
  by_cases hc:i=0∨modeKey low m < v
  ·rw [if_pos hc] at he
   generalize hK:modeKey low m=K at he hc
   cases low
   all_goals
    simp only [modeKey,if_true,Bool.false_eq_true,if_false] at hK
    (repeat' ((conv=>whnf);first | with_reducible refine Idx.got hm rfl ?_ | (exfalso;omega) | refine gA ?_ | ((with_reducible first | refine gD (fun h=>?_) (fun h=>?_) | refine gE (fun h=>?_) (fun h=>?_)) <;> (try simp only [lm] at h) <;> try have hw:=wn h) | with_reducible refine gI (fun x hx=>?_) | with_reducible refine gJ (fun j x hj hx=>?_) | refine gV ?_ | refine gC (impl_ClampedSum m.use (by omega)) ?_ | refine gC (impl_ClampedSum m.con (by omega)) ?_ | intro _)) <;> (try (conv=>whnf))
    all_goals first
     | (exfalso;omega)
     | (subst hK
        apply Exists.intro (⟨i+1,i,_⟩)
        refine⟨?_,rfl,?_,?_⟩
        rotate_left
        ·(repeat' ((conv=>whnf) <;> (first | exact trivial | exact rfl | with_reducible refine And.intro ?_ ?_)))
        ·(try dsimp only);(try simp only [List.length_map]);omega
        exact⟨by omega,he⟩)
  ·rw [if_neg hc] at he
   generalize hK:modeKey low m=K at hc
   cases low
   all_goals
    simp only [modeKey,if_true,Bool.false_eq_true,if_false] at hK
    (repeat' ((conv=>whnf);first | with_reducible refine Idx.got hm rfl ?_ | (exfalso;omega) | refine gA ?_ | ((with_reducible first | refine gD (fun h=>?_) (fun h=>?_) | refine gE (fun h=>?_) (fun h=>?_)) <;> (try simp only [lm] at h) <;> try have hw:=wn h) | with_reducible refine gI (fun x hx=>?_) | with_reducible refine gJ (fun j x hj hx=>?_) | refine gV ?_ | refine gC (impl_ClampedSum m.use (by omega)) ?_ | refine gC (impl_ClampedSum m.con (by omega)) ?_ | intro _)) <;> (try (conv=>whnf))
    all_goals first
     | (exfalso;omega)
     | (refine nx ⟨i+1,b,v⟩ ?_
        exact⟨by omega,he⟩)
 ·rw [drop_end' (by omega),bestFrom_nil] at he
  subst he
  (repeat' ((conv=>whnf);first | (exfalso;omega) | refine gA ?_ | ((with_reducible first | refine gD (fun h=>?_) (fun h=>?_) | refine gE (fun h=>?_) (fun h=>?_)) <;> (try simp only [lm] at h) <;> try have hw:=wn h) | with_reducible refine gI (fun x hx=>?_) | with_reducible refine gJ (fun j x hj hx=>?_) | refine gV ?_ | intro _)) <;> (try (conv=>whnf))
  exact⟨rfl,rfl,trivial⟩
def linkGap (p:Proj) (y:Link):Int:=if y.fromEnd=true then y.lag+minDur (actOf p y.src.toNat) (intRange (actOf p y.src.toNat).modes.length) else y.lag
def notReady (p:Proj) (a:Int) (done:List Int) (y:Link):Bool:=decide (y.dst=a)&&(decide (linkGap p y > 0)&& !done.contains y.src)
def ready (p:Proj) (a:Int) (done:List Int):Bool:= !p.links.any (notReady p a done)
theorem impl_gap (p:Proj) (y:Link) (ms:List Int) (hok:projOk p=true) (hlo:linkOk p y=true):Con 202 [.d p.av,.d y.av,.d (ints ms)] (.d (i64 (if y.fromEnd=true then y.lag+minDur (actOf p y.src.toNat) ms else y.lag))):=by
 refine con Tryz.func202 rfl rfl Tryz.call202 rfl fun hwf=>?_
 simp only [linkOk,Bool.and_eq_true] at hlo
 obtain⟨k,a,e1,e2⟩:=hasAct_get hlo.1.1.1
 have hlag:=within_iff.1 hlo.2
 have hb:=minDur_bound ((projForm hok).act k a e2) ms
 rw [e1,Int.toNat_natCast,actOf_get e2]
 (repeat' ((conv=>whnf);first | with_reducible refine Idx.got e2 e1 ?_ | refine gA ?_ | ((with_reducible first | refine gD (fun h=>?_) (fun h=>?_) | refine gE (fun h=>?_) (fun h=>?_)) <;> (try simp only [lm] at h) <;> try have hw:=wn h) | with_reducible refine gI (fun x hx=>?_) | with_reducible refine gJ (fun j x hj hx=>?_) | refine gV ?_ | refine gC (impl_MinDuration a ms) ?_ | intro _)) <;> (try (conv=>whnf))
 all_goals (refine⟨?_,rfl,trivial⟩;simp [*])
theorem impl_fullGap (p:Proj) (y:Link) (hok:projOk p=true) (hlo:linkOk p y=true):Con 126 [.d p.av,.d y.av] (.d (i64 (linkGap p y))):=by
 refine con Tryz.func126 rfl rfl Tryz.call126 rfl fun hwf=>?_
 have hl:=hlo
 simp only [linkOk,Bool.and_eq_true] at hl
 obtain⟨k,a,e1,e2⟩:=hasAct_get hl.1.1.1
 have hG:=impl_gap p y (intRange a.modes.length) hok hlo
 rw [linkGap]
 rw [e1,Int.toNat_natCast,actOf_get e2] at hG ⊢
 (repeat' ((conv=>whnf);first | with_reducible refine Idx.got e2 e1 ?_ | refine gA ?_ | ((with_reducible first | refine gD (fun h=>?_) (fun h=>?_) | refine gE (fun h=>?_) (fun h=>?_)) <;> (try simp only [lm] at h) <;> try have hw:=wn h) | with_reducible refine gI (fun x hx=>?_) | with_reducible refine gJ (fun j x hj hx=>?_) | refine gC (impl_ModeIndexes a) ?_ | refine gC (hG) ?_ | intro _)) <;> (try (conv=>whnf))
 exact⟨rfl,rfl,trivial⟩
theorem slices_IndexFunc_LinkIn (l:List Link) (fc:Nat) (caps:List AV) (p:Link→Bool) (hc:∀x∈l,Con fc ([.d x.av]++caps.map .ref) (.d (.bool (p x)))):
  Con 201 [.d (.sl (l.map Link.av)),.fn fc caps] (.d (i64 (findI p l 0))):=by
 refine con Tryz.func201 rfl rfl Tryz.call201 rfl fun hwf=>?_
 simp only [ARs.wf,AR.wf,AV.wf,AV.wfs,List.length_map,lim] at hwf
 (conv=>whnf)
 refine loopF [0,1,7] [] [] ?_
 (conv=>whnf)
 refine LoopC.go ((Nat)) (fun k=>(k≤l.length)∧(findI p (l.drop k) k=findI p l 0)) (fun k=>[(8,.data (i64 k))]) (fun _=>[]) (fun _=>[]) (fun k=>l.length - k) (0) ?_ ?_
 ·exact⟨by omega,rfl⟩
 rintro k ⟨hk,hi⟩
 by_cases hlt:k < l.length
 ·obtain⟨x,hx⟩:∃x,l[k]? =some x:=⟨l[k]'hlt,by simp⟩
  (repeat' ((conv=>whnf);first | with_reducible refine Idx.got hx rfl ?_ | refine gA ?_ | ((with_reducible first | refine gD (fun h=>?_) (fun h=>?_) | refine gE (fun h=>?_) (fun h=>?_)) <;> (try simp only [lm] at h) <;> try have hw:=wn h) | with_reducible refine gI (fun x hx=>?_) | with_reducible refine gJ (fun j x hj hx=>?_) | refine gV ?_ | refine gC (hc x (List.mem_of_getElem? hx)) ?_ | intro _)) <;> (try (conv=>whnf))
  ·refine⟨?_,rfl,trivial⟩
   rw [drop_get (l:=l) hx,findI,if_pos h] at hi
   rw [← hi]
  ·refine nx (k+1) ?_
   rw [drop_get (l:=l) hx,findI,if_neg (by simp [h])] at hi
   exact⟨by omega,hi⟩
  ·exfalso;omega
 ·(repeat' ((conv=>whnf);first | (exfalso;omega) | refine gA ?_ | ((with_reducible first | refine gD (fun h=>?_) (fun h=>?_) | refine gE (fun h=>?_) (fun h=>?_)) <;> (try simp only [lm] at h) <;> try have hw:=wn h) | with_reducible refine gI (fun x hx=>?_) | with_reducible refine gJ (fun j x hj hx=>?_) | refine gV ?_ | intro _)) <;> (try (conv=>whnf))
  refine⟨?_,rfl,trivial⟩
  rw [drop_end' (by assumption)] at hi
  rw [← hi];rfl
theorem slices_ContainsFunc_LinkIn (l:List Link) (fc:Nat) (caps:List AV) (p:Link→Bool) (hc:∀x∈l,Con fc ([.d x.av]++caps.map .ref) (.d (.bool (p x)))):
  Con 121 [.d (.sl (l.map Link.av)),.fn fc caps] (.d (.bool (l.any p))):=by
 refine con Tryz.func121 rfl rfl Tryz.call121 rfl fun hwf=>?_
 (repeat' ((conv=>whnf);first | refine gA ?_ | ((with_reducible first | refine gD (fun h=>?_) (fun h=>?_) | refine gE (fun h=>?_) (fun h=>?_)) <;> (try simp only [lm] at h) <;> try have hw:=wn h) | refine gC (slices_IndexFunc_LinkIn l fc caps p hc) ?_ | intro _)) <;> (try (conv=>whnf))
 refine⟨?_,rfl,trivial⟩
 rw [← findI_ge l 0]
theorem impl_isReady1 (p:Proj) (a:Int) (done:List Int) (y:Link) (hok:projOk p=true) (hlo:linkOk p y=true):Con 125 [.d y.av,.ref (i64 a),.ref p.av,.ref (ints done)] (.d (.bool (notReady p a done y))):=by
 refine con Tryz.func125 rfl rfl Tryz.call125 rfl fun hwf=>?_
 (repeat' ((conv=>whnf);first | refine gA ?_ | ((with_reducible first | refine gD (fun h=>?_) (fun h=>?_) | refine gE (fun h=>?_) (fun h=>?_)) <;> (try simp only [lm] at h) <;> try have hw:=wn h) | refine gC (impl_fullGap p y hok hlo) ?_ | refine gC (impl_SetHas done y.src) ?_ | intro _)) <;> (try (conv=>whnf))
 all_goals (refine⟨?_,rfl,trivial⟩;simp [notReady, *])
theorem impl_isReady (p:Proj) (a:Int) (done:List Int) (hok:projOk p=true):Con 58 [.d p.av,.d (i64 a),.d (ints done)] (.d (.bool (ready p a done))):=by
 refine con Tryz.func58 rfl rfl Tryz.call58 rfl fun hwf=>?_
 have hC:=slices_ContainsFunc_LinkIn p.links 125 [i64 a,p.av,ints done] _ fun y hy=>by
  obtain⟨i,hi⟩:=List.mem_iff_getElem?.1 hy
  exact impl_isReady1 p a done y hok ((projForm hok).link i y hi)
 (repeat' ((conv=>whnf);first | refine gA ?_ | ((with_reducible first | refine gD (fun h=>?_) (fun h=>?_) | refine gE (fun h=>?_) (fun h=>?_)) <;> (try simp only [lm] at h) <;> try have hw:=wn h) | refine gC (hC) ?_ | intro _)) <;> (try (conv=>whnf))
 exact⟨rfl,rfl,trivial⟩
end Go.Proofs.YtkiohdpapinecaaGreat.Abs
