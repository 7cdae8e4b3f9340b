/- Contracts: schedules that the program builds step by step. No statement of a claim. -/
import Derived.Test.YtkiohdpapinecaaGreatC42
import Derived.Test.YtkiohdpapinecaaGreatWo
set_option linter.all false
set_option linter.unusedVariables false
set_option linter.unusedSimpArgs false
set_option maxRecDepth 20000
set_option maxHeartbeats 8000000
namespace Go.Proofs.YtkiohdpapinecaaGreat.Abs
open Go.Proofs Go.RowKit
def noSched:Sched:=⟨[],[]⟩
def finishedS (p:Proj) (x:Pln):Option Sched:=if x.done.length=p.acts.length∧schedOk p x.sched=true then some x.sched else none
def RSchL (o:Option Sched):RV:=.tup [.agg [.lin 3 ((o.getD noSched).starts.map i64),.lin 3 ((o.getD noSched).modes.map i64)],.d (.bool o.isSome)]
theorem RSchL_none:RSchL none= .tup [.agg [.lin 3 [],.lin 3 []],.d (.bool false)]:=rfl
theorem RSchL_some (s:Sched):RSchL (some s)= .tup [.agg [.lin 3 (s.starts.map i64),.lin 3 (s.modes.map i64)],.d (.bool true)]:=rfl
theorem impl_finished_no (p:Proj) (x:Pln) (hp:p.fine) (h:finishedS p x=none):Con 61 [.d p.av,.d x.av] (.tup [.agg [.nilsl,.nilsl],.d (.bool false)]):=by
 refine con Tryz.func61 rfl rfl Tryz.call61 rfl fun hwf=>?_
 have hn:¬(x.done.length=p.acts.length∧schedOk p x.sched=true):=fun h'=>by rw [finishedS,if_pos h'] at h;cases h
 (repeat' ((conv=>whnf);first | refine gA ?_ | ((with_reducible first | refine gD (fun h=>?_) (fun h=>?_) | refine gE (fun h=>?_) (fun h=>?_)) <;> (try simp only [lm] at h) <;> try have hw:=wn h) | refine gC (impl_ScheduleOk p x.sched hp) ?_ | intro _)) <;> (try (conv=>whnf))
 all_goals first
  | exact trivial
  | (exfalso;exact hn ⟨by omega,by assumption⟩)
  | (repeat' ((conv=>whnf) <;> (first | exact trivial | exact VC.nod (by kernel_rfl) | refine VC.mk rfl ?_)))
theorem all2_three {α β:Type} {R:α→β→Prop} {a b c:α}:∀{l:List β},All2 R [a,b,c] l→∃x y z,l= [x,y,z]∧R a x∧R b y∧R c z
 | [x,y,z],h=>⟨x,y,z,rfl,h.1,h.2.1,h.2.2.1⟩
 | [],h=>h.elim
 | [_],h=>h.2.elim
 | [_,_],h=>h.2.2.elim
 | _::_::_::_::_,h=>h.2.2.2.elim
theorem all2_five {α β:Type} {R:α→β→Prop} {a b c d e:α}:∀{l:List β},All2 R [a,b,c,d,e] l→∃x y z u v,l= [x,y,z,u,v]∧R a x∧R b y∧R c z∧R d u∧R e v
 | [x,y,z,u,v],h=>⟨x,y,z,u,v,rfl,h.1,h.2.1,h.2.2.1,h.2.2.2.1,h.2.2.2.2.1⟩
 | [],h=>h.elim
 | [_],h=>h.2.elim
 | [_,_],h=>h.2.2.elim
 | [_,_,_],h=>h.2.2.2.elim
 | [_,_,_,_],h=>h.2.2.2.2.elim
 | _::_::_::_::_::_::_,h=>h.2.2.2.2.2.elim
theorem all2_two {α β:Type} {R:α→β→Prop} {a b:α}:∀{l:List β},All2 R [a,b] l→∃x y,l= [x,y]∧R a x∧R b y
 | [x,y],h=>⟨x,y,rfl,h.1,h.2.1⟩
 | [],h=>h.elim
 | [_],h=>h.2.elim
 | _::_::_::_,h=>h.2.2.elim
theorem sl_value {I:Nat→Prop} {w:World} {L:Nat} {l:List AV} {v:Value} (h:Rep1 I w L (.sl l) v):∃a cap,v= .slice a l.length cap:=by
 simp only [Rep1] at h
 obtain⟨a,cap,e,_⟩:=h
 exact⟨a,cap,e⟩
theorem finished_calls {d1 d3 d4 d5:Value} {b1 b2 a2 a3:Option Addr} {n1 n2 q1 q2 cap2 cap3 n:Nat} {w:World} (hcall:∀W,Quiet w W→Calls Tryz.prog 84 #[.agg #[d1,.slice a2 n cap2,d3,d4,d5],.agg #[.slice b1 n1 q1,.slice b2 n2 q2]] W fun e w'=>e= .returned (.bool true)∧Quiet W w'):
  Calls Tryz.prog 61 #[.agg #[d1,.slice a2 n cap2,d3,d4,d5],.agg #[.slice b1 n1 q1,.slice b2 n2 q2,.slice a3 n cap3]] w fun e w'=>e= .returned (.tuple #[.agg #[.slice b1 n1 q1,.slice b2 n2 q2],.bool true])∧Quiet w w':=by
 have HC:=Lib.hid hcall
 clear hcall
 go_enter Tryz.func61,Tryz.ntmps61
 go_wp2_with fail
 generalize hW:((w.alloc _).alloc _).alloc _=W
 have hq0:Quiet w W:=hW ▸ (((Quiet.alloc _ _).trans (Quiet.alloc _ _)).trans (Quiet.alloc _ _))
 have hb3:W.heap[w.heap.size+1]? =some (.cells #[.slice b1 n1 q1,.slice b2 n2 q2,.slice a3 n cap3] 73):=by
  subst hW;simp only [World.alloc,Array.getElem?_push,Array.size_push];rw [if_neg (by omega)];first | (rw [if_pos rfl];done) | (rw [if_neg (by omega),if_pos rfl];done) | rfl
 have hb4:W.heap[w.heap.size+2]? =some (.cells #[.slice none 0 0,.slice none 0 0] 30):=by
  subst hW;simp only [World.alloc,Array.getElem?_push,Array.size_push];simp
 clear hW
 refine (HC.out W hq0).mono ?_
 rintro e w4 ⟨rfl,hq⟩
 have c3:w4.heap[w.heap.size+1]? =some (.cells #[.slice b1 n1 q1,.slice b2 n2 q2,.slice a3 n cap3] 73):=by
  rw [hq.block _ (Array.getElem?_eq_some_iff.1 hb3).1 id];exact hb3
 have c4:w4.heap[w.heap.size+2]? =some (.cells #[.slice none 0 0,.slice none 0 0] 30):=by
  rw [hq.block _ (Array.getElem?_eq_some_iff.1 hb4).1 id];exact hb4
 have HB:=Lib.hid (hq0.trans hq)
 have k0:w4.cell? ⟨w.heap.size+1,0,none⟩=some (.slice b1 n1 q1):=by rw [cell_of_row w4 _ 0 _ _ _ c3];rfl
 have k1:w4.cell? ⟨w.heap.size+1,1,none⟩=some (.slice b2 n2 q2):=by rw [cell_of_row w4 _ 1 _ _ _ c3];rfl
 have k2:w4.cell? ⟨w.heap.size+1+1,0,none⟩=some (.slice none 0 0):=by rw [cell_of_row w4 _ 0 _ _ _ c4];rfl
 have k3:w4.cell? ⟨w.heap.size+1+1,1,none⟩=some (.slice none 0 0):=by rw [cell_of_row w4 _ 1 _ _ _ c4];rfl
 have f2:w4.frozen? ⟨w.heap.size+1+1,0,none⟩=false:=by simp [World.frozen?,c4]
 have f3:w4.frozen? ⟨w.heap.size+1+1,1,none⟩=false:=by simp [World.frozen?,c4]
 clear c3 c4
 clear hq hq0 hb3 hb4
 go_wp2_with fail
 have hb:=HB.out
 have ers:Tryz.f61.results= #[.cell 4 30,.tmp 5]:=rfl
 have hne:(⟨w.heap.size+1+1,0,none⟩:Addr)≠⟨w.heap.size+1+1,1,none⟩:=by simp
 have k4:(w4.setCell ⟨w.heap.size+1+1,0,none⟩ (.slice b1 n1 q1)).cell? ⟨w.heap.size+1+1,1,none⟩=some (.slice none 0 0):=by rw [World.cell?_setCell_other (h:=hne)];exact k3
 have r0:((w4.setCell ⟨w.heap.size+1+1,0,none⟩ (.slice b1 n1 q1)).setCell ⟨w.heap.size+1+1,1,none⟩ (.slice b2 n2 q2)).cell? ⟨w.heap.size+1+1,0,none⟩=some (.slice b1 n1 q1):=by
  rw [World.cell?_setCell_other (h:=hne.symm),World.cell?_setCell_same (h:=k2)]
 have r1:((w4.setCell ⟨w.heap.size+1+1,0,none⟩ (.slice b1 n1 q1)).setCell ⟨w.heap.size+1+1,1,none⟩ (.slice b2 n2 q2)).cell? ⟨w.heap.size+1+1,1,none⟩=some (.slice b2 n2 q2):=World.cell?_setCell_same _ _ _ k4
 refine bodyPost_ret (v:=.tuple #[.agg #[.slice b1 n1 q1,.slice b2 n2 q2],.bool true]) (by simp [results,ers,go_sem,r0,r1]) rfl ?_
 have hb0:Below w.heap.size w w4:=⟨hb.os,hb.tape,hb.output,hb.size,fun k hk=>hb.block k hk id⟩
 exact⟨rfl,Turn.of (fun _ h=>h.elim) ((hb0.setCell (by show w.heap.size≤w.heap.size+1+1;omega) _).setCell (by show w.heap.size≤w.heap.size+1+1;omega) _) hb.drawn⟩
theorem impl_finished_yes (p:Proj) (x:Pln) (s:Sched) (hp:p.fine) (h:finishedS p x=some s):Con 61 [.d p.av,.d x.av] (.tup [.arg 1 0 2,.d (.bool true)]):=by
 have hh:x.done.length=p.acts.length∧schedOk p x.sched=true:=by
  by_cases h':x.done.length=p.acts.length∧schedOk p x.sched=true
  ·exact h'
  ·rw [finishedS,if_neg h'] at h;cases h
 obtain⟨hl,hs⟩:=hh
 have hOK:=impl_ScheduleOk p x.sched hp
 rw [hs] at hOK
 refine⟨Tryz.call61,fun I J O mt w vs hI _ hO _ _ ha=>?_⟩
 obtain⟨v0,v1,rfl,h0,h1⟩:=all2_two ha
 have h0:RepV I w lim p.av v0:=h0
 have h1:RepV I w lim x.av v1:=h1
 have hp0:=h0
 obtain⟨cs,rfl,hc⟩:=h1
 obtain⟨ds,rfl,hd⟩:=h0
 obtain⟨u1,u2,u3,rfl,c1,c2,c3⟩:=all2_three hc
 obtain⟨d1,d2,d3,d4,d5,rfl,_,e2,_⟩:=all2_five hd
 have k1:=sl_value c1
 have k2:=sl_value c2
 obtain⟨a3,cap3,rfl⟩:=sl_value c3
 obtain⟨a2,cap2,rfl⟩:=sl_value e2
 obtain⟨b1,q1,rfl⟩:=k1
 obtain⟨b2,q2,rfl⟩:=k2
 have hcall:∀W,Quiet w W→Calls Tryz.prog 84 #[.agg #[d1,.slice a2 (p.acts.map Activ.av).length cap2,d3,d4,d5],.agg #[.slice b1 (x.sched.starts.map i64).length q1,.slice b2 (x.sched.modes.map i64).length q2]] W fun e w'=>e= .returned (.bool true)∧Quiet W w':=fun W hq=>by
  have hI':∀b,I b→b < W.heap.size:=fun b hb=>Nat.lt_of_lt_of_le (hI b hb) hq.size
  have hw:∀b o,I b→W.cell? ⟨b,o,none⟩=w.cell? ⟨b,o,none⟩:=fun b o hb=>World.cell?_of_block (hq.block b (hI b hb) id)
  exact bool_calls hOK (w:=W) (vs:=[_,_]) ⟨RepV.mono hI' hw hp0,⟨[_,_],rfl,c1.mono hI' hw,c2.mono hI' hw,trivial⟩,trivial⟩
 rw [show (p.acts.map Activ.av).length=(x.done.map i64).length by rw [List.length_map,List.length_map,hl]] at hcall ⊢
 refine (finished_calls hcall).mono ?_
 rintro e w' ⟨rfl,hq⟩
 refine⟨_,rfl,Turn.ofQ (fun k hk=>hO k hk.1) hq,I,[],fun k hk=>hk,fun k hk=>.inl hk,List.nodup_nil,fun _ h=>by simp at h,?_⟩
 simp only [RepR,RepRs]
 exact⟨[_,_],rfl,_,_,[],[],rfl,rfl,⟨rfl,_,rfl,rfl⟩,_,_,[],[],rfl,rfl,⟨rfl,by simp [RepV,Rep1]⟩,rfl,rfl⟩
theorem slices_IndexFunc_intF (l:List Int) (fc:Nat) (caps:List AV) (p:Int→Bool) (hc:∀x:Int,Con fc ([.d (i64 x)]++caps.map .ref) (.d (.bool (p x)))):
  Con 71 [.d (ints l),.fn fc caps] (.d (i64 (findI p l 0))):=by
 refine con Tryz.func71 rfl rfl Tryz.call71 rfl fun hwf=>?_
 simp only [ARs.wf,AR.wf,AV.wf,AV.wfs,List.length_map,lim] at hwf
 (conv=>whnf)
 refine loopF [0,1,7] [] [] ?_
 (conv=>whnf)
 refine LoopC.go ((Nat)) (fun k=>(k≤l.length)∧(findI p (l.drop k) k=findI p l 0)) (fun k=>[(8,.data (i64 k))]) (fun _=>[]) (fun _=>[]) (fun k=>l.length - k) (0) ?_ ?_
 ·exact⟨by omega,rfl⟩
 rintro k ⟨hk,hi⟩
 (repeat' ((conv=>whnf);first | refine gA ?_ | ((with_reducible first | refine gD (fun h=>?_) (fun h=>?_) | refine gE (fun h=>?_) (fun h=>?_)) <;> (try simp only [lm] at h) <;> try have hw:=wn h) | with_reducible refine gI (fun x hx=>?_) | with_reducible refine gJ (fun j x hj hx=>?_) | refine gV ?_ | refine gC (hc x) ?_ | intro _)) <;> (try (conv=>whnf))
 all_goals first
  | exact trivial
  | (refine⟨?_,rfl,trivial⟩;rw [drop_end' (l:=l) (by assumption)] at hi;first | (simp_all [findI];done) | (simp only [findI, ← hi];clear hi;simp_all [findI];done))
  | (refine⟨?_,rfl,trivial⟩;rw [drop_get (l:=l) (by assumption)] at hi;first | (simp_all [findI];done) | (simp only [findI, ← hi];clear hi;simp_all [findI];done))
  | (refine nx (k+1) ?_
     rw [drop_get (l:=l) (by assumption)] at hi;refine⟨by omega,?_⟩;simp_all [findI];done)
def pickable (p:Proj) (x:Pln) (a:Int):Bool:=hasAct p a&&(!x.done.contains a&&ready p a x.done)
theorem impl_Serial1 (p:Proj) (x:Pln) (a:Int) (hok:projOk p=true):Con 72 [.d (i64 a),.ref p.av,.ref x.av] (.d (.bool (pickable p x a))):=by
 refine con Tryz.func72 rfl rfl Tryz.call72 rfl fun hwf=>?_
 (repeat' ((conv=>whnf);first | refine gA ?_ | ((with_reducible first | refine gD (fun h=>?_) (fun h=>?_) | refine gE (fun h=>?_) (fun h=>?_)) <;> (try simp only [lm] at h) <;> try have hw:=wn h) | refine gC (impl_hasActivity p a) ?_ | refine gC (impl_SetHas x.done a) ?_ | refine gC (impl_isReady p a x.done hok) ?_ | intro _)) <;> (try (conv=>whnf))
 all_goals (refine⟨?_,rfl,trivial⟩;simp only [pickable, *];first | rfl | simp)
def pickedAt (p:Proj) (x:Pln) (order:List Int):Int:=findI (pickable p x) order 0
def putAt (p:Proj) (low:Bool) (x:Pln) (a:Int):Option Pln:=match plnEarliest p x a (chooseMode p a low) 0 with | none=>none | some t=>some (putPln x a.toNat (chooseMode p a low) t)
def serialStep (p:Proj) (order:List Int) (low:Bool) (x:Pln):Option Pln:=if pickedAt p x order < 0 then none else putAt p low x (order.getD (pickedAt p x order).toNat 0)
def serialEnd (p:Proj) (order:List Int) (low:Bool):Nat→Pln→Option Sched
 | 0,x=>finishedS p x
 | n+1,x=>match serialStep p order low x with | none=>none | some y=>serialEnd p order low n y
theorem serialEnd_zero (p:Proj) (order:List Int) (low:Bool) (x:Pln):serialEnd p order low 0 x=finishedS p x:=rfl
theorem serialEnd_succ (p:Proj) (order:List Int) (low:Bool) (n:Nat) (x:Pln):serialEnd p order low (n+1) x=(match serialStep p order low x with | none=>none | some y=>serialEnd p order low n y):=rfl
theorem serialStep_no {p:Proj} {order:List Int} {low:Bool} {x:Pln} (h:pickedAt p x order < 0):serialStep p order low x=none:=if_pos h
theorem serialStep_at {p:Proj} {order:List Int} {low:Bool} {x:Pln} {i:Nat} {a:Int} (h:pickedAt p x order=i) (ha:order[i]? =some a):serialStep p order low x=putAt p low x a:=by
 rw [serialStep,if_neg (by omega),h,Int.toNat_natCast,List.getD_eq_getElem?_getD,ha];rfl
theorem putAt_none {p:Proj} {low:Bool} {x:Pln} {a:Int} (h:plnEarliest p x a (chooseMode p a low) 0=none):putAt p low x a=none:=by rw [putAt,h]
theorem putAt_some {p:Proj} {low:Bool} {x:Pln} {a t:Int} (h:plnEarliest p x a (chooseMode p a low) 0=some t):putAt p low x a=some (putPln x a.toNat (chooseMode p a low) t):=by rw [putAt,h]
def serial (p:Proj) (order:List Int) (low:Bool):Option Sched:=if projOk p=true then serialEnd p order low p.acts.length (newPln p) else none
theorem finishedS_some {p:Proj} {x:Pln} {s:Sched} (h:finishedS p x=some s):x.sched=s:=by
 unfold finishedS at h
 split at h
 ·exact Option.some.inj h
 ·cases h
attribute [local irreducible] plnFits plnEarliest chooseMode pickedAt finishedS putPln newPln schedOk
theorem impl_SerialSchedule (p:Proj) (order:List Int) (low:Bool) (hp:p.fine):Con 23 [.d p.av,.d (ints order),.d (.bool low)] (RSchL (serial p order low)):=by
 refine con Tryz.func23 rfl rfl Tryz.call23 rfl fun hwf=>?_
 simp only [ARs.wf,AR.wf,AV.wf,AV.wfs,List.length_map,lim] at hwf
 have hP:=impl_ProjectOk p hp
 generalize hR:serial p order low=R
 cases ho:projOk p with
 | false=>
  rw [serial,if_neg (by simp [ho])] at hR
  subst hR
  rw [ho] at hP
  rw [RSchL_none]
  (repeat' ((conv=>whnf);first | refine gA ?_ | ((with_reducible first | refine gD (fun h=>?_) (fun h=>?_) | refine gE (fun h=>?_) (fun h=>?_)) <;> (try simp only [lm] at h) <;> try have hw:=wn h) | with_reducible refine gI (fun x hx=>?_) | with_reducible refine gJ (fun j x hj hx=>?_) | refine gV ?_ | refine gC (hP) ?_ | intro _)) <;> (try (conv=>whnf))
  (repeat' ((conv=>whnf) <;> (first | exact trivial | exact VC.nod (by kernel_rfl) | refine VC.mk rfl ?_)))
 | true=>
 rw [serial,if_pos ho] at hR
 rw [ho] at hP
 (repeat' ((conv=>whnf);first | refine gA ?_ | ((with_reducible first | refine gD (fun h=>?_) (fun h=>?_) | refine gE (fun h=>?_) (fun h=>?_)) <;> (try simp only [lm] at h) <;> try have hw:=wn h) | with_reducible refine gI (fun x hx=>?_) | with_reducible refine gJ (fun j x hj hx=>?_) | refine gV ?_ | refine gC (hP) ?_ | refine gC (impl_NewPlan p hp) ?_ | intro _)) <;> (try (conv=>whnf))
 refine loopF [1,2,3,6,8,22] [3,6] [900001,900002,900003] ?_
 (conv=>whnf)
 refine LoopC.go ((Nat)×(Pln)) (fun⟨k,x⟩=>(k≤p.acts.length)∧(serialEnd p order low (p.acts.length - k) x=R)) (fun⟨k,x⟩=>[(23,.data (i64 k))]) (fun⟨k,x⟩=>[(8,[.own 900001 0,.own 900002 0,.own 900003 0])]) (fun⟨k,x⟩=>[(900001,3,x.sched.starts.map i64,2),(900002,3,x.sched.modes.map i64,2),(900003,3,x.done.map i64,2)]) (fun⟨k,x⟩=>p.acts.length - k) ⟨0,newPln p⟩ ?_ ?_
 ·exact⟨Nat.zero_le _,hR⟩
 rintro⟨k,x⟩ ⟨hk,he⟩
 by_cases hlt:k < p.acts.length
 ·rw [show p.acts.length - k=(p.acts.length - (k+1))+1 by omega,serialEnd_succ] at he
  have hI:=slices_IndexFunc_intF order 72 [p.av,x.av] (pickable p x) (fun a=>impl_Serial1 p x a ho)
  have hfl:=findI_lt (p:=pickable p x) order 0
  rw [show findI (pickable p x) order 0=pickedAt p x order by unfold pickedAt;rfl] at hI hfl
  by_cases hneg:pickedAt p x order < 0
  ·rw [serialStep_no hneg] at he
   dsimp only at he
   subst he
   rw [RSchL_none]
   (repeat' ((conv=>whnf);first | (exfalso;omega) | with_reducible refine Br.yes (decide_eq_true hneg) ?_ | refine gA ?_ | ((with_reducible first | refine gD (fun h=>?_) (fun h=>?_) | refine gE (fun h=>?_) (fun h=>?_)) <;> (try simp only [lm] at h) <;> try have hw:=wn h) | with_reducible refine gI (fun x hx=>?_) | with_reducible refine gJ (fun j x hj hx=>?_) | refine gV ?_ | refine gC (hI) ?_ | intro _)) <;> (try (conv=>whnf))
   (repeat' ((conv=>whnf) <;> (first | exact trivial | exact VC.nod (by kernel_rfl) | refine VC.mk rfl ?_)))
  ·obtain⟨i,hi⟩:∃i:Nat,pickedAt p x order=i:=⟨(pickedAt p x order).toNat,by omega⟩
   obtain⟨a,ha⟩:∃a,order[i]? =some a:=⟨order[i]'(by omega),by simp⟩
   rw [serialStep_at hi ha] at he
   have hE:=impl_PlanEarliest p x a (chooseMode p a low) 0 hp
   cases h1:plnEarliest p x a (chooseMode p a low) 0 with
   | none=>
    rw [putAt_none h1] at he
    dsimp only at he
    subst he
    rw [ROpt,h1] at hE
    dsimp only [Option.getD,Option.isSome] at hE
    rw [RSchL_none]
    (repeat' ((conv=>whnf);first | with_reducible refine Idx.got ha hi ?_ | (exfalso;omega) | refine gA ?_ | ((with_reducible first | refine gD (fun h=>?_) (fun h=>?_) | refine gE (fun h=>?_) (fun h=>?_)) <;> (try simp only [lm] at h) <;> try have hw:=wn h) | with_reducible refine gI (fun x hx=>?_) | with_reducible refine gJ (fun j x hj hx=>?_) | refine gV ?_ | refine gC (hI) ?_ | refine gC (impl_ChooseMode p a low hp) ?_ | refine gC (hE) ?_ | intro _)) <;> (try (conv=>whnf))
    (repeat' ((conv=>whnf) <;> (first | exact trivial | exact VC.nod (by kernel_rfl) | refine VC.mk rfl ?_)))
   | some t=>
    rw [putAt_some h1] at he
    dsimp only at he
    rw [ROpt,h1] at hE
    dsimp only [Option.getD,Option.isSome] at hE
    have hfit:plnFits p x a (chooseMode p a low) t=true:=earliest_fits (by unfold plnEarliest at h1;exact h1)
    obtain⟨ka,y,q,mo,rfl,g⟩:=fits_get hfit
    obtain⟨l1,l2,l3⟩:=fit_len g
    rw [Int.toNat_natCast] at he
    (repeat' ((conv=>whnf);first | with_reducible refine Idx.got ha hi ?_ | (exfalso;omega) | refine gA ?_ | ((with_reducible first | refine gD (fun h=>?_) (fun h=>?_) | refine gE (fun h=>?_) (fun h=>?_)) <;> (try simp only [lm] at h) <;> try have hw:=wn h) | with_reducible refine gI (fun x hx=>?_) | with_reducible refine gJ (fun j x hj hx=>?_) | refine gV ?_ | refine gC (hI) ?_ | refine gC (impl_ChooseMode p ka low hp) ?_ | refine gC (hE) ?_ | refine gC (impl_with x ka (chooseMode p ka low) t l1 l2 l3) ?_ | intro _)) <;> (try (conv=>whnf))
    refine nx ⟨k+1,putPln x ka (chooseMode p ka low) t⟩ ?_
    exact⟨by omega,he⟩
 ·rw [show p.acts.length - k=0 by omega,serialEnd_zero] at he
  cases hfn:finishedS p x with
  | none=>
   rw [hfn] at he
   subst he
   rw [RSchL_none]
   (repeat' ((conv=>whnf);first | (exfalso;omega) | refine gA ?_ | ((with_reducible first | refine gD (fun h=>?_) (fun h=>?_) | refine gE (fun h=>?_) (fun h=>?_)) <;> (try simp only [lm] at h) <;> try have hw:=wn h) | with_reducible refine gI (fun x hx=>?_) | with_reducible refine gJ (fun j x hj hx=>?_) | refine gV ?_ | refine gC (impl_finished_no p x hp hfn) ?_ | intro _)) <;> (try (conv=>whnf))
   (repeat' ((conv=>whnf) <;> (first | exact trivial | exact VC.nod (by kernel_rfl) | refine VC.mk rfl ?_)))
  | some s=>
   rw [hfn] at he
   subst he
   obtain rfl:=finishedS_some hfn
   rw [RSchL_some]
   (repeat' ((conv=>whnf);first | (exfalso;omega) | refine gA ?_ | ((with_reducible first | refine gD (fun h=>?_) (fun h=>?_) | refine gE (fun h=>?_) (fun h=>?_)) <;> (try simp only [lm] at h) <;> try have hw:=wn h) | with_reducible refine gI (fun x hx=>?_) | with_reducible refine gJ (fun j x hj hx=>?_) | refine gV ?_ | refine gC (impl_finished_yes p x _ hp hfn) ?_ | intro _)) <;> (try (conv=>whnf))
   (repeat' ((conv=>whnf) <;> (first | exact trivial | exact VC.nod (by kernel_rfl) | refine VC.mk rfl ?_)))
def parStep (p:Proj) (low:Bool) (t:Int) (x:Pln) (a:Int):Pln:=if hasAct p a=true∧ready p a x.done=true∧plnFits p x a (chooseMode p a low) t=true then putPln x a.toNat (chooseMode p a low) t else x
def parFrom (p:Proj) (order:List Int) (low:Bool):Nat→Int→Pln→Pln
 | 0,_,x=>x
 | n+1,t,x=>parFrom p order low n (t+1) (order.foldl (parStep p low t) x)
def parallel (p:Proj) (order:List Int) (low:Bool):Option Sched:=if projOk p=true then finishedS p (parFrom p order low p.dead.toNat 0 (newPln p)) else none
attribute [local irreducible] parStep parFrom ready
end Go.Proofs.YtkiohdpapinecaaGreat.Abs
