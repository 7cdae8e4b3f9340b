/- A body is walked in phases: each with pools of its own; slots that a phase does not write hold what they held. No statement of a claim. -/
import Derived.Test.YtepogmnolnlpmaaGreatLayB
set_option linter.all false
namespace Go.Proofs.YtepogmnolnlpmaaGreat.Abs
open Go.RowKit
def notIn (S:List Nat):Option Nat→Bool
 | some d=> !S.contains d
 | none=>true
theorem notIn_ne {S:List Nat} {d:Option Nat} (h:notIn S d=true) {i:Nat} (hi:i∈S):d≠some i:=by
 rintro rfl
 simp only [notIn,Bool.not_eq_true',List.contains_eq_mem,decide_eq_false_iff_not] at h
 exact h hi
def Held (S:List Nat) (a a':Act):Prop:=∀i∈S,a'.tmps.getD i undef=a.tmps.getD i undef
theorem Held.put {S:List Nat} {a a':Act} (h:Held S a a') {d:Option Nat} (hd:notIn S d=true) (v:Value):Held S a (a'.put d v):=by
 intro i hi
 rw [← h i hi]
 cases d with
 | none=>rfl
 | some d=>
  simp only [Act.put,getD_put]
  rw [if_neg]
  rintro⟨rfl,_⟩
  exact notIn_ne hd hi rfl
section
variable {P:Program} {S:List Nat} {a0:Act}
def HQ (S:List Nat) (a0:Act) (Q:Exit→Act→World→Prop):Exit→Act→World→Prop:=fun e a w=>Q e a w∧(e= .normal→Held S a0 a)
theorem wp_held {o:Oper} {a:Act} {w:World} {K K':Act→World→Prop} {Q:Exit→Act→World→Prop} (hd:notIn S o.dst=true) (ha:Held S a0 a)
  (h:∀a w,Held S a0 a→K a w→K' a w) (hh:o.wp P a w K Q):o.wp P a w K' (HQ S a0 Q):=by
 unfold Oper.wp at*
 generalize (execOp a.eval o).run P w=r at*
 have hput:∀v,Held S a0 (a.put o.dst v):=fun v=>ha.put hd v
 cases r with
 | ok n w'=>
  cases n with
  | value v=>exact h _ _ (hput v) hh
  | skip=>exact h _ _ (hput _) hh
  | defer d=>exact h _ _ ((show Held S a0 { a with defers:=d::a.defers } from ha).put hd _) hh
  | enter f args=>
   simp only [Oper.upon] at hh ⊢
   refine Calls.mono hh (fun e w'' he=>?_)
   cases e with
   | returned v=>exact h _ _ (hput v) he
   | panicked ch=>exact⟨he,nofun⟩
   | outgrown=>obtain⟨x,y,hxy⟩:=he;exact⟨x,y,hxy,nofun⟩
  | row r args=>
   simp only [Oper.upon] at hh ⊢
   exact Rows.mono hh (fun _ _ he=>h _ _ (hput _) he)
  | _=>exact hh.elim
 | halt x w'=>
  cases x <;> simp only [Oper.upon] at hh ⊢
  ·exact⟨hh,nofun⟩
theorem wpList_held {ops:Array Oper} {Q:Exit→Act→World→Prop}:∀(l:List Oper) (a:Act) (w:World),l.all (fun o=>notIn S o.dst)=true→Held S a0 a→wpList P ops Q l a w→wpList P ops (HQ S a0 Q) l a w
 | [],_,_,_,ha,h=>⟨h,fun _=>ha⟩
 | o::r,a,w,hd,ha,h=>by
  simp only [List.all_cons,Bool.and_eq_true] at hd
  simp only [wpList] at h ⊢
  split
  ·rename_i hw
   simp only [hw,if_true] at h
   rcases h with h | ⟨h1,x,y,h2⟩
   ·exact .inl (wp_held hd.1 ha (fun a' w' ha' hk=>wpList_held r a' w' hd.2 ha' hk) h)
   ·exact .inr ⟨h1,x,y,h2,nofun⟩
  ·rename_i hw
   simp only [hw] at h
   exact wpList_held r _ w hd.2 (ha.put hd.1 _) h
theorem wpAny_held {ops:Array Oper} {Q:Exit→Act→World→Prop} (hall:ops.toList.all (fun o=>notIn S o.dst)=true):∀(fuel:Nat) (listed:Array Bool) (a:Act) (w:World),Held S a0 a→wpAny P .any ops Q fuel listed a w→wpAny P .any ops (HQ S a0 Q) fuel listed a w
 | 0,_,_,_,ha,h=>⟨h.1,h.2,fun _=>ha⟩
 | fuel+1,listed,a,w,ha,h=>by
  refine⟨fun hr=>⟨h.1 hr,fun _=>ha⟩,fun i hi=>?_⟩
  have hh:=h.2 i hi
  unfold wpOp at hh ⊢
  cases ho:ops[i]? with
  | none=>simp only [ho] at hh ⊢;exact wpAny_held hall fuel _ a w ha hh
  | some o=>
   simp only [ho] at hh ⊢
   have hd:notIn S o.dst=true:=List.all_eq_true.1 hall o (by
    rw [← Array.getElem?_toList] at ho
    exact List.mem_of_getElem? ho)
   split
   ·rename_i hw
    simp only [hw,if_true] at hh
    rcases hh with hh | ⟨h1,x,y,h2⟩
    ·exact .inl (wp_held hd ha (fun a' w' ha' hk=>wpAny_held hall fuel _ a' w' ha' hk) hh)
    ·exact .inr ⟨h1,x,y,h2,nofun⟩
   ·rename_i hw
    simp only [hw] at hh
    exact wpAny_held hall fuel _ _ w (ha.put hd _) hh
end
def keepsC (S:List Nat):Code→Bool
 | .skip | .ret | .exit _ | .label _=>true
 | .seq a b=>keepsC S a&&keepsC S b
 | .cond _ a b=>keepsC S a&&keepsC S b
 | .region _ ops _=>ops.toList.all fun o=>notIn S o.dst
 | _=>false
def headC:Nat→Code→Code
 | 0,_=>.skip
 | n+1,.seq a b=>.seq a (headC n b)
 | _+1,_=>.goto 0
def tailC:Nat→Code→Code
 | 0,c=>c
 | n+1,.seq _ b=>tailC n b
 | _+1,_=>.skip
section
variable {P:Program} {T:Nat→Ty} {L:Nat} {w0:World} {I0:Bs} {S:List Nat}
theorem Held.refl {a:Act}:Held S a a:=fun _ _=>rfl
theorem Held.trans {a b c:Act} (h:Held S a b) (k:Held S b c):Held S a c:=fun i hi=>(k i hi).trans (h i hi)
theorem awp_keep (hT:TabOk P T) (hL1:1000≤L) (hL2:L≤2 ^ 38) (hm:P.follows .mixedOrders=true):∀(code:Code) (Qa:AX→St→Prop) (Q:Exit→Act→World→Prop) (s:St) (a:Act) (w:World) (c:Cx),keepsC S code=true→Gam T L w0 I0 s a w c→awp T (CallK P T L) L code Qa s→
  (∀e s' a' w' c',Gam T L w0 I0 s' a' w' c'→Qa e s'→Held S a a'∨e≠.normal→Q e.ex a' w')→code.wp P Q a w
 | .skip,Qa,Q,s,a,w,c,_,h,hw,hQ=>wp_skip (hQ .normal _ _ _ _ h hw (.inl .refl))
 | .label _,Qa,Q,s,a,w,c,_,h,hw,hQ=>wp_label (hQ .normal _ _ _ _ h hw (.inl .refl))
 | .ret,Qa,Q,s,a,w,c,_,h,hw,hQ=>wp_ret (hQ .ret _ _ _ _ h hw (.inl .refl))
 | .exit id,Qa,Q,s,a,w,c,_,h,hw,hQ=>wp_exit (hQ (.exit id) _ _ _ _ h hw (.inl .refl))
 | .seq x y,Qa,Q,s,a,w,c,hp,h,hw,hQ=>by
  simp only [keepsC,Bool.and_eq_true] at hp
  refine wp_seq (awp_keep hT hL1 hL2 hm x _ _ s a w c hp.1 h hw ?_)
  intro e s' a' w' c' h' hq hk
  cases e with
  | normal=>
   have hk:=hk.resolve_right (fun h=>h rfl)
   exact awp_keep hT hL1 hL2 hm y Qa Q s' a' w' c' hp.2 h' hq fun e s2 a2 w2 c2 h2 hq2 hk2=>hQ e s2 a2 w2 c2 h2 hq2 (hk2.imp (fun k=>hk.trans k) id)
  | ret=>exact hQ .ret _ _ _ _ h' hq (.inr nofun)
  | exit id=>exact hQ (.exit id) _ _ _ _ h' hq (.inr nofun)
 | .cond (.tmp t) x y,Qa,Q,s,a,w,c,hp,h,hw,hQ=>by
  simp only [keepsC,Bool.and_eq_true] at hp
  simp only [awp] at hw
  split at hw
  ·rename_i b hb
   have hv:=h.slots t
   rw [hb] at hv
   have hev:a.eval (.tmp t)= .bool b:=bool_of hv
   cases b with
   | true=>exact wp_cond_true hev (awp_keep hT hL1 hL2 hm x Qa Q _ a w c hp.1 (h.know hv) (hw.t rfl) hQ)
   | false=>exact wp_cond_false hev (awp_keep hT hL1 hL2 hm y Qa Q _ a w c hp.2 (h.know hv) (hw.f rfl) hQ)
  ·exact hw.elim
 | .cond (.const v) x y,Qa,Q,s,a,w,c,hp,h,hw,hQ=>by
  simp only [keepsC,Bool.and_eq_true] at hp
  cases v with
  | bool b=>
   cases b with
   | true=>exact wp_cond_true rfl (awp_keep hT hL1 hL2 hm x Qa Q _ a w c hp.1 h hw hQ)
   | false=>exact wp_cond_false rfl (awp_keep hT hL1 hL2 hm y Qa Q _ a w c hp.2 h hw hQ)
  | _=>exact hw.elim
 | .cond (.global _) x y,_,_,_,_,_,_,_,_,hw,_=>hw.elim
 | .cond (.func _) x y,_,_,_,_,_,_,_,_,hw,_=>hw.elim
 | .region id ops draw,Qa,Q,s,a,w,c,hp,h,hw,hQ=>by
  simp only [keepsC] at hp
  cases draw with
  | true=>
   refine wp_mono (Q:=HQ S a fun e a' w'=>e= .normal∧∃s' c',Gam T L w0 I0 s' a' w' c'∧Qa .normal s') (wp_region_any hm (wpAny_held hp _ _ _ _ .refl ?_)) ?_
   ·exact aopsD_any hT hL1 hL2 (fun s' a' w' c' h' hk=>⟨rfl,s',c',h',hk⟩) (fun n hn=>⟨c,h.drew n hn⟩) hw
   ·rintro e a' w' ⟨⟨rfl,s',c',h1,h2⟩,h3⟩
    exact hQ .normal _ _ _ _ h1 h2 (.inl (h3 rfl))
  | false=>
   refine wp_mono (Q:=HQ S a fun e a' w'=>e= .normal∧∃s' c',Gam T L w0 I0 s' a' w' c'∧Qa .normal s') (wp_region_list (wpList_held _ _ _ hp .refl ?_)) ?_
   ·exact aops_sound hT hL1 hL2 (fun s' a' w' c' h' hk=>⟨rfl,s',c',h',hk⟩) ops.toList s a w c h hw
   ·rintro e a' w' ⟨⟨rfl,s',c',h1,h2⟩,h3⟩
    exact hQ .normal _ _ _ _ h1 h2 (.inl (h3 rfl))
 | .block _ _,_,_,_,_,_,_,hp,_,_,_=>by simp [keepsC] at hp
 | .loop _,_,_,_,_,_,_,hp,_,_,_=>by simp [keepsC] at hp
 | .rangeFunc _ _ _ _,_,_,_,_,_,_,_,_,hw,_=>hw.elim
 | .scope _,_,_,_,_,_,_,_,_,hw,_=>hw.elim
 | .goto _,_,_,_,_,_,_,_,_,hw,_=>hw.elim
 | .refuse _,_,_,_,_,_,_,_,_,hw,_=>hw.elim
theorem phase_sound (hT:TabOk P T) (hL1:1000≤L) (hL2:L≤2 ^ 38) (hm:P.follows .mixedOrders=true):∀(n:Nat) (code:Code) (Qa:AX→St→Prop) (Q:Exit→Act→World→Prop) (s:St) (a:Act) (w:World) (c:Cx),keepsC S (headC n code)=true→Gam T L w0 I0 s a w c→awp T (CallK P T L) L (headC n code) Qa s→
  (∀s' a' w' c',Gam T L w0 I0 s' a' w' c'→Qa .normal s'→Held S a a'→(tailC n code).wp P Q a' w')→
  (∀e s' a' w' c',e≠.normal→Gam T L w0 I0 s' a' w' c'→Qa e s'→Q e.ex a' w')→code.wp P Q a w
 | 0,code,Qa,Q,s,a,w,c,_,h,hw,hN,_=>hN _ _ _ _ h hw .refl
 | n+1,.seq x y,Qa,Q,s,a,w,c,hp,h,hw,hN,hE=>by
  simp only [headC,keepsC,Bool.and_eq_true] at hp
  refine wp_seq (awp_keep hT hL1 hL2 hm x _ _ s a w c hp.1 h hw ?_)
  intro e s' a' w' c' h' hq hk
  cases e with
  | normal=>
   have hk:=hk.resolve_right (fun h=>h rfl)
   exact phase_sound hT hL1 hL2 hm n y Qa Q s' a' w' c' hp.2 h' hq (fun s2 a2 w2 c2 h2 hq2 hk2=>hN s2 a2 w2 c2 h2 hq2 (hk.trans hk2)) hE
  | ret=>exact hE .ret _ _ _ _ nofun h' hq
  | exit id=>exact hE (.exit id) _ _ _ _ nofun h' hq
 | _+1,.skip,_,_,_,_,_,_,hp,_,_,_,_=>by simp [headC,keepsC] at hp
 | _+1,.region _ _ _,_,_,_,_,_,_,hp,_,_,_,_=>by simp [headC,keepsC] at hp
 | _+1,.cond _ _ _,_,_,_,_,_,_,hp,_,_,_,_=>by simp [headC,keepsC] at hp
 | _+1,.block _ _,_,_,_,_,_,_,hp,_,_,_,_=>by simp [headC,keepsC] at hp
 | _+1,.loop _,_,_,_,_,_,_,hp,_,_,_,_=>by simp [headC,keepsC] at hp
 | _+1,.rangeFunc _ _ _ _,_,_,_,_,_,_,hp,_,_,_,_=>by simp [headC,keepsC] at hp
 | _+1,.exit _,_,_,_,_,_,_,hp,_,_,_,_=>by simp [headC,keepsC] at hp
 | _+1,.scope _,_,_,_,_,_,_,hp,_,_,_,_=>by simp [headC,keepsC] at hp
 | _+1,.label _,_,_,_,_,_,_,hp,_,_,_,_=>by simp [headC,keepsC] at hp
 | _+1,.goto _,_,_,_,_,_,_,hp,_,_,_,_=>by simp [headC,keepsC] at hp
 | _+1,.ret,_,_,_,_,_,_,hp,_,_,_,_=>by simp [headC,keepsC] at hp
 | _+1,.refuse _,_,_,_,_,_,_,hp,_,_,_,_=>by simp [headC,keepsC] at hp
theorem ret_true (hT:TabOk P T) {fn:Func} {s:St} {a:Act} {w:World} {c:Cx} (h:Gam T L w0 I0 s a w c) {e:AX} (hq:RetOk T fn.results.toList (.d (.bool true)) e s) {R:Ending→World→Prop} (hR:R (.returned (.bool true)) w):
  bodyPost P fn R e.ex a w:=by
 have key:RetOk T fn.results.toList (.d (.bool true)) .ret s→a.defers= []∧∃v,(results fn a.tmps).run P w= .ok v w∧R (.returned v) w:=by
  intro hq
  simp only [RetOk,RV.hasLin,cond_false] at hq
  obtain⟨xs,us,k1,k2,k3⟩:=retK_sound hT h _ _ hq
  have hres:(results fn a.tmps).run P w= .ok (if h:us.toArray.size=1 then us.toArray[0] else .tuple us.toArray) w:=by
   have hm:(fn.results.mapM (resOne a.tmps)).run P w= .ok us.toArray w:=by
    rw [Array.mapM_eq_mapM_toList]
    simp [k3]
   have he:results fn a.tmps=(do let vs ← fn.results.mapM (resOne a.tmps);pure (if h:vs.size=1 then vs[0] else .tuple vs)):=by
    unfold results
    congr 1
   rw [he,Sem.run_bind,hm]
   simp
  refine⟨h.defers,_,hres,?_⟩
  have fin:∀(v:SV) (u:Value),RepS T c s.tok s.mem w L v u→relR T (.d (.bool true)) s v [] (fun s1 acc=>VC (accOk s1 acc=true) True)→u= .bool true:=by
   intro v u hv hrel
   obtain⟨n,s1,c1,_,_,_,_,m5⟩:=relR_sound (As:=[]) (.d (.bool true)) s c v u [] _ h hv hrel
   simp only [RepR,RepV] at m5
   exact m5.2
  have hlen2:=(RepSs.all2.1 k2).length
  match xs,us,k1,k2,hlen2 with
  | [x],[u],k1,k2,_=>
   simp only [RepSs] at k2
   obtain⟨_,_,he,hx,_⟩:=k2
   cases he
   have:=fin x u hx k1
   subst this
   exact hR
  | [],[],k1,k2,_=>simp [relR,eraseV,erase] at k1
  | x::y::xs,u::v::us,k1,k2,_=>simp [relR,eraseV,erase] at k1
 cases e with
 | normal=>exact key hq
 | ret=>exact key hq
 | exit id=>exact hq.elim
def PhQ (T:Nat→Ty) (nt:Nat) (fr:Fr) (rs:List ResultVar) (e:AX) (s:St):Prop:=
 match e with
 | .normal=>s.n=nt∧Weak T s fr
 | e=>RetOk T rs (.d (.bool true)) e s
def cx0 (I J O:Nat→Prop) (mt:Bool) (w:World):Cx:={ β:=fun _=>none,ω:=fun _=>none,I:=I,J:=J,O:=O,mt:=mt,base:=w.heap.size,who:=fun _=>none,lin:=fun _=>none }
def RepF (T:Nat→Ty) (I J O:Nat→Prop) (mt:Bool) (w:World) (L:Nat) (a:Act):List (Nat×SV)→Prop
 | []=>True
 | (i,v)::r=>RepS T (cx0 I J O mt w) (fun _=>none) (fun _=>none) w L v (a.tmps.getD i undef)∧RepF T I J O mt w L a r
theorem repF_look {I J O:Nat→Prop} {mt:Bool} {w:World} {a:Act}:∀{l:List (Nat×SV)} {i:Nat} {v:SV},RepF T I J O mt w L a l→look l i=some v→RepS T (cx0 I J O mt w) (fun _=>none) (fun _=>none) w L v (a.tmps.getD i undef)
 | [],_,_,_,h=>by simp [look] at h
 | (j,u)::r,i,v,h,e=>by
  simp only [look] at e
  cases hb:Nat.beq i j with
  | true=>simp only [hb,cond_true] at e;cases e;rw [Nat.eq_of_beq_eq_true hb];exact h.1
  | false=>simp only [hb,cond_false] at e;exact repF_look h.2 e
theorem Gam.begin {n:Nat} {I J O:Nat→Prop} {mt:Bool} {w:World} {a:Act} {slots:List (Nat×SV)} (hsz:a.tmps.size=n) (hdf:a.defers= []) (hI:∀b,I b→b < w.heap.size) (hJ:∀b,J b→b < w.heap.size) (hO:∀b,O b→b < w.heap.size)
  (hfz:mt=true→∀b,O b→Thaw w b) (hij:mt=true→∀b,I b∨J b→¬ O b) (hs:RepF T I J O mt w L a slots):
  Gam T L w ⟨I,fun b=>O b∧mt=true⟩ ((Fr.mk slots [] []).st n) a w (cx0 I J O mt w):=by
 refine⟨Turn.refl _ _,fun _ h=>h,fun _ h=>.inl h,hI,hJ,fun _ _=>rfl,hO,hfz,hij,fun b hb=>absurd rfl hb,hsz,hdf,rfl,rfl,fun i=>?_,?_,?_⟩
 ·simp only [Fr.st]
  cases hl:look slots i with
  | none=>simp [RepS]
  | some v=>exact repF_look hs hl
 ·intro d g cells hd;simp [Fr.st,look] at hd
 ·intro τ t ht;simp [Fr.st,look] at ht
theorem phase (hT:TabOk P T) (hL1:1000≤L) (hL2:L≤2 ^ 38) (hm:P.follows .mixedOrders=true) {fn:Func} {code:Code} {R:Ending→World→Prop} (k:Nat) (S:List Nat) (slots:List (Nat×SV)) (fr:Fr)
  {I J O:Nat→Prop} {mt:Bool} {w:World} {a:Act} (hg:Gam T L w ⟨I,fun b=>O b∧mt=true⟩ ((Fr.mk slots [] []).st fn.ntmps) a w (cx0 I J O mt w)) (hk:keepsC S (headC k code)=true)
  (hw:awpR T (CallK P T L) L (headC k code) (PhQ T fn.ntmps fr fn.results.toList) ((Fr.mk slots [] []).st fn.ntmps))
  (hN:∀a' w' c',Gam T L w ⟨I,fun b=>O b∧mt=true⟩ (fr.st fn.ntmps) a' w' c'→Held S a a'→(tailC k code).wp P (bodyPost P fn R) a' w')
  (hR:∀w',Turn (fun b=>O b∧mt=true) w w'→R (.returned (.bool true)) w'):code.wp P (bodyPost P fn R) a w:=by
 rw [awpR_eq] at hw
 refine phase_sound hT hL1 hL2 hm k code _ _ _ a w _ hk hg hw ?_ ?_
 ·rintro s' a' w' c' h' ⟨h1,h2⟩ hh
  obtain⟨c2,hg2⟩:=weak_sound h' h2
  rw [h1] at hg2
  exact hN a' w' c2 hg2 hh
 ·intro e s' a' w' c' he h' hq
  have hq':RetOk T fn.results.toList (.d (.bool true)) e s':=by cases e <;> first | exact absurd rfl he | exact hq
  exact ret_true hT h' hq' (hR w' ((show c'.M=fun b=>O b∧mt=true from h'.om) ▸ h'.below))
theorem phase_last (hT:TabOk P T) (hL1:1000≤L) (hL2:L≤2 ^ 38) (hm:P.follows .mixedOrders=true) {fn:Func} {code:Code} {R:Ending→World→Prop} (slots:List (Nat×SV))
  {I J O:Nat→Prop} {mt:Bool} {w:World} {a:Act} (hg:Gam T L w ⟨I,fun b=>O b∧mt=true⟩ ((Fr.mk slots [] []).st fn.ntmps) a w (cx0 I J O mt w)) (hp:plainCode code=true)
  (hw:awpR T (CallK P T L) L code (RetOk T fn.results.toList (.d (.bool true))) ((Fr.mk slots [] []).st fn.ntmps))
  (hR:∀w',Turn (fun b=>O b∧mt=true) w w'→R (.returned (.bool true)) w'):code.wp P (bodyPost P fn R) a w:=by
 rw [awpR_eq] at hw
 refine awp_sound hT hL1 hL2 hm code _ _ _ _ _ _ hp hg hw ?_
 intro e s' a' w' c' h' hq
 exact ret_true hT h' hq (hR w' ((show c'.M=fun b=>O b∧mt=true from h'.om) ▸ h'.below))
theorem Gam.box_of {s:St} {a:Act} {w:World} {c:Cx} (h:Gam T L w0 I0 s a w c) {d:Nat} {l:List AV} (hs:s.get d= .box d 0 0) (hm:s.mem d=some (0,l.map SV.data)):
  ∃b,a.tmps.getD d undef= .pointer (some ⟨b,0,none⟩)∧w0.heap.size≤b∧b < w.heap.size∧Thaw w b∧RepC c.I w L b l 0:=by
 obtain⟨b,cs,E,k1,k2,k3,k4,k5⟩:=h.mems d 0 _ hm
 have hv:=h.slots d
 rw [hs] at hv
 simp only [RepS] at hv
 obtain⟨g',cells',m1,_,m3⟩:=hv
 rw [hm] at m1;cases m1
 obtain⟨b',n1,n2⟩:=m3 rfl
 rw [k1] at n1;cases n1
 have hb:=h.wlt b (by simp [k2])
 refine⟨b,n2,hb.1,hb.2,fun o=>by simp [World.frozen?,k3],?_⟩
 have hcell:∀j u,cs[j]? =some u→w.cell? ⟨b,j,none⟩=some u:=fun j u hu=>by
  rw [cell_of_row w b j _ _ _ k3];simpa using hu
 have go:∀(l:List AV) (us:List Value) (o:Nat),RepSs T c s.tok s.mem w L (l.map SV.data) us→(∀u∈us,u.oneCell'=true)→(∀j u,us[j]? =some u→w.cell? ⟨b,o+j,none⟩=some u)→RepC c.I w L b l o:=by
  intro l
  induction l with
  | nil=>intro us o _ _ _;simp [RepC]
  | cons x l ih=>
   intro us o hr hn hc
   simp only [List.map_cons,RepSs] at hr
   obtain⟨u,us',rfl,h1,h2⟩:=hr
   simp only [RepS] at h1
   simp only [RepC]
   refine⟨⟨u,by simpa using hc 0 u rfl,?_⟩,ih us' (o+1) h2 (fun v hv=>hn v (by simp [hv])) fun j v hj=>?_⟩
   ·have hone:=hn u (by simp)
    cases x with
    | agg m=>obtain⟨vs,rfl,_⟩:=h1;simp [Value.oneCell'] at hone
    | _=>simpa [Rep1,RepV] using h1
   ·have:=hc (j+1) v (by simpa using hj)
    rwa [show o+(j+1)=o+1+j by omega] at this
 exact go l cs 0 k4 k5 (fun j u hu=>by rw [Nat.zero_add];exact hcell j u hu)
end
end Go.Proofs.YtepogmnolnlpmaaGreat.Abs
namespace Go.Proofs.YtepogmnolnlpmaaGreat.Abs
open Go.RowKit
abbrev Fact:=Nat×Bool×AV
def Fct (L:Nat) (I:Nat→Prop) (w:World) (a:Act) (f:Fact):Prop:=
 match f.2.1 with
 | false=>RepV I w L f.2.2 (a.tmps.getD f.1 undef)
 | true=>∃b,a.tmps.getD f.1 undef= .pointer (some ⟨b,0,none⟩)∧I b∧RepC I w L b f.2.2.cells 0
def Fcts (L:Nat) (I:Nat→Prop) (w:World) (a:Act) (l:List Fact):Prop:=∀f∈l,Fct L I w a f
def toD (f:Fact):Nat×SV:=(f.1,bif f.2.1 then .ref f.2.2 else .data f.2.2)
def toO (f:Fact):Nat×SV:=(f.1,bif f.2.1 then .oldref f.2.2 else oldV f.2.2)
def toS (f:Fact):Nat×SV:=(f.1,bif f.2.1 then .oldref f.2.2.shape else .old f.2.2.shape)
def frV (f:Fact):SV:=bif f.2.1 then .box f.1 0 0 else .data f.2.2
def frS (l:List Fact):List (Nat×SV):=l.map fun f=>(f.1,frV f)
def frM:List Fact→List (Nat×List SV)
 | []=>[]
 | (i,true,x)::r=>(i,x.cells.map .data)::frM r
 | (_,false,_)::r=>frM r
theorem look_frS:∀{l:List Fact},(l.map (·.1)).Nodup→∀f∈l,look (frS l) f.1=some (frV f)
 | [],_,_,h=>by simp at h
 | g::l,hn,f,h=>by
  simp only [List.map_cons,List.nodup_cons,List.mem_map,not_exists,not_and] at hn
  simp only [frS,List.map_cons,look]
  rcases List.mem_cons.1 h with rfl | h
  ·simp
  ·rw [beq_ne (hn.1 f h)]
   exact look_frS hn.2 f h
theorem look_frM:∀{l:List Fact},(l.map (·.1)).Nodup→∀f∈l,f.2.1=true→look (frM l) f.1=some (f.2.2.cells.map .data)
 | [],_,_,h,_=>by simp at h
 | g::l,hn,f,h,hb=>by
  simp only [List.map_cons,List.nodup_cons,List.mem_map,not_exists,not_and] at hn
  obtain⟨i,bx,x⟩:=g
  rcases List.mem_cons.1 h with rfl | h'
  ·simp only at hb;subst hb
   simp [frM,look]
  ·cases bx with
   | true=>
    simp only [frM,look]
    rw [beq_ne (hn.1 f h')]
    exact look_frM hn.2 f h' hb
   | false=>simp only [frM];exact look_frM hn.2 f h' hb
theorem Fcts.mono {L:Nat} {I I':Nat→Prop} {w w':World} {a a':Act} {l:List Fact} {S:List Nat} (h:Fcts L I w a l) (hI:∀b,I b→I' b) (hw:∀b o,I b→w'.cell? ⟨b,o,none⟩=w.cell? ⟨b,o,none⟩) (hh:Held S a a') (hS:∀f∈l,f.1∈S):Fcts L I' w' a' l:=by
 intro f hf
 have h:=h f hf
 unfold Fct at h ⊢
 rw [hh _ (hS f hf)]
 cases hb:f.2.1 with
 | false=>simp only [hb] at h ⊢;exact h.mono hI hw
 | true=>
  simp only [hb] at h ⊢
  obtain⟨b,h1,h2,h3⟩:=h
  exact⟨b,h1,hI b h2,RepC.mono hI hw b (fun o=>hw b o h2) _ _ h3⟩
theorem Fcts.append {L:Nat} {I:Nat→Prop} {w:World} {a:Act} {l m:List Fact} (h:Fcts L I w a l) (k:Fcts L I w a m):Fcts L I w a (l++m):=fun f hf=>(List.mem_append.1 hf).elim (h f) (k f)
section
variable {T:Nat→Ty} {L:Nat} {I J O:Nat→Prop} {mt:Bool} {w:World} {a:Act}
theorem RepF.append:∀{l m:List (Nat×SV)},RepF T I J O mt w L a l→RepF T I J O mt w L a m→RepF T I J O mt w L a (l++m)
 | [],_,_,h=>h
 | _::_,_,h,k=>⟨h.1,RepF.append h.2 k⟩
theorem repF_D:∀{l:List Fact},Fcts L I w a l→RepF T I J O mt w L a (l.map toD)
 | [],_=>trivial
 | f::l,h=>by
  refine⟨?_,repF_D fun g hg=>h g (by simp [hg])⟩
  have h:=h f (by simp)
  unfold Fct at h
  cases hb:f.2.1 with
  | false=>simp only [hb] at h;simp only [toD,hb,cond_false,RepS,cx0];exact h
  | true=>
   simp only [hb] at h
   obtain⟨b,h1,h2,h3⟩:=h
   simp only [toD,hb,cond_true,RepS,cx0]
   exact⟨b,0,h1,.inl h2,h3⟩
theorem repF_O:∀{l:List Fact},Fcts L O w a l→(∀f∈l,f.2.2.md false=true)→RepF T I J O false w L a (l.map toO)
 | [],_,_=>trivial
 | f::l,h,hm=>by
  refine⟨?_,repF_O (fun g hg=>h g (by simp [hg])) (fun g hg=>hm g (by simp [hg]))⟩
  have h:=h f (by simp)
  have hm:=hm f (by simp)
  obtain⟨i,bx,x⟩:=f
  unfold Fct at h
  cases bx with
  | false=>
   simp only at h hm
   cases x with
   | sl m=>simp only [toO,cond_false,oldV,RepS,cx0];exact⟨mdv_of hm,h⟩
   | agg m=>simp only [toO,cond_false,oldV,RepS,cx0];exact⟨mdv_of hm,h⟩
   | bool b=>simpa [toO,oldV,RepS,RepV] using h
   | int k n=>simpa [toO,oldV,RepS,RepV] using h
   | str s=>simpa [toO,oldV,RepS,RepV] using h
   | any=>simpa [toO,oldV,RepS,RepV] using h
  | true=>
   simp only at h hm
   obtain⟨b,h1,h2,h3⟩:=h
   simp only [toO,cond_true,RepS,cx0]
   exact⟨hm,b,0,h1,h2,h3⟩
theorem shape_cells (x:AV):x.shape.cells=AV.shapes x.cells:=by cases x <;> simp [AV.shape,AV.cells,AV.shapes]
theorem repF_S:∀{l:List Fact},Fcts L O w a l→RepF T I J O true w L a (l.map toS)
 | [],_=>trivial
 | f::l,h=>by
  refine⟨?_,repF_S fun g hg=>h g (by simp [hg])⟩
  have h:=h f (by simp)
  obtain⟨i,bx,x⟩:=f
  unfold Fct at h
  cases bx with
  | false=>
   simp only at h
   simp only [toS,cond_false,RepS,cx0]
   exact⟨mdv_of (shape_md x),h.shape⟩
  | true=>
   simp only at h
   obtain⟨b,h1,h2,h3⟩:=h
   simp only [toS,cond_true,RepS,cx0]
   exact⟨shape_md x,b,0,h1,h2,by rw [shape_cells];exact RepC.shape _ _ _ h3⟩
end
section
variable {P:Program} {T:Nat→Ty} {L:Nat} {w0:World} {I0:Bs}
theorem Gam.facts {pre:List (Nat×SV)} {tk:List (Nat×Nat×List AV×Nat)} {l:List Fact} {n:Nat} {a:Act} {w:World} {c:Cx} (h:Gam T L w0 I0 ((Fr.mk (pre++frS l) (frM l) tk).st n) a w c) (hn:(l.map (·.1)).Nodup) (hp:∀f∈l,∀p∈pre,p.1≠f.1):
  Fcts L (fun b=>(I0 b∨(w0.heap.size≤b∧Thaw w b))∧b < w.heap.size) w a l:=by
 have hI:∀b,c.I b→(I0 b∨(w0.heap.size≤b∧Thaw w b))∧b < w.heap.size:=fun b hb=>⟨h.inew b hb,h.ilt b hb⟩
 have lookpre:∀(pre:List (Nat×SV)) (f:Fact),(∀p∈pre,p.1≠f.1)→look (pre++frS l) f.1=look (frS l) f.1:=by
  intro pre f hp
  induction pre with
  | nil=>rfl
  | cons p pre ih=>
   simp only [List.cons_append,look]
   rw [beq_ne (hp p (by simp)).symm]
   exact ih fun q hq=>hp q (by simp [hq])
 intro f hf
 have h1:=(lookpre pre f (hp f hf)).trans (look_frS hn f hf)
 unfold Fct
 cases hb:f.2.1 with
 | false=>
  have hs:=h.slots f.1
  have e:((Fr.mk (pre++frS l) (frM l) tk).st n).get f.1= .data f.2.2:=by
   simp only [Fr.st,h1,frV,hb,cond_false]
  rw [e] at hs
  simp only [RepS] at hs
  exact hs.mono hI (fun _ _ _=>rfl)
 | true=>
  have e:((Fr.mk (pre++frS l) (frM l) tk).st n).get f.1= .box f.1 0 0:=by
   simp only [Fr.st,h1,frV,hb,cond_true]
  have m:((Fr.mk (pre++frS l) (frM l) tk).st n).mem f.1=some (0,f.2.2.cells.map SV.data):=by
   simp only [Fr.st,look_frM hn f hf hb]
  obtain⟨b,k1,k2,k3,k4,k5⟩:=h.box_of e m
  exact⟨b,k1,⟨.inr ⟨k2,k4⟩,k3⟩,RepC.mono hI (fun _ _ _=>rfl) b (fun _=>rfl) _ _ k5⟩
theorem flats_map {α:Type} {f:α→AV} (h:∀x,(f x).flat=true):∀l:List α,AV.flats (l.map f)=true
 | []=>rfl
 | x::l=>by simp only [List.map_cons,AV.flats,Bool.and_eq_true];exact⟨h x,flats_map h l⟩
section
variable {I I':Nat→Prop} {w:World}
theorem rep1_flat:∀{x:AV} {v:Value},x.flat=true→Rep1 I w L x v→Rep1 I' w L x v
 | .sl _,_,h,_=>by simp [AV.flat] at h
 | .agg _,_,_,h=>by simp [Rep1] at h
 | .bool _,_,_,h=>by simpa [Rep1] using h
 | .int _ _,_,_,h=>by simpa [Rep1] using h
 | .str _,_,_,h=>by simpa [Rep1] using h
 | .any,_,_,h=>by simpa [Rep1] using h
theorem repC_flat {b:Nat}:∀{l:List AV} {o:Nat},AV.flats l=true→RepC I w L b l o→RepC I' w L b l o
 | [],_,_,_=>by simp [RepC]
 | x::l,o,h,k=>by
  simp only [AV.flats,Bool.and_eq_true] at h
  simp only [RepC] at k ⊢
  obtain⟨⟨v,h1,h2⟩,h3⟩:=k
  exact⟨⟨v,h1,rep1_flat h.1 h2⟩,repC_flat h.2 h3⟩
theorem flats_cells {x:AV} (h:x.flat=true):AV.flats x.cells=true:=by cases x <;> simp_all [AV.flat,AV.cells,AV.flats]
theorem repE_flat {b sz:Nat}:∀{l:List AV} {o:Nat},AV.flats l=true→RepE I w L b sz l o→RepE I' w L b sz l o
 | [],_,_,_=>by simp [RepE]
 | x::l,o,h,k=>by
  simp only [AV.flats,Bool.and_eq_true] at h
  simp only [RepE] at k ⊢
  obtain⟨h1,h2⟩:=k
  obtain⟨h3,h4⟩:=repX_iff.1 h1
  exact⟨repX_iff.2 ⟨h3,repC_flat (flats_cells h.1) h4⟩,repE_flat h.2 h2⟩
theorem repV_flat {l:List AV} {v:Value} (hf:AV.flats l=true) (h:RepV I w L (.sl l) v) (hb:∀b,v.ownBlock=some b→I b→I' b):RepV I' w L (.sl l) v:=by
 simp only [RepV,Rep1] at h ⊢
 obtain⟨a,cap,rfl,h1,h2,h3⟩:=h
 refine⟨a,cap,rfl,h1,h2,h3.imp id ?_⟩
 rintro⟨b,o,sz,rfl,hI,he⟩
 exact⟨b,o,sz,rfl,hb b rfl hI,repE_flat hf he⟩
end
def MarksTo (P:Program) (L f:Nat) (l l':List AV) (M:Int):Prop:=
 (∀(vs:Array Value) (w:World),(callFunc f vs).run P w= .ok (.enter f vs) w)∧
 ∀(G:Nat→Prop) (w:World) (v:Value),(∀b,G b→b < w.heap.size∧Thaw w b)→RepV G w L (.sl l) v→Calls P f #[v,.int .i64 1] w fun e w'=>e= .returned (.int .i64 M)∧
  w'.os=w.os∧w'.tape=w.tape∧w'.output=w.output∧w'.heap.size=w.heap.size∧(∀k,(l≠[]→v.ownBlock≠some k)→w'.heap[k]? =w.heap[k]?)∧RepV G w' L (.sl l') v
theorem put_size {a:Act} {d:Option Nat} {v:Value}:(a.put d v).tmps.size=a.tmps.size:=by cases d <;> simp [Act.put]
theorem put_defers {a:Act} {d:Option Nat} {v:Value}:(a.put d v).defers=a.defers:=by cases d <;> rfl
theorem put_get {a:Act} {d i:Nat} {v:Value}:(a.put (some d) v).tmps.getD i undef=if i=d∧d < a.tmps.size then v else a.tmps.getD i undef:=getD_put _ _ _ _
structure MarkOps (ops1 ops2:Array Oper) (f ig im t2 t3 t4:Nat):Prop where
 l1:∃o1,ops1.toList= [o1]∧o1.guard=none∧o1.op= .assign (.const (.int .i64 1))∧o1.dst=some im
 l2:∃o2 o3 o4 o5 c,ops2.toList= [o2,o3,o4,o5]∧o2.guard=none∧o3.guard=none∧o4.guard=none∧o5.guard=none∧
  o2.op= .move (.tmp ig)∧o2.dst=some t2∧o3.op= .move (.tmp im)∧o3.dst=some t3∧o4.op= .call c∧c.callee= .value (.func f)∧c.args= #[.tmp t2,.tmp t3]∧o4.dst=some t4∧o5.op= .assign (.tmp t4)∧o5.dst=some im
theorem mark_step {ops1 ops2:Array Oper} {f ig im t2 t3 t4 id1 id2:Nat} (h:MarkOps ops1 ops2 f ig im t2 t3 t4) (hd:im≠ig∧t2≠t3∧t2≠im∧t3≠im∧t4≠im) {S:List Nat} (hS:∀i∈S,i≠im∧i≠t2∧i≠t3∧i≠t4)
  {a:Act} {w:World} (hlt:im < a.tmps.size∧t2 < a.tmps.size∧t3 < a.tmps.size∧t4 < a.tmps.size) {code:Code} {Q:Exit→Act→World→Prop} {R:Int→World→Prop} (hcf:∀(vs:Array Value) (w:World),(callFunc f vs).run P w= .ok (.enter f vs) w)
  (hcall:Calls P f #[a.tmps.getD ig undef,.int .i64 1] w fun e w'=>∃M,e= .returned (.int .i64 M)∧R M w')
  (hN:∀a' w' M,R M w'→a'.tmps.getD im undef= .int .i64 M→Held S a a'→a'.defers=a.defers→a'.tmps.size=a.tmps.size→code.wp P Q a' w'):
  (Code.seq (.region id1 ops1 false) (.seq (.region id2 ops2 false) code)).wp P Q a w:=by
 obtain⟨⟨o1,e1,g1,p1,d1⟩,o2,o3,o4,o5,c,e2,g2,g3,g4,g5,p2,d2,p3,d3,p4,pc,pa,d4,p5,d5⟩:=h
 refine wp_seq (wp_region_list ?_)
 rw [e1]
 simp only [wpList]
 rw [if_pos (by simp [Region.wanted,g1])]
 refine .inl (wp_val (v:=.int .i64 1) (w':=w) (by simp [execOp,p1,Act.eval]) ?_)
 simp only [Exit.then]
 rw [d1]
 generalize ha1:a.put (some im) (.int .i64 1)=a1
 have s1:a1.tmps.size=a.tmps.size:=by rw [← ha1,put_size]
 have f1:a1.defers=a.defers:=by rw [← ha1,put_defers]
 have v1:a1.tmps.getD im undef= .int .i64 1:=by rw [← ha1,put_get,if_pos ⟨rfl,hlt.1⟩]
 have vg:a1.tmps.getD ig undef=a.tmps.getD ig undef:=by rw [← ha1,put_get,if_neg (fun e=>hd.1 e.1.symm)]
 have k1:Held S a a1:=fun i hi=>by rw [← ha1,put_get,if_neg (fun e=>(hS i hi).1 e.1)]
 refine wp_seq (wp_region_list ?_)
 rw [e2]
 simp only [wpList]
 rw [if_pos (by simp [Region.wanted,g2])]
 refine .inl (wp_val (v:=a1.tmps.getD ig undef) (w':=w) (by simp [execOp,p2,Act.eval]) ?_)
 rw [d2]
 generalize ha2:a1.put (some t2) (a1.tmps.getD ig undef)=a2
 have s2:a2.tmps.size=a.tmps.size:=by rw [← ha2,put_size,s1]
 have f2:a2.defers=a.defers:=by rw [← ha2,put_defers,f1]
 have v2:a2.tmps.getD t2 undef=a.tmps.getD ig undef:=by rw [← ha2,put_get,if_pos ⟨rfl,by rw [s1];exact hlt.2.1⟩,vg]
 have v2m:a2.tmps.getD im undef= .int .i64 1:=by rw [← ha2,put_get,if_neg (fun e=>hd.2.2.1 e.1.symm),v1]
 have k2:Held S a a2:=fun i hi=>by rw [← ha2,put_get,if_neg (fun e=>(hS i hi).2.1 e.1)];exact k1 i hi
 rw [if_pos (by simp [Region.wanted,g3])]
 refine .inl (wp_val (v:=a2.tmps.getD im undef) (w':=w) (by simp [execOp,p3,Act.eval]) ?_)
 rw [d3,v2m]
 generalize ha3:a2.put (some t3) (.int .i64 1)=a3
 have s3:a3.tmps.size=a.tmps.size:=by rw [← ha3,put_size,s2]
 have f3:a3.defers=a.defers:=by rw [← ha3,put_defers,f2]
 have v3:a3.tmps.getD t3 undef= .int .i64 1:=by rw [← ha3,put_get,if_pos ⟨rfl,by rw [s2];exact hlt.2.2.1⟩]
 have v32:a3.tmps.getD t2 undef=a.tmps.getD ig undef:=by rw [← ha3,put_get,if_neg (fun e=>hd.2.1 e.1),v2]
 have k3:Held S a a3:=fun i hi=>by rw [← ha3,put_get,if_neg (fun e=>(hS i hi).2.2.1 e.1)];exact k2 i hi
 rw [if_pos (by simp [Region.wanted,g4])]
 refine .inl ?_
 unfold Oper.wp
 have hrun:(execOp a3.eval o4).run P w= .ok (.enter f #[a.tmps.getD ig undef,.int .i64 1]) w:=by
  have:(execOp a3.eval o4).run P w=(callFunc f #[a.tmps.getD ig undef,.int .i64 1]).run P w:=by
   have hm:c.args.map a3.eval= #[a.tmps.getD ig undef,.int .i64 1]:=by
    rw [pa,show (#[Operand.tmp t2,.tmp t3]).map a3.eval= #[a3.tmps.getD t2 undef,a3.tmps.getD t3 undef] from by simp [Act.eval],v3,v32]
   rw [← hm]
   simp only [execOp,p4]
   simp [resolve,pc,Deferred.ofValue,Act.eval,invoke]
  rw [this,hcf]
 rw [hrun]
 simp only [Oper.upon]
 refine hcall.mono ?_
 rintro e w' ⟨M,rfl,hR⟩
 simp only
 rw [d4]
 generalize ha4:a3.put (some t4) (.int .i64 M)=a4
 have s4:a4.tmps.size=a.tmps.size:=by rw [← ha4,put_size,s3]
 have f4:a4.defers=a.defers:=by rw [← ha4,put_defers,f3]
 have v4:a4.tmps.getD t4 undef= .int .i64 M:=by rw [← ha4,put_get,if_pos ⟨rfl,by rw [s3];exact hlt.2.2.2⟩]
 have k4:Held S a a4:=fun i hi=>by rw [← ha4,put_get,if_neg (fun e=>(hS i hi).2.2.2 e.1)];exact k3 i hi
 rw [if_pos (by simp [Region.wanted,g5])]
 refine .inl (wp_val (v:=a4.tmps.getD t4 undef) (w':=w') (by simp [execOp,p5,Act.eval]) ?_)
 simp only [Exit.then]
 rw [d5,v4]
 refine hN _ w' M hR ?_ ?_ ?_ ?_
 ·rw [put_get,if_pos ⟨rfl,by rw [s4];exact hlt.1⟩]
 ·intro i hi;rw [put_get,if_neg (fun e=>(hS i hi).1 e.1)];exact k4 i hi
 ·rw [put_defers,f4]
 ·rw [put_size,s4]
structure LawFlat (P:Program) (T:Nat→Ty) (L:Nat) (fn:Func) (code:Code) (nA nB nC nD:Nat) (args:List AV) (lP lW lX lG:List Fact) (ig im:Nat) (lg lg':List AV) (M:Int) (f:Nat):Prop where
 nod:((lP++lW++lX++lG).map (·.1)).Nodup∧ig∉(lP++lW++lX++lG).map (·.1)
 flat:AV.flats lg=true
 known:∀x∈lP++lW,x.2.2.md false=true
 sc:∀x∈lG,x.2.1=false∧x.2.2.scalar=true
 kB:keepsC ((lP++lW).map (·.1)) (headC nB (tailC nA code))=true
 kA:keepsC [] (headC nA code)=true
 kC:keepsC ((lP++lW++lX).map (·.1)) (headC nC (tailC nB (tailC nA code)))=true
 kD:keepsC (ig::(lP++lW++lG).map (·.1)) (headC nD (tailC nC (tailC nB (tailC nA code))))=true
 pA:awpR T (CallK P T L) L (headC nA code) (PhQ T fn.ntmps ⟨frS (lP++lW),frM (lP++lW),[]⟩ fn.results.toList) ((Fr.mk (entrySlots 0 (args.map AR.d)) [] []).st fn.ntmps)
 pB:awpR T (CallK P T L) L (headC nB (tailC nA code)) (PhQ T fn.ntmps ⟨frS lX,frM lX,[]⟩ fn.results.toList) ((Fr.mk (lP.map toO) [] []).st fn.ntmps)
 pC:awpR T (CallK P T L) L (headC nC (tailC nB (tailC nA code))) (PhQ T fn.ntmps ⟨(ig,.fr lg)::frS lG,frM lG,[]⟩ fn.results.toList) ((Fr.mk ((lP++lW++lX).map toD) [] []).st fn.ntmps)
 pD:awpR T (CallK P T L) L (headC nD (tailC nC (tailC nB (tailC nA code)))) (PhQ T fn.ntmps ⟨[],[],[]⟩ fn.results.toList) ((Fr.mk (((ig,false,.sl lg)::(lW++lG)).map toD++lX.map toS) [] []).st fn.ntmps)
 marks:MarksTo P L f lg lg' M
 pE:∃ops1 ops2 id1 id2 t2 t3 t4 rest,tailC nD (tailC nC (tailC nB (tailC nA code)))= .seq (.region id1 ops1 false) (.seq (.region id2 ops2 false) rest)∧MarkOps ops1 ops2 f ig im t2 t3 t4∧
  (im≠ig∧t2≠t3∧t2≠im∧t3≠im∧t4≠im)∧(∀i∈ig::(lP++lW++lG).map (·.1),i≠im∧i≠t2∧i≠t3∧i≠t4)∧(im < fn.ntmps∧t2 < fn.ntmps∧t3 < fn.ntmps∧t4 < fn.ntmps)∧plainCode rest=true∧
  awpR T (CallK P T L) L rest (RetOk T fn.results.toList (.d (.bool true))) ((Fr.mk ((im,.data (.int .i64 M))::((ig,false,.sl lg')::(lP++lW++lG)).map toD) [] []).st fn.ntmps)
theorem Below.wide {N M:Nat} {a b:World} (h:Below N a b) (hM:M≤N):Below M a b:=h.mono hM
theorem Fcts.sub {L:Nat} {I:Nat→Prop} {w:World} {a:Act} {l m:List Fact} (h:Fcts L I w a l) (hs:∀f∈m,f∈l):Fcts L I w a m:=fun f hf=>h f (hs f hf)
theorem scal_any {I I':Nat→Prop} {w w':World} {x:AV} {v:Value} (hs:x.scalar=true) (h:RepV I w L x v):RepV I' w' L x v:=by
 cases x <;> simp_all [AV.scalar,RepV]
theorem nodup_app {α:Type} [DecidableEq α] {l m:List α} (h:(l++m).Nodup):l.Nodup∧m.Nodup∧∀x∈l,x∉m:=by
 rw [List.nodup_append] at h
 exact⟨h.1,h.2.1,fun x hx hm=>h.2.2 x hx x hm rfl⟩
theorem law_flat (hT:TabOk P T) (hL1:1000≤L) (hL2:L≤2 ^ 38) (hm:P.follows .mixedOrders=true) {fid:Nat} {fn:Func} {code:Code} (hf:P.funcs[fid]? =some fn) (hb:fn.body=some code)
  {nA nB nC nD:Nat} {args:List AV} {lP lW lX lG:List Fact} {ig im:Nat} {lg lg':List AV} {M:Int} {f:Nat} (h:LawFlat P T L fn code nA nB nC nD args lP lW lX lG ig im lg lg' M f) (hlen:args.length≤fn.ntmps)
  {w:World} {vs:List Value} (hargs:All2 (RepV (fun b=>b < w.heap.size) w L) args vs):Calls P fid vs.toArray w fun e w'=>e= .returned (.bool true)∧Below w.heap.size w w':=by
 refine calls_of_wp hf hb ?_
 have hvl:=hargs.length
 generalize ha0:({ tmps:=vs.toArray++Array.replicate (fn.ntmps - vs.toArray.size) undef,defers:=[] }:Act)=a0
 have ha0s:a0.tmps.size=fn.ntmps:=by rw [← ha0];simp;omega
 have ha0d:a0.defers= []:=by rw [← ha0]
 have start:∀(args:List AV) (vs:List Value) (i:Nat),All2 (RepV (fun b=>b < w.heap.size) w L) args vs→(∀k v,vs[k]? =some v→a0.tmps.getD (i+k) undef=v)→RepF T (fun b=>b < w.heap.size) (fun _=>False) (fun _=>False) false w L a0 (entrySlots i (args.map AR.d)):=by
  intro args
  induction args with
  | nil=>intro vs i _ _;trivial
  | cons x args ih=>
   intro vs i hr hg
   cases vs with
   | nil=>exact hr.elim
   | cons v vs=>
    refine⟨?_,ih vs (i+1) hr.2 fun k u hu=>?_⟩
    ·simp only [RepS,cx0]
     have:=hg 0 v rfl
     rw [Nat.add_zero] at this
     rw [this];exact hr.1
    ·have:=hg (k+1) u (by simpa using hu)
     rwa [show i+(k+1)=i+1+k by omega] at this
 have hs0:=start args vs 0 hargs fun k v hv=>by
  rw [← ha0,Nat.zero_add]
  have hlt:=(List.getElem?_eq_some_iff.1 hv).1
  rw [Array.getD_eq_getD_getElem?,Array.getElem?_append_left (by simpa using hlt)]
  simp at hv ⊢
  simp [hv]
 obtain⟨hnod,hig⟩:=h.nod
 have nPWX:=(nodup_app (by simpa using hnod:((lP++lW++lX).map (·.1)++lG.map (·.1)).Nodup))
 have nPW:=(nodup_app (by simpa using nPWX.1:((lP++lW).map (·.1)++lX.map (·.1)).Nodup))
 have memS:∀{l:List Fact} {x:Fact},x∈l→x.1∈l.map (·.1):=fun hx=>List.mem_map.2 ⟨_,hx,rfl⟩
 refine phase hT hL1 hL2 hm nA [] _ ⟨frS (lP++lW),frM (lP++lW),[]⟩ (Gam.begin ha0s ha0d (fun b h=>h) (fun b h=>h.elim) (fun b h=>h.elim) nofun nofun hs0) h.kA h.pA ?_ (fun w' hb=>⟨rfl,hb.below0⟩)
 intro a1 w1 c1 g1 _
 have b1:Below w.heap.size w w1:=((show c1.M=_ from g1.om) ▸ g1.below:Turn _ w w1).below0
 have F1:=Gam.facts (pre:=[]) g1 nPW.1 (fun _ _ p hp=>by simp at hp)
 have F1':Fcts L (fun b=>b < w1.heap.size) w1 a1 (lP++lW):=F1.mono (S:=(lP++lW).map (·.1)) (fun b h=>h.2) (fun _ _ _=>rfl) .refl fun _=>memS
 have s1:a1.tmps.size=fn.ntmps:=by have:=g1.size;simpa [Fr.st] using this
 refine phase hT hL1 hL2 hm nB ((lP++lW).map (·.1)) _ ⟨frS lX,frM lX,[]⟩ (Gam.begin (I:=fun _=>False) (J:=fun _=>False) (O:=fun b=>b < w1.heap.size) (mt:=false) s1 g1.defers (fun b h=>h.elim) (fun b h=>h.elim) (fun b h=>h) nofun nofun (repF_O (F1'.sub fun x hx=>List.mem_append_left _ hx) fun x hx=>h.known x (List.mem_append_left _ hx))) h.kB h.pB ?_ (fun w' hb=>⟨rfl,b1.trans (hb.below0.mono b1.size)⟩)
 intro a2 w2 c2 g2 hh2
 have b2:Below w1.heap.size w1 w2:=((show c2.M=_ from g2.om) ▸ g2.below:Turn _ w1 w2).below0
 have F2:=Gam.facts (pre:=[]) g2 nPW.2.1 (fun _ _ p hp=>by simp at hp)
 generalize hXdef:(fun b=>(w1.heap.size≤b∧Thaw w2 b)∧b < w2.heap.size)=X
 have hX:∀b,X b↔(w1.heap.size≤b∧Thaw w2 b)∧b < w2.heap.size:=fun b=>by rw [← hXdef]
 have F2X:Fcts L X w2 a2 lX:=F2.mono (S:=lX.map (·.1)) (fun b h=>(hX b).2 ⟨h.1.resolve_left id,h.2⟩) (fun _ _ _=>rfl) .refl fun _=>memS
 have F2P:Fcts L (fun b=>b < w1.heap.size) w2 a2 (lP++lW):=F1'.mono (fun b h=>h) (fun b o hb=>b2.cell (p:=⟨b,o,none⟩) hb) hh2 fun _=>memS
 have s2:a2.tmps.size=fn.ntmps:=by have:=g2.size;simpa [Fr.st] using this
 have F2all:Fcts L (fun b=>b < w2.heap.size) w2 a2 (lP++lW++lX):=
  (F2P.mono (S:=(lP++lW).map (·.1)) (fun b hb=>Nat.lt_of_lt_of_le hb b2.size) (fun _ _ _=>rfl) .refl fun _=>memS).append (F2X.mono (S:=lX.map (·.1)) (fun b hb=>((hX b).1 hb).2) (fun _ _ _=>rfl) .refl fun _=>memS)
 have B2:Below w.heap.size w w2:=b1.trans (b2.mono b1.size)
 refine phase hT hL1 hL2 hm nC ((lP++lW++lX).map (·.1)) _ ⟨(ig,.fr lg)::frS lG,frM lG,[]⟩ (Gam.begin (I:=fun b=>b < w2.heap.size) (J:=fun _=>False) (O:=fun _=>False) (mt:=false) s2 g2.defers (fun b h=>h) (fun b h=>h.elim) (fun b h=>h.elim) nofun nofun (repF_D F2all)) h.kC h.pC ?_ (fun w' hb=>⟨rfl,B2.trans (hb.below0.mono B2.size)⟩)
 intro a3 w3 c3 g3 hh3
 have b3:Below w2.heap.size w2 w3:=((show c3.M=_ from g3.om) ▸ g3.below:Turn _ w2 w3).below0
 have B3:Below w.heap.size w w3:=B2.trans (b3.mono B2.size)
 have s3:a3.tmps.size=fn.ntmps:=by have:=g3.size;simpa [Fr.st] using this
 have F3G:Fcts L _ w3 a3 lG:=Gam.facts (pre:=[(ig,.fr lg)]) g3 nPWX.2.1 (fun x hx p hp=>by
  simp at hp;subst hp
  rintro rfl
  exact hig (memS (List.mem_append_right _ hx)))
 have hgv:RepV (fun b=>w2.heap.size≤b∧Thaw w3 b∧b < w3.heap.size) w3 L (.sl lg) (a3.tmps.getD ig undef):=by
  have hs:=g3.slots ig
  have e:((Fr.mk ((ig,.fr lg)::frS lG) (frM lG) []).st fn.ntmps).get ig= .fr lg:=by simp [Fr.st,look]
  rw [e] at hs
  simp only [RepS] at hs
  refine repV_flat h.flat hs.1 fun b hb hi=>?_
  have hge:=hs.2 b hb
  rw [g3.ob] at hge
  have:=g3.ilt b hi
  rcases g3.inew b hi with hi' | hi'
  ·simp only at hi';omega
  ·exact⟨hge,hi'.2,this⟩
 have F3P:Fcts L (fun b=>b < w1.heap.size) w3 a3 (lP++lW):=F2P.mono (fun b h=>h) (fun b o hb=>b3.cell (p:=⟨b,o,none⟩) (Nat.lt_of_lt_of_le hb b2.size)) hh3 fun x hx=>memS (List.mem_append_left _ hx)
 have F3X:Fcts L X w3 a3 lX:=F2X.mono (fun b h=>h) (fun b o hb=>b3.cell (p:=⟨b,o,none⟩) ((hX b).1 hb).2) hh3 fun x hx=>memS (List.mem_append_right _ hx)
 have Xlt:∀b,X b→b < w2.heap.size∧w1.heap.size≤b:=fun b hb=>⟨((hX b).1 hb).2,((hX b).1 hb).1.1⟩
 have hF4:Fcts L (fun b=>b < w3.heap.size∧¬ X b) w3 a3 ((ig,false,.sl lg)::(lW++lG)):=by
  intro x hx
  rcases List.mem_cons.1 hx with rfl | hx
  ·exact hgv.mono (fun b hb=>⟨hb.2.2,fun hx=>by have:=Xlt b hx;omega⟩) (fun _ _ _=>rfl)
  ·rcases List.mem_append.1 hx with hx | hx
   ·exact (F3P.mono (S:=(lP++lW).map (·.1)) (I':=fun b=>b < w3.heap.size∧¬ X b) (fun b hb=>⟨by have:=b2.size;have:=b3.size;omega,fun hx=>by have:=Xlt b hx;omega⟩) (fun _ _ _=>rfl) .refl fun _=>memS) x (List.mem_append_right _ hx)
   ·obtain⟨k1,k2⟩:=h.sc x hx
    have:=F3G x hx
    unfold Fct at this ⊢
    simp only [k1] at this ⊢
    exact scal_any k2 this
 refine phase hT hL1 hL2 hm nD (ig::(lP++lW++lG).map (·.1)) _ ⟨[],[],[]⟩ (Gam.begin (I:=fun b=>b < w3.heap.size∧¬ X b) (J:=fun _=>False) (O:=X) (mt:=true) s3 g3.defers (fun b h=>h.1) (fun b h=>h.elim) (fun b hb=>Nat.lt_of_lt_of_le (Xlt b hb).1 b3.size)
  (fun _ b hb=>((hX b).1 hb).1.2.same (b3.block b (Xlt b hb).1)) (fun _ b hb=>hb.elim (fun hi=>hi.2) (fun hj=>hj.elim)) ((repF_D hF4:RepF T _ (fun _=>False) X true w3 L a3 _).append (repF_S F3X))) h.kD h.pD ?_ ?_
 rotate_left
 ·intro w' ht
  refine⟨rfl,B3.trans ⟨ht.os,ht.tape,ht.output,ht.size,fun k hk=>ht.block k (Nat.lt_of_lt_of_le hk B3.size) fun hx=>?_⟩⟩
  have:=(Xlt k hx.1).2;have:=b1.size;omega
 intro a4 w4 c4 g4 hh4
 have t4:Turn (fun b=>X b∧true=true) w3 w4:=by have:=g4.below;rw [g4.om] at this;exact this
 have B4:Below w.heap.size w w4:=B3.trans ⟨t4.os,t4.tape,t4.output,t4.size,fun k hk=>t4.block k (Nat.lt_of_lt_of_le hk B3.size) fun hx=>by have:=(Xlt k hx.1).2;have:=b1.size;omega⟩
 have s4:a4.tmps.size=fn.ntmps:=by have:=g4.size;simpa [Fr.st] using this
 have cell4:∀b o,b < w3.heap.size→¬ X b→w4.cell? ⟨b,o,none⟩=w3.cell? ⟨b,o,none⟩:=fun b o hb hx=>t4.cell? hb fun h=>hx h.1
 have hgv4:RepV (fun b=>w2.heap.size≤b∧Thaw w4 b∧b < w4.heap.size) w4 L (.sl lg) (a4.tmps.getD ig undef):=by
  rw [hh4 ig (by simp)]
  refine hgv.mono (fun b hb=>⟨hb.1,?_,Nat.lt_of_lt_of_le hb.2.2 t4.size⟩) (fun b o hb=>cell4 b o hb.2.2 fun hx=>by have:=Xlt b hx;omega)
  exact hb.2.1.same (t4.block b hb.2.2 fun hx=>by have:=Xlt b hx.1;omega)
 have F4P:Fcts L (fun b=>b < w1.heap.size) w4 a4 (lP++lW):=F3P.mono (fun b h=>h) (fun b o hb=>cell4 b o (by have:=b2.size;have:=b3.size;omega) fun hx=>by have:=Xlt b hx;omega) hh4 fun x hx=>List.mem_cons_of_mem _ (memS (List.mem_append_left _ hx))
 obtain⟨ops1,ops2,id1,id2,t2,t3,t4',rest,hcode,hops,hd,hS,hlt,hpl,hF⟩:=h.pE
 rw [hcode]
 refine mark_step hops hd hS (by rw [s4];exact hlt) h.marks.1 (R:=fun M' w'=>M'=M∧w'.os=w4.os∧w'.tape=w4.tape∧w'.output=w4.output∧w'.heap.size=w4.heap.size∧(∀k,(lg≠[]→(a4.tmps.getD ig undef).ownBlock≠some k)→w'.heap[k]? =w4.heap[k]?)∧
  RepV (fun b=>w2.heap.size≤b∧Thaw w4 b∧b < w4.heap.size) w' L (.sl lg') (a4.tmps.getD ig undef)) ((h.marks.2 _ w4 _ (fun b hb=>⟨hb.2.2,hb.2.1⟩) hgv4).mono ?_) ?_
 ·rintro e w' ⟨rfl,k1,k2,k3,k4,k5,k6⟩
  exact⟨M,rfl,rfl,k1,k2,k3,k4,k5,k6⟩
 rintro a5 w5 M' ⟨rfl,k1,k2,k3,k4,k5,k6⟩ him hh5 hdf5 hsz5
 have own:∀b,(a4.tmps.getD ig undef).ownBlock=some b→lg≠[]→w2.heap.size≤b:=by
  intro b hb hne
  simp only [RepV,Rep1] at hgv4
  obtain⟨ad,cap,hv,_,_,h3⟩:=hgv4
  rcases h3 with h3 | ⟨b',o,sz,ha,hI,_⟩
  ·exact absurd (List.eq_nil_of_length_eq_zero h3) hne
  ·rw [hv,ha] at hb;cases hb;exact hI.1
 have same5:∀k,k < w2.heap.size→w5.heap[k]? =w4.heap[k]? :=fun k hk=>k5 k fun hne e=>by have:=own k e hne;omega
 have B5:Below w.heap.size w w5:=B4.trans ⟨k1,k2,k3,by omega,fun k hk=>same5 k (by have:=B2.size;omega)⟩
 have F5P:Fcts L (fun b=>b < w5.heap.size) w5 a5 (lP++lW):=F4P.mono (S:=ig::(lP++lW++lG).map (·.1)) (fun b hb=>by have:=b2.size;have:=b3.size;have:=t4.size;omega) (fun b o hb=>World.cell?_of_block (same5 b (by have:=b2.size;omega))) hh5 fun x hx=>List.mem_cons_of_mem _ (memS (List.mem_append_left _ hx))
 have hF5:Fcts L (fun b=>b < w5.heap.size) w5 a5 ((ig,false,.sl lg')::(lP++lW++lG)):=by
  intro x hx
  rcases List.mem_cons.1 hx with rfl | hx
  ·unfold Fct
   simp only
   rw [hh5 ig (by simp)]
   exact k6.mono (fun b hb=>by rw [k4];exact hb.2.2) (fun _ _ _=>rfl)
  ·rcases List.mem_append.1 hx with hx | hx
   ·exact F5P x hx
   ·obtain⟨j1,j2⟩:=h.sc x hx
    have:=F3G x hx
    unfold Fct at this ⊢
    simp only [j1] at this ⊢
    have hin:x.1∈ig::(lP++lW++lG).map (·.1):=List.mem_cons_of_mem _ (memS (List.mem_append_right _ hx))
    rw [hh5 _ hin,hh4 _ hin]
    exact scal_any j2 this
 have g4s:=g4.defers
 refine phase_last hT hL1 hL2 hm ((im,.data (.int .i64 M'))::((ig,false,.sl lg')::(lP++lW++lG)).map toD) (Gam.begin (I:=fun b=>b < w5.heap.size) (J:=fun _=>False) (O:=fun _=>False) (mt:=false) (by rw [hsz5,s4]) (by rw [hdf5,g4s]) (fun b h=>h) (fun b h=>h.elim) (fun b h=>h.elim) nofun nofun ⟨?_,repF_D hF5⟩) hpl hF (fun w' hb=>⟨rfl,B5.trans (hb.below0.mono B5.size)⟩)
 simp only [RepS,cx0,RepV]
 exact him
theorem calls_of_con {f:Nat} {args:List AV} (h:Contract P T L f (args.map AR.d) (.d (.bool true))) {w:World} {vs:List Value} (hargs:All2 (RepV (fun b=>b < w.heap.size) w L) args vs):
  Calls P f vs.toArray w fun e w'=>e= .returned (.bool true)∧Below w.heap.size w w':=by
 have ha:∀(args:List AV) (vs:List Value),All2 (RepV (fun b=>b < w.heap.size) w L) args vs→All2 (RepA (fun b=>b < w.heap.size) (fun _=>False) (fun _=>False) false w L) (args.map AR.d) vs:=by
  intro args
  induction args with
  | nil=>intro vs h;cases vs <;> exact h
  | cons x args ih=>
   intro vs h
   cases vs with
   | nil=>exact h
   | cons v vs=>exact⟨h.1,ih vs h.2⟩
 refine (h.2 (fun b=>b < w.heap.size) (fun _=>False) (fun _=>False) false w vs (fun b h=>h) (fun b h=>h.elim) (fun b h=>h.elim) nofun nofun (ha _ _ hargs)).mono ?_
 rintro e w' ⟨v,rfl,hb,_,_,_,_,_,_,hr⟩
 simp only [RepR,RepV] at hr
 exact⟨by rw [hr.2],hb.below0⟩
end
end Go.Proofs.YtepogmnolnlpmaaGreat.Abs
namespace Go.Proofs.YtepogmnolnlpmaaGreat.Abs
open Go.RowKit
section
variable {P:Program} {T:Nat→Ty} {L f E:Nat} {args:List AR} {l:List AV}
theorem Contract.own_lin (h:Contract P T L f args (.own E l)) (hz:flatZ (T E).zero=true):Contract P T L f args (.lin E l):=
 ⟨h.1,fun I J O mt w vs a b c d e g=>(h.2 I J O mt w vs a b c d e g).mono (by
  rintro en w' ⟨v,e1,t,I',bs,k1,k2,k3,k4,k5⟩
  refine⟨v,e1,t,I',bs,k1,k2,k3,k4,?_⟩
  simp only [RepR] at k5 ⊢
  obtain⟨rfl,hl,hg,hf,xs,m1,m2⟩:=k5
  have ho:=ownRow_flat hz hf m2
  exact⟨hl,hg,hf,xs,[],by simp,m1,RowIs.own (fun _ h=>by simp at h) m2 ho,ho,fun _ h=>by simp at h⟩)⟩
theorem Contract.lin_fr (h:Contract P T L f args (.lin E l)):Contract P T L f args (.fr l):=
 ⟨h.1,fun I J O mt w vs a b c d e g=>(h.2 I J O mt w vs a b c d e g).mono (by
  rintro en w' ⟨v,e1,t,I',bs,k1,k2,k3,k4,k5⟩
  simp only [RepR] at k5
  obtain⟨hl,hg,hf,xs,bs',rfl,m1,m2,m3,m4⟩:=k5
  refine⟨v,e1,t,fun b=>I' b∨b∈v.ownBlock.toList++bs',[],fun b hb=>.inl (k1 b hb),?_,List.nodup_nil,fun _ hb=>by simp at hb,?_⟩
  ·rintro k (hk | hk)
   ·exact k2 k hk
   ·have h4:=k4 k hk
    refine .inr ⟨h4.2.1,h4.2.2,?_⟩
    rcases List.mem_append.1 hk with hk | hk
    ·exact thaw_own m1 (by simpa using hk)
    ·exact m4 k hk
  ·simp only [RepR,true_and]
   refine⟨repV_own rfl hl m1 (RowIs.own (fun k hk=>.inr (List.mem_append_right _ hk)) m2 m3) (fun k hk=>.inr (List.mem_append_left _ (by simpa using hk))),fun k hk=>?_⟩
   exact (k4 k (List.mem_append_left _ (by simpa using hk))).2.1)⟩
end
end Go.Proofs.YtepogmnolnlpmaaGreat.Abs
