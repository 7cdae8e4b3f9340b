/- One contract from another: what a result is taken for. -/
import Derived.Test.YtpfgedlimdeffaaGreatLayB
import Derived.Test.YtpfgedlimdeffaaGreatPlain
import Derived.Sort.Row
import Derived.Laws.IdiomCopy
import Derived.Laws.Tables
import Derived.IntWalk
set_option linter.all false
namespace Go.Proofs.YtpfgedlimdeffaaGreat.Abs
open Go.RowKit
section
variable {P:Program} {T:Nat→Ty} {L f E:Nat} {args:List AR} {l:List AV}
theorem Contract.wL (h:Contract P T L f args (.own E l)) (hz:BU (T E).zero=true):Contract P T L f args (.lin E l):=
 ⟨h.1,fun I J O mt w vs a b c d e g=>(h.2 I J O mt w vs a b c d e g).mono (by
  rintro en w' ⟨v,e1,t,I',bs,k1,k2,k3,k4,k5⟩
  refine⟨v,e1,t,I',bs,k1,k2,k3,k4,?_⟩
  simp only [dD] at k5 ⊢
  obtain⟨rfl,hl,hg,hf,xs,m1,m2⟩:=k5
  have ho:=kX hz hf m2
  exact⟨hl,hg,hf,xs,[],by simp,m1,aZ.own (fun _ h=>by simp at h) m2 ho,ho,fun _ h=>by simp at h⟩)⟩
end
open Go.RowKit
def CB (S:List Nat):Option Nat→Bool
 |some d=> !S.contains d
 |none=>true
theorem Tz {S:List Nat} {d:Option Nat} (h:CB S d=true) {i:Nat} (hi:i∈S):d≠some i:=by
 rintro rfl
 simp only [CB,Bool.not_eq_true',List.contains_eq_mem,decide_eq_false_iff_not] at h
 exact h hi
def Held (S:List Nat) (a a':Act):Prop:=∀i∈S,a'.tmps.getD i undef=a.tmps.getD i undef
theorem Held.put {S:List Nat} {a a':Act} (h:Held S a a') {d:Option Nat} (hd:CB S d=true) (v:Value):Held S a (a'.put d v):=by
 intro i hi
 rw [← h i hi]
 cases d with
 |none=>rfl
 |some d=>
  simp only [Act.put,vw]
  rw [if_neg]
  rintro⟨rfl,_⟩
  exact Tz hd hi rfl
section
variable {P:Program} {S:List Nat} {a0:Act}
def HQ (S:List Nat) (a0:Act) (Q:Exit→Act→World→Prop):Exit→Act→World→Prop:=fun e a w=>Q e a w∧(e= .normal→Held S a0 a)
theorem Qv {o:Oper} {a:Act} {w:World} {K K':Act→World→Prop} {Q:Exit→Act→World→Prop} (hd:CB S o.dst=true) (ha:Held S a0 a)
  (h:∀a w,Held S a0 a→K a w→K' a w) (hh:o.wp P a w K Q):o.wp P a w K' (HQ S a0 Q):=by
 unfold Oper.wp at*
 generalize (execOp a.eval o).run P w=r at*
 have hput:∀v,Held S a0 (a.put o.dst v):=fun v=>ha.put hd v
 cases r with
 |ok n w'=>
  cases n with
  |value v=>exact h _ _ (hput v) hh
  |skip=>exact h _ _ (hput _) hh
  |defer d=>exact h _ _ ((show Held S a0 { a with defers:=d::a.defers } from ha).put hd _) hh
  |enter f args=>
   simp only [Oper.upon] at hh ⊢
   refine Calls.mono hh (fun e w'' he=>?_)
   cases e with
   |returned v=>exact h _ _ (hput v) he
   |panicked ch=>exact⟨he,nofun⟩
   |outgrown=>obtain⟨x,y,hxy⟩:=he;exact⟨x,y,hxy,nofun⟩
  |row r args=>
   simp only [Oper.upon] at hh ⊢
   exact Rows.mono hh (fun _ _ he=>h _ _ (hput _) he)
  |_=>exact hh.elim
 |halt x w'=>
  cases x<;>simp only [Oper.upon] at hh ⊢
  ·exact⟨hh,nofun⟩
theorem vQ {ops:Array Oper} {Q:Exit→Act→World→Prop}:∀(l:List Oper) (a:Act) (w:World),l.all (fun o=>CB S o.dst)=true→Held S a0 a→wpList P ops Q l a w→wpList P ops (HQ S a0 Q) l a w
 |[],_,_,_,ha,h=>⟨h,fun _=>ha⟩
 |o::r,a,w,hd,ha,h=>by
  simp only [List.all_cons,Bool.and_eq_true] at hd
  simp only [wpList] at h ⊢
  split
  ·rename_i hw
   simp only [hw,if_true] at h
   rcases h with h|⟨h1,x,y,h2⟩
   ·exact .inl (Qv hd.1 ha (fun a' w' ha' hk=>vQ r a' w' hd.2 ha' hk) h)
   ·exact .inr ⟨h1,x,y,h2,nofun⟩
  ·rename_i hw
   simp only [hw] at h
   exact vQ r _ w hd.2 (ha.put hd.1 _) h
theorem tX {ops:Array Oper} {Q:Exit→Act→World→Prop} (hall:ops.toList.all (fun o=>CB S o.dst)=true):∀(fuel:Nat) (listed:Array Bool) (a:Act) (w:World),Held S a0 a→wpAny P .any ops Q fuel listed a w→wpAny P .any ops (HQ S a0 Q) fuel listed a w
 |0,_,_,_,ha,h=>⟨h.1,h.2,fun _=>ha⟩
 |fuel+1,listed,a,w,ha,h=>by
  refine⟨fun hr=>⟨h.1 hr,fun _=>ha⟩,fun i hi=>?_⟩
  have hh:=h.2 i hi
  unfold wpOp at hh ⊢
  cases ho:ops[i]? with
  |none=>simp only [ho] at hh ⊢;exact tX hall fuel _ a w ha hh
  |some o=>
   simp only [ho] at hh ⊢
   have hd:CB S o.dst=true:=List.all_eq_true.1 hall o (by
    rw [← Array.getElem?_toList] at ho
    exact List.mem_of_getElem? ho)
   split
   ·rename_i hw
    simp only [hw,if_true] at hh
    rcases hh with hh|⟨h1,x,y,h2⟩
    ·exact .inl (Qv hd ha (fun a' w' ha' hk=>tX hall fuel _ a' w' ha' hk) hh)
    ·exact .inr ⟨h1,x,y,h2,nofun⟩
   ·rename_i hw
    simp only [hw] at hh
    exact tX hall fuel _ _ w (ha.put hd _) hh
end
def bO (S:List Nat):Code→Bool
 | .skip| .ret| .exit _| .label _=>true
 | .seq a b=>bO S a&&bO S b
 | .cond _ a b=>bO S a&&bO S b
 | .region _ ops _=>ops.toList.all fun o=>CB S o.dst
 |_=>false
def bT:Nat→Code→Code
 |0,_=>.skip
 |n+1,.seq a b=>.seq a (bT n b)
 |_+1,_=>.goto 0
def bN:Nat→Code→Code
 |0,c=>c
 |n+1,.seq _ b=>bN n b
 |_+1,_=>.skip
section
variable {P:Program} {T:Nat→Ty} {L:Nat} {w0:World} {I0:Bs} {S:List Nat}
theorem Held.refl {a:Act}:Held S a a:=fun _ _=>rfl
theorem Held.trans {a b c:Act} (h:Held S a b) (k:Held S b c):Held S a c:=fun i hi=>(k i hi).trans (h i hi)
theorem qy (hT:aW P T) (hL1:1000≤L) (hL2:L≤2 ^ 38) (hm:P.follows .mixedOrders=true):∀(code:Code) (Qa:AX→St→Prop) (Q:Exit→Act→World→Prop) (s:St) (a:Act) (w:World) (c:Cx),bO S code=true→Gam T L w0 I0 s a w c→awp T (dO P T L) L code Qa s→
  (∀e s' a' w' c',Gam T L w0 I0 s' a' w' c'→Qa e s'→Held S a a'∨e≠.normal→Q e.ex a' w')→code.wp P Q a w
 | .skip,Qa,Q,s,a,w,c,_,h,hw,hQ=>wp_skip (hQ .normal _ _ _ _ h hw (.inl .refl))
 | .label _,Qa,Q,s,a,w,c,_,h,hw,hQ=>wp_label (hQ .normal _ _ _ _ h hw (.inl .refl))
 | .ret,Qa,Q,s,a,w,c,_,h,hw,hQ=>wp_ret (hQ .ret _ _ _ _ h hw (.inl .refl))
 | .exit id,Qa,Q,s,a,w,c,_,h,hw,hQ=>wp_exit (hQ (.exit id) _ _ _ _ h hw (.inl .refl))
 | .seq x y,Qa,Q,s,a,w,c,hp,h,hw,hQ=>by
  simp only [bO,Bool.and_eq_true] at hp
  refine wp_seq (qy hT hL1 hL2 hm x _ _ s a w c hp.1 h hw ?_)
  intro e s' a' w' c' h' hq hk
  cases e with
  |normal=>
   have hk:=hk.resolve_right (fun h=>h rfl)
   exact qy hT hL1 hL2 hm y Qa Q s' a' w' c' hp.2 h' hq fun e s2 a2 w2 c2 h2 hq2 hk2=>hQ e s2 a2 w2 c2 h2 hq2 (hk2.imp (fun k=>hk.trans k) id)
  |ret=>exact hQ .ret _ _ _ _ h' hq (.inr nofun)
  |exit id=>exact hQ (.exit id) _ _ _ _ h' hq (.inr nofun)
 | .cond (.tmp t) x y,Qa,Q,s,a,w,c,hp,h,hw,hQ=>by
  simp only [bO,Bool.and_eq_true] at hp
  simp only [awp] at hw
  split at hw
  ·rename_i b hb
   have hv:=h.slots t
   rw [hb] at hv
   have hev:a.eval (.tmp t)= .bool b:=zi hv
   cases b with
   |true=>exact wp_cond_true hev (qy hT hL1 hL2 hm x Qa Q _ a w c hp.1 (h.know hv) (hw.t rfl) hQ)
   |false=>exact wp_cond_false hev (qy hT hL1 hL2 hm y Qa Q _ a w c hp.2 (h.know hv) (hw.f rfl) hQ)
  ·exact hw.elim
 | .cond (.const v) x y,Qa,Q,s,a,w,c,hp,h,hw,hQ=>by
  simp only [bO,Bool.and_eq_true] at hp
  cases v with
  |bool b=>
   cases b with
   |true=>exact wp_cond_true rfl (qy hT hL1 hL2 hm x Qa Q _ a w c hp.1 h hw hQ)
   |false=>exact wp_cond_false rfl (qy hT hL1 hL2 hm y Qa Q _ a w c hp.2 h hw hQ)
  |_=>exact hw.elim
 | .cond (.global _) x y,_,_,_,_,_,_,_,_,hw,_=>hw.elim
 | .cond (.func _) x y,_,_,_,_,_,_,_,_,hw,_=>hw.elim
 | .region id ops draw,Qa,Q,s,a,w,c,hp,h,hw,hQ=>by
  simp only [bO] at hp
  cases draw with
  |true=>
   refine wp_mono (Q:=HQ S a fun e a' w'=>e= .normal∧∃s' c',Gam T L w0 I0 s' a' w' c'∧Qa .normal s') (wp_region_any hm (tX hp _ _ _ _ .refl ?_)) ?_
   ·exact Iu hT hL1 hL2 (fun s' a' w' c' h' hk=>⟨rfl,s',c',h',hk⟩) (fun n hn=>⟨c,h.drew n hn⟩) hw
   ·rintro e a' w' ⟨⟨rfl,s',c',h1,h2⟩,h3⟩
    exact hQ .normal _ _ _ _ h1 h2 (.inl (h3 rfl))
  |false=>
   refine wp_mono (Q:=HQ S a fun e a' w'=>e= .normal∧∃s' c',Gam T L w0 I0 s' a' w' c'∧Qa .normal s') (wp_region_list (vQ _ _ _ hp .refl ?_)) ?_
   ·exact mQ hT hL1 hL2 (fun s' a' w' c' h' hk=>⟨rfl,s',c',h',hk⟩) ops.toList s a w c h hw
   ·rintro e a' w' ⟨⟨rfl,s',c',h1,h2⟩,h3⟩
    exact hQ .normal _ _ _ _ h1 h2 (.inl (h3 rfl))
 | .block _ _,_,_,_,_,_,_,hp,_,_,_=>by simp [bO] at hp
 | .loop _,_,_,_,_,_,_,hp,_,_,_=>by simp [bO] at hp
 | .rangeFunc _ _ _ _,_,_,_,_,_,_,_,_,hw,_=>hw.elim
 | .scope _,_,_,_,_,_,_,_,_,hw,_=>hw.elim
 | .goto _,_,_,_,_,_,_,_,_,hw,_=>hw.elim
 | .refuse _,_,_,_,_,_,_,_,_,hw,_=>hw.elim
theorem CF (hT:aW P T) (hL1:1000≤L) (hL2:L≤2 ^ 38) (hm:P.follows .mixedOrders=true):∀(n:Nat) (code:Code) (Qa:AX→St→Prop) (Q:Exit→Act→World→Prop) (s:St) (a:Act) (w:World) (c:Cx),bO S (bT n code)=true→Gam T L w0 I0 s a w c→awp T (dO P T L) L (bT n code) Qa s→
  (∀s' a' w' c',Gam T L w0 I0 s' a' w' c'→Qa .normal s'→Held S a a'→(bN n code).wp P Q a' w')→
  (∀e s' a' w' c',e≠.normal→Gam T L w0 I0 s' a' w' c'→Qa e s'→Q e.ex a' w')→code.wp P Q a w
 |0,code,Qa,Q,s,a,w,c,_,h,hw,hN,_=>hN _ _ _ _ h hw .refl
 |n+1,.seq x y,Qa,Q,s,a,w,c,hp,h,hw,hN,hE=>by
  simp only [bT,bO,Bool.and_eq_true] at hp
  refine wp_seq (qy hT hL1 hL2 hm x _ _ s a w c hp.1 h hw ?_)
  intro e s' a' w' c' h' hq hk
  cases e with
  |normal=>
   have hk:=hk.resolve_right (fun h=>h rfl)
   exact CF hT hL1 hL2 hm n y Qa Q s' a' w' c' hp.2 h' hq (fun s2 a2 w2 c2 h2 hq2 hk2=>hN s2 a2 w2 c2 h2 hq2 (hk.trans hk2)) hE
  |ret=>exact hE .ret _ _ _ _ nofun h' hq
  |exit id=>exact hE (.exit id) _ _ _ _ nofun h' hq
 |_+1,.skip,_,_,_,_,_,_,hp,_,_,_,_=>by simp [bT,bO] at hp
 |_+1,.region _ _ _,_,_,_,_,_,_,hp,_,_,_,_=>by simp [bT,bO] at hp
 |_+1,.cond _ _ _,_,_,_,_,_,_,hp,_,_,_,_=>by simp [bT,bO] at hp
 |_+1,.block _ _,_,_,_,_,_,_,hp,_,_,_,_=>by simp [bT,bO] at hp
 |_+1,.loop _,_,_,_,_,_,_,hp,_,_,_,_=>by simp [bT,bO] at hp
 |_+1,.rangeFunc _ _ _ _,_,_,_,_,_,_,hp,_,_,_,_=>by simp [bT,bO] at hp
 |_+1,.exit _,_,_,_,_,_,_,hp,_,_,_,_=>by simp [bT,bO] at hp
 |_+1,.scope _,_,_,_,_,_,_,hp,_,_,_,_=>by simp [bT,bO] at hp
 |_+1,.label _,_,_,_,_,_,_,hp,_,_,_,_=>by simp [bT,bO] at hp
 |_+1,.goto _,_,_,_,_,_,_,hp,_,_,_,_=>by simp [bT,bO] at hp
 |_+1,.ret,_,_,_,_,_,_,hp,_,_,_,_=>by simp [bT,bO] at hp
 |_+1,.refuse _,_,_,_,_,_,_,hp,_,_,_,_=>by simp [bT,bO] at hp
theorem Na (hT:aW P T) {fn:Func} {s:St} {a:Act} {w:World} {c:Cx} (h:Gam T L w0 I0 s a w c) {e:AX} (hq:oH T fn.results.toList (.d (.bool true)) e s) {R:Ending→World→Prop} (hR:R (.returned (.bool true)) w):
  bodyPost P fn R e.ex a w:=by
 have key:oH T fn.results.toList (.d (.bool true)) .ret s→a.defers= []∧∃v,(results fn a.tmps).run P w= .ok v w∧R (.returned v) w:=by
  intro hq
  simp only [oH] at hq
  obtain⟨xs,us,k1,k2,k3⟩:=tQ hT h _ _ hq
  have hres:(results fn a.tmps).run P w= .ok (if h:us.toArray.size=1 then us.toArray[0] else .tuple us.toArray) w:=by
   have hm:(fn.results.mapM (xY a.tmps)).run P w= .ok us.toArray w:=by
    rw [Array.mapM_eq_mapM_toList]
    simp [k3]
   have he:results fn a.tmps=(do let vs ← fn.results.mapM (xY a.tmps);pure (if h:vs.size=1 then vs[0] else .tuple vs)):=by
    unfold results
    congr 1
   rw [he,Sem.run_bind,hm]
   simp
  refine⟨h.defers,_,hres,?_⟩
  have fin:∀(v:SV) (u:Value),ah T c s.tok s.mem w L v u→LW T (.d (.bool true)) s v→u= .bool true:=by
   intro v u hv hrel
   simp only [LW,RV.xU,cond_false,uV] at hrel
   obtain⟨x,s1,c1,⟨rfl,_⟩,_,_,m5⟩:=jW h hv hrel
   simpa only [aF] using m5
  have vC:=(ak.all2.1 k2).length
  match xs,us,k1,k2,vC with
  |[x],[u],k1,k2,_=>
   simp only [ak] at k2
   obtain⟨_,_,he,hx,_⟩:=k2
   cases he
   have:=fin x u hx k1
   subst this
   exact hR
  |[],[],k1,k2,_=>simp [UQ,LW,RV.xU,uV,kJ,erase] at k1
  |x::y::xs,u::v::us,k1,k2,_=>simp [UQ,LW,RV.xU,uV,kJ,erase] at k1
 cases e with
 |normal=>exact key hq
 |ret=>exact key hq
 |exit id=>exact hq.elim
def PhQ (T:Nat→Ty) (nt:Nat) (fr:Fr) (rs:List ResultVar) (e:AX) (s:St):Prop:=
 match e with
 | .normal=>s.n=nt∧Weak T s fr
 |e=>oH T rs (.d (.bool true)) e s
def cx0 (I J O:Nat→Prop) (mt:Bool) (w:World):Cx:={ β:=fun _=>none,ω:=fun _=>none,I:=I,J:=J,O:=O,mt:=mt,base:=w.heap.size,who:=fun _=>none,lin:=fun _=>none,As:=fun _ _=>none }
def zV (T:Nat→Ty) (I J O:Nat→Prop) (mt:Bool) (w:World) (L:Nat) (a:Act):List (Nat×SV)→Prop
 |[]=>True
 |(i,v)::r=>ah T (cx0 I J O mt w) (fun _=>none) (fun _=>none) w L v (a.tmps.getD i undef)∧zV T I J O mt w L a r
theorem IQ {I J O:Nat→Prop} {mt:Bool} {w:World} {a:Act}:∀{l:List (Nat×SV)} {i:Nat} {v:SV},zV T I J O mt w L a l→look l i=some v→ah T (cx0 I J O mt w) (fun _=>none) (fun _=>none) w L v (a.tmps.getD i undef)
 |[],_,_,_,h=>by simp [look] at h
 |(j,u)::r,i,v,h,e=>by
  simp only [look] at e
  cases hb:Nat.beq i j with
  |true=>simp only [hb,cond_true] at e;cases e;rw [Nat.eq_of_beq_eq_true hb];exact h.1
  |false=>simp only [hb,cond_false] at e;exact IQ h.2 e
theorem Gam.begin {n:Nat} {I J O:Nat→Prop} {mt:Bool} {w:World} {a:Act} {slots:List (Nat×SV)} (hsz:a.tmps.size=n) (hdf:a.defers= []) (hI:∀b,I b→b < w.heap.size) (hJ:∀b,J b→b < w.heap.size) (hO:∀b,O b→b < w.heap.size)
  (hfz:mt=true→∀b,O b→eX w b) (hij:mt=true→∀b,I b∨J b→¬ O b) (hs:zV T I J O mt w L a slots):
  Gam T L w ⟨I,fun b=>O b∧mt=true,fun _ _=>none,fun _=>False,fun _=>none⟩ ((Fr.mk slots [] []).st n) a w (cx0 I J O mt w):=by
 refine⟨Turn.refl _ _,fun _ h=>h,fun _ h=>.inl h,hI,hJ,fun _ _=>rfl,hO,hfz,hij,fun b hb=>absurd rfl hb,hsz,hdf,rfl,⟨rfl,rfl⟩,⟨fun b τ hb=>(by cases hb),fun _ _=>rfl,fun i g cells hm=>(by simp [Fr.st,look] at hm)⟩,fun i=>?_,?_,?_⟩
 ·simp only [Fr.st]
  cases hl:look slots i with
  |none=>simp [ah]
  |some v=>exact IQ hs hl
 ·intro d g cells hd;simp [Fr.st,look] at hd
 ·intro τ t ht;simp [Fr.st,look] at ht
theorem phase (hT:aW P T) (hL1:1000≤L) (hL2:L≤2 ^ 38) (hm:P.follows .mixedOrders=true) {fn:Func} {code:Code} {R:Ending→World→Prop} (k:Nat) (S:List Nat) (slots:List (Nat×SV)) (fr:Fr)
  {I J O:Nat→Prop} {mt:Bool} {w:World} {a:Act} (hg:Gam T L w ⟨I,fun b=>O b∧mt=true,fun _ _=>none,fun _=>False,fun _=>none⟩ ((Fr.mk slots [] []).st fn.ntmps) a w (cx0 I J O mt w)) (hk:bO S (bT k code)=true)
  (hw:mK T (dO P T L) L (bT k code) (PhQ T fn.ntmps fr fn.results.toList) ((Fr.mk slots [] []).st fn.ntmps))
  (hN:∀a' w' c',Gam T L w ⟨I,fun b=>O b∧mt=true,fun _ _=>none,fun _=>False,fun _=>none⟩ (fr.st fn.ntmps) a' w' c'→Held S a a'→(bN k code).wp P (bodyPost P fn R) a' w')
  (hR:∀w',Turn (fun b=>O b∧mt=true) w w'→R (.returned (.bool true)) w'):code.wp P (bodyPost P fn R) a w:=by
 rw [nE] at hw
 refine CF hT hL1 hL2 hm k code _ _ _ a w _ hk hg hw ?_ ?_
 ·rintro s' a' w' c' h' ⟨h1,h2⟩ hh
  obtain⟨c2,hg2⟩:=tO h' h2
  rw [h1] at hg2
  exact hN a' w' c2 hg2 hh
 ·intro e s' a' w' c' he h' hq
  have hq':oH T fn.results.toList (.d (.bool true)) e s':=by cases e<;>first|exact absurd rfl he|exact hq
  exact Na hT h' hq' (hR w' ((show c'.M=fun b=>O b∧mt=true from h'.om) ▸ h'.below))
theorem OQ (hT:aW P T) (hL1:1000≤L) (hL2:L≤2 ^ 38) (hm:P.follows .mixedOrders=true) {fn:Func} {code:Code} {R:Ending→World→Prop} (slots:List (Nat×SV))
  {I J O:Nat→Prop} {mt:Bool} {w:World} {a:Act} (hg:Gam T L w ⟨I,fun b=>O b∧mt=true,fun _ _=>none,fun _=>False,fun _=>none⟩ ((Fr.mk slots [] []).st fn.ntmps) a w (cx0 I J O mt w)) (hp:bW code=true)
  (hw:mK T (dO P T L) L code (oH T fn.results.toList (.d (.bool true))) ((Fr.mk slots [] []).st fn.ntmps))
  (hR:∀w',Turn (fun b=>O b∧mt=true) w w'→R (.returned (.bool true)) w'):code.wp P (bodyPost P fn R) a w:=by
 rw [nE] at hw
 refine iQ hT hL1 hL2 hm code _ _ _ _ _ _ hp hg hw ?_
 intro e s' a' w' c' h' hq
 exact Na hT h' hq (hR w' ((show c'.M=fun b=>O b∧mt=true from h'.om) ▸ h'.below))
theorem Gam.TA {s:St} {a:Act} {w:World} {c:Cx} (h:Gam T L w0 I0 s a w c) {d:Nat} {l:List AV} (hs:s.get d= .box d 0 0) (hm:s.mem d=some (0,l.map SV.data)) (hB:∀b,¬ I0.B b:=by exact fun _ h=>h):
  ∃b,a.tmps.getD d undef= .pointer (some ⟨b,0,none⟩)∧w0.heap.size≤b∧b < w.heap.size∧eX w b∧aX c.I w L b l 0:=by
 obtain⟨b,cs,E,k1,k2,k3,k4,k5⟩:=h.jB d 0 _ hm
 have hv:=h.slots d
 rw [hs] at hv
 simp only [ah] at hv
 obtain⟨g',cells',m1,_,m3⟩:=hv
 rw [hm] at m1;cases m1
 obtain⟨b',n1,n2⟩:=m3 rfl
 rw [k1] at n1;cases n1
 have hb:=h.wlt b (by simp [k2])
 refine⟨b,n2,hb.1.resolve_right (hB b),hb.2,fun o=>by simp [World.frozen?,k3],?_⟩
 have hcell:∀j u,cs[j]? =some u→w.cell? ⟨b,j,none⟩=some u:=fun j u hu=>by
  rw [cell_of_row w b j _ _ _ k3];simpa using hu
 have go:∀(l:List AV) (us:List Value) (o:Nat),ak T c s.tok s.mem w L (l.map SV.data) us→(∀u∈us,u.oneCell'=true)→(∀j u,us[j]? =some u→w.cell? ⟨b,o+j,none⟩=some u)→aX c.I w L b l o:=by
  intro l
  induction l with
  |nil=>intro us o _ _ _;simp [aX]
  |cons x l ih=>
   intro us o hr hn hc
   simp only [List.map_cons,ak] at hr
   obtain⟨u,us',rfl,h1,h2⟩:=hr
   simp only [ah] at h1
   simp only [aX]
   refine⟨⟨u,by simpa using hc 0 u rfl,?_⟩,ih us' (o+1) h2 (fun v hv=>hn v (by simp [hv])) fun j v hj=>?_⟩
   ·have hone:=hn u (by simp)
    cases x with
    |agg m=>obtain⟨vs,rfl,_⟩:=h1;simp [Value.oneCell'] at hone
    |_=>simpa [aD,aF] using h1
   ·have:=hc (j+1) v (by simpa using hj)
    rwa [show o+(j+1)=o+1+j by omega] at this
 exact go l cs 0 k4 k5 (fun j u hu=>by rw [Nat.zero_add];exact hcell j u hu)
end
open Go.RowKit
abbrev Fact:=Nat×Bool×AV
def Fct (L:Nat) (I:Nat→Prop) (w:World) (a:Act) (f:Fact):Prop:=
 match f.2.1 with
 |false=>aF I w L f.2.2 (a.tmps.getD f.1 undef)
 |true=>∃b,a.tmps.getD f.1 undef= .pointer (some ⟨b,0,none⟩)∧I b∧aX I w L b f.2.2.cells 0
def oz (L:Nat) (I:Nat→Prop) (w:World) (a:Act) (l:List Fact):Prop:=∀f∈l,Fct L I w a f
def toD (f:Fact):Nat×SV:=(f.1,bif f.2.1 then .ref f.2.2 else .data f.2.2)
def toO (f:Fact):Nat×SV:=(f.1,bif f.2.1 then .bQ f.2.2 else oJ f.2.2)
def toS (f:Fact):Nat×SV:=(f.1,bif f.2.1 then .bQ f.2.2.shape else .old f.2.2.shape)
def frV (f:Fact):SV:=bif f.2.1 then .box f.1 0 0 else .data f.2.2
def frS (l:List Fact):List (Nat×SV):=l.map fun f=>(f.1,frV f)
def frM:List Fact→List (Nat×List SV)
 |[]=>[]
 |(i,true,x)::r=>(i,x.cells.map .data)::frM r
 |(_,false,_)::r=>frM r
theorem Fj:∀{l:List Fact},(l.map (·.1)).Nodup→∀f∈l,look (frS l) f.1=some (frV f)
 |[],_,_,h=>by simp at h
 |g::l,hn,f,h=>by
  simp only [List.map_cons,List.nodup_cons,List.mem_map,not_exists,not_and] at hn
  simp only [frS,List.map_cons,look]
  rcases List.mem_cons.1 h with rfl|h
  ·simp
  ·rw [lM (hn.1 f h)]
   exact Fj hn.2 f h
theorem Fp:∀{l:List Fact},(l.map (·.1)).Nodup→∀f∈l,f.2.1=true→look (frM l) f.1=some (f.2.2.cells.map .data)
 |[],_,_,h,_=>by simp at h
 |g::l,hn,f,h,hb=>by
  simp only [List.map_cons,List.nodup_cons,List.mem_map,not_exists,not_and] at hn
  obtain⟨i,bx,x⟩:=g
  rcases List.mem_cons.1 h with rfl|h'
  ·simp only at hb;subst hb
   simp [frM,look]
  ·cases bx with
   |true=>
    simp only [frM,look]
    rw [lM (hn.1 f h')]
    exact Fp hn.2 f h' hb
   |false=>simp only [frM];exact Fp hn.2 f h' hb
theorem oz.mono {L:Nat} {I I':Nat→Prop} {w w':World} {a a':Act} {l:List Fact} {S:List Nat} (h:oz L I w a l) (hI:∀b,I b→I' b) (hw:∀b o,I b→w'.cell? ⟨b,o,none⟩=w.cell? ⟨b,o,none⟩) (hh:Held S a a') (hS:∀f∈l,f.1∈S):oz L I' w' a' l:=by
 intro f hf
 have h:=h f hf
 unfold Fct at h ⊢
 rw [hh _ (hS f hf)]
 cases hb:f.2.1 with
 |false=>simp only [hb] at h ⊢;exact h.mono hI hw
 |true=>
  simp only [hb] at h ⊢
  obtain⟨b,h1,h2,h3⟩:=h
  exact⟨b,h1,hI b h2,aX.mono hI hw b (fun o=>hw b o h2) _ _ h3⟩
theorem oz.append {L:Nat} {I:Nat→Prop} {w:World} {a:Act} {l m:List Fact} (h:oz L I w a l) (k:oz L I w a m):oz L I w a (l++m):=fun f hf=>(List.mem_append.1 hf).elim (h f) (k f)
section
variable {T:Nat→Ty} {L:Nat} {I J O:Nat→Prop} {mt:Bool} {w:World} {a:Act}
theorem zV.append:∀{l m:List (Nat×SV)},zV T I J O mt w L a l→zV T I J O mt w L a m→zV T I J O mt w L a (l++m)
 |[],_,_,h=>h
 |_::_,_,h,k=>⟨h.1,zV.append h.2 k⟩
theorem Kr:∀{l:List Fact},oz L I w a l→zV T I J O mt w L a (l.map toD)
 |[],_=>trivial
 |f::l,h=>by
  refine⟨?_,Kr fun g hg=>h g (by simp [hg])⟩
  have h:=h f (by simp)
  unfold Fct at h
  cases hb:f.2.1 with
  |false=>simp only [hb] at h;simp only [toD,hb,cond_false,ah,cx0];exact h
  |true=>
   simp only [hb] at h
   obtain⟨b,h1,h2,h3⟩:=h
   simp only [toD,hb,cond_true,ah,cx0]
   exact⟨b,0,h1,.inl h2,h3⟩
theorem TB:∀{l:List Fact},oz L O w a l→(∀f∈l,f.2.2.md false=true)→zV T I J O false w L a (l.map toO)
 |[],_,_=>trivial
 |f::l,h,hm=>by
  refine⟨?_,TB (fun g hg=>h g (by simp [hg])) (fun g hg=>hm g (by simp [hg]))⟩
  have h:=h f (by simp)
  have hm:=hm f (by simp)
  obtain⟨i,bx,x⟩:=f
  unfold Fct at h
  cases bx with
  |false=>
   simp only at h hm
   cases x with
   |sl m=>simp only [toO,cond_false,oJ,ah,cx0];exact⟨Jj hm,h⟩
   |agg m=>simp only [toO,cond_false,oJ,ah,cx0];exact⟨Jj hm,h⟩
   |bool b=>simpa [toO,oJ,ah,aF] using h
   |int k n=>simpa [toO,oJ,ah,aF] using h
   |str s=>simpa [toO,oJ,ah,aF] using h
   |any=>simpa [toO,oJ,ah,aF] using h
  |true=>
   simp only at h hm
   obtain⟨b,h1,h2,h3⟩:=h
   simp only [toO,cond_true,ah,cx0]
   exact⟨hm,b,0,h1,h2,h3⟩
theorem Nb (x:AV):x.shape.cells=AV.shapes x.cells:=by cases x<;>simp [AV.shape,AV.cells,AV.shapes]
theorem TD:∀{l:List Fact},oz L O w a l→zV T I J O true w L a (l.map toS)
 |[],_=>trivial
 |f::l,h=>by
  refine⟨?_,TD fun g hg=>h g (by simp [hg])⟩
  have h:=h f (by simp)
  obtain⟨i,bx,x⟩:=f
  unfold Fct at h
  cases bx with
  |false=>
   simp only at h
   simp only [toS,cond_false,ah,cx0]
   exact⟨Jj (EX x),h.shape⟩
  |true=>
   simp only at h
   obtain⟨b,h1,h2,h3⟩:=h
   simp only [toS,cond_true,ah,cx0]
   exact⟨EX x,b,0,h1,h2,by rw [Nb];exact aX.shape _ _ _ h3⟩
end
section
variable {P:Program} {T:Nat→Ty} {L:Nat} {w0:World} {I0:Bs}
theorem Gam.facts {pre:List (Nat×SV)} {tk:List (Nat×Nat×List AV×Nat)} {l:List Fact} {n:Nat} {a:Act} {w:World} {c:Cx} (h:Gam T L w0 I0 ((Fr.mk (pre++frS l) (frM l) tk).st n) a w c) (hn:(l.map (·.1)).Nodup) (hp:∀f∈l,∀p∈pre,p.1≠f.1) (hB:∀b,¬ I0.B b:=by exact fun _ h=>h):
  oz L (fun b=>(I0 b∨(w0.heap.size≤b∧eX w b))∧b < w.heap.size) w a l:=by
 have hI:∀b,c.I b→(I0 b∨(w0.heap.size≤b∧eX w b))∧b < w.heap.size:=fun b hb=>⟨h.wR b hb,h.ilt b hb⟩
 have Vn:∀(pre:List (Nat×SV)) (f:Fact),(∀p∈pre,p.1≠f.1)→look (pre++frS l) f.1=look (frS l) f.1:=by
  intro pre f hp
  induction pre with
  |nil=>rfl
  |cons p pre ih=>
   simp only [List.cons_append,look]
   rw [lM (hp p (by simp)).symm]
   exact ih fun q hq=>hp q (by simp [hq])
 intro f hf
 have h1:=(Vn pre f (hp f hf)).trans (Fj hn f hf)
 unfold Fct
 cases hb:f.2.1 with
 |false=>
  have hs:=h.slots f.1
  have e:((Fr.mk (pre++frS l) (frM l) tk).st n).get f.1= .data f.2.2:=by
   simp only [Fr.st,h1,frV,hb,cond_false]
  rw [e] at hs
  simp only [ah] at hs
  exact hs.mono hI (fun _ _ _=>rfl)
 |true=>
  have e:((Fr.mk (pre++frS l) (frM l) tk).st n).get f.1= .box f.1 0 0:=by
   simp only [Fr.st,h1,frV,hb,cond_true]
  have m:((Fr.mk (pre++frS l) (frM l) tk).st n).mem f.1=some (0,f.2.2.cells.map SV.data):=by
   simp only [Fr.st,Fp hn f hf hb]
  obtain⟨b,k1,k2,k3,k4,k5⟩:=h.TA e m hB
  exact⟨b,k1,⟨.inr ⟨k2,k4⟩,k3⟩,aX.mono hI (fun _ _ _=>rfl) b (fun _=>rfl) _ _ k5⟩
section
variable {I I':Nat→Prop} {w:World}
end
def Vo (P:Program) (L f:Nat) (l l':List AV) (M:Int):Prop:=
 (∀(vs:Array Value) (w:World),(callFunc f vs).run P w= .ok (.enter f vs) w)∧
 ∀(G:Nat→Prop) (w:World) (v:Value),(∀b,G b→b < w.heap.size∧eX w b)→aF G w L (.sl l) v→Calls P f #[v,.int .i64 1] w fun e w'=>e= .returned (.int .i64 M)∧
  w'.os=w.os∧w'.tape=w.tape∧w'.output=w.output∧w'.heap.size=w.heap.size∧(∀k,(l≠[]→v.ownBlock≠some k)→w'.heap[k]? =w.heap[k]?)∧aF G w' L (.sl l') v
theorem mh {a:Act} {d:Option Nat} {v:Value}:(a.put d v).tmps.size=a.tmps.size:=by cases d<;>simp [Act.put]
theorem put_defers {a:Act} {d:Option Nat} {v:Value}:(a.put d v).defers=a.defers:=by cases d<;>rfl
theorem eT {a:Act} {d i:Nat} {v:Value}:(a.put (some d) v).tmps.getD i undef=if i=d∧d < a.tmps.size then v else a.tmps.getD i undef:=vw _ _ _ _
structure Vp (oO oP:Array Oper) (f ig im t2 t3 t4:Nat):Prop where
 l1:∃o1,oO.toList= [o1]∧o1.guard=none∧o1.op= .assign (.const (.int .i64 1))∧o1.dst=some im
 l2:∃o2 o3 o4 o5 c,oP.toList= [o2,o3,o4,o5]∧o2.guard=none∧o3.guard=none∧o4.guard=none∧o5.guard=none∧
  o2.op= .move (.tmp ig)∧o2.dst=some t2∧o3.op= .move (.tmp im)∧o3.dst=some t3∧o4.op= .call c∧c.callee= .value (.func f)∧c.args= #[.tmp t2,.tmp t3]∧o4.dst=some t4∧o5.op= .assign (.tmp t4)∧o5.dst=some im
structure YK (P:Program) (T:Nat→Ty) (L:Nat) (fn:Func) (code:Code) (nA nB nC nD:Nat) (args:List AV) (lP lW lX lG:List Fact) (ig im:Nat) (lg lg':List AV) (M:Int) (f:Nat):Prop where
 nod:((lP++lW++lX++lG).map (·.1)).Nodup∧ig∉(lP++lW++lX++lG).map (·.1)
 flat:AV.qN lg=true
 known:∀x∈lP++lW,x.2.2.md false=true
 sc:∀x∈lG,x.2.1=false∧x.2.2.scalar=true
 kB:bO ((lP++lW).map (·.1)) (bT nB (bN nA code))=true
 kA:bO [] (bT nA code)=true
 kC:bO ((lP++lW++lX).map (·.1)) (bT nC (bN nB (bN nA code)))=true
 kD:bO (ig::(lP++lW++lG).map (·.1)) (bT nD (bN nC (bN nB (bN nA code))))=true
 pA:mK T (dO P T L) L (bT nA code) (PhQ T fn.ntmps ⟨frS (lP++lW),frM (lP++lW),[]⟩ fn.results.toList) ((Fr.mk (aV 0 (args.map AR.d)) [] []).st fn.ntmps)
 pB:mK T (dO P T L) L (bT nB (bN nA code)) (PhQ T fn.ntmps ⟨frS lX,frM lX,[]⟩ fn.results.toList) ((Fr.mk (lP.map toO) [] []).st fn.ntmps)
 pC:mK T (dO P T L) L (bT nC (bN nB (bN nA code))) (PhQ T fn.ntmps ⟨(ig,.fr lg)::frS lG,frM lG,[]⟩ fn.results.toList) ((Fr.mk ((lP++lW++lX).map toD) [] []).st fn.ntmps)
 pD:mK T (dO P T L) L (bT nD (bN nC (bN nB (bN nA code)))) (PhQ T fn.ntmps ⟨[],[],[]⟩ fn.results.toList) ((Fr.mk (((ig,false,.sl lg)::(lW++lG)).map toD++lX.map toS) [] []).st fn.ntmps)
 marks:Vo P L f lg lg' M
 pE:∃oO oP id1 id2 t2 t3 t4 rest,bN nD (bN nC (bN nB (bN nA code)))= .seq (.region id1 oO false) (.seq (.region id2 oP false) rest)∧Vp oO oP f ig im t2 t3 t4∧
  (im≠ig∧t2≠t3∧t2≠im∧t3≠im∧t4≠im)∧(∀i∈ig::(lP++lW++lG).map (·.1),i≠im∧i≠t2∧i≠t3∧i≠t4)∧(im < fn.ntmps∧t2 < fn.ntmps∧t3 < fn.ntmps∧t4 < fn.ntmps)∧bW rest=true∧
  mK T (dO P T L) L rest (oH T fn.results.toList (.d (.bool true))) ((Fr.mk ((im,.data (.int .i64 M))::((ig,false,.sl lg')::(lP++lW++lG)).map toD) [] []).st fn.ntmps)
theorem Below.wide {N M:Nat} {a b:World} (h:Below N a b) (hM:M≤N):Below M a b:=h.mono hM
theorem oz.sub {L:Nat} {I:Nat→Prop} {w:World} {a:Act} {l m:List Fact} (h:oz L I w a l) (hs:∀f∈m,f∈l):oz L I w a m:=fun f hf=>h f (hs f hf)
theorem Fq {I I':Nat→Prop} {w w':World} {x:AV} {v:Value} (hs:x.scalar=true) (h:aF I w L x v):aF I' w' L x v:=by
 cases x<;>simp_all [AV.scalar,aF]
theorem IU {α:Type} [DecidableEq α] {l m:List α} (h:(l++m).Nodup):l.Nodup∧m.Nodup∧∀x∈l,x∉m:=by
 rw [List.nodup_append] at h
 exact⟨h.1,h.2.1,fun x hx hm=>h.2.2 x hx x hm rfl⟩
theorem Kt {f:Nat} {args:List AV} (h:Contract P T L f (args.map AR.d) (.d (.bool true))) {w:World} {vs:List Value} (hargs:aN (aF (fun b=>b < w.heap.size) w L) args vs):
  Calls P f vs.toArray w fun e w'=>e= .returned (.bool true)∧Below w.heap.size w w':=by
 have ha:∀(args:List AV) (vs:List Value),aN (aF (fun b=>b < w.heap.size) w L) args vs→aN (lN (fun b=>b < w.heap.size) (fun _=>False) (fun _=>False) false w L) (args.map AR.d) vs:=by
  intro args
  induction args with
  |nil=>intro vs h;cases vs<;>exact h
  |cons x args ih=>
   intro vs h
   cases vs with
   |nil=>exact h
   |cons v vs=>exact⟨h.1,ih vs h.2⟩
 refine (h.2 (fun b=>b < w.heap.size) (fun _=>False) (fun _=>False) false w vs (fun b h=>h) (fun b h=>h.elim) (fun b h=>h.elim) nofun nofun (ha _ _ hargs)).mono ?_
 rintro e w' ⟨v,rfl,hb,_,_,_,_,_,_,hr⟩
 simp only [dD,aF] at hr
 exact⟨by rw [hr.2],hb.vo⟩
end
open Go.RowKit
structure DW (E sz:Nat) (w W:World) (b cap:Nat) (F:List Int):Prop where
 os:W.os=w.os
 tape:W.tape=w.tape
 output:W.output=w.output
 size:w.heap.size≤W.heap.size
 drawn:w.drawn≤W.drawn
 lt:b < w.heap.size
 other:∀k,k < w.heap.size→k≠b→W.heap[k]? =w.heap[k]?
 row:∃cur,W.heap[b]? =some (.cells cur E (0,0))∧cur.size=cap*sz∧F.length≤cap*sz∧∀(j:Nat) (x:Int),F[j]? =some x→cur[j]? =some (.int .i64 x)
section
variable {E sz:Nat} {w W W':World} {b cap:Nat} {F:List Int}
theorem DW.cell (h:DW E sz w W b cap F) {j:Nat} {x:Int} (hj:F[j]? =some x):W.cell? ⟨b,j,none⟩=some (.int .i64 x):=by
 obtain⟨cur,h1,h2,h3,h4⟩:=h.row
 rw [cell_of_row W b j cur E _ h1];exact h4 j x hj
theorem DW.frozen (h:DW E sz w W b cap F) (j:Nat):W.frozen? ⟨b,j,none⟩=false:=by
 obtain⟨cur,h1,_⟩:=h.row
 simp [World.frozen?,h1]
theorem DW.ltW (h:DW E sz w W b cap F):b < W.heap.size:=Nat.lt_of_lt_of_le h.lt h.size
theorem DW.below (h:DW E sz w W b cap F) (k:Quiet W W'):DW E sz w W' b cap F:=by
 refine⟨k.os.trans h.os,k.tape.trans h.tape,k.output.trans h.output,Nat.le_trans h.size k.size,Nat.le_trans h.drawn k.drawn,h.lt,fun i hi hb=>(k.block i (Nat.lt_of_lt_of_le hi h.size) id).trans (h.other i hi hb),?_⟩
 obtain⟨cur,h1,h2⟩:=h.row
 exact⟨cur,by rw [k.block b h.ltW id];exact h1,h2⟩
theorem DW.set (h:DW E sz w W b cap F) {j:Nat} {x:Int} (hj:j < F.length):DW E sz w (W.setCell ⟨b,j,none⟩ (.int .i64 x)) b cap (F.set j x):=by
 obtain⟨cur,h1,h2,h3,h4⟩:=h.row
 rw [setCell_eq_setRow W b j cur E _ _ h1]
 have hsz:(W.setRow b (cur.setIfInBounds j (.int .i64 x))).heap.size=W.heap.size:=by simp [World.setRow]
 refine⟨h.os,h.tape,h.output,by rw [hsz];exact h.size,h.drawn,h.lt,fun i hi hb=>?_,_,setRow_heap W b cur _ E _ h1,by simpa using h2,by simpa using h3,fun i y hi=>?_⟩
 ·rw [← h.other i hi hb]
  simp only [World.setRow,Array.getElem?_modify,if_neg (Ne.symm hb)]
 ·rw [Array.getElem?_setIfInBounds]
  rw [List.getElem?_set] at hi
  by_cases e:j=i
  ·subst e
   have hlt:j < cur.size:=by omega
   simp only [if_true,hlt,hj] at hi ⊢
   cases hi;rfl
  ·simp only [e,if_false] at hi ⊢
   exact h4 i y hi
theorem DW.alloc (h:DW E sz w W b cap F) (o:Obj):DW E sz w (W.alloc o) b cap F:=h.below (Quiet.alloc _ _)
theorem DW.sets:∀{vs:List Int} {j:Nat} {W:World} {F:List Int},DW E sz w W b cap F→j+vs.length≤F.length→DW E sz w (W.setCells b j (vs.map (Value.int .i64))) b cap (F.take j++vs++F.drop (j+vs.length))
 |[],j,W,F,h,_=>by simpa [World.setCells] using h
 |x::vs,j,W,F,h,hl=>by
  simp only [List.length_cons] at hl
  simp only [List.map_cons,World.setCells]
  have h1:=h.set (j:=j) (x:=x) (by omega)
  have h2:=DW.sets (vs:=vs) (j:=j+1) h1 (by simp;omega)
  have e:(F.set j x).take (j+1)++vs++(F.set j x).drop (j+1+vs.length)=F.take j++(x::vs)++F.drop (j+(x::vs).length):=by
   rw [List.take_succ_eq_append_getElem (by simp;omega),List.take_set_of_le (Nat.le_refl _),List.drop_set_of_lt (by omega)]
   simp [List.getElem_set_self,show j+1+vs.length=j+(vs.length+1) by omega]
  rw [e] at h2
  exact h2
theorem DW.pfx (h:DW E sz w W b cap F) {G:List Int} (hG:∃r,F=G++r):DW E sz w W b cap G:=by
 obtain⟨r,rfl⟩:=hG
 obtain⟨cur,h1,h2,h3,h4⟩:=h.row
 refine⟨h.os,h.tape,h.output,h.size,h.drawn,h.lt,h.other,cur,h1,h2,by simp at h3;omega,fun j x hj=>h4 j x ?_⟩
 rw [List.getElem?_append_left (List.getElem?_eq_some_iff.1 hj).1];exact hj
theorem DW.owns (h:DW E sz w W b cap F) {n base:Nat} (hn:F.length=n*sz) (hb:base≤b) (hc:n≤cap) (hm:cap≤maxLen):W.ownsRow base E sz (.slice (some ⟨b,0,none⟩) n cap) n (F.map (Value.int .i64)):=by
 obtain⟨cur,h1,h2,h3,h4⟩:=h.row
 refine⟨by simpa using hn,.inr ⟨b,cap,cur,rfl,hb,h1,hc,hm,h2,?_⟩⟩
 apply List.ext_getElem?
 intro j
 rw [List.getElem?_take,List.getElem?_map]
 by_cases hj:j < n*sz
 ·rw [if_pos hj]
  obtain⟨x,hx⟩:∃x,F[j]? =some x:=⟨F[j]'(by omega),by simp⟩
  rw [hx,Array.getElem?_toList,h4 j x hx];rfl
 ·rw [if_neg hj,List.getElem?_eq_none (by omega)];rfl
end
theorem Nc {E sz n cap:Nat} {w:World} {b:Nat} {F:List Int} {base:Nat} (h:w.ownsRow base E sz (.slice (some ⟨b,0,none⟩) n cap) n (F.map (Value.int .i64))):DW E sz w w b cap F∧n≤cap∧cap≤maxLen∧F.length=n*sz∧base≤b:=by
 have hl:=h.1
 rcases h.2 with⟨h0,_⟩|⟨g,c,cur,h0,hb,h1,h2,h3,h4,h5⟩
 ·cases h0
 cases h0
 have hlen:F.length=n*sz:=by simpa using hl
 have hle:n*sz≤cap*sz:=Nat.mul_le_mul_right _ h2
 refine⟨⟨rfl,rfl,rfl,Nat.le_refl _,Nat.le_refl _,?_,fun _ _ _=>rfl,cur,h1,h4,by omega,fun j x hj=>?_⟩,h2,h3,hlen,hb⟩
 ·exact (Array.getElem?_eq_some_iff.1 h1).1
 ·have hj':=(List.getElem?_eq_some_iff.1 hj).1
  have:(F.map (Value.int .i64))[j]? =some (.int .i64 x):=by rw [List.getElem?_map,hj];rfl
  rw [← h5,List.getElem?_take,if_pos (by omega),Array.getElem?_toList] at this
  exact this
theorem DW.quiet {E sz:Nat} {w0 w W:World} {b cap:Nat} {F:List Int} (h:DW E sz w W b cap F) (q:Quiet w0 w) (hb:w0.heap.size≤b):Quiet w0 W:=
 ⟨h.os.trans q.os,h.tape.trans q.tape,h.output.trans q.output,Nat.le_trans q.size h.size,fun k hk _ _=>(h.other k (Nat.lt_of_lt_of_le hk q.size) (by omega)).trans (q.block k hk id),fun _ _ _ hb=>hb.elim,fun _ hb=>hb.elim,Nat.le_trans q.drawn h.drawn⟩
theorem OT (k n:Nat):(Builtin.zeroCells (Array.replicate k (Value.int .i64 0)) n).toList=(List.replicate (n*k) (0:Int)).map (Value.int .i64):=by
 simp only [Builtin.zeroCells,Array.size_replicate,Array.toList_map,Array.toList_range,List.map_replicate]
 apply List.ext_getElem
 ·simp
 ·intro i h1 h2
  simp only [List.length_map,List.length_range] at h1
  have hk:0 < k:=Nat.pos_of_ne_zero fun e=>by subst e;simp at h1
  simp only [List.getElem_map,List.getElem_range,List.getElem_replicate]
  rw [getElem!_pos _ _ (by simpa using Nat.mod_lt _ hk)]
  simp
open Go.RowKit
mutual
def bL (w:World) (L:Nat):AV→Value→List Nat→Prop
 | .bool t,v,bs=>v= .bool t∧bs= []
 | .int k n,v,bs=>v= .int k n∧bs= []
 | .str s,v,bs=>v= .string s∧bs= []
 | .sl l,v,bs=>∃a cap,v= .slice a l.length cap∧l.length≤L∧l.length≤cap∧((l= []∧bs= [])∨∃b o sz bs',a=some ⟨b,o,none⟩∧bs=b::bs'∧bG w L b sz l o bs')
 | .any,v,bs=>Sc v∧bs= []
 | .agg _,_,_=>False
def bG (w:World) (L b sz:Nat):List AV→Nat→List Nat→Prop
 |[],_,bs=>bs= []
 |x::xs,o,bs=>∃b1 b2,bs=b1++b2∧kV w L b sz x o b1∧bG w L b sz xs (o+sz) b2
def kV (w:World) (L b sz:Nat):AV→Nat→List Nat→Prop
 | .agg l,o,bs=>l.length=sz∧cO w L b l o bs
 | .bool t,o,bs=>sz=1∧w.cell? ⟨b,o,none⟩=some (.bool t)∧bs= []
 | .int k n,o,bs=>sz=1∧w.cell? ⟨b,o,none⟩=some (.int k n)∧bs= []
 | .str s,o,bs=>sz=1∧w.cell? ⟨b,o,none⟩=some (.string s)∧bs= []
 | .sl l,o,bs=>sz=1∧∃v,w.cell? ⟨b,o,none⟩=some v∧∃a cap,v= .slice a l.length cap∧l.length≤L∧l.length≤cap∧((l= []∧bs= [])∨∃b o sz bs',a=some ⟨b,o,none⟩∧bs=b::bs'∧bG w L b sz l o bs')
 | .any,o,bs=>sz=1∧∃v,w.cell? ⟨b,o,none⟩=some v∧Sc v∧bs= []
def cO (w:World) (L b:Nat):List AV→Nat→List Nat→Prop
 |[],_,bs=>bs= []
 |c::cs,o,bs=>∃b1 b2,bs=b1++b2∧(∃v,w.cell? ⟨b,o,none⟩=some v∧bL w L c v b1)∧cO w L b cs (o+1) b2
end
def mW (w:World) (L:Nat):List AV→List Value→List Nat→Prop
 |[],vs,bs=>vs= []∧bs= []
 |x::xs,vs,bs=>∃u us b1 b2,vs=u::us∧bs=b1++b2∧bL w L x u b1∧mW w L xs us b2
def Ym (w:World) (L:Nat):AV→Value→List Nat→Prop
 | .agg l,v,bs=>∃cs:List Value,v= .agg cs.toArray∧mW w L l cs bs
 |x,v,bs=>bL w L x v bs
theorem jq {w:World} {L b sz o:Nat} {x:AV} {bs:List Nat}:kV w L b sz x o bs↔x.cells.length=sz∧cO w L b x.cells o bs:=by
 cases x with
 |agg l=>simp [kV,AV.cells]
 |_=>
  simp only [kV,AV.cells,List.length_cons,List.length_nil,cO,bL]
  constructor
  ·intro h
   first
    |(obtain⟨rfl,h1,rfl⟩:=h;exact⟨rfl,[],[],rfl,⟨_,h1,rfl,rfl⟩,rfl⟩)
    |(obtain⟨rfl,v,h1,h2,rfl⟩:=h;exact⟨rfl,[],[],rfl,⟨v,h1,h2,rfl⟩,rfl⟩)
    |(obtain⟨rfl,v,h1,h2⟩:=h;exact⟨rfl,bs,[],by simp,⟨v,h1,h2⟩,rfl⟩)
  ·intro h
   first
    |(obtain⟨rfl,b1,b2,rfl,⟨v,h1,rfl,rfl⟩,rfl⟩:=h;exact⟨rfl,h1,rfl⟩)
    |(obtain⟨rfl,b1,b2,rfl,⟨v,h1,h2,rfl⟩,rfl⟩:=h;exact⟨rfl,v,h1,h2,rfl⟩)
    |(obtain⟨rfl,b1,b2,rfl,⟨v,h1,h2⟩,rfl⟩:=h;exact⟨rfl,v,h1,by simpa using h2⟩)
section
variable {w w':World} {L:Nat}
mutual
theorem bL.mono:∀(a:AV) (v:Value) (bs:List Nat),(∀b∈bs,∀o,w'.cell? ⟨b,o,none⟩=w.cell? ⟨b,o,none⟩)→bL w L a v bs→bL w' L a v bs
 | .sl l,v,bs,hw,h=>by
  simp only [bL] at h ⊢
  obtain⟨a,cap,h1,h2,h3,h4⟩:=h
  refine⟨a,cap,h1,h2,h3,h4.imp id ?_⟩
  rintro⟨b,o,sz,bs',rfl,rfl,h5⟩
  exact⟨b,o,sz,bs',rfl,rfl,bG.mono b sz l o bs' (hw b (by simp)) (fun k hk=>hw k (by simp [hk])) h5⟩
 | .bool _,_,_,_,h=>by simpa [bL] using h
 | .int _ _,_,_,_,h=>by simpa [bL] using h
 | .str _,_,_,_,h=>by simpa [bL] using h
 | .any,_,_,_,h=>by simpa [bL] using h
 | .agg _,_,_,_,h=>by simp [bL] at h
theorem bG.mono (b sz:Nat):∀(l:List AV) (o:Nat) (bs:List Nat),(∀o,w'.cell? ⟨b,o,none⟩=w.cell? ⟨b,o,none⟩)→(∀b∈bs,∀o,w'.cell? ⟨b,o,none⟩=w.cell? ⟨b,o,none⟩)→bG w L b sz l o bs→bG w' L b sz l o bs
 |[],_,_,_,_,h=>by simpa [bG] using h
 |x::xs,o,bs,hb,hw,h=>by
  simp only [bG] at h ⊢
  obtain⟨b1,b2,rfl,h1,h2⟩:=h
  exact⟨b1,b2,rfl,kV.mono b sz x o b1 hb (fun k hk=>hw k (by simp [hk])) h1,bG.mono b sz xs (o+sz) b2 hb (fun k hk=>hw k (by simp [hk])) h2⟩
theorem kV.mono (b sz:Nat):∀(x:AV) (o:Nat) (bs:List Nat),(∀o,w'.cell? ⟨b,o,none⟩=w.cell? ⟨b,o,none⟩)→(∀b∈bs,∀o,w'.cell? ⟨b,o,none⟩=w.cell? ⟨b,o,none⟩)→kV w L b sz x o bs→kV w' L b sz x o bs
 | .agg l,o,bs,hb,hw,h=>by simp only [kV] at h ⊢;exact⟨h.1,cO.mono b l o bs hb hw h.2⟩
 | .sl l,o,bs,hb,hw,h=>by
  simp only [kV] at h ⊢
  obtain⟨h0,v,hv,a,cap,h1,h2,h3,h4⟩:=h
  refine⟨h0,v,by rw [hb o];exact hv,a,cap,h1,h2,h3,h4.imp id ?_⟩
  rintro⟨b,o,sz,bs',rfl,rfl,h5⟩
  exact⟨b,o,sz,bs',rfl,rfl,bG.mono b sz l o bs' (hw b (by simp)) (fun k hk=>hw k (by simp [hk])) h5⟩
 | .bool _,o,_,hb,_,h=>by simp only [kV] at h ⊢;rw [hb o];exact h
 | .int _ _,o,_,hb,_,h=>by simp only [kV] at h ⊢;rw [hb o];exact h
 | .str _,o,_,hb,_,h=>by simp only [kV] at h ⊢;rw [hb o];exact h
 | .any,o,_,hb,_,h=>by simp only [kV] at h ⊢;rw [hb o];exact h
theorem cO.mono (b:Nat):∀(l:List AV) (o:Nat) (bs:List Nat),(∀o,w'.cell? ⟨b,o,none⟩=w.cell? ⟨b,o,none⟩)→(∀b∈bs,∀o,w'.cell? ⟨b,o,none⟩=w.cell? ⟨b,o,none⟩)→cO w L b l o bs→cO w' L b l o bs
 |[],_,_,_,_,h=>by simpa [cO] using h
 |c::cs,o,bs,hb,hw,h=>by
  simp only [cO] at h ⊢
  obtain⟨b1,b2,rfl,⟨v,h1,h2⟩,h3⟩:=h
  exact⟨b1,b2,rfl,⟨v,by rw [hb o];exact h1,bL.mono c v b1 (fun k hk=>hw k (by simp [hk])) h2⟩,cO.mono b cs (o+1) b2 hb (fun k hk=>hw k (by simp [hk])) h3⟩
end
theorem mW.mono:∀{l:List AV} {vs:List Value} {bs:List Nat},(∀b∈bs,∀o,w'.cell? ⟨b,o,none⟩=w.cell? ⟨b,o,none⟩)→mW w L l vs bs→mW w' L l vs bs
 |[],_,_,_,h=>h
 |x::xs,_,_,hw,⟨u,us,b1,b2,e1,e2,h1,h2⟩=>by
  subst e2
  exact⟨u,us,b1,b2,e1,rfl,bL.mono x u b1 (fun k hk=>hw k (by simp [hk])) h1,mW.mono (fun k hk=>hw k (by simp [hk])) h2⟩
end
theorem cO.mono' {w w':World} {L b:Nat}:∀{l:List AV} {o:Nat} {bs:List Nat},(∀j,o≤j∧j < o+l.length→w'.cell? ⟨b,j,none⟩=w.cell? ⟨b,j,none⟩)→(∀x∈bs,∀j,w'.cell? ⟨x,j,none⟩=w.cell? ⟨x,j,none⟩)→cO w L b l o bs→cO w' L b l o bs
 |[],_,_,_,_,h=>by simpa [cO] using h
 |c::cs,o,bs,hb,hw,h=>by
  simp only [cO] at h ⊢
  obtain⟨b1,b2,rfl,⟨v,h1,h2⟩,h3⟩:=h
  exact⟨b1,b2,rfl,⟨v,by rw [hb o (by simp)];exact h1,bL.mono c v b1 (fun k hk=>hw k (by simp [hk])) h2⟩,cO.mono' (fun j hj=>hb j (by simp only [List.length_cons];omega)) (fun k hk=>hw k (by simp [hk])) h3⟩
theorem bG.mono' {w w':World} {L b sz:Nat}:∀{l:List AV} {o:Nat} {bs:List Nat},(∀j,o≤j→w'.cell? ⟨b,j,none⟩=w.cell? ⟨b,j,none⟩)→(∀x∈bs,∀j,w'.cell? ⟨x,j,none⟩=w.cell? ⟨x,j,none⟩)→bG w L b sz l o bs→bG w' L b sz l o bs
 |[],_,_,_,_,h=>by simpa [bG] using h
 |x::xs,o,bs,hb,hw,h=>by
  simp only [bG] at h ⊢
  obtain⟨b1,b2,rfl,h1,h2⟩:=h
  obtain⟨h3,h4⟩:=jq.1 h1
  exact⟨b1,b2,rfl,jq.2 ⟨h3,cO.mono' (fun j hj=>hb j hj.1) (fun k hk=>hw k (by simp [hk])) h4⟩,bG.mono' (fun j hj=>hb j (by omega)) (fun k hk=>hw k (by simp [hk])) h2⟩
section
variable {w:World} {L:Nat}
mutual
theorem Ku {I:Nat→Prop}:∀(x:AV) (v:Value) (bs:List Nat),aD I w L x v→kU w x v bs→bL w L x v bs
 | .sl l,v,bs,h,k=>by
  simp only [aD] at h
  simp only [bL]
  obtain⟨ad,cap,rfl,h1,h2,h3⟩:=h
  refine⟨ad,cap,rfl,h1,h2,?_⟩
  simp only [kU] at k
  rcases k with⟨rfl,rfl⟩|⟨b',o',sz',len',cap',bs',e,rfl,ke⟩
  ·exact .inl ⟨rfl,rfl⟩
  ·cases e
   refine .inr ⟨b',o',sz',bs',rfl,rfl,?_⟩
   cases l with
   |nil=>simp only [nY] at ke;simp only [bG];exact ke
   |cons y l=>
    rcases h3 with h3|⟨b,o,sz,e,hi,he⟩
    ·simp at h3
    ·cases e
     have hsz:sz=sz':=by
      simp only [bI] at he
      have e1:=(jh.1 he.1).1
      simp only [nY] at ke
      obtain⟨b1,b2,_,kx,_⟩:=ke
      cases y with
      |agg m=>simp only [kK] at kx;simp only [AV.cells] at e1;omega
      |_=>simp only [kK] at kx;simp only [AV.cells,List.length_cons,List.length_nil] at e1;omega
     subst hsz
     exact Kv b' sz (y::l) o' bs' he ke
 | .bool _,_,_,h,k=>by simp only [aD,kU,bL] at*;exact⟨h,k⟩
 | .int _ _,_,_,h,k=>by simp only [aD,kU,bL] at*;exact⟨h,k⟩
 | .str _,_,_,h,k=>by simp only [aD,kU,bL] at*;exact⟨h,k⟩
 | .any,_,_,h,k=>by simp only [aD,kU,bL] at*;exact⟨h,k⟩
 | .agg _,_,_,h,_=>by simp [aD] at h
theorem Kv {I:Nat→Prop} (b sz:Nat):∀(l:List AV) (o:Nat) (bs:List Nat),bI I w L b sz l o→nY w b sz l o bs→bG w L b sz l o bs
 |[],_,_,_,k=>by simp only [nY] at k;simp only [bG];exact k
 |x::xs,o,bs,h,k=>by
  simp only [bI] at h
  simp only [nY] at k
  simp only [bG]
  obtain⟨b1,b2,rfl,k1,k2⟩:=k
  exact⟨b1,b2,rfl,Vq b sz x o b1 h.1 k1,Kv b sz xs (o+sz) b2 h.2 k2⟩
theorem Vq {I:Nat→Prop} (b sz:Nat):∀(x:AV) (o:Nat) (bs:List Nat),dV I w L b sz x o→kK w b sz x o bs→kV w L b sz x o bs
 | .agg l,o,bs,h,k=>by simp only [dV,kK,kV] at*;exact⟨h.1,Qw b l o bs h.2 k.2⟩
 | .sl l,o,bs,h,k=>by
  simp only [dV] at h
  simp only [kK] at k
  simp only [kV]
  obtain⟨h0,v,hv,ad,cap,rfl,h1,h2,h3⟩:=h
  obtain⟨_,v',hv',k⟩:=k
  rw [hv] at hv';cases hv'
  refine⟨h0,_,hv,ad,cap,rfl,h1,h2,?_⟩
  rcases k with⟨rfl,rfl⟩|⟨b',o',sz',len',cap',bs',e,rfl,ke⟩
  ·exact .inl ⟨rfl,rfl⟩
  ·cases e
   refine .inr ⟨b',o',sz',bs',rfl,rfl,?_⟩
   cases l with
   |nil=>simp only [nY] at ke;simp only [bG];exact ke
   |cons y l=>
    rcases h3 with h3|⟨b,o,sz,e,hi,he⟩
    ·simp at h3
    ·cases e
     have hsz:sz=sz':=by
      simp only [bI] at he
      have e1:=(jh.1 he.1).1
      simp only [nY] at ke
      obtain⟨b1,b2,_,kx,_⟩:=ke
      cases y with
      |agg m=>simp only [kK] at kx;simp only [AV.cells] at e1;omega
      |_=>simp only [kK] at kx;simp only [AV.cells,List.length_cons,List.length_nil] at e1;omega
     subst hsz
     exact Kv b' sz (y::l) o' bs' he ke
 | .bool _,_,_,h,k=>by simp only [dV,kK,kV] at*;exact⟨h.1,h.2,k.2⟩
 | .int _ _,_,_,h,k=>by simp only [dV,kK,kV] at*;exact⟨h.1,h.2,k.2⟩
 | .str _,_,_,h,k=>by simp only [dV,kK,kV] at*;exact⟨h.1,h.2,k.2⟩
 | .any,_,_,h,k=>by simp only [dV,kK,kV] at*;obtain⟨h1,v,h2,h3⟩:=h;exact⟨h1,v,h2,h3,k.2⟩
theorem Qw {I:Nat→Prop} (b:Nat):∀(l:List AV) (o:Nat) (bs:List Nat),aX I w L b l o→sj w b l o bs→cO w L b l o bs
 |[],_,_,_,k=>by simp only [sj] at k;simp only [cO];exact k
 |c::cs,o,bs,h,k=>by
  simp only [aX] at h
  simp only [sj] at k
  simp only [cO]
  obtain⟨⟨v,h1,h2⟩,h3⟩:=h
  obtain⟨b1,b2,rfl,⟨v',k1,k2⟩,k3⟩:=k
  rw [h1] at k1;cases k1
  exact⟨b1,b2,rfl,⟨v,h1,Ku c v b1 h2 k2⟩,Qw b cs (o+1) b2 h3 k3⟩
end
mutual
theorem bL.rep:∀(x:AV) (v:Value) (bs:List Nat) (I:Nat→Prop),(∀b∈bs,I b)→bL w L x v bs→aD I w L x v
 | .sl l,v,bs,I,hb,h=>by
  simp only [bL] at h
  simp only [aD]
  obtain⟨ad,cap,rfl,h1,h2,h3⟩:=h
  refine⟨ad,cap,rfl,h1,h2,?_⟩
  rcases h3 with⟨rfl,rfl⟩|⟨b,o,sz,bs',rfl,rfl,he⟩
  ·exact .inl rfl
  ·exact .inr ⟨b,o,sz,rfl,hb b (by simp),bG.rep b sz l o bs' I (fun k hk=>hb k (by simp [hk])) he⟩
 | .bool _,_,_,_,_,h=>by simp only [bL,aD] at*;exact h.1
 | .int _ _,_,_,_,_,h=>by simp only [bL,aD] at*;exact h.1
 | .str _,_,_,_,_,h=>by simp only [bL,aD] at*;exact h.1
 | .any,_,_,_,_,h=>by simp only [bL,aD] at*;exact h.1
 | .agg _,_,_,_,_,h=>by simp [bL] at h
theorem bG.rep (b sz:Nat):∀(l:List AV) (o:Nat) (bs:List Nat) (I:Nat→Prop),(∀b∈bs,I b)→bG w L b sz l o bs→bI I w L b sz l o
 |[],_,_,_,_,_=>by simp [bI]
 |x::xs,o,bs,I,hb,h=>by
  simp only [bG] at h
  simp only [bI]
  obtain⟨b1,b2,rfl,h1,h2⟩:=h
  exact⟨kV.rep b sz x o b1 I (fun k hk=>hb k (by simp [hk])) h1,bG.rep b sz xs (o+sz) b2 I (fun k hk=>hb k (by simp [hk])) h2⟩
theorem kV.rep (b sz:Nat):∀(x:AV) (o:Nat) (bs:List Nat) (I:Nat→Prop),(∀b∈bs,I b)→kV w L b sz x o bs→dV I w L b sz x o
 | .agg l,o,bs,I,hb,h=>by simp only [kV,dV] at*;exact⟨h.1,cO.rep b l o bs I hb h.2⟩
 | .sl l,o,bs,I,hb,h=>by
  simp only [kV] at h
  simp only [dV]
  obtain⟨h0,v,hv,ad,cap,rfl,h1,h2,h3⟩:=h
  refine⟨h0,_,hv,ad,cap,rfl,h1,h2,?_⟩
  rcases h3 with⟨rfl,rfl⟩|⟨b,o,sz,bs',rfl,rfl,he⟩
  ·exact .inl rfl
  ·exact .inr ⟨b,o,sz,rfl,hb b (by simp),bG.rep b sz l o bs' I (fun k hk=>hb k (by simp [hk])) he⟩
 | .bool _,_,_,_,_,h=>by simp only [kV,dV] at*;exact⟨h.1,h.2.1⟩
 | .int _ _,_,_,_,_,h=>by simp only [kV,dV] at*;exact⟨h.1,h.2.1⟩
 | .str _,_,_,_,_,h=>by simp only [kV,dV] at*;exact⟨h.1,h.2.1⟩
 | .any,_,_,_,_,h=>by simp only [kV,dV] at*;obtain⟨h1,v,h2,h3,_⟩:=h;exact⟨h1,v,h2,h3⟩
theorem cO.rep (b:Nat):∀(l:List AV) (o:Nat) (bs:List Nat) (I:Nat→Prop),(∀b∈bs,I b)→cO w L b l o bs→aX I w L b l o
 |[],_,_,_,_,_=>by simp [aX]
 |c::cs,o,bs,I,hb,h=>by
  simp only [cO] at h
  simp only [aX]
  obtain⟨b1,b2,rfl,⟨v,h1,h2⟩,h3⟩:=h
  exact⟨⟨v,h1,bL.rep c v b1 I (fun k hk=>hb k (by simp [hk])) h2⟩,cO.rep b cs (o+1) b2 I (fun k hk=>hb k (by simp [hk])) h3⟩
end
theorem mW.rep {I:Nat→Prop}:∀{l:List AV} {vs:List Value} {bs:List Nat},(∀b∈bs,I b)→mW w L l vs bs→aN (aD I w L) l vs
 |[],_,_,_,h=>by obtain⟨rfl,_⟩:=h;trivial
 |x::xs,_,_,hb,⟨u,us,b1,b2,e1,e2,h1,h2⟩=>by
  subst e1;subst e2
  exact⟨bL.rep x u b1 I (fun k hk=>hb k (by simp [hk])) h1,mW.rep (fun k hk=>hb k (by simp [hk])) h2⟩
theorem Ym.rep {I:Nat→Prop} {x:AV} {v:Value} {bs:List Nat} (hb:∀b∈bs,I b) (h:Ym w L x v bs):aF I w L x v:=by
 cases x with
 |agg l=>obtain⟨cs,rfl,h⟩:=h;exact⟨cs,rfl,h.rep hb⟩
 |sl l=>exact bL.rep (w:=w) (L:=L) (.sl l) v bs I hb h
 |bool t=>exact bL.rep (w:=w) (L:=L) (.bool t) v bs I hb h
 |int k n=>exact bL.rep (w:=w) (L:=L) (.int k n) v bs I hb h
 |str s=>exact bL.rep (w:=w) (L:=L) (.str s) v bs I hb h
 |any=>exact bL.rep (w:=w) (L:=L) .any v bs I hb h
end
section
variable {w:World} {L:Nat}
theorem cO.set {b:Nat}:∀{l:List AV} {o:Nat} {bs:List Nat} {k:Nat} {c:AV},cO w L b l o bs→l[k]? =some c→
  ∃b1 bc b3 u,bs=b1++bc++b3∧w.cell? ⟨b,o+k,none⟩=some u∧bL w L c u bc∧
   ∀(w':World) (c':AV) (u':Value),(∀j,j≠o+k→w'.cell? ⟨b,j,none⟩=w.cell? ⟨b,j,none⟩)→(∀x∈b1++b3,∀j,w'.cell? ⟨x,j,none⟩=w.cell? ⟨x,j,none⟩)→
    w'.cell? ⟨b,o+k,none⟩=some u'→bL w' L c' u' bc→cO w' L b (l.set k c') o bs
 |[],_,_,_,_,_,h=>by simp at h
 |x::l,o,bs,0,c,h,hk=>by
  simp at hk;subst hk
  simp only [cO] at h
  obtain⟨b1,b2,rfl,⟨u,h1,h2⟩,h3⟩:=h
  refine⟨[],b1,b2,u,by simp,by simpa using h1,h2,fun w' c' u' hw hx hu hc=>?_⟩
  simp only [List.set_cons_zero,cO]
  exact⟨b1,b2,rfl,⟨u',by simpa using hu,hc⟩,cO.mono' (fun j hj=>hw j (by omega)) (fun y hy=>hx y (by simp [hy])) h3⟩
 |x::l,o,bs,k+1,c,h,hk=>by
  simp only [cO] at h
  obtain⟨b1,b2,rfl,⟨u,h1,h2⟩,h3⟩:=h
  obtain⟨c1,bc,c3,v,rfl,g1,g2,g3⟩:=cO.set h3 (by simpa using hk)
  rw [show o+1+k=o+(k+1) by omega] at g1
  refine⟨b1++c1,bc,c3,v,by simp,g1,g2,fun w' c' u' hw hx hu hc=>?_⟩
  simp only [List.set_cons_succ,cO]
  refine⟨b1,c1++bc++c3,by simp,⟨u,by rw [hw o (by omega)];exact h1,bL.mono x u b1 (fun y hy=>hx y (by simp [hy])) h2⟩,g3 w' c' u' (fun j hj=>hw j (by omega)) (fun y hy=>hx y ?_) (by rw [show o+1+k=o+(k+1) by omega];exact hu) hc⟩
  simp only [List.mem_append] at hy ⊢
  rcases hy with hy|hy
  ·exact .inl (.inr hy)
  ·exact .inr hy
theorem bG.set {b sz:Nat}:∀{l:List AV} {o:Nat} {bs:List Nat} {j:Nat} {x:AV} {k:Nat} {c:AV},bG w L b sz l o bs→l[j]? =some x→x.cells[k]? =some c→
  ∃b1 bc b3 u,bs=b1++bc++b3∧x.cells.length=sz∧w.cell? ⟨b,o+j*sz+k,none⟩=some u∧bL w L c u bc∧
   ∀(w':World) (x':AV) (c':AV) (u':Value),x'.cells=x.cells.set k c'→(∀i,i≠o+j*sz+k→w'.cell? ⟨b,i,none⟩=w.cell? ⟨b,i,none⟩)→(∀y∈b1++b3,∀i,w'.cell? ⟨y,i,none⟩=w.cell? ⟨y,i,none⟩)→
    w'.cell? ⟨b,o+j*sz+k,none⟩=some u'→bL w' L c' u' bc→bG w' L b sz (l.set j x') o bs
 |[],_,_,_,_,_,_,_,h,_=>by simp at h
 |y::l,o,bs,0,x,k,c,h,hj,hk=>by
  simp at hj;subst hj
  simp only [bG] at h
  obtain⟨b1,b2,rfl,h1,h2⟩:=h
  obtain⟨h3,h4⟩:=jq.1 h1
  have hkl:k < sz:=by rw [← h3];exact (List.getElem?_eq_some_iff.1 hk).1
  obtain⟨c1,bc,c3,u,rfl,g1,g2,g3⟩:=h4.set hk
  refine⟨c1,bc,c3++b2,u,by simp,h3,by simpa using g1,g2,fun w' x' c' u' hx' hw hy hu hc=>?_⟩
  simp only [List.set_cons_zero,bG]
  refine⟨c1++bc++c3,b2,by simp,jq.2 ⟨by rw [hx'];simpa using h3,?_⟩,bG.mono' (fun i hi=>hw i (by omega)) (fun z hz=>hy z (by simp [hz])) h2⟩
  rw [hx']
  exact g3 w' c' u' (fun i hi=>hw i (by omega)) (fun z hz=>hy z (by simp only [List.mem_append] at hz ⊢;rcases hz with hz|hz;exact .inl hz;exact .inr (.inl hz))) (by simpa using hu) hc
 |y::l,o,bs,j+1,x,k,c,h,hj,hk=>by
  simp only [bG] at h
  obtain⟨b1,b2,rfl,h1,h2⟩:=h
  obtain⟨c1,bc,c3,u,rfl,g0,g1,g2,g3⟩:=bG.set h2 (by simpa using hj) hk
  have e:o+sz+j*sz+k=o+(j+1)*sz+k:=by rw [Nat.succ_mul];omega
  rw [e] at g1
  obtain⟨h3,h4⟩:=jq.1 h1
  have hkl:k < sz:=by rw [← g0];exact (List.getElem?_eq_some_iff.1 hk).1
  have hjs:sz≤(j+1)*sz:=by rw [Nat.succ_mul];omega
  refine⟨b1++c1,bc,c3,u,by simp,g0,g1,g2,fun w' x' c' u' hx' hw hy hu hc=>?_⟩
  simp only [List.set_cons_succ,bG]
  refine⟨b1,c1++bc++c3,by simp,jq.2 ⟨h3,cO.mono' (fun i hi=>hw i ?_) (fun z hz=>hy z (by simp [hz])) h4⟩,g3 w' x' c' u' hx' (fun i hi=>hw i (by omega)) (fun z hz=>hy z ?_) (by rw [e];exact hu) hc⟩
  ·omega
  ·simp only [List.mem_append] at hz ⊢
   rcases hz with hz|hz
   ·exact .inl (.inr hz)
   ·exact .inr hz
end
structure Only (bs:List Nat) (w w':World):Prop where
 os:w'.os=w.os
 tape:w'.tape=w.tape
 output:w'.output=w.output
 size:w.heap.size≤w'.heap.size
 block:∀k,k < w.heap.size→k∉bs→w'.heap[k]? =w.heap[k]?
 thaw:∀b∈bs,eX w b→eX w' b
theorem Only.refl (bs:List Nat) (w:World):Only bs w w:=⟨rfl,rfl,rfl,Nat.le_refl _,fun _ _ _=>rfl,fun _ _ h=>h⟩
theorem Only.trans {bs:List Nat} {a b c:World} (h:Only bs a b) (k:Only bs b c):Only bs a c:=
 ⟨k.os.trans h.os,k.tape.trans h.tape,k.output.trans h.output,Nat.le_trans h.size k.size,fun i hi hm=>(k.block i (Nat.lt_of_lt_of_le hi h.size) hm).trans (h.block i hi hm),fun b hb ht=>k.thaw b hb (h.thaw b hb ht)⟩
theorem Only.sub {bs cs:List Nat} {w w':World} (hs:∀b∈bs,b∈cs) (hc:∀b∈cs,b < w.heap.size) (h:Only bs w w'):Only cs w w':=
 ⟨h.os,h.tape,h.output,h.size,fun k hk hm=>h.block k hk fun hb=>hm (hs k hb),fun b hb ht=>by
  by_cases hm:b∈bs
  ·exact h.thaw b hm ht
  ·exact ht.same (h.block b (hc b hb) hm)⟩
theorem Only.cell {bs:List Nat} {w w':World} (h:Only bs w w') {b:Nat} (hb:b < w.heap.size) (hn:b∉bs) (o:Nat):w'.cell? ⟨b,o,none⟩=w.cell? ⟨b,o,none⟩:=World.cell?_of_block (h.block b hb hn)
abbrev MF:=List AV→Int→List AV×Int
def qY (P:Program) (L f:Nat) (F:MF) (ok:List AV→Prop):Prop:=
 (∀(vs:Array Value) (w:World),(callFunc f vs).run P w= .ok (.enter f vs) w)∧(∀m k,k≤(F m k).2)∧(∀m k,(F m k).1.length=m.length)∧
 ∀(w:World) (v:Value) (bs:List Nat) (m:List AV) (k:Int),ok m→bL w L (.sl m) v bs→bs.Nodup→(∀b∈bs,eX w b∧b < w.heap.size)→0≤k→(F m k).2≤4611686018427387904→
  Calls P f #[v,.int .i64 k] w fun e w'=>e= .returned (.int .i64 (F m k).2)∧Only bs w w'∧bL w' L (.sl (F m k).1) v bs
inductive MOp where
 |mv (d x:Nat)|ix (d t x i:Nat)|fa (d t x f:Nat)|ld (d t x:Nat)|st (t x y:Nat)|ca (d f x y:Nat)|inc (d x:Nat)
 |tx (d f x:Nat)|rem (d x:Nat)|eq0 (d x:Nat)
def decode (o:Oper):Option MOp:=
 match o.guard,o.op,o.dst with
 |none,.move (.tmp x),some d=>some (.mv d x)
 |none,.assign (.tmp x),some d=>some (.mv d x)
 |none,.indexAddr t (.tmp x) (.tmp i),some d=>some (.ix d t x i)
 |none,.fieldAddr t (.tmp x) f,some d=>some (.fa d t x f)
 |none,.load t (.tmp x),some d=>some (.ld d t x)
 |none,.store t (.tmp x) (.tmp y),none=>some (.st t x y)
 |none,.binOp .add _ (.tmp x) (.const (.int .i64 1)) _,some d=>some (.inc d x)
 |none,.binOp .rem _ (.tmp x) (.const (.int .i64 3)) _,some d=>some (.rem d x)
 |none,.binOp .eql _ (.tmp x) (.const (.int .i64 0)) _,some d=>some (.eq0 d x)
 |none,.call c,some d=>(match c.callee,c.args with
  | .value (.func f),⟨[.tmp x,.tmp y]⟩=>some (.ca d f x y)
  | .value (.func f),⟨[.tmp x]⟩=>some (.tx d f x)
  |_,_=>none)
 |_,_,_=>none
def MOp.dst:MOp→Nat
 | .mv d _| .ix d _ _ _| .fa d _ _ _| .ld d _ _| .ca d _ _ _| .inc d _| .tx d _ _| .rem d _| .eq0 d _=>d
 | .st _ _ _=>0
def decodeL (nt:Nat):List Oper→Option (List MOp)
 |[]=>some []
 |o::r=>match decode o,decodeL nt r with|some m,some l=>bif Nat.blt m.dst nt then some (m::l) else none|_,_=>none
def MOp.Is (o:Oper):MOp→Prop
 | .mv d x=>o.dst=some d∧(o.op= .move (.tmp x)∨o.op= .assign (.tmp x))
 | .ix d t x i=>o.dst=some d∧o.op= .indexAddr t (.tmp x) (.tmp i)
 | .fa d t x f=>o.dst=some d∧o.op= .fieldAddr t (.tmp x) f
 | .ld d t x=>o.dst=some d∧o.op= .load t (.tmp x)
 | .st t x y=>o.dst=none∧o.op= .store t (.tmp x) (.tmp y)
 | .ca d f x y=>o.dst=some d∧∃c:Call,o.op= .call c∧c.callee= .value (.func f)∧c.args= #[.tmp x,.tmp y]
 | .inc d x=>o.dst=some d∧∃t t',o.op= .binOp .add t (.tmp x) (.const (.int .i64 1)) t'
 | .tx d f x=>o.dst=some d∧∃c:Call,o.op= .call c∧c.callee= .value (.func f)∧c.args= #[.tmp x]
 | .rem d x=>o.dst=some d∧∃t t',o.op= .binOp .rem t (.tmp x) (.const (.int .i64 3)) t'
 | .eq0 d x=>o.dst=some d∧∃t t',o.op= .binOp .eql t (.tmp x) (.const (.int .i64 0)) t'
theorem Rn {o:Oper} {m:MOp} (h:decode o=some m):o.guard=none∧m.Is o:=by
 unfold decode at h
 split at h
 ·rename_i h1 h2 h3;cases h;exact⟨h1,h3,.inl h2⟩
 ·rename_i h1 h2 h3;cases h;exact⟨h1,h3,.inr h2⟩
 ·rename_i h1 h2 h3;cases h;exact⟨h1,h3,h2⟩
 ·rename_i h1 h2 h3;cases h;exact⟨h1,h3,h2⟩
 ·rename_i h1 h2 h3;cases h;exact⟨h1,h3,h2⟩
 ·rename_i h1 h2 h3;cases h;exact⟨h1,h3,h2⟩
 ·rename_i h1 h2 h3;cases h;exact⟨h1,h3,_,_,h2⟩
 ·rename_i h1 h2 h3;cases h;exact⟨h1,h3,_,_,h2⟩
 ·rename_i h1 h2 h3;cases h;exact⟨h1,h3,_,_,h2⟩
 ·rename_i h1 h2 h3
  split at h
  ·rename_i h4 h5;cases h;exact⟨h1,h3,_,h2,h4,h5⟩
  ·rename_i h4 h5;cases h;exact⟨h1,h3,_,h2,h4,h5⟩
  ·cases h
 ·cases h
theorem bZ {nt:Nat} {l:List Oper} {m:MOp} {r:List MOp} (h:decodeL nt l=some (m::r)):∃o l',l=o::l'∧o.guard=none∧m.Is o∧m.dst < nt∧decodeL nt l'=some r:=by
 cases l with
 |nil=>simp [decodeL] at h
 |cons o l=>
  simp only [decodeL] at h
  split at h
  ·rename_i m' r' h1 h2
   cases hb:Nat.blt m'.dst nt with
   |false=>simp [hb] at h
   |true=>
    simp only [hb,cond_true,Option.some.injEq,List.cons.injEq] at h
    obtain⟨rfl,rfl⟩:=h
    obtain⟨k1,k2⟩:=Rn h1
    exact⟨o,l,rfl,k1,k2,by simpa [Nat.blt_eq] using hb,h2⟩
  ·cases h
theorem Nf {nt:Nat} {l:List Oper} (h:decodeL nt l=some []):l= []:=by
 cases l with
 |nil=>rfl
 |cons o l=>
  simp only [decodeL] at h
  split at h
  ·rename_i m' r' h1 h2
   cases hb:Nat.blt m'.dst nt<;>simp [hb] at h
  ·cases h
inductive MV where
 |root|num (n:Int)|ptr (off:Nat)|hdr (off:Nat)|imm (v:AV)|sub (off n:Nat)
def Imm:AV→Value→Prop
 | .bool t,u=>u= .bool t
 | .str s,u=>u= .string s
 |_,_=>False
def Qx (P:Program) (txt:Int→ByteArray) (f:Nat):Prop:=
 (∀(vs:Array Value) (w:World),(callFunc f vs).run P w= .ok (.enter f vs) w)∧
 ∀(w:World) (k:Int),0≤k∧k≤4611686018427387904→Calls P f #[.int .i64 k] w fun e w'=>e= .returned (.string (txt k))∧Only [] w w'
def Kw (P:Program) (L f:Nat) (F:MF) (ok:List AV→Prop):Prop:=
 (∀(vs:Array Value) (w:World),(callFunc f vs).run P w= .ok (.enter f vs) w)∧
 ∀(w:World) (cs:List Value) (bs:List Nat) (c:List AV) (k:Int),ok c→mW w L c cs bs→bs.Nodup→(∀b∈bs,eX w b∧b < w.heap.size)→0≤k→(F c k).2≤4611686018427387904→
  Calls P f #[.agg cs.toArray,.int .i64 k] w fun e w'=>e= .returned (.int .i64 (F c k).2)∧Only bs w w'∧mW w' L (F c k).1 cs bs
def Xg (P:Program) (L f:Nat):(Int→ByteArray) ⊕ (MF×(List AV→Prop))→Prop
 | .inl F=>Qx P F f
 | .inr (F,ok)=>Kw P L f F ok
def Env.cut (e:Nat→Option MV):Nat→Option MV:=fun i=>match e i with
 |some (.hdr _)=>none
 |v=>v
theorem tY {w:World} {L b:Nat}:∀{c:List AV} {cs:List Value} {bs:List Nat} {o:Nat},mW w L c cs bs→(∀i u,cs[i]? =some u→w.cell? ⟨b,o+i,none⟩=some u)→cO w L b c o bs
 |[],_,_,_,⟨_,h⟩,_=>by simpa [cO] using h
 |x::c,_,_,o,⟨u,us,b1,b2,e1,e2,h1,h2⟩,hc=>by
  subst e1;subst e2
  simp only [cO]
  exact⟨b1,b2,rfl,⟨u,hc 0 u rfl,h1⟩,tY h2 fun i v hv=>by rw [Nat.add_assoc,Nat.add_comm 1 i];exact hc (i+1) v hv⟩
theorem tZ {w:World} {L b:Nat}:∀{c:List AV} {cs:List Value} {bs:List Nat} {o:Nat},cO w L b c o bs→c.length=cs.length→(∀i u,cs[i]? =some u→w.cell? ⟨b,o+i,none⟩=some u)→mW w L c cs bs
 |[],cs,_,_,h,hl,_=>⟨List.eq_nil_of_length_eq_zero hl.symm,by simpa [cO] using h⟩
 |x::c,[],_,_,_,hl,_=>by simp at hl
 |x::c,u::us,_,o,h,hl,hc=>by
  simp only [cO] at h
  obtain⟨b1,b2,rfl,⟨v,h1,h2⟩,h3⟩:=h
  have:=hc 0 u rfl
  rw [Nat.add_zero,h1] at this;cases this
  exact⟨u,us,b1,b2,rfl,rfl,h2,tZ h3 (by simpa using hl) fun i v hv=>by rw [Nat.add_assoc,Nat.add_comm 1 i];exact hc (i+1) v hv⟩
theorem mW.length {w:World} {L:Nat}:∀{c:List AV} {cs:List Value} {bs:List Nat},mW w L c cs bs→c.length=cs.length
 |[],_,_,⟨h,_⟩=>by simp [h]
 |x::c,_,_,⟨u,us,_,_,e1,_,_,h2⟩=>by subst e1;simp [mW.length h2]
theorem cO.vals {w:World} {L b:Nat}:∀{m:List AV} {o:Nat} {bs:List Nat},cO w L b m o bs→∃us:List Value,us.length=m.length∧∀i u,us[i]? =some u→w.cell? ⟨b,o+i,none⟩=some u
 |[],_,_,_=>⟨[],rfl,by simp⟩
 |x::m,o,_,h=>by
  simp only [cO] at h
  obtain⟨b1,b2,rfl,⟨v,h1,h2⟩,h3⟩:=h
  obtain⟨us,e1,e2⟩:=cO.vals h3
  refine⟨v::us,by simp [e1],fun i u hi=>?_⟩
  cases i with
  |zero=>simp at hi;subst hi;simpa using h1
  |succ i=>simp at hi;have:=e2 i u hi;rwa [Nat.add_assoc,Nat.add_comm 1 i] at this
theorem cO.append {w:World} {L b:Nat}:∀{a z:List AV} {o:Nat} {bs:List Nat},cO w L b (a++z) o bs↔∃b1 b2,bs=b1++b2∧cO w L b a o b1∧cO w L b z (o+a.length) b2
 |[],z,o,bs=>by
  simp only [List.nil_append,cO,List.length_nil,Nat.add_zero]
  exact⟨fun h=>⟨[],bs,rfl,rfl,h⟩,fun⟨b1,b2,e,e1,h⟩=>by subst e1;subst e;exact h⟩
 |x::a,z,o,bs=>by
  simp only [List.cons_append,cO,List.length_cons]
  constructor
  ·rintro⟨b1,b2,rfl,h1,h2⟩
   obtain⟨b3,b4,rfl,h3,h4⟩:=cO.append.1 h2
   exact⟨b1++b3,b4,by simp,⟨b1,b3,rfl,h1,h3⟩,by rwa [Nat.add_assoc,Nat.add_comm 1 _] at h4⟩
  ·rintro⟨_,b4,rfl,⟨b1,b3,rfl,h1,h3⟩,h4⟩
   exact⟨b1,b3++b4,by simp,h1,cO.append.2 ⟨b3,b4,rfl,h3,by rwa [Nat.add_assoc,Nat.add_comm 1 _]⟩⟩
theorem bG.mid {w:World} {L b sz:Nat}:∀{l:List AV} {o:Nat} {bs:List Nat} {j:Nat} {x:AV} {a m z:List AV},bG w L b sz l o bs→l[j]? =some x→x.cells=a++(m++z)→
  ∃b1 bm b3,bs=b1++bm++b3∧x.cells.length=sz∧cO w L b m (o+j*sz+a.length) bm∧
   ∀(w':World) (x':AV) (m':List AV),x'.cells=a++(m'++z)→m'.length=m.length→(∀i,w'.cell? ⟨b,i,none⟩=w.cell? ⟨b,i,none⟩)→(∀y∈b1++b3,∀i,w'.cell? ⟨y,i,none⟩=w.cell? ⟨y,i,none⟩)→
    cO w' L b m' (o+j*sz+a.length) bm→bG w' L b sz (l.set j x') o bs
 |[],_,_,_,_,_,_,_,_,h,_=>by simp at h
 |y::l,o,bs,0,x,a,m,z,h,hj,hk=>by
  simp at hj;subst hj
  simp only [bG] at h
  obtain⟨b1,b2,rfl,h1,h2⟩:=h
  obtain⟨h3,h4⟩:=jq.1 h1
  rw [hk] at h4
  obtain⟨c1,c2,rfl,g1,g2⟩:=cO.append.1 h4
  obtain⟨c3,c4,rfl,g3,g4⟩:=cO.append.1 g2
  refine⟨c1,c3,c4++b2,by simp,h3,by simpa using g3,fun w' x' m' hx' hl hw hy hm=>?_⟩
  simp only [List.set_cons_zero,bG]
  refine⟨c1++(c3++c4),b2,by simp,jq.2 ⟨by rw [hx', ← h3,hk];simp [hl],?_⟩,bG.mono b sz l _ b2 hw (fun k hk=>hy k (by simp [hk])) h2⟩
  rw [hx']
  exact cO.append.2 ⟨c1,c3++c4,rfl,cO.mono b a _ c1 hw (fun k hk=>hy k (by simp [hk])) g1,cO.append.2 ⟨c3,c4,rfl,by simpa using hm,by rw [hl];exact cO.mono b z _ c4 hw (fun k hk=>hy k (by simp [hk])) g4⟩⟩
 |y::l,o,bs,j+1,x,a,m,z,h,hj,hk=>by
  simp only [bG] at h
  obtain⟨b1,b2,rfl,h1,h2⟩:=h
  obtain⟨c1,bm,c3,rfl,g0,g1,g2⟩:=bG.mid h2 (by simpa using hj) hk
  have e:o+sz+j*sz=o+(j+1)*sz:=by rw [Nat.succ_mul];omega
  rw [e] at g1
  refine⟨b1++c1,bm,c3,by simp,g0,g1,fun w' x' m' hx' hl hw hy hm=>?_⟩
  simp only [List.set_cons_succ,bG]
  refine⟨b1,c1++bm++c3,by simp,kV.mono b sz y o b1 hw (fun k hk=>hy k (by simp [hk])) h1,g2 w' x' m' hx' hl hw (fun k hk=>hy k ?_) (by rw [e];exact hm)⟩
  simp only [List.mem_append] at hk ⊢
  rcases hk with hk|hk
  ·exact .inl (.inr hk)
  ·exact .inr hk
abbrev Env:=Nat→Option MV
def Env.put (e:Env) (d:Nat) (v:MV):Env:=fun i=>if i=d then some v else e i
section
variable (ro:Bool) (T:Nat→Ty) (M:Nat→Option (MF×(List AV→Prop))) (X:Nat→Option ((Int→ByteArray) ⊕ (MF×(List AV→Prop)))) (E:Nat) (j:Int)
inductive dG:List MOp→Env→List AV→Env→List AV→Prop
 |nil {e:Env} {c:List AV}:dG [] e c e c
 |mv {d x:Nat} {v:MV} {r:List MOp} {e e':Env} {c c':List AV} (hx:e x=some v) (k:dG r (e.put d v) c e' c'):dG (.mv d x::r) e c e' c'
 |ix {d t x i:Nat} {r:List MOp} {e e':Env} {c c':List AV} (ht:(T t).kind= .slice E) (hx:e x=some .root) (hi:e i=some (.num j)) (k:dG r (e.put d (.ptr 0)) c e' c'):dG (.ix d t x i::r) e c e' c'
 |fa {d t x f fo ft off:Nat} {r:List MOp} {e e':Env} {c c':List AV} (hf:gX T t f=some (fo,ft)) (hx:e x=some (.ptr off)) (k:dG r (e.put d (.ptr (off+fo))) c e' c'):dG (.fa d t x f::r) e c e' c'
 |ld {d t x off:Nat} {m:List AV} {r:List MOp} {e e':Env} {c c':List AV} (ht:(T t).good=true∧(T t).agg=false) (hx:e x=some (.ptr off)) (hc:c[off]? =some (.sl m)) (k:dG r (e.put d (.hdr off)) c e' c'):dG (.ld d t x::r) e c e' c'
 |st {t x y off:Nat} {n:Int} {c0:AV} {r:List MOp} {e e':Env} {c c':List AV} (ht:(T t).good=true∧(T t).size=1) (hx:e x=some (.ptr off)) (hy:e y=some (.num n)) (hc:c[off]? =some c0) (hf:c0.flat=true)
   (k:dG r e (c.set off (.int .i64 n)) e' c') (hro:ro=false:=by rfl):dG (.st t x y::r) e c e' c'
 |ca {d f x y off:Nat} {n:Int} {m:List AV} {F:MF} {ok:List AV→Prop} {r:List MOp} {e e':Env} {c c':List AV} (hM:M f=some (F,ok)) (hx:e x=some (.hdr off)) (hy:e y=some (.num n)) (hc:c[off]? =some (.sl m)) (hok:ok m)
   (hn:0≤n) (hb:(F m n).2≤4611686018427387904) (k:dG r (e.put d (.num (F m n).2)) (c.set off (.sl (F m n).1)) e' c'):dG (.ca d f x y::r) e c e' c'
 |inc {d x:Nat} {n:Int} {r:List MOp} {e e':Env} {c c':List AV} (hx:e x=some (.num n)) (hn:0≤n∧n < 4611686018427387904) (k:dG r (e.put d (.num (n+1))) c e' c'):dG (.inc d x::r) e c e' c'
 |tx {d f x:Nat} {n:Int} {F:Int→ByteArray} {r:List MOp} {e e':Env} {c c':List AV} (hX:X f=some (.inl F)) (hx:e x=some (.num n)) (hn:0≤n∧n≤4611686018427387904) (k:dG r (e.put d (.imm (.str (F n)))) c e' c'):dG (.tx d f x::r) e c e' c'
 |rem {d x:Nat} {n:Int} {r:List MOp} {e e':Env} {c c':List AV} (hx:e x=some (.num n)) (hn:0≤n∧n < 4611686018427387904) (k:dG r (e.put d (.num (n % 3))) c e' c'):dG (.rem d x::r) e c e' c'
 |eq0 {d x:Nat} {n:Int} {r:List MOp} {e e':Env} {c c':List AV} (hx:e x=some (.num n)) (k:dG r (e.put d (.imm (.bool (decide (n=0))))) c e' c'):dG (.eq0 d x::r) e c e' c'
 |sti {t x y off:Nat} {v:AV} {c0:AV} {r:List MOp} {e e':Env} {c c':List AV} (ht:(T t).good=true∧(T t).size=1) (hx:e x=some (.ptr off)) (hy:e y=some (.imm v)) (hc:c[off]? =some c0) (hf:c0.flat=true)
   (k:dG r e (c.set off v) e' c') (hro:ro=false:=by rfl):dG (.st t x y::r) e c e' c'
 |lds {d t x off n:Nat} {r:List MOp} {e e':Env} {c c':List AV} (ht:(T t).good=true∧(T t).agg=true∧(T t).size=n) (hx:e x=some (.ptr off)) (hn:off+n≤c.length) (k:dG r (e.put d (.sub off n)) c e' c') (hro:ro=true:=by rfl):dG (.ld d t x::r) e c e' c'
 |cab {d f x y off n:Nat} {q:Int} {a m z:List AV} {F:MF} {ok:List AV→Prop} {r:List MOp} {e e':Env} {c c':List AV} (hX:X f=some (.inr (F,ok))) (hx:e x=some (.sub off n)) (hy:e y=some (.num q)) (hc:c=a++(m++z)) (ha:a.length=off) (hm:m.length=n) (hok:ok m)
   (hn:0≤q) (hb:(F m q).2≤4611686018427387904) (h2:2≤c.length) (k:dG r (Env.put (Env.cut e) d (.num (F m q).2)) (a++((F m q).1++z)) e' c') (hro:ro=true:=by rfl):dG (.ca d f x y::r) e c e' c'
end
def fO (x:AV) (c:List AV):AV:=match x with| .agg _=>.agg c|_=>c.headD x
structure MInv (ro:Bool) (L:Nat) (w0:World) (b o sz:Nat) (bs:List Nat) (len cap:Nat) (l:List AV) (j:Nat) (x:AV) (nt:Nat) (e:Env) (c:List AV) (a:Act) (w:World):Prop where
 size:a.tmps.size=nt
 defers:a.defers= []
 only:Only (b::bs) w0 w
 box:ro=true→w.heap[b]? =w0.heap[b]?
 sep:bG w L b sz (l.set j (fO x c)) o bs
 cells:(fO x c).cells=c
 env:∀d v,e d=some v→d < nt∧(match v with
  | .root=>a.tmps.getD d undef= .slice (some ⟨b,o,none⟩) len cap
  | .num n=>a.tmps.getD d undef= .int .i64 n
  | .ptr off=>a.tmps.getD d undef= .pointer (some ⟨b,o+j*sz+off,none⟩)
  | .hdr off=>w.cell? ⟨b,o+j*sz+off,none⟩=some (a.tmps.getD d undef)∧∃m,c[off]? =some (.sl m)
  | .imm v=>Imm v (a.tmps.getD d undef)
  | .sub off n=>ro=true∧∃us:List Value,a.tmps.getD d undef= .agg us.toArray∧us.length=n∧∀i u,us[i]? =some u→w.cell? ⟨b,o+j*sz+off+i,none⟩=some u)
section
variable {ro:Bool} {P:Program} {T:Nat→Ty} {L:Nat} {M:Nat→Option (MF×(List AV→Prop))} {X:Nat→Option ((Int→ByteArray) ⊕ (MF×(List AV→Prop)))} {E:Nat} {w0:World} {b o sz:Nat} {bs:List Nat} {len cap:Nat} {l:List AV} {j:Nat} {x:AV} {nt:Nat}
theorem MInv.put {e:Env} {c:List AV} {a:Act} {w:World} {d:Nat} {v:MV} {u:Value} (h:MInv ro L w0 b o sz bs len cap l j x nt e c a w) (hd:d < nt)
  (hv:match v with
  | .root=>u= .slice (some ⟨b,o,none⟩) len cap
  | .num n=>u= .int .i64 n
  | .ptr off=>u= .pointer (some ⟨b,o+j*sz+off,none⟩)
  | .hdr off=>w.cell? ⟨b,o+j*sz+off,none⟩=some u∧∃m,c[off]? =some (.sl m)
  | .imm v=>Imm v u
  | .sub off n=>ro=true∧∃us:List Value,u= .agg us.toArray∧us.length=n∧∀i u,us[i]? =some u→w.cell? ⟨b,o+j*sz+off+i,none⟩=some u):MInv ro L w0 b o sz bs len cap l j x nt (e.put d v) c (a.put (some d) u) w:=by
 refine⟨by simpa [Act.put] using h.size,h.defers,h.only,h.box,h.sep,h.cells,fun i v' hi=>?_⟩
 simp only [Env.put] at hi
 have hg:∀i,(a.put (some d) u).tmps.getD i undef=if i=d then u else a.tmps.getD i undef:=fun i=>by
  simp only [Act.put,vw,h.size,hd,and_true]
 split at hi
 ·rename_i e1
  subst e1
  cases hi
  refine⟨hd,?_⟩
  cases v<;>simp only [hg,if_true]<;>exact hv
 ·rename_i e1
  obtain⟨k1,k2⟩:=h.env i v' hi
  refine⟨k1,?_⟩
  cases v'<;>simp only [hg,if_neg e1]<;>exact k2
theorem Imm.one {v:AV} {u:Value} (h:Imm v u):∃u9,u=u9∧u9.oneCell'=true∧u9.cells= #[u9]∧v.cells= [v]∧∀(w:World) (L:Nat),bL w L v u9 []:=by
 cases v<;>simp only [Imm] at h<;>subst h<;>exact⟨_,rfl,rfl,rfl,rfl,fun w L=>by simp [bL]⟩
theorem TF {t:Nat} {n:Int} (hn:0≤n∧n < 4611686018427387904) {w:World}:(Go.binOp .rem t (.int .i64 n) (.int .i64 3)).run P w= .ok (.int .i64 (n % 3)) w:=by
 have h:n.tmod 3=n % 3:=Int.tmod_eq_emod_of_nonneg hn.1
 simp [Go.binOp,Op.intDiv,h]
theorem TG {t:Nat} {n:Int} (hn:0≤n∧n < 4611686018427387904) {w:World}:(Go.binOp .add t (.int .i64 n) (.int .i64 1)).run P w= .ok (.int .i64 (n+1)) w:=by
 have:IntKind.wrap .i64 (n+1)=n+1:=IntWalk.i64_in _ ⟨by omega,by omega⟩
 simp [Go.binOp,Op.intArith,this]
theorem bS {o:Oper} {r:List Oper} {ops:Array Oper} {Q:Exit→Act→World→Prop} {a:Act} {w:World} (hg:o.guard=none) (h:o.wp P a w (wpList P ops Q r) Q):wpList P ops Q (o::r) a w:=by
 unfold wpList
 rw [if_pos (by simp [Region.wanted,hg])]
 exact .inl h
structure MCx (P:Program) (T:Nat→Ty) (L:Nat) (M:Nat→Option (MF×(List AV→Prop))) (X:Nat→Option ((Int→ByteArray) ⊕ (MF×(List AV→Prop)))) (E:Nat) (w0:World) (b sz:Nat) (bs:List Nat) (len:Nat) (l:List AV) (j:Nat) (x:AV):Prop where
 hT:aW P T
 hM:∀f F ok,M f=some (F,ok)→qY P L f F ok
 hX:∀f s,X f=some s→Xg P L f s
 nd:(b::bs).Nodup
 ok:∀k∈b::bs,eX w0 k∧k < w0.heap.size
 hE:(T E).good=true
 hsz:(T E).size=sz
 hx:l[j]? =some x
 hlen:len=l.length
theorem MInv.quiet (hc:MCx P T L M X E w0 b sz bs len l j x) {e:Env} {c:List AV} {a:Act} {w w':World} (h:MInv ro L w0 b o sz bs len cap l j x nt e c a w) (ho:Only [] w w'):MInv ro L w0 b o sz bs len cap l j x nt e c a w':=by
 have hb:∀k∈b::bs,k < w.heap.size:=fun k hk=>Nat.lt_of_lt_of_le (hc.ok k hk).2 h.only.size
 have hcell:∀k∈b::bs,∀i,w'.cell? ⟨k,i,none⟩=w.cell? ⟨k,i,none⟩:=fun k hk i=>ho.cell (hb k hk) (by simp) i
 refine⟨h.size,h.defers,h.only.trans (ho.sub (fun _ hk=>by simp at hk) hb),fun hr=>(ho.block b (hb b (by simp)) (by simp)).trans (h.box hr),bG.mono b sz _ o bs (hcell b (by simp)) (fun k hk=>hcell k (by simp [hk])) h.sep,h.cells,fun d v hd=>?_⟩
 obtain⟨k1,k2⟩:=h.env d v hd
 refine⟨k1,?_⟩
 cases v with
 |hdr off=>exact⟨by rw [hcell b (by simp)];exact k2.1,k2.2⟩
 |sub off n=>obtain⟨hr,us,q1,q2,q3⟩:=k2;exact⟨hr,us,q1,q2,fun i u hi=>by rw [hcell b (by simp)];exact q3 i u hi⟩
 |_=>exact k2
theorem Ro {x:AV} {c:List AV} {k:Nat} {v:AV} (hr:(fO x c).cells=c) (hx:x.cells.length=c.length) (hv:v.cells= [v]) (hk:k < c.length):(fO x (c.set k v)).cells=c.set k v:=by
 cases x with
 |agg l=>rfl
 |_=>
  simp only [AV.cells,List.length_cons,List.length_nil] at hx
  match c,hx with
  |[y],_=>
   obtain rfl:k=0:=by simp at hk;exact hk
   simp only [List.set_cons_zero,fO,List.headD_cons]
   exact hv
theorem MInv.turn (hc:MCx P T L M X E w0 b sz bs len l j x) {e:Env} {c:List AV} {a:Act} {w w':World} {k:Nat} {c0 v:AV} {u':Value} {b1 bc b3:List Nat} (h:MInv ro L w0 b o sz bs len cap l j x nt e c a w) (hk:c[k]? =some c0) (hv:v.cells= [v]) (hxc:x.cells.length=c.length)
  (e5:∀(w':World) (x':AV) (c':AV) (u':Value),x'.cells=(fO x c).cells.set k c'→(∀i,i≠o+j*sz+k→w'.cell? ⟨b,i,none⟩=w.cell? ⟨b,i,none⟩)→(∀y∈b1++b3,∀i,w'.cell? ⟨y,i,none⟩=w.cell? ⟨y,i,none⟩)→
    w'.cell? ⟨b,o+j*sz+k,none⟩=some u'→bL w' L c' u' bc→bG w' L b sz ((l.set j (fO x c)).set j x') o bs)
  (g1:Only (b::bs) w w') (g2:∀i,i≠o+j*sz+k→w'.cell? ⟨b,i,none⟩=w.cell? ⟨b,i,none⟩) (g3:∀y∈b1++b3,∀i,w'.cell? ⟨y,i,none⟩=w.cell? ⟨y,i,none⟩) (g4:w'.cell? ⟨b,o+j*sz+k,none⟩=some u') (g5:bL w' L v u' bc) (g6:ro=true→w'.heap[b]? =w.heap[b]?)
  (ZI:∀d off,e d=some (.hdr off)→w'.cell? ⟨b,o+j*sz+off,none⟩=some (a.tmps.getD d undef)∧∃m,(c.set k v)[off]? =some (.sl m)):
  MInv ro L w0 b o sz bs len cap l j x nt e (c.set k v) a w':=by
 have hkl:k < c.length:=(List.getElem?_eq_some_iff.1 hk).1
 have hcells:=Ro (v:=v) h.cells hxc hv hkl
 have hs:=e5 w' (fO x (c.set k v)) v u' (by rw [hcells,h.cells]) g2 g3 g4 g5
 rw [List.set_set] at hs
 refine⟨h.size,h.defers,h.only.trans g1,fun hr=>(g6 hr).trans (h.box hr),hs,hcells,fun d v' hd=>?_⟩
 obtain⟨k1,k2⟩:=h.env d v' hd
 refine⟨k1,?_⟩
 cases v' with
 |hdr off=>exact ZI d off hd
 |sub off n=>obtain⟨hr,us,q1,q2,q3⟩:=k2;exact⟨hr,us,q1,q2,fun i u hi=>by rw [World.cell?_of_block (g6 hr)];exact q3 i u hi⟩
 |_=>exact k2
theorem uf (hc:MCx P T L M X E w0 b sz bs len l j x) {ops:Array Oper} {Q:Exit→Act→World→Prop}:∀{ms:List MOp} {e e':Env} {c c':List AV},dG ro T M X E j ms e c e' c'→∀{lo:List Oper} {a:Act} {w:World},decodeL nt lo=some ms→c.length=x.cells.length→
  MInv ro L w0 b o sz bs len cap l j x nt e c a w→(∀a' w',MInv ro L w0 b o sz bs len cap l j x nt e' c' a' w'→c'.length=x.cells.length→Q .normal a' w')→wpList P ops Q lo a w:=by
 intro ms e e' c c' hr
 have hjl:j < l.length:=(List.getElem?_eq_some_iff.1 hc.hx).1
 induction hr with
 |nil=>
  intro lo a w hd hcl h hQ
  rw [Nf hd]
  exact wpList_nil (hQ a w h hcl)
 |@mv d y v r e e' c c' hx k ih=>
  intro lo a w hd hcl h hQ
  obtain⟨op,lo',rfl,hg,⟨hdst,hop⟩,hlt,hd'⟩:=bZ hd
  refine bS hg (aM (v:=a.tmps.getD y undef) (w':=w) (by rcases hop with hop|hop<;>simp [execOp,hop,Act.eval]) ?_)
  rw [hdst]
  exact ih hd' hcl (h.put hlt (by have:=(h.env y v hx).2;cases v<;>exact this)) hQ
 |@ix d t y i r e e' c c' ht hx hi k ih=>
  intro lo a w hd hcl h hQ
  obtain⟨op,lo',rfl,hg,⟨hdst,hop⟩,hlt,hd'⟩:=bZ hd
  have h1:=(h.env y _ hx).2
  have h2:=(h.env i _ hi).2
  simp only at h1 h2
  refine bS hg (aM (v:=.pointer (some ⟨b,o+j*sz,none⟩)) (w':=w) ?_ ?_)
  ·have:=run_indexAt (P:=P) (w:=w) hc.hT ht hc.hE (k:=.i64) (n:=(j:Int)) (j:=j) (b:=b) (off:=o) (len:=len) (cap:=cap) rfl (by rw [hc.hlen];exact hjl)
   rw [hc.hsz] at this
   simp only [execOp,hop,Act.eval,h1,h2]
   simp [this]
  ·rw [hdst]
   exact ih hd' hcl (h.put hlt rfl) hQ
 |@fa d t y f fo ft off r e e' c c' hf hx k ih=>
  intro lo a w hd hcl h hQ
  obtain⟨op,lo',rfl,hg,⟨hdst,hop⟩,hlt,hd'⟩:=bZ hd
  have h1:=(h.env y _ hx).2
  simp only at h1
  refine bS hg (aM (v:=.pointer (some ⟨b,o+j*sz+off+fo,none⟩)) (w':=w) ?_ ?_)
  ·simp only [execOp,hop,Act.eval,h1]
   simp [(nT (P:=P) hc.hT (w:=w) hf (b:=b) (off:=o+j*sz+off)).1]
  ·rw [hdst]
   exact ih hd' hcl (h.put hlt (by simp only [Nat.add_assoc])) hQ
 |@ld d t y off m r e e' c c' ht hx hcm k ih=>
  intro lo a w hd hcl h hQ
  obtain⟨op,lo',rfl,hg,⟨hdst,hop⟩,hlt,hd'⟩:=bZ hd
  have h1:=(h.env y _ hx).2
  simp only at h1
  have hset:(l.set j (fO x c))[j]? =some (fO x c):=by simp [hjl]
  obtain⟨b1,bc,b3,u,_,_,e3,_,_⟩:=h.sep.set hset (by rw [h.cells];exact hcm)
  refine bS hg (aM (v:=u) (w':=w) ?_ ?_)
  ·have hone:=(hc.hT t ht.1).one ht.2
   have:=run_load (P:=P) hc.hT ht.1 (w:=w) (b:=b) (off:=o+j*sz+off) (vs:=[u]) (by simp [hone]) (fun i v hi=>by
    cases i with
    |zero=>simp at hi;subst hi;simpa using e3
    |succ i=>simp at hi)
   simp only [ht.2] at this
   simp only [execOp,hop,Act.eval,h1]
   simp [this]
  ·rw [hdst]
   exact ih hd' hcl (h.put hlt ⟨e3,m,hcm⟩) hQ
 |@st t y z off n c0 r e e' c c' ht hx hy hc0 hfl k hro ih=>
  intro lo a w hd hcl h hQ
  obtain⟨op,lo',rfl,hg,⟨hdst,hop⟩,hlt,hd'⟩:=bZ hd
  have h1:=(h.env y _ hx).2
  have h2:=(h.env z _ hy).2
  simp only at h1 h2
  have hset:(l.set j (fO x c))[j]? =some (fO x c):=by simp [hjl]
  obtain⟨b1,bc,b3,u,e1,_,e3,e4,e5⟩:=h.sep.set hset (by rw [h.cells];exact hc0)
  have hbl:=hc.ok b (by simp)
  have hbw:b < w.heap.size:=Nat.lt_of_lt_of_le hbl.2 h.only.size
  have hth:eX w b:=h.only.thaw b (by simp) hbl.1
  have hblk:∀i,i≠b→(w.setCell ⟨b,o+j*sz+off,none⟩ (.int .i64 n)).heap[i]? =w.heap[i]? :=fun i hi=>Below.heap_setCell _ _ _ _ hi
  have hbc:bc= []:=by cases c0<;>simp_all [bL,AV.flat]
  subst hbc
  have hinv:MInv ro L w0 b o sz bs len cap l j x nt e (c.set off (.int .i64 n)) a (w.setCell ⟨b,o+j*sz+off,none⟩ (.int .i64 n)):=by
   refine MInv.turn (u':=.int .i64 n) hc h hc0 rfl hcl.symm e5 ⟨rfl,rfl,rfl,by simp [World.setCell],fun i hi hm=>hblk i (fun e=>hm (by simp [e])),fun i hi ht i'=>by rw [World.frozen?_setCell];exact ht i'⟩
    (fun i hi=>World.cell?_setCell_other _ _ _ _ (fun e=>hi (by cases e;rfl))) (fun y hy i=>World.cell?_of_block (hblk y fun e=>?_)) (World.cell?_setCell_same _ _ _ e3) (by simp [bL]) (fun hr=>by rw [hro] at hr;cases hr) (fun d off' hd=>?_)
   ·have hnd:=(List.nodup_cons.1 hc.nd).1
    subst e
    exact hnd (by rw [e1];simpa using hy)
   ·obtain⟨h3,m,h4⟩:=(h.env d _ hd).2
    by_cases he:off'=off
    ·subst he
     rw [hc0] at h4;cases h4
     simp [AV.flat] at hfl
    ·rw [World.cell?_setCell_other _ _ _ _ (fun e=>he (by simp only [Addr.mk.injEq] at e;omega))]
     exact⟨h3,m,by rw [List.getElem?_set_ne (Ne.symm he)];exact h4⟩
  refine bS hg (Ev (w':=w.setCell ⟨b,o+j*sz+off,none⟩ (.int .i64 n)) ?_ ?_)
  ·have hsz':=gH (P:=P) hc.hT ht.1 w
   rw [ht.2] at hsz'
   have hrun:=run_storeCells_cells (P:=P) b (o+j*sz+off) [Value.int .i64 n] 0 w (fun i hi=>by simp at hi;subst hi;simp [e3]) (fun i hi=>by simp at hi;subst hi;exact hth _) (fun v hv=>by simp at hv;subst hv;rfl)
   simp only [World.setCells,Nat.add_zero] at hrun
   simp only [execOp,hop,Act.eval,h1,h2]
   simp [Instr.storeAt,Instr.sureAddr,storeVar,hsz',Value.cells,hrun]
  ·rw [hdst]
   exact ih hd' (by simpa using hcl) hinv hQ
 |@sti t y z off v c0 r e e' c c' ht hx hy hc0 hfl k hro ih=>
  intro lo a w hd hcl h hQ
  obtain⟨op,lo',rfl,hg,⟨hdst,hop⟩,hlt,hd'⟩:=bZ hd
  have h1:=(h.env y _ hx).2
  have h2:=(h.env z _ hy).2
  simp only at h1 h2
  obtain⟨u9,hu,hv1,hv2,hv3,hv4⟩:=h2.one
  have hset:(l.set j (fO x c))[j]? =some (fO x c):=by simp [hjl]
  obtain⟨b1,bc,b3,u,e1,_,e3,e4,e5⟩:=h.sep.set hset (by rw [h.cells];exact hc0)
  have hbl:=hc.ok b (by simp)
  have hbw:b < w.heap.size:=Nat.lt_of_lt_of_le hbl.2 h.only.size
  have hth:eX w b:=h.only.thaw b (by simp) hbl.1
  have hblk:∀i,i≠b→(w.setCell ⟨b,o+j*sz+off,none⟩ u9).heap[i]? =w.heap[i]? :=fun i hi=>Below.heap_setCell _ _ _ _ hi
  have hbc:bc= []:=by cases c0<;>simp_all [bL,AV.flat]
  subst hbc
  have hinv:MInv ro L w0 b o sz bs len cap l j x nt e (c.set off v) a (w.setCell ⟨b,o+j*sz+off,none⟩ u9):=by
   refine MInv.turn (u':=u9) hc h hc0 hv3 hcl.symm e5 ⟨rfl,rfl,rfl,by simp [World.setCell],fun i hi hm=>hblk i (fun e=>hm (by simp [e])),fun i hi ht i'=>by rw [World.frozen?_setCell];exact ht i'⟩
    (fun i hi=>World.cell?_setCell_other _ _ _ _ (fun e=>hi (by cases e;rfl))) (fun y hy i=>World.cell?_of_block (hblk y fun e=>?_)) (World.cell?_setCell_same _ _ _ e3) (hv4 _ L) (fun hr=>by rw [hro] at hr;cases hr) (fun d off' hd=>?_)
   ·have hnd:=(List.nodup_cons.1 hc.nd).1
    subst e
    exact hnd (by rw [e1];simpa using hy)
   ·obtain⟨h3,m,h4⟩:=(h.env d _ hd).2
    by_cases he:off'=off
    ·subst he
     rw [hc0] at h4;cases h4
     simp [AV.flat] at hfl
    ·rw [World.cell?_setCell_other _ _ _ _ (fun e=>he (by simp only [Addr.mk.injEq] at e;omega))]
     exact⟨h3,m,by rw [List.getElem?_set_ne (Ne.symm he)];exact h4⟩
  refine bS hg (Ev (w':=w.setCell ⟨b,o+j*sz+off,none⟩ u9) ?_ ?_)
  ·have hsz':=gH (P:=P) hc.hT ht.1 w
   rw [ht.2] at hsz'
   have hrun:=run_storeCells_cells (P:=P) b (o+j*sz+off) [u9] 0 w (fun i hi=>by simp at hi;subst hi;simp [e3]) (fun i hi=>by simp at hi;subst hi;exact hth _) (fun v hv=>by simp at hv;subst hv;exact hv1)
   simp only [World.setCells,Nat.add_zero] at hrun
   simp only [execOp,hop,Act.eval,h1,hu]
   simp [Instr.storeAt,Instr.sureAddr,storeVar,hsz',hv2,hrun]
  ·rw [hdst]
   exact ih hd' (by simpa using hcl) hinv hQ
 |@ca d f y z off n m F ok r e e' c c' hM hx hy hcm hok hn hb k ih=>
  intro lo a w hd hcl h hQ
  obtain⟨op,lo',rfl,hg,⟨hdst,call,hop,TH,TI⟩,hlt,hd'⟩:=bZ hd
  have h1:=(h.env y _ hx).2
  have h2:=(h.env z _ hy).2
  simp only at h1 h2
  obtain⟨hcf,hmon,aah,TJ⟩:=hc.hM f F ok hM
  have hset:(l.set j (fO x c))[j]? =some (fO x c):=by simp [hjl]
  obtain⟨b1,bc,b3,u,e1,_,e3,e4,e5⟩:=h.sep.set hset (by rw [h.cells];exact hcm)
  rw [h1.1] at e3
  obtain rfl:=Option.some.inj e3
  have OU:∀k∈bs,eX w k∧k < w.heap.size:=fun k hk=>by
   obtain⟨q1,q2⟩:=hc.ok k (by simp [hk])
   exact⟨h.only.thaw k (by simp [hk]) q1,Nat.lt_of_lt_of_le q2 h.only.size⟩
  have OV:∀k∈bc,k∈bs:=fun k hk=>by rw [e1];simp [hk]
  have OW:=List.nodup_cons.1 hc.nd
  have Xh:bc.Nodup:=by
   have:=OW.2
   rw [e1] at this
   exact (List.nodup_append.1 (List.nodup_append.1 this).1).2.1
  have Fu:=TJ w _ bc m n hok e4 Xh (fun k hk=>OU k (OV k hk)) hn hb
  refine bS hg ?_
  unfold Oper.wp
  have hrun:(execOp a.eval op).run P w= .ok (.enter f #[a.tmps.getD y undef,.int .i64 n]) w:=by
   have:(execOp a.eval op).run P w=(callFunc f #[a.tmps.getD y undef,.int .i64 n]).run P w:=by
    have hm:call.args.map a.eval= #[a.tmps.getD y undef,.int .i64 n]:=by
     rw [TI,show (#[Operand.tmp y,.tmp z]).map a.eval= #[a.tmps.getD y undef,a.tmps.getD z undef] from by simp [Act.eval],h2]
    rw [← hm]
    simp only [execOp,hop]
    simp [resolve,TH,Deferred.ofValue,Act.eval,invoke]
   rw [this,hcf]
  rw [hrun]
  simp only [Oper.upon]
  refine Fu.mono ?_
  rintro e0 w' ⟨rfl,hon,hsep⟩
  simp only
  rw [hdst]
  have hbw:b < w.heap.size:=Nat.lt_of_lt_of_le (hc.ok b (by simp)).2 h.only.size
  have hbn:b∉bc:=fun hm=>OW.1 (OV b hm)
  have hkeep:∀i,w'.cell? ⟨b,i,none⟩=w.cell? ⟨b,i,none⟩:=fun i=>hon.cell hbw hbn i
  have hinv:MInv ro L w0 b o sz bs len cap l j x nt e (c.set off (.sl (F m n).1)) a w':=by
   refine MInv.turn (u':=a.tmps.getD y undef) hc h hcm rfl hcl.symm e5 (hon.sub (fun k hk=>by simp [OV k hk]) fun k hk=>?_) (fun i _=>hkeep i) (fun y hy i=>hon.cell ?_ ?_ i) (by rw [hkeep];exact h1.1) hsep (fun _=>hon.block b hbw hbn) (fun d' off' hd=>?_)
   ·rcases List.mem_cons.1 hk with rfl|hk
    ·exact hbw
    ·exact (OU k hk).2
   ·exact (OU y (by rw [e1];simp only [List.mem_append] at hy ⊢;rcases hy with hy|hy;exact .inl (.inl hy);exact .inr hy)).2
   ·have:=OW.2
    rw [e1] at this
    obtain⟨q1,q2,q3⟩:=List.nodup_append.1 this
    obtain⟨q4,q5,q6⟩:=List.nodup_append.1 q1
    intro hm
    rcases List.mem_append.1 hy with hy|hy
    ·exact q6 y hy y hm rfl
    ·exact q3 y (by simp [hm]) y hy rfl
   ·obtain⟨h3,m',h4⟩:=(h.env d' _ hd).2
    rw [hkeep]
    refine⟨h3,?_⟩
    by_cases he:off'=off
    ·subst he
     exact⟨_,by rw [List.getElem?_set_self (List.getElem?_eq_some_iff.1 hcm).1]⟩
    ·exact⟨m',by rw [List.getElem?_set_ne (Ne.symm he)];exact h4⟩
  exact ih hd' (by simpa using hcl) (hinv.put hlt rfl) hQ
 |@inc d y n r e e' c c' hx hn k ih=>
  intro lo a w hd hcl h hQ
  obtain⟨op,lo',rfl,hg,⟨hdst,t,t',hop⟩,hlt,hd'⟩:=bZ hd
  have h1:=(h.env y _ hx).2
  simp only at h1
  refine bS hg (aM (v:=.int .i64 (n+1)) (w':=w) ?_ ?_)
  ·simp only [execOp,hop,Act.eval,h1]
   simp [eqGuard,TG (P:=P) hn]
  ·rw [hdst]
   exact ih hd' hcl (h.put hlt rfl) hQ
 |@tx d f y n F r e e' c c' hX hx hn k ih=>
  intro lo a w hd hcl h hQ
  obtain⟨op,lo',rfl,hg,⟨hdst,call,hop,TH,TI⟩,hlt,hd'⟩:=bZ hd
  have h1:=(h.env y _ hx).2
  simp only at h1
  obtain⟨hcf,TJ⟩:=hc.hX f (.inl F) hX
  refine bS hg ?_
  unfold Oper.wp
  have hrun:(execOp a.eval op).run P w= .ok (.enter f #[.int .i64 n]) w:=by
   have:(execOp a.eval op).run P w=(callFunc f #[.int .i64 n]).run P w:=by
    have hm:call.args.map a.eval= #[.int .i64 n]:=by
     rw [TI,show (#[Operand.tmp y]).map a.eval= #[a.tmps.getD y undef] from by simp [Act.eval],h1]
    rw [← hm]
    simp only [execOp,hop]
    simp [resolve,TH,Deferred.ofValue,Act.eval,invoke]
   rw [this,hcf]
  rw [hrun]
  simp only [Oper.upon]
  refine (TJ w n hn).mono ?_
  rintro e0 w' ⟨rfl,hon⟩
  simp only
  rw [hdst]
  exact ih hd' hcl ((h.quiet hc hon).put hlt rfl) hQ
 |@lds d t y off n r e e' c c' ht hx hn k hro ih=>
  intro lo a w hd hcl h hQ
  obtain⟨op,lo',rfl,hg,⟨hdst,hop⟩,hlt,hd'⟩:=bZ hd
  have h1:=(h.env y _ hx).2
  simp only at h1
  have hset:(l.set j (fO x c))[j]? =some (fO x c):=by simp [hjl]
  obtain⟨b1,bm,b3,_,_,e3,_⟩:=h.sep.mid (a:=c.take off) (m:=(c.drop off).take n) (z:=(c.drop off).drop n) hset (by rw [h.cells,List.take_append_drop,List.take_append_drop])
  obtain⟨us,e4,e5⟩:=e3.vals
  have hl1:(c.take off).length=off:=by rw [List.length_take];omega
  have hl2:us.length=n:=by rw [e4,List.length_take,List.length_drop];omega
  rw [hl1] at e5
  refine bS hg (aM (v:=.agg us.toArray) (w':=w) ?_ ?_)
  ·have:=run_load (P:=P) hc.hT ht.1 (w:=w) (b:=b) (off:=o+j*sz+off) (vs:=us) (by rw [hl2,ht.2.2]) e5
   simp only [ht.2.1] at this
   simp only [execOp,hop,Act.eval,h1]
   simp [this]
  ·rw [hdst]
   exact ih hd' hcl (h.put hlt ⟨hro,us,rfl,hl2,e5⟩) hQ
 |@cab d f y z off n q ca m cz F ok r e e' c c' hX hx hy hcm ha hm hok hn hb h2c k hro ih=>
  intro lo a w hd hcl h hQ
  obtain⟨op,lo',rfl,hg,⟨hdst,call,hop,TH,TI⟩,hlt,hd'⟩:=bZ hd
  have h1:=(h.env y _ hx).2
  have h2:=(h.env z _ hy).2
  simp only at h1 h2
  obtain⟨_,us,h1,hu1,hu2⟩:=h1
  obtain⟨hcf,TJ⟩:=hc.hX f (.inr (F,ok)) hX
  have hset:(l.set j (fO x c))[j]? =some (fO x c):=by simp [hjl]
  obtain⟨b1,bm,b3,e1,_,e3,e4⟩:=h.sep.mid (a:=ca) (m:=m) (z:=cz) hset (by rw [h.cells,hcm])
  rw [ha] at e3 e4
  have hL:=tZ e3 (by rw [hm,hu1]) hu2
  have OU:∀k∈bs,eX w k∧k < w.heap.size:=fun k hk=>by
   obtain⟨q1,q2⟩:=hc.ok k (by simp [hk])
   exact⟨h.only.thaw k (by simp [hk]) q1,Nat.lt_of_lt_of_le q2 h.only.size⟩
  have OV:∀k∈bm,k∈bs:=fun k hk=>by rw [e1];simp [hk]
  have OW:=List.nodup_cons.1 hc.nd
  have Xh:bm.Nodup:=by
   have:=OW.2
   rw [e1] at this
   exact (List.nodup_append.1 (List.nodup_append.1 this).1).2.1
  have Fu:=TJ w us bm m q hok hL Xh (fun k hk=>OU k (OV k hk)) hn hb
  refine bS hg ?_
  unfold Oper.wp
  have hrun:(execOp a.eval op).run P w= .ok (.enter f #[.agg us.toArray,.int .i64 q]) w:=by
   have:(execOp a.eval op).run P w=(callFunc f #[.agg us.toArray,.int .i64 q]).run P w:=by
    have hm:call.args.map a.eval= #[.agg us.toArray,.int .i64 q]:=by
     rw [TI,show (#[Operand.tmp y,.tmp z]).map a.eval= #[a.tmps.getD y undef,a.tmps.getD z undef] from by simp [Act.eval],h1,h2]
    rw [← hm]
    simp only [execOp,hop]
    simp [resolve,TH,Deferred.ofValue,Act.eval,invoke]
   rw [this,hcf]
  rw [hrun]
  simp only [Oper.upon]
  refine Fu.mono ?_
  rintro e0 w' ⟨rfl,hon,hsep⟩
  simp only
  rw [hdst]
  have hbw:b < w.heap.size:=Nat.lt_of_lt_of_le (hc.ok b (by simp)).2 h.only.size
  have hbn:b∉bm:=fun hm=>OW.1 (OV b hm)
  have hkeep:∀i,w'.cell? ⟨b,i,none⟩=w.cell? ⟨b,i,none⟩:=fun i=>hon.cell hbw hbn i
  have hlF:(F m q).1.length=m.length:=by rw [hsep.length,hm,hu1]
  have hagg:∃xs,x= .agg xs:=by
   cases x with
   |agg xs=>exact⟨xs,rfl⟩
   |_=>simp [AV.cells] at hcl;omega
  obtain⟨xs,rfl⟩:=hagg
  have hinv:MInv ro L w0 b o sz bs len cap l j (.agg xs) nt (Env.cut e) (ca++((F m q).1++cz)) a w':=by
   refine⟨h.size,h.defers,h.only.trans (hon.sub (fun k hk=>by simp [OV k hk]) fun k hk=>?_),fun hr=>(hon.block b hbw hbn).trans (h.box hr),?_,rfl,fun i v hi=>?_⟩
   ·rcases List.mem_cons.1 hk with rfl|hk
    ·exact hbw
    ·exact (OU k hk).2
   ·have hs:=e4 w' (fO (.agg xs) (ca++((F m q).1++cz))) (F m q).1 rfl hlF hkeep (fun y hy i=>hon.cell ?_ ?_ i) (tY hsep fun i u hi=>by rw [hkeep];exact hu2 i u hi)
    ·rwa [List.set_set] at hs
    ·exact (OU y (by rw [e1];simp only [List.mem_append] at hy ⊢;rcases hy with hy|hy;exact .inl (.inl hy);exact .inr hy)).2
    ·have:=OW.2
     rw [e1] at this
     obtain⟨q1,q2,q3⟩:=List.nodup_append.1 this
     obtain⟨q4,q5,q6⟩:=List.nodup_append.1 q1
     intro hm
     rcases List.mem_append.1 hy with hy|hy
     ·exact q6 y hy y hm rfl
     ·exact q3 y (by simp [hm]) y hy rfl
   ·simp only [Env.cut] at hi
    split at hi
    ·cases hi
    ·rename_i hno
     obtain⟨k1,k2⟩:=h.env i v hi
     refine⟨k1,?_⟩
     cases v with
     |hdr off=>exact absurd hi (hno off)
     |sub off n=>obtain⟨hr,us,q1,q2,q3⟩:=k2;exact⟨hr,us,q1,q2,fun i u hi=>by rw [hkeep];exact q3 i u hi⟩
     |_=>exact k2
  exact ih hd' (by rw [List.length_append,List.length_append,hlF, ← hcl,hcm,List.length_append,List.length_append]) (hinv.put hlt rfl) hQ
 |@rem d y n r e e' c c' hx hn k ih=>
  intro lo a w hd hcl h hQ
  obtain⟨op,lo',rfl,hg,⟨hdst,t,t',hop⟩,hlt,hd'⟩:=bZ hd
  have h1:=(h.env y _ hx).2
  simp only at h1
  refine bS hg (aM (v:=.int .i64 (n % 3)) (w':=w) ?_ ?_)
  ·simp only [execOp,hop,Act.eval,h1]
   simp [eqGuard,TF (P:=P) hn]
  ·rw [hdst]
   exact ih hd' hcl (h.put hlt rfl) hQ
 |@eq0 d y n r e e' c c' hx k ih=>
  intro lo a w hd hcl h hQ
  obtain⟨op,lo',rfl,hg,⟨hdst,t,t',hop⟩,hlt,hd'⟩:=bZ hd
  have h1:=(h.env y _ hx).2
  simp only at h1
  refine bS hg (aM (v:=.bool (decide (n=0))) (w':=w) ?_ ?_)
  ·simp only [execOp,hop,Act.eval,h1]
   simp [eqGuard,Go.binOp,Op.intCmp]
   exact Bool.eq_iff_iff.2 (by simp)
  ·rw [hdst]
   exact ih hd' hcl (h.put hlt rfl) hQ
def Ng:Code→Option (List Oper)
 | .region _ ops false=>some ops.toList
 | .seq (.region _ ops false) r=>(match Ng r with|some l=>some (ops.toList++l)|none=>none)
 |_=>none
theorem qz {nt:Nat}:∀{l m:List Oper} {ms:List MOp},decodeL nt (l++m)=some ms→∃m1 m2,ms=m1++m2∧decodeL nt l=some m1∧decodeL nt m=some m2
 |[],m,ms,h=>⟨[],ms,rfl,rfl,h⟩
 |o::l,m,ms,h=>by
  simp only [List.cons_append,decodeL] at h
  split at h
  ·rename_i m' r' h1 h2
   cases hb:Nat.blt m'.dst nt with
   |false=>simp [hb] at h
   |true=>
    simp only [hb,cond_true,Option.some.injEq] at h
    obtain⟨m1,m2,rfl,k1,k2⟩:=qz h2
    exact⟨m'::m1,m2,h.symm,by simp [decodeL,h1,k1,hb],k2⟩
  ·cases h
theorem dG.append {jj:Int}:∀{m1 m2:List MOp} {e e':Env} {c c':List AV},dG ro T M X E jj (m1++m2) e c e' c'→∃e1 c1,dG ro T M X E jj m1 e c e1 c1∧dG ro T M X E jj m2 e1 c1 e' c'
 |[],_,_,_,_,_,h=>⟨_,_,.nil,h⟩
 |m::m1,m2,_,_,_,_,h=>by
  cases h with
  |mv h1 k=>obtain⟨e1,c1,k1,k2⟩:=dG.append k;exact⟨e1,c1,.mv h1 k1,k2⟩
  |ix h1 h2 h3 k=>obtain⟨e1,c1,k1,k2⟩:=dG.append k;exact⟨e1,c1,.ix h1 h2 h3 k1,k2⟩
  |fa h1 h2 k=>obtain⟨e1,c1,k1,k2⟩:=dG.append k;exact⟨e1,c1,.fa h1 h2 k1,k2⟩
  |ld h1 h2 h3 k=>obtain⟨e1,c1,k1,k2⟩:=dG.append k;exact⟨e1,c1,.ld h1 h2 h3 k1,k2⟩
  |st h1 h2 h3 h4 h5 k hro=>obtain⟨e1,c1,k1,k2⟩:=dG.append k;exact⟨e1,c1,.st h1 h2 h3 h4 h5 k1 hro,k2⟩
  |ca h1 h2 h3 h4 h5 h6 h7 k=>obtain⟨e1,c1,k1,k2⟩:=dG.append k;exact⟨e1,c1,.ca h1 h2 h3 h4 h5 h6 h7 k1,k2⟩
  |tx h1 h2 h3 k=>obtain⟨e1,c1,k1,k2⟩:=dG.append k;exact⟨e1,c1,.tx h1 h2 h3 k1,k2⟩
  |rem h1 h2 k=>obtain⟨e1,c1,k1,k2⟩:=dG.append k;exact⟨e1,c1,.rem h1 h2 k1,k2⟩
  |eq0 h1 k=>obtain⟨e1,c1,k1,k2⟩:=dG.append k;exact⟨e1,c1,.eq0 h1 k1,k2⟩
  |lds h1 h2 h3 k hro=>obtain⟨e1,c1,k1,k2⟩:=dG.append k;exact⟨e1,c1,.lds h1 h2 h3 k1 hro,k2⟩
  |cab h1 h2 h3 h4 h5 h6 h7 h8 h9 h10 k hro=>obtain⟨e1,c1,k1,k2⟩:=dG.append k;exact⟨e1,c1,.cab h1 h2 h3 h4 h5 h6 h7 h8 h9 h10 k1 hro,k2⟩
  |sti h1 h2 h3 h4 h5 k hro=>obtain⟨e1,c1,k1,k2⟩:=dG.append k;exact⟨e1,c1,.sti h1 h2 h3 h4 h5 k1 hro,k2⟩
  |inc h1 h2 k=>obtain⟨e1,c1,k1,k2⟩:=dG.append k;exact⟨e1,c1,.inc h1 h2 k1,k2⟩
theorem Fv (hc:MCx P T L M X E w0 b sz bs len l j x) {Q:Exit→Act→World→Prop}:∀{code:Code} {lo:List Oper} {ms:List MOp} {e e':Env} {c c':List AV},Ng code=some lo→decodeL nt lo=some ms→dG ro T M X E j ms e c e' c'→∀{a:Act} {w:World},c.length=x.cells.length→
  MInv ro L w0 b o sz bs len cap l j x nt e c a w→(∀a' w',MInv ro L w0 b o sz bs len cap l j x nt e' c' a' w'→c'.length=x.cells.length→Q .normal a' w')→code.wp P Q a w
 | .region id ops false,lo,ms,e,e',c,c',hf,hd,hr,a,w,hcl,h,hQ=>by
  simp only [Ng,Option.some.injEq] at hf
  subst hf
  exact wp_region_list (uf hc hr hd hcl h hQ)
 | .seq (.region id ops false) r,lo,ms,e,e',c,c',hf,hd,hr,a,w,hcl,h,hQ=>by
  simp only [Ng] at hf
  split at hf
  ·rename_i l2 hl2
   cases hf
   obtain⟨m1,m2,rfl,k1,k2⟩:=qz hd
   obtain⟨e1,c1,q1,q2⟩:=hr.append
   refine wp_seq (wp_region_list (uf hc q1 k1 hcl h fun a' w' h' hcl'=>?_))
   exact Fv hc hl2 k2 q2 hcl' h' hQ
  ·cases hf
def aI (g:MF):MF
 |[],k=>([],k)
 |x::xs,k=>(fO x (g x.cells k).1::(aI g xs (g x.cells k).2).1,(aI g xs (g x.cells k).2).2)
theorem iU (g:MF):∀(l:List AV) (k:Int),(aI g l k).1.length=l.length
 |[],_=>rfl
 |x::xs,k=>by simp [aI,iU g xs]
theorem iw {g:MF} (hg:∀c k,k≤(g c k).2):∀(l:List AV) (k:Int),k≤(aI g l k).2
 |[],_=>Int.le_refl _
 |x::xs,k=>Int.le_trans (hg _ _) (iw hg xs _)
theorem jL {g:MF}:∀(l m:List AV) (k:Int),aI g (l++m) k=((aI g l k).1++(aI g m (aI g l k).2).1,(aI g m (aI g l k).2).2)
 |[],m,k=>by simp [aI]
 |x::xs,m,k=>by simp [aI,jL xs m]
structure Nh (T:Nat→Ty) (M:Nat→Option (MF×(List AV→Prop))) (X:Nat→Option ((Int→ByteArray) ⊕ (MF×(List AV→Prop)))) (E:Nat) (fn:Func) (g:MF) (okx:List AV→Prop):Prop where
 ex:∃r0 OX r1 oO bl r2 oP b1 body r3 Xi r4 Vr lb ms ms3 ms4 p0 p1 q1 q2 q3 q4 s1 s2 s3 s4 ts cl,
  fn.body=some (.seq (.region r0 OX false) (.seq (.seq (.region r1 oO false) (.block bl (.loop (.seq (.seq (.region r2 oP false) (.cond (.tmp s4) .skip (.exit bl))) (.seq (.block b1 body) (.region r3 Xi false)))))) (.seq (.region r4 Vr false) .ret)))∧
  (OX.toList= [p0]∧p0.guard=none∧p0.op= .assign (.const (.int .i64 0))∧p0.dst=some 4)∧
  (oO.toList= [p1]∧p1.guard=none∧p1.op= .assign (.const (.int .i64 0))∧p1.dst=some 5)∧
  (oP.toList= [q1,q2,q3,q4]∧(q1.guard=none∧q1.op= .move (.tmp 5)∧q1.dst=some s1)∧(q2.guard=none∧q2.op= .move (.tmp 0)∧q2.dst=some s2)∧
   (q3.guard=none∧q3.op= .call cl∧cl.callee= .builtin .len∧cl.args= #[.tmp s2]∧cl.argTypes= #[ts]∧q3.dst=some s3)∧(q4.guard=none∧(∃t t',q4.op= .binOp .lss t (.tmp s1) (.tmp s3) t')∧q4.dst=some s4)∧
   (s1≠s2∧s1≠s3∧∀k∈[0,1,5],k≠s1∧k≠s2∧k≠s3∧k≠s4)∧(5 < fn.ntmps∧s1 < fn.ntmps∧s2 < fn.ntmps∧s3 < fn.ntmps∧s4 < fn.ntmps))∧
  (T ts).kind= .slice E∧Ng body=some lb∧decodeL fn.ntmps lb=some ms∧decodeL fn.ntmps Xi.toList=some ms3∧decodeL fn.ntmps Vr.toList=some ms4∧fn.results= #[.tmp 4]∧fn.ntmps≥6∧
  (∀(j:Nat) (k:Int) (c:List AV) (e:Env),okx c→0≤k→(g c k).2≤4611686018427387904→(j:Int) < 4611686018427387904→e 0=some .root→e 1=some (.num k)→e 5=some (.num j)→
   ∃e1,dG false T M X E j ms e c e1 (g c k).1∧∃e2,dG false T M X E j ms3 e1 (g c k).1 e2 (g c k).1∧e2 0=some .root∧e2 1=some (.num (g c k).2)∧e2 5=some (.num (j+1)))∧
  (∃d p2 p3,Vr.toList= [p2,p3]∧p2.guard=none∧p2.op= .move (.tmp 1)∧p2.dst=some d∧p3.guard=none∧p3.op= .assign (.tmp d)∧p3.dst=some 4∧d < fn.ntmps)
theorem Fw (x:AV):fO x x.cells=x:=by cases x<;>rfl
theorem iy {a:Act} {d i:Nat} {v:Value} (hd:d < a.tmps.size):(a.put (some d) v).tmps.getD i undef=if i=d then v else a.tmps.getD i undef:=by
 simp only [Act.put,vw,hd,and_true]
theorem mX {a:Act} {d:Nat} {v:Value}:(a.put (some d) v).tmps.size=a.tmps.size:=by simp [Act.put]
theorem nJ {a:Act} {d:Nat} {v:Value}:(a.put (some d) v).defers=a.defers:=rfl
theorem TL (hT:aW P T) (hM:∀f F ok,M f=some (F,ok)→qY P L f F ok) (hX:∀f s,X f=some s→Xg P L f s) {f:FuncId} {fn:Func} {g:MF} {okx:List AV→Prop} (hf:P.funcs[f]? =some fn) (hcf:∀(vs:Array Value) (w:World),(callFunc f vs).run P w= .ok (.enter f vs) w) (hE:(T E).good=true) (hL:L≤2 ^ 38)
  (hmono:∀c k,k≤(g c k).2) (VZ:∀c k,(g c k).1.length=c.length) (hgc:∀x:AV,∀k,(fO x (g x.cells k).1).cells=(g x.cells k).1) (hsz:∀c,okx c→c.length=(T E).size) (h:Nh T M X E fn g okx):qY P L f (aI g) (fun m=>∀x∈m,okx x.cells):=by
 refine⟨hcf,fun m k=>iw hmono m k,fun m k=>iU g m k,fun w v bs m k hok hsep hnd hth hk hb=>?_⟩
 obtain⟨r0,OX,r1,oO,bl,r2,oP,b1,body,r3,Xi,r4,Vr,lb,ms,ms3,ms4,p0,p1,q1,q2,q3,q4,s1,s2,s3,s4,ts,cl,hbody,⟨z1,z2,z3,z4⟩,⟨y1,y2,y3,y4⟩,⟨l1,⟨u1,u2,u3⟩,⟨u4,u5,u6⟩,⟨u7,u8,u9,u10,u11,u12⟩,⟨u13,⟨t1,t2,u14⟩,u15⟩,⟨d1,d2,d3'⟩,⟨n5,n1,n2,n3,n4⟩⟩,hts,TM,hdec,Yn,_,hres,hnt,hstep,⟨dd,p2,p3,o1,o2,o3,o4,o5,o6,o7,o8⟩⟩:=h.ex
 have d3:∀k,k=0∨k=1∨k=5→k≠s1∧k≠s2∧k≠s3∧k≠s4:=fun k hk=>d3' k (by simpa using hk)
 refine calls_of_wp hf hbody ?_
 generalize ha0:({ tmps:= #[v,Value.int .i64 k]++Array.replicate (fn.ntmps - (#[v,Value.int .i64 k]:Array Value).size) undef,defers:=[] }:Act)=a0
 have s0:a0.tmps.size=fn.ntmps:=by rw [← ha0];simp;omega
 have f0:a0.defers= []:=by rw [← ha0]
 have g0:a0.tmps.getD 0 undef=v:=by rw [← ha0,Array.getD_eq_getD_getElem?,Array.getElem?_append_left (by simp)];simp
 have g1:a0.tmps.getD 1 undef= .int .i64 k:=by rw [← ha0,Array.getD_eq_getD_getElem?,Array.getElem?_append_left (by simp)];simp
 have aai:m.length≤274877906944:=by
  simp only [bL] at hsep
  obtain⟨_,_,_,h1,_⟩:=hsep
  omega
 refine wp_seq (wp_region_list ?_)
 rw [z1]
 refine bS z2 (aM (v:=.int .i64 0) (w':=w) (by simp [execOp,z3,Act.eval]) ?_)
 refine wpList_nil ?_
 simp only [Exit.then]
 rw [z4]
 refine wp_seq (wp_seq (wp_region_list ?_))
 rw [y1]
 refine bS y2 (aM (v:=.int .i64 0) (w':=w) (by simp [execOp,y3,Act.eval]) ?_)
 refine wpList_nil ?_
 simp only [Exit.then]
 rw [y4]
 generalize ha1:(a0.put (some 4) (.int .i64 0)).put (some 5) (.int .i64 0)=a1
 have sa1:a1.tmps.size=fn.ntmps:=by rw [← ha1,mX,mX,s0]
 have fa1:a1.defers= []:=by rw [← ha1,nJ,nJ,f0]
 have ga1:∀i,i≠4→i≠5→a1.tmps.getD i undef=a0.tmps.getD i undef:=fun i h4 h5=>by
  rw [← ha1,iy (by rw [mX,s0];omega),if_neg h5,iy (by rw [s0];omega),if_neg h4]
 have ga5:a1.tmps.getD 5 undef= .int .i64 0:=by rw [← ha1,iy (by rw [mX,s0];omega),if_pos rfl]
 refine wp_block (wp_loop_ghost (fun n a w'=>∃jn:Nat,n+jn=m.length∧a.tmps.size=fn.ntmps∧a.defers= []∧a.tmps.getD 0 undef=v∧a.tmps.getD 1 undef= .int .i64 (aI g (m.take jn) k).2∧a.tmps.getD 5 undef= .int .i64 jn∧Only bs w w'∧
  bL w' L (.sl ((aI g (m.take jn) k).1++m.drop jn)) v bs) m.length ⟨0,rfl,sa1,fa1,by rw [ga1 0 (by omega) (by omega),g0],by rw [ga1 1 (by omega) (by omega),g1];simp [aI],by rw [ga5];rfl,Only.refl _ _,by simpa [aI] using hsep⟩ ?_)
 rintro n a w' ⟨jn,hj,hs,hfd,h0,h1,h5,hon,hse⟩
 have hcur:((aI g (m.take jn) k).1++m.drop jn).length=m.length:=by rw [List.length_append,iU,List.length_take,List.length_drop];omega
 refine wp_seq (wp_seq (wp_region_list ?_))
 rw [l1]
 refine bS u1 (aM (v:=.int .i64 jn) (w':=w') (by have:=h5;simp only [Array.getD_eq_getD_getElem?] at this;simp [execOp,u2,Act.eval,this]) ?_)
 rw [u3]
 generalize hb1:a.put (some s1) (.int .i64 jn)=c1
 have sc1:c1.tmps.size=fn.ntmps:=by rw [← hb1,mX,hs]
 have gc1:∀i,c1.tmps.getD i undef=if i=s1 then .int .i64 jn else a.tmps.getD i undef:=fun i=>by rw [← hb1,iy (by rw [hs];exact n1)]
 refine bS u4 (aM (v:=v) (w':=w') (by have:=gc1 0;rw [if_neg (d3 0 (.inl rfl)).1,h0] at this;simp only [Array.getD_eq_getD_getElem?] at this;simp [execOp,u5,Act.eval,this]) ?_)
 rw [u6]
 generalize hb2:c1.put (some s2) v=c2
 have sc2:c2.tmps.size=fn.ntmps:=by rw [← hb2,mX,sc1]
 have gc2:∀i,c2.tmps.getD i undef=if i=s2 then v else c1.tmps.getD i undef:=fun i=>by rw [← hb2,iy (by rw [sc1];exact n2)]
 have hv:∃ad cap,v= .slice ad m.length cap:=by
  simp only [bL] at hsep
  obtain⟨ad,cap,h1,_⟩:=hsep
  exact⟨ad,cap,h1⟩
 refine bS u7 (aM (v:=.int .i64 m.length) (w':=w') ?_ ?_)
 ·obtain⟨ad,cap,hv⟩:=hv
  have e2:=gc2 s2
  rw [if_pos rfl] at e2
  simp only [Array.getD_eq_getD_getElem?] at e2
  have ha:cl.args.map c2.eval= #[v]:=by rw [u10];simp [Act.eval,e2]
  simp only [execOp,u8]
  simp [resolve,u9,invoke,builtin,ha,u11,Builtin.len_,hv,run_underlying (gL hT hts),goInt]
 rw [u12]
 generalize hb3:c2.put (some s3) (.int .i64 m.length)=c3
 have sc3:c3.tmps.size=fn.ntmps:=by rw [← hb3,mX,sc2]
 have gc3:∀i,c3.tmps.getD i undef=if i=s3 then .int .i64 m.length else c2.tmps.getD i undef:=fun i=>by rw [← hb3,iy (by rw [sc2];exact n3)]
 refine bS u13 (aM (v:=.bool (decide ((jn:Int) < m.length))) (w':=w') ?_ ?_)
 ·have e1:=gc3 s1
  rw [if_neg d2,gc2,if_neg d1,gc1,if_pos rfl] at e1
  have e3:=gc3 s3
  rw [if_pos rfl] at e3
  simp only [Array.getD_eq_getD_getElem?] at e1 e3
  simp only [execOp,u14,Act.eval]
  simp [eqGuard,e1,e3,Go.binOp,Op.intCmp]
 refine wpList_nil ?_
 simp only [Exit.then]
 rw [u15]
 generalize hb4:c3.put (some s4) (.bool (decide ((jn:Int) < m.length)))=c4
 have sc4:c4.tmps.size=fn.ntmps:=by rw [← hb4,mX,sc3]
 have fc4:c4.defers= []:=by rw [← hb4,nJ, ← hb3,nJ, ← hb2,nJ, ← hb1,nJ,hfd]
 have gc4:∀i,i≠s1→i≠s2→i≠s3→i≠s4→c4.tmps.getD i undef=a.tmps.getD i undef:=fun i e1 e2 e3 e4=>by
  rw [← hb4,iy (by rw [sc3];exact n4),if_neg e4,gc3,if_neg e3,gc2,if_neg e2,gc1,if_neg e1]
 have keep:∀i,i=0∨i=1∨i=5→c4.tmps.getD i undef=a.tmps.getD i undef:=fun i hi=>gc4 i (d3 i hi).1 (d3 i hi).2.1 (d3 i hi).2.2.1 (d3 i hi).2.2.2
 have hcond:c4.eval (.tmp s4)= .bool (decide ((jn:Int) < m.length)):=by
  simp only [Act.eval]
  rw [← hb4,iy (by rw [sc3];exact n4),if_pos rfl]
 by_cases hlt:jn < m.length
 ·have hdt:decide ((jn:Int) < m.length)=true:=decide_eq_true (by omega)
  rw [hdt] at hcond
  refine wp_cond_true hcond (wp_skip ?_)
  simp only [Exit.then]
  obtain⟨x,hx⟩:∃x,m[jn]? =some x:=⟨m[jn],by simp [hlt]⟩
  have TN:=hok x (List.mem_of_getElem? hx)
  simp only [bL] at hse
  obtain⟨ad,cap,hv',_,_,ZJ⟩:=hse
  have hne:((aI g (m.take jn) k).1++m.drop jn)≠[]:=fun e=>by rw [e] at hcur;simp at hcur;omega
  obtain⟨bb,oo,sz,bs',rfl,rfl,hE2⟩:=ZJ.resolve_left fun h=>hne h.1
  have hl1:(aI g (m.take jn) k).1.length=jn:=by rw [iU,List.length_take];omega
  have hdrop:m.drop jn=x::m.drop (jn+1):=by
   obtain⟨hk',rfl⟩:=List.getElem?_eq_some_iff.1 hx
   exact List.drop_eq_getElem_cons hk'
  have hcx:((aI g (m.take jn) k).1++m.drop jn)[jn]? =some x:=by rw [List.getElem?_append_right (by omega),hl1,hdrop];simp
  have hxs:x.cells.length=sz:=by
   cases hc0:x.cells with
   |nil=>
    have h7:=hsz _ TN
    have h8:=(hT E hE).pos
    rw [hc0] at h7;simp at h7;omega
   |cons c cs=>
    obtain⟨_,_,_,_,_,h6,_⟩:=hE2.set hcx (k:=0) (c:=c) (by rw [hc0];rfl)
    rw [hc0] at h6;exact h6
  have ZK:(T E).size=sz:=by rw [← hsz _ TN,hxs]
  have ZL:∀b∈bb::bs',eX w' b∧b < w'.heap.size:=fun b hb=>⟨hon.thaw b hb (hth b hb).1,Nat.lt_of_lt_of_le (hth b hb).2 hon.size⟩
  have Yo:MCx P T L M X E w' bb sz bs' m.length ((aI g (m.take jn) k).1++m.drop jn) jn x:=⟨hT,hM,hX,hnd,ZL,hE,ZK,hcx,hcur.symm⟩
  generalize hke:(aI g (m.take jn) k).2=kk at h1
  have hkk:0≤kk:=by have:=iw hmono (m.take jn) k;omega
  have hsplit:m.take (jn+1)=m.take jn++[x]:=by
   obtain⟨hk',rfl⟩:=List.getElem?_eq_some_iff.1 hx
   exact List.take_succ_eq_append_getElem hk'
  have hnext:aI g (m.take (jn+1)) k=((aI g (m.take jn) k).1++[fO x (g x.cells kk).1],(g x.cells kk).2):=by
   rw [hsplit,jL,hke];simp [aI]
  have hbound:(g x.cells kk).2≤4611686018427387904:=by
   have e:m=m.take (jn+1)++m.drop (jn+1):=(List.take_append_drop _ _).symm
   have:=iw hmono (m.drop (jn+1)) (aI g (m.take (jn+1)) k).2
   rw [e,jL] at hb
   rw [hnext] at this hb
   simp only at this hb
   omega
  let e0:Env:=fun i=>if i=0 then some .root else if i=1 then some (.num kk) else if i=5 then some (.num jn) else none
  obtain⟨e1,hr1,e2,hr2,he0,he1,he5⟩:=hstep jn kk x.cells e0 TN hkk hbound (by omega) rfl rfl rfl
  have hinv:MInv false L w' bb oo sz bs' m.length cap ((aI g (m.take jn) k).1++m.drop jn) jn x fn.ntmps e0 x.cells c4 w':=by
   refine⟨sc4,fc4,Only.refl _ _,fun _=>rfl,?_,by rw [Fw],fun d v' hd=>?_⟩
   ·rw [Fw]
    have:((aI g (m.take jn) k).1++m.drop jn).set jn x=(aI g (m.take jn) k).1++m.drop jn:=by
     apply List.ext_getElem?
     intro i
     by_cases hi:i=jn
     ·subst hi;rw [List.getElem?_set_self (by rw [hcur];exact hlt),hcx]
     ·rw [List.getElem?_set_ne (Ne.symm hi)]
    rw [this];exact hE2
   ·simp only [e0] at hd
    split at hd
    ·rename_i e;subst e;cases hd
     exact⟨by omega,by rw [keep 0 (.inl rfl),h0,hv',hcur]⟩
    ·split at hd
     ·rename_i e;subst e;cases hd
      exact⟨by omega,by rw [keep 1 (.inr (.inl rfl)),h1]⟩
     ·split at hd
      ·rename_i e;subst e;cases hd
       exact⟨by omega,by rw [keep 5 (.inr (.inr rfl)),h5]⟩
      ·cases hd
  refine wp_seq (wp_block (Fv Yo TM hdec hr1 rfl hinv fun a2 w2 hi2 ZM=>?_))
  simp only [Exit.inBlock,Exit.then]
  refine wp_region_list (uf Yo hr2 Yn ZM hi2 fun a3 w3 hi3 aal=>?_)
  refine⟨n - 1,by omega,jn+1,by omega,hi3.size,hi3.defers,?_,?_,?_,hon.trans hi3.only,?_⟩
  ·have:=(hi3.env 0 _ he0).2;simp only at this;rw [this,hv',hcur]
  ·have:=(hi3.env 1 _ he1).2;simp only at this;rw [this,hnext]
  ·have:=(hi3.env 5 _ he5).2;simp only at this;rw [this];push_cast;rfl
  ·have hsp:=hi3.sep
   have:((aI g (m.take jn) k).1++m.drop jn).set jn (fO x (g x.cells kk).1)=(aI g (m.take (jn+1)) k).1++m.drop (jn+1):=by
    rw [hnext,hdrop,List.set_append_right _ _ (by omega),hl1];simp
   rw [this] at hsp
   have vC:((aI g (m.take (jn+1)) k).1++m.drop (jn+1)).length=m.length:=by rw [← this,List.length_set,hcur]
   simp only [bL]
   rename_i hc1 hc2 _
   exact⟨_,cap,by rw [hv',hcur,vC],by rw [vC];omega,by rw [vC];omega,.inr ⟨bb,oo,sz,bs',rfl,rfl,hsp⟩⟩
 ·have hdt:decide ((jn:Int) < m.length)=false:=decide_eq_false (by omega)
  rw [hdt] at hcond
  refine wp_cond_false hcond (wp_exit ?_)
  simp only [Exit.then,Exit.inBlock,if_pos]
  have hjm:jn=m.length:=by omega
  subst hjm
  rw [List.take_of_length_le (Nat.le_refl _)] at h1 hse
  rw [List.drop_eq_nil_of_le (Nat.le_refl _),List.append_nil] at hse
  refine wp_seq (wp_region_list ?_)
  rw [o1]
  refine bS o2 (aM (v:=.int .i64 (aI g m k).2) (w':=w') (by have:=keep 1 (.inr (.inl rfl));rw [h1] at this;simp only [Array.getD_eq_getD_getElem?] at this;simp [execOp,o3,Act.eval,this]) ?_)
  rw [o4]
  refine bS o5 (aM (v:=.int .i64 (aI g m k).2) (w':=w') (by have:=iy (a:=c4) (d:=dd) (i:=dd) (v:=.int .i64 (aI g m k).2) (by rw [sc4];exact o8);rw [if_pos rfl] at this;simp only [Array.getD_eq_getD_getElem?] at this;simp [execOp,o6,Act.eval,this]) ?_)
  rw [o7]
  refine wpList_nil ?_
  simp only [Exit.then]
  refine wp_ret ?_
  refine⟨by rw [nJ,nJ,fc4],.int .i64 (aI g m k).2,?_,rfl,hon,hse⟩
  have h4:((c4.put (some dd) (.int .i64 (aI g m k).2)).put (some 4) (.int .i64 (aI g m k).2)).tmps.getD 4 undef= .int .i64 (aI g m k).2:=by
   rw [iy (by rw [mX,sc4];omega),if_pos rfl]
  unfold results
  rw [hres]
  simp only [Array.getD_eq_getD_getElem?] at h4
  simp [h4]
end
end Go.Proofs.YtpfgedlimdeffaaGreat.Abs
namespace Go.Proofs.YtpfgedlimdeffaaGreat.Abs
open Go.RowKit
theorem bG.row {w:World} {L b sz o j k:Nat} {l:List AV} {bs:List Nat} {x:AV} {row:List AV} (h:bG w L b sz l o bs) (hj:l[j]? =some x) (hk:x.cells[k]? =some (.sl row)) (hne:row≠[]):
  ∃b1 rb b2 b3 ro rsz cap,bs=b1++rb::(b2++b3)∧w.cell? ⟨b,o+j*sz+k,none⟩=some (.slice (some ⟨rb,ro,none⟩) row.length cap)∧row.length≤L∧row.length≤cap∧bG w L rb rsz row ro b2∧
   ∀(w':World) (x':AV) (row':List AV),x'.cells=x.cells.set k (.sl row')→row'.length=row.length→(∀i,w'.cell? ⟨b,i,none⟩=w.cell? ⟨b,i,none⟩)→(∀y∈b1++b3,∀i,w'.cell? ⟨y,i,none⟩=w.cell? ⟨y,i,none⟩)→
    bG w' L rb rsz row' ro b2→bG w' L b sz (l.set j x') o bs:=by
 obtain⟨b1,bc,b3,u,rfl,hs,hu,h1,h2⟩:=h.set hj hk
 simp only [bL] at h1
 obtain⟨a,cap,rfl,g1,g2,g3⟩:=h1
 rcases g3 with⟨g3,_⟩|⟨rb,ro,rsz,b2,rfl,rfl,g4⟩
 ·exact absurd g3 hne
 ·refine⟨b1,rb,b2,b3,ro,rsz,cap,by simp,hu,g1,g2,g4,fun w' x' row' hx hl hb hy hr=>?_⟩
  refine h2 w' x' (.sl row') (.slice (some ⟨rb,ro,none⟩) row.length cap) hx (fun i _=>hb i) hy (by rw [hb];exact hu) ?_
  simp only [bL]
  exact⟨_,cap,by rw [hl],by omega,by omega,.inr ⟨rb,ro,rsz,b2,rfl,rfl,hr⟩⟩
theorem bG.OY {w:World} {L b sz o j:Nat} {l:List AV} {bs:List Nat} {x:AV} (h:bG w L b sz l o bs) (hj:l[j]? =some x):x.cells.length=sz:=by
 induction l generalizing o bs j with
 |nil=>simp at hj
 |cons y l ih=>
  simp only [bG] at h
  obtain⟨b1,b2,rfl,h1,h2⟩:=h
  cases j with
  |zero=>simp at hj;subst hj;exact (jq.1 h1).1
  |succ j=>exact ih h2 (by simpa using hj)
theorem bG.TP {w:World} {L b sz o j k:Nat} {l:List AV} {bs:List Nat} {x:AV} {n:Int} (h:bG w L b sz l o bs) (hj:l[j]? =some x) (hk:x.cells[k]? =some (AV.int .i64 n)):
  w.cell? ⟨b,o+j*sz+k,none⟩=some (.int .i64 n)∧∀(w':World) (x':AV) (m:Int),x'.cells=x.cells.set k (AV.int .i64 m)→(∀i,i≠o+j*sz+k→w'.cell? ⟨b,i,none⟩=w.cell? ⟨b,i,none⟩)→(∀y∈bs,∀i,w'.cell? ⟨y,i,none⟩=w.cell? ⟨y,i,none⟩)→
   w'.cell? ⟨b,o+j*sz+k,none⟩=some (.int .i64 m)→bG w' L b sz (l.set j x') o bs:=by
 obtain⟨b1,bc,b3,u,rfl,hs,hu,h1,h2⟩:=h.set hj hk
 simp only [bL] at h1
 obtain⟨rfl,rfl⟩:=h1
 exact⟨hu,fun w' x' m hx hb hy hm=>h2 w' x' (AV.int .i64 m) (.int .i64 m) hx hb (fun y hz=>hy y (by simpa using hz)) hm (by simp [bL])⟩
theorem cO.flat {w:World} {L b:Nat}:∀{l:List AV} {o:Nat} {bs:List Nat},(∀x∈l,∃k n,x= .int k n)→cO w L b l o bs→bs= []
 |[],_,_,_,h=>h
 |c::cs,o,bs,hx,h=>by
  simp only [cO] at h
  obtain⟨b1,b2,rfl,⟨v,_,h2⟩,h3⟩:=h
  obtain⟨k,n,rfl⟩:=hx c (by simp)
  simp only [bL] at h2
  rw [h2.2,cO.flat (fun x hx'=>hx x (by simp [hx'])) h3];rfl
theorem bG.flat {w:World} {L b sz:Nat}:∀{l:List AV} {o:Nat} {bs:List Nat},(∀x∈l,∀c∈x.cells,∃k n,c= .int k n)→bG w L b sz l o bs→bs= []
 |[],_,_,_,h=>h
 |x::xs,o,bs,hx,h=>by
  simp only [bG] at h
  obtain⟨b1,b2,rfl,h1,h2⟩:=h
  rw [cO.flat (hx x (by simp)) (jq.1 h1).2,bG.flat (fun y hy=>hx y (by simp [hy])) h2];rfl
theorem ug {T:Nat→Ty} {L base:Nat} {us:List Value} {I:Nat→Prop} {w:World} {E:Nat} {l:List AV} {v:Value} {bs:List Nat} (h:dD T L base us I w (.lin E l) v bs):
  bL w L (.sl l) v bs∧∀b∈bs,eX w b:=by
 simp only [dD] at h
 obtain⟨h1,_,_,xs,bs',rfl,h4,h5,h6,h7⟩:=h
 have hr:aF (fun _=>True) w L (.sl l) v:=Eh rfl h1 h4 (h5.mono (fun _ _=>trivial) (fun _ _ _=>rfl)) (fun _ _=>trivial)
 refine⟨Ku (.sl l) v _ hr (Jo h4 h6),fun b hb=>?_⟩
 rcases List.mem_append.1 hb with hb|hb
 ·exact Ef h4 (by simpa using hb)
 ·exact h7 b hb
theorem OZ {w:World} {L:Nat} {l:List AV} {v:Value} {bs:List Nat} (h:bL w L (.sl l) v bs) (hne:l≠[]):
  ∃b o sz bs' cap,v= .slice (some ⟨b,o,none⟩) l.length cap∧l.length≤L∧l.length≤cap∧bs=b::bs'∧bG w L b sz l o bs':=by
 simp only [bL] at h
 obtain⟨a,cap,rfl,h1,h2,h3⟩:=h
 rcases h3 with⟨h3,_⟩|⟨b,o,sz,bs',rfl,rfl,h4⟩
 ·exact absurd h3 hne
 ·exact⟨b,o,sz,bs',cap,rfl,h1,h2,rfl,h4⟩
theorem Pb {w:World} {L b o sz n cap:Nat} {l:List AV} {bs:List Nat} (hn:l.length=n) (h1:n≤L) (h2:n≤cap) (h:bG w L b sz l o bs):bL w L (.sl l) (.slice (some ⟨b,o,none⟩) n cap) (b::bs):=by
 subst hn
 simp only [bL]
 exact⟨_,cap,rfl,h1,h2,.inr ⟨b,o,sz,bs,rfl,rfl,h⟩⟩
inductive Cm
 |num (o:Nat)
 |txt (o:Nat) (F:Int→ByteArray)
 |bit (o:Nat)
 |call (o:Nat) (F:MF)
def fF:List Cm→MF
 |[],c,k=>(c,k)
 | .num o::r,c,k=>fF r (c.set o (.int .i64 k)) (k+1)
 | .txt o F::r,c,k=>fF r (c.set o (.str (F k))) (k+1)
 | .bit o::r,c,k=>fF r (c.set o (.bool (decide (k % 3=0)))) (k+1)
 | .call o F::r,c,k=>match c[o]? with
  |some (.sl m)=>fF r (c.set o (.sl (F m k).1)) (F m k).2
  |_=>fF r c k
def Cm.mono:Cm→Prop
 | .num _| .txt _ _| .bit _=>True
 | .call _ F=>∀m k,k≤(F m k).2
theorem sM:∀{l:List Cm},(∀x∈l,x.mono)→∀c k,k≤(fF l c k).2
 |[],_,_,_=>Int.le_refl _
 | .num o::r,h,c,k=>by
  have:=sM (l:=r) (fun x hx=>h x (List.mem_cons_of_mem _ hx)) (c.set o (.int .i64 k)) (k+1)
  simp only [fF];omega
 | .txt o F::r,h,c,k=>by
  have:=sM (l:=r) (fun x hx=>h x (List.mem_cons_of_mem _ hx)) (c.set o (.str (F k))) (k+1)
  simp only [fF];omega
 | .bit o::r,h,c,k=>by
  have:=sM (l:=r) (fun x hx=>h x (List.mem_cons_of_mem _ hx)) (c.set o (.bool (decide (k % 3=0)))) (k+1)
  simp only [fF];omega
 | .call o F::r,h,c,k=>by
  have hF:∀m k,k≤(F m k).2:=h (.call o F) (List.mem_cons_self ..)
  have hr:=fun c k=>sM (l:=r) (fun x hx=>h x (List.mem_cons_of_mem _ hx)) c k
  simp only [fF]
  split
  ·exact Int.le_trans (hF _ _) (hr _ _)
  ·exact hr _ _
theorem qA:∀(l:List Cm) (c:List AV) (k:Int),(fF l c k).1.length=c.length
 |[],_,_=>rfl
 | .num o::r,c,k=>by simp only [fF,qA r,List.length_set]
 | .txt o F::r,c,k=>by simp only [fF,qA r,List.length_set]
 | .bit o::r,c,k=>by simp only [fF,qA r,List.length_set]
 | .call o F::r,c,k=>by
  simp only [fF]
  split
  ·simp only [qA r,List.length_set]
  ·exact qA r c k
theorem iA:∀(l:List Cm) (y:AV) (k:Int),(∀m,y≠.agg m)→∃z,(fF l [y] k).1= [z]∧∀m,z≠.agg m
 |[],y,_,h=>⟨y,rfl,h⟩
 | .num o::r,y,k,h=>by
  simp only [fF]
  cases o with
  |zero=>exact iA r _ _ nofun
  |succ o=>exact iA r _ _ h
 | .txt o F::r,y,k,h=>by
  simp only [fF]
  cases o with
  |zero=>exact iA r _ _ nofun
  |succ o=>exact iA r _ _ h
 | .bit o::r,y,k,h=>by
  simp only [fF]
  cases o with
  |zero=>exact iA r _ _ nofun
  |succ o=>exact iA r _ _ h
 | .call o F::r,y,k,h=>by
  simp only [fF]
  split
  ·cases o with
   |zero=>exact iA r _ _ nofun
   |succ o=>exact iA r _ _ h
  ·exact iA r y k h
theorem Vs (l:List Cm) (x:AV) (k:Int):(fO x (fF l x.cells k).1).cells=(fF l x.cells k).1:=by
 cases x with
 |agg m=>rfl
 |_=>
  simp only [fO,AV.cells]
  first
   |obtain⟨z,h1,h2⟩:=iA l (AV.bool _) k nofun;rw [h1]
   |obtain⟨z,h1,h2⟩:=iA l (AV.int _ _) k nofun;rw [h1]
   |obtain⟨z,h1,h2⟩:=iA l (AV.str _) k nofun;rw [h1]
   |obtain⟨z,h1,h2⟩:=iA l (AV.sl _) k nofun;rw [h1]
   |obtain⟨z,h1,h2⟩:=iA l AV.any k nofun;rw [h1]
  all_goals
   cases z with
   |agg m=>exact absurd rfl (h2 m)
   |_=>rfl
inductive Ck
 |num|txt|bit
 |sl (p:List AV→Prop)
def okC:List Ck→List AV→Prop
 |[],c=>c= []
 | .num::r,c=>∃n c',c= .int .i64 n::c'∧okC r c'
 | .txt::r,c=>∃s c',c= .str s::c'∧okC r c'
 | .bit::r,c=>∃b c',c= .bool b::c'∧okC r c'
 | .sl p::r,c=>∃m c',c= .sl m::c'∧p m∧okC r c'
theorem wM:∀{l:List Ck} {c:List AV},okC l c→c.length=l.length
 |[],_,h=>by simp only [okC] at h;subst h;rfl
 | .num::r,_,⟨_,_,e,h⟩=>by subst e;simp [wM h]
 | .txt::r,_,⟨_,_,e,h⟩=>by subst e;simp [wM h]
 | .bit::r,_,⟨_,_,e,h⟩=>by subst e;simp [wM h]
 | .sl p::r,_,⟨_,_,e,_,h⟩=>by subst e;simp [wM h]
theorem Idx.here {l:List AV} {i:Int} {k:Nat} {x:AV} {K:Nat→AV→Prop} (hx:l[k]? =some x) (h:i=k) (hk:K k x):Idx l i K:=⟨k,x,h,hx,hk⟩
theorem qY.imp {P:Program} {L f:Nat} {F:MF} {ok ok':List AV→Prop} (h:qY P L f F ok) (k:∀m,ok' m→ok m):qY P L f F ok':=
 ⟨h.1,h.2.1,h.2.2.1,fun w v bs m n hm=>h.2.2.2 w v bs m n (k m hm)⟩
theorem CG {g:MF}:∀(l:List AV) (k:Int) (i:Nat) {x:AV},l[i]? =some x→(aI g l k).1[i]? =some (fO x (g x.cells (aI g (l.take i) k).2).1)
 |[],_,_,_,h=>by simp at h
 |y::l,k,0,x,h=>by simp at h;subst h;simp [aI]
 |y::l,k,i+1,x,h=>by
  simp only [List.getElem?_cons_succ] at h
  simp only [aI,List.getElem?_cons_succ,List.take_succ_cons]
  exact CG l _ i h
theorem Ky {g:MF} (l:List AV) (k:Int) (i:Nat) {x:AV} (h:l[i]? =some x):(aI g (l.take (i+1)) k).2=(g x.cells (aI g (l.take i) k).2).2:=by
 obtain⟨hi,rfl⟩:=List.getElem?_eq_some_iff.1 h
 rw [List.take_succ_eq_append_getElem hi,jL]
 rfl
theorem Pd {g:MF} (hg:∀c k,k≤(g c k).2) (l:List AV) (k:Int) (i:Nat):(aI g (l.take i) k).2≤(aI g l k).2:=by
 conv=>rhs;rw [← List.take_append_drop i l,jL]
 exact iw hg _ _
open Go.RowKit
def Ni:Code→Option (List Oper)
 | .ret=>some []
 | .seq (.region _ ops false) r=>(match Ni r with|some l=>some (ops.toList++l)|none=>none)
 |_=>none
section
variable {P:Program} {T:Nat→Ty} {L:Nat} {M:Nat→Option (MF×(List AV→Prop))} {X:Nat→Option ((Int→ByteArray) ⊕ (MF×(List AV→Prop)))} {E:Nat}
theorem IV {ro:Bool} {w0:World} {b o sz:Nat} {bs:List Nat} {len cap:Nat} {l:List AV} {j:Nat} {x:AV} {nt:Nat} (hc:MCx P T L M X E w0 b sz bs len l j x) {Q:Exit→Act→World→Prop}:∀{code:Code} {lo:List Oper} {ms:List MOp} {e e':Env} {c c':List AV},Ni code=some lo→decodeL nt lo=some ms→dG ro T M X E j ms e c e' c'→∀{a:Act} {w:World},c.length=x.cells.length→
  MInv ro L w0 b o sz bs len cap l j x nt e c a w→(∀a' w',MInv ro L w0 b o sz bs len cap l j x nt e' c' a' w'→c'.length=x.cells.length→Q .ret a' w')→code.wp P Q a w
 | .ret,lo,ms,e,e',c,c',hf,hd,hr,a,w,hcl,h,hQ=>by
  simp only [Ni,Option.some.injEq] at hf
  subst hf
  simp only [decodeL,Option.some.injEq] at hd
  subst hd
  cases hr
  exact wp_ret (hQ a w h hcl)
 | .seq (.region id ops false) r,lo,ms,e,e',c,c',hf,hd,hr,a,w,hcl,h,hQ=>by
  simp only [Ni] at hf
  split at hf
  ·rename_i l2 hl2
   cases hf
   obtain⟨m1,m2,rfl,k1,k2⟩:=qz hd
   obtain⟨e1,c1,q1,q2⟩:=hr.append
   refine wp_seq (wp_region_list (uf hc q1 k1 hcl h fun a' w' h' hcl'=>?_))
   exact IV hc hl2 k2 q2 hcl' h' hQ
  ·cases hf
structure Qy (T:Nat→Ty) (M:Nat→Option (MF×(List AV→Prop))) (X:Nat→Option ((Int→ByteArray) ⊕ (MF×(List AV→Prop)))) (ts:Nat) (fn:Func) (g:MF) (okx:List AV→Prop):Prop where
 ex:∃r0 OX rest lo ms pb p0,fn.body=some (.seq (.region r0 OX false) rest)∧
  (OX.toList= [pb,p0]∧pb.guard=none∧pb.op= .box ts (.tmp 0)∧pb.dst=some 2∧p0.guard=none∧p0.op= .assign (.const (.int .i64 0))∧p0.dst=some 4)∧
  Ni rest=some lo∧decodeL fn.ntmps lo=some ms∧fn.results= #[.tmp 4]∧fn.ntmps≥5∧
  ∀(k:Int) (c:List AV) (e:Env),okx c→0≤k→(g c k).2≤4611686018427387904→e 1=some (.num k)→e 2=some (.ptr 0)→∃e1,dG true T M X ts (0:Nat) ms e c e1 (g c k).1∧e1 4=some (.num (g c k).2)
theorem Vt (hT:aW P T) (hM:∀f F ok,M f=some (F,ok)→qY P L f F ok) (hX:∀f s,X f=some s→Xg P L f s) {f:FuncId} {fn:Func} {ts:Nat} {g:MF} {okx:List AV→Prop} (hf:P.funcs[f]? =some fn) (hcf:∀(vs:Array Value) (w:World),(callFunc f vs).run P w= .ok (.enter f vs) w) (hE:(T ts).good=true)
  (hsz:∀c,okx c→c.length=(T ts).size) (VZ:∀c k,(g c k).1.length=c.length) (h:Qy T M X ts fn g okx):Kw P L f g okx:=by
 refine⟨hcf,fun w cs bs c k hok hsep hnd hth hk hb=>?_⟩
 obtain⟨r0,OX,rest,lo,ms,pb,p0,hbody,⟨z1,z2,z3,z4,z5,z6,z7⟩,TM,hdec,hres,hnt,hstep⟩:=h.ex
 refine calls_of_wp hf hbody ?_
 generalize ha0:({ tmps:= #[Value.agg cs.toArray,Value.int .i64 k]++Array.replicate (fn.ntmps - (#[Value.agg cs.toArray,Value.int .i64 k]:Array Value).size) undef,defers:=[] }:Act)=a0
 have s0:a0.tmps.size=fn.ntmps:=by rw [← ha0];simp;omega
 have f0:a0.defers= []:=by rw [← ha0]
 have g0:a0.tmps.getD 0 undef= .agg cs.toArray:=by rw [← ha0,Array.getD_eq_getD_getElem?,Array.getElem?_append_left (by simp)];simp
 have g1:a0.tmps.getD 1 undef= .int .i64 k:=by rw [← ha0,Array.getD_eq_getD_getElem?,Array.getElem?_append_left (by simp)];simp
 have hlen:=hsep.length
 have o0:Quiet w (w.alloc (.cells cs.toArray ts)):=Quiet.alloc _ _
 generalize hw2:w.alloc (.cells cs.toArray ts)=w2 at o0
 have TQ:w2.heap[w.heap.size]? =some (.cells cs.toArray ts):=by rw [← hw2];show (w.heap.push _)[w.heap.size]? =_;simp
 have hsz2:w2.heap.size=w.heap.size+1:=by rw [← hw2];show (w.heap.push _).size=_;simp
 refine wp_seq (wp_region_list ?_)
 rw [z1]
 refine bS z2 (aM (v:=.pointer (some ⟨w.heap.size,0,none⟩)) (w':=w2) (by simp only [Array.getD_eq_getD_getElem?] at g0;simp [execOp,z3,Instr.box,newVar,newRow,Act.eval,g0,Value.cells,hw2]) ?_)
 rw [z4]
 refine bS z5 (aM (v:=.int .i64 0) (w':=w2) (by simp [execOp,z6,Act.eval]) ?_)
 rw [z7]
 refine wpList_nil ?_
 simp only [Exit.then]
 generalize ha1:(a0.put (some 2) (.pointer (some ⟨w.heap.size,0,none⟩))).put (some 4) (.int .i64 0)=a1
 have sa1:a1.tmps.size=fn.ntmps:=by rw [← ha1,mX,mX,s0]
 have fa1:a1.defers= []:=by rw [← ha1,nJ,nJ,f0]
 have h1:a1.tmps.getD 1 undef= .int .i64 k:=by rw [← ha1,iy (by rw [mX];omega),if_neg (by decide),iy (by omega),if_neg (by decide)];exact g1
 have h2:a1.tmps.getD 2 undef= .pointer (some ⟨w.heap.size,0,none⟩):=by rw [← ha1,iy (by rw [mX];omega),if_neg (by decide),iy (by omega),if_pos rfl]
 have hcell:∀(W:World),W.heap[w.heap.size]? =some (.cells cs.toArray ts)→∀i u,cs[i]? =some u→W.cell? ⟨w.heap.size,0+i,none⟩=some u:=fun W hW i u hu=>by
  rw [cell_of_row W _ _ _ _ _ hW];simpa using hu
 have Yp:mW w2 L c cs bs:=hsep.mono fun b hb i=>World.cell?_of_block (o0.block b (hth b hb).2 id)
 have hC:=tY Yp (hcell w2 TQ)
 have hnb:w.heap.size∉bs:=fun hm=>by have:=(hth _ hm).2;omega
 have hcx:MCx P T L M X ts w2 w.heap.size (T ts).size bs 1 [.agg c] 0 (.agg c):=by
  refine⟨hT,hM,hX,List.nodup_cons.2 ⟨hnb,hnd⟩,fun i hi=>?_,hE,rfl,rfl,rfl⟩
  rcases List.mem_cons.1 hi with rfl|hi
  ·exact⟨fun o=>by simp [World.frozen?,TQ],by omega⟩
  ·exact⟨(hth i hi).1.same (o0.block i (hth i hi).2 id),Nat.lt_of_lt_of_le (hth i hi).2 o0.size⟩
 obtain⟨e1,hrun,he4⟩:=hstep k c (fun i=>if i=1 then some (.num k) else if i=2 then some (.ptr 0) else none) hok hk hb rfl rfl
 refine IV (o:=0) (cap:=1) hcx TM hdec hrun rfl ⟨sa1,fa1,Only.refl _ _,fun _=>rfl,?_,rfl,fun d v hd=>?_⟩ fun a' w' hi hl'=>?_
 ·simp only [fO,List.set_cons_zero,bG]
  exact⟨bs,[],by simp,jq.2 ⟨hsz c hok,hC⟩,rfl⟩
 ·split at hd
  ·rename_i e;subst e;cases hd;exact⟨by omega,h1⟩
  ·split at hd
   ·rename_i e;subst e;cases hd;exact⟨by omega,by simpa using h2⟩
   ·cases hd
 ·have ZN:=(hi.box rfl).trans TQ
  have hse:=hi.sep
  simp only [fO,List.set_cons_zero,bG] at hse
  obtain⟨b1,b2,rfl,hx,rfl⟩:=hse
  obtain⟨_,hC'⟩:=jq.1 hx
  have h4:=(hi.env 4 _ he4).2
  simp only at h4
  refine⟨hi.defers,.int .i64 (g c k).2,?_,rfl,?_,?_⟩
  ·unfold results
   rw [hres]
   simp only [Array.getD_eq_getD_getElem?] at h4
   simp [h4]
  ·have ho:=hi.only
   refine⟨ho.os.trans o0.os,ho.tape.trans o0.tape,ho.output.trans o0.output,Nat.le_trans o0.size ho.size,fun i hi' hm=>?_,fun i hm ht=>ho.thaw i (by simp at hm ⊢;exact .inr hm) (ht.same (o0.block i (hth i hm).2 id))⟩
   refine (ho.block i (Nat.lt_of_lt_of_le hi' o0.size) fun hm'=>?_).trans (o0.block i hi' id)
   rcases List.mem_cons.1 hm' with rfl|hm'
   ·omega
   ·exact hm (by simpa using hm')
  ·have:=tZ hC' (by simp only [AV.cells];rw [VZ,hlen]) (hcell w' ZN)
   simpa [AV.cells] using this
end
open Go.RowKit
inductive sN:List SV→List AV→Prop
 |nil:sN [] []
 |data {x:AV} {cs:List SV} {xs:List AV} (h:x.scalar=true) (k:sN cs xs):sN (.data x::cs) (x::xs)
 |fr {l:List AV} {cs:List SV} {xs:List AV} (h:AV.qN l=true) (k:sN cs xs):sN (.fr l::cs) (.sl l::xs)
section
variable {T:Nat→Ty} {L:Nat} {w0:World} {I0:Bs}
end
section
variable {P:Program} {T:Nat→Ty} {L:Nat} {w0:World} {I0:Bs}
theorem Kz {I:Nat→Prop} {w:World} {b:Nat}:∀{l:List AV} {us:List Value} {o:Nat},aN (aD I w L) l us→(∀j u,us[j]? =some u→w.cell? ⟨b,o+j,none⟩=some u)→aX I w L b l o
 |[],_,_,_,_=>by simp [aX]
 |x::l,[],_,h,_=>h.elim
 |x::l,u::us,o,h,hc=>by
  simp only [aX]
  refine⟨⟨u,by simpa using hc 0 u rfl,h.1⟩,Kz h.2 fun j v hj=>?_⟩
  have:=hc (j+1) v (by simpa using hj)
  rwa [show o+(j+1)=o+1+j by omega] at this
def TR (P:Program) (L f:Nat) (xs xs':List AV) (M:Int):Prop:=
 (∀(vs:Array Value) (w:World),(callFunc f vs).run P w= .ok (.enter f vs) w)∧
 ∀(G:Nat→Prop) (w:World) (v:Value),(∀b,G b→b < w.heap.size∧eX w b)→aF G w L (.agg xs) v→Calls P f #[v,.int .i64 1] w fun e w'=>e= .returned (.int .i64 M)∧
  w'.os=w.os∧w'.tape=w.tape∧w'.output=w.output∧w.heap.size≤w'.heap.size∧(∀k,k < w.heap.size→¬ G k→w'.heap[k]? =w.heap[k]?)∧aF G w' L (.agg xs') v
structure Fx (E:Nat) (oO oP:Array Oper) (f ig im t2 t3 t4:Nat):Prop where
 l1:∃o1,oO.toList= [o1]∧o1.guard=none∧o1.op= .assign (.const (.int .i64 1))∧o1.dst=some im
 l2:∃o2 o3 o4 o5 c,oP.toList= [o2,o3,o4,o5]∧o2.guard=none∧o3.guard=none∧o4.guard=none∧o5.guard=none∧
  o2.op= .load E (.tmp ig)∧o2.dst=some t2∧o3.op= .move (.tmp im)∧o3.dst=some t3∧o4.op= .call c∧c.callee= .value (.func f)∧c.args= #[.tmp t2,.tmp t3]∧o4.dst=some t4∧o5.op= .assign (.tmp t4)∧o5.dst=some im
theorem Pe {E:Nat} {vl:Value} {oO oP:Array Oper} {f ig im t2 t3 t4 id1 id2:Nat} (h:Fx E oO oP f ig im t2 t3 t4) (hd:im≠ig∧t2≠t3∧t2≠im∧t3≠im∧t4≠im) {S:List Nat} (hS:∀i∈S,i≠im∧i≠t2∧i≠t3∧i≠t4)
  {a:Act} {w:World} (hlt:im < a.tmps.size∧t2 < a.tmps.size∧t3 < a.tmps.size∧t4 < a.tmps.size) {code:Code} {Q:Exit→Act→World→Prop} {R:Int→World→Prop} (hcf:∀(vs:Array Value) (w:World),(callFunc f vs).run P w= .ok (.enter f vs) w)
  (hld:(Instr.loadAt E (a.tmps.getD ig undef)).run P w= .ok vl w) (hcall:Calls P f #[vl,.int .i64 1] w fun e w'=>∃M,e= .returned (.int .i64 M)∧R M w')
  (hN:∀a' w' M,R M w'→a'.tmps.getD im undef= .int .i64 M→Held S a a'→a'.defers=a.defers→a'.tmps.size=a.tmps.size→code.wp P Q a' w'):
  (Code.seq (.region id1 oO false) (.seq (.region id2 oP false) code)).wp P Q a w:=by
 obtain⟨⟨o1,e1,g1,p1,d1⟩,o2,o3,o4,o5,c,e2,g2,g3,g4,g5,p2,d2,p3,d3,p4,pc,pa,d4,p5,d5⟩:=h
 refine wp_seq (wp_region_list ?_)
 rw [e1]
 simp only [wpList]
 rw [if_pos (by simp [Region.wanted,g1])]
 refine .inl (aM (v:=.int .i64 1) (w':=w) (by simp [execOp,p1,Act.eval]) ?_)
 simp only [Exit.then]
 rw [d1]
 generalize ha1:a.put (some im) (.int .i64 1)=a1
 have s1:a1.tmps.size=a.tmps.size:=by rw [← ha1,mh]
 have f1:a1.defers=a.defers:=by rw [← ha1,put_defers]
 have v1:a1.tmps.getD im undef= .int .i64 1:=by rw [← ha1,eT,if_pos ⟨rfl,hlt.1⟩]
 have vg:a1.tmps.getD ig undef=a.tmps.getD ig undef:=by rw [← ha1,eT,if_neg (fun e=>hd.1 e.1.symm)]
 have k1:Held S a a1:=fun i hi=>by rw [← ha1,eT,if_neg (fun e=>(hS i hi).1 e.1)]
 refine wp_seq (wp_region_list ?_)
 rw [e2]
 simp only [wpList]
 rw [if_pos (by simp [Region.wanted,g2])]
 refine .inl (aM (v:=vl) (w':=w) (by have h1:=hld;have h2:=vg;simp only [Array.getD_eq_getD_getElem?] at h1 h2;simp [execOp,p2,Act.eval,h2,h1]) ?_)
 rw [d2]
 generalize ha2:a1.put (some t2) vl=a2
 have s2:a2.tmps.size=a.tmps.size:=by rw [← ha2,mh,s1]
 have f2:a2.defers=a.defers:=by rw [← ha2,put_defers,f1]
 have v2:a2.tmps.getD t2 undef=vl:=by rw [← ha2,eT,if_pos ⟨rfl,by rw [s1];exact hlt.2.1⟩]
 have v2m:a2.tmps.getD im undef= .int .i64 1:=by rw [← ha2,eT,if_neg (fun e=>hd.2.2.1 e.1.symm),v1]
 have k2:Held S a a2:=fun i hi=>by rw [← ha2,eT,if_neg (fun e=>(hS i hi).2.1 e.1)];exact k1 i hi
 rw [if_pos (by simp [Region.wanted,g3])]
 refine .inl (aM (v:=a2.tmps.getD im undef) (w':=w) (by simp [execOp,p3,Act.eval]) ?_)
 rw [d3,v2m]
 generalize ha3:a2.put (some t3) (.int .i64 1)=a3
 have s3:a3.tmps.size=a.tmps.size:=by rw [← ha3,mh,s2]
 have f3:a3.defers=a.defers:=by rw [← ha3,put_defers,f2]
 have v3:a3.tmps.getD t3 undef= .int .i64 1:=by rw [← ha3,eT,if_pos ⟨rfl,by rw [s2];exact hlt.2.2.1⟩]
 have v32:a3.tmps.getD t2 undef=vl:=by rw [← ha3,eT,if_neg (fun e=>hd.2.1 e.1),v2]
 have k3:Held S a a3:=fun i hi=>by rw [← ha3,eT,if_neg (fun e=>(hS i hi).2.2.1 e.1)];exact k2 i hi
 rw [if_pos (by simp [Region.wanted,g4])]
 refine .inl ?_
 unfold Oper.wp
 have hrun:(execOp a3.eval o4).run P w= .ok (.enter f #[vl,.int .i64 1]) w:=by
  have:(execOp a3.eval o4).run P w=(callFunc f #[vl,.int .i64 1]).run P w:=by
   have hm:c.args.map a3.eval= #[vl,.int .i64 1]:=by
    rw [pa,show (#[Operand.tmp t2,.tmp t3]).map a3.eval= #[a3.tmps.getD t2 undef,a3.tmps.getD t3 undef] from by simp [Act.eval],v3,v32]
   rw [← hm]
   simp only [execOp,p4]
   simp [resolve,pc,Deferred.ofValue,Act.eval,invoke]
  rw [this,hcf]
 rw [hrun]
 simp only [Oper.upon]
 refine hcall.mono ?_
 rintro e w' ⟨M,rfl,hR⟩
 simp only
 rw [d4]
 generalize ha4:a3.put (some t4) (.int .i64 M)=a4
 have s4:a4.tmps.size=a.tmps.size:=by rw [← ha4,mh,s3]
 have f4:a4.defers=a.defers:=by rw [← ha4,put_defers,f3]
 have v4:a4.tmps.getD t4 undef= .int .i64 M:=by rw [← ha4,eT,if_pos ⟨rfl,by rw [s3];exact hlt.2.2.2⟩]
 have k4:Held S a a4:=fun i hi=>by rw [← ha4,eT,if_neg (fun e=>(hS i hi).2.2.2 e.1)];exact k3 i hi
 rw [if_pos (by simp [Region.wanted,g5])]
 refine .inl (aM (v:=a4.tmps.getD t4 undef) (w':=w') (by simp [execOp,p5,Act.eval]) ?_)
 simp only [Exit.then]
 rw [d5,v4]
 refine hN _ w' M hR ?_ ?_ ?_ ?_
 ·rw [eT,if_pos ⟨rfl,by rw [s4];exact hlt.1⟩]
 ·intro i hi;rw [eT,if_neg (fun e=>(hS i hi).1 e.1)];exact k4 i hi
 ·rw [put_defers,f4]
 ·rw [mh,s4]
structure ZO (P:Program) (T:Nat→Ty) (L:Nat) (fn:Func) (code:Code) (nA nB nC nD:Nat) (args:List AV) (lP lW lX lG:List Fact) (ig im:Nat) (cs:List SV) (xs xs':List AV) (M:Int) (f E:Nat):Prop where
 nod:((lP++lW++lX++lG).map (·.1)).Nodup∧ig∉(lP++lW++lX++lG).map (·.1)
 cells:sN cs xs
 good:(T E).good=true∧(T E).agg=true∧(T E).size=xs.length
 known:∀x∈lP++lW,x.2.2.md false=true
 sc:∀x∈lG,x.2.1=false∧x.2.2.scalar=true
 kB:bO ((lP++lW).map (·.1)) (bT nB (bN nA code))=true
 kA:bO [] (bT nA code)=true
 kC:bO ((lP++lW++lX).map (·.1)) (bT nC (bN nB (bN nA code)))=true
 kD:bO (ig::(lP++lW++lG).map (·.1)) (bT nD (bN nC (bN nB (bN nA code))))=true
 pA:mK T (dO P T L) L (bT nA code) (PhQ T fn.ntmps ⟨frS (lP++lW),frM (lP++lW),[]⟩ fn.results.toList) ((Fr.mk (aV 0 (args.map AR.d)) [] []).st fn.ntmps)
 pB:mK T (dO P T L) L (bT nB (bN nA code)) (PhQ T fn.ntmps ⟨frS lX,frM lX,[]⟩ fn.results.toList) ((Fr.mk (lP.map toO) [] []).st fn.ntmps)
 pC:mK T (dO P T L) L (bT nC (bN nB (bN nA code))) (PhQ T fn.ntmps ⟨(ig,.box ig 0 0)::frS lG,(ig,cs)::frM lG,[]⟩ fn.results.toList) ((Fr.mk ((lP++lW++lX).map toD) [] []).st fn.ntmps)
 pD:mK T (dO P T L) L (bT nD (bN nC (bN nB (bN nA code)))) (PhQ T fn.ntmps ⟨[],[],[]⟩ fn.results.toList) ((Fr.mk (((ig,true,.agg xs)::(lW++lG)).map toD++lX.map toS) [] []).st fn.ntmps)
 marks:TR P L f xs xs' M
 pE:∃oO oP id1 id2 t2 t3 t4 rest,bN nD (bN nC (bN nB (bN nA code)))= .seq (.region id1 oO false) (.seq (.region id2 oP false) rest)∧Fx E oO oP f ig im t2 t3 t4∧
  (im≠ig∧t2≠t3∧t2≠im∧t3≠im∧t4≠im)∧(∀i∈ig::(lP++lW++lG).map (·.1),i≠im∧i≠t2∧i≠t3∧i≠t4)∧(im < fn.ntmps∧t2 < fn.ntmps∧t3 < fn.ntmps∧t4 < fn.ntmps)∧bW rest=true∧
  mK T (dO P T L) L rest (oH T fn.results.toList (.d (.bool true))) ((Fr.mk ((im,.data (.int .i64 M))::((ig,true,.agg xs')::(lP++lW++lG)).map toD) [] []).st fn.ntmps)
end
open Go.RowKit
inductive mD (tk:List (Nat×Nat×List AV×Nat)):List SV→List AV→List Nat→Prop
 |nil:mD tk [] [] []
 |data {x:AV} {cs:List SV} {xs:List AV} {ts:List Nat} (h:x.scalar=true) (k:mD tk cs xs ts):mD tk (.data x::cs) (x::xs) ts
 |own {τ E:Nat} {l:List AV} {cs:List SV} {xs:List AV} {ts:List Nat} (h:look tk τ=some (E,l,2)) (hn:τ∉ts) (k:mD tk cs xs ts):mD tk (.own τ 0::cs) (.sl l::xs) (τ::ts)
theorem Rp {I:Nat→Prop} {w:World} {L:Nat} {x:AV} {u:Value} (hs:x.scalar=true) (h:aF I w L x u):bL w L x u []:=by
 cases x<;>simp_all [AV.scalar,aF,bL]
section
variable {T:Nat→Ty} {L:Nat} {w0:World} {I0:Bs}
theorem Gam.TS {s:St} {a:Act} {w:World} {c:Cx} (h:Gam T L w0 I0 s a w c) {d:Nat} {cells:List SV} {xs:List AV} {tk:List (Nat×Nat×List AV×Nat)} {ts:List Nat} (hs:s.get d= .box d 0 0) (hm:s.mem d=some (0,cells)) (hc:mD tk cells xs ts)
  (ht:∀τ x,look tk τ=some x→s.tok τ=some ⟨0,Nat.beq x.2.2 2,x.1,x.2.1, !Nat.beq x.2.2 0⟩) (hI0:∀b,I0 b→b < w0.heap.size) (hB:∀b,¬ I0.B b:=by exact fun _ h=>h):
  ∃b us bs,a.tmps.getD d undef= .pointer (some ⟨b,0,none⟩)∧w0.heap.size≤b∧b < w.heap.size∧eX w b∧(∀j u,us[j]? =some u→w.cell? ⟨b,j,none⟩=some u)∧mW w L xs us bs∧bs.Nodup∧(∀k∈bs,w0.heap.size≤k∧eX w k∧k < w.heap.size∧k≠b)∧∀k∈bs,∃τ∈ts,c.lin k=some τ:=by
 obtain⟨b,cs,E,k1,k2,k3,k4,k5⟩:=h.jB d 0 _ hm
 have hv:=h.slots d
 rw [hs] at hv
 simp only [ah] at hv
 obtain⟨g',cells',m1,_,m3⟩:=hv
 rw [hm] at m1;cases m1
 obtain⟨b',n1,n2⟩:=m3 rfl
 rw [k1] at n1;cases n1
 have hb:=h.wlt b (by simp [k2])
 have hcell:∀j u,cs[j]? =some u→w.cell? ⟨b,j,none⟩=some u:=fun j u hu=>by
  rw [cell_of_row w b j _ _ _ k3];simpa using hu
 have go:∀(cells:List SV) (xs:List AV) (ts:List Nat),mD tk cells xs ts→∀us:List Value,ak T c s.tok s.mem w L cells us→∃bs,mW w L xs us bs∧bs.Nodup∧∀k∈bs,c.I k∧∃τ∈ts,c.lin k=some τ∧w0.heap.size≤k:=by
  intro cells xs ts hn
  induction hn with
  |nil=>intro us hr;simp only [ak] at hr;exact⟨[],by subst hr;exact⟨rfl,rfl⟩,List.nodup_nil,fun _ h=>by simp at h⟩
  |data hsc _ ih=>
   intro us hr
   simp only [ak] at hr
   obtain⟨u,us',rfl,h1,h2⟩:=hr
   simp only [ah] at h1
   obtain⟨bs,q1,q2,q3⟩:=ih us' h2
   exact⟨bs,⟨u,us',[],bs,rfl,by simp,Rp hsc h1,q1⟩,q2,q3⟩
  |@own τ E l cs xs ts hl hn _ ih=>
   intro us hr
   simp only [ak] at hr
   obtain⟨u,us',rfl,h1,h2⟩:=hr
   obtain⟨bs,q1,q2,q3⟩:=ih us' h2
   have e2:=ht τ _ hl
   simp only [ah] at h1
   obtain⟨t,p1,_,p3⟩:=h1
   rw [e2] at p1;cases p1
   obtain⟨u',r1,r2,_⟩:=h.toks τ _ e2
   rw [p3 rfl] at r1;cases r1
   obtain⟨m1,_,m3⟩:=r2 rfl
   obtain⟨_,_,ys,bs1,n1,_,n2,n3,n4⟩:=m3 rfl
   refine⟨_,⟨u,us',_,bs,rfl,rfl,Ku (.sl l) _ _ m1 (Jo n1 n2),q1⟩,List.nodup_append.2 ⟨n3,q2,fun x hx y hy e=>?_⟩,fun k hk=>?_⟩
   ·subst e
    obtain⟨σ,s1,s2,_⟩:=(q3 x hy).2
    have:=(n4 x hx).2.1
    rw [s2] at this
    cases this
    exact hn s1
   ·rcases List.mem_append.1 hk with hk|hk
    ·exact⟨(n4 k hk).1,τ,by simp,(n4 k hk).2.1,(n4 k hk).2.2⟩
    ·obtain⟨j1,σ,j2,j3⟩:=q3 k hk
     exact⟨j1,σ,by simp [j2],j3⟩
 obtain⟨bs,q1,q2,q3⟩:=go _ _ _ hc cs k4
 refine⟨b,cs,bs,n2,hb.1.resolve_right (hB b),hb.2,fun o=>by simp [World.frozen?,k3],hcell,q1,q2,fun k hk=>?_,fun k hk=>by obtain⟨_,σ,h1,h2,_⟩:=q3 k hk;exact⟨σ,h1,h2⟩⟩
 obtain⟨hi,σ,_,_,hge⟩:=q3 k hk
 refine⟨hge,?_,h.ilt k hi,fun e=>?_⟩
 ·rcases h.wR k hi with hi'|hi'
  ·have:=hI0 k hi';omega
  ·exact hi'.2
 ·have:=h.jV k hi
  rw [e,k2] at this;cases this
theorem Gam.Vu {s:St} {a:Act} {w:World} {c:Cx} (h:Gam T L w0 I0 s a w c) {d:Nat} {cells:List SV} {xs:List AV} {tk:List (Nat×Nat×List AV×Nat)} {ts:List Nat} (hs:s.get d= .box d 0 0) (hm:s.mem d=some (0,cells)) (hc:mD tk cells xs ts)
  (ht:∀τ x,look tk τ=some x→s.tok τ=some ⟨0,Nat.beq x.2.2 2,x.1,x.2.1, !Nat.beq x.2.2 0⟩) (hI0:∀b,I0 b→b < w0.heap.size) (hB:∀b,¬ I0.B b:=by exact fun _ h=>h):
  ∃b us bs,a.tmps.getD d undef= .pointer (some ⟨b,0,none⟩)∧w0.heap.size≤b∧b < w.heap.size∧eX w b∧(∀j u,us[j]? =some u→w.cell? ⟨b,j,none⟩=some u)∧mW w L xs us bs∧bs.Nodup∧(∀k∈bs,w0.heap.size≤k∧eX w k∧k < w.heap.size∧k≠b):=by
 obtain⟨b,us,bs,h1,h2,h3,h4,h5,h6,h7,h8,_⟩:=h.TS hs hm hc ht hI0 hB
 exact⟨b,us,bs,h1,h2,h3,h4,h5,h6,h7,h8⟩
end
section
variable {P:Program} {T:Nat→Ty} {L:Nat} {w0:World} {I0:Bs}
structure Qz (P:Program) (T:Nat→Ty) (L:Nat) (fn:Func) (code:Code) (nA nB nC nD:Nat) (args:List AV) (lP lW lX lG:List Fact) (ig im:Nat) (cs:List SV) (tk:List (Nat×Nat×List AV×Nat)) (xs xs':List AV) (M:Int) (f E:Nat) (F:MF) (ok:List AV→Prop):Prop where
 nod:((lP++lW++lX++lG).map (·.1)).Nodup∧ig∉(lP++lW++lX++lG).map (·.1)
 cells:∃ts,mD tk cs xs ts
 good:(T E).good=true∧(T E).agg=true∧(T E).size=xs.length
 known:∀x∈lP++lW,x.2.2.md false=true
 sc:∀x∈lG,x.2.1=false∧x.2.2.scalar=true
 kB:bO ((lP++lW).map (·.1)) (bT nB (bN nA code))=true
 kA:bO [] (bT nA code)=true
 kC:bO ((lP++lW++lX).map (·.1)) (bT nC (bN nB (bN nA code)))=true
 kD:bO (ig::(lP++lW++lG).map (·.1)) (bT nD (bN nC (bN nB (bN nA code))))=true
 pA:mK T (dO P T L) L (bT nA code) (PhQ T fn.ntmps ⟨frS (lP++lW),frM (lP++lW),[]⟩ fn.results.toList) ((Fr.mk (aV 0 (args.map AR.d)) [] []).st fn.ntmps)
 pB:mK T (dO P T L) L (bT nB (bN nA code)) (PhQ T fn.ntmps ⟨frS lX,frM lX,[]⟩ fn.results.toList) ((Fr.mk (lP.map toO) [] []).st fn.ntmps)
 pC:mK T (dO P T L) L (bT nC (bN nB (bN nA code))) (PhQ T fn.ntmps ⟨(ig,.box ig 0 0)::frS lG,(ig,cs)::frM lG,tk⟩ fn.results.toList) ((Fr.mk ((lP++lW++lX).map toD) [] []).st fn.ntmps)
 pD:mK T (dO P T L) L (bT nD (bN nC (bN nB (bN nA code)))) (PhQ T fn.ntmps ⟨[],[],[]⟩ fn.results.toList) ((Fr.mk (((ig,true,.agg xs)::(lW++lG)).map toD++lX.map toS) [] []).st fn.ntmps)
 marks:Kw P L f F ok∧ok xs∧F xs 1=(xs',M)∧M≤4611686018427387904
 pE:∃oO oP id1 id2 t2 t3 t4 rest,bN nD (bN nC (bN nB (bN nA code)))= .seq (.region id1 oO false) (.seq (.region id2 oP false) rest)∧Fx E oO oP f ig im t2 t3 t4∧
  (im≠ig∧t2≠t3∧t2≠im∧t3≠im∧t4≠im)∧(∀i∈ig::(lP++lW++lG).map (·.1),i≠im∧i≠t2∧i≠t3∧i≠t4)∧(im < fn.ntmps∧t2 < fn.ntmps∧t3 < fn.ntmps∧t4 < fn.ntmps)∧bW rest=true∧
  mK T (dO P T L) L rest (oH T fn.results.toList (.d (.bool true))) ((Fr.mk ((im,.data (.int .i64 M))::((ig,true,.agg xs')::(lP++lW++lG)).map toD) [] []).st fn.ntmps)
theorem Pf (hT:aW P T) (hL1:1000≤L) (hL2:L≤2 ^ 38) (hm:P.follows .mixedOrders=true) {fid:Nat} {fn:Func} {code:Code} (hf:P.funcs[fid]? =some fn) (hb:fn.body=some code)
  {nA nB nC nD:Nat} {args:List AV} {lP lW lX lG:List Fact} {ig im:Nat} {cs:List SV} {tk:List (Nat×Nat×List AV×Nat)} {xs xs':List AV} {M:Int} {f E:Nat} {F:MF} {ok:List AV→Prop} (h:Qz P T L fn code nA nB nC nD args lP lW lX lG ig im cs tk xs xs' M f E F ok) (hlen:args.length≤fn.ntmps)
  {w:World} {vs:List Value} (hargs:aN (aF (fun b=>b < w.heap.size) w L) args vs):Calls P fid vs.toArray w fun e w'=>e= .returned (.bool true)∧Below w.heap.size w w':=by
 refine calls_of_wp hf hb ?_
 have hvl:=hargs.length
 generalize ha0:({ tmps:=vs.toArray++Array.replicate (fn.ntmps - vs.toArray.size) undef,defers:=[] }:Act)=a0
 have Xj:a0.tmps.size=fn.ntmps:=by rw [← ha0];simp;omega
 have Xk:a0.defers= []:=by rw [← ha0]
 have start:∀(args:List AV) (vs:List Value) (i:Nat),aN (aF (fun b=>b < w.heap.size) w L) args vs→(∀k v,vs[k]? =some v→a0.tmps.getD (i+k) undef=v)→zV T (fun b=>b < w.heap.size) (fun _=>False) (fun _=>False) false w L a0 (aV i (args.map AR.d)):=by
  intro args
  induction args with
  |nil=>intro vs i _ _;trivial
  |cons x args ih=>
   intro vs i hr hg
   cases vs with
   |nil=>exact hr.elim
   |cons v vs=>
    refine⟨?_,ih vs (i+1) hr.2 fun k u hu=>?_⟩
    ·simp only [ah,cx0]
     have:=hg 0 v rfl
     rw [Nat.add_zero] at this
     rw [this];exact hr.1
    ·have:=hg (k+1) u (by simpa using hu)
     rwa [show i+(k+1)=i+1+k by omega] at this
 have hs0:=start args vs 0 hargs fun k v hv=>by
  rw [← ha0,Nat.zero_add]
  have hlt:=(List.getElem?_eq_some_iff.1 hv).1
  rw [Array.getD_eq_getD_getElem?,Array.getElem?_append_left (by simpa using hlt)]
  simp at hv ⊢
  simp [hv]
 obtain⟨ZP,hig⟩:=h.nod
 have Yq:=(IU (by simpa using ZP:((lP++lW++lX).map (·.1)++lG.map (·.1)).Nodup))
 have nPW:=(IU (by simpa using Yq.1:((lP++lW).map (·.1)++lX.map (·.1)).Nodup))
 have Dr:∀{l:List Fact} {x:Fact},x∈l→x.1∈l.map (·.1):=fun hx=>List.mem_map.2 ⟨_,hx,rfl⟩
 refine phase hT hL1 hL2 hm nA [] _ ⟨frS (lP++lW),frM (lP++lW),[]⟩ (Gam.begin Xj Xk (fun b h=>h) (fun b h=>h.elim) (fun b h=>h.elim) nofun nofun hs0) h.kA h.pA ?_ (fun w' hb=>⟨rfl,hb.vo⟩)
 intro a1 w1 c1 g1 _
 have b1:Below w.heap.size w w1:=((show c1.M=_ from g1.om) ▸ g1.below:Turn _ w w1).vo
 have F1:=Gam.facts (pre:=[]) g1 nPW.1 (fun _ _ p hp=>by simp at hp)
 have F1':oz L (fun b=>b < w1.heap.size) w1 a1 (lP++lW):=F1.mono (S:=(lP++lW).map (·.1)) (fun b h=>h.2) (fun _ _ _=>rfl) .refl fun _=>Dr
 have s1:a1.tmps.size=fn.ntmps:=by have:=g1.size;simpa [Fr.st] using this
 refine phase hT hL1 hL2 hm nB ((lP++lW).map (·.1)) _ ⟨frS lX,frM lX,[]⟩ (Gam.begin (I:=fun _=>False) (J:=fun _=>False) (O:=fun b=>b < w1.heap.size) (mt:=false) s1 g1.defers (fun b h=>h.elim) (fun b h=>h.elim) (fun b h=>h) nofun nofun (TB (F1'.sub fun x hx=>List.mem_append_left _ hx) fun x hx=>h.known x (List.mem_append_left _ hx))) h.kB h.pB ?_ (fun w' hb=>⟨rfl,b1.trans (hb.vo.mono b1.size)⟩)
 intro a2 w2 c2 g2 hh2
 have b2:Below w1.heap.size w1 w2:=((show c2.M=_ from g2.om) ▸ g2.below:Turn _ w1 w2).vo
 have F2:=Gam.facts (pre:=[]) g2 nPW.2.1 (fun _ _ p hp=>by simp at hp)
 generalize Yr:(fun b=>(w1.heap.size≤b∧eX w2 b)∧b < w2.heap.size)=X
 have hX:∀b,X b↔(w1.heap.size≤b∧eX w2 b)∧b < w2.heap.size:=fun b=>by rw [← Yr]
 have F2X:oz L X w2 a2 lX:=F2.mono (S:=lX.map (·.1)) (fun b h=>(hX b).2 ⟨h.1.resolve_left id,h.2⟩) (fun _ _ _=>rfl) .refl fun _=>Dr
 have F2P:oz L (fun b=>b < w1.heap.size) w2 a2 (lP++lW):=F1'.mono (fun b h=>h) (fun b o hb=>b2.cell (p:=⟨b,o,none⟩) hb) hh2 fun _=>Dr
 have s2:a2.tmps.size=fn.ntmps:=by have:=g2.size;simpa [Fr.st] using this
 have Yt:oz L (fun b=>b < w2.heap.size) w2 a2 (lP++lW++lX):=
  (F2P.mono (S:=(lP++lW).map (·.1)) (fun b hb=>Nat.lt_of_lt_of_le hb b2.size) (fun _ _ _=>rfl) .refl fun _=>Dr).append (F2X.mono (S:=lX.map (·.1)) (fun b hb=>((hX b).1 hb).2) (fun _ _ _=>rfl) .refl fun _=>Dr)
 have B2:Below w.heap.size w w2:=b1.trans (b2.mono b1.size)
 refine phase hT hL1 hL2 hm nC ((lP++lW++lX).map (·.1)) _ ⟨(ig,.box ig 0 0)::frS lG,(ig,cs)::frM lG,tk⟩ (Gam.begin (I:=fun b=>b < w2.heap.size) (J:=fun _=>False) (O:=fun _=>False) (mt:=false) s2 g2.defers (fun b h=>h) (fun b h=>h.elim) (fun b h=>h.elim) nofun nofun (Kr Yt)) h.kC h.pC ?_ (fun w' hb=>⟨rfl,B2.trans (hb.vo.mono B2.size)⟩)
 intro a3 w3 c3 g3 hh3
 have b3:Below w2.heap.size w2 w3:=((show c3.M=_ from g3.om) ▸ g3.below:Turn _ w2 w3).vo
 have B3:Below w.heap.size w w3:=B2.trans (b3.mono B2.size)
 have s3:a3.tmps.size=fn.ntmps:=by have:=g3.size;simpa [Fr.st] using this
 have hgm:((Fr.mk ((ig,.box ig 0 0)::frS lG) ((ig,cs)::frM lG) tk).st fn.ntmps).mem ig=some (0,cs):=by simp [Fr.st,look]
 have hgs:((Fr.mk ((ig,.box ig 0 0)::frS lG) ((ig,cs)::frM lG) tk).st fn.ntmps).get ig= .box ig 0 0:=by simp [Fr.st,look]
 obtain⟨ts,hcells⟩:=h.cells
 obtain⟨bk,us,bs,hp,hbk,hblt,hbs,TT,hsep,hnd,hbb⟩:=g3.Vu hgs hgm hcells (fun τ x hx=>by simp [Fr.st,hx]) (fun b hb=>hb)
 have F3G:oz L (fun b=>b < w3.heap.size) w3 a3 lG:=by
  intro x hx
  obtain⟨k1,k2⟩:=h.sc x hx
  have hne:ig≠x.1:=by
   rintro rfl
   exact hig (Dr (List.mem_append_right _ hx))
  have hs:=g3.slots x.1
  have e:((Fr.mk ((ig,.box ig 0 0)::frS lG) ((ig,cs)::frM lG) tk).st fn.ntmps).get x.1= .data x.2.2:=by
   have:=Fj Yq.2.1 x hx
   simp only [Fr.st,List.cons_append,look]
   rw [lM hne.symm]
   simp only [cond_false]
   rw [this]
   simp only [frV,k1,cond_false]
  rw [e] at hs
  simp only [ah] at hs
  unfold Fct
  simp only [k1]
  exact Fq k2 hs
 have F3P:oz L (fun b=>b < w1.heap.size) w3 a3 (lP++lW):=F2P.mono (fun b h=>h) (fun b o hb=>b3.cell (p:=⟨b,o,none⟩) (Nat.lt_of_lt_of_le hb b2.size)) hh3 fun x hx=>Dr (List.mem_append_left _ hx)
 have F3X:oz L X w3 a3 lX:=F2X.mono (fun b h=>h) (fun b o hb=>b3.cell (p:=⟨b,o,none⟩) ((hX b).1 hb).2) hh3 fun x hx=>Dr (List.mem_append_right _ hx)
 have Xlt:∀b,X b→b < w2.heap.size∧w1.heap.size≤b:=fun b hb=>⟨((hX b).1 hb).2,((hX b).1 hb).1.1⟩
 have hbX:¬ X bk:=fun hx=>by have:=Xlt bk hx;omega
 have hF4:oz L (fun b=>b < w3.heap.size∧¬ X b) w3 a3 ((ig,true,.agg xs)::(lW++lG)):=by
  intro x hx
  rcases List.mem_cons.1 hx with rfl|hx
  ·exact⟨bk,hp,⟨hblt,hbX⟩,Kz (mW.rep (I:=fun b=>b < w3.heap.size∧¬ X b) (fun b hb=>⟨(hbb b hb).2.2.1,fun hx=>by have:=Xlt b hx;have:=(hbb b hb).1;omega⟩) hsep) (fun j u hu=>by rw [Nat.zero_add];exact TT j u hu)⟩
  ·rcases List.mem_append.1 hx with hx|hx
   ·exact (F3P.mono (S:=(lP++lW).map (·.1)) (I':=fun b=>b < w3.heap.size∧¬ X b) (fun b hb=>⟨by have:=b2.size;have:=b3.size;omega,fun hx=>by have:=Xlt b hx;omega⟩) (fun _ _ _=>rfl) .refl fun _=>Dr) x (List.mem_append_right _ hx)
   ·obtain⟨k1,k2⟩:=h.sc x hx
    have:=F3G x hx
    unfold Fct at this ⊢
    simp only [k1] at this ⊢
    exact Fq k2 this
 refine phase hT hL1 hL2 hm nD (ig::(lP++lW++lG).map (·.1)) _ ⟨[],[],[]⟩ (Gam.begin (I:=fun b=>b < w3.heap.size∧¬ X b) (J:=fun _=>False) (O:=X) (mt:=true) s3 g3.defers (fun b h=>h.1) (fun b h=>h.elim) (fun b hb=>Nat.lt_of_lt_of_le (Xlt b hb).1 b3.size)
  (fun _ b hb=>((hX b).1 hb).1.2.same (b3.block b (Xlt b hb).1)) (fun _ b hb=>hb.elim (fun hi=>hi.2) (fun hj=>hj.elim)) ((Kr hF4:zV T _ (fun _=>False) X true w3 L a3 _).append (TD F3X))) h.kD h.pD ?_ ?_
 rotate_left
 ·intro w' ht
  refine⟨rfl,B3.trans ⟨ht.os,ht.tape,ht.output,ht.size,fun k hk=>ht.block k (Nat.lt_of_lt_of_le hk B3.size) fun hx=>?_⟩⟩
  have:=(Xlt k hx.1).2;have:=b1.size;omega
 intro a4 w4 c4 g4 hh4
 have t4:Turn (fun b=>X b∧true=true) w3 w4:=by have:=g4.below;rw [g4.om] at this;exact this
 have B4:Below w.heap.size w w4:=B3.trans ⟨t4.os,t4.tape,t4.output,t4.size,fun k hk=>t4.block k (Nat.lt_of_lt_of_le hk B3.size) fun hx=>by have:=(Xlt k hx.1).2;have:=b1.size;omega⟩
 have s4:a4.tmps.size=fn.ntmps:=by have:=g4.size;simpa [Fr.st] using this
 have TU:∀b o,b < w3.heap.size→¬ X b→w4.cell? ⟨b,o,none⟩=w3.cell? ⟨b,o,none⟩:=fun b o hb hx=>t4.cell? hb fun h=>hx h.1
 have Yu:bk < w4.heap.size:=Nat.lt_of_lt_of_le hblt t4.size
 have ZQ:∀b,b < w3.heap.size→¬ X b→eX w3 b→eX w4 b:=fun b hb hx ht=>ht.same (t4.block b hb fun h=>hx h.1)
 have Yv:∀b∈bs,eX w4 b∧b < w4.heap.size:=fun b hb=>by
  obtain⟨q1,q2,q3,_⟩:=hbb b hb
  exact⟨ZQ b q3 (fun hx=>by have:=Xlt b hx;omega) q2,Nat.lt_of_lt_of_le q3 t4.size⟩
 have Yw:mW w4 L xs us bs:=mW.mono (fun b hb o=>TU b o (hbb b hb).2.2.1 fun hx=>by have:=Xlt b hx;have:=(hbb b hb).1;omega) hsep
 have hp4:a4.tmps.getD ig undef= .pointer (some ⟨bk,0,none⟩):=by rw [hh4 ig (by simp)];exact hp
 have F4P:oz L (fun b=>b < w1.heap.size) w4 a4 (lP++lW):=F3P.mono (fun b h=>h) (fun b o hb=>TU b o (by have:=b2.size;have:=b3.size;omega) fun hx=>by have:=Xlt b hx;omega) hh4 fun x hx=>List.mem_cons_of_mem _ (Dr (List.mem_append_left _ hx))
 obtain⟨oO,oP,id1,id2,t2,t3,t4',rest,hcode,hops,hd,hS,hlt,hpl,hF⟩:=h.pE
 rw [hcode]
 have hlen:us.length=(T E).size:=by rw [h.good.2.2];exact hsep.length.symm
 have u2:∀j u,us[j]? =some u→w4.cell? ⟨bk,0+j,none⟩=some u:=fun j u hu=>by rw [Nat.zero_add,TU bk j hblt hbX];exact TT j u hu
 have hld:=run_load (P:=P) (w:=w4) hT h.good.1 (b:=bk) (off:=0) (vs:=us) hlen u2
 rw [h.good.2.1, ← hp4] at hld
 simp only [if_true] at hld
 obtain⟨hms,TN,hFl,hMb⟩:=h.marks
 refine Pe hops hd hS (by rw [s4];exact hlt) hms.1 (vl:=.agg us.toArray) (R:=fun M' w'=>M'=M∧Only bs w4 w'∧mW w' L xs' us bs) hld ((hms.2 w4 us bs xs 1 TN Yw hnd Yv (by omega) (by rw [hFl];exact hMb)).mono ?_) ?_
 ·rintro e w' ⟨rfl,k1,k2⟩
  rw [hFl] at k2 ⊢
  exact⟨M,rfl,rfl,k1,k2⟩
 rintro a5 w5 M' ⟨rfl,k1,k2⟩ him hh5 ZR hsz5
 have k4:=k1.size
 have Wd:∀k,k < w2.heap.size→w5.heap[k]? =w4.heap[k]? :=fun k hk=>k1.block k (by have:=b3.size;have:=t4.size;omega) fun hm=>by have:=(hbb k hm).1;omega
 have rc5:aX (fun b=>b < w5.heap.size) w5 L bk xs' 0:=by
  refine Kz (mW.rep (fun b hb=>Nat.lt_of_lt_of_le (Yv b hb).2 k4) k2) fun j u hu=>?_
  rw [← u2 j u hu]
  exact World.cell?_of_block (k1.block bk Yu fun hm=>(hbb bk hm).2.2.2 rfl)
 have B5:Below w.heap.size w w5:=B4.trans ⟨k1.os,k1.tape,k1.output,by have:=B4.size;omega,fun k hk=>Wd k (by have:=B2.size;omega)⟩
 have F5P:oz L (fun b=>b < w5.heap.size) w5 a5 (lP++lW):=F4P.mono (S:=ig::(lP++lW++lG).map (·.1)) (fun b hb=>by have:=b2.size;have:=b3.size;have:=t4.size;omega) (fun b o hb=>World.cell?_of_block (Wd b (by have:=b2.size;omega))) hh5 fun x hx=>List.mem_cons_of_mem _ (Dr (List.mem_append_left _ hx))
 have hF5:oz L (fun b=>b < w5.heap.size) w5 a5 ((ig,true,.agg xs')::(lP++lW++lG)):=by
  intro x hx
  rcases List.mem_cons.1 hx with rfl|hx
  ·exact⟨bk,by rw [hh5 ig (by simp)];exact hp4,Nat.lt_of_lt_of_le Yu k4,rc5⟩
  ·rcases List.mem_append.1 hx with hx|hx
   ·exact F5P x hx
   ·obtain⟨j1,j2⟩:=h.sc x hx
    have:=F3G x hx
    unfold Fct at this ⊢
    simp only [j1] at this ⊢
    have hin:x.1∈ig::(lP++lW++lG).map (·.1):=List.mem_cons_of_mem _ (Dr (List.mem_append_right _ hx))
    rw [hh5 _ hin,hh4 _ hin]
    exact Fq j2 this
 have g4s:=g4.defers
 refine OQ hT hL1 hL2 hm ((im,.data (.int .i64 M'))::((ig,true,.agg xs')::(lP++lW++lG)).map toD) (Gam.begin (I:=fun b=>b < w5.heap.size) (J:=fun _=>False) (O:=fun _=>False) (mt:=false) (by rw [hsz5,s4]) (by rw [ZR,g4s]) (fun b h=>h) (fun b h=>h.elim) (fun b h=>h.elim) nofun nofun ⟨?_,Kr hF5⟩) hpl hF (fun w' hb=>⟨rfl,B5.trans (hb.vo.mono B5.size)⟩)
 simp only [ah,cx0,aF]
 exact him
end
end Go.Proofs.YtpfgedlimdeffaaGreat.Abs
