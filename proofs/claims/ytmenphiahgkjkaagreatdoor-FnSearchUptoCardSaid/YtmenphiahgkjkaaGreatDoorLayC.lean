/- One contract from another: what a result is taken for. -/
import Derived.Test.YtmenphiahgkjkaaGreatDoorLayB
import Derived.Test.YtmenphiahgkjkaaGreatDoorPlain
import Derived.Sort.Row
import Derived.Laws.IdiomCopy
import Derived.Laws.Tables
set_option linter.all false
namespace Go.Proofs.YtmenphiahgkjkaaGreatDoor.Abs
open Go.RowKit
section
variable {P:Program} {T:Nat→Ty} {L f E:Nat} {args:List AR} {l:List AV}
theorem Contract.xO (h:Contract P T L f args (.own E l)) (hz:GZ (T E).zero=true):Contract P T L f args (.lin E l):=
 ⟨h.1,fun I J O mt w vs a b c d e g=>(h.2 I J O mt w vs a b c d e g).mono (by
  rintro en w' ⟨v,e1,t,I',bs,k1,k2,k3,k4,k5⟩
  refine⟨v,e1,t,I',bs,k1,k2,k3,k4,?_⟩
  simp only [fF] at k5 ⊢
  obtain⟨rfl,hl,hg,hf,xs,m1,m2⟩:=k5
  have ho:=nR hz hf m2
  exact⟨hl,hg,hf,xs,[],by simp,m1,bE.own (fun _ h=>by simp at h) m2 ho,ho,fun _ h=>by simp at h⟩)⟩
theorem Contract.abC (h:Contract P T L f args (.lin E l)):Contract P T L f args (.fr l):=
 ⟨h.1,fun I J O mt w vs a b c d e g=>(h.2 I J O mt w vs a b c d e g).mono (by
  rintro en w' ⟨v,e1,t,I',bs,k1,k2,k3,k4,k5⟩
  simp only [fF] at k5
  obtain⟨hl,hg,hf,xs,bs',rfl,m1,m2,m3,m4⟩:=k5
  refine⟨v,e1,t,fun b=>I' b∨b∈v.ownBlock.toList++bs',[],fun b hb=>.inl (k1 b hb),?_,List.nodup_nil,fun _ hb=>by simp at hb,?_⟩
  ·rintro k (hk|hk)
   ·exact k2 k hk
   ·have h4:=k4 k hk
    refine .inr ⟨h4.2.1,h4.2.2,?_⟩
    rcases List.mem_append.1 hk with hk|hk
    ·exact JI m1 (by simpa using hk)
    ·exact m4 k hk
  ·simp only [fF,true_and]
   refine⟨JJ rfl hl m1 (bE.own (fun k hk=>.inr (List.mem_append_right _ hk)) m2 m3) (fun k hk=>.inr (List.mem_append_left _ (by simpa using hk))),fun k hk=>?_⟩
   exact (k4 k (List.mem_append_left _ (by simpa using hk))).2.1)⟩
end
open Go.RowKit
def WL (S:List Nat):Option Nat→Bool
 |some d=> !S.contains d
 |none=>true
theorem Za {S:List Nat} {d:Option Nat} (h:WL S d=true) {i:Nat} (hi:i∈S):d≠some i:=by
 rintro rfl
 simp only [WL,Bool.not_eq_true',List.contains_eq_mem,decide_eq_false_iff_not] at h
 exact h hi
def Held (S:List Nat) (a a':Act):Prop:=∀i∈S,a'.tmps.getD i undef=a.tmps.getD i undef
theorem Held.put {S:List Nat} {a a':Act} (h:Held S a a') {d:Option Nat} (hd:WL S d=true) (v:Value):Held S a (a'.put d v):=by
 intro i hi
 rw [← h i hi]
 cases d with
 |none=>rfl
 |some d=>
  simp only [Act.put,RH]
  rw [if_neg]
  rintro⟨rfl,_⟩
  exact Za hd hi rfl
section
variable {P:Program} {S:List Nat} {a0:Act}
def HQ (S:List Nat) (a0:Act) (Q:Exit→Act→World→Prop):Exit→Act→World→Prop:=fun e a w=>Q e a w∧(e= .normal→Held S a0 a)
end
def zO (S:List Nat):Code→Bool
 | .skip| .ret| .exit _| .label _=>true
 | .seq a b=>zO S a&&zO S b
 | .cond _ a b=>zO S a&&zO S b
 | .region _ ops _=>ops.toList.all fun o=>WL S o.dst
 |_=>false
def ET:Nat→Code→Code
 |0,_=>.skip
 |n+1,.seq a b=>.seq a (ET n b)
 |_+1,_=>.goto 0
def qJ:Nat→Code→Code
 |0,c=>c
 |n+1,.seq _ b=>qJ n b
 |_+1,_=>.skip
section
variable {P:Program} {T:Nat→Ty} {L:Nat} {w0:World} {I0:Bs} {S:List Nat}
theorem Held.refl {a:Act}:Held S a a:=fun _ _=>rfl
theorem Held.trans {a b c:Act} (h:Held S a b) (k:Held S b c):Held S a c:=fun i hi=>(k i hi).trans (h i hi)
def PhQ (T:Nat→Ty) (nt:Nat) (fr:Fr) (rs:List ResultVar) (e:AX) (s:St):Prop:=
 match e with
 | .normal=>s.n=nt∧Weak T s fr
 |e=>DU T rs (.d (.bool true)) e s
def cx0 (I J O:Nat→Prop) (mt:Bool) (w:World):Cx:={ β:=fun _=>none,ω:=fun _=>none,I:=I,J:=J,O:=O,mt:=mt,base:=w.heap.size,who:=fun _=>none,lin:=fun _=>none,As:=fun _ _=>none }
def XF (T:Nat→Ty) (I J O:Nat→Prop) (mt:Bool) (w:World) (L:Nat) (a:Act):List (Nat×SV)→Prop
 |[]=>True
 |(i,v)::r=>aj T (cx0 I J O mt w) (fun _=>none) (fun _=>none) w L v (a.tmps.getD i undef)∧XF T I J O mt w L a r
end
open Go.RowKit
abbrev Fact:=Nat×Bool×AV
def Fct (L:Nat) (I:Nat→Prop) (w:World) (a:Act) (f:Fact):Prop:=
 match f.2.1 with
 |false=>aI I w L f.2.2 (a.tmps.getD f.1 undef)
 |true=>∃b,a.tmps.getD f.1 undef= .pointer (some ⟨b,0,none⟩)∧I b∧cB I w L b f.2.2.cells 0
def MW (L:Nat) (I:Nat→Prop) (w:World) (a:Act) (l:List Fact):Prop:=∀f∈l,Fct L I w a f
def toD (f:Fact):Nat×SV:=(f.1,bif f.2.1 then .ref f.2.2 else .data f.2.2)
def toO (f:Fact):Nat×SV:=(f.1,bif f.2.1 then .dU f.2.2 else yO f.2.2)
def toS (f:Fact):Nat×SV:=(f.1,bif f.2.1 then .dU f.2.2.shape else .old f.2.2.shape)
def frV (f:Fact):SV:=bif f.2.1 then .box f.1 0 0 else .data f.2.2
def frS (l:List Fact):List (Nat×SV):=l.map fun f=>(f.1,frV f)
def frM:List Fact→List (Nat×List SV)
 |[]=>[]
 |(i,true,x)::r=>(i,x.cells.map .data)::frM r
 |(_,false,_)::r=>frM r
theorem MW.mono {L:Nat} {I I':Nat→Prop} {w w':World} {a a':Act} {l:List Fact} {S:List Nat} (h:MW L I w a l) (hI:∀b,I b→I' b) (hw:∀b o,I b→w'.cell? ⟨b,o,none⟩=w.cell? ⟨b,o,none⟩) (hh:Held S a a') (hS:∀f∈l,f.1∈S):MW L I' w' a' l:=by
 intro f hf
 have h:=h f hf
 unfold Fct at h ⊢
 rw [hh _ (hS f hf)]
 cases hb:f.2.1 with
 |false=>simp only [hb] at h ⊢;exact h.mono hI hw
 |true=>
  simp only [hb] at h ⊢
  obtain⟨b,h1,h2,h3⟩:=h
  exact⟨b,h1,hI b h2,cB.mono hI hw b (fun o=>hw b o h2) _ _ h3⟩
theorem MW.append {L:Nat} {I:Nat→Prop} {w:World} {a:Act} {l m:List Fact} (h:MW L I w a l) (k:MW L I w a m):MW L I w a (l++m):=fun f hf=>(List.mem_append.1 hf).elim (h f) (k f)
section
variable {T:Nat→Ty} {L:Nat} {I J O:Nat→Prop} {mt:Bool} {w:World} {a:Act}
theorem XF.append:∀{l m:List (Nat×SV)},XF T I J O mt w L a l→XF T I J O mt w L a m→XF T I J O mt w L a (l++m)
 |[],_,_,h=>h
 |_::_,_,h,k=>⟨h.1,XF.append h.2 k⟩
end
section
variable {P:Program} {T:Nat→Ty} {L:Nat} {w0:World} {I0:Bs}
section
variable {I I':Nat→Prop} {w:World}
end
def aai (P:Program) (L f:Nat) (l l':List AV) (M:Int):Prop:=
 (∀(vs:Array Value) (w:World),(callFunc f vs).run P w= .ok (.enter f vs) w)∧
 ∀(G:Nat→Prop) (w:World) (v:Value),(∀b,G b→b < w.heap.size∧sG w b)→aI G w L (.sl l) v→Calls P f #[v,.int .i64 1] w fun e w'=>e= .returned (.int .i64 M)∧
  w'.os=w.os∧w'.tape=w.tape∧w'.output=w.output∧w'.heap.size=w.heap.size∧(∀k,(l≠[]→v.ownBlock≠some k)→w'.heap[k]? =w.heap[k]?)∧aI G w' L (.sl l') v
structure aaj (aak aal:Array Oper) (f ig im t2 t3 t4:Nat):Prop where
 l1:∃o1,aak.toList= [o1]∧o1.guard=none∧o1.op= .assign (.const (.int .i64 1))∧o1.dst=some im
 l2:∃o2 o3 o4 o5 c,aal.toList= [o2,o3,o4,o5]∧o2.guard=none∧o3.guard=none∧o4.guard=none∧o5.guard=none∧
  o2.op= .move (.tmp ig)∧o2.dst=some t2∧o3.op= .move (.tmp im)∧o3.dst=some t3∧o4.op= .call c∧c.callee= .value (.func f)∧c.args= #[.tmp t2,.tmp t3]∧o4.dst=some t4∧o5.op= .assign (.tmp t4)∧o5.dst=some im
structure adh (P:Program) (T:Nat→Ty) (L:Nat) (fn:Func) (code:Code) (nA nB nC nD:Nat) (args:List AV) (lP lW lX lG:List Fact) (ig im:Nat) (lg lg':List AV) (M:Int) (f:Nat):Prop where
 nod:((lP++lW++lX++lG).map (·.1)).Nodup∧ig∉(lP++lW++lX++lG).map (·.1)
 flat:AV.vP lg=true
 known:∀x∈lP++lW,x.2.2.md false=true
 sc:∀x∈lG,x.2.1=false∧x.2.2.scalar=true
 kB:zO ((lP++lW).map (·.1)) (ET nB (qJ nA code))=true
 kA:zO [] (ET nA code)=true
 kC:zO ((lP++lW++lX).map (·.1)) (ET nC (qJ nB (qJ nA code)))=true
 kD:zO (ig::(lP++lW++lG).map (·.1)) (ET nD (qJ nC (qJ nB (qJ nA code))))=true
 pA:CQ T (kH P T L) L (ET nA code) (PhQ T fn.ntmps ⟨frS (lP++lW),frM (lP++lW),[]⟩ fn.results.toList) ((Fr.mk (bW 0 (args.map AR.d)) [] []).st fn.ntmps)
 pB:CQ T (kH P T L) L (ET nB (qJ nA code)) (PhQ T fn.ntmps ⟨frS lX,frM lX,[]⟩ fn.results.toList) ((Fr.mk (lP.map toO) [] []).st fn.ntmps)
 pC:CQ T (kH P T L) L (ET nC (qJ nB (qJ nA code))) (PhQ T fn.ntmps ⟨(ig,.fr lg)::frS lG,frM lG,[]⟩ fn.results.toList) ((Fr.mk ((lP++lW++lX).map toD) [] []).st fn.ntmps)
 pD:CQ T (kH P T L) L (ET nD (qJ nC (qJ nB (qJ nA code)))) (PhQ T fn.ntmps ⟨[],[],[]⟩ fn.results.toList) ((Fr.mk (((ig,false,.sl lg)::(lW++lG)).map toD++lX.map toS) [] []).st fn.ntmps)
 marks:aai P L f lg lg' M
 pE:∃aak aal id1 id2 t2 t3 t4 rest,qJ nD (qJ nC (qJ nB (qJ nA code)))= .seq (.region id1 aak false) (.seq (.region id2 aal false) rest)∧aaj aak aal f ig im t2 t3 t4∧
  (im≠ig∧t2≠t3∧t2≠im∧t3≠im∧t4≠im)∧(∀i∈ig::(lP++lW++lG).map (·.1),i≠im∧i≠t2∧i≠t3∧i≠t4)∧(im < fn.ntmps∧t2 < fn.ntmps∧t3 < fn.ntmps∧t4 < fn.ntmps)∧iw rest=true∧
  CQ T (kH P T L) L rest (DU T fn.results.toList (.d (.bool true))) ((Fr.mk ((im,.data (.int .i64 M))::((ig,false,.sl lg')::(lP++lW++lG)).map toD) [] []).st fn.ntmps)
theorem Below.wide {N M:Nat} {a b:World} (h:Below N a b) (hM:M≤N):Below M a b:=h.mono hM
theorem MW.sub {L:Nat} {I:Nat→Prop} {w:World} {a:Act} {l m:List Fact} (h:MW L I w a l) (hs:∀f∈m,f∈l):MW L I w a m:=fun f hf=>h f (hs f hf)
end
open Go.RowKit
structure DW (E sz:Nat) (w W:World) (b cap:Nat) (F:List Int):Prop where
 os:W.os=w.os
 tape:W.tape=w.tape
 output:W.output=w.output
 size:w.heap.size≤W.heap.size
 drawn:w.drawn≤W.drawn
 lt:b < w.heap.size
 other:∀k,k < w.heap.size→k≠b→W.heap[k]? =w.heap[k]?
 row:∃cur,W.heap[b]? =some (.cells cur E (0,0))∧cur.size=cap*sz∧F.length≤cap*sz∧∀(j:Nat) (x:Int),F[j]? =some x→cur[j]? =some (.int .i64 x)
section
variable {E sz:Nat} {w W W':World} {b cap:Nat} {F:List Int}
theorem DW.cell (h:DW E sz w W b cap F) {j:Nat} {x:Int} (hj:F[j]? =some x):W.cell? ⟨b,j,none⟩=some (.int .i64 x):=by
 obtain⟨cur,h1,h2,h3,h4⟩:=h.row
 rw [cell_of_row W b j cur E _ h1];exact h4 j x hj
theorem DW.frozen (h:DW E sz w W b cap F) (j:Nat):W.frozen? ⟨b,j,none⟩=false:=by
 obtain⟨cur,h1,_⟩:=h.row
 simp [World.frozen?,h1]
theorem DW.ltW (h:DW E sz w W b cap F):b < W.heap.size:=Nat.lt_of_lt_of_le h.lt h.size
theorem DW.below (h:DW E sz w W b cap F) (k:Quiet W W'):DW E sz w W' b cap F:=by
 refine⟨k.os.trans h.os,k.tape.trans h.tape,k.output.trans h.output,Nat.le_trans h.size k.size,Nat.le_trans h.drawn k.drawn,h.lt,fun i hi hb=>(k.block i (Nat.lt_of_lt_of_le hi h.size) id).trans (h.other i hi hb),?_⟩
 obtain⟨cur,h1,h2⟩:=h.row
 exact⟨cur,by rw [k.block b h.ltW id];exact h1,h2⟩
theorem DW.set (h:DW E sz w W b cap F) {j:Nat} {x:Int} (hj:j < F.length):DW E sz w (W.setCell ⟨b,j,none⟩ (.int .i64 x)) b cap (F.set j x):=by
 obtain⟨cur,h1,h2,h3,h4⟩:=h.row
 rw [setCell_eq_setRow W b j cur E _ _ h1]
 have hsz:(W.setRow b (cur.setIfInBounds j (.int .i64 x))).heap.size=W.heap.size:=by simp [World.setRow]
 refine⟨h.os,h.tape,h.output,by rw [hsz];exact h.size,h.drawn,h.lt,fun i hi hb=>?_,_,setRow_heap W b cur _ E _ h1,by simpa using h2,by simpa using h3,fun i y hi=>?_⟩
 ·rw [← h.other i hi hb]
  simp only [World.setRow,Array.getElem?_modify,if_neg (Ne.symm hb)]
 ·rw [Array.getElem?_setIfInBounds]
  rw [List.getElem?_set] at hi
  by_cases e:j=i
  ·subst e
   have hlt:j < cur.size:=by omega
   simp only [if_true,hlt,hj] at hi ⊢
   cases hi;rfl
  ·simp only [e,if_false] at hi ⊢
   exact h4 i y hi
theorem DW.alloc (h:DW E sz w W b cap F) (o:Obj):DW E sz w (W.alloc o) b cap F:=h.below (Quiet.alloc _ _)
theorem DW.sets:∀{vs:List Int} {j:Nat} {W:World} {F:List Int},DW E sz w W b cap F→j+vs.length≤F.length→DW E sz w (W.setCells b j (vs.map (Value.int .i64))) b cap (F.take j++vs++F.drop (j+vs.length))
 |[],j,W,F,h,_=>by simpa [World.setCells] using h
 |x::vs,j,W,F,h,hl=>by
  simp only [List.length_cons] at hl
  simp only [List.map_cons,World.setCells]
  have h1:=h.set (j:=j) (x:=x) (by omega)
  have h2:=DW.sets (vs:=vs) (j:=j+1) h1 (by simp;omega)
  have e:(F.set j x).take (j+1)++vs++(F.set j x).drop (j+1+vs.length)=F.take j++(x::vs)++F.drop (j+(x::vs).length):=by
   rw [List.take_succ_eq_append_getElem (by simp;omega),List.take_set_of_le (Nat.le_refl _),List.drop_set_of_lt (by omega)]
   simp [List.getElem_set_self,show j+1+vs.length=j+(vs.length+1) by omega]
  rw [e] at h2
  exact h2
theorem DW.pfx (h:DW E sz w W b cap F) {G:List Int} (hG:∃r,F=G++r):DW E sz w W b cap G:=by
 obtain⟨r,rfl⟩:=hG
 obtain⟨cur,h1,h2,h3,h4⟩:=h.row
 refine⟨h.os,h.tape,h.output,h.size,h.drawn,h.lt,h.other,cur,h1,h2,by simp at h3;omega,fun j x hj=>h4 j x ?_⟩
 rw [List.getElem?_append_left (List.getElem?_eq_some_iff.1 hj).1];exact hj
theorem DW.owns (h:DW E sz w W b cap F) {n base:Nat} (hn:F.length=n*sz) (hb:base≤b) (hc:n≤cap) (hm:cap≤maxLen):W.ownsRow base E sz (.slice (some ⟨b,0,none⟩) n cap) n (F.map (Value.int .i64)):=by
 obtain⟨cur,h1,h2,h3,h4⟩:=h.row
 refine⟨by simpa using hn,.inr ⟨b,cap,cur,rfl,hb,h1,hc,hm,h2,?_⟩⟩
 apply List.ext_getElem?
 intro j
 rw [List.getElem?_take,List.getElem?_map]
 by_cases hj:j < n*sz
 ·rw [if_pos hj]
  obtain⟨x,hx⟩:∃x,F[j]? =some x:=⟨F[j]'(by omega),by simp⟩
  rw [hx,Array.getElem?_toList,h4 j x hx];rfl
 ·rw [if_neg hj,List.getElem?_eq_none (by omega)];rfl
end
theorem Le {E sz n cap:Nat} {w:World} {b:Nat} {F:List Int} {base:Nat} (h:w.ownsRow base E sz (.slice (some ⟨b,0,none⟩) n cap) n (F.map (Value.int .i64))):DW E sz w w b cap F∧n≤cap∧cap≤maxLen∧F.length=n*sz∧base≤b:=by
 have hl:=h.1
 rcases h.2 with⟨h0,_⟩|⟨g,c,cur,h0,hb,h1,h2,h3,h4,h5⟩
 ·cases h0
 cases h0
 have hlen:F.length=n*sz:=by simpa using hl
 have hle:n*sz≤cap*sz:=Nat.mul_le_mul_right _ h2
 refine⟨⟨rfl,rfl,rfl,Nat.le_refl _,Nat.le_refl _,?_,fun _ _ _=>rfl,cur,h1,h4,by omega,fun j x hj=>?_⟩,h2,h3,hlen,hb⟩
 ·exact (Array.getElem?_eq_some_iff.1 h1).1
 ·have hj':=(List.getElem?_eq_some_iff.1 hj).1
  have:(F.map (Value.int .i64))[j]? =some (.int .i64 x):=by rw [List.getElem?_map,hj];rfl
  rw [← h5,List.getElem?_take,if_pos (by omega),Array.getElem?_toList] at this
  exact this
theorem DW.quiet {E sz:Nat} {w0 w W:World} {b cap:Nat} {F:List Int} (h:DW E sz w W b cap F) (q:Quiet w0 w) (hb:w0.heap.size≤b):Quiet w0 W:=
 ⟨h.os.trans q.os,h.tape.trans q.tape,h.output.trans q.output,Nat.le_trans q.size h.size,fun k hk _ _=>(h.other k (Nat.lt_of_lt_of_le hk q.size) (by omega)).trans (q.block k hk id),fun _ _ _ hb=>hb.elim,fun _ hb=>hb.elim,Nat.le_trans q.drawn h.drawn⟩
theorem Vu (k n:Nat):(Builtin.zeroCells (Array.replicate k (Value.int .i64 0)) n).toList=(List.replicate (n*k) (0:Int)).map (Value.int .i64):=by
 simp only [Builtin.zeroCells,Array.size_replicate,Array.toList_map,Array.toList_range,List.map_replicate]
 apply List.ext_getElem
 ·simp
 ·intro i h1 h2
  simp only [List.length_map,List.length_range] at h1
  have hk:0 < k:=Nat.pos_of_ne_zero fun e=>by subst e;simp at h1
  simp only [List.getElem_map,List.getElem_range,List.getElem_replicate]
  rw [getElem!_pos _ _ (by simpa using Nat.mod_lt _ hk)]
  simp
end Go.Proofs.YtmenphiahgkjkaaGreatDoor.Abs
