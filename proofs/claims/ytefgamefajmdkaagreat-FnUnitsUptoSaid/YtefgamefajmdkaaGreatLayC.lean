/- One contract from another: what a result is taken for. -/
import Derived.Test.YtefgamefajmdkaaGreatLayB
import Derived.Test.YtefgamefajmdkaaGreatPlain
set_option linter.all false
namespace Go.Proofs.YtefgamefajmdkaaGreat.Abs
open Go.RowKit
section
variable {P:Program} {T:Nat→Ty} {L f E:Nat} {args:List AR} {l:List AV}
end
open Go.RowKit
def Uy (S:List Nat):Option Nat→Bool
 |some d=> !S.contains d
 |none=>true
theorem Xk {S:List Nat} {d:Option Nat} (h:Uy S d=true) {i:Nat} (hi:i∈S):d≠some i:=by
 rintro rfl
 simp only [Uy,Bool.not_eq_true',List.contains_eq_mem,decide_eq_false_iff_not] at h
 exact h hi
def Held (S:List Nat) (a a':Act):Prop:=∀i∈S,a'.tmps.getD i undef=a.tmps.getD i undef
theorem Held.put {S:List Nat} {a a':Act} (h:Held S a a') {d:Option Nat} (hd:Uy S d=true) (v:Value):Held S a (a'.put d v):=by
 intro i hi
 rw [← h i hi]
 cases d with
 |none=>rfl
 |some d=>
  simp only [Act.put,Qi]
  rw [if_neg]
  rintro⟨rfl,_⟩
  exact Xk hd hi rfl
section
variable {P:Program} {S:List Nat} {a0:Act}
end
def yV (S:List Nat):Code→Bool
 | .skip| .ret| .exit _| .label _=>true
 | .seq a b=>yV S a&&yV S b
 | .cond _ a b=>yV S a&&yV S b
 | .region _ ops _=>ops.toList.all fun o=>Uy S o.dst
 |_=>false
def EK:Nat→Code→Code
 |0,_=>.skip
 |n+1,.seq a b=>.seq a (EK n b)
 |_+1,_=>.goto 0
def pG:Nat→Code→Code
 |0,c=>c
 |n+1,.seq _ b=>pG n b
 |_+1,_=>.skip
section
variable {P:Program} {T:Nat→Ty} {L:Nat} {w0:World} {I0:Bs} {S:List Nat}
theorem Held.refl {a:Act}:Held S a a:=fun _ _=>rfl
theorem Held.trans {a b c:Act} (h:Held S a b) (k:Held S b c):Held S a c:=fun i hi=>(k i hi).trans (h i hi)
def PhQ (T:Nat→Ty) (nt:Nat) (fr:Fr) (rs:List ResultVar) (e:AX) (s:St):Prop:=
 match e with
 | .normal=>s.n=nt∧Weak T s fr
 |e=>Dy T rs (.d (.bool true)) e s
def cx0 (I J O:Nat→Prop) (mt:Bool) (w:World):Cx:={ β:=fun _=>none,ω:=fun _=>none,I:=I,J:=J,O:=O,mt:=mt,base:=w.heap.size,who:=fun _=>none,lin:=fun _=>none,As:=fun _ _=>none }
def Vw (T:Nat→Ty) (I J O:Nat→Prop) (mt:Bool) (w:World) (L:Nat) (a:Act):List (Nat×SV)→Prop
 |[]=>True
 |(i,v)::r=>aj T (cx0 I J O mt w) (fun _=>none) (fun _=>none) w L v (a.tmps.getD i undef)∧Vw T I J O mt w L a r
end
open Go.RowKit
abbrev Fact:=Nat×Bool×AV
def Fct (L:Nat) (I:Nat→Prop) (w:World) (a:Act) (f:Fact):Prop:=
 match f.2.1 with
 |false=>aN I w L f.2.2 (a.tmps.getD f.1 undef)
 |true=>∃b,a.tmps.getD f.1 undef= .pointer (some ⟨b,0,none⟩)∧I b∧cZ I w L b f.2.2.cells 0
def LM (L:Nat) (I:Nat→Prop) (w:World) (a:Act) (l:List Fact):Prop:=∀f∈l,Fct L I w a f
def toD (f:Fact):Nat×SV:=(f.1,bif f.2.1 then .ref f.2.2 else .data f.2.2)
def toO (f:Fact):Nat×SV:=(f.1,bif f.2.1 then .dL f.2.2 else xE f.2.2)
def toS (f:Fact):Nat×SV:=(f.1,bif f.2.1 then .dL f.2.2.shape else .old f.2.2.shape)
def frV (f:Fact):SV:=bif f.2.1 then .box f.1 0 0 else .data f.2.2
def frS (l:List Fact):List (Nat×SV):=l.map fun f=>(f.1,frV f)
def frM:List Fact→List (Nat×List SV)
 |[]=>[]
 |(i,true,x)::r=>(i,x.cells.map .data)::frM r
 |(_,false,_)::r=>frM r
theorem LM.mono {L:Nat} {I I':Nat→Prop} {w w':World} {a a':Act} {l:List Fact} {S:List Nat} (h:LM L I w a l) (hI:∀b,I b→I' b) (hw:∀b o,I b→w'.cell? ⟨b,o,none⟩=w.cell? ⟨b,o,none⟩) (hh:Held S a a') (hS:∀f∈l,f.1∈S):LM L I' w' a' l:=by
 intro f hf
 have h:=h f hf
 unfold Fct at h ⊢
 rw [hh _ (hS f hf)]
 cases hb:f.2.1 with
 |false=>simp only [hb] at h ⊢;exact h.mono hI hw
 |true=>
  simp only [hb] at h ⊢
  obtain⟨b,h1,h2,h3⟩:=h
  exact⟨b,h1,hI b h2,cZ.mono hI hw b (fun o=>hw b o h2) _ _ h3⟩
theorem LM.append {L:Nat} {I:Nat→Prop} {w:World} {a:Act} {l m:List Fact} (h:LM L I w a l) (k:LM L I w a m):LM L I w a (l++m):=fun f hf=>(List.mem_append.1 hf).elim (h f) (k f)
section
variable {T:Nat→Ty} {L:Nat} {I J O:Nat→Prop} {mt:Bool} {w:World} {a:Act}
theorem Vw.append:∀{l m:List (Nat×SV)},Vw T I J O mt w L a l→Vw T I J O mt w L a m→Vw T I J O mt w L a (l++m)
 |[],_,_,h=>h
 |_::_,_,h,k=>⟨h.1,Vw.append h.2 k⟩
end
section
variable {P:Program} {T:Nat→Ty} {L:Nat} {w0:World} {I0:Bs}
section
variable {I I':Nat→Prop} {w:World}
end
def Ym (P:Program) (L f:Nat) (l l':List AV) (M:Int):Prop:=
 (∀(vs:Array Value) (w:World),(callFunc f vs).run P w= .ok (.enter f vs) w)∧
 ∀(G:Nat→Prop) (w:World) (v:Value),(∀b,G b→b < w.heap.size∧qR w b)→aN G w L (.sl l) v→Calls P f #[v,.int .i64 1] w fun e w'=>e= .returned (.int .i64 M)∧
  w'.os=w.os∧w'.tape=w.tape∧w'.output=w.output∧w'.heap.size=w.heap.size∧(∀k,(l≠[]→v.ownBlock≠some k)→w'.heap[k]? =w.heap[k]?)∧aN G w' L (.sl l') v
structure Yn (Yo Yp:Array Oper) (f ig im t2 t3 t4:Nat):Prop where
 l1:∃o1,Yo.toList= [o1]∧o1.guard=none∧o1.op= .assign (.const (.int .i64 1))∧o1.dst=some im
 l2:∃o2 o3 o4 o5 c,Yp.toList= [o2,o3,o4,o5]∧o2.guard=none∧o3.guard=none∧o4.guard=none∧o5.guard=none∧
  o2.op= .move (.tmp ig)∧o2.dst=some t2∧o3.op= .move (.tmp im)∧o3.dst=some t3∧o4.op= .call c∧c.callee= .value (.func f)∧c.args= #[.tmp t2,.tmp t3]∧o4.dst=some t4∧o5.op= .assign (.tmp t4)∧o5.dst=some im
structure aaY (P:Program) (T:Nat→Ty) (L:Nat) (fn:Func) (code:Code) (nA nB nC nD:Nat) (args:List AV) (lP lW lX lG:List Fact) (ig im:Nat) (lg lg':List AV) (M:Int) (f:Nat):Prop where
 nod:((lP++lW++lX++lG).map (·.1)).Nodup∧ig∉(lP++lW++lX++lG).map (·.1)
 flat:AV.uI lg=true
 known:∀x∈lP++lW,x.2.2.md false=true
 sc:∀x∈lG,x.2.1=false∧x.2.2.scalar=true
 kB:yV ((lP++lW).map (·.1)) (EK nB (pG nA code))=true
 kA:yV [] (EK nA code)=true
 kC:yV ((lP++lW++lX).map (·.1)) (EK nC (pG nB (pG nA code)))=true
 kD:yV (ig::(lP++lW++lG).map (·.1)) (EK nD (pG nC (pG nB (pG nA code))))=true
 pA:Co T (jZ P T L) L (EK nA code) (PhQ T fn.ntmps ⟨frS (lP++lW),frM (lP++lW),[]⟩ fn.results.toList) ((Fr.mk (bW 0 (args.map AR.d)) [] []).st fn.ntmps)
 pB:Co T (jZ P T L) L (EK nB (pG nA code)) (PhQ T fn.ntmps ⟨frS lX,frM lX,[]⟩ fn.results.toList) ((Fr.mk (lP.map toO) [] []).st fn.ntmps)
 pC:Co T (jZ P T L) L (EK nC (pG nB (pG nA code))) (PhQ T fn.ntmps ⟨(ig,.fr lg)::frS lG,frM lG,[]⟩ fn.results.toList) ((Fr.mk ((lP++lW++lX).map toD) [] []).st fn.ntmps)
 pD:Co T (jZ P T L) L (EK nD (pG nC (pG nB (pG nA code)))) (PhQ T fn.ntmps ⟨[],[],[]⟩ fn.results.toList) ((Fr.mk (((ig,false,.sl lg)::(lW++lG)).map toD++lX.map toS) [] []).st fn.ntmps)
 marks:Ym P L f lg lg' M
 pE:∃Yo Yp id1 id2 t2 t3 t4 rest,pG nD (pG nC (pG nB (pG nA code)))= .seq (.region id1 Yo false) (.seq (.region id2 Yp false) rest)∧Yn Yo Yp f ig im t2 t3 t4∧
  (im≠ig∧t2≠t3∧t2≠im∧t3≠im∧t4≠im)∧(∀i∈ig::(lP++lW++lG).map (·.1),i≠im∧i≠t2∧i≠t3∧i≠t4)∧(im < fn.ntmps∧t2 < fn.ntmps∧t3 < fn.ntmps∧t4 < fn.ntmps)∧gU rest=true∧
  Co T (jZ P T L) L rest (Dy T fn.results.toList (.d (.bool true))) ((Fr.mk ((im,.data (.int .i64 M))::((ig,false,.sl lg')::(lP++lW++lG)).map toD) [] []).st fn.ntmps)
theorem Below.wide {N M:Nat} {a b:World} (h:Below N a b) (hM:M≤N):Below M a b:=h.mono hM
theorem LM.sub {L:Nat} {I:Nat→Prop} {w:World} {a:Act} {l m:List Fact} (h:LM L I w a l) (hs:∀f∈m,f∈l):LM L I w a m:=fun f hf=>h f (hs f hf)
end
end Go.Proofs.YtefgamefajmdkaaGreat.Abs
